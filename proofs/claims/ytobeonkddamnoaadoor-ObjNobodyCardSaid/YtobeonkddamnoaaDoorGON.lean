/- Each function of the group ON does what its plain function says, and changes nothing that was there; proved by walking its code. No condition. -/
import Derived.Test.YtobeonkddamnoaaDoorQw
import Derived.Test.YtobeonkddamnoaaDoorMON
import Derived.Test.YtobeonkddamnoaaDoorGON0
import Derived.Test.YtobeonkddamnoaaDoorGON1
import Derived.Test.YtobeonkddamnoaaDoorGON2
import Derived.Test.YtobeonkddamnoaaDoorGON3
namespace Go.Proofs.YtobeonkddamnoaaDoor.C
open Go.RowKit Go.Proofs.YtobeonkddamnoaaDoorW.PrintWords Go.Proofs.YtobeonkddamnoaaDoorW.PrintLast Go.Proofs.YtobeonkddamnoaaDoor.Q Go.Proofs.YtobeonkddamnoaaDoor.M
set_option linter.unusedVariables false
set_option linter.unusedSimpArgs false
set_option maxHeartbeats 30000000 in
set_option maxRecDepth 100000 in
theorem quitrentlaw11_begun.calls (k : Nat)  (r : Bool) (w : World)  (HGl0 : Aside0 (Gl 0 #[.int .i64 0, .int .i64 0, .int .i64 0, .int .i64 0, .int .i64 0] (fps []) w)) (HS : Aside0 (Sep (fps []) w [] w)) (H : Aside0 (quitrentlaw11_begun.f k = some r)) :
    Calls Tryd.prog 42 #[] w fun e w' => e = .returned (.bool r) ∧ Sep (fps []) w [] w' := by
  unfold quitrentlaw11_begun.f at H
  go_enter Tryd.func42, Tryd.ntmps42
  go_wp2_with fail
  obtain ⟨t3235, HA3236, H⟩ := bind_some H
  rcases t3235 with t3237 | t3238
  · have H := sum_l H
    refine (quitrentlaw11_opened.calls _ 6 16 1 1 (.inl t3237) _ ⟨HGl0.out.pass (l := []) HS.out⟩ ⟨Sep.start _⟩ HA3236).mono ?_
    rintro e_ w3239 ⟨rfl, hS⟩
    replace HS : Aside0 (Sep (fps []) w [] w3239) := ⟨HS.out.call hS⟩
    clear hS
    by_cases c3240 : t3237 = true
    · have H := if_yes c3240 H
      have c3240b0 : t3237 = true := c3240
      have c3240b1 : (!t3237) = false := by rw [c3240b0]; rfl
      try rw [c3240b1]
      clear c3240
      go_wp2_with fail
      obtain ⟨t3241, HA3242, H⟩ := bind_some H
      refine (obj_Make_nil.calls _ 2 1 t3241 _ ⟨HGl0.out.pass (l := []) HS.out⟩ ⟨Sep.start _⟩ HA3242).mono ?_
      rintro e_ w3243 ⟨rfl, hS⟩
      replace HS : Aside0 (Sep (fps []) w [] w3243) := ⟨HS.out.call hS⟩
      clear hS
      go_wp2_with fail
      obtain ⟨t3244, HA3245, H⟩ := bind_some H
      refine (obj_Make_nil.calls _ 0 20 t3244 _ ⟨HGl0.out.pass (l := []) HS.out⟩ ⟨Sep.start _⟩ HA3245).mono ?_
      rintro e_ w3246 ⟨rfl, hS⟩
      replace HS : Aside0 (Sep (fps []) w [] w3246) := ⟨HS.out.call hS⟩
      clear hS
      go_wp2_with fail
      obtain ⟨t3247, HA3248, H⟩ := bind_some H
      refine (obj_Make_nil.calls _ 0 0 t3247 _ ⟨HGl0.out.pass (l := []) HS.out⟩ ⟨Sep.start _⟩ HA3248).mono ?_
      rintro e_ w3249 ⟨rfl, hS⟩
      replace HS : Aside0 (Sep (fps []) w [] w3249) := ⟨HS.out.call hS⟩
      clear hS
      by_cases c3250 : t3241.1 = 1
      · have H := if_yes c3250 H
        have c3250b0 : (t3241.1 == 1) = true := beq_iff_eq.mpr c3250
        have c3250b1 : (t3241.1 != 1) = false := bne_eq_false_iff_eq.mpr c3250
        clear c3250
        by_cases c3251 : t3244.1 = 2
        · have H := if_yes c3251 H
          have c3251b0 : (t3244.1 == 2) = true := beq_iff_eq.mpr c3251
          have c3251b1 : (t3244.1 != 2) = false := bne_eq_false_iff_eq.mpr c3251
          clear c3251
          by_cases c3252 : t3247.1 = 5
          · have H := if_yes c3252 H
            have c3252b0 : (t3247.1 == 5) = true := beq_iff_eq.mpr c3252
            have c3252b1 : (t3247.1 != 5) = false := bne_eq_false_iff_eq.mpr c3252
            clear c3252
            by_cases c3253 : t3241.2 = 0
            · have H := if_yes c3253 H
              have c3253b0 : (t3241.2 == 0) = true := beq_iff_eq.mpr c3253
              have c3253b1 : (t3241.2 != 0) = false := bne_eq_false_iff_eq.mpr c3253
              clear c3253
              by_cases c3254 : t3244.2 = 0
              · have H := if_yes c3254 H
                have c3254b0 : (t3244.2 == 0) = true := beq_iff_eq.mpr c3254
                have c3254b1 : (t3244.2 != 0) = false := bne_eq_false_iff_eq.mpr c3254
                clear c3254
                by_cases c3255 : t3247.2 = 0
                · have H := if_yes c3255 H
                  have c3255b0 : (t3247.2 == 0) = true := beq_iff_eq.mpr c3255
                  have c3255b1 : (t3247.2 != 0) = false := bne_eq_false_iff_eq.mpr c3255
                  clear c3255
                  go_wp2_with fail
                  obtain ⟨t3256, HA3257, H⟩ := bind_some H
                  refine (obj_Blocks_nil.calls _ 2 t3256 _ ⟨HGl0.out.pass (l := []) HS.out⟩ ⟨Sep.start _⟩ HA3257).mono ?_
                  rintro e_ w3258 ⟨rfl, hS⟩
                  replace HS : Aside0 (Sep (fps []) w [] w3258) := ⟨HS.out.call hS⟩
                  clear hS
                  by_cases c3259 : t3256 = 3
                  · have H := if_yes c3259 H
                    have c3259b0 : (t3256 == 3) = true := beq_iff_eq.mpr c3259
                    have c3259b1 : (t3256 != 3) = false := bne_eq_false_iff_eq.mpr c3259
                    clear c3259
                    go_wp2_with fail
                    obtain ⟨t3260, HA3261, H⟩ := bind_some H
                    refine (obj_SetPtr_nil.calls _ 1 1 5 t3260 _ ⟨HGl0.out.pass (l := []) HS.out⟩ ⟨Sep.start _⟩ HA3261).mono ?_
                    rintro e_ w3262 ⟨rfl, hS⟩
                    replace HS : Aside0 (Sep (fps []) w [] w3262) := ⟨HS.out.call hS⟩
                    clear hS
                    by_cases c3263 : t3260 = 0
                    · have H := if_yes c3263 H
                      have c3263b0 : (t3260 == 0) = true := beq_iff_eq.mpr c3263
                      have c3263b1 : (t3260 != 0) = false := bne_eq_false_iff_eq.mpr c3263
                      clear c3263
                      go_wp2_with fail
                      obtain ⟨t3264, HA3265, H⟩ := bind_some H
                      refine (obj_Ptr_nil.calls _ 1 1 t3264 _ ⟨HGl0.out.pass (l := []) HS.out⟩ ⟨Sep.start _⟩ HA3265).mono ?_
                      rintro e_ w3266 ⟨rfl, hS⟩
                      replace HS : Aside0 (Sep (fps []) w [] w3266) := ⟨HS.out.call hS⟩
                      clear hS
                      by_cases c3267 : t3264.1 = 5
                      · have H := if_yes c3267 H
                        have c3267b0 : (t3264.1 == 5) = true := beq_iff_eq.mpr c3267
                        have c3267b1 : (t3264.1 != 5) = false := bne_eq_false_iff_eq.mpr c3267
                        clear c3267
                        by_cases c3268 : t3264.2 = 0
                        · have H := if_yes c3268 H
                          have c3268b0 : (t3264.2 == 0) = true := beq_iff_eq.mpr c3268
                          have c3268b1 : (t3264.2 != 0) = false := bne_eq_false_iff_eq.mpr c3268
                          clear c3268
                          go_wp2_with fail
                          obtain ⟨t3269, HA3270, H⟩ := bind_some H
                          refine (obj_Shed_nil.calls _ 2 1 t3269 _ ⟨HGl0.out.pass (l := []) HS.out⟩ ⟨Sep.start _⟩ HA3270).mono ?_
                          rintro e_ w3271 ⟨rfl, hS⟩
                          replace HS : Aside0 (Sep (fps []) w [] w3271) := ⟨HS.out.call hS⟩
                          clear hS
                          by_cases c3272 : t3269 = true
                          · have H := if_yes c3272 H
                            have c3272b0 : t3269 = true := c3272
                            have c3272b1 : (!t3269) = false := by rw [c3272b0]; rfl
                            clear c3272
                            go_wp2_with fail
                            obtain ⟨t3273, HA3274, H⟩ := bind_some H
                            refine (obj_Shed_nil.calls _ 2 1 t3273 _ ⟨HGl0.out.pass (l := []) HS.out⟩ ⟨Sep.start _⟩ HA3274).mono ?_
                            rintro e_ w3275 ⟨rfl, hS⟩
                            replace HS : Aside0 (Sep (fps []) w [] w3275) := ⟨HS.out.call hS⟩
                            clear hS
                            by_cases c3276 : t3273 = true
                            · have H := if_yes c3276 H
                              have c3276b0 : t3273 = true := c3276
                              have c3276b1 : (!t3273) = false := by rw [c3276b0]; rfl
                              try rw [c3276b1]
                              clear c3276
                              go_wp2_with fail
                              go_ret
                              rw [← some_eq H]
                              exact ⟨(by first | rfl | (simp [IntKind.wrap_u32]; done)), HS.out⟩
                            · have H := if_no c3276 H
                              have c3276b0 : t3273 = false := by simpa using c3276
                              have c3276b1 : (!t3273) = true := by rw [c3276b0]; rfl
                              try rw [c3276b1]
                              clear c3276
                              go_wp2_with fail
                              obtain ⟨t3387, HA3388, H⟩ := bind_some H
                              refine (pool_List_nil.calls _ t3387 _ ⟨HGl0.out.pass (l := []) HS.out⟩ ⟨Sep.start _⟩ HA3388).mono ?_
                              rintro e_ w3389 ⟨A3391, m3392, n3393, rfl, hS⟩
                              replace HS : Aside0 (Sep (fps []) w [r13 A3391 m3392 n3393 t3387] w3389) := ⟨HS.out.call hS⟩
                              clear hS
                              obtain rfl := (row_len (HS.out.at0)).symm
                              go_wp2_with (first | ((with_reducible refine gate_dst (N := 87) rfl ?_); refine slice_on (n := 2) ?hg (N := 87) ?hd (cs := #[.int .i64 3, .int .i64 5]) (t := 3) ?hr ?_; (case hd => rfl); (case hg => rfl); (case hr => first | (go_simp; done) | (go_simp; rfl)); intro g3395 hg w3396 hbox hb; replace HS : Aside0 (Sep (fps []) w [r13 A3391 t3387.length n3393 t3387, b2 g3395 3 5] w3396) := ⟨HS.out.box hg hbox hb⟩; clear hg hbox hb))
                              obtain ⟨t3437, HA3438, H⟩ := bind_some H
                              refine (quitrentref01_Ints.calls _ t3387 [3, 5] A3391 n3393 (some ⟨g3395, 0, none⟩) 2 t3437 _ ⟨Rd.ownI (l := []) HS.out 0 rfl⟩ ⟨Rd.lit (l := []) (xs := [3, 5]) HS.out 1 rfl (by simp)⟩ ⟨HGl0.out.pass (l := []) HS.out⟩ ⟨Sep.start _⟩ HA3438).mono ?_
                              rintro e_ w3439 ⟨rfl, hS⟩
                              replace HS : Aside0 (Sep (fps []) w [r13 A3391 t3387.length n3393 t3387, b2 g3395 3 5] w3439) := ⟨HS.out.call hS⟩
                              clear hS
                              replace HS : Aside0 (Sep (fps []) w [] w3439) := ⟨HS.out.sub (.cons _ (.cons _ .slnil))⟩
                              go_wp2_with fail
                              go_ret
                              rw [← some_eq H]
                              exact ⟨(by first | rfl | (simp [IntKind.wrap_u32]; done)), HS.out⟩
                          · have H := if_no c3272 H
                            have c3272b0 : t3269 = false := by simpa using c3272
                            have c3272b1 : (!t3269) = true := by rw [c3272b0]; rfl
                            clear c3272
                            go_wp2_with fail
                            go_ret
                            rw [← some_eq H]
                            exact ⟨(by first | rfl | (simp [IntKind.wrap_u32]; done)), HS.out⟩
                        · have H := if_no c3268 H
                          have c3268b0 : (t3264.2 == 0) = false := beq_eq_false_iff_ne.mpr c3268
                          have c3268b1 : (t3264.2 != 0) = true := bne_iff_ne.mpr c3268
                          clear c3268
                          go_wp2_with fail
                          go_ret
                          rw [← some_eq H]
                          exact ⟨(by first | rfl | (simp [IntKind.wrap_u32]; done)), HS.out⟩
                      · have H := if_no c3267 H
                        have c3267b0 : (t3264.1 == 5) = false := beq_eq_false_iff_ne.mpr c3267
                        have c3267b1 : (t3264.1 != 5) = true := bne_iff_ne.mpr c3267
                        clear c3267
                        go_wp2_with fail
                        go_ret
                        rw [← some_eq H]
                        exact ⟨(by first | rfl | (simp [IntKind.wrap_u32]; done)), HS.out⟩
                    · have H := if_no c3263 H
                      have c3263b0 : (t3260 == 0) = false := beq_eq_false_iff_ne.mpr c3263
                      have c3263b1 : (t3260 != 0) = true := bne_iff_ne.mpr c3263
                      clear c3263
                      go_wp2_with fail
                      go_ret
                      rw [← some_eq H]
                      exact ⟨(by first | rfl | (simp [IntKind.wrap_u32]; done)), HS.out⟩
                  · have H := if_no c3259 H
                    have c3259b0 : (t3256 == 3) = false := beq_eq_false_iff_ne.mpr c3259
                    have c3259b1 : (t3256 != 3) = true := bne_iff_ne.mpr c3259
                    clear c3259
                    go_wp2_with fail
                    go_ret
                    rw [← some_eq H]
                    exact ⟨(by first | rfl | (simp [IntKind.wrap_u32]; done)), HS.out⟩
                · have H := if_no c3255 H
                  have c3255b0 : (t3247.2 == 0) = false := beq_eq_false_iff_ne.mpr c3255
                  have c3255b1 : (t3247.2 != 0) = true := bne_iff_ne.mpr c3255
                  clear c3255
                  go_wp2_with fail
                  go_ret
                  rw [← some_eq H]
                  exact ⟨(by first | rfl | (simp [IntKind.wrap_u32]; done)), HS.out⟩
              · have H := if_no c3254 H
                have c3254b0 : (t3244.2 == 0) = false := beq_eq_false_iff_ne.mpr c3254
                have c3254b1 : (t3244.2 != 0) = true := bne_iff_ne.mpr c3254
                clear c3254
                go_wp2_with fail
                go_ret
                rw [← some_eq H]
                exact ⟨(by first | rfl | (simp [IntKind.wrap_u32]; done)), HS.out⟩
            · have H := if_no c3253 H
              have c3253b0 : (t3241.2 == 0) = false := beq_eq_false_iff_ne.mpr c3253
              have c3253b1 : (t3241.2 != 0) = true := bne_iff_ne.mpr c3253
              clear c3253
              go_wp2_with fail
              go_ret
              rw [← some_eq H]
              exact ⟨(by first | rfl | (simp [IntKind.wrap_u32]; done)), HS.out⟩
          · have H := if_no c3252 H
            have c3252b0 : (t3247.1 == 5) = false := beq_eq_false_iff_ne.mpr c3252
            have c3252b1 : (t3247.1 != 5) = true := bne_iff_ne.mpr c3252
            clear c3252
            go_wp2_with fail
            go_ret
            rw [← some_eq H]
            exact ⟨(by first | rfl | (simp [IntKind.wrap_u32]; done)), HS.out⟩
        · have H := if_no c3251 H
          have c3251b0 : (t3244.1 == 2) = false := beq_eq_false_iff_ne.mpr c3251
          have c3251b1 : (t3244.1 != 2) = true := bne_iff_ne.mpr c3251
          clear c3251
          go_wp2_with fail
          go_ret
          rw [← some_eq H]
          exact ⟨(by first | rfl | (simp [IntKind.wrap_u32]; done)), HS.out⟩
      · have H := if_no c3250 H
        have c3250b0 : (t3241.1 == 1) = false := beq_eq_false_iff_ne.mpr c3250
        have c3250b1 : (t3241.1 != 1) = true := bne_iff_ne.mpr c3250
        clear c3250
        go_wp2_with fail
        go_ret
        rw [← some_eq H]
        exact ⟨(by first | rfl | (simp [IntKind.wrap_u32]; done)), HS.out⟩
    · have H := if_no c3240 H
      have c3240b0 : t3237 = false := by simpa using c3240
      have c3240b1 : (!t3237) = true := by rw [c3240b0]; rfl
      try rw [c3240b1]
      clear c3240
      go_wp2_with fail
      go_ret
      rw [← some_eq H]
      exact ⟨(by first | rfl | (simp [IntKind.wrap_u32]; done)), HS.out⟩
  · have H := sum_r H
    refine (quitrentlaw11_opened.calls _ 6 16 1 1 (.inr t3238) _ ⟨HGl0.out.pass (l := []) HS.out⟩ ⟨Sep.start _⟩ HA3236).mono ?_
    rintro e_ w3440 ⟨g3444, rfl, g3445, A3446, m3447, n3448, hS⟩
    replace HS : Aside0 (Sep (fps []) w [b21 g3444 g3445 t3238.2.1 t3238.2.2.1 t3238.2.2.2.1 t3238.2.2.2.2.1, b20 g3445 A3446 m3447 n3448 t3238.2.2.2.2.2.1, r7 A3446 m3447 n3448 t3238.2.2.2.2.2.2] w3440) := ⟨HS.out.call hS⟩
    clear hS
    obtain rfl := (row_len (HS.out.at2)).symm
    by_cases c3450 : t3238.1 = true
    · have H := if_yes c3450 H
      have c3450b0 : t3238.1 = true := c3450
      have c3450b1 : (!t3238.1) = false := by rw [c3450b0]; rfl
      try rw [c3450b1]
      clear c3450
      go_wp2_with fail
      obtain ⟨t3241, HA3965, H⟩ := bind_some H
      refine (obj_Make.calls _ t3238.2.2.2.2.2.2 t3238.2.2.2.2.2.1 t3238.2.1 t3238.2.2.1 t3238.2.2.2.1 t3238.2.2.2.2.1 2 1 g3444 g3445 A3446 ((t3238.2.2.2.2.2.2).length) n3448 t3241 _ ⟨HGl0.out.pass HS.out⟩ ⟨HS.out.begin⟩ HA3965).mono ?_
      rintro e_ w3966 ⟨rfl, hS⟩
      replace HS : Aside0 (Sep (fps []) w [b21 g3444 g3445 t3238.2.1 t3238.2.2.1 t3238.2.2.2.1 t3238.2.2.2.2.1, b20 g3445 A3446 ((t3238.2.2.2.2.2.2).length) n3448 t3241.2.2.1, r7 A3446 ((t3238.2.2.2.2.2.2).length) n3448 t3241.2.2.2] w3966) := ⟨HS.out.call hS⟩
      clear hS
      go_wp2_with fail
      obtain ⟨t3244, HA3967, H⟩ := bind_some H
      refine (obj_Make.calls _ t3241.2.2.2 t3241.2.2.1 t3238.2.1 t3238.2.2.1 t3238.2.2.2.1 t3238.2.2.2.2.1 0 20 g3444 g3445 A3446 ((t3238.2.2.2.2.2.2).length) n3448 t3244 _ ⟨HGl0.out.pass HS.out⟩ ⟨HS.out.begin⟩ HA3967).mono ?_
      rintro e_ w3968 ⟨rfl, hS⟩
      replace HS : Aside0 (Sep (fps []) w [b21 g3444 g3445 t3238.2.1 t3238.2.2.1 t3238.2.2.2.1 t3238.2.2.2.2.1, b20 g3445 A3446 ((t3238.2.2.2.2.2.2).length) n3448 t3244.2.2.1, r7 A3446 ((t3238.2.2.2.2.2.2).length) n3448 t3244.2.2.2] w3968) := ⟨HS.out.call hS⟩
      clear hS
      go_wp2_with fail
      obtain ⟨t3247, HA3969, H⟩ := bind_some H
      refine (obj_Make.calls _ t3244.2.2.2 t3244.2.2.1 t3238.2.1 t3238.2.2.1 t3238.2.2.2.1 t3238.2.2.2.2.1 0 0 g3444 g3445 A3446 ((t3238.2.2.2.2.2.2).length) n3448 t3247 _ ⟨HGl0.out.pass HS.out⟩ ⟨HS.out.begin⟩ HA3969).mono ?_
      rintro e_ w3970 ⟨rfl, hS⟩
      replace HS : Aside0 (Sep (fps []) w [b21 g3444 g3445 t3238.2.1 t3238.2.2.1 t3238.2.2.2.1 t3238.2.2.2.2.1, b20 g3445 A3446 ((t3238.2.2.2.2.2.2).length) n3448 t3247.2.2.1, r7 A3446 ((t3238.2.2.2.2.2.2).length) n3448 t3247.2.2.2] w3970) := ⟨HS.out.call hS⟩
      clear hS
      by_cases c3971 : t3241.1 = 1
      · have H := if_yes c3971 H
        have c3971b0 : (t3241.1 == 1) = true := beq_iff_eq.mpr c3971
        have c3971b1 : (t3241.1 != 1) = false := bne_eq_false_iff_eq.mpr c3971
        clear c3971
        by_cases c3972 : t3244.1 = 2
        · have H := if_yes c3972 H
          have c3972b0 : (t3244.1 == 2) = true := beq_iff_eq.mpr c3972
          have c3972b1 : (t3244.1 != 2) = false := bne_eq_false_iff_eq.mpr c3972
          clear c3972
          by_cases c3973 : t3247.1 = 5
          · have H := if_yes c3973 H
            have c3973b0 : (t3247.1 == 5) = true := beq_iff_eq.mpr c3973
            have c3973b1 : (t3247.1 != 5) = false := bne_eq_false_iff_eq.mpr c3973
            clear c3973
            by_cases c3974 : t3241.2.1 = 0
            · have H := if_yes c3974 H
              have c3974b0 : (t3241.2.1 == 0) = true := beq_iff_eq.mpr c3974
              have c3974b1 : (t3241.2.1 != 0) = false := bne_eq_false_iff_eq.mpr c3974
              clear c3974
              by_cases c3975 : t3244.2.1 = 0
              · have H := if_yes c3975 H
                have c3975b0 : (t3244.2.1 == 0) = true := beq_iff_eq.mpr c3975
                have c3975b1 : (t3244.2.1 != 0) = false := bne_eq_false_iff_eq.mpr c3975
                clear c3975
                by_cases c3976 : t3247.2.1 = 0
                · have H := if_yes c3976 H
                  have c3976b0 : (t3247.2.1 == 0) = true := beq_iff_eq.mpr c3976
                  have c3976b1 : (t3247.2.1 != 0) = false := bne_eq_false_iff_eq.mpr c3976
                  clear c3976
                  go_wp2_with fail
                  obtain ⟨t3256, HA4116, H⟩ := bind_some H
                  refine (obj_Blocks.calls _ t3247.2.2.2 t3247.2.2.1 t3238.2.1 t3238.2.2.1 t3238.2.2.2.1 t3238.2.2.2.2.1 2 g3444 g3445 A3446 ((t3238.2.2.2.2.2.2).length) n3448 t3256 _ ⟨HGl0.out.pass HS.out⟩ ⟨HS.out.begin⟩ HA4116).mono ?_
                  rintro e_ w4117 ⟨rfl, hS⟩
                  replace HS : Aside0 (Sep (fps []) w [b21 g3444 g3445 t3238.2.1 t3238.2.2.1 t3238.2.2.2.1 t3238.2.2.2.2.1, b20 g3445 A3446 ((t3238.2.2.2.2.2.2).length) n3448 t3256.2, r7 A3446 ((t3238.2.2.2.2.2.2).length) n3448 t3247.2.2.2] w4117) := ⟨HS.out.call hS⟩
                  clear hS
                  by_cases c4118 : t3256.1 = 3
                  · have H := if_yes c4118 H
                    have c4118b0 : (t3256.1 == 3) = true := beq_iff_eq.mpr c4118
                    have c4118b1 : (t3256.1 != 3) = false := bne_eq_false_iff_eq.mpr c4118
                    clear c4118
                    go_wp2_with fail
                    obtain ⟨t3260, HA4356, H⟩ := bind_some H
                    refine (obj_SetPtr.calls _ t3247.2.2.2 t3256.2 t3238.2.1 t3238.2.2.1 t3238.2.2.2.1 t3238.2.2.2.2.1 1 1 5 g3444 g3445 A3446 ((t3238.2.2.2.2.2.2).length) n3448 t3260 _ ⟨HGl0.out.pass HS.out⟩ ⟨HS.out.begin⟩ HA4356).mono ?_
                    rintro e_ w4357 ⟨rfl, hS⟩
                    replace HS : Aside0 (Sep (fps []) w [b21 g3444 g3445 t3238.2.1 t3238.2.2.1 t3238.2.2.2.1 t3238.2.2.2.2.1, b20 g3445 A3446 ((t3238.2.2.2.2.2.2).length) n3448 t3260.2.1, r7 A3446 ((t3238.2.2.2.2.2.2).length) n3448 t3260.2.2] w4357) := ⟨HS.out.call hS⟩
                    clear hS
                    by_cases c4358 : t3260.1 = 0
                    · have H := if_yes c4358 H
                      have c4358b0 : (t3260.1 == 0) = true := beq_iff_eq.mpr c4358
                      have c4358b1 : (t3260.1 != 0) = false := bne_eq_false_iff_eq.mpr c4358
                      clear c4358
                      go_wp2_with fail
                      obtain ⟨t3264, HA4410, H⟩ := bind_some H
                      refine (obj_Ptr.calls _ t3260.2.2 t3260.2.1 t3238.2.1 t3238.2.2.1 t3238.2.2.2.1 t3238.2.2.2.2.1 1 1 g3444 g3445 A3446 ((t3238.2.2.2.2.2.2).length) n3448 t3264 _ ⟨HGl0.out.pass HS.out⟩ ⟨HS.out.begin⟩ HA4410).mono ?_
                      rintro e_ w4411 ⟨rfl, hS⟩
                      replace HS : Aside0 (Sep (fps []) w [b21 g3444 g3445 t3238.2.1 t3238.2.2.1 t3238.2.2.2.1 t3238.2.2.2.2.1, b20 g3445 A3446 ((t3238.2.2.2.2.2.2).length) n3448 t3264.2.2, r7 A3446 ((t3238.2.2.2.2.2.2).length) n3448 t3260.2.2] w4411) := ⟨HS.out.call hS⟩
                      clear hS
                      by_cases c4412 : t3264.1 = 5
                      · have H := if_yes c4412 H
                        have c4412b0 : (t3264.1 == 5) = true := beq_iff_eq.mpr c4412
                        have c4412b1 : (t3264.1 != 5) = false := bne_eq_false_iff_eq.mpr c4412
                        clear c4412
                        by_cases c4413 : t3264.2.1 = 0
                        · have H := if_yes c4413 H
                          have c4413b0 : (t3264.2.1 == 0) = true := beq_iff_eq.mpr c4413
                          have c4413b1 : (t3264.2.1 != 0) = false := bne_eq_false_iff_eq.mpr c4413
                          clear c4413
                          go_wp2_with fail
                          obtain ⟨t3269, HA4716, H⟩ := bind_some H
                          refine (obj_Shed.calls _ t3260.2.2 t3264.2.2 t3238.2.1 t3238.2.2.1 t3238.2.2.2.1 t3238.2.2.2.2.1 2 1 g3444 g3445 A3446 ((t3238.2.2.2.2.2.2).length) n3448 t3269 _ ⟨HGl0.out.pass HS.out⟩ ⟨HS.out.begin⟩ HA4716).mono ?_
                          rintro e_ w4717 ⟨rfl, hS⟩
                          replace HS : Aside0 (Sep (fps []) w [b21 g3444 g3445 t3238.2.1 t3238.2.2.1 t3238.2.2.2.1 t3238.2.2.2.2.1, b20 g3445 A3446 ((t3238.2.2.2.2.2.2).length) n3448 t3269.2.1, r7 A3446 ((t3238.2.2.2.2.2.2).length) n3448 t3269.2.2] w4717) := ⟨HS.out.call hS⟩
                          clear hS
                          by_cases c4718 : t3269.1 = true
                          · have H := if_yes c4718 H
                            have c4718b0 : t3269.1 = true := c4718
                            have c4718b1 : (!t3269.1) = false := by rw [c4718b0]; rfl
                            clear c4718
                            go_wp2_with fail
                            obtain ⟨t3273, HA4719, H⟩ := bind_some H
                            refine (obj_Shed.calls _ t3269.2.2 t3269.2.1 t3238.2.1 t3238.2.2.1 t3238.2.2.2.1 t3238.2.2.2.2.1 2 1 g3444 g3445 A3446 ((t3238.2.2.2.2.2.2).length) n3448 t3273 _ ⟨HGl0.out.pass HS.out⟩ ⟨HS.out.begin⟩ HA4719).mono ?_
                            rintro e_ w4720 ⟨rfl, hS⟩
                            replace HS : Aside0 (Sep (fps []) w [b21 g3444 g3445 t3238.2.1 t3238.2.2.1 t3238.2.2.2.1 t3238.2.2.2.2.1, b20 g3445 A3446 ((t3238.2.2.2.2.2.2).length) n3448 t3273.2.1, r7 A3446 ((t3238.2.2.2.2.2.2).length) n3448 t3273.2.2] w4720) := ⟨HS.out.call hS⟩
                            clear hS
                            by_cases c4721 : t3273.1 = true
                            · have H := if_yes c4721 H
                              have c4721b0 : t3273.1 = true := c4721
                              have c4721b1 : (!t3273.1) = false := by rw [c4721b0]; rfl
                              try rw [c4721b1]
                              clear c4721
                              replace HS : Aside0 (Sep (fps []) w [] w4720) := ⟨HS.out.sub (.cons _ (.cons _ (.cons _ .slnil)))⟩
                              go_wp2_with fail
                              go_ret
                              rw [← some_eq H]
                              exact ⟨(by first | rfl | (simp [IntKind.wrap_u32]; done)), HS.out⟩
                            · have H := if_no c4721 H
                              have c4721b0 : t3273.1 = false := by simpa using c4721
                              have c4721b1 : (!t3273.1) = true := by rw [c4721b0]; rfl
                              try rw [c4721b1]
                              clear c4721
                              go_wp2_with fail
                              obtain ⟨t3387, HA4923, H⟩ := bind_some H
                              refine (pool_List.calls _ t3273.2.2 t3273.2.1 t3238.2.1 t3238.2.2.1 t3238.2.2.2.1 t3238.2.2.2.2.1 g3444 g3445 A3446 ((t3238.2.2.2.2.2.2).length) n3448 t3387 _ ⟨HGl0.out.pass HS.out⟩ ⟨HS.out.begin⟩ HA4923).mono ?_
                              rintro e_ w4924 ⟨A4926, m4927, n4928, rfl, hS⟩
                              replace HS : Aside0 (Sep (fps []) w [b21 g3444 g3445 t3238.2.1 t3238.2.2.1 t3238.2.2.2.1 t3238.2.2.2.2.1, b20 g3445 A3446 ((t3238.2.2.2.2.2.2).length) n3448 t3273.2.1, r7 A3446 ((t3238.2.2.2.2.2.2).length) n3448 t3273.2.2, r13 A4926 m4927 n4928 t3387] w4924) := ⟨HS.out.call hS⟩
                              clear hS
                              obtain rfl := (row_len (HS.out.at3)).symm
                              go_wp2_with (first | ((with_reducible refine gate_dst (N := 87) rfl ?_); refine slice_on (n := 2) ?hg (N := 87) ?hd (cs := #[.int .i64 3, .int .i64 5]) (t := 3) ?hr ?_; (case hd => rfl); (case hg => rfl); (case hr => first | (go_simp; done) | (go_simp; rfl)); intro g4930 hg w4931 hbox hb; replace HS : Aside0 (Sep (fps []) w [b21 g3444 g3445 t3238.2.1 t3238.2.2.1 t3238.2.2.2.1 t3238.2.2.2.2.1, b20 g3445 A3446 ((t3238.2.2.2.2.2.2).length) n3448 t3273.2.1, r7 A3446 ((t3238.2.2.2.2.2.2).length) n3448 t3273.2.2, r13 A4926 t3387.length n4928 t3387, b2 g4930 3 5] w4931) := ⟨HS.out.box hg hbox hb⟩; clear hg hbox hb))
                              obtain ⟨t3437, HA4933, H⟩ := bind_some H
                              refine (quitrentref01_Ints.calls _ t3387 [3, 5] A4926 n4928 (some ⟨g4930, 0, none⟩) 2 t3437 _ ⟨Rd.ownI (l := []) HS.out 3 rfl⟩ ⟨Rd.lit (l := []) (xs := [3, 5]) HS.out 4 rfl (by simp)⟩ ⟨HGl0.out.pass (l := []) HS.out⟩ ⟨Sep.start _⟩ HA4933).mono ?_
                              rintro e_ w4934 ⟨rfl, hS⟩
                              replace HS : Aside0 (Sep (fps []) w [b21 g3444 g3445 t3238.2.1 t3238.2.2.1 t3238.2.2.2.1 t3238.2.2.2.2.1, b20 g3445 A3446 ((t3238.2.2.2.2.2.2).length) n3448 t3273.2.1, r7 A3446 ((t3238.2.2.2.2.2.2).length) n3448 t3273.2.2, r13 A4926 t3387.length n4928 t3387, b2 g4930 3 5] w4934) := ⟨HS.out.call hS⟩
                              clear hS
                              replace HS : Aside0 (Sep (fps []) w [] w4934) := ⟨HS.out.sub (.cons _ (.cons _ (.cons _ (.cons _ (.cons _ .slnil)))))⟩
                              go_wp2_with fail
                              go_ret
                              rw [← some_eq H]
                              exact ⟨(by first | rfl | (simp [IntKind.wrap_u32]; done)), HS.out⟩
                          · have H := if_no c4718 H
                            have c4718b0 : t3269.1 = false := by simpa using c4718
                            have c4718b1 : (!t3269.1) = true := by rw [c4718b0]; rfl
                            clear c4718
                            replace HS : Aside0 (Sep (fps []) w [] w4717) := ⟨HS.out.sub (.cons _ (.cons _ (.cons _ .slnil)))⟩
                            go_wp2_with fail
                            go_ret
                            rw [← some_eq H]
                            exact ⟨(by first | rfl | (simp [IntKind.wrap_u32]; done)), HS.out⟩
                        · have H := if_no c4413 H
                          have c4413b0 : (t3264.2.1 == 0) = false := beq_eq_false_iff_ne.mpr c4413
                          have c4413b1 : (t3264.2.1 != 0) = true := bne_iff_ne.mpr c4413
                          clear c4413
                          replace HS : Aside0 (Sep (fps []) w [] w4411) := ⟨HS.out.sub (.cons _ (.cons _ (.cons _ .slnil)))⟩
                          go_wp2_with fail
                          go_ret
                          rw [← some_eq H]
                          exact ⟨(by first | rfl | (simp [IntKind.wrap_u32]; done)), HS.out⟩
                      · have H := if_no c4412 H
                        have c4412b0 : (t3264.1 == 5) = false := beq_eq_false_iff_ne.mpr c4412
                        have c4412b1 : (t3264.1 != 5) = true := bne_iff_ne.mpr c4412
                        clear c4412
                        replace HS : Aside0 (Sep (fps []) w [] w4411) := ⟨HS.out.sub (.cons _ (.cons _ (.cons _ .slnil)))⟩
                        go_wp2_with fail
                        go_ret
                        rw [← some_eq H]
                        exact ⟨(by first | rfl | (simp [IntKind.wrap_u32]; done)), HS.out⟩
                    · have H := if_no c4358 H
                      have c4358b0 : (t3260.1 == 0) = false := beq_eq_false_iff_ne.mpr c4358
                      have c4358b1 : (t3260.1 != 0) = true := bne_iff_ne.mpr c4358
                      clear c4358
                      replace HS : Aside0 (Sep (fps []) w [] w4357) := ⟨HS.out.sub (.cons _ (.cons _ (.cons _ .slnil)))⟩
                      go_wp2_with fail
                      go_ret
                      rw [← some_eq H]
                      exact ⟨(by first | rfl | (simp [IntKind.wrap_u32]; done)), HS.out⟩
                  · have H := if_no c4118 H
                    have c4118b0 : (t3256.1 == 3) = false := beq_eq_false_iff_ne.mpr c4118
                    have c4118b1 : (t3256.1 != 3) = true := bne_iff_ne.mpr c4118
                    clear c4118
                    replace HS : Aside0 (Sep (fps []) w [] w4117) := ⟨HS.out.sub (.cons _ (.cons _ (.cons _ .slnil)))⟩
                    go_wp2_with fail
                    go_ret
                    rw [← some_eq H]
                    exact ⟨(by first | rfl | (simp [IntKind.wrap_u32]; done)), HS.out⟩
                · have H := if_no c3976 H
                  have c3976b0 : (t3247.2.1 == 0) = false := beq_eq_false_iff_ne.mpr c3976
                  have c3976b1 : (t3247.2.1 != 0) = true := bne_iff_ne.mpr c3976
                  clear c3976
                  replace HS : Aside0 (Sep (fps []) w [] w3970) := ⟨HS.out.sub (.cons _ (.cons _ (.cons _ .slnil)))⟩
                  go_wp2_with fail
                  go_ret
                  rw [← some_eq H]
                  exact ⟨(by first | rfl | (simp [IntKind.wrap_u32]; done)), HS.out⟩
              · have H := if_no c3975 H
                have c3975b0 : (t3244.2.1 == 0) = false := beq_eq_false_iff_ne.mpr c3975
                have c3975b1 : (t3244.2.1 != 0) = true := bne_iff_ne.mpr c3975
                clear c3975
                replace HS : Aside0 (Sep (fps []) w [] w3970) := ⟨HS.out.sub (.cons _ (.cons _ (.cons _ .slnil)))⟩
                go_wp2_with fail
                go_ret
                rw [← some_eq H]
                exact ⟨(by first | rfl | (simp [IntKind.wrap_u32]; done)), HS.out⟩
            · have H := if_no c3974 H
              have c3974b0 : (t3241.2.1 == 0) = false := beq_eq_false_iff_ne.mpr c3974
              have c3974b1 : (t3241.2.1 != 0) = true := bne_iff_ne.mpr c3974
              clear c3974
              replace HS : Aside0 (Sep (fps []) w [] w3970) := ⟨HS.out.sub (.cons _ (.cons _ (.cons _ .slnil)))⟩
              go_wp2_with fail
              go_ret
              rw [← some_eq H]
              exact ⟨(by first | rfl | (simp [IntKind.wrap_u32]; done)), HS.out⟩
          · have H := if_no c3973 H
            have c3973b0 : (t3247.1 == 5) = false := beq_eq_false_iff_ne.mpr c3973
            have c3973b1 : (t3247.1 != 5) = true := bne_iff_ne.mpr c3973
            clear c3973
            replace HS : Aside0 (Sep (fps []) w [] w3970) := ⟨HS.out.sub (.cons _ (.cons _ (.cons _ .slnil)))⟩
            go_wp2_with fail
            go_ret
            rw [← some_eq H]
            exact ⟨(by first | rfl | (simp [IntKind.wrap_u32]; done)), HS.out⟩
        · have H := if_no c3972 H
          have c3972b0 : (t3244.1 == 2) = false := beq_eq_false_iff_ne.mpr c3972
          have c3972b1 : (t3244.1 != 2) = true := bne_iff_ne.mpr c3972
          clear c3972
          replace HS : Aside0 (Sep (fps []) w [] w3970) := ⟨HS.out.sub (.cons _ (.cons _ (.cons _ .slnil)))⟩
          go_wp2_with fail
          go_ret
          rw [← some_eq H]
          exact ⟨(by first | rfl | (simp [IntKind.wrap_u32]; done)), HS.out⟩
      · have H := if_no c3971 H
        have c3971b0 : (t3241.1 == 1) = false := beq_eq_false_iff_ne.mpr c3971
        have c3971b1 : (t3241.1 != 1) = true := bne_iff_ne.mpr c3971
        clear c3971
        replace HS : Aside0 (Sep (fps []) w [] w3970) := ⟨HS.out.sub (.cons _ (.cons _ (.cons _ .slnil)))⟩
        go_wp2_with fail
        go_ret
        rw [← some_eq H]
        exact ⟨(by first | rfl | (simp [IntKind.wrap_u32]; done)), HS.out⟩
    · have H := if_no c3450 H
      have c3450b0 : t3238.1 = false := by simpa using c3450
      have c3450b1 : (!t3238.1) = true := by rw [c3450b0]; rfl
      try rw [c3450b1]
      clear c3450
      replace HS : Aside0 (Sep (fps []) w [] w3440) := ⟨HS.out.sub (.cons _ (.cons _ (.cons _ .slnil)))⟩
      go_wp2_with fail
      go_ret
      rw [← some_eq H]
      exact ⟨(by first | rfl | (simp [IntKind.wrap_u32]; done)), HS.out⟩

set_option maxHeartbeats 30000000 in
set_option maxRecDepth 100000 in
theorem quitrentlaw11_ObjNobody.calls (k : Nat) (a1 : Int) (a2 : Int) (a3 : Int) (r : Bool) (w : World)  (HGl0 : Aside0 (Gl 0 #[.int .i64 0, .int .i64 0, .int .i64 0, .int .i64 0, .int .i64 0] (fps []) w)) (HS : Aside0 (Sep (fps []) w [] w)) (H : Aside0 (quitrentlaw11_ObjNobody.f k a1 a2 a3 = some r)) :
    Calls Tryd.prog 12 #[.int .i64 a1, .int .i64 a2, .int .i64 a3] w fun e w' => e = .returned (.bool r) ∧ Sep (fps []) w [] w' := by
  unfold quitrentlaw11_ObjNobody.f at H
  go_enter Tryd.func12, Tryd.ntmps12
  go_wp2_with fail
  obtain ⟨t753, HA754, H⟩ := bind_some H
  refine (obj_Make_nil.calls _ a2 a3 t753 _ ⟨HGl0.out.pass (l := []) HS.out⟩ ⟨Sep.start _⟩ HA754).mono ?_
  rintro e_ w755 ⟨rfl, hS⟩
  replace HS : Aside0 (Sep (fps []) w [] w755) := ⟨HS.out.call hS⟩
  clear hS
  go_wp2_with fail
  obtain ⟨t1034, HA1035, H⟩ := bind_some H
  refine (obj_Ptr_nil.calls _ a1 a2 t1034 _ ⟨HGl0.out.pass (l := []) HS.out⟩ ⟨Sep.start _⟩ HA1035).mono ?_
  rintro e_ w1036 ⟨rfl, hS⟩
  replace HS : Aside0 (Sep (fps []) w [] w1036) := ⟨HS.out.call hS⟩
  clear hS
  go_wp2_with fail
  obtain ⟨t1056, HA1057, H⟩ := bind_some H
  refine (obj_Data_nil.calls _ a1 a2 t1056 _ ⟨HGl0.out.pass (l := []) HS.out⟩ ⟨Sep.start _⟩ HA1057).mono ?_
  rintro e_ w1058 ⟨rfl, hS⟩
  replace HS : Aside0 (Sep (fps []) w [] w1058) := ⟨HS.out.call hS⟩
  clear hS
  go_wp2_with fail
  obtain ⟨t1059, HA1060, H⟩ := bind_some H
  refine (obj_Lens_nil.calls a1 t1059 _ ⟨HGl0.out.pass (l := []) HS.out⟩ ⟨Sep.start _⟩ HA1060).mono ?_
  rintro e_ w1061 ⟨rfl, hS⟩
  replace HS : Aside0 (Sep (fps []) w [] w1061) := ⟨HS.out.call hS⟩
  clear hS
  go_wp2_with fail
  obtain ⟨t1433, HA1434, H⟩ := bind_some H
  refine (obj_See_nil.calls _ a1 t1433 _ ⟨HGl0.out.pass (l := []) HS.out⟩ ⟨Sep.start _⟩ HA1434).mono ?_
  rintro e_ w1435 ⟨A1438, m1439, n1440, A1442, m1443, n1444, rfl, hS⟩
  replace HS : Aside0 (Sep (fps []) w [r13 A1438 m1439 n1440 t1433.2.1, r7 A1442 m1443 n1444 t1433.2.2] w1435) := ⟨HS.out.call hS⟩
  clear hS
  obtain rfl := (row_len (HS.out.at0)).symm
  obtain rfl := (row_len (HS.out.at1)).symm
  by_cases c1458 : t753.1 = 0
  · have H := if_yes c1458 H
    have c1458b0 : (t753.1 == 0) = true := beq_iff_eq.mpr c1458
    have c1458b1 : (t753.1 != 0) = false := bne_eq_false_iff_eq.mpr c1458
    clear c1458
    by_cases c1459 : t753.2 = 1
    · have H := if_yes c1459 H
      have c1459b0 : (t753.2 == 1) = true := beq_iff_eq.mpr c1459
      have c1459b1 : (t753.2 != 1) = false := bne_eq_false_iff_eq.mpr c1459
      clear c1459
      by_cases c1460 : t1034.1 = 0
      · have H := if_yes c1460 H
        have c1460b0 : (t1034.1 == 0) = true := beq_iff_eq.mpr c1460
        have c1460b1 : (t1034.1 != 0) = false := bne_eq_false_iff_eq.mpr c1460
        clear c1460
        by_cases c1461 : t1034.2 = 8
        · have H := if_yes c1461 H
          have c1461b0 : (t1034.2 == 8) = true := beq_iff_eq.mpr c1461
          have c1461b1 : (t1034.2 != 8) = false := bne_eq_false_iff_eq.mpr c1461
          clear c1461
          by_cases c1462 : t1056.1 = 0
          · have H := if_yes c1462 H
            have c1462b0 : (t1056.1 == 0) = true := beq_iff_eq.mpr c1462
            have c1462b1 : (t1056.1 != 0) = false := bne_eq_false_iff_eq.mpr c1462
            clear c1462
            by_cases c1463 : t1056.2 = 8
            · have H := if_yes c1463 H
              have c1463b0 : (t1056.2 == 8) = true := beq_iff_eq.mpr c1463
              have c1463b1 : (t1056.2 != 8) = false := bne_eq_false_iff_eq.mpr c1463
              clear c1463
              by_cases c1464 : t1059.2.2 = 8
              · have H := if_yes c1464 H
                have c1464b0 : (t1059.2.2 == 8) = true := beq_iff_eq.mpr c1464
                have c1464b1 : (t1059.2.2 != 8) = false := bne_eq_false_iff_eq.mpr c1464
                clear c1464
                by_cases c1465 : t1433.1 = true
                · have H := if_yes c1465 H
                  have c1465b0 : t1433.1 = true := c1465
                  have c1465b1 : (!t1433.1) = false := by rw [c1465b0]; rfl
                  clear c1465
                  go_wp2_with (first | ((with_reducible refine gate_dst (N := 17) rfl ?_); refine box_on ?hg (N := 17) ?hd (cs := #[.slice none 0 0, .slice none 0 0]) (t := 71) ?hr ?_; (case hd => rfl); (case hg => rfl); (case hr => first | (go_simp; done) | (go_simp; rfl)); intro g1446 hg w1447 hbox hb; replace HS : Aside0 (Sep (fps []) w [r13 A1438 ((t1433.2.1).length) n1440 t1433.2.1, r7 A1442 ((t1433.2.2).length) n1444 t1433.2.2, b12 g1446] w1447) := ⟨HS.out.box hg hbox hb⟩; clear hg hbox hb; replace HS : Aside0 (Sep (fps []) w [r13 none 0 0 [], r13 A1438 ((t1433.2.1).length) n1440 t1433.2.1, r7 A1442 ((t1433.2.2).length) n1444 t1433.2.2, b14 g1446 none 0 0] w1447) := ⟨HS.out.nilrow 3 (Value.int .i64)⟩; replace HS : Aside0 (Sep (fps []) w [r7 none 0 0 [], r13 none 0 0 [], r13 A1438 ((t1433.2.1).length) n1440 t1433.2.1, r7 A1442 ((t1433.2.2).length) n1444 t1433.2.2, b15 g1446 none 0 0 none 0 0] w1447) := ⟨HS.out.nilrow 33 (Value.int .u32)⟩; have hc1453 : w1447.cell? ⟨g1446, 0, none⟩ = some (.slice none 0 0) := blk_cellv (HS.out.at4) 0 rfl; have hz1454 : w1447.frozen? ⟨g1446, 0, none⟩ = false := blk_fz (HS.out.at4) 0; have hc1455 : w1447.cell? ⟨g1446, 1, none⟩ = some (.slice none 0 0) := blk_cellv (HS.out.at4) 1 rfl; have hz1456 : w1447.frozen? ⟨g1446, 1, none⟩ = false := blk_fz (HS.out.at4) 1) | ((with_reducible refine gate_store (t := 71) (p := 17) rfl ?_); refine store_event (w1 := (World.setCell (World.setCell w1447 ⟨g1446, 0, none⟩ (.slice A1438 ((t1433.2.1).length) n1440)) ⟨g1446, 1, none⟩ (.slice A1442 ((t1433.2.2).length) n1444))) rfl (t := 71) (p := 17) rfl rfl ?hr ?_; (case hr => first | (go_simp; done) | (go_simp; rfl)); intro w1457 hst; clear hc1453 hz1454 hc1455 hz1456; have hq0 : Sep (fps []) w [r7 none 0 0 [], r13 none 0 0 [], r13 A1438 ((t1433.2.1).length) n1440 t1433.2.1, r7 A1442 ((t1433.2.2).length) n1444 t1433.2.2, b15 g1446 A1438 ((t1433.2.1).length) n1440 none 0 0] (World.setCell w1447 ⟨g1446, 0, none⟩ (.slice A1438 ((t1433.2.1).length) n1440)) := (HS.out).set1 (l1 := [r7 none 0 0 [], r13 none 0 0 [], r13 A1438 ((t1433.2.1).length) n1440 t1433.2.1, r7 A1442 ((t1433.2.2).length) n1444 t1433.2.2]) (l2 := []) 0 (.slice A1438 ((t1433.2.1).length) n1440); have hq1 : Sep (fps []) w [r7 none 0 0 [], r13 none 0 0 [], r13 A1438 ((t1433.2.1).length) n1440 t1433.2.1, r7 A1442 ((t1433.2.2).length) n1444 t1433.2.2, b15 g1446 A1438 ((t1433.2.1).length) n1440 A1442 ((t1433.2.2).length) n1444] (World.setCell (World.setCell w1447 ⟨g1446, 0, none⟩ (.slice A1438 ((t1433.2.1).length) n1440)) ⟨g1446, 1, none⟩ (.slice A1442 ((t1433.2.2).length) n1444)) := (hq0).set1 (l1 := [r7 none 0 0 [], r13 none 0 0 [], r13 A1438 ((t1433.2.1).length) n1440 t1433.2.1, r7 A1442 ((t1433.2.2).length) n1444 t1433.2.2]) (l2 := []) 1 (.slice A1442 ((t1433.2.2).length) n1444); replace HS : Aside0 (Sep (fps []) w [r7 none 0 0 [], r13 none 0 0 [], r13 A1438 ((t1433.2.1).length) n1440 t1433.2.1, r7 A1442 ((t1433.2.2).length) n1444 t1433.2.2, b15 g1446 A1438 ((t1433.2.1).length) n1440 A1442 ((t1433.2.2).length) n1444] w1457) := ⟨by rw [hst]; exact hq1⟩; clear hq0 hq1; clear hst; replace HS : Aside0 (Sep (fps []) w [] w1457) := ⟨HS.out.sub (.cons _ (.cons _ (.cons _ (.cons _ (.cons _ .slnil)))))⟩))
                  go_ret
                  rw [← some_eq H]
                  exact ⟨(by first | rfl | (simp [IntKind.wrap_u32]; done)), HS.out⟩
                · have H := if_no c1465 H
                  have c1465b0 : t1433.1 = false := by simpa using c1465
                  have c1465b1 : (!t1433.1) = true := by rw [c1465b0]; rfl
                  clear c1465
                  go_wp2_with (first | ((with_reducible refine gate_dst (N := 17) rfl ?_); refine box_on ?hg (N := 17) ?hd (cs := #[.slice none 0 0, .slice none 0 0]) (t := 71) ?hr ?_; (case hd => rfl); (case hg => rfl); (case hr => first | (go_simp; done) | (go_simp; rfl)); intro g1446 hg w1447 hbox hb; replace HS : Aside0 (Sep (fps []) w [r13 A1438 ((t1433.2.1).length) n1440 t1433.2.1, r7 A1442 ((t1433.2.2).length) n1444 t1433.2.2, b12 g1446] w1447) := ⟨HS.out.box hg hbox hb⟩; clear hg hbox hb; replace HS : Aside0 (Sep (fps []) w [r13 none 0 0 [], r13 A1438 ((t1433.2.1).length) n1440 t1433.2.1, r7 A1442 ((t1433.2.2).length) n1444 t1433.2.2, b14 g1446 none 0 0] w1447) := ⟨HS.out.nilrow 3 (Value.int .i64)⟩; replace HS : Aside0 (Sep (fps []) w [r7 none 0 0 [], r13 none 0 0 [], r13 A1438 ((t1433.2.1).length) n1440 t1433.2.1, r7 A1442 ((t1433.2.2).length) n1444 t1433.2.2, b15 g1446 none 0 0 none 0 0] w1447) := ⟨HS.out.nilrow 33 (Value.int .u32)⟩; have hc1453 : w1447.cell? ⟨g1446, 0, none⟩ = some (.slice none 0 0) := blk_cellv (HS.out.at4) 0 rfl; have hz1454 : w1447.frozen? ⟨g1446, 0, none⟩ = false := blk_fz (HS.out.at4) 0; have hc1455 : w1447.cell? ⟨g1446, 1, none⟩ = some (.slice none 0 0) := blk_cellv (HS.out.at4) 1 rfl; have hz1456 : w1447.frozen? ⟨g1446, 1, none⟩ = false := blk_fz (HS.out.at4) 1) | ((with_reducible refine gate_store (t := 71) (p := 17) rfl ?_); refine store_event (w1 := (World.setCell (World.setCell w1447 ⟨g1446, 0, none⟩ (.slice A1438 ((t1433.2.1).length) n1440)) ⟨g1446, 1, none⟩ (.slice A1442 ((t1433.2.2).length) n1444))) rfl (t := 71) (p := 17) rfl rfl ?hr ?_; (case hr => first | (go_simp; done) | (go_simp; rfl)); intro w1457 hst; clear hc1453 hz1454 hc1455 hz1456; have hq0 : Sep (fps []) w [r7 none 0 0 [], r13 none 0 0 [], r13 A1438 ((t1433.2.1).length) n1440 t1433.2.1, r7 A1442 ((t1433.2.2).length) n1444 t1433.2.2, b15 g1446 A1438 ((t1433.2.1).length) n1440 none 0 0] (World.setCell w1447 ⟨g1446, 0, none⟩ (.slice A1438 ((t1433.2.1).length) n1440)) := (HS.out).set1 (l1 := [r7 none 0 0 [], r13 none 0 0 [], r13 A1438 ((t1433.2.1).length) n1440 t1433.2.1, r7 A1442 ((t1433.2.2).length) n1444 t1433.2.2]) (l2 := []) 0 (.slice A1438 ((t1433.2.1).length) n1440); have hq1 : Sep (fps []) w [r7 none 0 0 [], r13 none 0 0 [], r13 A1438 ((t1433.2.1).length) n1440 t1433.2.1, r7 A1442 ((t1433.2.2).length) n1444 t1433.2.2, b15 g1446 A1438 ((t1433.2.1).length) n1440 A1442 ((t1433.2.2).length) n1444] (World.setCell (World.setCell w1447 ⟨g1446, 0, none⟩ (.slice A1438 ((t1433.2.1).length) n1440)) ⟨g1446, 1, none⟩ (.slice A1442 ((t1433.2.2).length) n1444)) := (hq0).set1 (l1 := [r7 none 0 0 [], r13 none 0 0 [], r13 A1438 ((t1433.2.1).length) n1440 t1433.2.1, r7 A1442 ((t1433.2.2).length) n1444 t1433.2.2]) (l2 := []) 1 (.slice A1442 ((t1433.2.2).length) n1444); replace HS : Aside0 (Sep (fps []) w [r7 none 0 0 [], r13 none 0 0 [], r13 A1438 ((t1433.2.1).length) n1440 t1433.2.1, r7 A1442 ((t1433.2.2).length) n1444 t1433.2.2, b15 g1446 A1438 ((t1433.2.1).length) n1440 A1442 ((t1433.2.2).length) n1444] w1457) := ⟨by rw [hst]; exact hq1⟩; clear hq0 hq1; clear hst; replace HS : Aside0 (Sep (fps []) w [] w1457) := ⟨HS.out.sub (.cons _ (.cons _ (.cons _ (.cons _ (.cons _ .slnil)))))⟩))
                  obtain ⟨t1492, HA1493, H⟩ := bind_some H
                  refine (obj_SetPtr_nil.calls _ a1 a2 a3 t1492 _ ⟨HGl0.out.pass (l := []) HS.out⟩ ⟨Sep.start _⟩ HA1493).mono ?_
                  rintro e_ w1494 ⟨rfl, hS⟩
                  replace HS : Aside0 (Sep (fps []) w [] w1494) := ⟨HS.out.call hS⟩
                  clear hS
                  by_cases c1495 : t1492 = 8
                  · have H := if_yes c1495 H
                    have c1495b0 : (t1492 == 8) = true := beq_iff_eq.mpr c1495
                    have c1495b1 : (t1492 != 8) = false := bne_eq_false_iff_eq.mpr c1495
                    clear c1495
                    go_wp2_with fail
                    obtain ⟨t1516, HA1517, H⟩ := bind_some H
                    refine (obj_SetData_nil.calls _ a1 a2 1 t1516 _ ⟨HGl0.out.pass (l := []) HS.out⟩ ⟨Sep.start _⟩ HA1517).mono ?_
                    rintro e_ w1518 ⟨rfl, hS⟩
                    replace HS : Aside0 (Sep (fps []) w [] w1518) := ⟨HS.out.call hS⟩
                    clear hS
                    by_cases c1519 : t1516 = 8
                    · have H := if_yes c1519 H
                      have c1519b0 : (t1516 == 8) = true := beq_iff_eq.mpr c1519
                      have c1519b1 : (t1516 != 8) = false := bne_eq_false_iff_eq.mpr c1519
                      clear c1519
                      go_wp2_with fail
                      obtain ⟨t1520, HA1521, H⟩ := bind_some H
                      refine (obj_Is_nil.calls a1 t1520 _ ⟨HGl0.out.pass (l := []) HS.out⟩ ⟨Sep.start _⟩ HA1521).mono ?_
                      rintro e_ w1522 ⟨rfl, hS⟩
                      replace HS : Aside0 (Sep (fps []) w [] w1522) := ⟨HS.out.call hS⟩
                      clear hS
                      by_cases c1523 : t1520 = true
                      · have H := if_yes c1523 H
                        have c1523b0 : t1520 = true := c1523
                        have c1523b1 : (!t1520) = false := by rw [c1523b0]; rfl
                        try rw [c1523b1]
                        clear c1523
                        go_wp2_with fail
                        go_ret
                        rw [← some_eq H]
                        exact ⟨(by first | rfl | (simp [IntKind.wrap_u32]; done)), HS.out⟩
                      · have H := if_no c1523 H
                        have c1523b0 : t1520 = false := by simpa using c1523
                        have c1523b1 : (!t1520) = true := by rw [c1523b0]; rfl
                        try rw [c1523b1]
                        clear c1523
                        go_wp2_with fail
                        obtain ⟨t1536, HA1537, H⟩ := bind_some H
                        refine (obj_Blocks_nil.calls _ a1 t1536 _ ⟨HGl0.out.pass (l := []) HS.out⟩ ⟨Sep.start _⟩ HA1537).mono ?_
                        rintro e_ w1538 ⟨rfl, hS⟩
                        replace HS : Aside0 (Sep (fps []) w [] w1538) := ⟨HS.out.call hS⟩
                        clear hS
                        by_cases c1539 : t1536 = 0
                        · have H := if_yes c1539 H
                          have c1539b0 : (t1536 == 0) = true := beq_iff_eq.mpr c1539
                          have c1539b1 : (t1536 != 0) = false := bne_eq_false_iff_eq.mpr c1539
                          clear c1539
                          go_wp2_with fail
                          obtain ⟨t1658, HA1659, H⟩ := bind_some H
                          refine (obj_Shed_nil.calls _ a1 a2 t1658 _ ⟨HGl0.out.pass (l := []) HS.out⟩ ⟨Sep.start _⟩ HA1659).mono ?_
                          rintro e_ w1660 ⟨rfl, hS⟩
                          replace HS : Aside0 (Sep (fps []) w [] w1660) := ⟨HS.out.call hS⟩
                          clear hS
                          by_cases c1661 : t1658 = true
                          · have H := if_yes c1661 H
                            have c1661b0 : t1658 = true := c1661
                            have c1661b1 : (!t1658) = false := by rw [c1661b0]; rfl
                            try rw [c1661b1]
                            clear c1661
                            go_wp2_with fail
                            go_ret
                            rw [← some_eq H]
                            exact ⟨(by first | rfl | (simp [IntKind.wrap_u32]; done)), HS.out⟩
                          · have H := if_no c1661 H
                            have c1661b0 : t1658 = false := by simpa using c1661
                            have c1661b1 : (!t1658) = true := by rw [c1661b0]; rfl
                            try rw [c1661b1]
                            clear c1661
                            go_wp2_with fail
                            obtain ⟨t1670, HA1671, H⟩ := bind_some H
                            refine (obj_End_nil.calls a1 t1670 _ ⟨HGl0.out.pass (l := []) HS.out⟩ ⟨Sep.start _⟩ HA1671).mono ?_
                            rintro e_ w1672 ⟨rfl, hS⟩
                            replace HS : Aside0 (Sep (fps []) w [] w1672) := ⟨HS.out.call hS⟩
                            clear hS
                            by_cases c1673 : t1670 = true
                            · have H := if_yes c1673 H
                              have c1673b0 : t1670 = true := c1673
                              have c1673b1 : (!t1670) = false := by rw [c1673b0]; rfl
                              try rw [c1673b1]
                              clear c1673
                              go_wp2_with fail
                              go_ret
                              rw [← some_eq H]
                              exact ⟨(by first | rfl | (simp [IntKind.wrap_u32]; done)), HS.out⟩
                            · have H := if_no c1673 H
                              have c1673b0 : t1670 = false := by simpa using c1673
                              have c1673b1 : (!t1670) = true := by rw [c1673b0]; rfl
                              try rw [c1673b1]
                              clear c1673
                              go_wp2_with fail
                              obtain ⟨t4935, HA4936, H⟩ := bind_some H
                              refine (quitrentlaw11_begun.calls _ t4935 _ ⟨HGl0.out.pass (l := []) HS.out⟩ ⟨Sep.start _⟩ HA4936).mono ?_
                              rintro e_ w4937 ⟨rfl, hS⟩
                              replace HS : Aside0 (Sep (fps []) w [] w4937) := ⟨HS.out.call hS⟩
                              clear hS
                              go_wp2_with fail
                              go_ret
                              rw [← some_eq H]
                              exact ⟨(by first | rfl | (simp [IntKind.wrap_u32]; done)), HS.out⟩
                        · have H := if_no c1539 H
                          have c1539b0 : (t1536 == 0) = false := beq_eq_false_iff_ne.mpr c1539
                          have c1539b1 : (t1536 != 0) = true := bne_iff_ne.mpr c1539
                          clear c1539
                          go_wp2_with fail
                          go_ret
                          rw [← some_eq H]
                          exact ⟨(by first | rfl | (simp [IntKind.wrap_u32]; done)), HS.out⟩
                    · have H := if_no c1519 H
                      have c1519b0 : (t1516 == 8) = false := beq_eq_false_iff_ne.mpr c1519
                      have c1519b1 : (t1516 != 8) = true := bne_iff_ne.mpr c1519
                      clear c1519
                      go_wp2_with fail
                      go_ret
                      rw [← some_eq H]
                      exact ⟨(by first | rfl | (simp [IntKind.wrap_u32]; done)), HS.out⟩
                  · have H := if_no c1495 H
                    have c1495b0 : (t1492 == 8) = false := beq_eq_false_iff_ne.mpr c1495
                    have c1495b1 : (t1492 != 8) = true := bne_iff_ne.mpr c1495
                    clear c1495
                    go_wp2_with fail
                    go_ret
                    rw [← some_eq H]
                    exact ⟨(by first | rfl | (simp [IntKind.wrap_u32]; done)), HS.out⟩
              · have H := if_no c1464 H
                have c1464b0 : (t1059.2.2 == 8) = false := beq_eq_false_iff_ne.mpr c1464
                have c1464b1 : (t1059.2.2 != 8) = true := bne_iff_ne.mpr c1464
                clear c1464
                go_wp2_with (first | ((with_reducible refine gate_dst (N := 17) rfl ?_); refine box_on ?hg (N := 17) ?hd (cs := #[.slice none 0 0, .slice none 0 0]) (t := 71) ?hr ?_; (case hd => rfl); (case hg => rfl); (case hr => first | (go_simp; done) | (go_simp; rfl)); intro g1446 hg w1447 hbox hb; replace HS : Aside0 (Sep (fps []) w [r13 A1438 ((t1433.2.1).length) n1440 t1433.2.1, r7 A1442 ((t1433.2.2).length) n1444 t1433.2.2, b12 g1446] w1447) := ⟨HS.out.box hg hbox hb⟩; clear hg hbox hb; replace HS : Aside0 (Sep (fps []) w [r13 none 0 0 [], r13 A1438 ((t1433.2.1).length) n1440 t1433.2.1, r7 A1442 ((t1433.2.2).length) n1444 t1433.2.2, b14 g1446 none 0 0] w1447) := ⟨HS.out.nilrow 3 (Value.int .i64)⟩; replace HS : Aside0 (Sep (fps []) w [r7 none 0 0 [], r13 none 0 0 [], r13 A1438 ((t1433.2.1).length) n1440 t1433.2.1, r7 A1442 ((t1433.2.2).length) n1444 t1433.2.2, b15 g1446 none 0 0 none 0 0] w1447) := ⟨HS.out.nilrow 33 (Value.int .u32)⟩; have hc1453 : w1447.cell? ⟨g1446, 0, none⟩ = some (.slice none 0 0) := blk_cellv (HS.out.at4) 0 rfl; have hz1454 : w1447.frozen? ⟨g1446, 0, none⟩ = false := blk_fz (HS.out.at4) 0; have hc1455 : w1447.cell? ⟨g1446, 1, none⟩ = some (.slice none 0 0) := blk_cellv (HS.out.at4) 1 rfl; have hz1456 : w1447.frozen? ⟨g1446, 1, none⟩ = false := blk_fz (HS.out.at4) 1) | ((with_reducible refine gate_store (t := 71) (p := 17) rfl ?_); refine store_event (w1 := (World.setCell (World.setCell w1447 ⟨g1446, 0, none⟩ (.slice A1438 ((t1433.2.1).length) n1440)) ⟨g1446, 1, none⟩ (.slice A1442 ((t1433.2.2).length) n1444))) rfl (t := 71) (p := 17) rfl rfl ?hr ?_; (case hr => first | (go_simp; done) | (go_simp; rfl)); intro w1457 hst; clear hc1453 hz1454 hc1455 hz1456; have hq0 : Sep (fps []) w [r7 none 0 0 [], r13 none 0 0 [], r13 A1438 ((t1433.2.1).length) n1440 t1433.2.1, r7 A1442 ((t1433.2.2).length) n1444 t1433.2.2, b15 g1446 A1438 ((t1433.2.1).length) n1440 none 0 0] (World.setCell w1447 ⟨g1446, 0, none⟩ (.slice A1438 ((t1433.2.1).length) n1440)) := (HS.out).set1 (l1 := [r7 none 0 0 [], r13 none 0 0 [], r13 A1438 ((t1433.2.1).length) n1440 t1433.2.1, r7 A1442 ((t1433.2.2).length) n1444 t1433.2.2]) (l2 := []) 0 (.slice A1438 ((t1433.2.1).length) n1440); have hq1 : Sep (fps []) w [r7 none 0 0 [], r13 none 0 0 [], r13 A1438 ((t1433.2.1).length) n1440 t1433.2.1, r7 A1442 ((t1433.2.2).length) n1444 t1433.2.2, b15 g1446 A1438 ((t1433.2.1).length) n1440 A1442 ((t1433.2.2).length) n1444] (World.setCell (World.setCell w1447 ⟨g1446, 0, none⟩ (.slice A1438 ((t1433.2.1).length) n1440)) ⟨g1446, 1, none⟩ (.slice A1442 ((t1433.2.2).length) n1444)) := (hq0).set1 (l1 := [r7 none 0 0 [], r13 none 0 0 [], r13 A1438 ((t1433.2.1).length) n1440 t1433.2.1, r7 A1442 ((t1433.2.2).length) n1444 t1433.2.2]) (l2 := []) 1 (.slice A1442 ((t1433.2.2).length) n1444); replace HS : Aside0 (Sep (fps []) w [r7 none 0 0 [], r13 none 0 0 [], r13 A1438 ((t1433.2.1).length) n1440 t1433.2.1, r7 A1442 ((t1433.2.2).length) n1444 t1433.2.2, b15 g1446 A1438 ((t1433.2.1).length) n1440 A1442 ((t1433.2.2).length) n1444] w1457) := ⟨by rw [hst]; exact hq1⟩; clear hq0 hq1; clear hst; replace HS : Aside0 (Sep (fps []) w [] w1457) := ⟨HS.out.sub (.cons _ (.cons _ (.cons _ (.cons _ (.cons _ .slnil)))))⟩))
                go_ret
                rw [← some_eq H]
                exact ⟨(by first | rfl | (simp [IntKind.wrap_u32]; done)), HS.out⟩
            · have H := if_no c1463 H
              have c1463b0 : (t1056.2 == 8) = false := beq_eq_false_iff_ne.mpr c1463
              have c1463b1 : (t1056.2 != 8) = true := bne_iff_ne.mpr c1463
              clear c1463
              go_wp2_with (first | ((with_reducible refine gate_dst (N := 17) rfl ?_); refine box_on ?hg (N := 17) ?hd (cs := #[.slice none 0 0, .slice none 0 0]) (t := 71) ?hr ?_; (case hd => rfl); (case hg => rfl); (case hr => first | (go_simp; done) | (go_simp; rfl)); intro g1446 hg w1447 hbox hb; replace HS : Aside0 (Sep (fps []) w [r13 A1438 ((t1433.2.1).length) n1440 t1433.2.1, r7 A1442 ((t1433.2.2).length) n1444 t1433.2.2, b12 g1446] w1447) := ⟨HS.out.box hg hbox hb⟩; clear hg hbox hb; replace HS : Aside0 (Sep (fps []) w [r13 none 0 0 [], r13 A1438 ((t1433.2.1).length) n1440 t1433.2.1, r7 A1442 ((t1433.2.2).length) n1444 t1433.2.2, b14 g1446 none 0 0] w1447) := ⟨HS.out.nilrow 3 (Value.int .i64)⟩; replace HS : Aside0 (Sep (fps []) w [r7 none 0 0 [], r13 none 0 0 [], r13 A1438 ((t1433.2.1).length) n1440 t1433.2.1, r7 A1442 ((t1433.2.2).length) n1444 t1433.2.2, b15 g1446 none 0 0 none 0 0] w1447) := ⟨HS.out.nilrow 33 (Value.int .u32)⟩; have hc1453 : w1447.cell? ⟨g1446, 0, none⟩ = some (.slice none 0 0) := blk_cellv (HS.out.at4) 0 rfl; have hz1454 : w1447.frozen? ⟨g1446, 0, none⟩ = false := blk_fz (HS.out.at4) 0; have hc1455 : w1447.cell? ⟨g1446, 1, none⟩ = some (.slice none 0 0) := blk_cellv (HS.out.at4) 1 rfl; have hz1456 : w1447.frozen? ⟨g1446, 1, none⟩ = false := blk_fz (HS.out.at4) 1) | ((with_reducible refine gate_store (t := 71) (p := 17) rfl ?_); refine store_event (w1 := (World.setCell (World.setCell w1447 ⟨g1446, 0, none⟩ (.slice A1438 ((t1433.2.1).length) n1440)) ⟨g1446, 1, none⟩ (.slice A1442 ((t1433.2.2).length) n1444))) rfl (t := 71) (p := 17) rfl rfl ?hr ?_; (case hr => first | (go_simp; done) | (go_simp; rfl)); intro w1457 hst; clear hc1453 hz1454 hc1455 hz1456; have hq0 : Sep (fps []) w [r7 none 0 0 [], r13 none 0 0 [], r13 A1438 ((t1433.2.1).length) n1440 t1433.2.1, r7 A1442 ((t1433.2.2).length) n1444 t1433.2.2, b15 g1446 A1438 ((t1433.2.1).length) n1440 none 0 0] (World.setCell w1447 ⟨g1446, 0, none⟩ (.slice A1438 ((t1433.2.1).length) n1440)) := (HS.out).set1 (l1 := [r7 none 0 0 [], r13 none 0 0 [], r13 A1438 ((t1433.2.1).length) n1440 t1433.2.1, r7 A1442 ((t1433.2.2).length) n1444 t1433.2.2]) (l2 := []) 0 (.slice A1438 ((t1433.2.1).length) n1440); have hq1 : Sep (fps []) w [r7 none 0 0 [], r13 none 0 0 [], r13 A1438 ((t1433.2.1).length) n1440 t1433.2.1, r7 A1442 ((t1433.2.2).length) n1444 t1433.2.2, b15 g1446 A1438 ((t1433.2.1).length) n1440 A1442 ((t1433.2.2).length) n1444] (World.setCell (World.setCell w1447 ⟨g1446, 0, none⟩ (.slice A1438 ((t1433.2.1).length) n1440)) ⟨g1446, 1, none⟩ (.slice A1442 ((t1433.2.2).length) n1444)) := (hq0).set1 (l1 := [r7 none 0 0 [], r13 none 0 0 [], r13 A1438 ((t1433.2.1).length) n1440 t1433.2.1, r7 A1442 ((t1433.2.2).length) n1444 t1433.2.2]) (l2 := []) 1 (.slice A1442 ((t1433.2.2).length) n1444); replace HS : Aside0 (Sep (fps []) w [r7 none 0 0 [], r13 none 0 0 [], r13 A1438 ((t1433.2.1).length) n1440 t1433.2.1, r7 A1442 ((t1433.2.2).length) n1444 t1433.2.2, b15 g1446 A1438 ((t1433.2.1).length) n1440 A1442 ((t1433.2.2).length) n1444] w1457) := ⟨by rw [hst]; exact hq1⟩; clear hq0 hq1; clear hst; replace HS : Aside0 (Sep (fps []) w [] w1457) := ⟨HS.out.sub (.cons _ (.cons _ (.cons _ (.cons _ (.cons _ .slnil)))))⟩))
              go_ret
              rw [← some_eq H]
              exact ⟨(by first | rfl | (simp [IntKind.wrap_u32]; done)), HS.out⟩
          · have H := if_no c1462 H
            have c1462b0 : (t1056.1 == 0) = false := beq_eq_false_iff_ne.mpr c1462
            have c1462b1 : (t1056.1 != 0) = true := bne_iff_ne.mpr c1462
            clear c1462
            go_wp2_with (first | ((with_reducible refine gate_dst (N := 17) rfl ?_); refine box_on ?hg (N := 17) ?hd (cs := #[.slice none 0 0, .slice none 0 0]) (t := 71) ?hr ?_; (case hd => rfl); (case hg => rfl); (case hr => first | (go_simp; done) | (go_simp; rfl)); intro g1446 hg w1447 hbox hb; replace HS : Aside0 (Sep (fps []) w [r13 A1438 ((t1433.2.1).length) n1440 t1433.2.1, r7 A1442 ((t1433.2.2).length) n1444 t1433.2.2, b12 g1446] w1447) := ⟨HS.out.box hg hbox hb⟩; clear hg hbox hb; replace HS : Aside0 (Sep (fps []) w [r13 none 0 0 [], r13 A1438 ((t1433.2.1).length) n1440 t1433.2.1, r7 A1442 ((t1433.2.2).length) n1444 t1433.2.2, b14 g1446 none 0 0] w1447) := ⟨HS.out.nilrow 3 (Value.int .i64)⟩; replace HS : Aside0 (Sep (fps []) w [r7 none 0 0 [], r13 none 0 0 [], r13 A1438 ((t1433.2.1).length) n1440 t1433.2.1, r7 A1442 ((t1433.2.2).length) n1444 t1433.2.2, b15 g1446 none 0 0 none 0 0] w1447) := ⟨HS.out.nilrow 33 (Value.int .u32)⟩; have hc1453 : w1447.cell? ⟨g1446, 0, none⟩ = some (.slice none 0 0) := blk_cellv (HS.out.at4) 0 rfl; have hz1454 : w1447.frozen? ⟨g1446, 0, none⟩ = false := blk_fz (HS.out.at4) 0; have hc1455 : w1447.cell? ⟨g1446, 1, none⟩ = some (.slice none 0 0) := blk_cellv (HS.out.at4) 1 rfl; have hz1456 : w1447.frozen? ⟨g1446, 1, none⟩ = false := blk_fz (HS.out.at4) 1) | ((with_reducible refine gate_store (t := 71) (p := 17) rfl ?_); refine store_event (w1 := (World.setCell (World.setCell w1447 ⟨g1446, 0, none⟩ (.slice A1438 ((t1433.2.1).length) n1440)) ⟨g1446, 1, none⟩ (.slice A1442 ((t1433.2.2).length) n1444))) rfl (t := 71) (p := 17) rfl rfl ?hr ?_; (case hr => first | (go_simp; done) | (go_simp; rfl)); intro w1457 hst; clear hc1453 hz1454 hc1455 hz1456; have hq0 : Sep (fps []) w [r7 none 0 0 [], r13 none 0 0 [], r13 A1438 ((t1433.2.1).length) n1440 t1433.2.1, r7 A1442 ((t1433.2.2).length) n1444 t1433.2.2, b15 g1446 A1438 ((t1433.2.1).length) n1440 none 0 0] (World.setCell w1447 ⟨g1446, 0, none⟩ (.slice A1438 ((t1433.2.1).length) n1440)) := (HS.out).set1 (l1 := [r7 none 0 0 [], r13 none 0 0 [], r13 A1438 ((t1433.2.1).length) n1440 t1433.2.1, r7 A1442 ((t1433.2.2).length) n1444 t1433.2.2]) (l2 := []) 0 (.slice A1438 ((t1433.2.1).length) n1440); have hq1 : Sep (fps []) w [r7 none 0 0 [], r13 none 0 0 [], r13 A1438 ((t1433.2.1).length) n1440 t1433.2.1, r7 A1442 ((t1433.2.2).length) n1444 t1433.2.2, b15 g1446 A1438 ((t1433.2.1).length) n1440 A1442 ((t1433.2.2).length) n1444] (World.setCell (World.setCell w1447 ⟨g1446, 0, none⟩ (.slice A1438 ((t1433.2.1).length) n1440)) ⟨g1446, 1, none⟩ (.slice A1442 ((t1433.2.2).length) n1444)) := (hq0).set1 (l1 := [r7 none 0 0 [], r13 none 0 0 [], r13 A1438 ((t1433.2.1).length) n1440 t1433.2.1, r7 A1442 ((t1433.2.2).length) n1444 t1433.2.2]) (l2 := []) 1 (.slice A1442 ((t1433.2.2).length) n1444); replace HS : Aside0 (Sep (fps []) w [r7 none 0 0 [], r13 none 0 0 [], r13 A1438 ((t1433.2.1).length) n1440 t1433.2.1, r7 A1442 ((t1433.2.2).length) n1444 t1433.2.2, b15 g1446 A1438 ((t1433.2.1).length) n1440 A1442 ((t1433.2.2).length) n1444] w1457) := ⟨by rw [hst]; exact hq1⟩; clear hq0 hq1; clear hst; replace HS : Aside0 (Sep (fps []) w [] w1457) := ⟨HS.out.sub (.cons _ (.cons _ (.cons _ (.cons _ (.cons _ .slnil)))))⟩))
            go_ret
            rw [← some_eq H]
            exact ⟨(by first | rfl | (simp [IntKind.wrap_u32]; done)), HS.out⟩
        · have H := if_no c1461 H
          have c1461b0 : (t1034.2 == 8) = false := beq_eq_false_iff_ne.mpr c1461
          have c1461b1 : (t1034.2 != 8) = true := bne_iff_ne.mpr c1461
          clear c1461
          go_wp2_with (first | ((with_reducible refine gate_dst (N := 17) rfl ?_); refine box_on ?hg (N := 17) ?hd (cs := #[.slice none 0 0, .slice none 0 0]) (t := 71) ?hr ?_; (case hd => rfl); (case hg => rfl); (case hr => first | (go_simp; done) | (go_simp; rfl)); intro g1446 hg w1447 hbox hb; replace HS : Aside0 (Sep (fps []) w [r13 A1438 ((t1433.2.1).length) n1440 t1433.2.1, r7 A1442 ((t1433.2.2).length) n1444 t1433.2.2, b12 g1446] w1447) := ⟨HS.out.box hg hbox hb⟩; clear hg hbox hb; replace HS : Aside0 (Sep (fps []) w [r13 none 0 0 [], r13 A1438 ((t1433.2.1).length) n1440 t1433.2.1, r7 A1442 ((t1433.2.2).length) n1444 t1433.2.2, b14 g1446 none 0 0] w1447) := ⟨HS.out.nilrow 3 (Value.int .i64)⟩; replace HS : Aside0 (Sep (fps []) w [r7 none 0 0 [], r13 none 0 0 [], r13 A1438 ((t1433.2.1).length) n1440 t1433.2.1, r7 A1442 ((t1433.2.2).length) n1444 t1433.2.2, b15 g1446 none 0 0 none 0 0] w1447) := ⟨HS.out.nilrow 33 (Value.int .u32)⟩; have hc1453 : w1447.cell? ⟨g1446, 0, none⟩ = some (.slice none 0 0) := blk_cellv (HS.out.at4) 0 rfl; have hz1454 : w1447.frozen? ⟨g1446, 0, none⟩ = false := blk_fz (HS.out.at4) 0; have hc1455 : w1447.cell? ⟨g1446, 1, none⟩ = some (.slice none 0 0) := blk_cellv (HS.out.at4) 1 rfl; have hz1456 : w1447.frozen? ⟨g1446, 1, none⟩ = false := blk_fz (HS.out.at4) 1) | ((with_reducible refine gate_store (t := 71) (p := 17) rfl ?_); refine store_event (w1 := (World.setCell (World.setCell w1447 ⟨g1446, 0, none⟩ (.slice A1438 ((t1433.2.1).length) n1440)) ⟨g1446, 1, none⟩ (.slice A1442 ((t1433.2.2).length) n1444))) rfl (t := 71) (p := 17) rfl rfl ?hr ?_; (case hr => first | (go_simp; done) | (go_simp; rfl)); intro w1457 hst; clear hc1453 hz1454 hc1455 hz1456; have hq0 : Sep (fps []) w [r7 none 0 0 [], r13 none 0 0 [], r13 A1438 ((t1433.2.1).length) n1440 t1433.2.1, r7 A1442 ((t1433.2.2).length) n1444 t1433.2.2, b15 g1446 A1438 ((t1433.2.1).length) n1440 none 0 0] (World.setCell w1447 ⟨g1446, 0, none⟩ (.slice A1438 ((t1433.2.1).length) n1440)) := (HS.out).set1 (l1 := [r7 none 0 0 [], r13 none 0 0 [], r13 A1438 ((t1433.2.1).length) n1440 t1433.2.1, r7 A1442 ((t1433.2.2).length) n1444 t1433.2.2]) (l2 := []) 0 (.slice A1438 ((t1433.2.1).length) n1440); have hq1 : Sep (fps []) w [r7 none 0 0 [], r13 none 0 0 [], r13 A1438 ((t1433.2.1).length) n1440 t1433.2.1, r7 A1442 ((t1433.2.2).length) n1444 t1433.2.2, b15 g1446 A1438 ((t1433.2.1).length) n1440 A1442 ((t1433.2.2).length) n1444] (World.setCell (World.setCell w1447 ⟨g1446, 0, none⟩ (.slice A1438 ((t1433.2.1).length) n1440)) ⟨g1446, 1, none⟩ (.slice A1442 ((t1433.2.2).length) n1444)) := (hq0).set1 (l1 := [r7 none 0 0 [], r13 none 0 0 [], r13 A1438 ((t1433.2.1).length) n1440 t1433.2.1, r7 A1442 ((t1433.2.2).length) n1444 t1433.2.2]) (l2 := []) 1 (.slice A1442 ((t1433.2.2).length) n1444); replace HS : Aside0 (Sep (fps []) w [r7 none 0 0 [], r13 none 0 0 [], r13 A1438 ((t1433.2.1).length) n1440 t1433.2.1, r7 A1442 ((t1433.2.2).length) n1444 t1433.2.2, b15 g1446 A1438 ((t1433.2.1).length) n1440 A1442 ((t1433.2.2).length) n1444] w1457) := ⟨by rw [hst]; exact hq1⟩; clear hq0 hq1; clear hst; replace HS : Aside0 (Sep (fps []) w [] w1457) := ⟨HS.out.sub (.cons _ (.cons _ (.cons _ (.cons _ (.cons _ .slnil)))))⟩))
          go_ret
          rw [← some_eq H]
          exact ⟨(by first | rfl | (simp [IntKind.wrap_u32]; done)), HS.out⟩
      · have H := if_no c1460 H
        have c1460b0 : (t1034.1 == 0) = false := beq_eq_false_iff_ne.mpr c1460
        have c1460b1 : (t1034.1 != 0) = true := bne_iff_ne.mpr c1460
        clear c1460
        go_wp2_with (first | ((with_reducible refine gate_dst (N := 17) rfl ?_); refine box_on ?hg (N := 17) ?hd (cs := #[.slice none 0 0, .slice none 0 0]) (t := 71) ?hr ?_; (case hd => rfl); (case hg => rfl); (case hr => first | (go_simp; done) | (go_simp; rfl)); intro g1446 hg w1447 hbox hb; replace HS : Aside0 (Sep (fps []) w [r13 A1438 ((t1433.2.1).length) n1440 t1433.2.1, r7 A1442 ((t1433.2.2).length) n1444 t1433.2.2, b12 g1446] w1447) := ⟨HS.out.box hg hbox hb⟩; clear hg hbox hb; replace HS : Aside0 (Sep (fps []) w [r13 none 0 0 [], r13 A1438 ((t1433.2.1).length) n1440 t1433.2.1, r7 A1442 ((t1433.2.2).length) n1444 t1433.2.2, b14 g1446 none 0 0] w1447) := ⟨HS.out.nilrow 3 (Value.int .i64)⟩; replace HS : Aside0 (Sep (fps []) w [r7 none 0 0 [], r13 none 0 0 [], r13 A1438 ((t1433.2.1).length) n1440 t1433.2.1, r7 A1442 ((t1433.2.2).length) n1444 t1433.2.2, b15 g1446 none 0 0 none 0 0] w1447) := ⟨HS.out.nilrow 33 (Value.int .u32)⟩; have hc1453 : w1447.cell? ⟨g1446, 0, none⟩ = some (.slice none 0 0) := blk_cellv (HS.out.at4) 0 rfl; have hz1454 : w1447.frozen? ⟨g1446, 0, none⟩ = false := blk_fz (HS.out.at4) 0; have hc1455 : w1447.cell? ⟨g1446, 1, none⟩ = some (.slice none 0 0) := blk_cellv (HS.out.at4) 1 rfl; have hz1456 : w1447.frozen? ⟨g1446, 1, none⟩ = false := blk_fz (HS.out.at4) 1) | ((with_reducible refine gate_store (t := 71) (p := 17) rfl ?_); refine store_event (w1 := (World.setCell (World.setCell w1447 ⟨g1446, 0, none⟩ (.slice A1438 ((t1433.2.1).length) n1440)) ⟨g1446, 1, none⟩ (.slice A1442 ((t1433.2.2).length) n1444))) rfl (t := 71) (p := 17) rfl rfl ?hr ?_; (case hr => first | (go_simp; done) | (go_simp; rfl)); intro w1457 hst; clear hc1453 hz1454 hc1455 hz1456; have hq0 : Sep (fps []) w [r7 none 0 0 [], r13 none 0 0 [], r13 A1438 ((t1433.2.1).length) n1440 t1433.2.1, r7 A1442 ((t1433.2.2).length) n1444 t1433.2.2, b15 g1446 A1438 ((t1433.2.1).length) n1440 none 0 0] (World.setCell w1447 ⟨g1446, 0, none⟩ (.slice A1438 ((t1433.2.1).length) n1440)) := (HS.out).set1 (l1 := [r7 none 0 0 [], r13 none 0 0 [], r13 A1438 ((t1433.2.1).length) n1440 t1433.2.1, r7 A1442 ((t1433.2.2).length) n1444 t1433.2.2]) (l2 := []) 0 (.slice A1438 ((t1433.2.1).length) n1440); have hq1 : Sep (fps []) w [r7 none 0 0 [], r13 none 0 0 [], r13 A1438 ((t1433.2.1).length) n1440 t1433.2.1, r7 A1442 ((t1433.2.2).length) n1444 t1433.2.2, b15 g1446 A1438 ((t1433.2.1).length) n1440 A1442 ((t1433.2.2).length) n1444] (World.setCell (World.setCell w1447 ⟨g1446, 0, none⟩ (.slice A1438 ((t1433.2.1).length) n1440)) ⟨g1446, 1, none⟩ (.slice A1442 ((t1433.2.2).length) n1444)) := (hq0).set1 (l1 := [r7 none 0 0 [], r13 none 0 0 [], r13 A1438 ((t1433.2.1).length) n1440 t1433.2.1, r7 A1442 ((t1433.2.2).length) n1444 t1433.2.2]) (l2 := []) 1 (.slice A1442 ((t1433.2.2).length) n1444); replace HS : Aside0 (Sep (fps []) w [r7 none 0 0 [], r13 none 0 0 [], r13 A1438 ((t1433.2.1).length) n1440 t1433.2.1, r7 A1442 ((t1433.2.2).length) n1444 t1433.2.2, b15 g1446 A1438 ((t1433.2.1).length) n1440 A1442 ((t1433.2.2).length) n1444] w1457) := ⟨by rw [hst]; exact hq1⟩; clear hq0 hq1; clear hst; replace HS : Aside0 (Sep (fps []) w [] w1457) := ⟨HS.out.sub (.cons _ (.cons _ (.cons _ (.cons _ (.cons _ .slnil)))))⟩))
        go_ret
        rw [← some_eq H]
        exact ⟨(by first | rfl | (simp [IntKind.wrap_u32]; done)), HS.out⟩
    · have H := if_no c1459 H
      have c1459b0 : (t753.2 == 1) = false := beq_eq_false_iff_ne.mpr c1459
      have c1459b1 : (t753.2 != 1) = true := bne_iff_ne.mpr c1459
      clear c1459
      go_wp2_with (first | ((with_reducible refine gate_dst (N := 17) rfl ?_); refine box_on ?hg (N := 17) ?hd (cs := #[.slice none 0 0, .slice none 0 0]) (t := 71) ?hr ?_; (case hd => rfl); (case hg => rfl); (case hr => first | (go_simp; done) | (go_simp; rfl)); intro g1446 hg w1447 hbox hb; replace HS : Aside0 (Sep (fps []) w [r13 A1438 ((t1433.2.1).length) n1440 t1433.2.1, r7 A1442 ((t1433.2.2).length) n1444 t1433.2.2, b12 g1446] w1447) := ⟨HS.out.box hg hbox hb⟩; clear hg hbox hb; replace HS : Aside0 (Sep (fps []) w [r13 none 0 0 [], r13 A1438 ((t1433.2.1).length) n1440 t1433.2.1, r7 A1442 ((t1433.2.2).length) n1444 t1433.2.2, b14 g1446 none 0 0] w1447) := ⟨HS.out.nilrow 3 (Value.int .i64)⟩; replace HS : Aside0 (Sep (fps []) w [r7 none 0 0 [], r13 none 0 0 [], r13 A1438 ((t1433.2.1).length) n1440 t1433.2.1, r7 A1442 ((t1433.2.2).length) n1444 t1433.2.2, b15 g1446 none 0 0 none 0 0] w1447) := ⟨HS.out.nilrow 33 (Value.int .u32)⟩; have hc1453 : w1447.cell? ⟨g1446, 0, none⟩ = some (.slice none 0 0) := blk_cellv (HS.out.at4) 0 rfl; have hz1454 : w1447.frozen? ⟨g1446, 0, none⟩ = false := blk_fz (HS.out.at4) 0; have hc1455 : w1447.cell? ⟨g1446, 1, none⟩ = some (.slice none 0 0) := blk_cellv (HS.out.at4) 1 rfl; have hz1456 : w1447.frozen? ⟨g1446, 1, none⟩ = false := blk_fz (HS.out.at4) 1) | ((with_reducible refine gate_store (t := 71) (p := 17) rfl ?_); refine store_event (w1 := (World.setCell (World.setCell w1447 ⟨g1446, 0, none⟩ (.slice A1438 ((t1433.2.1).length) n1440)) ⟨g1446, 1, none⟩ (.slice A1442 ((t1433.2.2).length) n1444))) rfl (t := 71) (p := 17) rfl rfl ?hr ?_; (case hr => first | (go_simp; done) | (go_simp; rfl)); intro w1457 hst; clear hc1453 hz1454 hc1455 hz1456; have hq0 : Sep (fps []) w [r7 none 0 0 [], r13 none 0 0 [], r13 A1438 ((t1433.2.1).length) n1440 t1433.2.1, r7 A1442 ((t1433.2.2).length) n1444 t1433.2.2, b15 g1446 A1438 ((t1433.2.1).length) n1440 none 0 0] (World.setCell w1447 ⟨g1446, 0, none⟩ (.slice A1438 ((t1433.2.1).length) n1440)) := (HS.out).set1 (l1 := [r7 none 0 0 [], r13 none 0 0 [], r13 A1438 ((t1433.2.1).length) n1440 t1433.2.1, r7 A1442 ((t1433.2.2).length) n1444 t1433.2.2]) (l2 := []) 0 (.slice A1438 ((t1433.2.1).length) n1440); have hq1 : Sep (fps []) w [r7 none 0 0 [], r13 none 0 0 [], r13 A1438 ((t1433.2.1).length) n1440 t1433.2.1, r7 A1442 ((t1433.2.2).length) n1444 t1433.2.2, b15 g1446 A1438 ((t1433.2.1).length) n1440 A1442 ((t1433.2.2).length) n1444] (World.setCell (World.setCell w1447 ⟨g1446, 0, none⟩ (.slice A1438 ((t1433.2.1).length) n1440)) ⟨g1446, 1, none⟩ (.slice A1442 ((t1433.2.2).length) n1444)) := (hq0).set1 (l1 := [r7 none 0 0 [], r13 none 0 0 [], r13 A1438 ((t1433.2.1).length) n1440 t1433.2.1, r7 A1442 ((t1433.2.2).length) n1444 t1433.2.2]) (l2 := []) 1 (.slice A1442 ((t1433.2.2).length) n1444); replace HS : Aside0 (Sep (fps []) w [r7 none 0 0 [], r13 none 0 0 [], r13 A1438 ((t1433.2.1).length) n1440 t1433.2.1, r7 A1442 ((t1433.2.2).length) n1444 t1433.2.2, b15 g1446 A1438 ((t1433.2.1).length) n1440 A1442 ((t1433.2.2).length) n1444] w1457) := ⟨by rw [hst]; exact hq1⟩; clear hq0 hq1; clear hst; replace HS : Aside0 (Sep (fps []) w [] w1457) := ⟨HS.out.sub (.cons _ (.cons _ (.cons _ (.cons _ (.cons _ .slnil)))))⟩))
      go_ret
      rw [← some_eq H]
      exact ⟨(by first | rfl | (simp [IntKind.wrap_u32]; done)), HS.out⟩
  · have H := if_no c1458 H
    have c1458b0 : (t753.1 == 0) = false := beq_eq_false_iff_ne.mpr c1458
    have c1458b1 : (t753.1 != 0) = true := bne_iff_ne.mpr c1458
    clear c1458
    go_wp2_with (first | ((with_reducible refine gate_dst (N := 17) rfl ?_); refine box_on ?hg (N := 17) ?hd (cs := #[.slice none 0 0, .slice none 0 0]) (t := 71) ?hr ?_; (case hd => rfl); (case hg => rfl); (case hr => first | (go_simp; done) | (go_simp; rfl)); intro g1446 hg w1447 hbox hb; replace HS : Aside0 (Sep (fps []) w [r13 A1438 ((t1433.2.1).length) n1440 t1433.2.1, r7 A1442 ((t1433.2.2).length) n1444 t1433.2.2, b12 g1446] w1447) := ⟨HS.out.box hg hbox hb⟩; clear hg hbox hb; replace HS : Aside0 (Sep (fps []) w [r13 none 0 0 [], r13 A1438 ((t1433.2.1).length) n1440 t1433.2.1, r7 A1442 ((t1433.2.2).length) n1444 t1433.2.2, b14 g1446 none 0 0] w1447) := ⟨HS.out.nilrow 3 (Value.int .i64)⟩; replace HS : Aside0 (Sep (fps []) w [r7 none 0 0 [], r13 none 0 0 [], r13 A1438 ((t1433.2.1).length) n1440 t1433.2.1, r7 A1442 ((t1433.2.2).length) n1444 t1433.2.2, b15 g1446 none 0 0 none 0 0] w1447) := ⟨HS.out.nilrow 33 (Value.int .u32)⟩; have hc1453 : w1447.cell? ⟨g1446, 0, none⟩ = some (.slice none 0 0) := blk_cellv (HS.out.at4) 0 rfl; have hz1454 : w1447.frozen? ⟨g1446, 0, none⟩ = false := blk_fz (HS.out.at4) 0; have hc1455 : w1447.cell? ⟨g1446, 1, none⟩ = some (.slice none 0 0) := blk_cellv (HS.out.at4) 1 rfl; have hz1456 : w1447.frozen? ⟨g1446, 1, none⟩ = false := blk_fz (HS.out.at4) 1) | ((with_reducible refine gate_store (t := 71) (p := 17) rfl ?_); refine store_event (w1 := (World.setCell (World.setCell w1447 ⟨g1446, 0, none⟩ (.slice A1438 ((t1433.2.1).length) n1440)) ⟨g1446, 1, none⟩ (.slice A1442 ((t1433.2.2).length) n1444))) rfl (t := 71) (p := 17) rfl rfl ?hr ?_; (case hr => first | (go_simp; done) | (go_simp; rfl)); intro w1457 hst; clear hc1453 hz1454 hc1455 hz1456; have hq0 : Sep (fps []) w [r7 none 0 0 [], r13 none 0 0 [], r13 A1438 ((t1433.2.1).length) n1440 t1433.2.1, r7 A1442 ((t1433.2.2).length) n1444 t1433.2.2, b15 g1446 A1438 ((t1433.2.1).length) n1440 none 0 0] (World.setCell w1447 ⟨g1446, 0, none⟩ (.slice A1438 ((t1433.2.1).length) n1440)) := (HS.out).set1 (l1 := [r7 none 0 0 [], r13 none 0 0 [], r13 A1438 ((t1433.2.1).length) n1440 t1433.2.1, r7 A1442 ((t1433.2.2).length) n1444 t1433.2.2]) (l2 := []) 0 (.slice A1438 ((t1433.2.1).length) n1440); have hq1 : Sep (fps []) w [r7 none 0 0 [], r13 none 0 0 [], r13 A1438 ((t1433.2.1).length) n1440 t1433.2.1, r7 A1442 ((t1433.2.2).length) n1444 t1433.2.2, b15 g1446 A1438 ((t1433.2.1).length) n1440 A1442 ((t1433.2.2).length) n1444] (World.setCell (World.setCell w1447 ⟨g1446, 0, none⟩ (.slice A1438 ((t1433.2.1).length) n1440)) ⟨g1446, 1, none⟩ (.slice A1442 ((t1433.2.2).length) n1444)) := (hq0).set1 (l1 := [r7 none 0 0 [], r13 none 0 0 [], r13 A1438 ((t1433.2.1).length) n1440 t1433.2.1, r7 A1442 ((t1433.2.2).length) n1444 t1433.2.2]) (l2 := []) 1 (.slice A1442 ((t1433.2.2).length) n1444); replace HS : Aside0 (Sep (fps []) w [r7 none 0 0 [], r13 none 0 0 [], r13 A1438 ((t1433.2.1).length) n1440 t1433.2.1, r7 A1442 ((t1433.2.2).length) n1444 t1433.2.2, b15 g1446 A1438 ((t1433.2.1).length) n1440 A1442 ((t1433.2.2).length) n1444] w1457) := ⟨by rw [hst]; exact hq1⟩; clear hq0 hq1; clear hst; replace HS : Aside0 (Sep (fps []) w [] w1457) := ⟨HS.out.sub (.cons _ (.cons _ (.cons _ (.cons _ (.cons _ .slnil)))))⟩))
    go_ret
    rw [← some_eq H]
    exact ⟨(by first | rfl | (simp [IntKind.wrap_u32]; done)), HS.out⟩
end Go.Proofs.YtobeonkddamnoaaDoor.C

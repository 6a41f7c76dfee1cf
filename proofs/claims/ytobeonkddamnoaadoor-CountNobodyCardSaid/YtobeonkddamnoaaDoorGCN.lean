/- Each function of the group CN does what its plain function says, and changes nothing that was there; proved by walking its code. No condition. -/
import Derived.Test.YtobeonkddamnoaaDoorQw
import Derived.Test.YtobeonkddamnoaaDoorMCN
import Derived.Test.YtobeonkddamnoaaDoorGCN0
import Derived.Test.YtobeonkddamnoaaDoorGCN1
import Derived.Test.YtobeonkddamnoaaDoorGCN2
namespace Go.Proofs.YtobeonkddamnoaaDoor.C
open Go.RowKit Go.Proofs.YtobeonkddamnoaaDoorW.PrintWords Go.Proofs.YtobeonkddamnoaaDoorW.PrintLast Go.Proofs.YtobeonkddamnoaaDoor.Q Go.Proofs.YtobeonkddamnoaaDoor.M
set_option linter.unusedVariables false
set_option linter.unusedSimpArgs false
set_option maxHeartbeats 30000000 in
set_option maxRecDepth 100000 in
theorem quitrentlaw12_begun.calls (k : Nat)  (r : Bool) (w : World)  (HGl0 : Aside0 (Gl 0 #[.int .i64 0, .int .i64 0, .int .i64 0, .int .i64 0, .int .i64 0] (fps []) w)) (HS : Aside0 (Sep (fps []) w [] w)) (H : Aside0 (quitrentlaw12_begun.f k = some r)) :
    Calls Tryd.prog 35 #[] w fun e w' => e = .returned (.bool r) ∧ Sep (fps []) w [] w' := by
  unfold quitrentlaw12_begun.f at H
  go_enter Tryd.func35, Tryd.ntmps35
  go_wp2_with fail
  obtain ⟨t2736, HA2737, H⟩ := bind_some H
  rcases t2736 with t2738 | (t2739 | t2740)
  · have H := sum_l H
    refine (quitrentlaw12_Opened.calls _ 2 16 1 1 (.inl t2738) _ ⟨HGl0.out.pass (l := []) HS.out⟩ ⟨Sep.start _⟩ HA2737).mono ?_
    rintro e_ w2741 ⟨rfl, hS⟩
    replace HS : Aside0 (Sep (fps []) w [] w2741) := ⟨HS.out.call hS⟩
    clear hS
    by_cases c2742 : t2738 = true
    · have H := if_yes c2742 H
      have c2742b0 : t2738 = true := c2742
      have c2742b1 : (!t2738) = false := by rw [c2742b0]; rfl
      try rw [c2742b1]
      clear c2742
      go_wp2_with fail
      obtain ⟨t3297, HA3298, H⟩ := bind_some H
      refine (obj_Make_nil.calls _ 1 1 t3297 _ ⟨HGl0.out.pass (l := []) HS.out⟩ ⟨Sep.start _⟩ HA3298).mono ?_
      rintro e_ w3299 ⟨rfl, hS⟩
      replace HS : Aside0 (Sep (fps []) w [] w3299) := ⟨HS.out.call hS⟩
      clear hS
      go_wp2_with fail
      obtain ⟨t3300, HA3301, H⟩ := bind_some H
      refine (count_Up_nil.calls t3297.1 t3300 _ ⟨HGl0.out.pass (l := []) HS.out⟩ ⟨Sep.start _⟩ HA3301).mono ?_
      rintro e_ w3302 ⟨rfl, hS⟩
      replace HS : Aside0 (Sep (fps []) w [] w3302) := ⟨HS.out.call hS⟩
      clear hS
      go_wp2_with fail
      obtain ⟨t3303, HA3304, H⟩ := bind_some H
      refine (count_Up_nil.calls t3297.1 t3303 _ ⟨HGl0.out.pass (l := []) HS.out⟩ ⟨Sep.start _⟩ HA3304).mono ?_
      rintro e_ w3305 ⟨rfl, hS⟩
      replace HS : Aside0 (Sep (fps []) w [] w3305) := ⟨HS.out.call hS⟩
      clear hS
      go_wp2_with fail
      obtain ⟨t3306, HA3307, H⟩ := bind_some H
      refine (count_Down_nil.calls t3297.1 t3306 _ ⟨HGl0.out.pass (l := []) HS.out⟩ ⟨Sep.start _⟩ HA3307).mono ?_
      rintro e_ w3308 ⟨rfl, hS⟩
      replace HS : Aside0 (Sep (fps []) w [] w3308) := ⟨HS.out.call hS⟩
      clear hS
      go_wp2_with fail
      obtain ⟨t3309, HA3310, H⟩ := bind_some H
      refine (count_Down_nil.calls t3297.1 t3309 _ ⟨HGl0.out.pass (l := []) HS.out⟩ ⟨Sep.start _⟩ HA3310).mono ?_
      rintro e_ w3311 ⟨rfl, hS⟩
      replace HS : Aside0 (Sep (fps []) w [] w3311) := ⟨HS.out.call hS⟩
      clear hS
      go_wp2_with fail
      obtain ⟨t3312, HA3313, H⟩ := bind_some H
      refine (count_Down_nil.calls t3297.1 t3312 _ ⟨HGl0.out.pass (l := []) HS.out⟩ ⟨Sep.start _⟩ HA3313).mono ?_
      rintro e_ w3314 ⟨rfl, hS⟩
      replace HS : Aside0 (Sep (fps []) w [] w3314) := ⟨HS.out.call hS⟩
      clear hS
      by_cases c3315 : t3297.2 = 0
      · have H := if_yes c3315 H
        have c3315b0 : (t3297.2 == 0) = true := beq_iff_eq.mpr c3315
        have c3315b1 : (t3297.2 != 0) = false := bne_eq_false_iff_eq.mpr c3315
        clear c3315
        by_cases c3316 : t3300.1 = 1
        · have H := if_yes c3316 H
          have c3316b0 : (t3300.1 == 1) = true := beq_iff_eq.mpr c3316
          have c3316b1 : (t3300.1 != 1) = false := bne_eq_false_iff_eq.mpr c3316
          clear c3316
          by_cases c3317 : t3303.1 = 2
          · have H := if_yes c3317 H
            have c3317b0 : (t3303.1 == 2) = true := beq_iff_eq.mpr c3317
            have c3317b1 : (t3303.1 != 2) = false := bne_eq_false_iff_eq.mpr c3317
            clear c3317
            by_cases c3318 : t3306.1 = 1
            · have H := if_yes c3318 H
              have c3318b0 : (t3306.1 == 1) = true := beq_iff_eq.mpr c3318
              have c3318b1 : (t3306.1 != 1) = false := bne_eq_false_iff_eq.mpr c3318
              clear c3318
              by_cases c3319 : t3306.2 = true
              · have H := if_yes c3319 H
                have c3319b0 : t3306.2 = true := c3319
                have c3319b1 : (!t3306.2) = false := by rw [c3319b0]; rfl
                clear c3319
                by_cases c3320 : t3309.1 = 0
                · have H := if_yes c3320 H
                  have c3320b0 : (t3309.1 == 0) = true := beq_iff_eq.mpr c3320
                  have c3320b1 : (t3309.1 != 0) = false := bne_eq_false_iff_eq.mpr c3320
                  clear c3320
                  by_cases c3321 : t3309.2 = true
                  · have H := if_yes c3321 H
                    have c3321b0 : t3309.2 = true := c3321
                    have c3321b1 : (!t3309.2) = false := by rw [c3321b0]; rfl
                    clear c3321
                    by_cases c3322 : t3312.1 = 0
                    · have H := if_yes c3322 H
                      have c3322b0 : (t3312.1 == 0) = true := beq_iff_eq.mpr c3322
                      have c3322b1 : (t3312.1 != 0) = false := bne_eq_false_iff_eq.mpr c3322
                      clear c3322
                      go_wp2_with fail
                      go_ret
                      rw [← some_eq H]
                      exact ⟨(by first | rfl | (simp [IntKind.wrap_u32]; done)), HS.out⟩
                    · have H := if_no c3322 H
                      have c3322b0 : (t3312.1 == 0) = false := beq_eq_false_iff_ne.mpr c3322
                      have c3322b1 : (t3312.1 != 0) = true := bne_iff_ne.mpr c3322
                      clear c3322
                      go_wp2_with fail
                      go_ret
                      rw [← some_eq H]
                      exact ⟨(by first | rfl | (simp [IntKind.wrap_u32]; done)), HS.out⟩
                  · have H := if_no c3321 H
                    have c3321b0 : t3309.2 = false := by simpa using c3321
                    have c3321b1 : (!t3309.2) = true := by rw [c3321b0]; rfl
                    clear c3321
                    go_wp2_with fail
                    go_ret
                    rw [← some_eq H]
                    exact ⟨(by first | rfl | (simp [IntKind.wrap_u32]; done)), HS.out⟩
                · have H := if_no c3320 H
                  have c3320b0 : (t3309.1 == 0) = false := beq_eq_false_iff_ne.mpr c3320
                  have c3320b1 : (t3309.1 != 0) = true := bne_iff_ne.mpr c3320
                  clear c3320
                  go_wp2_with fail
                  go_ret
                  rw [← some_eq H]
                  exact ⟨(by first | rfl | (simp [IntKind.wrap_u32]; done)), HS.out⟩
              · have H := if_no c3319 H
                have c3319b0 : t3306.2 = false := by simpa using c3319
                have c3319b1 : (!t3306.2) = true := by rw [c3319b0]; rfl
                clear c3319
                go_wp2_with fail
                go_ret
                rw [← some_eq H]
                exact ⟨(by first | rfl | (simp [IntKind.wrap_u32]; done)), HS.out⟩
            · have H := if_no c3318 H
              have c3318b0 : (t3306.1 == 1) = false := beq_eq_false_iff_ne.mpr c3318
              have c3318b1 : (t3306.1 != 1) = true := bne_iff_ne.mpr c3318
              clear c3318
              go_wp2_with fail
              go_ret
              rw [← some_eq H]
              exact ⟨(by first | rfl | (simp [IntKind.wrap_u32]; done)), HS.out⟩
          · have H := if_no c3317 H
            have c3317b0 : (t3303.1 == 2) = false := beq_eq_false_iff_ne.mpr c3317
            have c3317b1 : (t3303.1 != 2) = true := bne_iff_ne.mpr c3317
            clear c3317
            go_wp2_with fail
            go_ret
            rw [← some_eq H]
            exact ⟨(by first | rfl | (simp [IntKind.wrap_u32]; done)), HS.out⟩
        · have H := if_no c3316 H
          have c3316b0 : (t3300.1 == 1) = false := beq_eq_false_iff_ne.mpr c3316
          have c3316b1 : (t3300.1 != 1) = true := bne_iff_ne.mpr c3316
          clear c3316
          go_wp2_with fail
          go_ret
          rw [← some_eq H]
          exact ⟨(by first | rfl | (simp [IntKind.wrap_u32]; done)), HS.out⟩
      · have H := if_no c3315 H
        have c3315b0 : (t3297.2 == 0) = false := beq_eq_false_iff_ne.mpr c3315
        have c3315b1 : (t3297.2 != 0) = true := bne_iff_ne.mpr c3315
        clear c3315
        go_wp2_with fail
        go_ret
        rw [← some_eq H]
        exact ⟨(by first | rfl | (simp [IntKind.wrap_u32]; done)), HS.out⟩
    · have H := if_no c2742 H
      have c2742b0 : t2738 = false := by simpa using c2742
      have c2742b1 : (!t2738) = true := by rw [c2742b0]; rfl
      try rw [c2742b1]
      clear c2742
      go_wp2_with fail
      go_ret
      rw [← some_eq H]
      exact ⟨(by first | rfl | (simp [IntKind.wrap_u32]; done)), HS.out⟩
  · have H := sum_r H
    have H := sum_l H
    refine (quitrentlaw12_Opened.calls _ 2 16 1 1 (.inr (.inl t2739)) _ ⟨HGl0.out.pass (l := []) HS.out⟩ ⟨Sep.start _⟩ HA2737).mono ?_
    rintro e_ w3323 ⟨g3332, g3333, rfl, g3334, g3335, A3336, m3337, n3338, A3340, m3341, n3342, A3344, m3345, n3346, A3348, m3349, n3350, hS⟩
    replace HS : Aside0 (Sep (fps []) w [b7 g3332 g3334 t2739.2.1 t2739.2.2.1 t2739.2.2.2.1 t2739.2.2.2.2.1, b15 g3333 g3335 0 0 0 0 0 0 0 0 0 A3336 m3337 n3338 A3340 m3341 n3342 0, b6 g3334 A3344 m3345 n3346 t2739.2.2.2.2.2.1, b12 g3335 t2739.2.2.2.2.2.2.1 t2739.2.2.2.2.2.2.2.1 A3348 m3349 n3350, r11 A3336 m3337 n3338 t2739.2.2.2.2.2.2.2.2.1, r11 A3340 m3341 n3342 t2739.2.2.2.2.2.2.2.2.2.1, r5 A3344 m3345 n3346 t2739.2.2.2.2.2.2.2.2.2.2.1, r11 A3348 m3349 n3350 t2739.2.2.2.2.2.2.2.2.2.2.2] w3323) := ⟨HS.out.call hS⟩
    clear hS
    obtain rfl := (row_len (HS.out.at4)).symm
    obtain rfl := (row_len (HS.out.at5)).symm
    obtain rfl := (row_len (HS.out.at6)).symm
    obtain rfl := (row_len (HS.out.at7)).symm
    by_cases c3352 : t2739.1 = true
    · have H := if_yes c3352 H
      have c3352b0 : t2739.1 = true := c3352
      have c3352b1 : (!t2739.1) = false := by rw [c3352b0]; rfl
      try rw [c3352b1]
      clear c3352
      replace HS : Aside0 (Sep (fps []) w [b7 g3332 g3334 t2739.2.1 t2739.2.2.1 t2739.2.2.2.1 t2739.2.2.2.2.1, b6 g3334 A3344 ((t2739.2.2.2.2.2.2.2.2.2.2.1).length) n3346 t2739.2.2.2.2.2.1, r5 A3344 ((t2739.2.2.2.2.2.2.2.2.2.2.1).length) n3346 t2739.2.2.2.2.2.2.2.2.2.2.1] w3323) := ⟨HS.out.sub (.cons_cons _ (.cons _ (.cons_cons _ (.cons _ (.cons _ (.cons _ (.cons_cons _ (.cons _ .slnil))))))))⟩
      go_wp2_with fail
      obtain ⟨t3297, HA3867, H⟩ := bind_some H
      refine (obj_Make.calls _ t2739.2.2.2.2.2.2.2.2.2.2.1 t2739.2.2.2.2.2.1 t2739.2.1 t2739.2.2.1 t2739.2.2.2.1 t2739.2.2.2.2.1 1 1 g3332 g3334 A3344 ((t2739.2.2.2.2.2.2.2.2.2.2.1).length) n3346 t3297 _ ⟨HGl0.out.pass HS.out⟩ ⟨HS.out.begin⟩ HA3867).mono ?_
      rintro e_ w3868 ⟨rfl, hS⟩
      replace HS : Aside0 (Sep (fps []) w [b7 g3332 g3334 t2739.2.1 t2739.2.2.1 t2739.2.2.2.1 t2739.2.2.2.2.1, b6 g3334 A3344 ((t2739.2.2.2.2.2.2.2.2.2.2.1).length) n3346 t3297.2.2.1, r5 A3344 ((t2739.2.2.2.2.2.2.2.2.2.2.1).length) n3346 t3297.2.2.2] w3868) := ⟨HS.out.call hS⟩
      clear hS
      go_wp2_with fail
      obtain ⟨t3300, HA4004, H⟩ := bind_some H
      refine (count_Up.calls t3297.2.2.2 t3297.2.2.1 t2739.2.1 t2739.2.2.1 t2739.2.2.2.1 t2739.2.2.2.2.1 t3297.1 g3332 g3334 A3344 ((t2739.2.2.2.2.2.2.2.2.2.2.1).length) n3346 t3300 _ ⟨HGl0.out.pass HS.out⟩ ⟨HS.out.begin⟩ HA4004).mono ?_
      rintro e_ w4005 ⟨rfl, hS⟩
      replace HS : Aside0 (Sep (fps []) w [b7 g3332 g3334 t2739.2.1 t2739.2.2.1 t2739.2.2.2.1 t2739.2.2.2.2.1, b6 g3334 A3344 ((t2739.2.2.2.2.2.2.2.2.2.2.1).length) n3346 t3300.2.2.1, r5 A3344 ((t2739.2.2.2.2.2.2.2.2.2.2.1).length) n3346 t3300.2.2.2] w4005) := ⟨HS.out.call hS⟩
      clear hS
      go_wp2_with fail
      obtain ⟨t3303, HA4006, H⟩ := bind_some H
      refine (count_Up.calls t3300.2.2.2 t3300.2.2.1 t2739.2.1 t2739.2.2.1 t2739.2.2.2.1 t2739.2.2.2.2.1 t3297.1 g3332 g3334 A3344 ((t2739.2.2.2.2.2.2.2.2.2.2.1).length) n3346 t3303 _ ⟨HGl0.out.pass HS.out⟩ ⟨HS.out.begin⟩ HA4006).mono ?_
      rintro e_ w4007 ⟨rfl, hS⟩
      replace HS : Aside0 (Sep (fps []) w [b7 g3332 g3334 t2739.2.1 t2739.2.2.1 t2739.2.2.2.1 t2739.2.2.2.2.1, b6 g3334 A3344 ((t2739.2.2.2.2.2.2.2.2.2.2.1).length) n3346 t3303.2.2.1, r5 A3344 ((t2739.2.2.2.2.2.2.2.2.2.2.1).length) n3346 t3303.2.2.2] w4007) := ⟨HS.out.call hS⟩
      clear hS
      go_wp2_with fail
      obtain ⟨t3306, HA4030, H⟩ := bind_some H
      refine (count_Down.calls t3303.2.2.2 t3303.2.2.1 t2739.2.1 t2739.2.2.1 t2739.2.2.2.1 t2739.2.2.2.2.1 t3297.1 g3332 g3334 A3344 ((t2739.2.2.2.2.2.2.2.2.2.2.1).length) n3346 t3306 _ ⟨HGl0.out.pass HS.out⟩ ⟨HS.out.begin⟩ HA4030).mono ?_
      rintro e_ w4031 ⟨rfl, hS⟩
      replace HS : Aside0 (Sep (fps []) w [b7 g3332 g3334 t2739.2.1 t2739.2.2.1 t2739.2.2.2.1 t2739.2.2.2.2.1, b6 g3334 A3344 ((t2739.2.2.2.2.2.2.2.2.2.2.1).length) n3346 t3306.2.2.1, r5 A3344 ((t2739.2.2.2.2.2.2.2.2.2.2.1).length) n3346 t3306.2.2.2] w4031) := ⟨HS.out.call hS⟩
      clear hS
      go_wp2_with fail
      obtain ⟨t3309, HA4032, H⟩ := bind_some H
      refine (count_Down.calls t3306.2.2.2 t3306.2.2.1 t2739.2.1 t2739.2.2.1 t2739.2.2.2.1 t2739.2.2.2.2.1 t3297.1 g3332 g3334 A3344 ((t2739.2.2.2.2.2.2.2.2.2.2.1).length) n3346 t3309 _ ⟨HGl0.out.pass HS.out⟩ ⟨HS.out.begin⟩ HA4032).mono ?_
      rintro e_ w4033 ⟨rfl, hS⟩
      replace HS : Aside0 (Sep (fps []) w [b7 g3332 g3334 t2739.2.1 t2739.2.2.1 t2739.2.2.2.1 t2739.2.2.2.2.1, b6 g3334 A3344 ((t2739.2.2.2.2.2.2.2.2.2.2.1).length) n3346 t3309.2.2.1, r5 A3344 ((t2739.2.2.2.2.2.2.2.2.2.2.1).length) n3346 t3309.2.2.2] w4033) := ⟨HS.out.call hS⟩
      clear hS
      go_wp2_with fail
      obtain ⟨t3312, HA4034, H⟩ := bind_some H
      refine (count_Down.calls t3309.2.2.2 t3309.2.2.1 t2739.2.1 t2739.2.2.1 t2739.2.2.2.1 t2739.2.2.2.2.1 t3297.1 g3332 g3334 A3344 ((t2739.2.2.2.2.2.2.2.2.2.2.1).length) n3346 t3312 _ ⟨HGl0.out.pass HS.out⟩ ⟨HS.out.begin⟩ HA4034).mono ?_
      rintro e_ w4035 ⟨rfl, hS⟩
      replace HS : Aside0 (Sep (fps []) w [b7 g3332 g3334 t2739.2.1 t2739.2.2.1 t2739.2.2.2.1 t2739.2.2.2.2.1, b6 g3334 A3344 ((t2739.2.2.2.2.2.2.2.2.2.2.1).length) n3346 t3312.2.2.1, r5 A3344 ((t2739.2.2.2.2.2.2.2.2.2.2.1).length) n3346 t3312.2.2.2] w4035) := ⟨HS.out.call hS⟩
      clear hS
      by_cases c4036 : t3297.2.1 = 0
      · have H := if_yes c4036 H
        have c4036b0 : (t3297.2.1 == 0) = true := beq_iff_eq.mpr c4036
        have c4036b1 : (t3297.2.1 != 0) = false := bne_eq_false_iff_eq.mpr c4036
        clear c4036
        by_cases c4037 : t3300.1 = 1
        · have H := if_yes c4037 H
          have c4037b0 : (t3300.1 == 1) = true := beq_iff_eq.mpr c4037
          have c4037b1 : (t3300.1 != 1) = false := bne_eq_false_iff_eq.mpr c4037
          clear c4037
          by_cases c4038 : t3303.1 = 2
          · have H := if_yes c4038 H
            have c4038b0 : (t3303.1 == 2) = true := beq_iff_eq.mpr c4038
            have c4038b1 : (t3303.1 != 2) = false := bne_eq_false_iff_eq.mpr c4038
            clear c4038
            by_cases c4039 : t3306.1 = 1
            · have H := if_yes c4039 H
              have c4039b0 : (t3306.1 == 1) = true := beq_iff_eq.mpr c4039
              have c4039b1 : (t3306.1 != 1) = false := bne_eq_false_iff_eq.mpr c4039
              clear c4039
              by_cases c4040 : t3306.2.1 = true
              · have H := if_yes c4040 H
                have c4040b0 : t3306.2.1 = true := c4040
                have c4040b1 : (!t3306.2.1) = false := by rw [c4040b0]; rfl
                clear c4040
                by_cases c4041 : t3309.1 = 0
                · have H := if_yes c4041 H
                  have c4041b0 : (t3309.1 == 0) = true := beq_iff_eq.mpr c4041
                  have c4041b1 : (t3309.1 != 0) = false := bne_eq_false_iff_eq.mpr c4041
                  clear c4041
                  by_cases c4042 : t3309.2.1 = true
                  · have H := if_yes c4042 H
                    have c4042b0 : t3309.2.1 = true := c4042
                    have c4042b1 : (!t3309.2.1) = false := by rw [c4042b0]; rfl
                    clear c4042
                    by_cases c4043 : t3312.1 = 0
                    · have H := if_yes c4043 H
                      have c4043b0 : (t3312.1 == 0) = true := beq_iff_eq.mpr c4043
                      have c4043b1 : (t3312.1 != 0) = false := bne_eq_false_iff_eq.mpr c4043
                      clear c4043
                      replace HS : Aside0 (Sep (fps []) w [] w4035) := ⟨HS.out.sub (.cons _ (.cons _ (.cons _ .slnil)))⟩
                      go_wp2_with fail
                      go_ret
                      rw [← some_eq H]
                      exact ⟨(by first | rfl | (simp [IntKind.wrap_u32]; done)), HS.out⟩
                    · have H := if_no c4043 H
                      have c4043b0 : (t3312.1 == 0) = false := beq_eq_false_iff_ne.mpr c4043
                      have c4043b1 : (t3312.1 != 0) = true := bne_iff_ne.mpr c4043
                      clear c4043
                      replace HS : Aside0 (Sep (fps []) w [] w4035) := ⟨HS.out.sub (.cons _ (.cons _ (.cons _ .slnil)))⟩
                      go_wp2_with fail
                      go_ret
                      rw [← some_eq H]
                      exact ⟨(by first | rfl | (simp [IntKind.wrap_u32]; done)), HS.out⟩
                  · have H := if_no c4042 H
                    have c4042b0 : t3309.2.1 = false := by simpa using c4042
                    have c4042b1 : (!t3309.2.1) = true := by rw [c4042b0]; rfl
                    clear c4042
                    replace HS : Aside0 (Sep (fps []) w [] w4035) := ⟨HS.out.sub (.cons _ (.cons _ (.cons _ .slnil)))⟩
                    go_wp2_with fail
                    go_ret
                    rw [← some_eq H]
                    exact ⟨(by first | rfl | (simp [IntKind.wrap_u32]; done)), HS.out⟩
                · have H := if_no c4041 H
                  have c4041b0 : (t3309.1 == 0) = false := beq_eq_false_iff_ne.mpr c4041
                  have c4041b1 : (t3309.1 != 0) = true := bne_iff_ne.mpr c4041
                  clear c4041
                  replace HS : Aside0 (Sep (fps []) w [] w4035) := ⟨HS.out.sub (.cons _ (.cons _ (.cons _ .slnil)))⟩
                  go_wp2_with fail
                  go_ret
                  rw [← some_eq H]
                  exact ⟨(by first | rfl | (simp [IntKind.wrap_u32]; done)), HS.out⟩
              · have H := if_no c4040 H
                have c4040b0 : t3306.2.1 = false := by simpa using c4040
                have c4040b1 : (!t3306.2.1) = true := by rw [c4040b0]; rfl
                clear c4040
                replace HS : Aside0 (Sep (fps []) w [] w4035) := ⟨HS.out.sub (.cons _ (.cons _ (.cons _ .slnil)))⟩
                go_wp2_with fail
                go_ret
                rw [← some_eq H]
                exact ⟨(by first | rfl | (simp [IntKind.wrap_u32]; done)), HS.out⟩
            · have H := if_no c4039 H
              have c4039b0 : (t3306.1 == 1) = false := beq_eq_false_iff_ne.mpr c4039
              have c4039b1 : (t3306.1 != 1) = true := bne_iff_ne.mpr c4039
              clear c4039
              replace HS : Aside0 (Sep (fps []) w [] w4035) := ⟨HS.out.sub (.cons _ (.cons _ (.cons _ .slnil)))⟩
              go_wp2_with fail
              go_ret
              rw [← some_eq H]
              exact ⟨(by first | rfl | (simp [IntKind.wrap_u32]; done)), HS.out⟩
          · have H := if_no c4038 H
            have c4038b0 : (t3303.1 == 2) = false := beq_eq_false_iff_ne.mpr c4038
            have c4038b1 : (t3303.1 != 2) = true := bne_iff_ne.mpr c4038
            clear c4038
            replace HS : Aside0 (Sep (fps []) w [] w4035) := ⟨HS.out.sub (.cons _ (.cons _ (.cons _ .slnil)))⟩
            go_wp2_with fail
            go_ret
            rw [← some_eq H]
            exact ⟨(by first | rfl | (simp [IntKind.wrap_u32]; done)), HS.out⟩
        · have H := if_no c4037 H
          have c4037b0 : (t3300.1 == 1) = false := beq_eq_false_iff_ne.mpr c4037
          have c4037b1 : (t3300.1 != 1) = true := bne_iff_ne.mpr c4037
          clear c4037
          replace HS : Aside0 (Sep (fps []) w [] w4035) := ⟨HS.out.sub (.cons _ (.cons _ (.cons _ .slnil)))⟩
          go_wp2_with fail
          go_ret
          rw [← some_eq H]
          exact ⟨(by first | rfl | (simp [IntKind.wrap_u32]; done)), HS.out⟩
      · have H := if_no c4036 H
        have c4036b0 : (t3297.2.1 == 0) = false := beq_eq_false_iff_ne.mpr c4036
        have c4036b1 : (t3297.2.1 != 0) = true := bne_iff_ne.mpr c4036
        clear c4036
        replace HS : Aside0 (Sep (fps []) w [] w4035) := ⟨HS.out.sub (.cons _ (.cons _ (.cons _ .slnil)))⟩
        go_wp2_with fail
        go_ret
        rw [← some_eq H]
        exact ⟨(by first | rfl | (simp [IntKind.wrap_u32]; done)), HS.out⟩
    · have H := if_no c3352 H
      have c3352b0 : t2739.1 = false := by simpa using c3352
      have c3352b1 : (!t2739.1) = true := by rw [c3352b0]; rfl
      try rw [c3352b1]
      clear c3352
      replace HS : Aside0 (Sep (fps []) w [b7 g3332 g3334 t2739.2.1 t2739.2.2.1 t2739.2.2.2.1 t2739.2.2.2.2.1, b6 g3334 A3344 ((t2739.2.2.2.2.2.2.2.2.2.2.1).length) n3346 t2739.2.2.2.2.2.1, r5 A3344 ((t2739.2.2.2.2.2.2.2.2.2.2.1).length) n3346 t2739.2.2.2.2.2.2.2.2.2.2.1] w3323) := ⟨HS.out.sub (.cons_cons _ (.cons _ (.cons_cons _ (.cons _ (.cons _ (.cons _ (.cons_cons _ (.cons _ .slnil))))))))⟩
      replace HS : Aside0 (Sep (fps []) w [] w3323) := ⟨HS.out.sub (.cons _ (.cons _ (.cons _ .slnil)))⟩
      go_wp2_with fail
      go_ret
      rw [← some_eq H]
      exact ⟨(by first | rfl | (simp [IntKind.wrap_u32]; done)), HS.out⟩
  · have H := sum_r H
    have H := sum_r H
    refine (quitrentlaw12_Opened.calls _ 2 16 1 1 (.inr (.inr t2740)) _ ⟨HGl0.out.pass (l := []) HS.out⟩ ⟨Sep.start _⟩ HA2737).mono ?_
    rintro e_ w4044 ⟨g4050, rfl, g4051, A4052, m4053, n4054, A4056, m4057, n4058, A4060, m4061, n4062, hS⟩
    replace HS : Aside0 (Sep (fps []) w [b15 g4050 g4051 0 0 0 0 0 0 0 0 0 A4052 m4053 n4054 A4056 m4057 n4058 0, b12 g4051 t2740.2.1 t2740.2.2.1 A4060 m4061 n4062, r11 A4052 m4053 n4054 t2740.2.2.2.1, r11 A4056 m4057 n4058 t2740.2.2.2.2.1, r11 A4060 m4061 n4062 t2740.2.2.2.2.2] w4044) := ⟨HS.out.call hS⟩
    clear hS
    obtain rfl := (row_len (HS.out.at2)).symm
    obtain rfl := (row_len (HS.out.at3)).symm
    obtain rfl := (row_len (HS.out.at4)).symm
    by_cases c4064 : t2740.1 = true
    · have H := if_yes c4064 H
      have c4064b0 : t2740.1 = true := c4064
      have c4064b1 : (!t2740.1) = false := by rw [c4064b0]; rfl
      try rw [c4064b1]
      clear c4064
      replace HS : Aside0 (Sep (fps []) w [] w4044) := ⟨HS.out.sub (.cons _ (.cons _ (.cons _ (.cons _ (.cons _ .slnil)))))⟩
      go_wp2_with fail
      obtain ⟨t3297, HA4065, H⟩ := bind_some H
      refine (obj_Make_nil.calls _ 1 1 t3297 _ ⟨HGl0.out.pass (l := []) HS.out⟩ ⟨Sep.start _⟩ HA4065).mono ?_
      rintro e_ w4066 ⟨rfl, hS⟩
      replace HS : Aside0 (Sep (fps []) w [] w4066) := ⟨HS.out.call hS⟩
      clear hS
      go_wp2_with fail
      obtain ⟨t3300, HA4067, H⟩ := bind_some H
      refine (count_Up_nil.calls t3297.1 t3300 _ ⟨HGl0.out.pass (l := []) HS.out⟩ ⟨Sep.start _⟩ HA4067).mono ?_
      rintro e_ w4068 ⟨rfl, hS⟩
      replace HS : Aside0 (Sep (fps []) w [] w4068) := ⟨HS.out.call hS⟩
      clear hS
      go_wp2_with fail
      obtain ⟨t3303, HA4069, H⟩ := bind_some H
      refine (count_Up_nil.calls t3297.1 t3303 _ ⟨HGl0.out.pass (l := []) HS.out⟩ ⟨Sep.start _⟩ HA4069).mono ?_
      rintro e_ w4070 ⟨rfl, hS⟩
      replace HS : Aside0 (Sep (fps []) w [] w4070) := ⟨HS.out.call hS⟩
      clear hS
      go_wp2_with fail
      obtain ⟨t3306, HA4071, H⟩ := bind_some H
      refine (count_Down_nil.calls t3297.1 t3306 _ ⟨HGl0.out.pass (l := []) HS.out⟩ ⟨Sep.start _⟩ HA4071).mono ?_
      rintro e_ w4072 ⟨rfl, hS⟩
      replace HS : Aside0 (Sep (fps []) w [] w4072) := ⟨HS.out.call hS⟩
      clear hS
      go_wp2_with fail
      obtain ⟨t3309, HA4073, H⟩ := bind_some H
      refine (count_Down_nil.calls t3297.1 t3309 _ ⟨HGl0.out.pass (l := []) HS.out⟩ ⟨Sep.start _⟩ HA4073).mono ?_
      rintro e_ w4074 ⟨rfl, hS⟩
      replace HS : Aside0 (Sep (fps []) w [] w4074) := ⟨HS.out.call hS⟩
      clear hS
      go_wp2_with fail
      obtain ⟨t3312, HA4075, H⟩ := bind_some H
      refine (count_Down_nil.calls t3297.1 t3312 _ ⟨HGl0.out.pass (l := []) HS.out⟩ ⟨Sep.start _⟩ HA4075).mono ?_
      rintro e_ w4076 ⟨rfl, hS⟩
      replace HS : Aside0 (Sep (fps []) w [] w4076) := ⟨HS.out.call hS⟩
      clear hS
      by_cases c4077 : t3297.2 = 0
      · have H := if_yes c4077 H
        have c4077b0 : (t3297.2 == 0) = true := beq_iff_eq.mpr c4077
        have c4077b1 : (t3297.2 != 0) = false := bne_eq_false_iff_eq.mpr c4077
        clear c4077
        by_cases c4078 : t3300.1 = 1
        · have H := if_yes c4078 H
          have c4078b0 : (t3300.1 == 1) = true := beq_iff_eq.mpr c4078
          have c4078b1 : (t3300.1 != 1) = false := bne_eq_false_iff_eq.mpr c4078
          clear c4078
          by_cases c4079 : t3303.1 = 2
          · have H := if_yes c4079 H
            have c4079b0 : (t3303.1 == 2) = true := beq_iff_eq.mpr c4079
            have c4079b1 : (t3303.1 != 2) = false := bne_eq_false_iff_eq.mpr c4079
            clear c4079
            by_cases c4080 : t3306.1 = 1
            · have H := if_yes c4080 H
              have c4080b0 : (t3306.1 == 1) = true := beq_iff_eq.mpr c4080
              have c4080b1 : (t3306.1 != 1) = false := bne_eq_false_iff_eq.mpr c4080
              clear c4080
              by_cases c4081 : t3306.2 = true
              · have H := if_yes c4081 H
                have c4081b0 : t3306.2 = true := c4081
                have c4081b1 : (!t3306.2) = false := by rw [c4081b0]; rfl
                clear c4081
                by_cases c4082 : t3309.1 = 0
                · have H := if_yes c4082 H
                  have c4082b0 : (t3309.1 == 0) = true := beq_iff_eq.mpr c4082
                  have c4082b1 : (t3309.1 != 0) = false := bne_eq_false_iff_eq.mpr c4082
                  clear c4082
                  by_cases c4083 : t3309.2 = true
                  · have H := if_yes c4083 H
                    have c4083b0 : t3309.2 = true := c4083
                    have c4083b1 : (!t3309.2) = false := by rw [c4083b0]; rfl
                    clear c4083
                    by_cases c4084 : t3312.1 = 0
                    · have H := if_yes c4084 H
                      have c4084b0 : (t3312.1 == 0) = true := beq_iff_eq.mpr c4084
                      have c4084b1 : (t3312.1 != 0) = false := bne_eq_false_iff_eq.mpr c4084
                      clear c4084
                      go_wp2_with fail
                      go_ret
                      rw [← some_eq H]
                      exact ⟨(by first | rfl | (simp [IntKind.wrap_u32]; done)), HS.out⟩
                    · have H := if_no c4084 H
                      have c4084b0 : (t3312.1 == 0) = false := beq_eq_false_iff_ne.mpr c4084
                      have c4084b1 : (t3312.1 != 0) = true := bne_iff_ne.mpr c4084
                      clear c4084
                      go_wp2_with fail
                      go_ret
                      rw [← some_eq H]
                      exact ⟨(by first | rfl | (simp [IntKind.wrap_u32]; done)), HS.out⟩
                  · have H := if_no c4083 H
                    have c4083b0 : t3309.2 = false := by simpa using c4083
                    have c4083b1 : (!t3309.2) = true := by rw [c4083b0]; rfl
                    clear c4083
                    go_wp2_with fail
                    go_ret
                    rw [← some_eq H]
                    exact ⟨(by first | rfl | (simp [IntKind.wrap_u32]; done)), HS.out⟩
                · have H := if_no c4082 H
                  have c4082b0 : (t3309.1 == 0) = false := beq_eq_false_iff_ne.mpr c4082
                  have c4082b1 : (t3309.1 != 0) = true := bne_iff_ne.mpr c4082
                  clear c4082
                  go_wp2_with fail
                  go_ret
                  rw [← some_eq H]
                  exact ⟨(by first | rfl | (simp [IntKind.wrap_u32]; done)), HS.out⟩
              · have H := if_no c4081 H
                have c4081b0 : t3306.2 = false := by simpa using c4081
                have c4081b1 : (!t3306.2) = true := by rw [c4081b0]; rfl
                clear c4081
                go_wp2_with fail
                go_ret
                rw [← some_eq H]
                exact ⟨(by first | rfl | (simp [IntKind.wrap_u32]; done)), HS.out⟩
            · have H := if_no c4080 H
              have c4080b0 : (t3306.1 == 1) = false := beq_eq_false_iff_ne.mpr c4080
              have c4080b1 : (t3306.1 != 1) = true := bne_iff_ne.mpr c4080
              clear c4080
              go_wp2_with fail
              go_ret
              rw [← some_eq H]
              exact ⟨(by first | rfl | (simp [IntKind.wrap_u32]; done)), HS.out⟩
          · have H := if_no c4079 H
            have c4079b0 : (t3303.1 == 2) = false := beq_eq_false_iff_ne.mpr c4079
            have c4079b1 : (t3303.1 != 2) = true := bne_iff_ne.mpr c4079
            clear c4079
            go_wp2_with fail
            go_ret
            rw [← some_eq H]
            exact ⟨(by first | rfl | (simp [IntKind.wrap_u32]; done)), HS.out⟩
        · have H := if_no c4078 H
          have c4078b0 : (t3300.1 == 1) = false := beq_eq_false_iff_ne.mpr c4078
          have c4078b1 : (t3300.1 != 1) = true := bne_iff_ne.mpr c4078
          clear c4078
          go_wp2_with fail
          go_ret
          rw [← some_eq H]
          exact ⟨(by first | rfl | (simp [IntKind.wrap_u32]; done)), HS.out⟩
      · have H := if_no c4077 H
        have c4077b0 : (t3297.2 == 0) = false := beq_eq_false_iff_ne.mpr c4077
        have c4077b1 : (t3297.2 != 0) = true := bne_iff_ne.mpr c4077
        clear c4077
        go_wp2_with fail
        go_ret
        rw [← some_eq H]
        exact ⟨(by first | rfl | (simp [IntKind.wrap_u32]; done)), HS.out⟩
    · have H := if_no c4064 H
      have c4064b0 : t2740.1 = false := by simpa using c4064
      have c4064b1 : (!t2740.1) = true := by rw [c4064b0]; rfl
      try rw [c4064b1]
      clear c4064
      replace HS : Aside0 (Sep (fps []) w [] w4044) := ⟨HS.out.sub (.cons _ (.cons _ (.cons _ (.cons _ (.cons _ .slnil)))))⟩
      go_wp2_with fail
      go_ret
      rw [← some_eq H]
      exact ⟨(by first | rfl | (simp [IntKind.wrap_u32]; done)), HS.out⟩

set_option maxHeartbeats 30000000 in
set_option maxRecDepth 100000 in
theorem count_Of.calls (l4145 : List Int) (a4150 : Int) (a4151 : Int) (a4152 : Int) (a4153 : Int) (a4154 : Int) (a4155 : Int) (g4141 : Nat) (g4143 : Nat) (A4146 : Option Addr) (m4147 : Nat) (n4148 : Nat) (r : Int × Int) (w : World)  (HGl0 : Aside0 (Gl 0 #[.int .i64 0, .int .i64 0, .int .i64 0, .int .i64 0, .int .i64 0] (fps [b7 g4141 g4143 a4151 a4152 a4153 a4154, b6 g4143 A4146 m4147 n4148 a4150, r5 A4146 m4147 n4148 l4145]) w)) (HS : Aside0 (Sep (fps [b7 g4141 g4143 a4151 a4152 a4153 a4154, b6 g4143 A4146 m4147 n4148 a4150, r5 A4146 m4147 n4148 l4145]) w [b7 g4141 g4143 a4151 a4152 a4153 a4154, b6 g4143 A4146 m4147 n4148 a4150, r5 A4146 m4147 n4148 l4145] w)) (H : Aside0 (count_Of.f l4145 a4150 a4151 a4152 a4153 a4154 a4155 = some r)) :
    Calls Tryd.prog 39 #[.pointer (some ⟨g4141, 0, none⟩), .int .i64 a4155] w fun e w' => e = .returned (.int .i64 r.1) ∧ Sep (fps [b7 g4141 g4143 a4151 a4152 a4153 a4154, b6 g4143 A4146 m4147 n4148 a4150, r5 A4146 m4147 n4148 l4145]) w [b7 g4141 g4143 a4151 a4152 a4153 a4154, b6 g4143 A4146 m4147 n4148 r.2, r5 A4146 m4147 n4148 l4145] w' := by
  generalize (fps [b7 g4141 g4143 a4151 a4152 a4153 a4154, b6 g4143 A4146 m4147 n4148 a4150, r5 A4146 m4147 n4148 l4145]) = FF at HS HGl0 ⊢
  obtain rfl := (row_len (HS.out.at2)).symm
  unfold count_Of.f at H
  go_enter Tryd.func39, Tryd.ntmps39
  go_wp2_with fail
  obtain ⟨t4163, HA4164, H⟩ := bind_some H
  refine (obj_Is.calls l4145 a4150 a4151 a4152 a4153 a4154 a4155 g4141 g4143 A4146 l4145.length n4148 t4163 _ ⟨HGl0.out.pass HS.out⟩ ⟨HS.out.begin⟩ HA4164).mono ?_
  rintro e_ w4165 ⟨rfl, hS⟩
  replace HS : Aside0 (Sep FF w [b7 g4141 g4143 a4151 a4152 a4153 a4154, b6 g4143 A4146 l4145.length n4148 t4163.2, r5 A4146 l4145.length n4148 l4145] w4165) := ⟨HS.out.call hS⟩
  clear hS
  by_cases c4166 : t4163.1 = true
  · have H := if_yes c4166 H
    have c4166b0 : t4163.1 = true := c4166
    have c4166b1 : (!t4163.1) = false := by rw [c4166b0]; rfl
    try rw [c4166b1]
    clear c4166
    go_wp2_with fail
    obtain ⟨t4167, HA4168, H⟩ := bind_some H
    refine (ground_Ground_Word.calls l4145 t4163.2 a4151 a4152 a4153 a4154 (wrap64 (a4155 - 1)) 3 g4141 g4143 A4146 l4145.length n4148 t4167 _ ⟨HGl0.out.pass HS.out⟩ ⟨HS.out.begin⟩ HA4168).mono ?_
    rintro e_ w4169 ⟨rfl, hS⟩
    replace HS : Aside0 (Sep FF w [b7 g4141 g4143 a4151 a4152 a4153 a4154, b6 g4143 A4146 l4145.length n4148 t4167.2, r5 A4146 l4145.length n4148 l4145] w4169) := ⟨HS.out.call hS⟩
    clear hS
    go_wp2_with fail
    go_ret
    rw [← some_eq H]
    exact ⟨(by first | rfl | (simp [IntKind.wrap_u32]; done)), HS.out⟩
  · have H := if_no c4166 H
    have c4166b0 : t4163.1 = false := by simpa using c4166
    have c4166b1 : (!t4163.1) = true := by rw [c4166b0]; rfl
    try rw [c4166b1]
    clear c4166
    go_wp2_with fail
    go_ret
    rw [← some_eq H]
    exact ⟨(by first | rfl | (simp [IntKind.wrap_u32]; done)), HS.out⟩

set_option maxHeartbeats 30000000 in
set_option maxRecDepth 100000 in
theorem store_Store_Peek.calls (l4242 : List Int) (a4247 : Int) (a4248 : Int) (g4240 : Nat) (A4243 : Option Addr) (m4244 : Nat) (n4245 : Nat) (r : Int) (w : World)  (HGl0 : Aside0 (Gl 0 #[.int .i64 0, .int .i64 0, .int .i64 0, .int .i64 0, .int .i64 0] (fps [b6 g4240 A4243 m4244 n4245 a4247, r5 A4243 m4244 n4245 l4242]) w)) (HS : Aside0 (Sep (fps [b6 g4240 A4243 m4244 n4245 a4247, r5 A4243 m4244 n4245 l4242]) w [b6 g4240 A4243 m4244 n4245 a4247, r5 A4243 m4244 n4245 l4242] w)) (H : Aside0 (store_Store_Peek.f l4242 a4247 a4248 = some r)) :
    Calls Tryd.prog 73 #[.pointer (some ⟨g4240, 0, none⟩), .int .i64 a4248] w fun e w' => e = .returned (.int .u32 r) ∧ Sep (fps [b6 g4240 A4243 m4244 n4245 a4247, r5 A4243 m4244 n4245 l4242]) w [b6 g4240 A4243 m4244 n4245 a4247, r5 A4243 m4244 n4245 l4242] w' := by
  generalize (fps [b6 g4240 A4243 m4244 n4245 a4247, r5 A4243 m4244 n4245 l4242]) = FF at HS HGl0 ⊢
  obtain rfl := (row_len (HS.out.at1)).symm
  unfold store_Store_Peek.f at H
  go_enter Tryd.func73, Tryd.ntmps73
  go_wp2_with fail
  obtain ⟨t4249, HA4250, H⟩ := bind_some H
  refine (store_Store_has.calls l4242 a4247 a4248 g4240 A4243 l4242.length n4245 t4249 _ ⟨HGl0.out.pass HS.out⟩ ⟨HS.out.begin⟩ HA4250).mono ?_
  rintro e_ w4251 ⟨rfl, hS⟩
  replace HS : Aside0 (Sep FF w [b6 g4240 A4243 l4242.length n4245 a4247, r5 A4243 l4242.length n4245 l4242] w4251) := ⟨HS.out.call hS⟩
  clear hS
  by_cases c4252 : t4249 = true
  · have H := if_yes c4252 H
    have c4252b0 : t4249 = true := c4252
    have c4252b1 : (!t4249) = false := by rw [c4252b0]; rfl
    try rw [c4252b1]
    clear c4252
    by_cases c4254 : 0 ≤ a4248
    · have H := if_yes c4254 H
      have c4254b0 : decide (0 ≤ a4248) = true := decide_eq_true c4254
      have c4254p : (0 ≤ a4248) = True := eq_true c4254
      clear c4254
      by_cases c4255 : a4248 < (l4242.length : Int)
      · have H := if_yes c4255 H
        have c4255b0 : decide (a4248 < (l4242.length : Int)) = true := decide_eq_true c4255
        have c4255p : (a4248 < (l4242.length : Int)) = True := eq_true c4255
        clear c4255
        have hc4253 : w4251.cell? ⟨g4240, 0, none⟩ = some (.slice A4243 l4242.length n4245) := blk_cellv (HS.out.at0) 0 rfl
        obtain ⟨g4256, ea⟩ := row_at (HS.out.at1) (by have := (of_decide_eq_true c4254b0); have := (of_decide_eq_true c4255b0); omega); cases ea
        have hx4257 := C_at_int (row_Ci (HS.out.at1)) a4248 (of_decide_eq_true c4254b0) (of_decide_eq_true c4255b0)
        have hx4258 : w4251.cell? ⟨g4256, (a4248).toNat, none⟩ = some (.int .u32 (rd l4242 a4248)) := (row_get 0 (HS.out.at1) a4248 (of_decide_eq_true c4254b0) (of_decide_eq_true c4255b0)).1
        go_wp2_with fail
        clear hc4253 hx4257 hx4258
        go_ret
        rw [← some_eq H]
        exact ⟨(by first | rfl | (simp [IntKind.wrap_u32]; done)), HS.out⟩
      · have H := if_no c4255 H
        have c4255b0 : decide (a4248 < (l4242.length : Int)) = false := decide_eq_false c4255
        clear c4255
        exact (none_no H).elim
    · have H := if_no c4254 H
      have c4254b0 : decide (0 ≤ a4248) = false := decide_eq_false c4254
      clear c4254
      exact (none_no H).elim
  · have H := if_no c4252 H
    have c4252b0 : t4249 = false := by simpa using c4252
    have c4252b1 : (!t4249) = true := by rw [c4252b0]; rfl
    try rw [c4252b1]
    clear c4252
    go_wp2_with fail
    go_ret
    rw [← some_eq H]
    exact ⟨(by first | rfl | (simp [IntKind.wrap_u32]; done)), HS.out⟩

set_option maxHeartbeats 30000000 in
set_option maxRecDepth 100000 in
theorem ground_Ground_SeeWord.calls (l4221 : List Int) (a4226 : Int) (a4227 : Int) (a4228 : Int) (a4229 : Int) (a4230 : Int) (a4231 : Int) (a4232 : Int) (g4217 : Nat) (g4219 : Nat) (A4222 : Option Addr) (m4223 : Nat) (n4224 : Nat) (r : Int) (w : World)  (HGl0 : Aside0 (Gl 0 #[.int .i64 0, .int .i64 0, .int .i64 0, .int .i64 0, .int .i64 0] (fps [b7 g4217 g4219 a4227 a4228 a4229 a4230, b6 g4219 A4222 m4223 n4224 a4226, r5 A4222 m4223 n4224 l4221]) w)) (HS : Aside0 (Sep (fps [b7 g4217 g4219 a4227 a4228 a4229 a4230, b6 g4219 A4222 m4223 n4224 a4226, r5 A4222 m4223 n4224 l4221]) w [b7 g4217 g4219 a4227 a4228 a4229 a4230, b6 g4219 A4222 m4223 n4224 a4226, r5 A4222 m4223 n4224 l4221] w)) (H : Aside0 (ground_Ground_SeeWord.f l4221 a4226 a4227 a4228 a4229 a4230 a4231 a4232 = some r)) :
    Calls Tryd.prog 18 #[.pointer (some ⟨g4217, 0, none⟩), .int .i64 a4231, .int .i64 a4232] w fun e w' => e = .returned (.int .u32 r) ∧ Sep (fps [b7 g4217 g4219 a4227 a4228 a4229 a4230, b6 g4219 A4222 m4223 n4224 a4226, r5 A4222 m4223 n4224 l4221]) w [b7 g4217 g4219 a4227 a4228 a4229 a4230, b6 g4219 A4222 m4223 n4224 a4226, r5 A4222 m4223 n4224 l4221] w' := by
  generalize (fps [b7 g4217 g4219 a4227 a4228 a4229 a4230, b6 g4219 A4222 m4223 n4224 a4226, r5 A4222 m4223 n4224 l4221]) = FF at HS HGl0 ⊢
  obtain rfl := (row_len (HS.out.at2)).symm
  unfold ground_Ground_SeeWord.f at H
  go_enter Tryd.func18, Tryd.ntmps18
  go_wp2_with fail
  obtain ⟨t4233, HA4234, H⟩ := bind_some H
  refine (ground_Ground_all.calls l4221 a4226 a4227 a4228 a4229 a4230 g4217 g4219 A4222 l4221.length n4224 t4233 _ ⟨HGl0.out.pass HS.out⟩ ⟨HS.out.begin⟩ HA4234).mono ?_
  rintro e_ w4235 ⟨rfl, hS⟩
  replace HS : Aside0 (Sep FF w [b7 g4217 g4219 a4227 a4228 a4229 a4230, b6 g4219 A4222 l4221.length n4224 a4226, r5 A4222 l4221.length n4224 l4221] w4235) := ⟨HS.out.call hS⟩
  clear hS
  go_wp2_with fail
  obtain ⟨t4236, HA4237, H⟩ := bind_some H
  refine (ground_Ground_word.calls l4221 a4226 a4227 a4228 a4229 a4230 a4231 a4232 g4217 g4219 A4222 l4221.length n4224 t4236 _ ⟨HGl0.out.pass HS.out⟩ ⟨HS.out.begin⟩ HA4237).mono ?_
  rintro e_ w4238 ⟨rfl, hS⟩
  replace HS : Aside0 (Sep FF w [b7 g4217 g4219 a4227 a4228 a4229 a4230, b6 g4219 A4222 l4221.length n4224 a4226, r5 A4222 l4221.length n4224 l4221] w4238) := ⟨HS.out.call hS⟩
  clear hS
  go_wp2_with fail
  replace HS : Aside0 (Sep FF w [r5 A4222 l4221.length n4224 l4221, b7 g4217 g4219 a4227 a4228 a4229 a4230, b6 g4219 A4222 l4221.length n4224 a4226] w4238) := ⟨HS.out.front 2 (by simp)⟩
  replace HS : Aside0 (Sep FF w [b6 g4219 A4222 l4221.length n4224 a4226, r5 A4222 l4221.length n4224 l4221, b7 g4217 g4219 a4227 a4228 a4229 a4230] w4238) := ⟨HS.out.front 2 (by simp)⟩
  obtain ⟨t4259, HA4260, H⟩ := bind_some H
  refine (store_Store_Peek.calls l4221 a4226 t4236 g4219 A4222 l4221.length n4224 t4259 _ ⟨HGl0.out.pass HS.out⟩ ⟨HS.out.begin⟩ HA4260).mono ?_
  rintro e_ w4261 ⟨rfl, hS⟩
  replace HS : Aside0 (Sep FF w [b6 g4219 A4222 l4221.length n4224 a4226, r5 A4222 l4221.length n4224 l4221, b7 g4217 g4219 a4227 a4228 a4229 a4230] w4261) := ⟨HS.out.call hS⟩
  clear hS
  go_wp2_with fail
  go_ret
  rw [← some_eq H]
  exact ⟨(by first | rfl | (simp [IntKind.wrap_u32]; done)), ((((HS.out).front 1 (by simp)).front 1 (by simp)).front 2 (by simp)).keep (l := [b7 g4217 g4219 a4227 a4228 a4229 a4230, b6 g4219 A4222 l4221.length n4224 a4226, r5 A4222 l4221.length n4224 l4221]) (rest := [])⟩

set_option maxHeartbeats 30000000 in
set_option maxRecDepth 100000 in
theorem obj_look.calls (k : Nat) (l4308 : List Int) (a4313 : Int) (a4314 : Int) (a4315 : Int) (a4316 : Int) (a4317 : Int) (a4318 : Int) (a4319 : Int) (a4320 : Int) (g4304 : Nat) (g4306 : Nat) (A4309 : Option Addr) (m4310 : Nat) (n4311 : Nat) (r : Int) (w : World)  (HGl0 : Aside0 (Gl 0 #[.int .i64 0, .int .i64 0, .int .i64 0, .int .i64 0, .int .i64 0] (fps [b7 g4304 g4306 a4314 a4315 a4316 a4317, b6 g4306 A4309 m4310 n4311 a4313, r5 A4309 m4310 n4311 l4308]) w)) (HS : Aside0 (Sep (fps [b7 g4304 g4306 a4314 a4315 a4316 a4317, b6 g4306 A4309 m4310 n4311 a4313, r5 A4309 m4310 n4311 l4308]) w [b7 g4304 g4306 a4314 a4315 a4316 a4317, b6 g4306 A4309 m4310 n4311 a4313, r5 A4309 m4310 n4311 l4308] w)) (H : Aside0 (obj_look.f k l4308 a4313 a4314 a4315 a4316 a4317 a4318 a4319 a4320 = some r)) :
    Calls Tryd.prog 102 #[.pointer (some ⟨g4304, 0, none⟩), .int .i64 a4318, .int .i64 a4319, .int .i64 a4320] w fun e w' => e = .returned (.int .u32 r) ∧ Sep (fps [b7 g4304 g4306 a4314 a4315 a4316 a4317, b6 g4306 A4309 m4310 n4311 a4313, r5 A4309 m4310 n4311 l4308]) w [b7 g4304 g4306 a4314 a4315 a4316 a4317, b6 g4306 A4309 m4310 n4311 a4313, r5 A4309 m4310 n4311 l4308] w' := by
  generalize (fps [b7 g4304 g4306 a4314 a4315 a4316 a4317, b6 g4306 A4309 m4310 n4311 a4313, r5 A4309 m4310 n4311 l4308]) = FF at HS HGl0 ⊢
  obtain rfl := (row_len (HS.out.at2)).symm
  unfold obj_look.f at H
  go_enter Tryd.func102, Tryd.ntmps102
  go_wp2_with fail
  obtain ⟨t4321, HA4322, H⟩ := bind_some H
  refine (ground_Ground_Conf.calls l4308 a4313 a4314 a4315 a4316 a4317 g4304 g4306 A4309 l4308.length n4311 t4321 _ ⟨HGl0.out.pass HS.out⟩ ⟨HS.out.begin⟩ HA4322).mono ?_
  rintro e_ w4323 ⟨rfl, hS⟩
  replace HS : Aside0 (Sep FF w [b7 g4304 g4306 a4314 a4315 a4316 a4317, b6 g4306 A4309 l4308.length n4311 a4313, r5 A4309 l4308.length n4311 l4308] w4323) := ⟨HS.out.call hS⟩
  clear hS
  have fl4324 : ∀ w, (Instr.field 30 (.agg #[.int .i64 t4321.1, .int .i64 t4321.2.1, .int .i64 t4321.2.2.1, .int .i64 t4321.2.2.2]) 1).run Tryd.prog w = .ok (.int .i64 t4321.2.1) w := fun _ => by kernel_rfl
  go_wp2_with fail
  clear fl4324
  obtain ⟨t4325, HA4326, H⟩ := bind_some H
  refine (shape_Place.calls _ t4321.2.1 a4319 a4320 t4325 _ ⟨HGl0.out.pass (l := []) HS.out⟩ ⟨Sep.start _⟩ HA4326).mono ?_
  rintro e_ w4327 ⟨rfl, hS⟩
  replace HS : Aside0 (Sep FF w [b7 g4304 g4306 a4314 a4315 a4316 a4317, b6 g4306 A4309 l4308.length n4311 a4313, r5 A4309 l4308.length n4311 l4308] w4327) := ⟨HS.out.call hS⟩
  clear hS
  by_cases c4328 : t4325.2.2 = 0
  · have H := if_yes c4328 H
    have c4328b0 : (t4325.2.2 == 0) = true := beq_iff_eq.mpr c4328
    have c4328b1 : (t4325.2.2 != 0) = false := bne_eq_false_iff_eq.mpr c4328
    clear c4328
    by_cases c4329 : t4325.1 < 0
    · have H := if_yes c4329 H
      have c4329b0 : decide (t4325.1 < 0) = true := decide_eq_true c4329
      clear c4329
      go_wp2_with fail
      obtain ⟨t4330, HA4331, H⟩ := bind_some H
      refine (ground_Ground_SeeWord.calls l4308 a4313 a4314 a4315 a4316 a4317 (wrap64 (a4318 - 1)) t4325.2.1 g4304 g4306 A4309 l4308.length n4311 t4330 _ ⟨HGl0.out.pass HS.out⟩ ⟨HS.out.begin⟩ HA4331).mono ?_
      rintro e_ w4332 ⟨rfl, hS⟩
      replace HS : Aside0 (Sep FF w [b7 g4304 g4306 a4314 a4315 a4316 a4317, b6 g4306 A4309 l4308.length n4311 a4313, r5 A4309 l4308.length n4311 l4308] w4332) := ⟨HS.out.call hS⟩
      clear hS
      go_wp2_with fail
      go_ret
      rw [← some_eq H]
      exact ⟨(by first | rfl | (simp [IntKind.wrap_u32]; done)), HS.out⟩
    · have H := if_no c4329 H
      have c4329b0 : decide (t4325.1 < 0) = false := decide_eq_false c4329
      clear c4329
      go_wp2_with fail
      obtain ⟨t4333, HA4334, H⟩ := bind_some H
      refine (ground_Ground_SeeWord.calls l4308 a4313 a4314 a4315 a4316 a4317 (wrap64 (a4318 - 1)) (wrap64 (8 + t4325.1)) g4304 g4306 A4309 l4308.length n4311 t4333 _ ⟨HGl0.out.pass HS.out⟩ ⟨HS.out.begin⟩ HA4334).mono ?_
      rintro e_ w4335 ⟨rfl, hS⟩
      replace HS : Aside0 (Sep FF w [b7 g4304 g4306 a4314 a4315 a4316 a4317, b6 g4306 A4309 l4308.length n4311 a4313, r5 A4309 l4308.length n4311 l4308] w4335) := ⟨HS.out.call hS⟩
      clear hS
      go_wp2_with fail
      obtain ⟨t4336, HA4337, H⟩ := bind_some H
      refine (ground_Ground_SeeWord.calls l4308 a4313 a4314 a4315 a4316 a4317 (wrap64 ((wrap64 (t4333)) - 1)) t4325.2.1 g4304 g4306 A4309 l4308.length n4311 t4336 _ ⟨HGl0.out.pass HS.out⟩ ⟨HS.out.begin⟩ HA4337).mono ?_
      rintro e_ w4338 ⟨rfl, hS⟩
      replace HS : Aside0 (Sep FF w [b7 g4304 g4306 a4314 a4315 a4316 a4317, b6 g4306 A4309 l4308.length n4311 a4313, r5 A4309 l4308.length n4311 l4308] w4338) := ⟨HS.out.call hS⟩
      clear hS
      go_wp2_with fail
      go_ret
      rw [← some_eq H]
      exact ⟨(by first | rfl | (simp [IntKind.wrap_u32]; done)), HS.out⟩
  · have H := if_no c4328 H
    have c4328b0 : (t4325.2.2 == 0) = false := beq_eq_false_iff_ne.mpr c4328
    have c4328b1 : (t4325.2.2 != 0) = true := bne_iff_ne.mpr c4328
    clear c4328
    go_wp2_with fail
    go_ret
    rw [← some_eq H]
    exact ⟨(by first | rfl | (simp [IntKind.wrap_u32]; done)), HS.out⟩

set_option maxHeartbeats 30000000 in
set_option maxRecDepth 100000 in
theorem obj_See.calls (k : Nat) (l4194 : List Int) (a4199 : Int) (a4200 : Int) (a4201 : Int) (a4202 : Int) (a4203 : Int) (a4204 : Int) (g4190 : Nat) (g4192 : Nat) (A4195 : Option Addr) (m4196 : Nat) (n4197 : Nat) (r : Bool × List Int × List Int) (w : World)  (HGl0 : Aside0 (Gl 0 #[.int .i64 0, .int .i64 0, .int .i64 0, .int .i64 0, .int .i64 0] (fps [b7 g4190 g4192 a4200 a4201 a4202 a4203, b6 g4192 A4195 m4196 n4197 a4199, r5 A4195 m4196 n4197 l4194]) w)) (HS : Aside0 (Sep (fps [b7 g4190 g4192 a4200 a4201 a4202 a4203, b6 g4192 A4195 m4196 n4197 a4199, r5 A4195 m4196 n4197 l4194]) w [b7 g4190 g4192 a4200 a4201 a4202 a4203, b6 g4192 A4195 m4196 n4197 a4199, r5 A4195 m4196 n4197 l4194] w)) (H : Aside0 (obj_See.f k l4194 a4199 a4200 a4201 a4202 a4203 a4204 = some r)) :
    Calls Tryd.prog 36 #[.pointer (some ⟨g4190, 0, none⟩), .int .i64 a4204] w fun e w' => ∃ (A4612 : Option Addr) (m4613 : Nat) (n4614 : Nat) (A4616 : Option Addr) (m4617 : Nat) (n4618 : Nat), e = .returned (.tuple #[.agg #[.slice A4612 m4613 n4614, .slice A4616 m4617 n4618], .bool r.1]) ∧ Sep (fps [b7 g4190 g4192 a4200 a4201 a4202 a4203, b6 g4192 A4195 m4196 n4197 a4199, r5 A4195 m4196 n4197 l4194]) w [b7 g4190 g4192 a4200 a4201 a4202 a4203, b6 g4192 A4195 m4196 n4197 a4199, r5 A4195 m4196 n4197 l4194, r11 A4612 m4613 n4614 r.2.1, r5 A4616 m4617 n4618 r.2.2] w' := by
  generalize (fps [b7 g4190 g4192 a4200 a4201 a4202 a4203, b6 g4192 A4195 m4196 n4197 a4199, r5 A4195 m4196 n4197 l4194]) = FF at HS HGl0 ⊢
  obtain rfl := (row_len (HS.out.at2)).symm
  unfold obj_See.f at H
  go_enter Tryd.func36, Tryd.ntmps36
  go_wp2_with (first | ((with_reducible refine gate_dst (N := 4) rfl ?_); refine box_on ?hg (N := 4) ?hd (cs := #[.slice none 0 0, .slice none 0 0]) (t := 71) ?hr ?_; (case hd => rfl); (case hg => rfl); (case hr => first | (go_simp; done) | (go_simp; rfl)); intro g4205 hg w4206 hbox hb; replace HS : Aside0 (Sep FF w [b7 g4190 g4192 a4200 a4201 a4202 a4203, b6 g4192 A4195 l4194.length n4197 a4199, r5 A4195 l4194.length n4197 l4194, b18 g4205] w4206) := ⟨HS.out.box hg hbox hb⟩; clear hg hbox hb; replace HS : Aside0 (Sep FF w [r11 none 0 0 [], b7 g4190 g4192 a4200 a4201 a4202 a4203, b6 g4192 A4195 l4194.length n4197 a4199, r5 A4195 l4194.length n4197 l4194, b19 g4205 none 0 0] w4206) := ⟨HS.out.nilrow 3 (Value.int .i64)⟩; replace HS : Aside0 (Sep FF w [r5 none 0 0 [], r11 none 0 0 [], b7 g4190 g4192 a4200 a4201 a4202 a4203, b6 g4192 A4195 l4194.length n4197 a4199, r5 A4195 l4194.length n4197 l4194, b20 g4205 none 0 0 none 0 0] w4206) := ⟨HS.out.nilrow 33 (Value.int .u32)⟩))
  replace HS : Aside0 (Sep FF w [r5 A4195 l4194.length n4197 l4194, r5 none 0 0 [], r11 none 0 0 [], b7 g4190 g4192 a4200 a4201 a4202 a4203, b6 g4192 A4195 l4194.length n4197 a4199, b20 g4205 none 0 0 none 0 0] w4206) := ⟨HS.out.front 4 (by simp)⟩
  replace HS : Aside0 (Sep FF w [b6 g4192 A4195 l4194.length n4197 a4199, r5 A4195 l4194.length n4197 l4194, r5 none 0 0 [], r11 none 0 0 [], b7 g4190 g4192 a4200 a4201 a4202 a4203, b20 g4205 none 0 0 none 0 0] w4206) := ⟨HS.out.front 4 (by simp)⟩
  replace HS : Aside0 (Sep FF w [b7 g4190 g4192 a4200 a4201 a4202 a4203, b6 g4192 A4195 l4194.length n4197 a4199, r5 A4195 l4194.length n4197 l4194, r5 none 0 0 [], r11 none 0 0 [], b20 g4205 none 0 0 none 0 0] w4206) := ⟨HS.out.front 4 (by simp)⟩
  obtain ⟨t4212, HA4213, H⟩ := bind_some H
  refine (obj_in.calls l4194 a4199 a4200 a4201 a4202 a4203 a4204 g4190 g4192 A4195 l4194.length n4197 t4212 _ ⟨HGl0.out.pass HS.out⟩ ⟨HS.out.begin⟩ HA4213).mono ?_
  rintro e_ w4214 ⟨rfl, hS⟩
  replace HS : Aside0 (Sep FF w [b7 g4190 g4192 a4200 a4201 a4202 a4203, b6 g4192 A4195 l4194.length n4197 a4199, r5 A4195 l4194.length n4197 l4194, r5 none 0 0 [], r11 none 0 0 [], b20 g4205 none 0 0 none 0 0] w4214) := ⟨HS.out.call hS⟩
  clear hS
  by_cases c4215 : t4212 = true
  · have H := if_yes c4215 H
    have c4215b0 : t4212 = true := c4215
    have c4215b1 : (!t4212) = false := by rw [c4215b0]; rfl
    try rw [c4215b1]
    clear c4215
    go_wp2_with fail
    obtain ⟨t4262, HA4263, H⟩ := bind_some H
    refine (ground_Ground_SeeWord.calls l4194 a4199 a4200 a4201 a4202 a4203 (wrap64 (a4204 - 1)) 0 g4190 g4192 A4195 l4194.length n4197 t4262 _ ⟨HGl0.out.pass HS.out⟩ ⟨HS.out.begin⟩ HA4263).mono ?_
    rintro e_ w4264 ⟨rfl, hS⟩
    replace HS : Aside0 (Sep FF w [b7 g4190 g4192 a4200 a4201 a4202 a4203, b6 g4192 A4195 l4194.length n4197 a4199, r5 A4195 l4194.length n4197 l4194, r5 none 0 0 [], r11 none 0 0 [], b20 g4205 none 0 0 none 0 0] w4264) := ⟨HS.out.call hS⟩
    clear hS
    go_wp2_with fail
    obtain ⟨t4265, HA4266, H⟩ := bind_some H
    refine (tag_Unpack.calls t4262 t4265 _ ⟨HGl0.out.pass (l := []) HS.out⟩ ⟨Sep.start _⟩ HA4266).mono ?_
    rintro e_ w4267 ⟨rfl, hS⟩
    replace HS : Aside0 (Sep FF w [b7 g4190 g4192 a4200 a4201 a4202 a4203, b6 g4192 A4195 l4194.length n4197 a4199, r5 A4195 l4194.length n4197 l4194, r5 none 0 0 [], r11 none 0 0 [], b20 g4205 none 0 0 none 0 0] w4267) := ⟨HS.out.call hS⟩
    clear hS
    have fl4268 : ∀ w, (Instr.field 32 (.agg #[.int .i64 t4265.1, .int .i64 t4265.2.1, .int .i64 t4265.2.2.1, .int .i64 t4265.2.2.2.1, .int .i64 t4265.2.2.2.2.1, .int .i64 t4265.2.2.2.2.2.1, .int .i64 t4265.2.2.2.2.2.2]) 0).run Tryd.prog w = .ok (.int .i64 t4265.1) w := fun _ => by kernel_rfl
    go_wp2_with fail
    clear fl4268
    obtain ⟨t4269, HA4270, H⟩ := bind_some H
    refine (obj_isHead.calls t4265.1 t4269 _ ⟨HGl0.out.pass (l := []) HS.out⟩ ⟨Sep.start _⟩ HA4270).mono ?_
    rintro e_ w4271 ⟨rfl, hS⟩
    replace HS : Aside0 (Sep FF w [b7 g4190 g4192 a4200 a4201 a4202 a4203, b6 g4192 A4195 l4194.length n4197 a4199, r5 A4195 l4194.length n4197 l4194, r5 none 0 0 [], r11 none 0 0 [], b20 g4205 none 0 0 none 0 0] w4271) := ⟨HS.out.call hS⟩
    clear hS
    by_cases c4272 : t4269 = true
    · have H := if_yes c4272 H
      have c4272b0 : t4269 = true := c4272
      have c4272b1 : (!t4269) = false := by rw [c4272b0]; rfl
      try rw [c4272b1]
      clear c4272
      go_wp2_with fail
      obtain ⟨t4273, HA4274, H⟩ := bind_some H
      refine (ground_Ground_SeeWord.calls l4194 a4199 a4200 a4201 a4202 a4203 (wrap64 (a4204 - 1)) 1 g4190 g4192 A4195 l4194.length n4197 t4273 _ ⟨HGl0.out.pass HS.out⟩ ⟨HS.out.begin⟩ HA4274).mono ?_
      rintro e_ w4275 ⟨rfl, hS⟩
      replace HS : Aside0 (Sep FF w [b7 g4190 g4192 a4200 a4201 a4202 a4203, b6 g4192 A4195 l4194.length n4197 a4199, r5 A4195 l4194.length n4197 l4194, r5 none 0 0 [], r11 none 0 0 [], b20 g4205 none 0 0 none 0 0] w4275) := ⟨HS.out.call hS⟩
      clear hS
      go_wp2_with fail
      obtain ⟨t4276, HA4277, H⟩ := bind_some H
      refine (ground_Ground_SeeWord.calls l4194 a4199 a4200 a4201 a4202 a4203 (wrap64 (a4204 - 1)) 2 g4190 g4192 A4195 l4194.length n4197 t4276 _ ⟨HGl0.out.pass HS.out⟩ ⟨HS.out.begin⟩ HA4277).mono ?_
      rintro e_ w4278 ⟨rfl, hS⟩
      replace HS : Aside0 (Sep FF w [b7 g4190 g4192 a4200 a4201 a4202 a4203, b6 g4192 A4195 l4194.length n4197 a4199, r5 A4195 l4194.length n4197 l4194, r5 none 0 0 [], r11 none 0 0 [], b20 g4205 none 0 0 none 0 0] w4278) := ⟨HS.out.call hS⟩
      clear hS
      go_wp2_with fail
      obtain ⟨t4279, HA4280, H⟩ := bind_some H
      refine (ground_Ground_Conf.calls l4194 a4199 a4200 a4201 a4202 a4203 g4190 g4192 A4195 l4194.length n4197 t4279 _ ⟨HGl0.out.pass HS.out⟩ ⟨HS.out.begin⟩ HA4280).mono ?_
      rintro e_ w4281 ⟨rfl, hS⟩
      replace HS : Aside0 (Sep FF w [b7 g4190 g4192 a4200 a4201 a4202 a4203, b6 g4192 A4195 l4194.length n4197 a4199, r5 A4195 l4194.length n4197 l4194, r5 none 0 0 [], r11 none 0 0 [], b20 g4205 none 0 0 none 0 0] w4281) := ⟨HS.out.call hS⟩
      clear hS
      have fl4282 : ∀ w, (Instr.field 30 (.agg #[.int .i64 t4279.1, .int .i64 t4279.2.1, .int .i64 t4279.2.2.1, .int .i64 t4279.2.2.2]) 1).run Tryd.prog w = .ok (.int .i64 t4279.2.1) w := fun _ => by kernel_rfl
      go_wp2_with fail
      clear fl4282
      obtain ⟨t4283, HA4284, H⟩ := bind_some H
      refine (shape_Blocks.calls _ t4279.2.1 (wrap64 (t4273)) (wrap64 (t4276)) t4283 _ ⟨HGl0.out.pass (l := []) HS.out⟩ ⟨Sep.start _⟩ HA4284).mono ?_
      rintro e_ w4285 ⟨rfl, hS⟩
      replace HS : Aside0 (Sep FF w [b7 g4190 g4192 a4200 a4201 a4202 a4203, b6 g4192 A4195 l4194.length n4197 a4199, r5 A4195 l4194.length n4197 l4194, r5 none 0 0 [], r11 none 0 0 [], b20 g4205 none 0 0 none 0 0] w4285) := ⟨HS.out.call hS⟩
      clear hS
      by_cases c4286 : t4283.2 = 0
      · have H := if_yes c4286 H
        have c4286b0 : (t4283.2 == 0) = true := beq_iff_eq.mpr c4286
        have c4286b1 : (t4283.2 != 0) = false := bne_eq_false_iff_eq.mpr c4286
        clear c4286
        go_wp2_with (first | ((with_reducible refine gate_dst (N := 10) rfl ?_); refine box_on ?hg (N := 10) ?hd (cs := #[.slice none 0 0, .slice none 0 0]) (t := 71) ?hr ?_; (case hd => rfl); (case hg => rfl); (case hr => first | (go_simp; done) | (go_simp; rfl)); intro g4287 hg w4288 hbox hb; replace HS : Aside0 (Sep FF w [b7 g4190 g4192 a4200 a4201 a4202 a4203, b6 g4192 A4195 l4194.length n4197 a4199, r5 A4195 l4194.length n4197 l4194, r5 none 0 0 [], r11 none 0 0 [], b20 g4205 none 0 0 none 0 0, b18 g4287] w4288) := ⟨HS.out.box hg hbox hb⟩; clear hg hbox hb; replace HS : Aside0 (Sep FF w [r11 none 0 0 [], b7 g4190 g4192 a4200 a4201 a4202 a4203, b6 g4192 A4195 l4194.length n4197 a4199, r5 A4195 l4194.length n4197 l4194, r5 none 0 0 [], r11 none 0 0 [], b20 g4205 none 0 0 none 0 0, b19 g4287 none 0 0] w4288) := ⟨HS.out.nilrow 3 (Value.int .i64)⟩; replace HS : Aside0 (Sep FF w [r5 none 0 0 [], r11 none 0 0 [], b7 g4190 g4192 a4200 a4201 a4202 a4203, b6 g4192 A4195 l4194.length n4197 a4199, r5 A4195 l4194.length n4197 l4194, r5 none 0 0 [], r11 none 0 0 [], b20 g4205 none 0 0 none 0 0, b20 g4287 none 0 0 none 0 0] w4288) := ⟨HS.out.nilrow 33 (Value.int .u32)⟩))
        obtain ⟨o4354, AL4355, H⟩ := bind_some H
        go_loopg [51] k (fun kq v51 wc => ∃ (x4358 : Int) (x4359 : List Int) (A4360 : Option Addr) (m4361 : Nat) (n4362 : Nat), v51 = .int .i64 x4358 ∧ Aside0 (obj_See.lo0 kq l4194 a4199 a4200 a4201 a4202 a4203 a4204 t4273 t4276 x4358 x4359 = some o4354) ∧ Aside0 (Sep FF w [r5 none 0 0 [], r11 A4360 m4361 n4362 x4359, b7 g4190 g4192 a4200 a4201 a4202 a4203, b6 g4192 A4195 l4194.length n4197 a4199, r5 A4195 l4194.length n4197 l4194, r5 none 0 0 [], r11 none 0 0 [], b20 g4205 none 0 0 none 0 0, b20 g4287 A4360 m4361 n4362 none 0 0] wc))
        case atStart => exact ⟨(0), (([] : List Int)), (none), (0), (0), (by first | rfl | (simp [IntKind.wrap_u32]; done)), AL4355, ⟨HS.out⟩⟩
        case round =>
          clear AL4355 HS
          obtain ⟨x4358, x4359, A4360, m4361, n4362, rfl, AL4355, HS⟩ := hrel
          obtain ⟨w4356, rfl⟩ : ∃ x : World, x = wr := ⟨_, rfl⟩
          obtain rfl := (row_len (HS.out.at1)).symm
          cases gk with
          | zero => exact absurd AL4355.out (by simp [obj_See.lo0])
          | succ k4357 =>
            have AL0 := AL4355.out
            rw [obj_See.lo0] at AL0
            clear AL4355
            have AL4355 := Aside0.mk AL0
            clear AL0
            by_cases c4364 : x4358 < (wrap64 (t4273))
            · have AL4355 := if_yes c4364 AL4355
              have c4364b0 : decide (x4358 < (wrap64 (t4273))) = true := decide_eq_true c4364
              clear c4364
              go_wp2_with fail
              refine start_ (n := 14) (S := (fun w' => w'.cell? ⟨g4287, 0, none⟩ = some (.slice A4360 x4359.length n4362))) (ds := [13]) #[false, false, false, false, false, false, false, false, false, false, false, false, false, false] (by kernel_rfl) rfl rfl (blk_cellv ((HS.out.drew).at8) 0 rfl) (fun hHeld => ?_)
              have HS_ := Aside0.mk HS.out.drew
              clear HS
              generalize World.drew _ = w4366 at HS_ hHeld ⊢
              have HS := HS_
              clear HS_
              refine pure_ (i := 0) (N := some 54) (v := ?_) (a' := ?_) #[true, false, false, false, false, false, false, false, false, false, false, false, false, false] rfl rfl (by kernel_rfl) (fun _ _ _ h => h) (Or.inl ⟨by rfl, ?_⟩) ?_ ?_
              rotate_left
              · intro w'
                go_simp
                with_reducible rfl
              rotate_left
              · simp only [Act.put, List.setIfInBounds_toArray, List.set_cons_zero, List.set_cons_succ, i64_w, i32_w]
                rfl
              refine pure_ (i := 2) (N := some 56) (v := ?_) (a' := ?_) #[true, false, true, false, false, false, false, false, false, false, false, false, false, false] rfl rfl (by kernel_rfl) (fun _ _ _ h => h) (Or.inl ⟨by rfl, ?_⟩) ?_ ?_
              rotate_left
              · intro w'
                go_simp
                with_reducible rfl
              rotate_left
              · simp only [Act.put, List.setIfInBounds_toArray, List.set_cons_zero, List.set_cons_succ, i64_w, i32_w]
                rfl
              refine pure_ (i := 3) (N := some 57) (v := ?_) (a' := ?_) #[true, false, true, true, false, false, false, false, false, false, false, false, false, false] rfl rfl (by kernel_rfl) (fun _ _ _ h => h) (Or.inl ⟨by rfl, ?_⟩) ?_ ?_
              rotate_left
              · intro w'
                go_simp
                with_reducible rfl
              rotate_left
              · simp only [Act.put, List.setIfInBounds_toArray, List.set_cons_zero, List.set_cons_succ, i64_w, i32_w]
                rfl
              refine pure_ (i := 4) (N := some 58) (v := ?_) (a' := ?_) #[true, false, true, true, true, false, false, false, false, false, false, false, false, false] rfl rfl (by kernel_rfl) (fun _ _ _ h => h) (Or.inl ⟨by rfl, ?_⟩) ?_ ?_
              rotate_left
              · intro w'
                go_simp
                with_reducible rfl
              rotate_left
              · simp only [Act.put, List.setIfInBounds_toArray, List.set_cons_zero, List.set_cons_succ, i64_w, i32_w]
                rfl
              refine pure_ (i := 5) (N := some 59) (v := ?_) (a' := ?_) #[true, false, true, true, true, true, false, false, false, false, false, false, false, false] rfl rfl (by kernel_rfl) (fun _ _ _ h => h) (Or.inl ⟨by rfl, ?_⟩) ?_ ?_
              rotate_left
              · intro w'
                go_simp
                with_reducible rfl
              rotate_left
              · simp only [Act.put, List.setIfInBounds_toArray, List.set_cons_zero, List.set_cons_succ, i64_w, i32_w]
                rfl
              refine pure_ (i := 6) (N := some 60) (v := ?_) (a' := ?_) #[true, false, true, true, true, true, true, false, false, false, false, false, false, false] rfl rfl (by kernel_rfl) (fun _ _ _ h => h) (Or.inl ⟨by rfl, ?_⟩) ?_ ?_
              rotate_left
              · intro w'
                go_simp
                with_reducible rfl
              rotate_left
              · simp only [Act.put, List.setIfInBounds_toArray, List.set_cons_zero, List.set_cons_succ, i64_w, i32_w]
                rfl
              refine pure_ (i := 7) (N := some 61) (v := ?_) (a' := ?_) #[true, false, true, true, true, true, true, true, false, false, false, false, false, false] rfl rfl (by kernel_rfl) (fun _ _ _ h => h) (Or.inl ⟨by rfl, ?_⟩) ?_ ?_
              rotate_left
              · intro w'
                go_simp
                with_reducible rfl
              rotate_left
              · simp only [Act.put, List.setIfInBounds_toArray, List.set_cons_zero, List.set_cons_succ, i64_w, i32_w]
                rfl
              refine take_ (i := 1) (N := some 55) (v := ?_) (a' := ?_) #[true, true, true, true, true, true, true, true, false, false, false, false, false, false] rfl rfl (by kernel_rfl) (fun _ _ _ h => h) (Or.inl ⟨by rfl, ?_⟩) hHeld ?_ ?_
              rotate_left
              · rintro w' hS'
                have s0 := hS'
                go_simp
                with_reducible rfl
              rotate_left
              · simp only [Act.put, List.setIfInBounds_toArray, List.set_cons_zero, List.set_cons_succ, i64_w, i32_w]
                rfl
              refine one_ (i := 8) (N := some 62) #[true, true, true, true, true, true, true, true, true, false, false, false, false, false] rfl rfl (by kernel_rfl) (by decide) (fun K hK => ?_)
              replace HS : Aside0 (Sep FF w [r5 A4195 l4194.length n4197 l4194, r5 none 0 0 [], r11 A4360 x4359.length n4362 x4359, b7 g4190 g4192 a4200 a4201 a4202 a4203, b6 g4192 A4195 l4194.length n4197 a4199, r5 none 0 0 [], r11 none 0 0 [], b20 g4205 none 0 0 none 0 0, b20 g4287 A4360 x4359.length n4362 none 0 0] w4366) := ⟨HS.out.front 4 (by simp)⟩
              replace HS : Aside0 (Sep FF w [b6 g4192 A4195 l4194.length n4197 a4199, r5 A4195 l4194.length n4197 l4194, r5 none 0 0 [], r11 A4360 x4359.length n4362 x4359, b7 g4190 g4192 a4200 a4201 a4202 a4203, r5 none 0 0 [], r11 none 0 0 [], b20 g4205 none 0 0 none 0 0, b20 g4287 A4360 x4359.length n4362 none 0 0] w4366) := ⟨HS.out.front 4 (by simp)⟩
              replace HS : Aside0 (Sep FF w [b7 g4190 g4192 a4200 a4201 a4202 a4203, b6 g4192 A4195 l4194.length n4197 a4199, r5 A4195 l4194.length n4197 l4194, r5 none 0 0 [], r11 A4360 x4359.length n4362 x4359, r5 none 0 0 [], r11 none 0 0 [], b20 g4205 none 0 0 none 0 0, b20 g4287 A4360 x4359.length n4362 none 0 0] w4366) := ⟨HS.out.front 4 (by simp)⟩
              obtain ⟨t4339, HA4367, AL4355⟩ := bind_some AL4355
              refine goes_ Tryd.func102 (by kernel_rfl) rfl #[.pointer (some ⟨g4190, 0, none⟩), .int .i64 a4204, .int .i64 (wrap64 ((wrap64 (t4273)) + (wrap64 (t4276)))), .int .i64 x4358] (by rfl) rfl rfl (by (try simp only [List.map_toArray, List.map_cons, List.map_nil]); first | done | rfl) ?_
              refine (obj_look.calls _ l4194 a4199 a4200 a4201 a4202 a4203 a4204 (wrap64 ((wrap64 (t4273)) + (wrap64 (t4276)))) x4358 g4190 g4192 A4195 l4194.length n4197 t4339 _ ⟨HGl0.out.pass HS.out⟩ ⟨HS.out.begin⟩ HA4367).mono ?_
              rintro e_ w4368 ⟨rfl, hS⟩
              replace HS : Aside0 (Sep FF w [b7 g4190 g4192 a4200 a4201 a4202 a4203, b6 g4192 A4195 l4194.length n4197 a4199, r5 A4195 l4194.length n4197 l4194, r5 none 0 0 [], r11 A4360 x4359.length n4362 x4359, r5 none 0 0 [], r11 none 0 0 [], b20 g4205 none 0 0 none 0 0, b20 g4287 A4360 x4359.length n4362 none 0 0] w4368) := ⟨HS.out.call hS⟩
              clear hS
              refine ⟨_, rfl, ?_⟩
              refine hK.out _ _ (blk_cellv (HS.out.at8) 0 rfl) (fun hHeld => ?_)
              clear hK K
              refine norm_ (a' := ?_) ?_ ?_
              rotate_left
              · show Act.put _ (some 62) _ = _
                simp only [Act.put, List.setIfInBounds_toArray, List.set_cons_zero, List.set_cons_succ, i64_w, i32_w]
                rfl
              refine pure_ (i := 9) (N := some 63) (v := ?_) (a' := ?_) #[true, true, true, true, true, true, true, true, true, true, false, false, false, false] rfl rfl (by kernel_rfl) (fun _ _ _ h => h) (Or.inl ⟨by rfl, ?_⟩) ?_ ?_
              rotate_left
              · intro w'
                go_simp
                with_reducible rfl
              rotate_left
              · simp only [Act.put, List.setIfInBounds_toArray, List.set_cons_zero, List.set_cons_succ, i64_w, i32_w]
                rfl
              refine one_ (i := 10) (N := some 64) #[true, true, true, true, true, true, true, true, true, true, true, false, false, false] rfl rfl (by kernel_rfl) (by decide) (fun K hK => ?_)
              refine slice_step (n := 1) (by rfl) (N := 64) rfl (cs := #[.int .i64 (wrap64 (t4339))]) (t := 3) ?hr ?_
              case hr => first | (go_simp; done) | (go_simp; rfl)
              intro g4369 hg w4370 hbox hb
              replace HS : Aside0 (Sep FF w [b7 g4190 g4192 a4200 a4201 a4202 a4203, b6 g4192 A4195 l4194.length n4197 a4199, r5 A4195 l4194.length n4197 l4194, r5 none 0 0 [], r11 A4360 x4359.length n4362 x4359, r5 none 0 0 [], r11 none 0 0 [], b20 g4205 none 0 0 none 0 0, b20 g4287 A4360 x4359.length n4362 none 0 0, b10 g4369 (wrap64 (t4339))] w4370) := ⟨HS.out.box hg hbox hb⟩
              clear hg hbox hb
              refine hK.out _ _ (blk_cellv (HS.out.at8) 0 rfl) (fun hHeld => ?_)
              clear hK K
              refine norm_ (a' := ?_) ?_ ?_
              rotate_left
              · show Act.put _ (some 64) _ = _
                simp only [Act.put, List.setIfInBounds_toArray, List.set_cons_zero, List.set_cons_succ, i64_w, i32_w]
                rfl
              refine one_ (i := 11) (N := some 65) #[true, true, true, true, true, true, true, true, true, true, true, true, false, false] rfl rfl (by kernel_rfl) (by decide) (fun K hK => ?_)
              by_cases c4372 : x4359.length < 17592186044416
              · have AL4355 := if_yes c4372 AL4355
                have c4372b0 : decide (x4359.length < 17592186044416) = true := decide_eq_true c4372
                clear c4372
                obtain ⟨y4348, HA4376, AL4355⟩ := bind_some AL4355
                refine append_step (l1 := [b7 g4190 g4192 a4200 a4201 a4202 a4203, b6 g4192 A4195 l4194.length n4197 a4199, r5 A4195 l4194.length n4197 l4194, r5 none 0 0 []]) (l2 := [r5 none 0 0 [], r11 none 0 0 [], b20 g4205 none 0 0 none 0 0, b20 g4287 A4360 x4359.length n4362 none 0 0, b10 g4369 (wrap64 (t4339))]) (by rfl) (.tmp 55) (.tmp 64) 49 3 (.int .i64 0) 8 rfl Tryd.underlying49 (by kernel_rfl) rfl (by decide) (Value.int .i64) (fun _ => rfl) (.slice A4360 x4359.length n4362) (x4359 : List Int) [wrap64 (t4339)] ⟨g4369, 0, none⟩ 1 rfl rfl (blk_news (xs := [wrap64 (t4339)]) (HS.out.nth 9 rfl)) HS.out (by have := of_decide_eq_true c4372b0; simp only [List.length_cons, List.length_nil]; omega) HA4376 ?_
                intro A4373 n4374 w4375 HS1
                replace HS : Aside0 (Sep FF w [b7 g4190 g4192 a4200 a4201 a4202 a4203, b6 g4192 A4195 l4194.length n4197 a4199, r5 A4195 l4194.length n4197 l4194, r5 none 0 0 [], r11 A4373 y4348.length n4374 y4348, r5 none 0 0 [], r11 none 0 0 [], b20 g4205 none 0 0 none 0 0, b20 g4287 A4360 x4359.length n4362 none 0 0, b10 g4369 (wrap64 (t4339))] w4375) := ⟨HS1⟩
                clear HS1
                refine hK.out _ _ (blk_cellv (HS.out.at8) 0 rfl) (fun hHeld => ?_)
                clear hK K
                refine norm_ (a' := ?_) ?_ ?_
                rotate_left
                · show Act.put _ (some 65) _ = _
                  simp only [Act.put, List.setIfInBounds_toArray, List.set_cons_zero, List.set_cons_succ, i64_w, i32_w]
                  rfl
                refine pure_ (i := 12) (N := some 66) (v := ?_) (a' := ?_) #[true, true, true, true, true, true, true, true, true, true, true, true, true, false] rfl rfl (by kernel_rfl) (fun _ _ _ h => h) (Or.inl ⟨by rfl, ?_⟩) ?_ ?_
                rotate_left
                · intro w'
                  go_simp
                  with_reducible rfl
                rotate_left
                · simp only [Act.put, List.setIfInBounds_toArray, List.set_cons_zero, List.set_cons_succ, i64_w, i32_w]
                  rfl
                refine last_ (i := 13) (N := none) #[true, true, true, true, true, true, true, true, true, true, true, true, true, true] rfl rfl (by kernel_rfl) (by decide) (fun K hK => ?_)
                have hc4379 := blk_cellv (v := .slice A4360 x4359.length n4362) (HS.out.at8) 0 rfl
                have hz4380 := blk_fz (HS.out.at8) 0
                refine store_step (w1 := (World.setCell w4375 ⟨g4287, 0, none⟩ (.slice A4373 y4348.length n4374))) (by rfl) rfl ?hr ?_
                case hr => first | (go_simp; done) | (go_simp; rfl)
                clear hc4379 hz4380
                intro w4378 hst
                have hq0 : Sep FF w [b7 g4190 g4192 a4200 a4201 a4202 a4203, b6 g4192 A4195 l4194.length n4197 a4199, r5 A4195 l4194.length n4197 l4194, r5 none 0 0 [], r11 A4373 y4348.length n4374 y4348, r5 none 0 0 [], r11 none 0 0 [], b20 g4205 none 0 0 none 0 0, b20 g4287 A4373 y4348.length n4374 none 0 0, b10 g4369 (wrap64 (t4339))] (World.setCell w4375 ⟨g4287, 0, none⟩ (.slice A4373 y4348.length n4374)) := (HS.out).set1 (l1 := [b7 g4190 g4192 a4200 a4201 a4202 a4203, b6 g4192 A4195 l4194.length n4197 a4199, r5 A4195 l4194.length n4197 l4194, r5 none 0 0 [], r11 A4373 y4348.length n4374 y4348, r5 none 0 0 [], r11 none 0 0 [], b20 g4205 none 0 0 none 0 0]) (l2 := [b10 g4369 (wrap64 (t4339))]) 0 (.slice A4373 y4348.length n4374)
                have HS_ : Aside0 (Sep FF w [b7 g4190 g4192 a4200 a4201 a4202 a4203, b6 g4192 A4195 l4194.length n4197 a4199, r5 A4195 l4194.length n4197 l4194, r5 none 0 0 [], r11 A4373 y4348.length n4374 y4348, r5 none 0 0 [], r11 none 0 0 [], b20 g4205 none 0 0 none 0 0, b20 g4287 A4373 y4348.length n4374 none 0 0, b10 g4369 (wrap64 (t4339))] w4378) := ⟨by rw [hst]; exact hq0⟩
                clear hq0
                clear HS hst
                have HS := HS_
                clear HS_
                refine hK.out _ _ ?_
                clear hK K
                refine done_ (by kernel_rfl) ?_
                replace HS : Aside0 (Sep FF w [b7 g4190 g4192 a4200 a4201 a4202 a4203, b6 g4192 A4195 l4194.length n4197 a4199, r5 A4195 l4194.length n4197 l4194, r5 none 0 0 [], r11 A4373 y4348.length n4374 y4348, r5 none 0 0 [], r11 none 0 0 [], b20 g4205 none 0 0 none 0 0, b20 g4287 A4373 y4348.length n4374 none 0 0] w4378) := ⟨HS.out.sub (.cons_cons _ (.cons_cons _ (.cons_cons _ (.cons_cons _ (.cons_cons _ (.cons_cons _ (.cons_cons _ (.cons_cons _ (.cons_cons _ (.cons _ .slnil))))))))))⟩
                go_wp2_with fail
                go_roundg k4357
                case measure => exact Nat.lt_succ_self _
                case rel => exact ⟨(wrap64 (x4358 + 1)), (y4348), (A4373), (y4348.length), (n4374), (by first | rfl | (simp [IntKind.wrap_u32]; done)), Aside0.mk AL4355.out, ⟨((((((((((HS.out).front 8 (by simp)).front 8 (by simp)).front 8 (by simp)).front 8 (by simp)).front 6 (by simp)).front 6 (by simp)).front 6 (by simp)).front 8 (by simp)).front 8 (by simp)).keep (l := [r5 none 0 0 [], r11 A4373 y4348.length n4374 y4348, b7 g4190 g4192 a4200 a4201 a4202 a4203, b6 g4192 A4195 l4194.length n4197 a4199, r5 A4195 l4194.length n4197 l4194, r5 none 0 0 [], r11 none 0 0 [], b20 g4205 none 0 0 none 0 0, b20 g4287 A4373 y4348.length n4374 none 0 0]) (rest := [])⟩⟩
              · have AL4355 := if_no c4372 AL4355
                have c4372b0 : decide (x4359.length < 17592186044416) = false := decide_eq_false c4372
                clear c4372
                exact (none_no AL4355).elim
            · have AL4355 := if_no c4364 AL4355
              have c4364b0 : decide (x4358 < (wrap64 (t4273))) = false := decide_eq_false c4364
              clear c4364
              have ho := some_eq AL4355
              subst ho
              clear AL4355
              go_wp2_with fail
              obtain ⟨o4405, AL4406, H⟩ := bind_some H
              go_loopg [69] k (fun kq v69 wc => ∃ (x4409 : Int) (x4410 : List Int) (A4411 : Option Addr) (m4412 : Nat) (n4413 : Nat), v69 = .int .i64 x4409 ∧ Aside0 (obj_See.lo1 kq l4194 a4199 a4200 a4201 a4202 a4203 a4204 t4273 t4276 x4409 x4410 = some o4405) ∧ Aside0 (Sep FF w [r5 A4411 m4412 n4413 x4410, r11 A4360 x4359.length n4362 x4359, b7 g4190 g4192 a4200 a4201 a4202 a4203, b6 g4192 A4195 l4194.length n4197 a4199, r5 A4195 l4194.length n4197 l4194, r5 none 0 0 [], r11 none 0 0 [], b20 g4205 none 0 0 none 0 0, b20 g4287 A4360 x4359.length n4362 A4411 m4412 n4413] wc))
              case atStart => exact ⟨(0), (([] : List Int)), (none), (0), (0), (by first | rfl | (simp [IntKind.wrap_u32]; done)), AL4406, ⟨HS.out⟩⟩
              case round =>
                clear AL4406 HS
                obtain ⟨x4409, x4410, A4411, m4412, n4413, rfl, AL4406, HS⟩ := hrel
                obtain ⟨w4407, rfl⟩ : ∃ x : World, x = wr := ⟨_, rfl⟩
                obtain rfl := (row_len (HS.out.at0)).symm
                cases gk with
                | zero => exact absurd AL4406.out (by simp [obj_See.lo1])
                | succ k4408 =>
                  have AL0 := AL4406.out
                  rw [obj_See.lo1] at AL0
                  clear AL4406
                  have AL4406 := Aside0.mk AL0
                  clear AL0
                  by_cases c4415 : x4409 < (wrap64 (t4276))
                  · have AL4406 := if_yes c4415 AL4406
                    have c4415b0 : decide (x4409 < (wrap64 (t4276))) = true := decide_eq_true c4415
                    clear c4415
                    go_wp2_with fail
                    refine start_ (n := 15) (S := (fun w' => w'.cell? ⟨g4287, 1, none⟩ = some (.slice A4411 x4410.length n4413))) (ds := [14]) #[false, false, false, false, false, false, false, false, false, false, false, false, false, false, false] (by kernel_rfl) rfl rfl (blk_cellv ((HS.out.drew).at8) 1 rfl) (fun hHeld => ?_)
                    have HS_ := Aside0.mk HS.out.drew
                    clear HS
                    generalize World.drew _ = w4417 at HS_ hHeld ⊢
                    have HS := HS_
                    clear HS_
                    refine pure_ (i := 0) (N := some 72) (v := ?_) (a' := ?_) #[true, false, false, false, false, false, false, false, false, false, false, false, false, false, false] rfl rfl (by kernel_rfl) (fun _ _ _ h => h) (Or.inl ⟨by rfl, ?_⟩) ?_ ?_
                    rotate_left
                    · intro w'
                      go_simp
                      with_reducible rfl
                    rotate_left
                    · simp only [Act.put, List.setIfInBounds_toArray, List.set_cons_zero, List.set_cons_succ, i64_w, i32_w]
                      rfl
                    refine pure_ (i := 2) (N := some 74) (v := ?_) (a' := ?_) #[true, false, true, false, false, false, false, false, false, false, false, false, false, false, false] rfl rfl (by kernel_rfl) (fun _ _ _ h => h) (Or.inl ⟨by rfl, ?_⟩) ?_ ?_
                    rotate_left
                    · intro w'
                      go_simp
                      with_reducible rfl
                    rotate_left
                    · simp only [Act.put, List.setIfInBounds_toArray, List.set_cons_zero, List.set_cons_succ, i64_w, i32_w]
                      rfl
                    refine pure_ (i := 3) (N := some 75) (v := ?_) (a' := ?_) #[true, false, true, true, false, false, false, false, false, false, false, false, false, false, false] rfl rfl (by kernel_rfl) (fun _ _ _ h => h) (Or.inl ⟨by rfl, ?_⟩) ?_ ?_
                    rotate_left
                    · intro w'
                      go_simp
                      with_reducible rfl
                    rotate_left
                    · simp only [Act.put, List.setIfInBounds_toArray, List.set_cons_zero, List.set_cons_succ, i64_w, i32_w]
                      rfl
                    refine pure_ (i := 4) (N := some 76) (v := ?_) (a' := ?_) #[true, false, true, true, true, false, false, false, false, false, false, false, false, false, false] rfl rfl (by kernel_rfl) (fun _ _ _ h => h) (Or.inl ⟨by rfl, ?_⟩) ?_ ?_
                    rotate_left
                    · intro w'
                      go_simp
                      with_reducible rfl
                    rotate_left
                    · simp only [Act.put, List.setIfInBounds_toArray, List.set_cons_zero, List.set_cons_succ, i64_w, i32_w]
                      rfl
                    refine pure_ (i := 5) (N := some 77) (v := ?_) (a' := ?_) #[true, false, true, true, true, true, false, false, false, false, false, false, false, false, false] rfl rfl (by kernel_rfl) (fun _ _ _ h => h) (Or.inl ⟨by rfl, ?_⟩) ?_ ?_
                    rotate_left
                    · intro w'
                      go_simp
                      with_reducible rfl
                    rotate_left
                    · simp only [Act.put, List.setIfInBounds_toArray, List.set_cons_zero, List.set_cons_succ, i64_w, i32_w]
                      rfl
                    refine pure_ (i := 6) (N := some 78) (v := ?_) (a' := ?_) #[true, false, true, true, true, true, true, false, false, false, false, false, false, false, false] rfl rfl (by kernel_rfl) (fun _ _ _ h => h) (Or.inl ⟨by rfl, ?_⟩) ?_ ?_
                    rotate_left
                    · intro w'
                      go_simp
                      with_reducible rfl
                    rotate_left
                    · simp only [Act.put, List.setIfInBounds_toArray, List.set_cons_zero, List.set_cons_succ, i64_w, i32_w]
                      rfl
                    refine pure_ (i := 7) (N := some 79) (v := ?_) (a' := ?_) #[true, false, true, true, true, true, true, true, false, false, false, false, false, false, false] rfl rfl (by kernel_rfl) (fun _ _ _ h => h) (Or.inl ⟨by rfl, ?_⟩) ?_ ?_
                    rotate_left
                    · intro w'
                      go_simp
                      with_reducible rfl
                    rotate_left
                    · simp only [Act.put, List.setIfInBounds_toArray, List.set_cons_zero, List.set_cons_succ, i64_w, i32_w]
                      rfl
                    refine pure_ (i := 8) (N := some 80) (v := ?_) (a' := ?_) #[true, false, true, true, true, true, true, true, true, false, false, false, false, false, false] rfl rfl (by kernel_rfl) (fun _ _ _ h => h) (Or.inl ⟨by rfl, ?_⟩) ?_ ?_
                    rotate_left
                    · intro w'
                      go_simp
                      with_reducible rfl
                    rotate_left
                    · simp only [Act.put, List.setIfInBounds_toArray, List.set_cons_zero, List.set_cons_succ, i64_w, i32_w]
                      rfl
                    refine pure_ (i := 9) (N := some 81) (v := ?_) (a' := ?_) #[true, false, true, true, true, true, true, true, true, true, false, false, false, false, false] rfl rfl (by kernel_rfl) (fun _ _ _ h => h) (Or.inl ⟨by rfl, ?_⟩) ?_ ?_
                    rotate_left
                    · intro w'
                      go_simp
                      with_reducible rfl
                    rotate_left
                    · simp only [Act.put, List.setIfInBounds_toArray, List.set_cons_zero, List.set_cons_succ, i64_w, i32_w]
                      rfl
                    refine take_ (i := 1) (N := some 73) (v := ?_) (a' := ?_) #[true, true, true, true, true, true, true, true, true, true, false, false, false, false, false] rfl rfl (by kernel_rfl) (fun _ _ _ h => h) (Or.inl ⟨by rfl, ?_⟩) hHeld ?_ ?_
                    rotate_left
                    · rintro w' hS'
                      have s0 := hS'
                      go_simp
                      with_reducible rfl
                    rotate_left
                    · simp only [Act.put, List.setIfInBounds_toArray, List.set_cons_zero, List.set_cons_succ, i64_w, i32_w]
                      rfl
                    refine one_ (i := 10) (N := some 82) #[true, true, true, true, true, true, true, true, true, true, true, false, false, false, false] rfl rfl (by kernel_rfl) (by decide) (fun K hK => ?_)
                    replace HS : Aside0 (Sep FF w [r5 A4195 l4194.length n4197 l4194, r5 A4411 x4410.length n4413 x4410, r11 A4360 x4359.length n4362 x4359, b7 g4190 g4192 a4200 a4201 a4202 a4203, b6 g4192 A4195 l4194.length n4197 a4199, r5 none 0 0 [], r11 none 0 0 [], b20 g4205 none 0 0 none 0 0, b20 g4287 A4360 x4359.length n4362 A4411 x4410.length n4413] w4417) := ⟨HS.out.front 4 (by simp)⟩
                    replace HS : Aside0 (Sep FF w [b6 g4192 A4195 l4194.length n4197 a4199, r5 A4195 l4194.length n4197 l4194, r5 A4411 x4410.length n4413 x4410, r11 A4360 x4359.length n4362 x4359, b7 g4190 g4192 a4200 a4201 a4202 a4203, r5 none 0 0 [], r11 none 0 0 [], b20 g4205 none 0 0 none 0 0, b20 g4287 A4360 x4359.length n4362 A4411 x4410.length n4413] w4417) := ⟨HS.out.front 4 (by simp)⟩
                    replace HS : Aside0 (Sep FF w [b7 g4190 g4192 a4200 a4201 a4202 a4203, b6 g4192 A4195 l4194.length n4197 a4199, r5 A4195 l4194.length n4197 l4194, r5 A4411 x4410.length n4413 x4410, r11 A4360 x4359.length n4362 x4359, r5 none 0 0 [], r11 none 0 0 [], b20 g4205 none 0 0 none 0 0, b20 g4287 A4360 x4359.length n4362 A4411 x4410.length n4413] w4417) := ⟨HS.out.front 4 (by simp)⟩
                    obtain ⟨t4390, HA4418, AL4406⟩ := bind_some AL4406
                    refine goes_ Tryd.func102 (by kernel_rfl) rfl #[.pointer (some ⟨g4190, 0, none⟩), .int .i64 a4204, .int .i64 (wrap64 ((wrap64 (t4273)) + (wrap64 (t4276)))), .int .i64 (wrap64 ((wrap64 (t4273)) + x4409))] (by rfl) rfl rfl (by (try simp only [List.map_toArray, List.map_cons, List.map_nil]); first | done | rfl) ?_
                    refine (obj_look.calls _ l4194 a4199 a4200 a4201 a4202 a4203 a4204 (wrap64 ((wrap64 (t4273)) + (wrap64 (t4276)))) (wrap64 ((wrap64 (t4273)) + x4409)) g4190 g4192 A4195 l4194.length n4197 t4390 _ ⟨HGl0.out.pass HS.out⟩ ⟨HS.out.begin⟩ HA4418).mono ?_
                    rintro e_ w4419 ⟨rfl, hS⟩
                    replace HS : Aside0 (Sep FF w [b7 g4190 g4192 a4200 a4201 a4202 a4203, b6 g4192 A4195 l4194.length n4197 a4199, r5 A4195 l4194.length n4197 l4194, r5 A4411 x4410.length n4413 x4410, r11 A4360 x4359.length n4362 x4359, r5 none 0 0 [], r11 none 0 0 [], b20 g4205 none 0 0 none 0 0, b20 g4287 A4360 x4359.length n4362 A4411 x4410.length n4413] w4419) := ⟨HS.out.call hS⟩
                    clear hS
                    refine ⟨_, rfl, ?_⟩
                    refine hK.out _ _ (blk_cellv (HS.out.at8) 1 rfl) (fun hHeld => ?_)
                    clear hK K
                    refine norm_ (a' := ?_) ?_ ?_
                    rotate_left
                    · show Act.put _ (some 82) _ = _
                      simp only [Act.put, List.setIfInBounds_toArray, List.set_cons_zero, List.set_cons_succ, i64_w, i32_w]
                      rfl
                    refine one_ (i := 11) (N := some 83) #[true, true, true, true, true, true, true, true, true, true, true, true, false, false, false] rfl rfl (by kernel_rfl) (by decide) (fun K hK => ?_)
                    refine slice_step (n := 1) (by rfl) (N := 83) rfl (cs := #[.int .u32 t4390]) (t := 33) ?hr ?_
                    case hr => first | (go_simp; done) | (go_simp; rfl)
                    intro g4420 hg w4421 hbox hb
                    replace HS : Aside0 (Sep FF w [b7 g4190 g4192 a4200 a4201 a4202 a4203, b6 g4192 A4195 l4194.length n4197 a4199, r5 A4195 l4194.length n4197 l4194, r5 A4411 x4410.length n4413 x4410, r11 A4360 x4359.length n4362 x4359, r5 none 0 0 [], r11 none 0 0 [], b20 g4205 none 0 0 none 0 0, b20 g4287 A4360 x4359.length n4362 A4411 x4410.length n4413, b16 g4420 t4390] w4421) := ⟨HS.out.box hg hbox hb⟩
                    clear hg hbox hb
                    refine hK.out _ _ (blk_cellv (HS.out.at8) 1 rfl) (fun hHeld => ?_)
                    clear hK K
                    refine norm_ (a' := ?_) ?_ ?_
                    rotate_left
                    · show Act.put _ (some 83) _ = _
                      simp only [Act.put, List.setIfInBounds_toArray, List.set_cons_zero, List.set_cons_succ, i64_w, i32_w]
                      rfl
                    refine one_ (i := 12) (N := some 84) #[true, true, true, true, true, true, true, true, true, true, true, true, true, false, false] rfl rfl (by kernel_rfl) (by decide) (fun K hK => ?_)
                    by_cases c4423 : x4410.length < 35184372088832
                    · have AL4406 := if_yes c4423 AL4406
                      have c4423b0 : decide (x4410.length < 35184372088832) = true := decide_eq_true c4423
                      clear c4423
                      obtain ⟨y4399, HA4427, AL4406⟩ := bind_some AL4406
                      refine append_step (l1 := [b7 g4190 g4192 a4200 a4201 a4202 a4203, b6 g4192 A4195 l4194.length n4197 a4199, r5 A4195 l4194.length n4197 l4194]) (l2 := [r11 A4360 x4359.length n4362 x4359, r5 none 0 0 [], r11 none 0 0 [], b20 g4205 none 0 0 none 0 0, b20 g4287 A4360 x4359.length n4362 A4411 x4410.length n4413, b16 g4420 t4390]) (by rfl) (.tmp 73) (.tmp 83) 69 33 (.int .u32 0) 4 rfl Tryd.underlying69 (by kernel_rfl) rfl (by decide) (Value.int .u32) (fun _ => rfl) (.slice A4411 x4410.length n4413) (x4410 : List Int) [t4390] ⟨g4420, 0, none⟩ 1 rfl rfl (blk_news (xs := [t4390]) (HS.out.nth 9 rfl)) HS.out (by have := of_decide_eq_true c4423b0; simp only [List.length_cons, List.length_nil]; omega) HA4427 ?_
                      intro A4424 n4425 w4426 HS1
                      replace HS : Aside0 (Sep FF w [b7 g4190 g4192 a4200 a4201 a4202 a4203, b6 g4192 A4195 l4194.length n4197 a4199, r5 A4195 l4194.length n4197 l4194, r5 A4424 y4399.length n4425 y4399, r11 A4360 x4359.length n4362 x4359, r5 none 0 0 [], r11 none 0 0 [], b20 g4205 none 0 0 none 0 0, b20 g4287 A4360 x4359.length n4362 A4411 x4410.length n4413, b16 g4420 t4390] w4426) := ⟨HS1⟩
                      clear HS1
                      refine hK.out _ _ (blk_cellv (HS.out.at8) 1 rfl) (fun hHeld => ?_)
                      clear hK K
                      refine norm_ (a' := ?_) ?_ ?_
                      rotate_left
                      · show Act.put _ (some 84) _ = _
                        simp only [Act.put, List.setIfInBounds_toArray, List.set_cons_zero, List.set_cons_succ, i64_w, i32_w]
                        rfl
                      refine pure_ (i := 13) (N := some 85) (v := ?_) (a' := ?_) #[true, true, true, true, true, true, true, true, true, true, true, true, true, true, false] rfl rfl (by kernel_rfl) (fun _ _ _ h => h) (Or.inl ⟨by rfl, ?_⟩) ?_ ?_
                      rotate_left
                      · intro w'
                        go_simp
                        with_reducible rfl
                      rotate_left
                      · simp only [Act.put, List.setIfInBounds_toArray, List.set_cons_zero, List.set_cons_succ, i64_w, i32_w]
                        rfl
                      refine last_ (i := 14) (N := none) #[true, true, true, true, true, true, true, true, true, true, true, true, true, true, true] rfl rfl (by kernel_rfl) (by decide) (fun K hK => ?_)
                      have hc4430 := blk_cellv (v := .slice A4411 x4410.length n4413) (HS.out.at8) 1 rfl
                      have hz4431 := blk_fz (HS.out.at8) 1
                      refine store_step (w1 := (World.setCell w4426 ⟨g4287, 1, none⟩ (.slice A4424 y4399.length n4425))) (by rfl) rfl ?hr ?_
                      case hr => first | (go_simp; done) | (go_simp; rfl)
                      clear hc4430 hz4431
                      intro w4429 hst
                      have hq0 : Sep FF w [b7 g4190 g4192 a4200 a4201 a4202 a4203, b6 g4192 A4195 l4194.length n4197 a4199, r5 A4195 l4194.length n4197 l4194, r5 A4424 y4399.length n4425 y4399, r11 A4360 x4359.length n4362 x4359, r5 none 0 0 [], r11 none 0 0 [], b20 g4205 none 0 0 none 0 0, b20 g4287 A4360 x4359.length n4362 A4424 y4399.length n4425, b16 g4420 t4390] (World.setCell w4426 ⟨g4287, 1, none⟩ (.slice A4424 y4399.length n4425)) := (HS.out).set1 (l1 := [b7 g4190 g4192 a4200 a4201 a4202 a4203, b6 g4192 A4195 l4194.length n4197 a4199, r5 A4195 l4194.length n4197 l4194, r5 A4424 y4399.length n4425 y4399, r11 A4360 x4359.length n4362 x4359, r5 none 0 0 [], r11 none 0 0 [], b20 g4205 none 0 0 none 0 0]) (l2 := [b16 g4420 t4390]) 1 (.slice A4424 y4399.length n4425)
                      have HS_ : Aside0 (Sep FF w [b7 g4190 g4192 a4200 a4201 a4202 a4203, b6 g4192 A4195 l4194.length n4197 a4199, r5 A4195 l4194.length n4197 l4194, r5 A4424 y4399.length n4425 y4399, r11 A4360 x4359.length n4362 x4359, r5 none 0 0 [], r11 none 0 0 [], b20 g4205 none 0 0 none 0 0, b20 g4287 A4360 x4359.length n4362 A4424 y4399.length n4425, b16 g4420 t4390] w4429) := ⟨by rw [hst]; exact hq0⟩
                      clear hq0
                      clear HS hst
                      have HS := HS_
                      clear HS_
                      refine hK.out _ _ ?_
                      clear hK K
                      refine done_ (by kernel_rfl) ?_
                      replace HS : Aside0 (Sep FF w [b7 g4190 g4192 a4200 a4201 a4202 a4203, b6 g4192 A4195 l4194.length n4197 a4199, r5 A4195 l4194.length n4197 l4194, r5 A4424 y4399.length n4425 y4399, r11 A4360 x4359.length n4362 x4359, r5 none 0 0 [], r11 none 0 0 [], b20 g4205 none 0 0 none 0 0, b20 g4287 A4360 x4359.length n4362 A4424 y4399.length n4425] w4429) := ⟨HS.out.sub (.cons_cons _ (.cons_cons _ (.cons_cons _ (.cons_cons _ (.cons_cons _ (.cons_cons _ (.cons_cons _ (.cons_cons _ (.cons_cons _ (.cons _ .slnil))))))))))⟩
                      go_wp2_with fail
                      go_roundg k4408
                      case measure => exact Nat.lt_succ_self _
                      case rel => exact ⟨(wrap64 (x4409 + 1)), (y4399), (A4424), (y4399.length), (n4425), (by first | rfl | (simp [IntKind.wrap_u32]; done)), Aside0.mk AL4406.out, ⟨((((((((((HS.out).front 8 (by simp)).front 8 (by simp)).front 8 (by simp)).front 8 (by simp)).front 6 (by simp)).front 6 (by simp)).front 6 (by simp)).front 8 (by simp)).front 8 (by simp)).keep (l := [r5 A4424 y4399.length n4425 y4399, r11 A4360 x4359.length n4362 x4359, b7 g4190 g4192 a4200 a4201 a4202 a4203, b6 g4192 A4195 l4194.length n4197 a4199, r5 A4195 l4194.length n4197 l4194, r5 none 0 0 [], r11 none 0 0 [], b20 g4205 none 0 0 none 0 0, b20 g4287 A4360 x4359.length n4362 A4424 y4399.length n4425]) (rest := [])⟩⟩
                    · have AL4406 := if_no c4423 AL4406
                      have c4423b0 : decide (x4410.length < 35184372088832) = false := decide_eq_false c4423
                      clear c4423
                      exact (none_no AL4406).elim
                  · have AL4406 := if_no c4415 AL4406
                    have c4415b0 : decide (x4409 < (wrap64 (t4276))) = false := decide_eq_false c4415
                    clear c4415
                    have ho := some_eq AL4406
                    subst ho
                    clear AL4406
                    have hc4432 : w4407.cell? ⟨g4287, 0, none⟩ = some (.slice A4360 x4359.length n4362) := blk_cellv (HS.out.at8) 0 rfl
                    have hc4433 : w4407.cell? ⟨g4287, 1, none⟩ = some (.slice A4411 x4410.length n4413) := blk_cellv (HS.out.at8) 1 rfl
                    have hc4434 : w4407.cell? ⟨g4205, 0, none⟩ = some (.slice none 0 0) := blk_cellv (HS.out.at7) 0 rfl
                    have hz4435 : w4407.frozen? ⟨g4205, 0, none⟩ = false := blk_fz (HS.out.at7) 0
                    have hc4436 : w4407.cell? ⟨g4205, 1, none⟩ = some (.slice none 0 0) := blk_cellv (HS.out.at7) 1 rfl
                    have hz4437 : w4407.frozen? ⟨g4205, 1, none⟩ = false := blk_fz (HS.out.at7) 1
                    go_wp2_with (first | ((with_reducible refine gate_store (t := 71) (p := 4) rfl ?_); refine store_event (w1 := (World.setCell (World.setCell w4407 ⟨g4205, 0, none⟩ (.slice A4360 x4359.length n4362)) ⟨g4205, 1, none⟩ (.slice A4411 x4410.length n4413))) rfl (t := 71) (p := 4) rfl rfl ?hr ?_; (case hr => first | (go_simp; done) | (go_simp; rfl)); intro w4438 hst; clear hc4432 hc4433 hc4434 hz4435 hc4436 hz4437; have hq0 : Sep FF w [r5 A4411 x4410.length n4413 x4410, r11 A4360 x4359.length n4362 x4359, b7 g4190 g4192 a4200 a4201 a4202 a4203, b6 g4192 A4195 l4194.length n4197 a4199, r5 A4195 l4194.length n4197 l4194, r5 none 0 0 [], r11 none 0 0 [], b20 g4205 A4360 x4359.length n4362 none 0 0, b20 g4287 A4360 x4359.length n4362 A4411 x4410.length n4413] (World.setCell w4407 ⟨g4205, 0, none⟩ (.slice A4360 x4359.length n4362)) := (HS.out).set1 (l1 := [r5 A4411 x4410.length n4413 x4410, r11 A4360 x4359.length n4362 x4359, b7 g4190 g4192 a4200 a4201 a4202 a4203, b6 g4192 A4195 l4194.length n4197 a4199, r5 A4195 l4194.length n4197 l4194, r5 none 0 0 [], r11 none 0 0 []]) (l2 := [b20 g4287 A4360 x4359.length n4362 A4411 x4410.length n4413]) 0 (.slice A4360 x4359.length n4362); have hq1 : Sep FF w [r5 A4411 x4410.length n4413 x4410, r11 A4360 x4359.length n4362 x4359, b7 g4190 g4192 a4200 a4201 a4202 a4203, b6 g4192 A4195 l4194.length n4197 a4199, r5 A4195 l4194.length n4197 l4194, r5 none 0 0 [], r11 none 0 0 [], b20 g4205 A4360 x4359.length n4362 A4411 x4410.length n4413, b20 g4287 A4360 x4359.length n4362 A4411 x4410.length n4413] (World.setCell (World.setCell w4407 ⟨g4205, 0, none⟩ (.slice A4360 x4359.length n4362)) ⟨g4205, 1, none⟩ (.slice A4411 x4410.length n4413)) := (hq0).set1 (l1 := [r5 A4411 x4410.length n4413 x4410, r11 A4360 x4359.length n4362 x4359, b7 g4190 g4192 a4200 a4201 a4202 a4203, b6 g4192 A4195 l4194.length n4197 a4199, r5 A4195 l4194.length n4197 l4194, r5 none 0 0 [], r11 none 0 0 []]) (l2 := [b20 g4287 A4360 x4359.length n4362 A4411 x4410.length n4413]) 1 (.slice A4411 x4410.length n4413); replace HS : Aside0 (Sep FF w [r5 A4411 x4410.length n4413 x4410, r11 A4360 x4359.length n4362 x4359, b7 g4190 g4192 a4200 a4201 a4202 a4203, b6 g4192 A4195 l4194.length n4197 a4199, r5 A4195 l4194.length n4197 l4194, r5 none 0 0 [], r11 none 0 0 [], b20 g4205 A4360 x4359.length n4362 A4411 x4410.length n4413, b20 g4287 A4360 x4359.length n4362 A4411 x4410.length n4413] w4438) := ⟨by rw [hst]; exact hq1⟩; clear hq0 hq1; clear hst; replace HS : Aside0 (Sep FF w [r5 A4411 x4410.length n4413 x4410, r11 A4360 x4359.length n4362 x4359, b7 g4190 g4192 a4200 a4201 a4202 a4203, b6 g4192 A4195 l4194.length n4197 a4199, r5 A4195 l4194.length n4197 l4194, b20 g4205 A4360 x4359.length n4362 A4411 x4410.length n4413] w4438) := ⟨HS.out.sub (.cons_cons _ (.cons_cons _ (.cons_cons _ (.cons_cons _ (.cons_cons _ (.cons _ (.cons _ (.cons_cons _ (.cons _ .slnil)))))))))⟩))
                    have hc4439 : w4438.cell? ⟨g4205, 0, none⟩ = some (.slice A4360 x4359.length n4362) := blk_cellv (HS.out.at5) 0 rfl
                    have hc4440 : w4438.cell? ⟨g4205, 1, none⟩ = some (.slice A4411 x4410.length n4413) := blk_cellv (HS.out.at5) 1 rfl
                    refine bodyPost_ret (v := .tuple #[.agg #[.slice A4360 x4359.length n4362, .slice A4411 x4410.length n4413], .bool true]) (by simp [results, Tryd.results36, go_sem, hc4439, hc4440]) rfl ?_
                    rw [← some_eq H]
                    exact ⟨A4360, x4359.length, n4362, A4411, x4410.length, n4413, (by first | rfl | (simp [IntKind.wrap_u32]; done)), (((((HS.out).front 1 (by simp)).front 4 (by simp)).front 4 (by simp)).front 4 (by simp)).keep (l := [b7 g4190 g4192 a4200 a4201 a4202 a4203, b6 g4192 A4195 l4194.length n4197 a4199, r5 A4195 l4194.length n4197 l4194, r11 A4360 x4359.length n4362 x4359, r5 A4411 x4410.length n4413 x4410]) (rest := [b20 g4205 A4360 x4359.length n4362 A4411 x4410.length n4413])⟩
      · have H := if_no c4286 H
        have c4286b0 : (t4283.2 == 0) = false := beq_eq_false_iff_ne.mpr c4286
        have c4286b1 : (t4283.2 != 0) = true := bne_iff_ne.mpr c4286
        clear c4286
        have hc4547 : w4285.cell? ⟨g4205, 0, none⟩ = some (.slice none 0 0) := blk_cellv (HS.out.at5) 0 rfl
        have hz4548 : w4285.frozen? ⟨g4205, 0, none⟩ = false := blk_fz (HS.out.at5) 0
        have hc4549 : w4285.cell? ⟨g4205, 1, none⟩ = some (.slice none 0 0) := blk_cellv (HS.out.at5) 1 rfl
        have hz4550 : w4285.frozen? ⟨g4205, 1, none⟩ = false := blk_fz (HS.out.at5) 1
        go_wp2_with (first | ((with_reducible refine gate_store (t := 71) (p := 4) rfl ?_); refine store_event (w1 := (World.setCell (World.setCell w4285 ⟨g4205, 0, none⟩ (.slice none 0 0)) ⟨g4205, 1, none⟩ (.slice none 0 0))) rfl (t := 71) (p := 4) rfl rfl ?hr ?_; (case hr => first | (go_simp; done) | (go_simp; rfl)); intro w4551 hst; clear hc4547 hz4548 hc4549 hz4550; have hq0 : Sep FF w [b7 g4190 g4192 a4200 a4201 a4202 a4203, b6 g4192 A4195 l4194.length n4197 a4199, r5 A4195 l4194.length n4197 l4194, r5 none 0 0 [], r11 none 0 0 [], b21 g4205 none 0 0] (World.setCell w4285 ⟨g4205, 0, none⟩ (.slice none 0 0)) := (HS.out).set1 (l1 := [b7 g4190 g4192 a4200 a4201 a4202 a4203, b6 g4192 A4195 l4194.length n4197 a4199, r5 A4195 l4194.length n4197 l4194, r5 none 0 0 [], r11 none 0 0 []]) (l2 := []) 0 (.slice none 0 0); have hq1 : Sep FF w [b7 g4190 g4192 a4200 a4201 a4202 a4203, b6 g4192 A4195 l4194.length n4197 a4199, r5 A4195 l4194.length n4197 l4194, r5 none 0 0 [], r11 none 0 0 [], b18 g4205] (World.setCell (World.setCell w4285 ⟨g4205, 0, none⟩ (.slice none 0 0)) ⟨g4205, 1, none⟩ (.slice none 0 0)) := (hq0).set1 (l1 := [b7 g4190 g4192 a4200 a4201 a4202 a4203, b6 g4192 A4195 l4194.length n4197 a4199, r5 A4195 l4194.length n4197 l4194, r5 none 0 0 [], r11 none 0 0 []]) (l2 := []) 1 (.slice none 0 0); replace HS : Aside0 (Sep FF w [b7 g4190 g4192 a4200 a4201 a4202 a4203, b6 g4192 A4195 l4194.length n4197 a4199, r5 A4195 l4194.length n4197 l4194, r5 none 0 0 [], r11 none 0 0 [], b18 g4205] w4551) := ⟨by rw [hst]; exact hq1⟩; clear hq0 hq1; clear hst; replace HS : Aside0 (Sep FF w [r11 none 0 0 [], b7 g4190 g4192 a4200 a4201 a4202 a4203, b6 g4192 A4195 l4194.length n4197 a4199, r5 A4195 l4194.length n4197 l4194, r5 none 0 0 [], r11 none 0 0 [], b19 g4205 none 0 0] w4551) := ⟨HS.out.nilrow 3 (Value.int .i64)⟩; replace HS : Aside0 (Sep FF w [r5 none 0 0 [], r11 none 0 0 [], b7 g4190 g4192 a4200 a4201 a4202 a4203, b6 g4192 A4195 l4194.length n4197 a4199, r5 A4195 l4194.length n4197 l4194, r5 none 0 0 [], r11 none 0 0 [], b20 g4205 none 0 0 none 0 0] w4551) := ⟨HS.out.nilrow 33 (Value.int .u32)⟩; replace HS : Aside0 (Sep FF w [r5 none 0 0 [], r11 none 0 0 [], b7 g4190 g4192 a4200 a4201 a4202 a4203, b6 g4192 A4195 l4194.length n4197 a4199, r5 A4195 l4194.length n4197 l4194, b20 g4205 none 0 0 none 0 0] w4551) := ⟨HS.out.sub (.cons_cons _ (.cons_cons _ (.cons_cons _ (.cons_cons _ (.cons_cons _ (.cons _ (.cons _ (.cons_cons _ .slnil))))))))⟩))
        have hc4556 : w4551.cell? ⟨g4205, 0, none⟩ = some (.slice none 0 0) := blk_cellv (HS.out.at5) 0 rfl
        have hc4557 : w4551.cell? ⟨g4205, 1, none⟩ = some (.slice none 0 0) := blk_cellv (HS.out.at5) 1 rfl
        refine bodyPost_ret (v := .tuple #[.agg #[.slice none 0 0, .slice none 0 0], .bool false]) (by simp [results, Tryd.results36, go_sem, hc4556, hc4557]) rfl ?_
        rw [← some_eq H]
        exact ⟨none, 0, 0, none, 0, 0, (by first | rfl | (simp [IntKind.wrap_u32]; done)), (((((HS.out).front 1 (by simp)).front 4 (by simp)).front 4 (by simp)).front 4 (by simp)).keep (l := [b7 g4190 g4192 a4200 a4201 a4202 a4203, b6 g4192 A4195 l4194.length n4197 a4199, r5 A4195 l4194.length n4197 l4194, r11 none 0 0 [], r5 none 0 0 []]) (rest := [b20 g4205 none 0 0 none 0 0])⟩
    · have H := if_no c4272 H
      have c4272b0 : t4269 = false := by simpa using c4272
      have c4272b1 : (!t4269) = true := by rw [c4272b0]; rfl
      try rw [c4272b1]
      clear c4272
      have hc4568 : w4271.cell? ⟨g4205, 0, none⟩ = some (.slice none 0 0) := blk_cellv (HS.out.at5) 0 rfl
      have hz4569 : w4271.frozen? ⟨g4205, 0, none⟩ = false := blk_fz (HS.out.at5) 0
      have hc4570 : w4271.cell? ⟨g4205, 1, none⟩ = some (.slice none 0 0) := blk_cellv (HS.out.at5) 1 rfl
      have hz4571 : w4271.frozen? ⟨g4205, 1, none⟩ = false := blk_fz (HS.out.at5) 1
      go_wp2_with (first | ((with_reducible refine gate_store (t := 71) (p := 4) rfl ?_); refine store_event (w1 := (World.setCell (World.setCell w4271 ⟨g4205, 0, none⟩ (.slice none 0 0)) ⟨g4205, 1, none⟩ (.slice none 0 0))) rfl (t := 71) (p := 4) rfl rfl ?hr ?_; (case hr => first | (go_simp; done) | (go_simp; rfl)); intro w4572 hst; clear hc4568 hz4569 hc4570 hz4571; have hq0 : Sep FF w [b7 g4190 g4192 a4200 a4201 a4202 a4203, b6 g4192 A4195 l4194.length n4197 a4199, r5 A4195 l4194.length n4197 l4194, r5 none 0 0 [], r11 none 0 0 [], b21 g4205 none 0 0] (World.setCell w4271 ⟨g4205, 0, none⟩ (.slice none 0 0)) := (HS.out).set1 (l1 := [b7 g4190 g4192 a4200 a4201 a4202 a4203, b6 g4192 A4195 l4194.length n4197 a4199, r5 A4195 l4194.length n4197 l4194, r5 none 0 0 [], r11 none 0 0 []]) (l2 := []) 0 (.slice none 0 0); have hq1 : Sep FF w [b7 g4190 g4192 a4200 a4201 a4202 a4203, b6 g4192 A4195 l4194.length n4197 a4199, r5 A4195 l4194.length n4197 l4194, r5 none 0 0 [], r11 none 0 0 [], b18 g4205] (World.setCell (World.setCell w4271 ⟨g4205, 0, none⟩ (.slice none 0 0)) ⟨g4205, 1, none⟩ (.slice none 0 0)) := (hq0).set1 (l1 := [b7 g4190 g4192 a4200 a4201 a4202 a4203, b6 g4192 A4195 l4194.length n4197 a4199, r5 A4195 l4194.length n4197 l4194, r5 none 0 0 [], r11 none 0 0 []]) (l2 := []) 1 (.slice none 0 0); replace HS : Aside0 (Sep FF w [b7 g4190 g4192 a4200 a4201 a4202 a4203, b6 g4192 A4195 l4194.length n4197 a4199, r5 A4195 l4194.length n4197 l4194, r5 none 0 0 [], r11 none 0 0 [], b18 g4205] w4572) := ⟨by rw [hst]; exact hq1⟩; clear hq0 hq1; clear hst; replace HS : Aside0 (Sep FF w [r11 none 0 0 [], b7 g4190 g4192 a4200 a4201 a4202 a4203, b6 g4192 A4195 l4194.length n4197 a4199, r5 A4195 l4194.length n4197 l4194, r5 none 0 0 [], r11 none 0 0 [], b19 g4205 none 0 0] w4572) := ⟨HS.out.nilrow 3 (Value.int .i64)⟩; replace HS : Aside0 (Sep FF w [r5 none 0 0 [], r11 none 0 0 [], b7 g4190 g4192 a4200 a4201 a4202 a4203, b6 g4192 A4195 l4194.length n4197 a4199, r5 A4195 l4194.length n4197 l4194, r5 none 0 0 [], r11 none 0 0 [], b20 g4205 none 0 0 none 0 0] w4572) := ⟨HS.out.nilrow 33 (Value.int .u32)⟩; replace HS : Aside0 (Sep FF w [r5 none 0 0 [], r11 none 0 0 [], b7 g4190 g4192 a4200 a4201 a4202 a4203, b6 g4192 A4195 l4194.length n4197 a4199, r5 A4195 l4194.length n4197 l4194, b20 g4205 none 0 0 none 0 0] w4572) := ⟨HS.out.sub (.cons_cons _ (.cons_cons _ (.cons_cons _ (.cons_cons _ (.cons_cons _ (.cons _ (.cons _ (.cons_cons _ .slnil))))))))⟩))
      have hc4577 : w4572.cell? ⟨g4205, 0, none⟩ = some (.slice none 0 0) := blk_cellv (HS.out.at5) 0 rfl
      have hc4578 : w4572.cell? ⟨g4205, 1, none⟩ = some (.slice none 0 0) := blk_cellv (HS.out.at5) 1 rfl
      refine bodyPost_ret (v := .tuple #[.agg #[.slice none 0 0, .slice none 0 0], .bool false]) (by simp [results, Tryd.results36, go_sem, hc4577, hc4578]) rfl ?_
      rw [← some_eq H]
      exact ⟨none, 0, 0, none, 0, 0, (by first | rfl | (simp [IntKind.wrap_u32]; done)), (((((HS.out).front 1 (by simp)).front 4 (by simp)).front 4 (by simp)).front 4 (by simp)).keep (l := [b7 g4190 g4192 a4200 a4201 a4202 a4203, b6 g4192 A4195 l4194.length n4197 a4199, r5 A4195 l4194.length n4197 l4194, r11 none 0 0 [], r5 none 0 0 []]) (rest := [b20 g4205 none 0 0 none 0 0])⟩
  · have H := if_no c4215 H
    have c4215b0 : t4212 = false := by simpa using c4215
    have c4215b1 : (!t4212) = true := by rw [c4215b0]; rfl
    try rw [c4215b1]
    clear c4215
    have hc4589 : w4214.cell? ⟨g4205, 0, none⟩ = some (.slice none 0 0) := blk_cellv (HS.out.at5) 0 rfl
    have hz4590 : w4214.frozen? ⟨g4205, 0, none⟩ = false := blk_fz (HS.out.at5) 0
    have hc4591 : w4214.cell? ⟨g4205, 1, none⟩ = some (.slice none 0 0) := blk_cellv (HS.out.at5) 1 rfl
    have hz4592 : w4214.frozen? ⟨g4205, 1, none⟩ = false := blk_fz (HS.out.at5) 1
    go_wp2_with (first | ((with_reducible refine gate_store (t := 71) (p := 4) rfl ?_); refine store_event (w1 := (World.setCell (World.setCell w4214 ⟨g4205, 0, none⟩ (.slice none 0 0)) ⟨g4205, 1, none⟩ (.slice none 0 0))) rfl (t := 71) (p := 4) rfl rfl ?hr ?_; (case hr => first | (go_simp; done) | (go_simp; rfl)); intro w4593 hst; clear hc4589 hz4590 hc4591 hz4592; have hq0 : Sep FF w [b7 g4190 g4192 a4200 a4201 a4202 a4203, b6 g4192 A4195 l4194.length n4197 a4199, r5 A4195 l4194.length n4197 l4194, r5 none 0 0 [], r11 none 0 0 [], b21 g4205 none 0 0] (World.setCell w4214 ⟨g4205, 0, none⟩ (.slice none 0 0)) := (HS.out).set1 (l1 := [b7 g4190 g4192 a4200 a4201 a4202 a4203, b6 g4192 A4195 l4194.length n4197 a4199, r5 A4195 l4194.length n4197 l4194, r5 none 0 0 [], r11 none 0 0 []]) (l2 := []) 0 (.slice none 0 0); have hq1 : Sep FF w [b7 g4190 g4192 a4200 a4201 a4202 a4203, b6 g4192 A4195 l4194.length n4197 a4199, r5 A4195 l4194.length n4197 l4194, r5 none 0 0 [], r11 none 0 0 [], b18 g4205] (World.setCell (World.setCell w4214 ⟨g4205, 0, none⟩ (.slice none 0 0)) ⟨g4205, 1, none⟩ (.slice none 0 0)) := (hq0).set1 (l1 := [b7 g4190 g4192 a4200 a4201 a4202 a4203, b6 g4192 A4195 l4194.length n4197 a4199, r5 A4195 l4194.length n4197 l4194, r5 none 0 0 [], r11 none 0 0 []]) (l2 := []) 1 (.slice none 0 0); replace HS : Aside0 (Sep FF w [b7 g4190 g4192 a4200 a4201 a4202 a4203, b6 g4192 A4195 l4194.length n4197 a4199, r5 A4195 l4194.length n4197 l4194, r5 none 0 0 [], r11 none 0 0 [], b18 g4205] w4593) := ⟨by rw [hst]; exact hq1⟩; clear hq0 hq1; clear hst; replace HS : Aside0 (Sep FF w [r11 none 0 0 [], b7 g4190 g4192 a4200 a4201 a4202 a4203, b6 g4192 A4195 l4194.length n4197 a4199, r5 A4195 l4194.length n4197 l4194, r5 none 0 0 [], r11 none 0 0 [], b19 g4205 none 0 0] w4593) := ⟨HS.out.nilrow 3 (Value.int .i64)⟩; replace HS : Aside0 (Sep FF w [r5 none 0 0 [], r11 none 0 0 [], b7 g4190 g4192 a4200 a4201 a4202 a4203, b6 g4192 A4195 l4194.length n4197 a4199, r5 A4195 l4194.length n4197 l4194, r5 none 0 0 [], r11 none 0 0 [], b20 g4205 none 0 0 none 0 0] w4593) := ⟨HS.out.nilrow 33 (Value.int .u32)⟩; replace HS : Aside0 (Sep FF w [r5 none 0 0 [], r11 none 0 0 [], b7 g4190 g4192 a4200 a4201 a4202 a4203, b6 g4192 A4195 l4194.length n4197 a4199, r5 A4195 l4194.length n4197 l4194, b20 g4205 none 0 0 none 0 0] w4593) := ⟨HS.out.sub (.cons_cons _ (.cons_cons _ (.cons_cons _ (.cons_cons _ (.cons_cons _ (.cons _ (.cons _ (.cons_cons _ .slnil))))))))⟩))
    have hc4598 : w4593.cell? ⟨g4205, 0, none⟩ = some (.slice none 0 0) := blk_cellv (HS.out.at5) 0 rfl
    have hc4599 : w4593.cell? ⟨g4205, 1, none⟩ = some (.slice none 0 0) := blk_cellv (HS.out.at5) 1 rfl
    refine bodyPost_ret (v := .tuple #[.agg #[.slice none 0 0, .slice none 0 0], .bool false]) (by simp [results, Tryd.results36, go_sem, hc4598, hc4599]) rfl ?_
    rw [← some_eq H]
    exact ⟨none, 0, 0, none, 0, 0, (by first | rfl | (simp [IntKind.wrap_u32]; done)), (((((HS.out).front 1 (by simp)).front 4 (by simp)).front 4 (by simp)).front 4 (by simp)).keep (l := [b7 g4190 g4192 a4200 a4201 a4202 a4203, b6 g4192 A4195 l4194.length n4197 a4199, r5 A4195 l4194.length n4197 l4194, r11 none 0 0 [], r5 none 0 0 []]) (rest := [b20 g4205 none 0 0 none 0 0])⟩

set_option maxHeartbeats 30000000 in
set_option maxRecDepth 100000 in
theorem count_See.calls (k : Nat) (l4178 : List Int) (a4183 : Int) (a4184 : Int) (a4185 : Int) (a4186 : Int) (a4187 : Int) (a4188 : Int) (g4174 : Nat) (g4176 : Nat) (A4179 : Option Addr) (m4180 : Nat) (n4181 : Nat) (r : Int) (w : World)  (HGl0 : Aside0 (Gl 0 #[.int .i64 0, .int .i64 0, .int .i64 0, .int .i64 0, .int .i64 0] (fps [b7 g4174 g4176 a4184 a4185 a4186 a4187, b6 g4176 A4179 m4180 n4181 a4183, r5 A4179 m4180 n4181 l4178]) w)) (HS : Aside0 (Sep (fps [b7 g4174 g4176 a4184 a4185 a4186 a4187, b6 g4176 A4179 m4180 n4181 a4183, r5 A4179 m4180 n4181 l4178]) w [b7 g4174 g4176 a4184 a4185 a4186 a4187, b6 g4176 A4179 m4180 n4181 a4183, r5 A4179 m4180 n4181 l4178] w)) (H : Aside0 (count_See.f k l4178 a4183 a4184 a4185 a4186 a4187 a4188 = some r)) :
    Calls Tryd.prog 41 #[.pointer (some ⟨g4174, 0, none⟩), .int .i64 a4188] w fun e w' => e = .returned (.int .i64 r) ∧ Sep (fps [b7 g4174 g4176 a4184 a4185 a4186 a4187, b6 g4176 A4179 m4180 n4181 a4183, r5 A4179 m4180 n4181 l4178]) w [b7 g4174 g4176 a4184 a4185 a4186 a4187, b6 g4176 A4179 m4180 n4181 a4183, r5 A4179 m4180 n4181 l4178] w' := by
  generalize (fps [b7 g4174 g4176 a4184 a4185 a4186 a4187, b6 g4176 A4179 m4180 n4181 a4183, r5 A4179 m4180 n4181 l4178]) = FF at HS HGl0 ⊢
  obtain rfl := (row_len (HS.out.at2)).symm
  unfold count_See.f at H
  go_enter Tryd.func41, Tryd.ntmps41
  go_wp2_with fail
  obtain ⟨t4620, HA4621, H⟩ := bind_some H
  refine (obj_See.calls _ l4178 a4183 a4184 a4185 a4186 a4187 a4188 g4174 g4176 A4179 l4178.length n4181 t4620 _ ⟨HGl0.out.pass HS.out⟩ ⟨HS.out.begin⟩ HA4621).mono ?_
  rintro e_ w4622 ⟨A4625, m4626, n4627, A4629, m4630, n4631, rfl, hS⟩
  replace HS : Aside0 (Sep FF w [b7 g4174 g4176 a4184 a4185 a4186 a4187, b6 g4176 A4179 l4178.length n4181 a4183, r5 A4179 l4178.length n4181 l4178, r11 A4625 m4626 n4627 t4620.2.1, r5 A4629 m4630 n4631 t4620.2.2] w4622) := ⟨HS.out.call hS⟩
  clear hS
  obtain rfl := (row_len (HS.out.at3)).symm
  obtain rfl := (row_len (HS.out.at4)).symm
  by_cases c4645 : t4620.1 = true
  · have H := if_yes c4645 H
    have c4645b0 : t4620.1 = true := c4645
    have c4645b1 : (!t4620.1) = false := by rw [c4645b0]; rfl
    try rw [c4645b1]
    clear c4645
    go_wp2_with (first | ((with_reducible refine gate_dst (N := 5) rfl ?_); refine box_on ?hg (N := 5) ?hd (cs := #[.slice none 0 0, .slice none 0 0]) (t := 71) ?hr ?_; (case hd => rfl); (case hg => rfl); (case hr => first | (go_simp; done) | (go_simp; rfl)); intro g4633 hg w4634 hbox hb; replace HS : Aside0 (Sep FF w [b7 g4174 g4176 a4184 a4185 a4186 a4187, b6 g4176 A4179 l4178.length n4181 a4183, r5 A4179 l4178.length n4181 l4178, r11 A4625 ((t4620.2.1).length) n4627 t4620.2.1, r5 A4629 ((t4620.2.2).length) n4631 t4620.2.2, b18 g4633] w4634) := ⟨HS.out.box hg hbox hb⟩; clear hg hbox hb; replace HS : Aside0 (Sep FF w [r11 none 0 0 [], b7 g4174 g4176 a4184 a4185 a4186 a4187, b6 g4176 A4179 l4178.length n4181 a4183, r5 A4179 l4178.length n4181 l4178, r11 A4625 ((t4620.2.1).length) n4627 t4620.2.1, r5 A4629 ((t4620.2.2).length) n4631 t4620.2.2, b19 g4633 none 0 0] w4634) := ⟨HS.out.nilrow 3 (Value.int .i64)⟩; replace HS : Aside0 (Sep FF w [r5 none 0 0 [], r11 none 0 0 [], b7 g4174 g4176 a4184 a4185 a4186 a4187, b6 g4176 A4179 l4178.length n4181 a4183, r5 A4179 l4178.length n4181 l4178, r11 A4625 ((t4620.2.1).length) n4627 t4620.2.1, r5 A4629 ((t4620.2.2).length) n4631 t4620.2.2, b20 g4633 none 0 0 none 0 0] w4634) := ⟨HS.out.nilrow 33 (Value.int .u32)⟩; have hc4640 : w4634.cell? ⟨g4633, 0, none⟩ = some (.slice none 0 0) := blk_cellv (HS.out.at7) 0 rfl; have hz4641 : w4634.frozen? ⟨g4633, 0, none⟩ = false := blk_fz (HS.out.at7) 0; have hc4642 : w4634.cell? ⟨g4633, 1, none⟩ = some (.slice none 0 0) := blk_cellv (HS.out.at7) 1 rfl; have hz4643 : w4634.frozen? ⟨g4633, 1, none⟩ = false := blk_fz (HS.out.at7) 1) | ((with_reducible refine gate_store (t := 71) (p := 5) rfl ?_); refine store_event (w1 := (World.setCell (World.setCell w4634 ⟨g4633, 0, none⟩ (.slice A4625 ((t4620.2.1).length) n4627)) ⟨g4633, 1, none⟩ (.slice A4629 ((t4620.2.2).length) n4631))) rfl (t := 71) (p := 5) rfl rfl ?hr ?_; (case hr => first | (go_simp; done) | (go_simp; rfl)); intro w4644 hst; clear hc4640 hz4641 hc4642 hz4643; have hq0 : Sep FF w [r5 none 0 0 [], r11 none 0 0 [], b7 g4174 g4176 a4184 a4185 a4186 a4187, b6 g4176 A4179 l4178.length n4181 a4183, r5 A4179 l4178.length n4181 l4178, r11 A4625 ((t4620.2.1).length) n4627 t4620.2.1, r5 A4629 ((t4620.2.2).length) n4631 t4620.2.2, b20 g4633 A4625 ((t4620.2.1).length) n4627 none 0 0] (World.setCell w4634 ⟨g4633, 0, none⟩ (.slice A4625 ((t4620.2.1).length) n4627)) := (HS.out).set1 (l1 := [r5 none 0 0 [], r11 none 0 0 [], b7 g4174 g4176 a4184 a4185 a4186 a4187, b6 g4176 A4179 l4178.length n4181 a4183, r5 A4179 l4178.length n4181 l4178, r11 A4625 ((t4620.2.1).length) n4627 t4620.2.1, r5 A4629 ((t4620.2.2).length) n4631 t4620.2.2]) (l2 := []) 0 (.slice A4625 ((t4620.2.1).length) n4627); have hq1 : Sep FF w [r5 none 0 0 [], r11 none 0 0 [], b7 g4174 g4176 a4184 a4185 a4186 a4187, b6 g4176 A4179 l4178.length n4181 a4183, r5 A4179 l4178.length n4181 l4178, r11 A4625 ((t4620.2.1).length) n4627 t4620.2.1, r5 A4629 ((t4620.2.2).length) n4631 t4620.2.2, b20 g4633 A4625 ((t4620.2.1).length) n4627 A4629 ((t4620.2.2).length) n4631] (World.setCell (World.setCell w4634 ⟨g4633, 0, none⟩ (.slice A4625 ((t4620.2.1).length) n4627)) ⟨g4633, 1, none⟩ (.slice A4629 ((t4620.2.2).length) n4631)) := (hq0).set1 (l1 := [r5 none 0 0 [], r11 none 0 0 [], b7 g4174 g4176 a4184 a4185 a4186 a4187, b6 g4176 A4179 l4178.length n4181 a4183, r5 A4179 l4178.length n4181 l4178, r11 A4625 ((t4620.2.1).length) n4627 t4620.2.1, r5 A4629 ((t4620.2.2).length) n4631 t4620.2.2]) (l2 := []) 1 (.slice A4629 ((t4620.2.2).length) n4631); replace HS : Aside0 (Sep FF w [r5 none 0 0 [], r11 none 0 0 [], b7 g4174 g4176 a4184 a4185 a4186 a4187, b6 g4176 A4179 l4178.length n4181 a4183, r5 A4179 l4178.length n4181 l4178, r11 A4625 ((t4620.2.1).length) n4627 t4620.2.1, r5 A4629 ((t4620.2.2).length) n4631 t4620.2.2, b20 g4633 A4625 ((t4620.2.1).length) n4627 A4629 ((t4620.2.2).length) n4631] w4644) := ⟨by rw [hst]; exact hq1⟩; clear hq0 hq1; clear hst; replace HS : Aside0 (Sep FF w [b7 g4174 g4176 a4184 a4185 a4186 a4187, b6 g4176 A4179 l4178.length n4181 a4183, r5 A4179 l4178.length n4181 l4178] w4644) := ⟨HS.out.sub (.cons _ (.cons _ (.cons_cons _ (.cons_cons _ (.cons_cons _ (.cons _ (.cons _ (.cons _ .slnil))))))))⟩))
    obtain ⟨t4646, HA4647, H⟩ := bind_some H
    refine (ground_Ground_SeeWord.calls l4178 a4183 a4184 a4185 a4186 a4187 (wrap64 (a4188 - 1)) 3 g4174 g4176 A4179 l4178.length n4181 t4646 _ ⟨HGl0.out.pass HS.out⟩ ⟨HS.out.begin⟩ HA4647).mono ?_
    rintro e_ w4648 ⟨rfl, hS⟩
    replace HS : Aside0 (Sep FF w [b7 g4174 g4176 a4184 a4185 a4186 a4187, b6 g4176 A4179 l4178.length n4181 a4183, r5 A4179 l4178.length n4181 l4178] w4648) := ⟨HS.out.call hS⟩
    clear hS
    go_wp2_with fail
    go_ret
    rw [← some_eq H]
    exact ⟨(by first | rfl | (simp [IntKind.wrap_u32]; done)), HS.out⟩
  · have H := if_no c4645 H
    have c4645b0 : t4620.1 = false := by simpa using c4645
    have c4645b1 : (!t4620.1) = true := by rw [c4645b0]; rfl
    try rw [c4645b1]
    clear c4645
    go_wp2_with (first | ((with_reducible refine gate_dst (N := 5) rfl ?_); refine box_on ?hg (N := 5) ?hd (cs := #[.slice none 0 0, .slice none 0 0]) (t := 71) ?hr ?_; (case hd => rfl); (case hg => rfl); (case hr => first | (go_simp; done) | (go_simp; rfl)); intro g4633 hg w4634 hbox hb; replace HS : Aside0 (Sep FF w [b7 g4174 g4176 a4184 a4185 a4186 a4187, b6 g4176 A4179 l4178.length n4181 a4183, r5 A4179 l4178.length n4181 l4178, r11 A4625 ((t4620.2.1).length) n4627 t4620.2.1, r5 A4629 ((t4620.2.2).length) n4631 t4620.2.2, b18 g4633] w4634) := ⟨HS.out.box hg hbox hb⟩; clear hg hbox hb; replace HS : Aside0 (Sep FF w [r11 none 0 0 [], b7 g4174 g4176 a4184 a4185 a4186 a4187, b6 g4176 A4179 l4178.length n4181 a4183, r5 A4179 l4178.length n4181 l4178, r11 A4625 ((t4620.2.1).length) n4627 t4620.2.1, r5 A4629 ((t4620.2.2).length) n4631 t4620.2.2, b19 g4633 none 0 0] w4634) := ⟨HS.out.nilrow 3 (Value.int .i64)⟩; replace HS : Aside0 (Sep FF w [r5 none 0 0 [], r11 none 0 0 [], b7 g4174 g4176 a4184 a4185 a4186 a4187, b6 g4176 A4179 l4178.length n4181 a4183, r5 A4179 l4178.length n4181 l4178, r11 A4625 ((t4620.2.1).length) n4627 t4620.2.1, r5 A4629 ((t4620.2.2).length) n4631 t4620.2.2, b20 g4633 none 0 0 none 0 0] w4634) := ⟨HS.out.nilrow 33 (Value.int .u32)⟩; have hc4640 : w4634.cell? ⟨g4633, 0, none⟩ = some (.slice none 0 0) := blk_cellv (HS.out.at7) 0 rfl; have hz4641 : w4634.frozen? ⟨g4633, 0, none⟩ = false := blk_fz (HS.out.at7) 0; have hc4642 : w4634.cell? ⟨g4633, 1, none⟩ = some (.slice none 0 0) := blk_cellv (HS.out.at7) 1 rfl; have hz4643 : w4634.frozen? ⟨g4633, 1, none⟩ = false := blk_fz (HS.out.at7) 1) | ((with_reducible refine gate_store (t := 71) (p := 5) rfl ?_); refine store_event (w1 := (World.setCell (World.setCell w4634 ⟨g4633, 0, none⟩ (.slice A4625 ((t4620.2.1).length) n4627)) ⟨g4633, 1, none⟩ (.slice A4629 ((t4620.2.2).length) n4631))) rfl (t := 71) (p := 5) rfl rfl ?hr ?_; (case hr => first | (go_simp; done) | (go_simp; rfl)); intro w4644 hst; clear hc4640 hz4641 hc4642 hz4643; have hq0 : Sep FF w [r5 none 0 0 [], r11 none 0 0 [], b7 g4174 g4176 a4184 a4185 a4186 a4187, b6 g4176 A4179 l4178.length n4181 a4183, r5 A4179 l4178.length n4181 l4178, r11 A4625 ((t4620.2.1).length) n4627 t4620.2.1, r5 A4629 ((t4620.2.2).length) n4631 t4620.2.2, b20 g4633 A4625 ((t4620.2.1).length) n4627 none 0 0] (World.setCell w4634 ⟨g4633, 0, none⟩ (.slice A4625 ((t4620.2.1).length) n4627)) := (HS.out).set1 (l1 := [r5 none 0 0 [], r11 none 0 0 [], b7 g4174 g4176 a4184 a4185 a4186 a4187, b6 g4176 A4179 l4178.length n4181 a4183, r5 A4179 l4178.length n4181 l4178, r11 A4625 ((t4620.2.1).length) n4627 t4620.2.1, r5 A4629 ((t4620.2.2).length) n4631 t4620.2.2]) (l2 := []) 0 (.slice A4625 ((t4620.2.1).length) n4627); have hq1 : Sep FF w [r5 none 0 0 [], r11 none 0 0 [], b7 g4174 g4176 a4184 a4185 a4186 a4187, b6 g4176 A4179 l4178.length n4181 a4183, r5 A4179 l4178.length n4181 l4178, r11 A4625 ((t4620.2.1).length) n4627 t4620.2.1, r5 A4629 ((t4620.2.2).length) n4631 t4620.2.2, b20 g4633 A4625 ((t4620.2.1).length) n4627 A4629 ((t4620.2.2).length) n4631] (World.setCell (World.setCell w4634 ⟨g4633, 0, none⟩ (.slice A4625 ((t4620.2.1).length) n4627)) ⟨g4633, 1, none⟩ (.slice A4629 ((t4620.2.2).length) n4631)) := (hq0).set1 (l1 := [r5 none 0 0 [], r11 none 0 0 [], b7 g4174 g4176 a4184 a4185 a4186 a4187, b6 g4176 A4179 l4178.length n4181 a4183, r5 A4179 l4178.length n4181 l4178, r11 A4625 ((t4620.2.1).length) n4627 t4620.2.1, r5 A4629 ((t4620.2.2).length) n4631 t4620.2.2]) (l2 := []) 1 (.slice A4629 ((t4620.2.2).length) n4631); replace HS : Aside0 (Sep FF w [r5 none 0 0 [], r11 none 0 0 [], b7 g4174 g4176 a4184 a4185 a4186 a4187, b6 g4176 A4179 l4178.length n4181 a4183, r5 A4179 l4178.length n4181 l4178, r11 A4625 ((t4620.2.1).length) n4627 t4620.2.1, r5 A4629 ((t4620.2.2).length) n4631 t4620.2.2, b20 g4633 A4625 ((t4620.2.1).length) n4627 A4629 ((t4620.2.2).length) n4631] w4644) := ⟨by rw [hst]; exact hq1⟩; clear hq0 hq1; clear hst; replace HS : Aside0 (Sep FF w [b7 g4174 g4176 a4184 a4185 a4186 a4187, b6 g4176 A4179 l4178.length n4181 a4183, r5 A4179 l4178.length n4181 l4178] w4644) := ⟨HS.out.sub (.cons _ (.cons _ (.cons_cons _ (.cons_cons _ (.cons_cons _ (.cons _ (.cons _ (.cons _ .slnil))))))))⟩))
    go_ret
    rw [← some_eq H]
    exact ⟨(by first | rfl | (simp [IntKind.wrap_u32]; done)), HS.out⟩

set_option maxHeartbeats 30000000 in
set_option maxRecDepth 100000 in
theorem quitrentlaw12_CountNobody.calls (k : Nat) (a1 : Int) (r : Bool) (w : World)  (HGl0 : Aside0 (Gl 0 #[.int .i64 0, .int .i64 0, .int .i64 0, .int .i64 0, .int .i64 0] (fps []) w)) (HS : Aside0 (Sep (fps []) w [] w)) (H : Aside0 (quitrentlaw12_CountNobody.f k a1 = some r)) :
    Calls Tryd.prog 8 #[.int .i64 a1] w fun e w' => e = .returned (.bool r) ∧ Sep (fps []) w [] w' := by
  unfold quitrentlaw12_CountNobody.f at H
  go_enter Tryd.func8, Tryd.ntmps8
  go_wp2_with fail
  obtain ⟨t1983, HA1984, H⟩ := bind_some H
  rcases t1983 with t1985 | (t1986 | t1987)
  · have H := sum_l H
    refine (quitrentlaw12_Opened.calls _ 3 16 1 1 (.inl t1985) _ ⟨HGl0.out.pass (l := []) HS.out⟩ ⟨Sep.start _⟩ HA1984).mono ?_
    rintro e_ w1988 ⟨rfl, hS⟩
    replace HS : Aside0 (Sep (fps []) w [] w1988) := ⟨HS.out.call hS⟩
    clear hS
    by_cases c1989 : t1985 = true
    · have H := if_yes c1989 H
      have c1989b0 : t1985 = true := c1989
      have c1989b1 : (!t1985) = false := by rw [c1989b0]; rfl
      try rw [c1989b1]
      clear c1989
      go_wp2_with fail
      obtain ⟨t2188, HA2189, H⟩ := bind_some H
      refine (count_Up_nil.calls a1 t2188 _ ⟨HGl0.out.pass (l := []) HS.out⟩ ⟨Sep.start _⟩ HA2189).mono ?_
      rintro e_ w2190 ⟨rfl, hS⟩
      replace HS : Aside0 (Sep (fps []) w [] w2190) := ⟨HS.out.call hS⟩
      clear hS
      go_wp2_with fail
      obtain ⟨t2195, HA2196, H⟩ := bind_some H
      refine (count_Down_nil.calls a1 t2195 _ ⟨HGl0.out.pass (l := []) HS.out⟩ ⟨Sep.start _⟩ HA2196).mono ?_
      rintro e_ w2197 ⟨rfl, hS⟩
      replace HS : Aside0 (Sep (fps []) w [] w2197) := ⟨HS.out.call hS⟩
      clear hS
      go_wp2_with fail
      obtain ⟨t2198, HA2199, H⟩ := bind_some H
      refine (count_Up_nil.calls a1 t2198 _ ⟨HGl0.out.pass (l := []) HS.out⟩ ⟨Sep.start _⟩ HA2199).mono ?_
      rintro e_ w2200 ⟨rfl, hS⟩
      replace HS : Aside0 (Sep (fps []) w [] w2200) := ⟨HS.out.call hS⟩
      clear hS
      go_wp2_with fail
      obtain ⟨t2201, HA2202, H⟩ := bind_some H
      refine (count_Down_nil.calls a1 t2201 _ ⟨HGl0.out.pass (l := []) HS.out⟩ ⟨Sep.start _⟩ HA2202).mono ?_
      rintro e_ w2203 ⟨rfl, hS⟩
      replace HS : Aside0 (Sep (fps []) w [] w2203) := ⟨HS.out.call hS⟩
      clear hS
      by_cases c2204 : t2188.1 = 0
      · have H := if_yes c2204 H
        have c2204b0 : (t2188.1 == 0) = true := beq_iff_eq.mpr c2204
        have c2204b1 : (t2188.1 != 0) = false := bne_eq_false_iff_eq.mpr c2204
        clear c2204
        by_cases c2205 : t2188.2 = true
        · have H := if_yes c2205 H
          have c2205b0 : t2188.2 = true := c2205
          have c2205b1 : (!t2188.2) = false := by rw [c2205b0]; rfl
          try rw [c2205b1]
          clear c2205
          go_wp2_with fail
          go_ret
          rw [← some_eq H]
          exact ⟨(by first | rfl | (simp [IntKind.wrap_u32]; done)), HS.out⟩
        · have H := if_no c2205 H
          have c2205b0 : t2188.2 = false := by simpa using c2205
          have c2205b1 : (!t2188.2) = true := by rw [c2205b0]; rfl
          try rw [c2205b1]
          clear c2205
          by_cases c2206 : t2195.1 = 0
          · have H := if_yes c2206 H
            have c2206b0 : (t2195.1 == 0) = true := beq_iff_eq.mpr c2206
            have c2206b1 : (t2195.1 != 0) = false := bne_eq_false_iff_eq.mpr c2206
            clear c2206
            by_cases c2207 : t2195.2 = true
            · have H := if_yes c2207 H
              have c2207b0 : t2195.2 = true := c2207
              have c2207b1 : (!t2195.2) = false := by rw [c2207b0]; rfl
              try rw [c2207b1]
              clear c2207
              go_wp2_with fail
              go_ret
              rw [← some_eq H]
              exact ⟨(by first | rfl | (simp [IntKind.wrap_u32]; done)), HS.out⟩
            · have H := if_no c2207 H
              have c2207b0 : t2195.2 = false := by simpa using c2207
              have c2207b1 : (!t2195.2) = true := by rw [c2207b0]; rfl
              try rw [c2207b1]
              clear c2207
              by_cases c2208 : t2198.1 = 0
              · have H := if_yes c2208 H
                have c2208b0 : (t2198.1 == 0) = true := beq_iff_eq.mpr c2208
                have c2208b1 : (t2198.1 != 0) = false := bne_eq_false_iff_eq.mpr c2208
                clear c2208
                by_cases c2209 : t2198.2 = true
                · have H := if_yes c2209 H
                  have c2209b0 : t2198.2 = true := c2209
                  have c2209b1 : (!t2198.2) = false := by rw [c2209b0]; rfl
                  try rw [c2209b1]
                  clear c2209
                  go_wp2_with fail
                  go_ret
                  rw [← some_eq H]
                  exact ⟨(by first | rfl | (simp [IntKind.wrap_u32]; done)), HS.out⟩
                · have H := if_no c2209 H
                  have c2209b0 : t2198.2 = false := by simpa using c2209
                  have c2209b1 : (!t2198.2) = true := by rw [c2209b0]; rfl
                  try rw [c2209b1]
                  clear c2209
                  by_cases c2210 : t2201.1 = 0
                  · have H := if_yes c2210 H
                    have c2210b0 : (t2201.1 == 0) = true := beq_iff_eq.mpr c2210
                    have c2210b1 : (t2201.1 != 0) = false := bne_eq_false_iff_eq.mpr c2210
                    clear c2210
                    by_cases c2211 : t2201.2 = true
                    · have H := if_yes c2211 H
                      have c2211b0 : t2201.2 = true := c2211
                      have c2211b1 : (!t2201.2) = false := by rw [c2211b0]; rfl
                      try rw [c2211b1]
                      clear c2211
                      go_wp2_with fail
                      go_ret
                      rw [← some_eq H]
                      exact ⟨(by first | rfl | (simp [IntKind.wrap_u32]; done)), HS.out⟩
                    · have H := if_no c2211 H
                      have c2211b0 : t2201.2 = false := by simpa using c2211
                      have c2211b1 : (!t2201.2) = true := by rw [c2211b0]; rfl
                      try rw [c2211b1]
                      clear c2211
                      go_wp2_with fail
                      obtain ⟨t2220, HA2221, H⟩ := bind_some H
                      refine (count_Of_nil.calls a1 t2220 _ ⟨HGl0.out.pass (l := []) HS.out⟩ ⟨Sep.start _⟩ HA2221).mono ?_
                      rintro e_ w2222 ⟨rfl, hS⟩
                      replace HS : Aside0 (Sep (fps []) w [] w2222) := ⟨HS.out.call hS⟩
                      clear hS
                      by_cases c2223 : t2220 = 0
                      · have H := if_yes c2223 H
                        have c2223b0 : (t2220 == 0) = true := beq_iff_eq.mpr c2223
                        have c2223b1 : (t2220 != 0) = false := bne_eq_false_iff_eq.mpr c2223
                        clear c2223
                        go_wp2_with fail
                        obtain ⟨t2724, HA2725, H⟩ := bind_some H
                        refine (count_See_nil.calls _ a1 t2724 _ ⟨HGl0.out.pass (l := []) HS.out⟩ ⟨Sep.start _⟩ HA2725).mono ?_
                        rintro e_ w2726 ⟨rfl, hS⟩
                        replace HS : Aside0 (Sep (fps []) w [] w2726) := ⟨HS.out.call hS⟩
                        clear hS
                        by_cases c2727 : t2724 = 0
                        · have H := if_yes c2727 H
                          have c2727b0 : (t2724 == 0) = true := beq_iff_eq.mpr c2727
                          have c2727b1 : (t2724 != 0) = false := bne_eq_false_iff_eq.mpr c2727
                          clear c2727
                          go_wp2_with fail
                          obtain ⟨t2728, HA2729, H⟩ := bind_some H
                          refine (count_Of_nil.calls a1 t2728 _ ⟨HGl0.out.pass (l := []) HS.out⟩ ⟨Sep.start _⟩ HA2729).mono ?_
                          rintro e_ w2730 ⟨rfl, hS⟩
                          replace HS : Aside0 (Sep (fps []) w [] w2730) := ⟨HS.out.call hS⟩
                          clear hS
                          by_cases c2731 : t2728 = 0
                          · have H := if_yes c2731 H
                            have c2731b0 : (t2728 == 0) = true := beq_iff_eq.mpr c2731
                            have c2731b1 : (t2728 != 0) = false := bne_eq_false_iff_eq.mpr c2731
                            clear c2731
                            go_wp2_with fail
                            obtain ⟨t2732, HA2733, H⟩ := bind_some H
                            refine (count_See_nil.calls _ a1 t2732 _ ⟨HGl0.out.pass (l := []) HS.out⟩ ⟨Sep.start _⟩ HA2733).mono ?_
                            rintro e_ w2734 ⟨rfl, hS⟩
                            replace HS : Aside0 (Sep (fps []) w [] w2734) := ⟨HS.out.call hS⟩
                            clear hS
                            by_cases c2735 : t2732 = 0
                            · have H := if_yes c2735 H
                              have c2735b0 : (t2732 == 0) = true := beq_iff_eq.mpr c2735
                              have c2735b1 : (t2732 != 0) = false := bne_eq_false_iff_eq.mpr c2735
                              clear c2735
                              go_wp2_with fail
                              obtain ⟨t4085, HA4086, H⟩ := bind_some H
                              refine (quitrentlaw12_begun.calls _ t4085 _ ⟨HGl0.out.pass (l := []) HS.out⟩ ⟨Sep.start _⟩ HA4086).mono ?_
                              rintro e_ w4087 ⟨rfl, hS⟩
                              replace HS : Aside0 (Sep (fps []) w [] w4087) := ⟨HS.out.call hS⟩
                              clear hS
                              go_wp2_with fail
                              go_ret
                              rw [← some_eq H]
                              exact ⟨(by first | rfl | (simp [IntKind.wrap_u32]; done)), HS.out⟩
                            · have H := if_no c2735 H
                              have c2735b0 : (t2732 == 0) = false := beq_eq_false_iff_ne.mpr c2735
                              have c2735b1 : (t2732 != 0) = true := bne_iff_ne.mpr c2735
                              clear c2735
                              go_wp2_with fail
                              go_ret
                              rw [← some_eq H]
                              exact ⟨(by first | rfl | (simp [IntKind.wrap_u32]; done)), HS.out⟩
                          · have H := if_no c2731 H
                            have c2731b0 : (t2728 == 0) = false := beq_eq_false_iff_ne.mpr c2731
                            have c2731b1 : (t2728 != 0) = true := bne_iff_ne.mpr c2731
                            clear c2731
                            go_wp2_with fail
                            go_ret
                            rw [← some_eq H]
                            exact ⟨(by first | rfl | (simp [IntKind.wrap_u32]; done)), HS.out⟩
                        · have H := if_no c2727 H
                          have c2727b0 : (t2724 == 0) = false := beq_eq_false_iff_ne.mpr c2727
                          have c2727b1 : (t2724 != 0) = true := bne_iff_ne.mpr c2727
                          clear c2727
                          go_wp2_with fail
                          go_ret
                          rw [← some_eq H]
                          exact ⟨(by first | rfl | (simp [IntKind.wrap_u32]; done)), HS.out⟩
                      · have H := if_no c2223 H
                        have c2223b0 : (t2220 == 0) = false := beq_eq_false_iff_ne.mpr c2223
                        have c2223b1 : (t2220 != 0) = true := bne_iff_ne.mpr c2223
                        clear c2223
                        go_wp2_with fail
                        go_ret
                        rw [← some_eq H]
                        exact ⟨(by first | rfl | (simp [IntKind.wrap_u32]; done)), HS.out⟩
                  · have H := if_no c2210 H
                    have c2210b0 : (t2201.1 == 0) = false := beq_eq_false_iff_ne.mpr c2210
                    have c2210b1 : (t2201.1 != 0) = true := bne_iff_ne.mpr c2210
                    clear c2210
                    go_wp2_with fail
                    go_ret
                    rw [← some_eq H]
                    exact ⟨(by first | rfl | (simp [IntKind.wrap_u32]; done)), HS.out⟩
              · have H := if_no c2208 H
                have c2208b0 : (t2198.1 == 0) = false := beq_eq_false_iff_ne.mpr c2208
                have c2208b1 : (t2198.1 != 0) = true := bne_iff_ne.mpr c2208
                clear c2208
                go_wp2_with fail
                go_ret
                rw [← some_eq H]
                exact ⟨(by first | rfl | (simp [IntKind.wrap_u32]; done)), HS.out⟩
          · have H := if_no c2206 H
            have c2206b0 : (t2195.1 == 0) = false := beq_eq_false_iff_ne.mpr c2206
            have c2206b1 : (t2195.1 != 0) = true := bne_iff_ne.mpr c2206
            clear c2206
            go_wp2_with fail
            go_ret
            rw [← some_eq H]
            exact ⟨(by first | rfl | (simp [IntKind.wrap_u32]; done)), HS.out⟩
      · have H := if_no c2204 H
        have c2204b0 : (t2188.1 == 0) = false := beq_eq_false_iff_ne.mpr c2204
        have c2204b1 : (t2188.1 != 0) = true := bne_iff_ne.mpr c2204
        clear c2204
        go_wp2_with fail
        go_ret
        rw [← some_eq H]
        exact ⟨(by first | rfl | (simp [IntKind.wrap_u32]; done)), HS.out⟩
    · have H := if_no c1989 H
      have c1989b0 : t1985 = false := by simpa using c1989
      have c1989b1 : (!t1985) = true := by rw [c1989b0]; rfl
      try rw [c1989b1]
      clear c1989
      go_wp2_with fail
      go_ret
      rw [← some_eq H]
      exact ⟨(by first | rfl | (simp [IntKind.wrap_u32]; done)), HS.out⟩
  · have H := sum_r H
    have H := sum_l H
    refine (quitrentlaw12_Opened.calls _ 3 16 1 1 (.inr (.inl t1986)) _ ⟨HGl0.out.pass (l := []) HS.out⟩ ⟨Sep.start _⟩ HA1984).mono ?_
    rintro e_ w4088 ⟨g4097, g4098, rfl, g4099, g4100, A4101, m4102, n4103, A4105, m4106, n4107, A4109, m4110, n4111, A4113, m4114, n4115, hS⟩
    replace HS : Aside0 (Sep (fps []) w [b7 g4097 g4099 t1986.2.1 t1986.2.2.1 t1986.2.2.2.1 t1986.2.2.2.2.1, b15 g4098 g4100 0 0 0 0 0 0 0 0 0 A4101 m4102 n4103 A4105 m4106 n4107 0, b6 g4099 A4109 m4110 n4111 t1986.2.2.2.2.2.1, b12 g4100 t1986.2.2.2.2.2.2.1 t1986.2.2.2.2.2.2.2.1 A4113 m4114 n4115, r11 A4101 m4102 n4103 t1986.2.2.2.2.2.2.2.2.1, r11 A4105 m4106 n4107 t1986.2.2.2.2.2.2.2.2.2.1, r5 A4109 m4110 n4111 t1986.2.2.2.2.2.2.2.2.2.2.1, r11 A4113 m4114 n4115 t1986.2.2.2.2.2.2.2.2.2.2.2] w4088) := ⟨HS.out.call hS⟩
    clear hS
    obtain rfl := (row_len (HS.out.at4)).symm
    obtain rfl := (row_len (HS.out.at5)).symm
    obtain rfl := (row_len (HS.out.at6)).symm
    obtain rfl := (row_len (HS.out.at7)).symm
    by_cases c4117 : t1986.1 = true
    · have H := if_yes c4117 H
      have c4117b0 : t1986.1 = true := c4117
      have c4117b1 : (!t1986.1) = false := by rw [c4117b0]; rfl
      try rw [c4117b1]
      clear c4117
      replace HS : Aside0 (Sep (fps []) w [b7 g4097 g4099 t1986.2.1 t1986.2.2.1 t1986.2.2.2.1 t1986.2.2.2.2.1, b6 g4099 A4109 ((t1986.2.2.2.2.2.2.2.2.2.2.1).length) n4111 t1986.2.2.2.2.2.1, r5 A4109 ((t1986.2.2.2.2.2.2.2.2.2.2.1).length) n4111 t1986.2.2.2.2.2.2.2.2.2.2.1] w4088) := ⟨HS.out.sub (.cons_cons _ (.cons _ (.cons_cons _ (.cons _ (.cons _ (.cons _ (.cons_cons _ (.cons _ .slnil))))))))⟩
      go_wp2_with fail
      obtain ⟨t2188, HA4118, H⟩ := bind_some H
      refine (count_Up_nil.calls a1 t2188 _ ⟨HGl0.out.pass (l := []) HS.out⟩ ⟨Sep.start _⟩ HA4118).mono ?_
      rintro e_ w4119 ⟨rfl, hS⟩
      replace HS : Aside0 (Sep (fps []) w [b7 g4097 g4099 t1986.2.1 t1986.2.2.1 t1986.2.2.2.1 t1986.2.2.2.2.1, b6 g4099 A4109 ((t1986.2.2.2.2.2.2.2.2.2.2.1).length) n4111 t1986.2.2.2.2.2.1, r5 A4109 ((t1986.2.2.2.2.2.2.2.2.2.2.1).length) n4111 t1986.2.2.2.2.2.2.2.2.2.2.1] w4119) := ⟨HS.out.call hS⟩
      clear hS
      go_wp2_with fail
      obtain ⟨t2195, HA4120, H⟩ := bind_some H
      refine (count_Down_nil.calls a1 t2195 _ ⟨HGl0.out.pass (l := []) HS.out⟩ ⟨Sep.start _⟩ HA4120).mono ?_
      rintro e_ w4121 ⟨rfl, hS⟩
      replace HS : Aside0 (Sep (fps []) w [b7 g4097 g4099 t1986.2.1 t1986.2.2.1 t1986.2.2.2.1 t1986.2.2.2.2.1, b6 g4099 A4109 ((t1986.2.2.2.2.2.2.2.2.2.2.1).length) n4111 t1986.2.2.2.2.2.1, r5 A4109 ((t1986.2.2.2.2.2.2.2.2.2.2.1).length) n4111 t1986.2.2.2.2.2.2.2.2.2.2.1] w4121) := ⟨HS.out.call hS⟩
      clear hS
      go_wp2_with fail
      obtain ⟨t2198, HA4122, H⟩ := bind_some H
      refine (count_Up.calls t1986.2.2.2.2.2.2.2.2.2.2.1 t1986.2.2.2.2.2.1 t1986.2.1 t1986.2.2.1 t1986.2.2.2.1 t1986.2.2.2.2.1 a1 g4097 g4099 A4109 ((t1986.2.2.2.2.2.2.2.2.2.2.1).length) n4111 t2198 _ ⟨HGl0.out.pass HS.out⟩ ⟨HS.out.begin⟩ HA4122).mono ?_
      rintro e_ w4123 ⟨rfl, hS⟩
      replace HS : Aside0 (Sep (fps []) w [b7 g4097 g4099 t1986.2.1 t1986.2.2.1 t1986.2.2.2.1 t1986.2.2.2.2.1, b6 g4099 A4109 ((t1986.2.2.2.2.2.2.2.2.2.2.1).length) n4111 t2198.2.2.1, r5 A4109 ((t1986.2.2.2.2.2.2.2.2.2.2.1).length) n4111 t2198.2.2.2] w4123) := ⟨HS.out.call hS⟩
      clear hS
      go_wp2_with fail
      obtain ⟨t2201, HA4124, H⟩ := bind_some H
      refine (count_Down.calls t2198.2.2.2 t2198.2.2.1 t1986.2.1 t1986.2.2.1 t1986.2.2.2.1 t1986.2.2.2.2.1 a1 g4097 g4099 A4109 ((t1986.2.2.2.2.2.2.2.2.2.2.1).length) n4111 t2201 _ ⟨HGl0.out.pass HS.out⟩ ⟨HS.out.begin⟩ HA4124).mono ?_
      rintro e_ w4125 ⟨rfl, hS⟩
      replace HS : Aside0 (Sep (fps []) w [b7 g4097 g4099 t1986.2.1 t1986.2.2.1 t1986.2.2.2.1 t1986.2.2.2.2.1, b6 g4099 A4109 ((t1986.2.2.2.2.2.2.2.2.2.2.1).length) n4111 t2201.2.2.1, r5 A4109 ((t1986.2.2.2.2.2.2.2.2.2.2.1).length) n4111 t2201.2.2.2] w4125) := ⟨HS.out.call hS⟩
      clear hS
      by_cases c4126 : t2188.1 = 0
      · have H := if_yes c4126 H
        have c4126b0 : (t2188.1 == 0) = true := beq_iff_eq.mpr c4126
        have c4126b1 : (t2188.1 != 0) = false := bne_eq_false_iff_eq.mpr c4126
        clear c4126
        by_cases c4127 : t2188.2 = true
        · have H := if_yes c4127 H
          have c4127b0 : t2188.2 = true := c4127
          have c4127b1 : (!t2188.2) = false := by rw [c4127b0]; rfl
          try rw [c4127b1]
          clear c4127
          replace HS : Aside0 (Sep (fps []) w [] w4125) := ⟨HS.out.sub (.cons _ (.cons _ (.cons _ .slnil)))⟩
          go_wp2_with fail
          go_ret
          rw [← some_eq H]
          exact ⟨(by first | rfl | (simp [IntKind.wrap_u32]; done)), HS.out⟩
        · have H := if_no c4127 H
          have c4127b0 : t2188.2 = false := by simpa using c4127
          have c4127b1 : (!t2188.2) = true := by rw [c4127b0]; rfl
          try rw [c4127b1]
          clear c4127
          by_cases c4128 : t2195.1 = 0
          · have H := if_yes c4128 H
            have c4128b0 : (t2195.1 == 0) = true := beq_iff_eq.mpr c4128
            have c4128b1 : (t2195.1 != 0) = false := bne_eq_false_iff_eq.mpr c4128
            clear c4128
            by_cases c4129 : t2195.2 = true
            · have H := if_yes c4129 H
              have c4129b0 : t2195.2 = true := c4129
              have c4129b1 : (!t2195.2) = false := by rw [c4129b0]; rfl
              try rw [c4129b1]
              clear c4129
              replace HS : Aside0 (Sep (fps []) w [] w4125) := ⟨HS.out.sub (.cons _ (.cons _ (.cons _ .slnil)))⟩
              go_wp2_with fail
              go_ret
              rw [← some_eq H]
              exact ⟨(by first | rfl | (simp [IntKind.wrap_u32]; done)), HS.out⟩
            · have H := if_no c4129 H
              have c4129b0 : t2195.2 = false := by simpa using c4129
              have c4129b1 : (!t2195.2) = true := by rw [c4129b0]; rfl
              try rw [c4129b1]
              clear c4129
              by_cases c4130 : t2198.1 = 0
              · have H := if_yes c4130 H
                have c4130b0 : (t2198.1 == 0) = true := beq_iff_eq.mpr c4130
                have c4130b1 : (t2198.1 != 0) = false := bne_eq_false_iff_eq.mpr c4130
                clear c4130
                by_cases c4131 : t2198.2.1 = true
                · have H := if_yes c4131 H
                  have c4131b0 : t2198.2.1 = true := c4131
                  have c4131b1 : (!t2198.2.1) = false := by rw [c4131b0]; rfl
                  try rw [c4131b1]
                  clear c4131
                  replace HS : Aside0 (Sep (fps []) w [] w4125) := ⟨HS.out.sub (.cons _ (.cons _ (.cons _ .slnil)))⟩
                  go_wp2_with fail
                  go_ret
                  rw [← some_eq H]
                  exact ⟨(by first | rfl | (simp [IntKind.wrap_u32]; done)), HS.out⟩
                · have H := if_no c4131 H
                  have c4131b0 : t2198.2.1 = false := by simpa using c4131
                  have c4131b1 : (!t2198.2.1) = true := by rw [c4131b0]; rfl
                  try rw [c4131b1]
                  clear c4131
                  by_cases c4132 : t2201.1 = 0
                  · have H := if_yes c4132 H
                    have c4132b0 : (t2201.1 == 0) = true := beq_iff_eq.mpr c4132
                    have c4132b1 : (t2201.1 != 0) = false := bne_eq_false_iff_eq.mpr c4132
                    clear c4132
                    by_cases c4133 : t2201.2.1 = true
                    · have H := if_yes c4133 H
                      have c4133b0 : t2201.2.1 = true := c4133
                      have c4133b1 : (!t2201.2.1) = false := by rw [c4133b0]; rfl
                      try rw [c4133b1]
                      clear c4133
                      replace HS : Aside0 (Sep (fps []) w [] w4125) := ⟨HS.out.sub (.cons _ (.cons _ (.cons _ .slnil)))⟩
                      go_wp2_with fail
                      go_ret
                      rw [← some_eq H]
                      exact ⟨(by first | rfl | (simp [IntKind.wrap_u32]; done)), HS.out⟩
                    · have H := if_no c4133 H
                      have c4133b0 : t2201.2.1 = false := by simpa using c4133
                      have c4133b1 : (!t2201.2.1) = true := by rw [c4133b0]; rfl
                      try rw [c4133b1]
                      clear c4133
                      go_wp2_with fail
                      obtain ⟨t2220, HA4134, H⟩ := bind_some H
                      refine (count_Of_nil.calls a1 t2220 _ ⟨HGl0.out.pass (l := []) HS.out⟩ ⟨Sep.start _⟩ HA4134).mono ?_
                      rintro e_ w4135 ⟨rfl, hS⟩
                      replace HS : Aside0 (Sep (fps []) w [b7 g4097 g4099 t1986.2.1 t1986.2.2.1 t1986.2.2.2.1 t1986.2.2.2.2.1, b6 g4099 A4109 ((t1986.2.2.2.2.2.2.2.2.2.2.1).length) n4111 t2201.2.2.1, r5 A4109 ((t1986.2.2.2.2.2.2.2.2.2.2.1).length) n4111 t2201.2.2.2] w4135) := ⟨HS.out.call hS⟩
                      clear hS
                      by_cases c4136 : t2220 = 0
                      · have H := if_yes c4136 H
                        have c4136b0 : (t2220 == 0) = true := beq_iff_eq.mpr c4136
                        have c4136b1 : (t2220 != 0) = false := bne_eq_false_iff_eq.mpr c4136
                        clear c4136
                        go_wp2_with fail
                        obtain ⟨t2724, HA4137, H⟩ := bind_some H
                        refine (count_See_nil.calls _ a1 t2724 _ ⟨HGl0.out.pass (l := []) HS.out⟩ ⟨Sep.start _⟩ HA4137).mono ?_
                        rintro e_ w4138 ⟨rfl, hS⟩
                        replace HS : Aside0 (Sep (fps []) w [b7 g4097 g4099 t1986.2.1 t1986.2.2.1 t1986.2.2.2.1 t1986.2.2.2.2.1, b6 g4099 A4109 ((t1986.2.2.2.2.2.2.2.2.2.2.1).length) n4111 t2201.2.2.1, r5 A4109 ((t1986.2.2.2.2.2.2.2.2.2.2.1).length) n4111 t2201.2.2.2] w4138) := ⟨HS.out.call hS⟩
                        clear hS
                        by_cases c4139 : t2724 = 0
                        · have H := if_yes c4139 H
                          have c4139b0 : (t2724 == 0) = true := beq_iff_eq.mpr c4139
                          have c4139b1 : (t2724 != 0) = false := bne_eq_false_iff_eq.mpr c4139
                          clear c4139
                          go_wp2_with fail
                          obtain ⟨t2728, HA4170, H⟩ := bind_some H
                          refine (count_Of.calls t2201.2.2.2 t2201.2.2.1 t1986.2.1 t1986.2.2.1 t1986.2.2.2.1 t1986.2.2.2.2.1 a1 g4097 g4099 A4109 ((t1986.2.2.2.2.2.2.2.2.2.2.1).length) n4111 t2728 _ ⟨HGl0.out.pass HS.out⟩ ⟨HS.out.begin⟩ HA4170).mono ?_
                          rintro e_ w4171 ⟨rfl, hS⟩
                          replace HS : Aside0 (Sep (fps []) w [b7 g4097 g4099 t1986.2.1 t1986.2.2.1 t1986.2.2.2.1 t1986.2.2.2.2.1, b6 g4099 A4109 ((t1986.2.2.2.2.2.2.2.2.2.2.1).length) n4111 t2728.2, r5 A4109 ((t1986.2.2.2.2.2.2.2.2.2.2.1).length) n4111 t2201.2.2.2] w4171) := ⟨HS.out.call hS⟩
                          clear hS
                          by_cases c4172 : t2728.1 = 0
                          · have H := if_yes c4172 H
                            have c4172b0 : (t2728.1 == 0) = true := beq_iff_eq.mpr c4172
                            have c4172b1 : (t2728.1 != 0) = false := bne_eq_false_iff_eq.mpr c4172
                            clear c4172
                            go_wp2_with fail
                            obtain ⟨t2732, HA4649, H⟩ := bind_some H
                            refine (count_See.calls _ t2201.2.2.2 t2728.2 t1986.2.1 t1986.2.2.1 t1986.2.2.2.1 t1986.2.2.2.2.1 a1 g4097 g4099 A4109 ((t1986.2.2.2.2.2.2.2.2.2.2.1).length) n4111 t2732 _ ⟨HGl0.out.pass HS.out⟩ ⟨HS.out.begin⟩ HA4649).mono ?_
                            rintro e_ w4650 ⟨rfl, hS⟩
                            replace HS : Aside0 (Sep (fps []) w [b7 g4097 g4099 t1986.2.1 t1986.2.2.1 t1986.2.2.2.1 t1986.2.2.2.2.1, b6 g4099 A4109 ((t1986.2.2.2.2.2.2.2.2.2.2.1).length) n4111 t2728.2, r5 A4109 ((t1986.2.2.2.2.2.2.2.2.2.2.1).length) n4111 t2201.2.2.2] w4650) := ⟨HS.out.call hS⟩
                            clear hS
                            by_cases c4651 : t2732 = 0
                            · have H := if_yes c4651 H
                              have c4651b0 : (t2732 == 0) = true := beq_iff_eq.mpr c4651
                              have c4651b1 : (t2732 != 0) = false := bne_eq_false_iff_eq.mpr c4651
                              clear c4651
                              go_wp2_with fail
                              obtain ⟨t4085, HA4652, H⟩ := bind_some H
                              refine (quitrentlaw12_begun.calls _ t4085 _ ⟨HGl0.out.pass (l := []) HS.out⟩ ⟨Sep.start _⟩ HA4652).mono ?_
                              rintro e_ w4653 ⟨rfl, hS⟩
                              replace HS : Aside0 (Sep (fps []) w [b7 g4097 g4099 t1986.2.1 t1986.2.2.1 t1986.2.2.2.1 t1986.2.2.2.2.1, b6 g4099 A4109 ((t1986.2.2.2.2.2.2.2.2.2.2.1).length) n4111 t2728.2, r5 A4109 ((t1986.2.2.2.2.2.2.2.2.2.2.1).length) n4111 t2201.2.2.2] w4653) := ⟨HS.out.call hS⟩
                              clear hS
                              replace HS : Aside0 (Sep (fps []) w [] w4653) := ⟨HS.out.sub (.cons _ (.cons _ (.cons _ .slnil)))⟩
                              go_wp2_with fail
                              go_ret
                              rw [← some_eq H]
                              exact ⟨(by first | rfl | (simp [IntKind.wrap_u32]; done)), HS.out⟩
                            · have H := if_no c4651 H
                              have c4651b0 : (t2732 == 0) = false := beq_eq_false_iff_ne.mpr c4651
                              have c4651b1 : (t2732 != 0) = true := bne_iff_ne.mpr c4651
                              clear c4651
                              replace HS : Aside0 (Sep (fps []) w [] w4650) := ⟨HS.out.sub (.cons _ (.cons _ (.cons _ .slnil)))⟩
                              go_wp2_with fail
                              go_ret
                              rw [← some_eq H]
                              exact ⟨(by first | rfl | (simp [IntKind.wrap_u32]; done)), HS.out⟩
                          · have H := if_no c4172 H
                            have c4172b0 : (t2728.1 == 0) = false := beq_eq_false_iff_ne.mpr c4172
                            have c4172b1 : (t2728.1 != 0) = true := bne_iff_ne.mpr c4172
                            clear c4172
                            replace HS : Aside0 (Sep (fps []) w [] w4171) := ⟨HS.out.sub (.cons _ (.cons _ (.cons _ .slnil)))⟩
                            go_wp2_with fail
                            go_ret
                            rw [← some_eq H]
                            exact ⟨(by first | rfl | (simp [IntKind.wrap_u32]; done)), HS.out⟩
                        · have H := if_no c4139 H
                          have c4139b0 : (t2724 == 0) = false := beq_eq_false_iff_ne.mpr c4139
                          have c4139b1 : (t2724 != 0) = true := bne_iff_ne.mpr c4139
                          clear c4139
                          replace HS : Aside0 (Sep (fps []) w [] w4138) := ⟨HS.out.sub (.cons _ (.cons _ (.cons _ .slnil)))⟩
                          go_wp2_with fail
                          go_ret
                          rw [← some_eq H]
                          exact ⟨(by first | rfl | (simp [IntKind.wrap_u32]; done)), HS.out⟩
                      · have H := if_no c4136 H
                        have c4136b0 : (t2220 == 0) = false := beq_eq_false_iff_ne.mpr c4136
                        have c4136b1 : (t2220 != 0) = true := bne_iff_ne.mpr c4136
                        clear c4136
                        replace HS : Aside0 (Sep (fps []) w [] w4135) := ⟨HS.out.sub (.cons _ (.cons _ (.cons _ .slnil)))⟩
                        go_wp2_with fail
                        go_ret
                        rw [← some_eq H]
                        exact ⟨(by first | rfl | (simp [IntKind.wrap_u32]; done)), HS.out⟩
                  · have H := if_no c4132 H
                    have c4132b0 : (t2201.1 == 0) = false := beq_eq_false_iff_ne.mpr c4132
                    have c4132b1 : (t2201.1 != 0) = true := bne_iff_ne.mpr c4132
                    clear c4132
                    replace HS : Aside0 (Sep (fps []) w [] w4125) := ⟨HS.out.sub (.cons _ (.cons _ (.cons _ .slnil)))⟩
                    go_wp2_with fail
                    go_ret
                    rw [← some_eq H]
                    exact ⟨(by first | rfl | (simp [IntKind.wrap_u32]; done)), HS.out⟩
              · have H := if_no c4130 H
                have c4130b0 : (t2198.1 == 0) = false := beq_eq_false_iff_ne.mpr c4130
                have c4130b1 : (t2198.1 != 0) = true := bne_iff_ne.mpr c4130
                clear c4130
                replace HS : Aside0 (Sep (fps []) w [] w4125) := ⟨HS.out.sub (.cons _ (.cons _ (.cons _ .slnil)))⟩
                go_wp2_with fail
                go_ret
                rw [← some_eq H]
                exact ⟨(by first | rfl | (simp [IntKind.wrap_u32]; done)), HS.out⟩
          · have H := if_no c4128 H
            have c4128b0 : (t2195.1 == 0) = false := beq_eq_false_iff_ne.mpr c4128
            have c4128b1 : (t2195.1 != 0) = true := bne_iff_ne.mpr c4128
            clear c4128
            replace HS : Aside0 (Sep (fps []) w [] w4125) := ⟨HS.out.sub (.cons _ (.cons _ (.cons _ .slnil)))⟩
            go_wp2_with fail
            go_ret
            rw [← some_eq H]
            exact ⟨(by first | rfl | (simp [IntKind.wrap_u32]; done)), HS.out⟩
      · have H := if_no c4126 H
        have c4126b0 : (t2188.1 == 0) = false := beq_eq_false_iff_ne.mpr c4126
        have c4126b1 : (t2188.1 != 0) = true := bne_iff_ne.mpr c4126
        clear c4126
        replace HS : Aside0 (Sep (fps []) w [] w4125) := ⟨HS.out.sub (.cons _ (.cons _ (.cons _ .slnil)))⟩
        go_wp2_with fail
        go_ret
        rw [← some_eq H]
        exact ⟨(by first | rfl | (simp [IntKind.wrap_u32]; done)), HS.out⟩
    · have H := if_no c4117 H
      have c4117b0 : t1986.1 = false := by simpa using c4117
      have c4117b1 : (!t1986.1) = true := by rw [c4117b0]; rfl
      try rw [c4117b1]
      clear c4117
      replace HS : Aside0 (Sep (fps []) w [b7 g4097 g4099 t1986.2.1 t1986.2.2.1 t1986.2.2.2.1 t1986.2.2.2.2.1, b6 g4099 A4109 ((t1986.2.2.2.2.2.2.2.2.2.2.1).length) n4111 t1986.2.2.2.2.2.1, r5 A4109 ((t1986.2.2.2.2.2.2.2.2.2.2.1).length) n4111 t1986.2.2.2.2.2.2.2.2.2.2.1] w4088) := ⟨HS.out.sub (.cons_cons _ (.cons _ (.cons_cons _ (.cons _ (.cons _ (.cons _ (.cons_cons _ (.cons _ .slnil))))))))⟩
      replace HS : Aside0 (Sep (fps []) w [] w4088) := ⟨HS.out.sub (.cons _ (.cons _ (.cons _ .slnil)))⟩
      go_wp2_with fail
      go_ret
      rw [← some_eq H]
      exact ⟨(by first | rfl | (simp [IntKind.wrap_u32]; done)), HS.out⟩
  · have H := sum_r H
    have H := sum_r H
    refine (quitrentlaw12_Opened.calls _ 3 16 1 1 (.inr (.inr t1987)) _ ⟨HGl0.out.pass (l := []) HS.out⟩ ⟨Sep.start _⟩ HA1984).mono ?_
    rintro e_ w4654 ⟨g4660, rfl, g4661, A4662, m4663, n4664, A4666, m4667, n4668, A4670, m4671, n4672, hS⟩
    replace HS : Aside0 (Sep (fps []) w [b15 g4660 g4661 0 0 0 0 0 0 0 0 0 A4662 m4663 n4664 A4666 m4667 n4668 0, b12 g4661 t1987.2.1 t1987.2.2.1 A4670 m4671 n4672, r11 A4662 m4663 n4664 t1987.2.2.2.1, r11 A4666 m4667 n4668 t1987.2.2.2.2.1, r11 A4670 m4671 n4672 t1987.2.2.2.2.2] w4654) := ⟨HS.out.call hS⟩
    clear hS
    obtain rfl := (row_len (HS.out.at2)).symm
    obtain rfl := (row_len (HS.out.at3)).symm
    obtain rfl := (row_len (HS.out.at4)).symm
    by_cases c4674 : t1987.1 = true
    · have H := if_yes c4674 H
      have c4674b0 : t1987.1 = true := c4674
      have c4674b1 : (!t1987.1) = false := by rw [c4674b0]; rfl
      try rw [c4674b1]
      clear c4674
      replace HS : Aside0 (Sep (fps []) w [] w4654) := ⟨HS.out.sub (.cons _ (.cons _ (.cons _ (.cons _ (.cons _ .slnil)))))⟩
      go_wp2_with fail
      obtain ⟨t2188, HA4675, H⟩ := bind_some H
      refine (count_Up_nil.calls a1 t2188 _ ⟨HGl0.out.pass (l := []) HS.out⟩ ⟨Sep.start _⟩ HA4675).mono ?_
      rintro e_ w4676 ⟨rfl, hS⟩
      replace HS : Aside0 (Sep (fps []) w [] w4676) := ⟨HS.out.call hS⟩
      clear hS
      go_wp2_with fail
      obtain ⟨t2195, HA4677, H⟩ := bind_some H
      refine (count_Down_nil.calls a1 t2195 _ ⟨HGl0.out.pass (l := []) HS.out⟩ ⟨Sep.start _⟩ HA4677).mono ?_
      rintro e_ w4678 ⟨rfl, hS⟩
      replace HS : Aside0 (Sep (fps []) w [] w4678) := ⟨HS.out.call hS⟩
      clear hS
      go_wp2_with fail
      obtain ⟨t2198, HA4679, H⟩ := bind_some H
      refine (count_Up_nil.calls a1 t2198 _ ⟨HGl0.out.pass (l := []) HS.out⟩ ⟨Sep.start _⟩ HA4679).mono ?_
      rintro e_ w4680 ⟨rfl, hS⟩
      replace HS : Aside0 (Sep (fps []) w [] w4680) := ⟨HS.out.call hS⟩
      clear hS
      go_wp2_with fail
      obtain ⟨t2201, HA4681, H⟩ := bind_some H
      refine (count_Down_nil.calls a1 t2201 _ ⟨HGl0.out.pass (l := []) HS.out⟩ ⟨Sep.start _⟩ HA4681).mono ?_
      rintro e_ w4682 ⟨rfl, hS⟩
      replace HS : Aside0 (Sep (fps []) w [] w4682) := ⟨HS.out.call hS⟩
      clear hS
      by_cases c4683 : t2188.1 = 0
      · have H := if_yes c4683 H
        have c4683b0 : (t2188.1 == 0) = true := beq_iff_eq.mpr c4683
        have c4683b1 : (t2188.1 != 0) = false := bne_eq_false_iff_eq.mpr c4683
        clear c4683
        by_cases c4684 : t2188.2 = true
        · have H := if_yes c4684 H
          have c4684b0 : t2188.2 = true := c4684
          have c4684b1 : (!t2188.2) = false := by rw [c4684b0]; rfl
          try rw [c4684b1]
          clear c4684
          go_wp2_with fail
          go_ret
          rw [← some_eq H]
          exact ⟨(by first | rfl | (simp [IntKind.wrap_u32]; done)), HS.out⟩
        · have H := if_no c4684 H
          have c4684b0 : t2188.2 = false := by simpa using c4684
          have c4684b1 : (!t2188.2) = true := by rw [c4684b0]; rfl
          try rw [c4684b1]
          clear c4684
          by_cases c4685 : t2195.1 = 0
          · have H := if_yes c4685 H
            have c4685b0 : (t2195.1 == 0) = true := beq_iff_eq.mpr c4685
            have c4685b1 : (t2195.1 != 0) = false := bne_eq_false_iff_eq.mpr c4685
            clear c4685
            by_cases c4686 : t2195.2 = true
            · have H := if_yes c4686 H
              have c4686b0 : t2195.2 = true := c4686
              have c4686b1 : (!t2195.2) = false := by rw [c4686b0]; rfl
              try rw [c4686b1]
              clear c4686
              go_wp2_with fail
              go_ret
              rw [← some_eq H]
              exact ⟨(by first | rfl | (simp [IntKind.wrap_u32]; done)), HS.out⟩
            · have H := if_no c4686 H
              have c4686b0 : t2195.2 = false := by simpa using c4686
              have c4686b1 : (!t2195.2) = true := by rw [c4686b0]; rfl
              try rw [c4686b1]
              clear c4686
              by_cases c4687 : t2198.1 = 0
              · have H := if_yes c4687 H
                have c4687b0 : (t2198.1 == 0) = true := beq_iff_eq.mpr c4687
                have c4687b1 : (t2198.1 != 0) = false := bne_eq_false_iff_eq.mpr c4687
                clear c4687
                by_cases c4688 : t2198.2 = true
                · have H := if_yes c4688 H
                  have c4688b0 : t2198.2 = true := c4688
                  have c4688b1 : (!t2198.2) = false := by rw [c4688b0]; rfl
                  try rw [c4688b1]
                  clear c4688
                  go_wp2_with fail
                  go_ret
                  rw [← some_eq H]
                  exact ⟨(by first | rfl | (simp [IntKind.wrap_u32]; done)), HS.out⟩
                · have H := if_no c4688 H
                  have c4688b0 : t2198.2 = false := by simpa using c4688
                  have c4688b1 : (!t2198.2) = true := by rw [c4688b0]; rfl
                  try rw [c4688b1]
                  clear c4688
                  by_cases c4689 : t2201.1 = 0
                  · have H := if_yes c4689 H
                    have c4689b0 : (t2201.1 == 0) = true := beq_iff_eq.mpr c4689
                    have c4689b1 : (t2201.1 != 0) = false := bne_eq_false_iff_eq.mpr c4689
                    clear c4689
                    by_cases c4690 : t2201.2 = true
                    · have H := if_yes c4690 H
                      have c4690b0 : t2201.2 = true := c4690
                      have c4690b1 : (!t2201.2) = false := by rw [c4690b0]; rfl
                      try rw [c4690b1]
                      clear c4690
                      go_wp2_with fail
                      go_ret
                      rw [← some_eq H]
                      exact ⟨(by first | rfl | (simp [IntKind.wrap_u32]; done)), HS.out⟩
                    · have H := if_no c4690 H
                      have c4690b0 : t2201.2 = false := by simpa using c4690
                      have c4690b1 : (!t2201.2) = true := by rw [c4690b0]; rfl
                      try rw [c4690b1]
                      clear c4690
                      go_wp2_with fail
                      obtain ⟨t2220, HA4691, H⟩ := bind_some H
                      refine (count_Of_nil.calls a1 t2220 _ ⟨HGl0.out.pass (l := []) HS.out⟩ ⟨Sep.start _⟩ HA4691).mono ?_
                      rintro e_ w4692 ⟨rfl, hS⟩
                      replace HS : Aside0 (Sep (fps []) w [] w4692) := ⟨HS.out.call hS⟩
                      clear hS
                      by_cases c4693 : t2220 = 0
                      · have H := if_yes c4693 H
                        have c4693b0 : (t2220 == 0) = true := beq_iff_eq.mpr c4693
                        have c4693b1 : (t2220 != 0) = false := bne_eq_false_iff_eq.mpr c4693
                        clear c4693
                        go_wp2_with fail
                        obtain ⟨t2724, HA4694, H⟩ := bind_some H
                        refine (count_See_nil.calls _ a1 t2724 _ ⟨HGl0.out.pass (l := []) HS.out⟩ ⟨Sep.start _⟩ HA4694).mono ?_
                        rintro e_ w4695 ⟨rfl, hS⟩
                        replace HS : Aside0 (Sep (fps []) w [] w4695) := ⟨HS.out.call hS⟩
                        clear hS
                        by_cases c4696 : t2724 = 0
                        · have H := if_yes c4696 H
                          have c4696b0 : (t2724 == 0) = true := beq_iff_eq.mpr c4696
                          have c4696b1 : (t2724 != 0) = false := bne_eq_false_iff_eq.mpr c4696
                          clear c4696
                          go_wp2_with fail
                          obtain ⟨t2728, HA4697, H⟩ := bind_some H
                          refine (count_Of_nil.calls a1 t2728 _ ⟨HGl0.out.pass (l := []) HS.out⟩ ⟨Sep.start _⟩ HA4697).mono ?_
                          rintro e_ w4698 ⟨rfl, hS⟩
                          replace HS : Aside0 (Sep (fps []) w [] w4698) := ⟨HS.out.call hS⟩
                          clear hS
                          by_cases c4699 : t2728 = 0
                          · have H := if_yes c4699 H
                            have c4699b0 : (t2728 == 0) = true := beq_iff_eq.mpr c4699
                            have c4699b1 : (t2728 != 0) = false := bne_eq_false_iff_eq.mpr c4699
                            clear c4699
                            go_wp2_with fail
                            obtain ⟨t2732, HA4700, H⟩ := bind_some H
                            refine (count_See_nil.calls _ a1 t2732 _ ⟨HGl0.out.pass (l := []) HS.out⟩ ⟨Sep.start _⟩ HA4700).mono ?_
                            rintro e_ w4701 ⟨rfl, hS⟩
                            replace HS : Aside0 (Sep (fps []) w [] w4701) := ⟨HS.out.call hS⟩
                            clear hS
                            by_cases c4702 : t2732 = 0
                            · have H := if_yes c4702 H
                              have c4702b0 : (t2732 == 0) = true := beq_iff_eq.mpr c4702
                              have c4702b1 : (t2732 != 0) = false := bne_eq_false_iff_eq.mpr c4702
                              clear c4702
                              go_wp2_with fail
                              obtain ⟨t4085, HA4703, H⟩ := bind_some H
                              refine (quitrentlaw12_begun.calls _ t4085 _ ⟨HGl0.out.pass (l := []) HS.out⟩ ⟨Sep.start _⟩ HA4703).mono ?_
                              rintro e_ w4704 ⟨rfl, hS⟩
                              replace HS : Aside0 (Sep (fps []) w [] w4704) := ⟨HS.out.call hS⟩
                              clear hS
                              go_wp2_with fail
                              go_ret
                              rw [← some_eq H]
                              exact ⟨(by first | rfl | (simp [IntKind.wrap_u32]; done)), HS.out⟩
                            · have H := if_no c4702 H
                              have c4702b0 : (t2732 == 0) = false := beq_eq_false_iff_ne.mpr c4702
                              have c4702b1 : (t2732 != 0) = true := bne_iff_ne.mpr c4702
                              clear c4702
                              go_wp2_with fail
                              go_ret
                              rw [← some_eq H]
                              exact ⟨(by first | rfl | (simp [IntKind.wrap_u32]; done)), HS.out⟩
                          · have H := if_no c4699 H
                            have c4699b0 : (t2728 == 0) = false := beq_eq_false_iff_ne.mpr c4699
                            have c4699b1 : (t2728 != 0) = true := bne_iff_ne.mpr c4699
                            clear c4699
                            go_wp2_with fail
                            go_ret
                            rw [← some_eq H]
                            exact ⟨(by first | rfl | (simp [IntKind.wrap_u32]; done)), HS.out⟩
                        · have H := if_no c4696 H
                          have c4696b0 : (t2724 == 0) = false := beq_eq_false_iff_ne.mpr c4696
                          have c4696b1 : (t2724 != 0) = true := bne_iff_ne.mpr c4696
                          clear c4696
                          go_wp2_with fail
                          go_ret
                          rw [← some_eq H]
                          exact ⟨(by first | rfl | (simp [IntKind.wrap_u32]; done)), HS.out⟩
                      · have H := if_no c4693 H
                        have c4693b0 : (t2220 == 0) = false := beq_eq_false_iff_ne.mpr c4693
                        have c4693b1 : (t2220 != 0) = true := bne_iff_ne.mpr c4693
                        clear c4693
                        go_wp2_with fail
                        go_ret
                        rw [← some_eq H]
                        exact ⟨(by first | rfl | (simp [IntKind.wrap_u32]; done)), HS.out⟩
                  · have H := if_no c4689 H
                    have c4689b0 : (t2201.1 == 0) = false := beq_eq_false_iff_ne.mpr c4689
                    have c4689b1 : (t2201.1 != 0) = true := bne_iff_ne.mpr c4689
                    clear c4689
                    go_wp2_with fail
                    go_ret
                    rw [← some_eq H]
                    exact ⟨(by first | rfl | (simp [IntKind.wrap_u32]; done)), HS.out⟩
              · have H := if_no c4687 H
                have c4687b0 : (t2198.1 == 0) = false := beq_eq_false_iff_ne.mpr c4687
                have c4687b1 : (t2198.1 != 0) = true := bne_iff_ne.mpr c4687
                clear c4687
                go_wp2_with fail
                go_ret
                rw [← some_eq H]
                exact ⟨(by first | rfl | (simp [IntKind.wrap_u32]; done)), HS.out⟩
          · have H := if_no c4685 H
            have c4685b0 : (t2195.1 == 0) = false := beq_eq_false_iff_ne.mpr c4685
            have c4685b1 : (t2195.1 != 0) = true := bne_iff_ne.mpr c4685
            clear c4685
            go_wp2_with fail
            go_ret
            rw [← some_eq H]
            exact ⟨(by first | rfl | (simp [IntKind.wrap_u32]; done)), HS.out⟩
      · have H := if_no c4683 H
        have c4683b0 : (t2188.1 == 0) = false := beq_eq_false_iff_ne.mpr c4683
        have c4683b1 : (t2188.1 != 0) = true := bne_iff_ne.mpr c4683
        clear c4683
        go_wp2_with fail
        go_ret
        rw [← some_eq H]
        exact ⟨(by first | rfl | (simp [IntKind.wrap_u32]; done)), HS.out⟩
    · have H := if_no c4674 H
      have c4674b0 : t1987.1 = false := by simpa using c4674
      have c4674b1 : (!t1987.1) = true := by rw [c4674b0]; rfl
      try rw [c4674b1]
      clear c4674
      replace HS : Aside0 (Sep (fps []) w [] w4654) := ⟨HS.out.sub (.cons _ (.cons _ (.cons _ (.cons _ (.cons _ .slnil)))))⟩
      go_wp2_with fail
      go_ret
      rw [← some_eq H]
      exact ⟨(by first | rfl | (simp [IntKind.wrap_u32]; done)), HS.out⟩
end Go.Proofs.YtobeonkddamnoaaDoor.C

/- Each function of the group ON does what its plain function says, and changes nothing that was there; proved by walking its code. No condition. -/
import Derived.Test.YtobeonkddamnoaaDoorQw
import Derived.Test.YtobeonkddamnoaaDoorMON
import Derived.Test.YtobeonkddamnoaaDoorGON0
import Derived.Test.YtobeonkddamnoaaDoorGON1
import Derived.Test.YtobeonkddamnoaaDoorGON2
namespace Go.Proofs.YtobeonkddamnoaaDoor.C
open Go.RowKit Go.Proofs.YtobeonkddamnoaaDoorW.PrintWords Go.Proofs.YtobeonkddamnoaaDoorW.PrintLast Go.Proofs.YtobeonkddamnoaaDoor.Q Go.Proofs.YtobeonkddamnoaaDoor.M
set_option linter.unusedVariables false
set_option linter.unusedSimpArgs false
set_option maxHeartbeats 30000000 in
set_option maxRecDepth 100000 in
theorem chain_List_nil.calls (k : Nat) (a3277 : Int) (r : List Int) (w : World)  (HGl0 : Aside0 (Gl 0 #[.int .i64 0, .int .i64 0, .int .i64 0, .int .i64 0, .int .i64 0] (fps []) w)) (HS : Aside0 (Sep (fps []) w [] w)) (H : Aside0 (chain_List_nil.f k a3277 = some r)) :
    Calls Tryd.prog 138 #[.pointer none, .int .i64 a3277] w fun e w' => ∃ (A3365 : Option Addr) (m3366 : Nat) (n3367 : Nat), e = .returned (.slice A3365 m3366 n3367) ∧ Sep (fps []) w [r13 A3365 m3366 n3367 r] w' := by
  unfold chain_List_nil.f at H
  go_enter Tryd.func138, Tryd.ntmps138
  go_wp2_with fail
  obtain ⟨t3278, HA3279, H⟩ := bind_some H
  refine (chain_of_nil.calls a3277 t3278 _ ⟨HGl0.out.pass (l := []) HS.out⟩ ⟨Sep.start _⟩ HA3279).mono ?_
  rintro e_ w3280 ⟨rfl, hS⟩
  replace HS : Aside0 (Sep (fps []) w [] w3280) := ⟨HS.out.call hS⟩
  clear hS
  by_cases c3291 : t3278.2.2.2 = true
  · have H := if_yes c3291 H
    have c3291b0 : t3278.2.2.2 = true := c3291
    have c3291b1 : (!t3278.2.2.2) = false := by rw [c3291b0]; rfl
    try rw [c3291b1]
    clear c3291
    go_wp2_with (first | ((with_reducible refine gate_dst (N := 5) rfl ?_); refine box_on ?hg (N := 5) ?hd (cs := #[.int .i64 0, .int .i64 0, .int .i64 0]) (t := 166) ?hr ?_; (case hd => rfl); (case hg => rfl); (case hr => first | (go_simp; done) | (go_simp; rfl)); intro g3281 hg w3282 hbox hb; replace HS : Aside0 (Sep (fps []) w [b3 g3281 0 0 0] w3282) := ⟨HS.out.box hg hbox hb⟩; clear hg hbox hb; have hc3284 : w3282.cell? ⟨g3281, 0, none⟩ = some (.int .i64 0) := blk_cellv (HS.out.at0) 0 rfl; have hz3285 : w3282.frozen? ⟨g3281, 0, none⟩ = false := blk_fz (HS.out.at0) 0; have hc3286 : w3282.cell? ⟨g3281, 1, none⟩ = some (.int .i64 0) := blk_cellv (HS.out.at0) 1 rfl; have hz3287 : w3282.frozen? ⟨g3281, 1, none⟩ = false := blk_fz (HS.out.at0) 1; have hc3288 : w3282.cell? ⟨g3281, 2, none⟩ = some (.int .i64 0) := blk_cellv (HS.out.at0) 2 rfl; have hz3289 : w3282.frozen? ⟨g3281, 2, none⟩ = false := blk_fz (HS.out.at0) 2) | ((with_reducible refine gate_store (t := 166) (p := 5) rfl ?_); refine store_event (w1 := (World.setCell (World.setCell (World.setCell w3282 ⟨g3281, 0, none⟩ (.int .i64 t3278.1)) ⟨g3281, 1, none⟩ (.int .i64 t3278.2.1)) ⟨g3281, 2, none⟩ (.int .i64 t3278.2.2.1))) rfl (t := 166) (p := 5) rfl rfl ?hr ?_; (case hr => first | (go_simp; done) | (go_simp; rfl)); intro w3290 hst; clear hc3284 hz3285 hc3286 hz3287 hc3288 hz3289; replace HS : Aside0 (Sep (fps []) w [b3 g3281 t3278.1 t3278.2.1 t3278.2.2.1] w3290) := ⟨by rw [hst]; exact HS.out.setAll (l1 := []) (l2 := []) [.int .i64 t3278.1, .int .i64 t3278.2.1, .int .i64 t3278.2.2.1] rfl⟩; clear hst; have hc3292 : w3290.cell? ⟨g3281, 0, none⟩ = some (.int .i64 t3278.1) := blk_cellv (HS.out.at0) 0 rfl))
    clear hc3292
    obtain ⟨t3303, HA3304, H⟩ := bind_some H
    refine (ground_Ground_SeeReg_nil.calls t3278.1 t3303 _ ⟨HGl0.out.pass (l := []) HS.out⟩ ⟨Sep.start _⟩ HA3304).mono ?_
    rintro e_ w3305 ⟨rfl, hS⟩
    replace HS : Aside0 (Sep (fps []) w [b3 g3281 t3278.1 t3278.2.1 t3278.2.2.1] w3305) := ⟨HS.out.call hS⟩
    clear hS
    replace HS : Aside0 (Sep (fps []) w [] w3305) := ⟨HS.out.sub (.cons _ .slnil)⟩
    go_wp2_with fail
    replace HS : Aside0 (Sep (fps []) w [r13 none 0 0 []] w3305) := ⟨HS.out.nilrow 3 (Value.int .i64)⟩
    obtain ⟨o3307, AL3308, H⟩ := bind_some H
    go_loopg [7, 8] k (fun kq v7 v8 wc => ∃ (x3313 : Int) (x3314 : List Int) (A3315 : Option Addr) (m3316 : Nat) (n3317 : Nat), v7 = .slice A3315 m3316 n3317 ∧ v8 = .int .i64 x3313 ∧ Aside0 (chain_List_nil.lo0 kq x3313 x3314 = some o3307) ∧ Aside0 (Sep (fps []) w [r13 A3315 m3316 n3317 x3314] wc))
    case atStart => exact ⟨(t3303), (([] : List Int)), (none), (0), (0), (by first | rfl | (simp [IntKind.wrap_u32]; done)), (by first | rfl | (simp [IntKind.wrap_u32]; done)), AL3308, ⟨HS.out⟩⟩
    case round =>
      clear AL3308 HS
      obtain ⟨x3313, x3314, A3315, m3316, n3317, rfl, rfl, AL3308, HS⟩ := hrel
      obtain ⟨w3309, rfl⟩ : ∃ x : World, x = wr := ⟨_, rfl⟩
      obtain rfl := (row_len (HS.out.at0)).symm
      cases gk with
      | zero => exact absurd AL3308.out (by simp [chain_List_nil.lo0])
      | succ k3310 =>
        have AL0 := AL3308.out
        rw [chain_List_nil.lo0] at AL0
        clear AL3308
        have AL3308 := Aside0.mk AL0
        clear AL0
        by_cases c3319 : x3313 > 0
        · have AL3308 := if_yes c3319 AL3308
          have c3319b0 : decide (0 < x3313) = true := decide_eq_true c3319
          clear c3319
          go_wp2_with fail
          obtain ⟨t3320, HA3321, AL3308⟩ := bind_some AL3308
          refine (ground_Ground_Conf_nil.calls t3320 _ ⟨HGl0.out.pass (l := []) HS.out⟩ ⟨Sep.start _⟩ HA3321).mono ?_
          rintro e_ w3322 ⟨rfl, hS⟩
          replace HS : Aside0 (Sep (fps []) w [r13 A3315 x3314.length n3317 x3314] w3322) := ⟨HS.out.call hS⟩
          clear hS
          by_cases c3324 : (x3314.length : Int) < t3320.1
          · have AL3308 := if_yes c3324 AL3308
            have c3324b0 : decide ((x3314.length : Int) < t3320.1) = true := decide_eq_true c3324
            clear c3324
            by_cases c3328 : x3314.length < 17592186044416
            · have AL3308 := if_yes c3328 AL3308
              have c3328b0 : decide (x3314.length < 17592186044416) = true := decide_eq_true c3328
              clear c3328
              obtain ⟨y3332, HA3333, AL3308⟩ := bind_some AL3308
              have fl3323 : ∀ w, (Instr.field 30 (.agg #[.int .i64 t3320.1, .int .i64 t3320.2.1, .int .i64 t3320.2.2.1, .int .i64 t3320.2.2.2]) 0).run Tryd.prog w = .ok (.int .i64 t3320.1) w := fun _ => by kernel_rfl
              go_wp2_with (first | ((with_reducible refine gate_dst (N := 39) rfl ?_); refine slice_on (n := 1) ?hg (N := 39) ?hd (cs := #[.int .i64 (wrap64 (x3313 - 1))]) (t := 3) ?hr ?_; (case hd => rfl); (case hg => rfl); (case hr => first | (go_simp; done) | (go_simp; rfl)); intro g3325 hg w3326 hbox hb; clear fl3323; replace HS : Aside0 (Sep (fps []) w [r13 A3315 x3314.length n3317 x3314, b11 g3325 (wrap64 (x3313 - 1))] w3326) := ⟨HS.out.box hg hbox hb⟩; clear hg hbox hb) | ((with_reducible refine gate_dst (N := 40) rfl ?_); refine append_event (l1 := []) (l2 := [b11 g3325 (wrap64 (x3313 - 1))]) rfl (.tmp 36) (.tmp 39) 49 3 (.int .i64 0) 8 rfl Tryd.underlying49 (by kernel_rfl) rfl (by decide) (Value.int .i64) (fun _ => rfl) (.slice A3315 x3314.length n3317) (x3314 : List Int) [wrap64 (x3313 - 1)] ⟨g3325, 0, none⟩ 1 rfl rfl (blk_news (xs := [wrap64 (x3313 - 1)]) (HS.out.at1)) HS.out (by have := of_decide_eq_true c3328b0; simp only [List.length_cons, List.length_nil]; omega) HA3333 ?_; intro A3329 n3330 w3331 HS1; replace HS : Aside0 (Sep (fps []) w [r13 A3329 y3332.length n3330 y3332, b11 g3325 (wrap64 (x3313 - 1))] w3331) := ⟨HS1⟩; clear HS1; replace HS : Aside0 (Sep (fps []) w [r13 A3329 y3332.length n3330 y3332] w3331) := ⟨HS.out.sub (.cons_cons _ (.cons _ .slnil))⟩))
              obtain ⟨t3335, HA3336, AL3308⟩ := bind_some AL3308
              refine (ground_Ground_SeeWord_nil.calls (wrap64 (x3313 - 1)) 5 t3335 _ ⟨HGl0.out.pass (l := []) HS.out⟩ ⟨Sep.start _⟩ HA3336).mono ?_
              rintro e_ w3337 ⟨rfl, hS⟩
              replace HS : Aside0 (Sep (fps []) w [r13 A3329 y3332.length n3330 y3332] w3337) := ⟨HS.out.call hS⟩
              clear hS
              go_wp2_with fail
              go_roundg k3310
              case measure => exact Nat.lt_succ_self _
              case rel => exact ⟨(wrap64 (t3335)), (y3332), (A3329), (y3332.length), (n3330), (by first | rfl | (simp [IntKind.wrap_u32]; done)), (by first | rfl | (simp [IntKind.wrap_u32]; done)), Aside0.mk AL3308.out, ⟨HS.out⟩⟩
            · have AL3308 := if_no c3328 AL3308
              have c3328b0 : decide (x3314.length < 17592186044416) = false := decide_eq_false c3328
              clear c3328
              exact (none_no AL3308).elim
          · have AL3308 := if_no c3324 AL3308
            have c3324b0 : decide ((x3314.length : Int) < t3320.1) = false := decide_eq_false c3324
            clear c3324
            have ho := some_eq AL3308
            subst ho
            clear AL3308
            have fl3323 : ∀ w, (Instr.field 30 (.agg #[.int .i64 t3320.1, .int .i64 t3320.2.1, .int .i64 t3320.2.2.1, .int .i64 t3320.2.2.2]) 0).run Tryd.prog w = .ok (.int .i64 t3320.1) w := fun _ => by kernel_rfl
            go_wp2_with fail
            clear fl3323
            go_ret
            rw [← some_eq H]
            exact ⟨A3315, x3314.length, n3317, (by first | rfl | (simp [IntKind.wrap_u32]; done)), HS.out⟩
        · have AL3308 := if_no c3319 AL3308
          have c3319b0 : decide (0 < x3313) = false := decide_eq_false c3319
          clear c3319
          have ho := some_eq AL3308
          subst ho
          clear AL3308
          go_wp2_with fail
          go_ret
          rw [← some_eq H]
          exact ⟨A3315, x3314.length, n3317, (by first | rfl | (simp [IntKind.wrap_u32]; done)), HS.out⟩
  · have H := if_no c3291 H
    have c3291b0 : t3278.2.2.2 = false := by simpa using c3291
    have c3291b1 : (!t3278.2.2.2) = true := by rw [c3291b0]; rfl
    try rw [c3291b1]
    clear c3291
    go_wp2_with (first | ((with_reducible refine gate_dst (N := 5) rfl ?_); refine box_on ?hg (N := 5) ?hd (cs := #[.int .i64 0, .int .i64 0, .int .i64 0]) (t := 166) ?hr ?_; (case hd => rfl); (case hg => rfl); (case hr => first | (go_simp; done) | (go_simp; rfl)); intro g3281 hg w3282 hbox hb; replace HS : Aside0 (Sep (fps []) w [b3 g3281 0 0 0] w3282) := ⟨HS.out.box hg hbox hb⟩; clear hg hbox hb; have hc3284 : w3282.cell? ⟨g3281, 0, none⟩ = some (.int .i64 0) := blk_cellv (HS.out.at0) 0 rfl; have hz3285 : w3282.frozen? ⟨g3281, 0, none⟩ = false := blk_fz (HS.out.at0) 0; have hc3286 : w3282.cell? ⟨g3281, 1, none⟩ = some (.int .i64 0) := blk_cellv (HS.out.at0) 1 rfl; have hz3287 : w3282.frozen? ⟨g3281, 1, none⟩ = false := blk_fz (HS.out.at0) 1; have hc3288 : w3282.cell? ⟨g3281, 2, none⟩ = some (.int .i64 0) := blk_cellv (HS.out.at0) 2 rfl; have hz3289 : w3282.frozen? ⟨g3281, 2, none⟩ = false := blk_fz (HS.out.at0) 2) | ((with_reducible refine gate_store (t := 166) (p := 5) rfl ?_); refine store_event (w1 := (World.setCell (World.setCell (World.setCell w3282 ⟨g3281, 0, none⟩ (.int .i64 t3278.1)) ⟨g3281, 1, none⟩ (.int .i64 t3278.2.1)) ⟨g3281, 2, none⟩ (.int .i64 t3278.2.2.1))) rfl (t := 166) (p := 5) rfl rfl ?hr ?_; (case hr => first | (go_simp; done) | (go_simp; rfl)); intro w3290 hst; clear hc3284 hz3285 hc3286 hz3287 hc3288 hz3289; replace HS : Aside0 (Sep (fps []) w [b3 g3281 t3278.1 t3278.2.1 t3278.2.2.1] w3290) := ⟨by rw [hst]; exact HS.out.setAll (l1 := []) (l2 := []) [.int .i64 t3278.1, .int .i64 t3278.2.1, .int .i64 t3278.2.2.1] rfl⟩; clear hst; replace HS : Aside0 (Sep (fps []) w [] w3290) := ⟨HS.out.sub (.cons _ .slnil)⟩))
    replace HS : Aside0 (Sep (fps []) w [r13 none 0 0 []] w3290) := ⟨HS.out.nilrow 3 (Value.int .i64)⟩
    go_ret
    rw [← some_eq H]
    exact ⟨none, 0, 0, (by first | rfl | (simp [IntKind.wrap_u32]; done)), HS.out⟩

set_option maxHeartbeats 30000000 in
set_option maxRecDepth 100000 in
theorem pool_List_nil.calls (k : Nat)  (r : List Int) (w : World)  (HGl0 : Aside0 (Gl 0 #[.int .i64 0, .int .i64 0, .int .i64 0, .int .i64 0, .int .i64 0] (fps []) w)) (HS : Aside0 (Sep (fps []) w [] w)) (H : Aside0 (pool_List_nil.f k = some r)) :
    Calls Tryd.prog 104 #[.pointer none] w fun e w' => ∃ (A3383 : Option Addr) (m3384 : Nat) (n3385 : Nat), e = .returned (.slice A3383 m3384 n3385) ∧ Sep (fps []) w [r13 A3383 m3384 n3385 r] w' := by
  unfold pool_List_nil.f at H
  go_enter Tryd.func104, Tryd.ntmps104
  go_wp2_with fail
  obtain ⟨t3369, HA3370, H⟩ := bind_some H
  refine (chain_List_nil.calls _ 0 t3369 _ ⟨HGl0.out.pass (l := []) HS.out⟩ ⟨Sep.start _⟩ HA3370).mono ?_
  rintro e_ w3371 ⟨A3373, m3374, n3375, rfl, hS⟩
  replace HS : Aside0 (Sep (fps []) w [r13 A3373 m3374 n3375 t3369] w3371) := ⟨HS.out.call hS⟩
  clear hS
  obtain rfl := (row_len (HS.out.at0)).symm
  go_wp2_with fail
  go_ret
  rw [← some_eq H]
  exact ⟨A3373, t3369.length, n3375, (by first | rfl | (simp [IntKind.wrap_u32]; done)), HS.out⟩

set_option maxHeartbeats 30000000 in
set_option maxRecDepth 100000 in
theorem quitrentref01_Ints.calls (k : Nat) (l3398 : List Int) (l3402 : List Int) (A3399 : Option Addr) (n3400 : Nat) (A3403 : Option Addr) (n3404 : Nat) (r : Bool) (w : World) (HR3401 : Aside0 (Rd (Kd.int .i64) (fps []) w A3399 l3398.length l3398)) (HR3405 : Aside0 (Rd (Kd.int .i64) (fps []) w A3403 l3402.length l3402)) (HGl0 : Aside0 (Gl 0 #[.int .i64 0, .int .i64 0, .int .i64 0, .int .i64 0, .int .i64 0] (fps []) w)) (HS : Aside0 (Sep (fps []) w [] w)) (H : Aside0 (quitrentref01_Ints.f k l3398 l3402 = some r)) :
    Calls Tryd.prog 32 #[.slice A3399 l3398.length n3400, .slice A3403 l3402.length n3404] w fun e w' => e = .returned (.bool r) ∧ Sep (fps []) w [] w' := by
  unfold quitrentref01_Ints.f at H
  go_enter Tryd.func32, Tryd.ntmps32
  by_cases c3406 : (l3398.length : Int) = (l3402.length : Int)
  · have H := if_yes c3406 H
    have c3406b0 : ((l3398.length : Int) == (l3402.length : Int)) = true := beq_iff_eq.mpr c3406
    have c3406b1 : ((l3398.length : Int) != (l3402.length : Int)) = false := bne_eq_false_iff_eq.mpr c3406
    clear c3406
    go_wp2_with fail
    obtain ⟨o3422, AL3423, H⟩ := bind_some H
    go_loopg [5] k (fun kq v5 wc => ∃ (x3426 : Int), v5 = .int .i64 x3426 ∧ Aside0 (quitrentref01_Ints.lo0 kq l3398 l3402 x3426 = some o3422) ∧ Aside0 (Sep (fps []) w [] wc))
    case atStart => exact ⟨(0), (by first | rfl | (simp [IntKind.wrap_u32]; done)), AL3423, ⟨HS.out⟩⟩
    case round =>
      clear AL3423 HS
      obtain ⟨x3426, rfl, AL3423, HS⟩ := hrel
      obtain ⟨w3424, rfl⟩ : ∃ x : World, x = wr := ⟨_, rfl⟩
      cases gk with
      | zero => exact absurd AL3423.out (by simp [quitrentref01_Ints.lo0])
      | succ k3425 =>
        have AL0 := AL3423.out
        rw [quitrentref01_Ints.lo0] at AL0
        clear AL3423
        have AL3423 := Aside0.mk AL0
        clear AL0
        by_cases c3427 : x3426 < (l3398.length : Int)
        · have AL3423 := if_yes c3427 AL3423
          have c3427b0 : decide (x3426 < (l3398.length : Int)) = true := decide_eq_true c3427
          clear c3427
          go_wp2_with fail
          refine start_ (n := 9) (S := (fun w' => Kd.C (Kd.int .i64) w' A3399 l3398.length l3398 ∧ Kd.C (Kd.int .i64) w' A3403 l3402.length l3402)) (ds := []) #[false, false, false, false, false, false, false, false, false] (by kernel_rfl) rfl rfl (⟨Rd.read (fun _ _ _ _ h => h) HR3401.out (HS.out.drew).fr, Rd.read (fun _ _ _ _ h => h) HR3405.out (HS.out.drew).fr⟩) (fun hHeld => ?_)
          have HS_ := Aside0.mk HS.out.drew
          clear HS
          generalize World.drew _ = w3429 at HS_ hHeld ⊢
          have HS := HS_
          clear HS_
          refine pure_ (i := 0) (N := some 17) (v := ?_) (a' := ?_) #[true, false, false, false, false, false, false, false, false] rfl rfl (by kernel_rfl) (fun _ _ _ h => h) (Or.inl ⟨by rfl, ?_⟩) ?_ ?_
          rotate_left
          · intro w'
            go_simp
            with_reducible rfl
          rotate_left
          · simp only [Act.put, List.setIfInBounds_toArray, List.set_cons_zero, List.set_cons_succ, i64_w, i32_w]
            rfl
          refine pure_ (i := 1) (N := some 18) (v := ?_) (a' := ?_) #[true, true, false, false, false, false, false, false, false] rfl rfl (by kernel_rfl) (fun _ _ _ h => h) (Or.inl ⟨by rfl, ?_⟩) ?_ ?_
          rotate_left
          · intro w'
            go_simp
            with_reducible rfl
          rotate_left
          · simp only [Act.put, List.setIfInBounds_toArray, List.set_cons_zero, List.set_cons_succ, i64_w, i32_w]
            rfl
          by_cases c3430 : 0 ≤ x3426
          · have AL3423 := if_yes c3430 AL3423
            have c3430b0 : decide (0 ≤ x3426) = true := decide_eq_true c3430
            have c3430p : (0 ≤ x3426) = True := eq_true c3430
            clear c3430
            have ip3431 : (x3426 < (l3398.length : Int)) = True := eq_true (of_decide_eq_true c3427b0)
            obtain ⟨ad3432, ea, _⟩ := Kd.at_int (Rd.read (fun _ _ _ _ h => h) HR3401.out HS.out.fr) x3426 (of_decide_eq_true c3430b0) (of_decide_eq_true c3427b0)
            cases ea
            refine pure_ (i := 2) (N := some 19) (v := ?_) (a' := ?_) #[true, true, true, false, false, false, false, false, false] rfl rfl (by kernel_rfl) (fun _ _ _ h => h) (Or.inl ⟨by rfl, ?_⟩) ?_ ?_
            rotate_left
            · intro w'
              go_simp
              with_reducible rfl
            rotate_left
            · simp only [Act.put, List.setIfInBounds_toArray, List.set_cons_zero, List.set_cons_succ, i64_w, i32_w]
              rfl
            refine pure_ (i := 4) (N := some 21) (v := ?_) (a' := ?_) #[true, true, true, false, true, false, false, false, false] rfl rfl (by kernel_rfl) (fun _ _ _ h => h) (Or.inl ⟨by rfl, ?_⟩) ?_ ?_
            rotate_left
            · intro w'
              go_simp
              with_reducible rfl
            rotate_left
            · simp only [Act.put, List.setIfInBounds_toArray, List.set_cons_zero, List.set_cons_succ, i64_w, i32_w]
              rfl
            refine pure_ (i := 5) (N := some 22) (v := ?_) (a' := ?_) #[true, true, true, false, true, true, false, false, false] rfl rfl (by kernel_rfl) (fun _ _ _ h => h) (Or.inl ⟨by rfl, ?_⟩) ?_ ?_
            rotate_left
            · intro w'
              go_simp
              with_reducible rfl
            rotate_left
            · simp only [Act.put, List.setIfInBounds_toArray, List.set_cons_zero, List.set_cons_succ, i64_w, i32_w]
              rfl
            by_cases c3433 : x3426 < (l3402.length : Int)
            · have AL3423 := if_yes c3433 AL3423
              have c3433b0 : decide (x3426 < (l3402.length : Int)) = true := decide_eq_true c3433
              have c3433p : (x3426 < (l3402.length : Int)) = True := eq_true c3433
              clear c3433
              obtain ⟨ad3434, ea, _⟩ := Kd.at_int (Rd.read (fun _ _ _ _ h => h) HR3405.out HS.out.fr) x3426 (of_decide_eq_true c3430b0) (of_decide_eq_true c3433b0)
              cases ea
              refine pure_ (i := 6) (N := some 23) (v := ?_) (a' := ?_) #[true, true, true, false, true, true, true, false, false] rfl rfl (by kernel_rfl) (fun _ _ _ h => h) (Or.inl ⟨by rfl, ?_⟩) ?_ ?_
              rotate_left
              · intro w'
                go_simp
                with_reducible rfl
              rotate_left
              · simp only [Act.put, List.setIfInBounds_toArray, List.set_cons_zero, List.set_cons_succ, i64_w, i32_w]
                rfl
              refine take_ (i := 3) (N := some 20) (v := ?_) (a' := ?_) #[true, true, true, true, true, true, true, false, false] rfl rfl (by kernel_rfl) (fun _ _ _ h => h) (Or.inl ⟨by rfl, ?_⟩) hHeld ?_ ?_
              rotate_left
              · rintro w' hS'
                obtain ⟨s0, s1⟩ := hS'
                have hx := C_at_int s0 x3426 (of_decide_eq_true c3430b0) (of_decide_eq_true c3427b0)
                go_simp
                with_reducible rfl
              rotate_left
              · simp only [Act.put, List.setIfInBounds_toArray, List.set_cons_zero, List.set_cons_succ, i64_w, i32_w]
                rfl
              refine take_ (i := 7) (N := some 24) (v := ?_) (a' := ?_) #[true, true, true, true, true, true, true, true, false] rfl rfl (by kernel_rfl) (fun _ _ _ h => h) (Or.inl ⟨by rfl, ?_⟩) hHeld ?_ ?_
              rotate_left
              · rintro w' hS'
                obtain ⟨s0, s1⟩ := hS'
                have hx := C_at_int s1 x3426 (of_decide_eq_true c3430b0) (of_decide_eq_true c3433b0)
                go_simp
                with_reducible rfl
              rotate_left
              · simp only [Act.put, List.setIfInBounds_toArray, List.set_cons_zero, List.set_cons_succ, i64_w, i32_w]
                rfl
              refine pure_ (i := 8) (N := some 25) (v := ?_) (a' := ?_) #[true, true, true, true, true, true, true, true, true] rfl rfl (by kernel_rfl) (fun _ _ _ h => h) (Or.inl ⟨by rfl, ?_⟩) ?_ ?_
              rotate_left
              · intro w'
                go_simp
                with_reducible rfl
              rotate_left
              · simp only [Act.put, List.setIfInBounds_toArray, List.set_cons_zero, List.set_cons_succ, i64_w, i32_w]
                rfl
              refine done_ (by kernel_rfl) ?_
              by_cases c3435 : (rd l3398 x3426) = (rd l3402 x3426)
              · have AL3423 := if_yes c3435 AL3423
                have c3435b0 : ((rd l3398 x3426) == (rd l3402 x3426)) = true := beq_iff_eq.mpr c3435
                have c3435b1 : ((rd l3398 x3426) != (rd l3402 x3426)) = false := bne_eq_false_iff_eq.mpr c3435
                clear c3435
                go_wp2_with fail
                go_roundg k3425
                case measure => exact Nat.lt_succ_self _
                case rel => exact ⟨(wrap64 (x3426 + 1)), (by first | rfl | (simp [IntKind.wrap_u32]; done)), Aside0.mk AL3423.out, ⟨HS.out⟩⟩
              · have AL3423 := if_no c3435 AL3423
                have c3435b0 : ((rd l3398 x3426) == (rd l3402 x3426)) = false := beq_eq_false_iff_ne.mpr c3435
                have c3435b1 : ((rd l3398 x3426) != (rd l3402 x3426)) = true := bne_iff_ne.mpr c3435
                clear c3435
                go_wp2_with fail
                have ho := some_eq AL3423
                subst ho
                have H := lp_ret H
                go_ret
                rw [← some_eq H]
                exact ⟨(by first | rfl | (simp [IntKind.wrap_u32]; done)), HS.out⟩
            · have AL3423 := if_no c3433 AL3423
              have c3433b0 : decide (x3426 < (l3402.length : Int)) = false := decide_eq_false c3433
              clear c3433
              exact (none_no AL3423).elim
          · have AL3423 := if_no c3430 AL3423
            have c3430b0 : decide (0 ≤ x3426) = false := decide_eq_false c3430
            clear c3430
            exact (none_no AL3423).elim
        · have AL3423 := if_no c3427 AL3423
          have c3427b0 : decide (x3426 < (l3398.length : Int)) = false := decide_eq_false c3427
          clear c3427
          have ho := some_eq AL3423
          subst ho
          clear AL3423
          have H := lp_out H
          go_wp2_with fail
          go_ret
          rw [← some_eq H]
          exact ⟨(by first | rfl | (simp [IntKind.wrap_u32]; done)), HS.out⟩
  · have H := if_no c3406 H
    have c3406b0 : ((l3398.length : Int) == (l3402.length : Int)) = false := beq_eq_false_iff_ne.mpr c3406
    have c3406b1 : ((l3398.length : Int) != (l3402.length : Int)) = true := bne_iff_ne.mpr c3406
    clear c3406
    go_wp2_with fail
    go_ret
    rw [← some_eq H]
    exact ⟨(by first | rfl | (simp [IntKind.wrap_u32]; done)), HS.out⟩

set_option maxHeartbeats 30000000 in
set_option maxRecDepth 100000 in
theorem pool_Len.calls (l3481 : List Int) (a3486 : Int) (a3487 : Int) (a3488 : Int) (a3489 : Int) (a3490 : Int) (g3477 : Nat) (g3479 : Nat) (A3482 : Option Addr) (m3483 : Nat) (n3484 : Nat) (r : Int × Int) (w : World)  (HGl0 : Aside0 (Gl 0 #[.int .i64 0, .int .i64 0, .int .i64 0, .int .i64 0, .int .i64 0] (fps [b21 g3477 g3479 a3487 a3488 a3489 a3490, b20 g3479 A3482 m3483 n3484 a3486, r7 A3482 m3483 n3484 l3481]) w)) (HS : Aside0 (Sep (fps [b21 g3477 g3479 a3487 a3488 a3489 a3490, b20 g3479 A3482 m3483 n3484 a3486, r7 A3482 m3483 n3484 l3481]) w [b21 g3477 g3479 a3487 a3488 a3489 a3490, b20 g3479 A3482 m3483 n3484 a3486, r7 A3482 m3483 n3484 l3481] w)) (H : Aside0 (pool_Len.f l3481 a3486 a3487 a3488 a3489 a3490 = some r)) :
    Calls Tryd.prog 44 #[.pointer (some ⟨g3477, 0, none⟩)] w fun e w' => e = .returned (.int .i64 r.1) ∧ Sep (fps [b21 g3477 g3479 a3487 a3488 a3489 a3490, b20 g3479 A3482 m3483 n3484 a3486, r7 A3482 m3483 n3484 l3481]) w [b21 g3477 g3479 a3487 a3488 a3489 a3490, b20 g3479 A3482 m3483 n3484 r.2, r7 A3482 m3483 n3484 l3481] w' := by
  generalize (fps [b21 g3477 g3479 a3487 a3488 a3489 a3490, b20 g3479 A3482 m3483 n3484 a3486, r7 A3482 m3483 n3484 l3481]) = FF at HS HGl0 ⊢
  obtain rfl := (row_len (HS.out.at2)).symm
  unfold pool_Len.f at H
  go_enter Tryd.func44, Tryd.ntmps44
  go_wp2_with fail
  obtain ⟨t3494, HA3495, H⟩ := bind_some H
  refine (chain_Len.calls l3481 a3486 a3487 a3488 a3489 a3490 0 g3477 g3479 A3482 l3481.length n3484 t3494 _ ⟨HGl0.out.pass HS.out⟩ ⟨HS.out.begin⟩ HA3495).mono ?_
  rintro e_ w3496 ⟨rfl, hS⟩
  replace HS : Aside0 (Sep FF w [b21 g3477 g3479 a3487 a3488 a3489 a3490, b20 g3479 A3482 l3481.length n3484 t3494.2, r7 A3482 l3481.length n3484 l3481] w3496) := ⟨HS.out.call hS⟩
  clear hS
  go_wp2_with fail
  go_ret
  rw [← some_eq H]
  exact ⟨(by first | rfl | (simp [IntKind.wrap_u32]; done)), HS.out⟩

set_option maxHeartbeats 30000000 in
set_option maxRecDepth 100000 in
theorem ground_Ground_Word.calls (l3587 : List Int) (a3592 : Int) (a3593 : Int) (a3594 : Int) (a3595 : Int) (a3596 : Int) (a3597 : Int) (a3598 : Int) (g3583 : Nat) (g3585 : Nat) (A3588 : Option Addr) (m3589 : Nat) (n3590 : Nat) (r : Int × Int) (w : World)  (HGl0 : Aside0 (Gl 0 #[.int .i64 0, .int .i64 0, .int .i64 0, .int .i64 0, .int .i64 0] (fps [b21 g3583 g3585 a3593 a3594 a3595 a3596, b20 g3585 A3588 m3589 n3590 a3592, r7 A3588 m3589 n3590 l3587]) w)) (HS : Aside0 (Sep (fps [b21 g3583 g3585 a3593 a3594 a3595 a3596, b20 g3585 A3588 m3589 n3590 a3592, r7 A3588 m3589 n3590 l3587]) w [b21 g3583 g3585 a3593 a3594 a3595 a3596, b20 g3585 A3588 m3589 n3590 a3592, r7 A3588 m3589 n3590 l3587] w)) (H : Aside0 (ground_Ground_Word.f l3587 a3592 a3593 a3594 a3595 a3596 a3597 a3598 = some r)) :
    Calls Tryd.prog 84 #[.pointer (some ⟨g3583, 0, none⟩), .int .i64 a3597, .int .i64 a3598] w fun e w' => e = .returned (.int .u32 r.1) ∧ Sep (fps [b21 g3583 g3585 a3593 a3594 a3595 a3596, b20 g3585 A3588 m3589 n3590 a3592, r7 A3588 m3589 n3590 l3587]) w [b21 g3583 g3585 a3593 a3594 a3595 a3596, b20 g3585 A3588 m3589 n3590 r.2, r7 A3588 m3589 n3590 l3587] w' := by
  generalize (fps [b21 g3583 g3585 a3593 a3594 a3595 a3596, b20 g3585 A3588 m3589 n3590 a3592, r7 A3588 m3589 n3590 l3587]) = FF at HS HGl0 ⊢
  obtain rfl := (row_len (HS.out.at2)).symm
  unfold ground_Ground_Word.f at H
  go_enter Tryd.func84, Tryd.ntmps84
  go_wp2_with fail
  obtain ⟨t3608, HA3609, H⟩ := bind_some H
  refine (ground_Ground_all.calls l3587 a3592 a3593 a3594 a3595 a3596 g3583 g3585 A3588 l3587.length n3590 t3608 _ ⟨HGl0.out.pass HS.out⟩ ⟨HS.out.begin⟩ HA3609).mono ?_
  rintro e_ w3610 ⟨rfl, hS⟩
  replace HS : Aside0 (Sep FF w [b21 g3583 g3585 a3593 a3594 a3595 a3596, b20 g3585 A3588 l3587.length n3590 a3592, r7 A3588 l3587.length n3590 l3587] w3610) := ⟨HS.out.call hS⟩
  clear hS
  go_wp2_with fail
  obtain ⟨t3611, HA3612, H⟩ := bind_some H
  refine (ground_Ground_word.calls l3587 a3592 a3593 a3594 a3595 a3596 a3597 a3598 g3583 g3585 A3588 l3587.length n3590 t3611 _ ⟨HGl0.out.pass HS.out⟩ ⟨HS.out.begin⟩ HA3612).mono ?_
  rintro e_ w3613 ⟨rfl, hS⟩
  replace HS : Aside0 (Sep FF w [b21 g3583 g3585 a3593 a3594 a3595 a3596, b20 g3585 A3588 l3587.length n3590 a3592, r7 A3588 l3587.length n3590 l3587] w3613) := ⟨HS.out.call hS⟩
  clear hS
  go_wp2_with fail
  replace HS : Aside0 (Sep FF w [r7 A3588 l3587.length n3590 l3587, b21 g3583 g3585 a3593 a3594 a3595 a3596, b20 g3585 A3588 l3587.length n3590 a3592] w3613) := ⟨HS.out.front 2 (by simp)⟩
  replace HS : Aside0 (Sep FF w [b20 g3585 A3588 l3587.length n3590 a3592, r7 A3588 l3587.length n3590 l3587, b21 g3583 g3585 a3593 a3594 a3595 a3596] w3613) := ⟨HS.out.front 2 (by simp)⟩
  obtain ⟨t3614, HA3615, H⟩ := bind_some H
  refine (store_Store_Get.calls l3587 a3592 t3611 g3585 A3588 l3587.length n3590 t3614 _ ⟨HGl0.out.pass HS.out⟩ ⟨HS.out.begin⟩ HA3615).mono ?_
  rintro e_ w3616 ⟨rfl, hS⟩
  replace HS : Aside0 (Sep FF w [b20 g3585 A3588 l3587.length n3590 t3614.2, r7 A3588 l3587.length n3590 l3587, b21 g3583 g3585 a3593 a3594 a3595 a3596] w3616) := ⟨HS.out.call hS⟩
  clear hS
  go_wp2_with fail
  go_ret
  rw [← some_eq H]
  exact ⟨(by first | rfl | (simp [IntKind.wrap_u32]; done)), ((((HS.out).front 1 (by simp)).front 1 (by simp)).front 2 (by simp)).keep (l := [b21 g3583 g3585 a3593 a3594 a3595 a3596, b20 g3585 A3588 l3587.length n3590 t3614.2, r7 A3588 l3587.length n3590 l3587]) (rest := [])⟩

set_option maxHeartbeats 30000000 in
set_option maxRecDepth 100000 in
theorem chain_Take.calls (l3533 : List Int) (a3538 : Int) (a3539 : Int) (a3540 : Int) (a3541 : Int) (a3542 : Int) (a3543 : Int) (g3529 : Nat) (g3531 : Nat) (A3534 : Option Addr) (m3535 : Nat) (n3536 : Nat) (r : Int × Bool × Int × List Int) (w : World)  (HGl0 : Aside0 (Gl 0 #[.int .i64 0, .int .i64 0, .int .i64 0, .int .i64 0, .int .i64 0] (fps [b21 g3529 g3531 a3539 a3540 a3541 a3542, b20 g3531 A3534 m3535 n3536 a3538, r7 A3534 m3535 n3536 l3533]) w)) (HS : Aside0 (Sep (fps [b21 g3529 g3531 a3539 a3540 a3541 a3542, b20 g3531 A3534 m3535 n3536 a3538, r7 A3534 m3535 n3536 l3533]) w [b21 g3529 g3531 a3539 a3540 a3541 a3542, b20 g3531 A3534 m3535 n3536 a3538, r7 A3534 m3535 n3536 l3533] w)) (H : Aside0 (chain_Take.f l3533 a3538 a3539 a3540 a3541 a3542 a3543 = some r)) :
    Calls Tryd.prog 135 #[.pointer (some ⟨g3529, 0, none⟩), .int .i64 a3543] w fun e w' => e = .returned (.tuple #[.int .i64 r.1, .bool r.2.1]) ∧ Sep (fps [b21 g3529 g3531 a3539 a3540 a3541 a3542, b20 g3531 A3534 m3535 n3536 a3538, r7 A3534 m3535 n3536 l3533]) w [b21 g3529 g3531 a3539 a3540 a3541 a3542, b20 g3531 A3534 m3535 n3536 r.2.2.1, r7 A3534 m3535 n3536 r.2.2.2] w' := by
  generalize (fps [b21 g3529 g3531 a3539 a3540 a3541 a3542, b20 g3531 A3534 m3535 n3536 a3538, r7 A3534 m3535 n3536 l3533]) = FF at HS HGl0 ⊢
  obtain rfl := (row_len (HS.out.at2)).symm
  unfold chain_Take.f at H
  go_enter Tryd.func135, Tryd.ntmps135
  go_wp2_with fail
  obtain ⟨t3640, HA3641, H⟩ := bind_some H
  refine (chain_of.calls l3533 a3538 a3539 a3540 a3541 a3542 a3543 g3529 g3531 A3534 l3533.length n3536 t3640 _ ⟨HGl0.out.pass HS.out⟩ ⟨HS.out.begin⟩ HA3641).mono ?_
  rintro e_ w3642 ⟨rfl, hS⟩
  replace HS : Aside0 (Sep FF w [b21 g3529 g3531 a3539 a3540 a3541 a3542, b20 g3531 A3534 l3533.length n3536 a3538, r7 A3534 l3533.length n3536 l3533] w3642) := ⟨HS.out.call hS⟩
  clear hS
  by_cases c3653 : t3640.2.2.2 = true
  · have H := if_yes c3653 H
    have c3653b0 : t3640.2.2.2 = true := c3653
    have c3653b1 : (!t3640.2.2.2) = false := by rw [c3653b0]; rfl
    try rw [c3653b1]
    clear c3653
    go_wp2_with (first | ((with_reducible refine gate_dst (N := 6) rfl ?_); refine box_on ?hg (N := 6) ?hd (cs := #[.int .i64 0, .int .i64 0, .int .i64 0]) (t := 166) ?hr ?_; (case hd => rfl); (case hg => rfl); (case hr => first | (go_simp; done) | (go_simp; rfl)); intro g3643 hg w3644 hbox hb; replace HS : Aside0 (Sep FF w [b21 g3529 g3531 a3539 a3540 a3541 a3542, b20 g3531 A3534 l3533.length n3536 a3538, r7 A3534 l3533.length n3536 l3533, b3 g3643 0 0 0] w3644) := ⟨HS.out.box hg hbox hb⟩; clear hg hbox hb; have hc3646 : w3644.cell? ⟨g3643, 0, none⟩ = some (.int .i64 0) := blk_cellv (HS.out.at3) 0 rfl; have hz3647 : w3644.frozen? ⟨g3643, 0, none⟩ = false := blk_fz (HS.out.at3) 0; have hc3648 : w3644.cell? ⟨g3643, 1, none⟩ = some (.int .i64 0) := blk_cellv (HS.out.at3) 1 rfl; have hz3649 : w3644.frozen? ⟨g3643, 1, none⟩ = false := blk_fz (HS.out.at3) 1; have hc3650 : w3644.cell? ⟨g3643, 2, none⟩ = some (.int .i64 0) := blk_cellv (HS.out.at3) 2 rfl; have hz3651 : w3644.frozen? ⟨g3643, 2, none⟩ = false := blk_fz (HS.out.at3) 2) | ((with_reducible refine gate_store (t := 166) (p := 6) rfl ?_); refine store_event (w1 := (World.setCell (World.setCell (World.setCell w3644 ⟨g3643, 0, none⟩ (.int .i64 t3640.1)) ⟨g3643, 1, none⟩ (.int .i64 t3640.2.1)) ⟨g3643, 2, none⟩ (.int .i64 t3640.2.2.1))) rfl (t := 166) (p := 6) rfl rfl ?hr ?_; (case hr => first | (go_simp; done) | (go_simp; rfl)); intro w3652 hst; clear hc3646 hz3647 hc3648 hz3649 hc3650 hz3651; replace HS : Aside0 (Sep FF w [b21 g3529 g3531 a3539 a3540 a3541 a3542, b20 g3531 A3534 l3533.length n3536 a3538, r7 A3534 l3533.length n3536 l3533, b3 g3643 t3640.1 t3640.2.1 t3640.2.2.1] w3652) := ⟨by rw [hst]; exact HS.out.setAll (l1 := [b21 g3529 g3531 a3539 a3540 a3541 a3542, b20 g3531 A3534 l3533.length n3536 a3538, r7 A3534 l3533.length n3536 l3533]) (l2 := []) [.int .i64 t3640.1, .int .i64 t3640.2.1, .int .i64 t3640.2.2.1] rfl⟩; clear hst; have hc3654 : w3652.cell? ⟨g3643, 0, none⟩ = some (.int .i64 t3640.1) := blk_cellv (HS.out.at3) 0 rfl))
    clear hc3654
    obtain ⟨t3655, HA3656, H⟩ := bind_some H
    refine (ground_Ground_Reg.calls l3533 a3538 a3539 a3540 a3541 a3542 t3640.1 g3529 g3531 A3534 l3533.length n3536 t3655 _ ⟨HGl0.out.pass HS.out⟩ ⟨HS.out.begin⟩ HA3656).mono ?_
    rintro e_ w3657 ⟨rfl, hS⟩
    replace HS : Aside0 (Sep FF w [b21 g3529 g3531 a3539 a3540 a3541 a3542, b20 g3531 A3534 l3533.length n3536 t3655.2, r7 A3534 l3533.length n3536 l3533, b3 g3643 t3640.1 t3640.2.1 t3640.2.2.1] w3657) := ⟨HS.out.call hS⟩
    clear hS
    by_cases c3658 : t3655.1 = 0
    · have H := if_yes c3658 H
      have c3658b0 : (t3655.1 == 0) = true := beq_iff_eq.mpr c3658
      have c3658b1 : (t3655.1 != 0) = false := bne_eq_false_iff_eq.mpr c3658
      clear c3658
      replace HS : Aside0 (Sep FF w [b21 g3529 g3531 a3539 a3540 a3541 a3542, b20 g3531 A3534 l3533.length n3536 t3655.2, r7 A3534 l3533.length n3536 l3533] w3657) := ⟨HS.out.sub (.cons_cons _ (.cons_cons _ (.cons_cons _ (.cons _ .slnil))))⟩
      go_wp2_with fail
      go_ret2
      rw [← some_eq H]
      exact ⟨(by first | rfl | (simp [IntKind.wrap_u32]; done)), HS.out⟩
    · have H := if_no c3658 H
      have c3658b0 : (t3655.1 == 0) = false := beq_eq_false_iff_ne.mpr c3658
      have c3658b1 : (t3655.1 != 0) = true := bne_iff_ne.mpr c3658
      clear c3658
      go_wp2_with fail
      obtain ⟨t3659, HA3660, H⟩ := bind_some H
      refine (ground_Ground_Word.calls l3533 t3655.2 a3539 a3540 a3541 a3542 (wrap64 (t3655.1 - 1)) 5 g3529 g3531 A3534 l3533.length n3536 t3659 _ ⟨HGl0.out.pass HS.out⟩ ⟨HS.out.begin⟩ HA3660).mono ?_
      rintro e_ w3661 ⟨rfl, hS⟩
      replace HS : Aside0 (Sep FF w [b21 g3529 g3531 a3539 a3540 a3541 a3542, b20 g3531 A3534 l3533.length n3536 t3659.2, r7 A3534 l3533.length n3536 l3533, b3 g3643 t3640.1 t3640.2.1 t3640.2.2.1] w3661) := ⟨HS.out.call hS⟩
      clear hS
      go_wp2_with fail
      obtain ⟨t3662, HA3663, H⟩ := bind_some H
      refine (ground_Ground_SetWord.calls l3533 t3659.2 a3539 a3540 a3541 a3542 (wrap64 (t3655.1 - 1)) 5 0 g3529 g3531 A3534 l3533.length n3536 t3662 _ ⟨HGl0.out.pass HS.out⟩ ⟨HS.out.begin⟩ HA3663).mono ?_
      rintro e_ w3664 ⟨rfl, hS⟩
      replace HS : Aside0 (Sep FF w [b21 g3529 g3531 a3539 a3540 a3541 a3542, b20 g3531 A3534 l3533.length n3536 t3662.2.1, r7 A3534 l3533.length n3536 t3662.2.2, b3 g3643 t3640.1 t3640.2.1 t3640.2.2.1] w3664) := ⟨HS.out.call hS⟩
      clear hS
      have hc3665 : w3664.cell? ⟨g3643, 0, none⟩ = some (.int .i64 t3640.1) := blk_cellv (HS.out.at3) 0 rfl
      go_wp2_with fail
      clear hc3665
      obtain ⟨t3666, HA3667, H⟩ := bind_some H
      refine (ground_Ground_SetReg.calls t3662.2.2 t3662.2.1 a3539 a3540 a3541 a3542 t3640.1 (wrap64 (t3659.1)) g3529 g3531 A3534 l3533.length n3536 t3666 _ ⟨HGl0.out.pass HS.out⟩ ⟨HS.out.begin⟩ HA3667).mono ?_
      rintro e_ w3668 ⟨rfl, hS⟩
      replace HS : Aside0 (Sep FF w [b21 g3529 g3531 a3539 a3540 a3541 a3542, b20 g3531 A3534 l3533.length n3536 t3666.2.1, r7 A3534 l3533.length n3536 t3666.2.2, b3 g3643 t3640.1 t3640.2.1 t3640.2.2.1] w3668) := ⟨HS.out.call hS⟩
      clear hS
      by_cases c3669 : (wrap64 (t3659.1)) = 0
      · have H := if_yes c3669 H
        have c3669b0 : ((wrap64 (t3659.1)) == 0) = true := beq_iff_eq.mpr c3669
        have c3669b1 : ((wrap64 (t3659.1)) != 0) = false := bne_eq_false_iff_eq.mpr c3669
        clear c3669
        have hc3670 : w3668.cell? ⟨g3643, 1, none⟩ = some (.int .i64 t3640.2.1) := blk_cellv (HS.out.at3) 1 rfl
        go_wp2_with fail
        clear hc3670
        obtain ⟨t3671, HA3672, H⟩ := bind_some H
        refine (ground_Ground_SetReg.calls t3666.2.2 t3666.2.1 a3539 a3540 a3541 a3542 t3640.2.1 0 g3529 g3531 A3534 l3533.length n3536 t3671 _ ⟨HGl0.out.pass HS.out⟩ ⟨HS.out.begin⟩ HA3672).mono ?_
        rintro e_ w3673 ⟨rfl, hS⟩
        replace HS : Aside0 (Sep FF w [b21 g3529 g3531 a3539 a3540 a3541 a3542, b20 g3531 A3534 l3533.length n3536 t3671.2.1, r7 A3534 l3533.length n3536 t3671.2.2, b3 g3643 t3640.1 t3640.2.1 t3640.2.2.1] w3673) := ⟨HS.out.call hS⟩
        clear hS
        go_wp2_with fail
        refine start_ (n := 9) (S := (fun w' => w'.cell? ⟨g3643, 2, none⟩ = some (.int .i64 t3640.2.2.1))) (ds := []) #[false, false, false, false, false, false, false, false, false] (by kernel_rfl) rfl rfl (blk_cellv ((HS.out.drew).at3) 2 rfl) (fun hHeld => ?_)
        have HS_ := Aside0.mk HS.out.drew
        clear HS
        generalize World.drew _ = w3675 at HS_ hHeld ⊢
        have HS := HS_
        clear HS_
        refine pure_ (i := 0) (N := some 44) (v := ?_) (a' := ?_) #[true, false, false, false, false, false, false, false, false] rfl rfl (by kernel_rfl) (fun _ _ _ h => h) (Or.inl ⟨by rfl, ?_⟩) ?_ ?_
        rotate_left
        · intro w'
          go_simp
          with_reducible rfl
        rotate_left
        · simp only [Act.put, List.setIfInBounds_toArray, List.set_cons_zero, List.set_cons_succ, i64_w, i32_w]
          rfl
        refine pure_ (i := 1) (N := some 45) (v := ?_) (a' := ?_) #[true, true, false, false, false, false, false, false, false] rfl rfl (by kernel_rfl) (fun _ _ _ h => h) (Or.inl ⟨by rfl, ?_⟩) ?_ ?_
        rotate_left
        · intro w'
          go_simp
          with_reducible rfl
        rotate_left
        · simp only [Act.put, List.setIfInBounds_toArray, List.set_cons_zero, List.set_cons_succ, i64_w, i32_w]
          rfl
        refine pure_ (i := 3) (N := some 47) (v := ?_) (a' := ?_) #[true, true, false, true, false, false, false, false, false] rfl rfl (by kernel_rfl) (fun _ _ _ h => h) (Or.inl ⟨by rfl, ?_⟩) ?_ ?_
        rotate_left
        · intro w'
          go_simp
          with_reducible rfl
        rotate_left
        · simp only [Act.put, List.setIfInBounds_toArray, List.set_cons_zero, List.set_cons_succ, i64_w, i32_w]
          rfl
        refine pure_ (i := 4) (N := some 48) (v := ?_) (a' := ?_) #[true, true, false, true, true, false, false, false, false] rfl rfl (by kernel_rfl) (fun _ _ _ h => h) (Or.inl ⟨by rfl, ?_⟩) ?_ ?_
        rotate_left
        · intro w'
          go_simp
          with_reducible rfl
        rotate_left
        · simp only [Act.put, List.setIfInBounds_toArray, List.set_cons_zero, List.set_cons_succ, i64_w, i32_w]
          rfl
        refine take_ (i := 2) (N := some 46) (v := ?_) (a' := ?_) #[true, true, true, true, true, false, false, false, false] rfl rfl (by kernel_rfl) (fun _ _ _ h => h) (Or.inl ⟨by rfl, ?_⟩) hHeld ?_ ?_
        rotate_left
        · rintro w' hS'
          have s0 := hS'
          go_simp
          with_reducible rfl
        rotate_left
        · simp only [Act.put, List.setIfInBounds_toArray, List.set_cons_zero, List.set_cons_succ, i64_w, i32_w]
          rfl
        refine take_ (i := 5) (N := some 49) (v := ?_) (a' := ?_) #[true, true, true, true, true, true, false, false, false] rfl rfl (by kernel_rfl) (fun _ _ _ h => h) (Or.inl ⟨by rfl, ?_⟩) hHeld ?_ ?_
        rotate_left
        · rintro w' hS'
          have s0 := hS'
          go_simp
          with_reducible rfl
        rotate_left
        · simp only [Act.put, List.setIfInBounds_toArray, List.set_cons_zero, List.set_cons_succ, i64_w, i32_w]
          rfl
        refine one_ (i := 6) (N := some 50) #[true, true, true, true, true, true, true, false, false] rfl rfl (by kernel_rfl) (by decide) (fun K hK => ?_)
        obtain ⟨t3676, HA3677, H⟩ := bind_some H
        refine goes_ Tryd.func81 (by kernel_rfl) rfl #[.pointer (some ⟨g3529, 0, none⟩), .int .i64 t3640.2.2.1] (by rfl) rfl rfl (by (try simp only [List.map_toArray, List.map_cons, List.map_nil]); first | done | rfl) ?_
        refine (ground_Ground_Reg.calls t3671.2.2 t3671.2.1 a3539 a3540 a3541 a3542 t3640.2.2.1 g3529 g3531 A3534 l3533.length n3536 t3676 _ ⟨HGl0.out.pass HS.out⟩ ⟨HS.out.begin⟩ HA3677).mono ?_
        rintro e_ w3678 ⟨rfl, hS⟩
        replace HS : Aside0 (Sep FF w [b21 g3529 g3531 a3539 a3540 a3541 a3542, b20 g3531 A3534 l3533.length n3536 t3676.2, r7 A3534 l3533.length n3536 t3671.2.2, b3 g3643 t3640.1 t3640.2.1 t3640.2.2.1] w3678) := ⟨HS.out.call hS⟩
        clear hS
        refine ⟨_, rfl, ?_⟩
        refine hK.out _ _ (blk_cellv (HS.out.at3) 2 rfl) (fun hHeld => ?_)
        clear hK K
        refine norm_ (a' := ?_) ?_ ?_
        rotate_left
        · show Act.put _ (some 50) _ = _
          simp only [Act.put, List.setIfInBounds_toArray, List.set_cons_zero, List.set_cons_succ, i64_w, i32_w]
          rfl
        refine pure_ (i := 7) (N := some 51) (v := ?_) (a' := ?_) #[true, true, true, true, true, true, true, true, false] rfl rfl (by kernel_rfl) (fun _ _ _ h => h) (Or.inl ⟨by rfl, ?_⟩) ?_ ?_
        rotate_left
        · intro w'
          go_simp
          with_reducible rfl
        rotate_left
        · simp only [Act.put, List.setIfInBounds_toArray, List.set_cons_zero, List.set_cons_succ, i64_w, i32_w]
          rfl
        refine one_ (i := 8) (N := some 52) #[true, true, true, true, true, true, true, true, true] rfl rfl (by kernel_rfl) (by decide) (fun K hK => ?_)
        obtain ⟨t3679, HA3680, H⟩ := bind_some H
        refine goes_ Tryd.func83 (by kernel_rfl) rfl #[.pointer (some ⟨g3529, 0, none⟩), .int .i64 t3640.2.2.1, .int .i64 (wrap64 (t3676.1 - 1))] (by rfl) rfl rfl (by (try simp only [List.map_toArray, List.map_cons, List.map_nil]); first | done | rfl) ?_
        refine (ground_Ground_SetReg.calls t3671.2.2 t3676.2 a3539 a3540 a3541 a3542 t3640.2.2.1 (wrap64 (t3676.1 - 1)) g3529 g3531 A3534 l3533.length n3536 t3679 _ ⟨HGl0.out.pass HS.out⟩ ⟨HS.out.begin⟩ HA3680).mono ?_
        rintro e_ w3681 ⟨rfl, hS⟩
        replace HS : Aside0 (Sep FF w [b21 g3529 g3531 a3539 a3540 a3541 a3542, b20 g3531 A3534 l3533.length n3536 t3679.2.1, r7 A3534 l3533.length n3536 t3679.2.2, b3 g3643 t3640.1 t3640.2.1 t3640.2.2.1] w3681) := ⟨HS.out.call hS⟩
        clear hS
        refine ⟨_, rfl, ?_⟩
        refine hK.out _ _ (blk_cellv (HS.out.at3) 2 rfl) (fun hHeld => ?_)
        clear hK K
        refine norm_ (a' := ?_) ?_ ?_
        rotate_left
        · show Act.put _ (some 52) _ = _
          simp only [Act.put, List.setIfInBounds_toArray, List.set_cons_zero, List.set_cons_succ, i64_w, i32_w]
          rfl
        refine done_ (by kernel_rfl) ?_
        replace HS : Aside0 (Sep FF w [b21 g3529 g3531 a3539 a3540 a3541 a3542, b20 g3531 A3534 l3533.length n3536 t3679.2.1, r7 A3534 l3533.length n3536 t3679.2.2] w3681) := ⟨HS.out.sub (.cons_cons _ (.cons_cons _ (.cons_cons _ (.cons _ .slnil))))⟩
        go_wp2_with fail
        go_ret2
        rw [← some_eq H]
        exact ⟨(by first | rfl | (simp [IntKind.wrap_u32]; done)), HS.out⟩
      · have H := if_no c3669 H
        have c3669b0 : ((wrap64 (t3659.1)) == 0) = false := beq_eq_false_iff_ne.mpr c3669
        have c3669b1 : ((wrap64 (t3659.1)) != 0) = true := bne_iff_ne.mpr c3669
        clear c3669
        go_wp2_with fail
        refine start_ (n := 9) (S := (fun w' => w'.cell? ⟨g3643, 2, none⟩ = some (.int .i64 t3640.2.2.1))) (ds := []) #[false, false, false, false, false, false, false, false, false] (by kernel_rfl) rfl rfl (blk_cellv ((HS.out.drew).at3) 2 rfl) (fun hHeld => ?_)
        have HS_ := Aside0.mk HS.out.drew
        clear HS
        generalize World.drew _ = w3683 at HS_ hHeld ⊢
        have HS := HS_
        clear HS_
        refine pure_ (i := 0) (N := some 44) (v := ?_) (a' := ?_) #[true, false, false, false, false, false, false, false, false] rfl rfl (by kernel_rfl) (fun _ _ _ h => h) (Or.inl ⟨by rfl, ?_⟩) ?_ ?_
        rotate_left
        · intro w'
          go_simp
          with_reducible rfl
        rotate_left
        · simp only [Act.put, List.setIfInBounds_toArray, List.set_cons_zero, List.set_cons_succ, i64_w, i32_w]
          rfl
        refine pure_ (i := 1) (N := some 45) (v := ?_) (a' := ?_) #[true, true, false, false, false, false, false, false, false] rfl rfl (by kernel_rfl) (fun _ _ _ h => h) (Or.inl ⟨by rfl, ?_⟩) ?_ ?_
        rotate_left
        · intro w'
          go_simp
          with_reducible rfl
        rotate_left
        · simp only [Act.put, List.setIfInBounds_toArray, List.set_cons_zero, List.set_cons_succ, i64_w, i32_w]
          rfl
        refine pure_ (i := 3) (N := some 47) (v := ?_) (a' := ?_) #[true, true, false, true, false, false, false, false, false] rfl rfl (by kernel_rfl) (fun _ _ _ h => h) (Or.inl ⟨by rfl, ?_⟩) ?_ ?_
        rotate_left
        · intro w'
          go_simp
          with_reducible rfl
        rotate_left
        · simp only [Act.put, List.setIfInBounds_toArray, List.set_cons_zero, List.set_cons_succ, i64_w, i32_w]
          rfl
        refine pure_ (i := 4) (N := some 48) (v := ?_) (a' := ?_) #[true, true, false, true, true, false, false, false, false] rfl rfl (by kernel_rfl) (fun _ _ _ h => h) (Or.inl ⟨by rfl, ?_⟩) ?_ ?_
        rotate_left
        · intro w'
          go_simp
          with_reducible rfl
        rotate_left
        · simp only [Act.put, List.setIfInBounds_toArray, List.set_cons_zero, List.set_cons_succ, i64_w, i32_w]
          rfl
        refine take_ (i := 2) (N := some 46) (v := ?_) (a' := ?_) #[true, true, true, true, true, false, false, false, false] rfl rfl (by kernel_rfl) (fun _ _ _ h => h) (Or.inl ⟨by rfl, ?_⟩) hHeld ?_ ?_
        rotate_left
        · rintro w' hS'
          have s0 := hS'
          go_simp
          with_reducible rfl
        rotate_left
        · simp only [Act.put, List.setIfInBounds_toArray, List.set_cons_zero, List.set_cons_succ, i64_w, i32_w]
          rfl
        refine take_ (i := 5) (N := some 49) (v := ?_) (a' := ?_) #[true, true, true, true, true, true, false, false, false] rfl rfl (by kernel_rfl) (fun _ _ _ h => h) (Or.inl ⟨by rfl, ?_⟩) hHeld ?_ ?_
        rotate_left
        · rintro w' hS'
          have s0 := hS'
          go_simp
          with_reducible rfl
        rotate_left
        · simp only [Act.put, List.setIfInBounds_toArray, List.set_cons_zero, List.set_cons_succ, i64_w, i32_w]
          rfl
        refine one_ (i := 6) (N := some 50) #[true, true, true, true, true, true, true, false, false] rfl rfl (by kernel_rfl) (by decide) (fun K hK => ?_)
        obtain ⟨t3676, HA3684, H⟩ := bind_some H
        refine goes_ Tryd.func81 (by kernel_rfl) rfl #[.pointer (some ⟨g3529, 0, none⟩), .int .i64 t3640.2.2.1] (by rfl) rfl rfl (by (try simp only [List.map_toArray, List.map_cons, List.map_nil]); first | done | rfl) ?_
        refine (ground_Ground_Reg.calls t3666.2.2 t3666.2.1 a3539 a3540 a3541 a3542 t3640.2.2.1 g3529 g3531 A3534 l3533.length n3536 t3676 _ ⟨HGl0.out.pass HS.out⟩ ⟨HS.out.begin⟩ HA3684).mono ?_
        rintro e_ w3685 ⟨rfl, hS⟩
        replace HS : Aside0 (Sep FF w [b21 g3529 g3531 a3539 a3540 a3541 a3542, b20 g3531 A3534 l3533.length n3536 t3676.2, r7 A3534 l3533.length n3536 t3666.2.2, b3 g3643 t3640.1 t3640.2.1 t3640.2.2.1] w3685) := ⟨HS.out.call hS⟩
        clear hS
        refine ⟨_, rfl, ?_⟩
        refine hK.out _ _ (blk_cellv (HS.out.at3) 2 rfl) (fun hHeld => ?_)
        clear hK K
        refine norm_ (a' := ?_) ?_ ?_
        rotate_left
        · show Act.put _ (some 50) _ = _
          simp only [Act.put, List.setIfInBounds_toArray, List.set_cons_zero, List.set_cons_succ, i64_w, i32_w]
          rfl
        refine pure_ (i := 7) (N := some 51) (v := ?_) (a' := ?_) #[true, true, true, true, true, true, true, true, false] rfl rfl (by kernel_rfl) (fun _ _ _ h => h) (Or.inl ⟨by rfl, ?_⟩) ?_ ?_
        rotate_left
        · intro w'
          go_simp
          with_reducible rfl
        rotate_left
        · simp only [Act.put, List.setIfInBounds_toArray, List.set_cons_zero, List.set_cons_succ, i64_w, i32_w]
          rfl
        refine one_ (i := 8) (N := some 52) #[true, true, true, true, true, true, true, true, true] rfl rfl (by kernel_rfl) (by decide) (fun K hK => ?_)
        obtain ⟨t3679, HA3686, H⟩ := bind_some H
        refine goes_ Tryd.func83 (by kernel_rfl) rfl #[.pointer (some ⟨g3529, 0, none⟩), .int .i64 t3640.2.2.1, .int .i64 (wrap64 (t3676.1 - 1))] (by rfl) rfl rfl (by (try simp only [List.map_toArray, List.map_cons, List.map_nil]); first | done | rfl) ?_
        refine (ground_Ground_SetReg.calls t3666.2.2 t3676.2 a3539 a3540 a3541 a3542 t3640.2.2.1 (wrap64 (t3676.1 - 1)) g3529 g3531 A3534 l3533.length n3536 t3679 _ ⟨HGl0.out.pass HS.out⟩ ⟨HS.out.begin⟩ HA3686).mono ?_
        rintro e_ w3687 ⟨rfl, hS⟩
        replace HS : Aside0 (Sep FF w [b21 g3529 g3531 a3539 a3540 a3541 a3542, b20 g3531 A3534 l3533.length n3536 t3679.2.1, r7 A3534 l3533.length n3536 t3679.2.2, b3 g3643 t3640.1 t3640.2.1 t3640.2.2.1] w3687) := ⟨HS.out.call hS⟩
        clear hS
        refine ⟨_, rfl, ?_⟩
        refine hK.out _ _ (blk_cellv (HS.out.at3) 2 rfl) (fun hHeld => ?_)
        clear hK K
        refine norm_ (a' := ?_) ?_ ?_
        rotate_left
        · show Act.put _ (some 52) _ = _
          simp only [Act.put, List.setIfInBounds_toArray, List.set_cons_zero, List.set_cons_succ, i64_w, i32_w]
          rfl
        refine done_ (by kernel_rfl) ?_
        replace HS : Aside0 (Sep FF w [b21 g3529 g3531 a3539 a3540 a3541 a3542, b20 g3531 A3534 l3533.length n3536 t3679.2.1, r7 A3534 l3533.length n3536 t3679.2.2] w3687) := ⟨HS.out.sub (.cons_cons _ (.cons_cons _ (.cons_cons _ (.cons _ .slnil))))⟩
        go_wp2_with fail
        go_ret2
        rw [← some_eq H]
        exact ⟨(by first | rfl | (simp [IntKind.wrap_u32]; done)), HS.out⟩
  · have H := if_no c3653 H
    have c3653b0 : t3640.2.2.2 = false := by simpa using c3653
    have c3653b1 : (!t3640.2.2.2) = true := by rw [c3653b0]; rfl
    try rw [c3653b1]
    clear c3653
    go_wp2_with (first | ((with_reducible refine gate_dst (N := 6) rfl ?_); refine box_on ?hg (N := 6) ?hd (cs := #[.int .i64 0, .int .i64 0, .int .i64 0]) (t := 166) ?hr ?_; (case hd => rfl); (case hg => rfl); (case hr => first | (go_simp; done) | (go_simp; rfl)); intro g3643 hg w3644 hbox hb; replace HS : Aside0 (Sep FF w [b21 g3529 g3531 a3539 a3540 a3541 a3542, b20 g3531 A3534 l3533.length n3536 a3538, r7 A3534 l3533.length n3536 l3533, b3 g3643 0 0 0] w3644) := ⟨HS.out.box hg hbox hb⟩; clear hg hbox hb; have hc3646 : w3644.cell? ⟨g3643, 0, none⟩ = some (.int .i64 0) := blk_cellv (HS.out.at3) 0 rfl; have hz3647 : w3644.frozen? ⟨g3643, 0, none⟩ = false := blk_fz (HS.out.at3) 0; have hc3648 : w3644.cell? ⟨g3643, 1, none⟩ = some (.int .i64 0) := blk_cellv (HS.out.at3) 1 rfl; have hz3649 : w3644.frozen? ⟨g3643, 1, none⟩ = false := blk_fz (HS.out.at3) 1; have hc3650 : w3644.cell? ⟨g3643, 2, none⟩ = some (.int .i64 0) := blk_cellv (HS.out.at3) 2 rfl; have hz3651 : w3644.frozen? ⟨g3643, 2, none⟩ = false := blk_fz (HS.out.at3) 2) | ((with_reducible refine gate_store (t := 166) (p := 6) rfl ?_); refine store_event (w1 := (World.setCell (World.setCell (World.setCell w3644 ⟨g3643, 0, none⟩ (.int .i64 t3640.1)) ⟨g3643, 1, none⟩ (.int .i64 t3640.2.1)) ⟨g3643, 2, none⟩ (.int .i64 t3640.2.2.1))) rfl (t := 166) (p := 6) rfl rfl ?hr ?_; (case hr => first | (go_simp; done) | (go_simp; rfl)); intro w3652 hst; clear hc3646 hz3647 hc3648 hz3649 hc3650 hz3651; replace HS : Aside0 (Sep FF w [b21 g3529 g3531 a3539 a3540 a3541 a3542, b20 g3531 A3534 l3533.length n3536 a3538, r7 A3534 l3533.length n3536 l3533, b3 g3643 t3640.1 t3640.2.1 t3640.2.2.1] w3652) := ⟨by rw [hst]; exact HS.out.setAll (l1 := [b21 g3529 g3531 a3539 a3540 a3541 a3542, b20 g3531 A3534 l3533.length n3536 a3538, r7 A3534 l3533.length n3536 l3533]) (l2 := []) [.int .i64 t3640.1, .int .i64 t3640.2.1, .int .i64 t3640.2.2.1] rfl⟩; clear hst; replace HS : Aside0 (Sep FF w [b21 g3529 g3531 a3539 a3540 a3541 a3542, b20 g3531 A3534 l3533.length n3536 a3538, r7 A3534 l3533.length n3536 l3533] w3652) := ⟨HS.out.sub (.cons_cons _ (.cons_cons _ (.cons_cons _ (.cons _ .slnil))))⟩))
    go_ret2
    rw [← some_eq H]
    exact ⟨(by first | rfl | (simp [IntKind.wrap_u32]; done)), HS.out⟩

set_option maxHeartbeats 30000000 in
set_option maxRecDepth 100000 in
theorem ground_Ground_Wipe.calls (k : Nat) (l3697 : List Int) (a3702 : Int) (a3703 : Int) (a3704 : Int) (a3705 : Int) (a3706 : Int) (a3707 : Int) (g3693 : Nat) (g3695 : Nat) (A3698 : Option Addr) (m3699 : Nat) (n3700 : Nat) (r : Int × Int × List Int) (w : World)  (HGl0 : Aside0 (Gl 0 #[.int .i64 0, .int .i64 0, .int .i64 0, .int .i64 0, .int .i64 0] (fps [b21 g3693 g3695 a3703 a3704 a3705 a3706, b20 g3695 A3698 m3699 n3700 a3702, r7 A3698 m3699 n3700 l3697]) w)) (HS : Aside0 (Sep (fps [b21 g3693 g3695 a3703 a3704 a3705 a3706, b20 g3695 A3698 m3699 n3700 a3702, r7 A3698 m3699 n3700 l3697]) w [b21 g3693 g3695 a3703 a3704 a3705 a3706, b20 g3695 A3698 m3699 n3700 a3702, r7 A3698 m3699 n3700 l3697] w)) (H : Aside0 (ground_Ground_Wipe.f k l3697 a3702 a3703 a3704 a3705 a3706 a3707 = some r)) :
    Calls Tryd.prog 136 #[.pointer (some ⟨g3693, 0, none⟩), .int .i64 a3707] w fun e w' => e = .returned (.int .i64 r.1) ∧ Sep (fps [b21 g3693 g3695 a3703 a3704 a3705 a3706, b20 g3695 A3698 m3699 n3700 a3702, r7 A3698 m3699 n3700 l3697]) w [b21 g3693 g3695 a3703 a3704 a3705 a3706, b20 g3695 A3698 m3699 n3700 r.2.1, r7 A3698 m3699 n3700 r.2.2] w' := by
  generalize (fps [b21 g3693 g3695 a3703 a3704 a3705 a3706, b20 g3695 A3698 m3699 n3700 a3702, r7 A3698 m3699 n3700 l3697]) = FF at HS HGl0 ⊢
  obtain rfl := (row_len (HS.out.at2)).symm
  unfold ground_Ground_Wipe.f at H
  go_enter Tryd.func136, Tryd.ntmps136
  go_wp2_with fail
  obtain ⟨t3736, HA3737, H⟩ := bind_some H
  refine (ground_Ground_Conf.calls l3697 a3702 a3703 a3704 a3705 a3706 g3693 g3695 A3698 l3697.length n3700 t3736 _ ⟨HGl0.out.pass HS.out⟩ ⟨HS.out.begin⟩ HA3737).mono ?_
  rintro e_ w3738 ⟨rfl, hS⟩
  replace HS : Aside0 (Sep FF w [b21 g3693 g3695 a3703 a3704 a3705 a3706, b20 g3695 A3698 l3697.length n3700 a3702, r7 A3698 l3697.length n3700 l3697] w3738) := ⟨HS.out.call hS⟩
  clear hS
  have fl3739 : ∀ w, (Instr.field 30 (.agg #[.int .i64 t3736.1, .int .i64 t3736.2.1, .int .i64 t3736.2.2.1, .int .i64 t3736.2.2.2]) 1).run Tryd.prog w = .ok (.int .i64 t3736.2.1) w := fun _ => by kernel_rfl
  go_wp2_with fail
  clear fl3739
  obtain ⟨o3752, AL3753, H⟩ := bind_some H
  go_loopg [5, 10] k (fun kq v5 v10 wc => ∃ (x3756 : Int) (x3757 : Int) (x3758 : List Int) (x3759 : Int), v5 = .int .i64 x3756 ∧ v10 = .int .i64 x3757 ∧ Aside0 (ground_Ground_Wipe.lo0 kq a3703 a3704 a3705 a3706 a3707 t3736 x3756 x3757 x3758 x3759 = some o3752) ∧ Aside0 (Sep FF w [b21 g3693 g3695 a3703 a3704 a3705 a3706, b20 g3695 A3698 l3697.length n3700 x3759, r7 A3698 l3697.length n3700 x3758] wc))
  case atStart => exact ⟨(0), (0), (l3697), (a3702), (by first | rfl | (simp [IntKind.wrap_u32]; done)), (by first | rfl | (simp [IntKind.wrap_u32]; done)), AL3753, ⟨HS.out⟩⟩
  case round =>
    clear AL3753 HS
    obtain ⟨x3756, x3757, x3758, x3759, rfl, rfl, AL3753, HS⟩ := hrel
    obtain ⟨w3754, rfl⟩ : ∃ x : World, x = wr := ⟨_, rfl⟩
    cases gk with
    | zero => exact absurd AL3753.out (by simp [ground_Ground_Wipe.lo0])
    | succ k3755 =>
      have AL0 := AL3753.out
      rw [ground_Ground_Wipe.lo0] at AL0
      clear AL3753
      have AL3753 := Aside0.mk AL0
      clear AL0
      by_cases c3760 : x3757 < t3736.2.1
      · have AL3753 := if_yes c3760 AL3753
        have c3760b0 : decide (x3757 < t3736.2.1) = true := decide_eq_true c3760
        clear c3760
        go_wp2_with fail
        obtain ⟨t3748, HA3761, AL3753⟩ := bind_some AL3753
        refine (ground_Ground_SetWord.calls x3758 x3759 a3703 a3704 a3705 a3706 a3707 x3757 0 g3693 g3695 A3698 l3697.length n3700 t3748 _ ⟨HGl0.out.pass HS.out⟩ ⟨HS.out.begin⟩ HA3761).mono ?_
        rintro e_ w3762 ⟨rfl, hS⟩
        replace HS : Aside0 (Sep FF w [b21 g3693 g3695 a3703 a3704 a3705 a3706, b20 g3695 A3698 l3697.length n3700 t3748.2.1, r7 A3698 l3697.length n3700 t3748.2.2] w3762) := ⟨HS.out.call hS⟩
        clear hS
        by_cases c3763 : t3748.1 = true
        · have AL3753 := if_yes c3763 AL3753
          have c3763b0 : t3748.1 = true := c3763
          have c3763b1 : (!t3748.1) = false := by rw [c3763b0]; rfl
          clear c3763
          go_wp2_with fail
          go_roundg k3755
          case measure => exact Nat.lt_succ_self _
          case rel => exact ⟨(wrap64 (x3756 + 1)), (wrap64 (x3757 + 1)), (t3748.2.2), (t3748.2.1), (by first | rfl | (simp [IntKind.wrap_u32]; done)), (by first | rfl | (simp [IntKind.wrap_u32]; done)), Aside0.mk AL3753.out, ⟨HS.out⟩⟩
        · have AL3753 := if_no c3763 AL3753
          have c3763b0 : t3748.1 = false := by simpa using c3763
          have c3763b1 : (!t3748.1) = true := by rw [c3763b0]; rfl
          clear c3763
          go_wp2_with fail
          go_roundg k3755
          case measure => exact Nat.lt_succ_self _
          case rel => exact ⟨(x3756), (wrap64 (x3757 + 1)), (t3748.2.2), (t3748.2.1), (by first | rfl | (simp [IntKind.wrap_u32]; done)), (by first | rfl | (simp [IntKind.wrap_u32]; done)), Aside0.mk AL3753.out, ⟨HS.out⟩⟩
      · have AL3753 := if_no c3760 AL3753
        have c3760b0 : decide (x3757 < t3736.2.1) = false := decide_eq_false c3760
        clear c3760
        have ho := some_eq AL3753
        subst ho
        clear AL3753
        go_wp2_with fail
        go_ret
        rw [← some_eq H]
        exact ⟨(by first | rfl | (simp [IntKind.wrap_u32]; done)), HS.out⟩

set_option maxHeartbeats 30000000 in
set_option maxRecDepth 100000 in
theorem pool_Take.calls (k : Nat) (l3518 : List Int) (a3523 : Int) (a3524 : Int) (a3525 : Int) (a3526 : Int) (a3527 : Int) (g3514 : Nat) (g3516 : Nat) (A3519 : Option Addr) (m3520 : Nat) (n3521 : Nat) (r : Int × Bool × Int × List Int) (w : World)  (HGl0 : Aside0 (Gl 0 #[.int .i64 0, .int .i64 0, .int .i64 0, .int .i64 0, .int .i64 0] (fps [b21 g3514 g3516 a3524 a3525 a3526 a3527, b20 g3516 A3519 m3520 n3521 a3523, r7 A3519 m3520 n3521 l3518]) w)) (HS : Aside0 (Sep (fps [b21 g3514 g3516 a3524 a3525 a3526 a3527, b20 g3516 A3519 m3520 n3521 a3523, r7 A3519 m3520 n3521 l3518]) w [b21 g3514 g3516 a3524 a3525 a3526 a3527, b20 g3516 A3519 m3520 n3521 a3523, r7 A3519 m3520 n3521 l3518] w)) (H : Aside0 (pool_Take.f k l3518 a3523 a3524 a3525 a3526 a3527 = some r)) :
    Calls Tryd.prog 98 #[.pointer (some ⟨g3514, 0, none⟩)] w fun e w' => e = .returned (.tuple #[.int .i64 r.1, .bool r.2.1]) ∧ Sep (fps [b21 g3514 g3516 a3524 a3525 a3526 a3527, b20 g3516 A3519 m3520 n3521 a3523, r7 A3519 m3520 n3521 l3518]) w [b21 g3514 g3516 a3524 a3525 a3526 a3527, b20 g3516 A3519 m3520 n3521 r.2.2.1, r7 A3519 m3520 n3521 r.2.2.2] w' := by
  generalize (fps [b21 g3514 g3516 a3524 a3525 a3526 a3527, b20 g3516 A3519 m3520 n3521 a3523, r7 A3519 m3520 n3521 l3518]) = FF at HS HGl0 ⊢
  obtain rfl := (row_len (HS.out.at2)).symm
  unfold pool_Take.f at H
  go_enter Tryd.func98, Tryd.ntmps98
  go_wp2_with fail
  obtain ⟨t3768, HA3769, H⟩ := bind_some H
  refine (chain_Take.calls l3518 a3523 a3524 a3525 a3526 a3527 0 g3514 g3516 A3519 l3518.length n3521 t3768 _ ⟨HGl0.out.pass HS.out⟩ ⟨HS.out.begin⟩ HA3769).mono ?_
  rintro e_ w3770 ⟨rfl, hS⟩
  replace HS : Aside0 (Sep FF w [b21 g3514 g3516 a3524 a3525 a3526 a3527, b20 g3516 A3519 l3518.length n3521 t3768.2.2.1, r7 A3519 l3518.length n3521 t3768.2.2.2] w3770) := ⟨HS.out.call hS⟩
  clear hS
  by_cases c3771 : t3768.2.1 = true
  · have H := if_yes c3771 H
    have c3771b0 : t3768.2.1 = true := c3771
    have c3771b1 : (!t3768.2.1) = false := by rw [c3771b0]; rfl
    try rw [c3771b1]
    clear c3771
    go_wp2_with fail
    obtain ⟨t3772, HA3773, H⟩ := bind_some H
    refine (ground_Ground_Wipe.calls _ t3768.2.2.2 t3768.2.2.1 a3524 a3525 a3526 a3527 t3768.1 g3514 g3516 A3519 l3518.length n3521 t3772 _ ⟨HGl0.out.pass HS.out⟩ ⟨HS.out.begin⟩ HA3773).mono ?_
    rintro e_ w3774 ⟨rfl, hS⟩
    replace HS : Aside0 (Sep FF w [b21 g3514 g3516 a3524 a3525 a3526 a3527, b20 g3516 A3519 l3518.length n3521 t3772.2.1, r7 A3519 l3518.length n3521 t3772.2.2] w3774) := ⟨HS.out.call hS⟩
    clear hS
    go_wp2_with fail
    go_ret2
    rw [← some_eq H]
    exact ⟨(by first | rfl | (simp [IntKind.wrap_u32]; done)), HS.out⟩
  · have H := if_no c3771 H
    have c3771b0 : t3768.2.1 = false := by simpa using c3771
    have c3771b1 : (!t3768.2.1) = true := by rw [c3771b0]; rfl
    try rw [c3771b1]
    clear c3771
    go_wp2_with fail
    go_ret2
    rw [← some_eq H]
    exact ⟨(by first | rfl | (simp [IntKind.wrap_u32]; done)), HS.out⟩

set_option maxHeartbeats 30000000 in
set_option maxRecDepth 100000 in
theorem obj_mark.calls (k : Nat) (l3784 : List Int) (a3789 : Int) (a3790 : Int) (a3791 : Int) (a3792 : Int) (a3793 : Int) (a3794 : Int) (a3795 : Int) (a3796 : Int) (a3797 : Int) (a3798 : Int) (a3799 : Int) (a3800 : Int) (a3801 : Int) (g3780 : Nat) (g3782 : Nat) (A3785 : Option Addr) (m3786 : Nat) (n3787 : Nat) (r : Int × List Int) (w : World)  (HGl0 : Aside0 (Gl 0 #[.int .i64 0, .int .i64 0, .int .i64 0, .int .i64 0, .int .i64 0] (fps [b21 g3780 g3782 a3790 a3791 a3792 a3793, b20 g3782 A3785 m3786 n3787 a3789, r7 A3785 m3786 n3787 l3784]) w)) (HS : Aside0 (Sep (fps [b21 g3780 g3782 a3790 a3791 a3792 a3793, b20 g3782 A3785 m3786 n3787 a3789, r7 A3785 m3786 n3787 l3784]) w [b21 g3780 g3782 a3790 a3791 a3792 a3793, b20 g3782 A3785 m3786 n3787 a3789, r7 A3785 m3786 n3787 l3784] w)) (H : Aside0 (obj_mark.f k l3784 a3789 a3790 a3791 a3792 a3793 a3794 a3795 a3796 a3797 a3798 a3799 a3800 a3801 = some r)) :
    Calls Tryd.prog 99 #[.pointer (some ⟨g3780, 0, none⟩), .int .i64 a3794, .agg #[.int .i64 a3795, .int .i64 a3796, .int .i64 a3797, .int .i64 a3798, .int .i64 a3799, .int .i64 a3800, .int .i64 a3801]] w fun e w' => e = .returned (.tuple #[]) ∧ Sep (fps [b21 g3780 g3782 a3790 a3791 a3792 a3793, b20 g3782 A3785 m3786 n3787 a3789, r7 A3785 m3786 n3787 l3784]) w [b21 g3780 g3782 a3790 a3791 a3792 a3793, b20 g3782 A3785 m3786 n3787 r.1, r7 A3785 m3786 n3787 r.2] w' := by
  generalize (fps [b21 g3780 g3782 a3790 a3791 a3792 a3793, b20 g3782 A3785 m3786 n3787 a3789, r7 A3785 m3786 n3787 l3784]) = FF at HS HGl0 ⊢
  obtain rfl := (row_len (HS.out.at2)).symm
  unfold obj_mark.f at H
  go_enter Tryd.func99, Tryd.ntmps99
  go_wp2_with (first | ((with_reducible refine gate_dst (N := 5) rfl ?_); refine box_on ?hg (N := 5) ?hd (cs := #[.int .i64 a3795, .int .i64 a3796, .int .i64 a3797, .int .i64 a3798, .int .i64 a3799, .int .i64 a3800, .int .i64 a3801]) (t := 32) ?hr ?_; (case hd => rfl); (case hg => rfl); (case hr => first | (go_simp; done) | (go_simp; rfl)); intro g3819 hg w3820 hbox hb; replace HS : Aside0 (Sep FF w [b21 g3780 g3782 a3790 a3791 a3792 a3793, b20 g3782 A3785 l3784.length n3787 a3789, r7 A3785 l3784.length n3787 l3784, b4 g3819 a3795 a3796 a3797 a3798 a3799 a3800 a3801] w3820) := ⟨HS.out.box hg hbox hb⟩; clear hg hbox hb; have hc3822 : w3820.cell? ⟨g3819, 0, none⟩ = some (.int .i64 a3795) := blk_cellv (HS.out.at3) 0 rfl; have hc3823 : w3820.cell? ⟨g3819, 1, none⟩ = some (.int .i64 a3796) := blk_cellv (HS.out.at3) 1 rfl; have hc3824 : w3820.cell? ⟨g3819, 2, none⟩ = some (.int .i64 a3797) := blk_cellv (HS.out.at3) 2 rfl; have hc3825 : w3820.cell? ⟨g3819, 3, none⟩ = some (.int .i64 a3798) := blk_cellv (HS.out.at3) 3 rfl; have hc3826 : w3820.cell? ⟨g3819, 4, none⟩ = some (.int .i64 a3799) := blk_cellv (HS.out.at3) 4 rfl; have hc3827 : w3820.cell? ⟨g3819, 5, none⟩ = some (.int .i64 a3800) := blk_cellv (HS.out.at3) 5 rfl; have hc3828 : w3820.cell? ⟨g3819, 6, none⟩ = some (.int .i64 a3801) := blk_cellv (HS.out.at3) 6 rfl))
  clear hc3822 hc3823 hc3824 hc3825 hc3826 hc3827 hc3828
  obtain ⟨t3829, HA3830, H⟩ := bind_some H
  refine (tag_Pack.calls _ a3795 a3796 a3797 a3798 a3799 a3800 a3801 t3829 _ ⟨HGl0.out.pass (l := []) HS.out⟩ ⟨Sep.start _⟩ HA3830).mono ?_
  rintro e_ w3831 ⟨rfl, hS⟩
  replace HS : Aside0 (Sep FF w [b21 g3780 g3782 a3790 a3791 a3792 a3793, b20 g3782 A3785 l3784.length n3787 a3789, r7 A3785 l3784.length n3787 l3784, b4 g3819 a3795 a3796 a3797 a3798 a3799 a3800 a3801] w3831) := ⟨HS.out.call hS⟩
  clear hS
  by_cases c3832 : t3829.2 = 0
  · have H := if_yes c3832 H
    have c3832b0 : (t3829.2 == 0) = true := beq_iff_eq.mpr c3832
    have c3832b1 : (t3829.2 != 0) = false := bne_eq_false_iff_eq.mpr c3832
    clear c3832
    replace HS : Aside0 (Sep FF w [b21 g3780 g3782 a3790 a3791 a3792 a3793, b20 g3782 A3785 l3784.length n3787 a3789, r7 A3785 l3784.length n3787 l3784] w3831) := ⟨HS.out.sub (.cons_cons _ (.cons_cons _ (.cons_cons _ (.cons _ .slnil))))⟩
    go_wp2_with fail
    obtain ⟨t3833, HA3834, H⟩ := bind_some H
    refine (ground_Ground_SetWord.calls l3784 a3789 a3790 a3791 a3792 a3793 a3794 0 t3829.1 g3780 g3782 A3785 l3784.length n3787 t3833 _ ⟨HGl0.out.pass HS.out⟩ ⟨HS.out.begin⟩ HA3834).mono ?_
    rintro e_ w3835 ⟨rfl, hS⟩
    replace HS : Aside0 (Sep FF w [b21 g3780 g3782 a3790 a3791 a3792 a3793, b20 g3782 A3785 l3784.length n3787 t3833.2.1, r7 A3785 l3784.length n3787 t3833.2.2] w3835) := ⟨HS.out.call hS⟩
    clear hS
    go_wp2_with fail
    first | go_end0 | refine bodyPost_ret (results_none rfl _ _ _) rfl ?_
    rw [← some_eq H]
    exact ⟨rfl, HS.out⟩
  · have H := if_no c3832 H
    have c3832b0 : (t3829.2 == 0) = false := beq_eq_false_iff_ne.mpr c3832
    have c3832b1 : (t3829.2 != 0) = true := bne_iff_ne.mpr c3832
    clear c3832
    replace HS : Aside0 (Sep FF w [b21 g3780 g3782 a3790 a3791 a3792 a3793, b20 g3782 A3785 l3784.length n3787 a3789, r7 A3785 l3784.length n3787 l3784] w3831) := ⟨HS.out.sub (.cons_cons _ (.cons_cons _ (.cons_cons _ (.cons _ .slnil))))⟩
    go_wp2_with fail
    first | go_end0 | refine bodyPost_ret (results_none rfl _ _ _) rfl ?_
    rw [← some_eq H]
    exact ⟨rfl, HS.out⟩

set_option maxHeartbeats 30000000 in
set_option maxRecDepth 100000 in
theorem obj_Make.calls (k : Nat) (l3456 : List Int) (a3461 : Int) (a3462 : Int) (a3463 : Int) (a3464 : Int) (a3465 : Int) (a3466 : Int) (a3467 : Int) (g3452 : Nat) (g3454 : Nat) (A3457 : Option Addr) (m3458 : Nat) (n3459 : Nat) (r : Int × Int × Int × List Int) (w : World)  (HGl0 : Aside0 (Gl 0 #[.int .i64 0, .int .i64 0, .int .i64 0, .int .i64 0, .int .i64 0] (fps [b21 g3452 g3454 a3462 a3463 a3464 a3465, b20 g3454 A3457 m3458 n3459 a3461, r7 A3457 m3458 n3459 l3456]) w)) (HS : Aside0 (Sep (fps [b21 g3452 g3454 a3462 a3463 a3464 a3465, b20 g3454 A3457 m3458 n3459 a3461, r7 A3457 m3458 n3459 l3456]) w [b21 g3452 g3454 a3462 a3463 a3464 a3465, b20 g3454 A3457 m3458 n3459 a3461, r7 A3457 m3458 n3459 l3456] w)) (H : Aside0 (obj_Make.f k l3456 a3461 a3462 a3463 a3464 a3465 a3466 a3467 = some r)) :
    Calls Tryd.prog 34 #[.pointer (some ⟨g3452, 0, none⟩), .int .i64 a3466, .int .i64 a3467] w fun e w' => e = .returned (.tuple #[.int .i64 r.1, .int .i64 r.2.1]) ∧ Sep (fps [b21 g3452 g3454 a3462 a3463 a3464 a3465, b20 g3454 A3457 m3458 n3459 a3461, r7 A3457 m3458 n3459 l3456]) w [b21 g3452 g3454 a3462 a3463 a3464 a3465, b20 g3454 A3457 m3458 n3459 r.2.2.1, r7 A3457 m3458 n3459 r.2.2.2] w' := by
  generalize (fps [b21 g3452 g3454 a3462 a3463 a3464 a3465, b20 g3454 A3457 m3458 n3459 a3461, r7 A3457 m3458 n3459 l3456]) = FF at HS HGl0 ⊢
  obtain rfl := (row_len (HS.out.at2)).symm
  unfold obj_Make.f at H
  go_enter Tryd.func34, Tryd.ntmps34
  go_wp2_with fail
  obtain ⟨t3875, HA3876, H⟩ := bind_some H
  refine (ground_Ground_Conf.calls l3456 a3461 a3462 a3463 a3464 a3465 g3452 g3454 A3457 l3456.length n3459 t3875 _ ⟨HGl0.out.pass HS.out⟩ ⟨HS.out.begin⟩ HA3876).mono ?_
  rintro e_ w3877 ⟨rfl, hS⟩
  replace HS : Aside0 (Sep FF w [b21 g3452 g3454 a3462 a3463 a3464 a3465, b20 g3454 A3457 l3456.length n3459 a3461, r7 A3457 l3456.length n3459 l3456] w3877) := ⟨HS.out.call hS⟩
  clear hS
  have fl3878 : ∀ w, (Instr.field 30 (.agg #[.int .i64 t3875.1, .int .i64 t3875.2.1, .int .i64 t3875.2.2.1, .int .i64 t3875.2.2.2]) 1).run Tryd.prog w = .ok (.int .i64 t3875.2.1) w := fun _ => by kernel_rfl
  go_wp2_with fail
  clear fl3878
  obtain ⟨t3879, HA3880, H⟩ := bind_some H
  refine (shape_Blocks.calls _ t3875.2.1 a3466 a3467 t3879 _ ⟨HGl0.out.pass (l := []) HS.out⟩ ⟨Sep.start _⟩ HA3880).mono ?_
  rintro e_ w3881 ⟨rfl, hS⟩
  replace HS : Aside0 (Sep FF w [b21 g3452 g3454 a3462 a3463 a3464 a3465, b20 g3454 A3457 l3456.length n3459 a3461, r7 A3457 l3456.length n3459 l3456] w3881) := ⟨HS.out.call hS⟩
  clear hS
  by_cases c3882 : t3879.2 = 0
  · have H := if_yes c3882 H
    have c3882b0 : (t3879.2 == 0) = true := beq_iff_eq.mpr c3882
    have c3882b1 : (t3879.2 != 0) = false := bne_eq_false_iff_eq.mpr c3882
    clear c3882
    go_wp2_with fail
    obtain ⟨t3883, HA3884, H⟩ := bind_some H
    refine (pool_Len.calls l3456 a3461 a3462 a3463 a3464 a3465 g3452 g3454 A3457 l3456.length n3459 t3883 _ ⟨HGl0.out.pass HS.out⟩ ⟨HS.out.begin⟩ HA3884).mono ?_
    rintro e_ w3885 ⟨rfl, hS⟩
    replace HS : Aside0 (Sep FF w [b21 g3452 g3454 a3462 a3463 a3464 a3465, b20 g3454 A3457 l3456.length n3459 t3883.2, r7 A3457 l3456.length n3459 l3456] w3885) := ⟨HS.out.call hS⟩
    clear hS
    by_cases c3886 : t3883.1 < t3879.1
    · have H := if_yes c3886 H
      have c3886b0 : decide (t3883.1 < t3879.1) = true := decide_eq_true c3886
      clear c3886
      go_wp2_with fail
      go_ret2
      rw [← some_eq H]
      exact ⟨(by first | rfl | (simp [IntKind.wrap_u32]; done)), HS.out⟩
    · have H := if_no c3886 H
      have c3886b0 : decide (t3883.1 < t3879.1) = false := decide_eq_false c3886
      clear c3886
      go_wp2_with fail
      obtain ⟨t3887, HA3888, H⟩ := bind_some H
      refine (pool_Take.calls _ l3456 t3883.2 a3462 a3463 a3464 a3465 g3452 g3454 A3457 l3456.length n3459 t3887 _ ⟨HGl0.out.pass HS.out⟩ ⟨HS.out.begin⟩ HA3888).mono ?_
      rintro e_ w3889 ⟨rfl, hS⟩
      replace HS : Aside0 (Sep FF w [b21 g3452 g3454 a3462 a3463 a3464 a3465, b20 g3454 A3457 l3456.length n3459 t3887.2.2.1, r7 A3457 l3456.length n3459 t3887.2.2.2] w3889) := ⟨HS.out.call hS⟩
      clear hS
      by_cases c3890 : t3879.1 > 1
      · have H := if_yes c3890 H
        have c3890b0 : decide (1 < t3879.1) = true := decide_eq_true c3890
        clear c3890
        go_wp2_with fail
        obtain ⟨t3891, HA3892, H⟩ := bind_some H
        refine (obj_mark.calls _ t3887.2.2.2 t3887.2.2.1 a3462 a3463 a3464 a3465 t3887.1 2 0 0 0 0 0 0 g3452 g3454 A3457 l3456.length n3459 t3891 _ ⟨HGl0.out.pass HS.out⟩ ⟨HS.out.begin⟩ HA3892).mono ?_
        rintro e_ w3893 ⟨rfl, hS⟩
        replace HS : Aside0 (Sep FF w [b21 g3452 g3454 a3462 a3463 a3464 a3465, b20 g3454 A3457 l3456.length n3459 t3891.1, r7 A3457 l3456.length n3459 t3891.2] w3893) := ⟨HS.out.call hS⟩
        clear hS
        go_wp2_with fail
        obtain ⟨t3894, HA3895, H⟩ := bind_some H
        refine (ground_Ground_SetWord.calls t3891.2 t3891.1 a3462 a3463 a3464 a3465 t3887.1 1 ((a3466) % 4294967296) g3452 g3454 A3457 l3456.length n3459 t3894 _ ⟨HGl0.out.pass HS.out⟩ ⟨HS.out.begin⟩ HA3895).mono ?_
        rintro e_ w3896 ⟨rfl, hS⟩
        replace HS : Aside0 (Sep FF w [b21 g3452 g3454 a3462 a3463 a3464 a3465, b20 g3454 A3457 l3456.length n3459 t3894.2.1, r7 A3457 l3456.length n3459 t3894.2.2] w3896) := ⟨HS.out.call hS⟩
        clear hS
        go_wp2_with fail
        obtain ⟨t3897, HA3898, H⟩ := bind_some H
        refine (ground_Ground_SetWord.calls t3894.2.2 t3894.2.1 a3462 a3463 a3464 a3465 t3887.1 2 ((a3467) % 4294967296) g3452 g3454 A3457 l3456.length n3459 t3897 _ ⟨HGl0.out.pass HS.out⟩ ⟨HS.out.begin⟩ HA3898).mono ?_
        rintro e_ w3899 ⟨rfl, hS⟩
        replace HS : Aside0 (Sep FF w [b21 g3452 g3454 a3462 a3463 a3464 a3465, b20 g3454 A3457 l3456.length n3459 t3897.2.1, r7 A3457 l3456.length n3459 t3897.2.2] w3899) := ⟨HS.out.call hS⟩
        clear hS
        go_wp2_with fail
        obtain ⟨o3916, AL3917, H⟩ := bind_some H
        go_loopg [56] k (fun kq v56 wc => ∃ (x3920 : Int) (x3921 : List Int) (x3922 : Int), v56 = .int .i64 x3920 ∧ Aside0 (obj_Make.lo0 kq a3462 a3463 a3464 a3465 t3879 t3887 x3920 x3921 x3922 = some o3916) ∧ Aside0 (Sep FF w [b21 g3452 g3454 a3462 a3463 a3464 a3465, b20 g3454 A3457 l3456.length n3459 x3922, r7 A3457 l3456.length n3459 x3921] wc))
        case atStart => exact ⟨(0), (t3897.2.2), (t3897.2.1), (by first | rfl | (simp [IntKind.wrap_u32]; done)), AL3917, ⟨HS.out⟩⟩
        case round =>
          clear AL3917 HS
          obtain ⟨x3920, x3921, x3922, rfl, AL3917, HS⟩ := hrel
          obtain ⟨w3918, rfl⟩ : ∃ x : World, x = wr := ⟨_, rfl⟩
          cases gk with
          | zero => exact absurd AL3917.out (by simp [obj_Make.lo0])
          | succ k3919 =>
            have AL0 := AL3917.out
            rw [obj_Make.lo0] at AL0
            clear AL3917
            have AL3917 := Aside0.mk AL0
            clear AL0
            by_cases c3923 : x3920 < (wrap64 (t3879.1 - 1))
            · have AL3917 := if_yes c3923 AL3917
              have c3923b0 : decide (x3920 < (wrap64 (t3879.1 - 1))) = true := decide_eq_true c3923
              clear c3923
              go_wp2_with fail
              obtain ⟨t3907, HA3924, AL3917⟩ := bind_some AL3917
              refine (pool_Take.calls _ x3921 x3922 a3462 a3463 a3464 a3465 g3452 g3454 A3457 l3456.length n3459 t3907 _ ⟨HGl0.out.pass HS.out⟩ ⟨HS.out.begin⟩ HA3924).mono ?_
              rintro e_ w3925 ⟨rfl, hS⟩
              replace HS : Aside0 (Sep FF w [b21 g3452 g3454 a3462 a3463 a3464 a3465, b20 g3454 A3457 l3456.length n3459 t3907.2.2.1, r7 A3457 l3456.length n3459 t3907.2.2.2] w3925) := ⟨HS.out.call hS⟩
              clear hS
              go_wp2_with fail
              obtain ⟨t3910, HA3926, AL3917⟩ := bind_some AL3917
              refine (obj_mark.calls _ t3907.2.2.2 t3907.2.2.1 a3462 a3463 a3464 a3465 t3907.1 3 0 0 0 0 0 t3887.1 g3452 g3454 A3457 l3456.length n3459 t3910 _ ⟨HGl0.out.pass HS.out⟩ ⟨HS.out.begin⟩ HA3926).mono ?_
              rintro e_ w3927 ⟨rfl, hS⟩
              replace HS : Aside0 (Sep FF w [b21 g3452 g3454 a3462 a3463 a3464 a3465, b20 g3454 A3457 l3456.length n3459 t3910.1, r7 A3457 l3456.length n3459 t3910.2] w3927) := ⟨HS.out.call hS⟩
              clear hS
              go_wp2_with fail
              obtain ⟨t3913, HA3928, AL3917⟩ := bind_some AL3917
              refine (ground_Ground_SetWord.calls t3910.2 t3910.1 a3462 a3463 a3464 a3465 t3887.1 (wrap64 (8 + x3920)) ((wrap64 (t3907.1 + 1)) % 4294967296) g3452 g3454 A3457 l3456.length n3459 t3913 _ ⟨HGl0.out.pass HS.out⟩ ⟨HS.out.begin⟩ HA3928).mono ?_
              rintro e_ w3929 ⟨rfl, hS⟩
              replace HS : Aside0 (Sep FF w [b21 g3452 g3454 a3462 a3463 a3464 a3465, b20 g3454 A3457 l3456.length n3459 t3913.2.1, r7 A3457 l3456.length n3459 t3913.2.2] w3929) := ⟨HS.out.call hS⟩
              clear hS
              go_wp2_with fail
              go_roundg k3919
              case measure => exact Nat.lt_succ_self _
              case rel => exact ⟨(wrap64 (x3920 + 1)), (t3913.2.2), (t3913.2.1), (by first | rfl | (simp [IntKind.wrap_u32]; done)), Aside0.mk AL3917.out, ⟨HS.out⟩⟩
            · have AL3917 := if_no c3923 AL3917
              have c3923b0 : decide (x3920 < (wrap64 (t3879.1 - 1))) = false := decide_eq_false c3923
              clear c3923
              have ho := some_eq AL3917
              subst ho
              clear AL3917
              go_wp2_with fail
              go_ret2
              rw [← some_eq H]
              exact ⟨(by first | rfl | (simp [IntKind.wrap_u32]; done)), HS.out⟩
      · have H := if_no c3890 H
        have c3890b0 : decide (1 < t3879.1) = false := decide_eq_false c3890
        clear c3890
        go_wp2_with fail
        obtain ⟨t3891, HA3931, H⟩ := bind_some H
        refine (obj_mark.calls _ t3887.2.2.2 t3887.2.2.1 a3462 a3463 a3464 a3465 t3887.1 1 0 0 0 0 0 0 g3452 g3454 A3457 l3456.length n3459 t3891 _ ⟨HGl0.out.pass HS.out⟩ ⟨HS.out.begin⟩ HA3931).mono ?_
        rintro e_ w3932 ⟨rfl, hS⟩
        replace HS : Aside0 (Sep FF w [b21 g3452 g3454 a3462 a3463 a3464 a3465, b20 g3454 A3457 l3456.length n3459 t3891.1, r7 A3457 l3456.length n3459 t3891.2] w3932) := ⟨HS.out.call hS⟩
        clear hS
        go_wp2_with fail
        obtain ⟨t3894, HA3933, H⟩ := bind_some H
        refine (ground_Ground_SetWord.calls t3891.2 t3891.1 a3462 a3463 a3464 a3465 t3887.1 1 ((a3466) % 4294967296) g3452 g3454 A3457 l3456.length n3459 t3894 _ ⟨HGl0.out.pass HS.out⟩ ⟨HS.out.begin⟩ HA3933).mono ?_
        rintro e_ w3934 ⟨rfl, hS⟩
        replace HS : Aside0 (Sep FF w [b21 g3452 g3454 a3462 a3463 a3464 a3465, b20 g3454 A3457 l3456.length n3459 t3894.2.1, r7 A3457 l3456.length n3459 t3894.2.2] w3934) := ⟨HS.out.call hS⟩
        clear hS
        go_wp2_with fail
        obtain ⟨t3897, HA3935, H⟩ := bind_some H
        refine (ground_Ground_SetWord.calls t3894.2.2 t3894.2.1 a3462 a3463 a3464 a3465 t3887.1 2 ((a3467) % 4294967296) g3452 g3454 A3457 l3456.length n3459 t3897 _ ⟨HGl0.out.pass HS.out⟩ ⟨HS.out.begin⟩ HA3935).mono ?_
        rintro e_ w3936 ⟨rfl, hS⟩
        replace HS : Aside0 (Sep FF w [b21 g3452 g3454 a3462 a3463 a3464 a3465, b20 g3454 A3457 l3456.length n3459 t3897.2.1, r7 A3457 l3456.length n3459 t3897.2.2] w3936) := ⟨HS.out.call hS⟩
        clear hS
        go_wp2_with fail
        obtain ⟨o3950, AL3951, H⟩ := bind_some H
        go_loopg [56] k (fun kq v56 wc => ∃ (x3954 : Int) (x3955 : List Int) (x3956 : Int), v56 = .int .i64 x3954 ∧ Aside0 (obj_Make.lo1 kq a3462 a3463 a3464 a3465 t3879 t3887 x3954 x3955 x3956 = some o3950) ∧ Aside0 (Sep FF w [b21 g3452 g3454 a3462 a3463 a3464 a3465, b20 g3454 A3457 l3456.length n3459 x3956, r7 A3457 l3456.length n3459 x3955] wc))
        case atStart => exact ⟨(0), (t3897.2.2), (t3897.2.1), (by first | rfl | (simp [IntKind.wrap_u32]; done)), AL3951, ⟨HS.out⟩⟩
        case round =>
          clear AL3951 HS
          obtain ⟨x3954, x3955, x3956, rfl, AL3951, HS⟩ := hrel
          obtain ⟨w3952, rfl⟩ : ∃ x : World, x = wr := ⟨_, rfl⟩
          cases gk with
          | zero => exact absurd AL3951.out (by simp [obj_Make.lo1])
          | succ k3953 =>
            have AL0 := AL3951.out
            rw [obj_Make.lo1] at AL0
            clear AL3951
            have AL3951 := Aside0.mk AL0
            clear AL0
            by_cases c3957 : x3954 < (wrap64 (t3879.1 - 1))
            · have AL3951 := if_yes c3957 AL3951
              have c3957b0 : decide (x3954 < (wrap64 (t3879.1 - 1))) = true := decide_eq_true c3957
              clear c3957
              go_wp2_with fail
              obtain ⟨t3907, HA3958, AL3951⟩ := bind_some AL3951
              refine (pool_Take.calls _ x3955 x3956 a3462 a3463 a3464 a3465 g3452 g3454 A3457 l3456.length n3459 t3907 _ ⟨HGl0.out.pass HS.out⟩ ⟨HS.out.begin⟩ HA3958).mono ?_
              rintro e_ w3959 ⟨rfl, hS⟩
              replace HS : Aside0 (Sep FF w [b21 g3452 g3454 a3462 a3463 a3464 a3465, b20 g3454 A3457 l3456.length n3459 t3907.2.2.1, r7 A3457 l3456.length n3459 t3907.2.2.2] w3959) := ⟨HS.out.call hS⟩
              clear hS
              go_wp2_with fail
              obtain ⟨t3910, HA3960, AL3951⟩ := bind_some AL3951
              refine (obj_mark.calls _ t3907.2.2.2 t3907.2.2.1 a3462 a3463 a3464 a3465 t3907.1 3 0 0 0 0 0 t3887.1 g3452 g3454 A3457 l3456.length n3459 t3910 _ ⟨HGl0.out.pass HS.out⟩ ⟨HS.out.begin⟩ HA3960).mono ?_
              rintro e_ w3961 ⟨rfl, hS⟩
              replace HS : Aside0 (Sep FF w [b21 g3452 g3454 a3462 a3463 a3464 a3465, b20 g3454 A3457 l3456.length n3459 t3910.1, r7 A3457 l3456.length n3459 t3910.2] w3961) := ⟨HS.out.call hS⟩
              clear hS
              go_wp2_with fail
              obtain ⟨t3913, HA3962, AL3951⟩ := bind_some AL3951
              refine (ground_Ground_SetWord.calls t3910.2 t3910.1 a3462 a3463 a3464 a3465 t3887.1 (wrap64 (8 + x3954)) ((wrap64 (t3907.1 + 1)) % 4294967296) g3452 g3454 A3457 l3456.length n3459 t3913 _ ⟨HGl0.out.pass HS.out⟩ ⟨HS.out.begin⟩ HA3962).mono ?_
              rintro e_ w3963 ⟨rfl, hS⟩
              replace HS : Aside0 (Sep FF w [b21 g3452 g3454 a3462 a3463 a3464 a3465, b20 g3454 A3457 l3456.length n3459 t3913.2.1, r7 A3457 l3456.length n3459 t3913.2.2] w3963) := ⟨HS.out.call hS⟩
              clear hS
              go_wp2_with fail
              go_roundg k3953
              case measure => exact Nat.lt_succ_self _
              case rel => exact ⟨(wrap64 (x3954 + 1)), (t3913.2.2), (t3913.2.1), (by first | rfl | (simp [IntKind.wrap_u32]; done)), Aside0.mk AL3951.out, ⟨HS.out⟩⟩
            · have AL3951 := if_no c3957 AL3951
              have c3957b0 : decide (x3954 < (wrap64 (t3879.1 - 1))) = false := decide_eq_false c3957
              clear c3957
              have ho := some_eq AL3951
              subst ho
              clear AL3951
              go_wp2_with fail
              go_ret2
              rw [← some_eq H]
              exact ⟨(by first | rfl | (simp [IntKind.wrap_u32]; done)), HS.out⟩
  · have H := if_no c3882 H
    have c3882b0 : (t3879.2 == 0) = false := beq_eq_false_iff_ne.mpr c3882
    have c3882b1 : (t3879.2 != 0) = true := bne_iff_ne.mpr c3882
    clear c3882
    go_wp2_with fail
    go_ret2
    rw [← some_eq H]
    exact ⟨(by first | rfl | (simp [IntKind.wrap_u32]; done)), HS.out⟩

set_option maxHeartbeats 30000000 in
set_option maxRecDepth 100000 in
theorem obj_in.calls (l4030 : List Int) (a4035 : Int) (a4036 : Int) (a4037 : Int) (a4038 : Int) (a4039 : Int) (a4040 : Int) (g4026 : Nat) (g4028 : Nat) (A4031 : Option Addr) (m4032 : Nat) (n4033 : Nat) (r : Bool) (w : World)  (HGl0 : Aside0 (Gl 0 #[.int .i64 0, .int .i64 0, .int .i64 0, .int .i64 0, .int .i64 0] (fps [b21 g4026 g4028 a4036 a4037 a4038 a4039, b20 g4028 A4031 m4032 n4033 a4035, r7 A4031 m4032 n4033 l4030]) w)) (HS : Aside0 (Sep (fps [b21 g4026 g4028 a4036 a4037 a4038 a4039, b20 g4028 A4031 m4032 n4033 a4035, r7 A4031 m4032 n4033 l4030]) w [b21 g4026 g4028 a4036 a4037 a4038 a4039, b20 g4028 A4031 m4032 n4033 a4035, r7 A4031 m4032 n4033 l4030] w)) (H : Aside0 (obj_in.f l4030 a4035 a4036 a4037 a4038 a4039 a4040 = some r)) :
    Calls Tryd.prog 100 #[.pointer (some ⟨g4026, 0, none⟩), .int .i64 a4040] w fun e w' => e = .returned (.bool r) ∧ Sep (fps [b21 g4026 g4028 a4036 a4037 a4038 a4039, b20 g4028 A4031 m4032 n4033 a4035, r7 A4031 m4032 n4033 l4030]) w [b21 g4026 g4028 a4036 a4037 a4038 a4039, b20 g4028 A4031 m4032 n4033 a4035, r7 A4031 m4032 n4033 l4030] w' := by
  generalize (fps [b21 g4026 g4028 a4036 a4037 a4038 a4039, b20 g4028 A4031 m4032 n4033 a4035, r7 A4031 m4032 n4033 l4030]) = FF at HS HGl0 ⊢
  obtain rfl := (row_len (HS.out.at2)).symm
  unfold obj_in.f at H
  go_enter Tryd.func100, Tryd.ntmps100
  by_cases c4041 : a4040 > 0
  · have H := if_yes c4041 H
    have c4041b0 : decide (0 < a4040) = true := decide_eq_true c4041
    clear c4041
    go_wp2_with fail
    obtain ⟨t4042, HA4043, H⟩ := bind_some H
    refine (ground_Ground_Conf.calls l4030 a4035 a4036 a4037 a4038 a4039 g4026 g4028 A4031 l4030.length n4033 t4042 _ ⟨HGl0.out.pass HS.out⟩ ⟨HS.out.begin⟩ HA4043).mono ?_
    rintro e_ w4044 ⟨rfl, hS⟩
    replace HS : Aside0 (Sep FF w [b21 g4026 g4028 a4036 a4037 a4038 a4039, b20 g4028 A4031 l4030.length n4033 a4035, r7 A4031 l4030.length n4033 l4030] w4044) := ⟨HS.out.call hS⟩
    clear hS
    have fl4045 : ∀ w, (Instr.field 30 (.agg #[.int .i64 t4042.1, .int .i64 t4042.2.1, .int .i64 t4042.2.2.1, .int .i64 t4042.2.2.2]) 0).run Tryd.prog w = .ok (.int .i64 t4042.1) w := fun _ => by kernel_rfl
    go_wp2_with fail
    clear fl4045
    go_ret
    rw [← some_eq H]
    exact ⟨(by first | rfl | (simp [IntKind.wrap_u32]; done)), HS.out⟩
  · have H := if_no c4041 H
    have c4041b0 : decide (0 < a4040) = false := decide_eq_false c4041
    clear c4041
    go_wp2_with fail
    go_ret
    rw [← some_eq H]
    exact ⟨(by first | rfl | (simp [IntKind.wrap_u32]; done)), HS.out⟩

set_option maxHeartbeats 30000000 in
set_option maxRecDepth 100000 in
theorem obj_Is.calls (l4014 : List Int) (a4019 : Int) (a4020 : Int) (a4021 : Int) (a4022 : Int) (a4023 : Int) (a4024 : Int) (g4010 : Nat) (g4012 : Nat) (A4015 : Option Addr) (m4016 : Nat) (n4017 : Nat) (r : Bool × Int) (w : World)  (HGl0 : Aside0 (Gl 0 #[.int .i64 0, .int .i64 0, .int .i64 0, .int .i64 0, .int .i64 0] (fps [b21 g4010 g4012 a4020 a4021 a4022 a4023, b20 g4012 A4015 m4016 n4017 a4019, r7 A4015 m4016 n4017 l4014]) w)) (HS : Aside0 (Sep (fps [b21 g4010 g4012 a4020 a4021 a4022 a4023, b20 g4012 A4015 m4016 n4017 a4019, r7 A4015 m4016 n4017 l4014]) w [b21 g4010 g4012 a4020 a4021 a4022 a4023, b20 g4012 A4015 m4016 n4017 a4019, r7 A4015 m4016 n4017 l4014] w)) (H : Aside0 (obj_Is.f l4014 a4019 a4020 a4021 a4022 a4023 a4024 = some r)) :
    Calls Tryd.prog 48 #[.pointer (some ⟨g4010, 0, none⟩), .int .i64 a4024] w fun e w' => e = .returned (.bool r.1) ∧ Sep (fps [b21 g4010 g4012 a4020 a4021 a4022 a4023, b20 g4012 A4015 m4016 n4017 a4019, r7 A4015 m4016 n4017 l4014]) w [b21 g4010 g4012 a4020 a4021 a4022 a4023, b20 g4012 A4015 m4016 n4017 r.2, r7 A4015 m4016 n4017 l4014] w' := by
  generalize (fps [b21 g4010 g4012 a4020 a4021 a4022 a4023, b20 g4012 A4015 m4016 n4017 a4019, r7 A4015 m4016 n4017 l4014]) = FF at HS HGl0 ⊢
  obtain rfl := (row_len (HS.out.at2)).symm
  unfold obj_Is.f at H
  go_enter Tryd.func48, Tryd.ntmps48
  go_wp2_with fail
  obtain ⟨t4060, HA4061, H⟩ := bind_some H
  refine (obj_in.calls l4014 a4019 a4020 a4021 a4022 a4023 a4024 g4010 g4012 A4015 l4014.length n4017 t4060 _ ⟨HGl0.out.pass HS.out⟩ ⟨HS.out.begin⟩ HA4061).mono ?_
  rintro e_ w4062 ⟨rfl, hS⟩
  replace HS : Aside0 (Sep FF w [b21 g4010 g4012 a4020 a4021 a4022 a4023, b20 g4012 A4015 l4014.length n4017 a4019, r7 A4015 l4014.length n4017 l4014] w4062) := ⟨HS.out.call hS⟩
  clear hS
  by_cases c4063 : t4060 = true
  · have H := if_yes c4063 H
    have c4063b0 : t4060 = true := c4063
    have c4063b1 : (!t4060) = false := by rw [c4063b0]; rfl
    clear c4063
    go_wp2_with fail
    obtain ⟨t4064, HA4065, H⟩ := bind_some H
    refine (ground_Ground_Word.calls l4014 a4019 a4020 a4021 a4022 a4023 (wrap64 (a4024 - 1)) 0 g4010 g4012 A4015 l4014.length n4017 t4064 _ ⟨HGl0.out.pass HS.out⟩ ⟨HS.out.begin⟩ HA4065).mono ?_
    rintro e_ w4066 ⟨rfl, hS⟩
    replace HS : Aside0 (Sep FF w [b21 g4010 g4012 a4020 a4021 a4022 a4023, b20 g4012 A4015 l4014.length n4017 t4064.2, r7 A4015 l4014.length n4017 l4014] w4066) := ⟨HS.out.call hS⟩
    clear hS
    go_wp2_with fail
    obtain ⟨t4067, HA4068, H⟩ := bind_some H
    refine (tag_Unpack.calls t4064.1 t4067 _ ⟨HGl0.out.pass (l := []) HS.out⟩ ⟨Sep.start _⟩ HA4068).mono ?_
    rintro e_ w4069 ⟨rfl, hS⟩
    replace HS : Aside0 (Sep FF w [b21 g4010 g4012 a4020 a4021 a4022 a4023, b20 g4012 A4015 l4014.length n4017 t4064.2, r7 A4015 l4014.length n4017 l4014] w4069) := ⟨HS.out.call hS⟩
    clear hS
    have fl4070 : ∀ w, (Instr.field 32 (.agg #[.int .i64 t4067.1, .int .i64 t4067.2.1, .int .i64 t4067.2.2.1, .int .i64 t4067.2.2.2.1, .int .i64 t4067.2.2.2.2.1, .int .i64 t4067.2.2.2.2.2.1, .int .i64 t4067.2.2.2.2.2.2]) 0).run Tryd.prog w = .ok (.int .i64 t4067.1) w := fun _ => by kernel_rfl
    go_wp2_with fail
    clear fl4070
    obtain ⟨t4071, HA4072, H⟩ := bind_some H
    refine (obj_isHead.calls t4067.1 t4071 _ ⟨HGl0.out.pass (l := []) HS.out⟩ ⟨Sep.start _⟩ HA4072).mono ?_
    rintro e_ w4073 ⟨rfl, hS⟩
    replace HS : Aside0 (Sep FF w [b21 g4010 g4012 a4020 a4021 a4022 a4023, b20 g4012 A4015 l4014.length n4017 t4064.2, r7 A4015 l4014.length n4017 l4014] w4073) := ⟨HS.out.call hS⟩
    clear hS
    go_wp2_with fail
    go_ret
    rw [← some_eq H]
    exact ⟨(by first | rfl | (simp [IntKind.wrap_u32]; done)), HS.out⟩
  · have H := if_no c4063 H
    have c4063b0 : t4060 = false := by simpa using c4063
    have c4063b1 : (!t4060) = true := by rw [c4063b0]; rfl
    clear c4063
    go_wp2_with fail
    go_ret
    rw [← some_eq H]
    exact ⟨(by first | rfl | (simp [IntKind.wrap_u32]; done)), HS.out⟩

set_option maxHeartbeats 30000000 in
set_option maxRecDepth 100000 in
theorem obj_Lens.calls (l3998 : List Int) (a4003 : Int) (a4004 : Int) (a4005 : Int) (a4006 : Int) (a4007 : Int) (a4008 : Int) (g3994 : Nat) (g3996 : Nat) (A3999 : Option Addr) (m4000 : Nat) (n4001 : Nat) (r : Int × Int × Int × Int) (w : World)  (HGl0 : Aside0 (Gl 0 #[.int .i64 0, .int .i64 0, .int .i64 0, .int .i64 0, .int .i64 0] (fps [b21 g3994 g3996 a4004 a4005 a4006 a4007, b20 g3996 A3999 m4000 n4001 a4003, r7 A3999 m4000 n4001 l3998]) w)) (HS : Aside0 (Sep (fps [b21 g3994 g3996 a4004 a4005 a4006 a4007, b20 g3996 A3999 m4000 n4001 a4003, r7 A3999 m4000 n4001 l3998]) w [b21 g3994 g3996 a4004 a4005 a4006 a4007, b20 g3996 A3999 m4000 n4001 a4003, r7 A3999 m4000 n4001 l3998] w)) (H : Aside0 (obj_Lens.f l3998 a4003 a4004 a4005 a4006 a4007 a4008 = some r)) :
    Calls Tryd.prog 60 #[.pointer (some ⟨g3994, 0, none⟩), .int .i64 a4008] w fun e w' => e = .returned (.tuple #[.int .i64 r.1, .int .i64 r.2.1, .int .i64 r.2.2.1]) ∧ Sep (fps [b21 g3994 g3996 a4004 a4005 a4006 a4007, b20 g3996 A3999 m4000 n4001 a4003, r7 A3999 m4000 n4001 l3998]) w [b21 g3994 g3996 a4004 a4005 a4006 a4007, b20 g3996 A3999 m4000 n4001 r.2.2.2, r7 A3999 m4000 n4001 l3998] w' := by
  generalize (fps [b21 g3994 g3996 a4004 a4005 a4006 a4007, b20 g3996 A3999 m4000 n4001 a4003, r7 A3999 m4000 n4001 l3998]) = FF at HS HGl0 ⊢
  obtain rfl := (row_len (HS.out.at2)).symm
  unfold obj_Lens.f at H
  go_enter Tryd.func60, Tryd.ntmps60
  go_wp2_with fail
  obtain ⟨t4084, HA4085, H⟩ := bind_some H
  refine (obj_Is.calls l3998 a4003 a4004 a4005 a4006 a4007 a4008 g3994 g3996 A3999 l3998.length n4001 t4084 _ ⟨HGl0.out.pass HS.out⟩ ⟨HS.out.begin⟩ HA4085).mono ?_
  rintro e_ w4086 ⟨rfl, hS⟩
  replace HS : Aside0 (Sep FF w [b21 g3994 g3996 a4004 a4005 a4006 a4007, b20 g3996 A3999 l3998.length n4001 t4084.2, r7 A3999 l3998.length n4001 l3998] w4086) := ⟨HS.out.call hS⟩
  clear hS
  by_cases c4087 : t4084.1 = true
  · have H := if_yes c4087 H
    have c4087b0 : t4084.1 = true := c4087
    have c4087b1 : (!t4084.1) = false := by rw [c4087b0]; rfl
    try rw [c4087b1]
    clear c4087
    go_wp2_with fail
    obtain ⟨t4088, HA4089, H⟩ := bind_some H
    refine (ground_Ground_Word.calls l3998 t4084.2 a4004 a4005 a4006 a4007 (wrap64 (a4008 - 1)) 1 g3994 g3996 A3999 l3998.length n4001 t4088 _ ⟨HGl0.out.pass HS.out⟩ ⟨HS.out.begin⟩ HA4089).mono ?_
    rintro e_ w4090 ⟨rfl, hS⟩
    replace HS : Aside0 (Sep FF w [b21 g3994 g3996 a4004 a4005 a4006 a4007, b20 g3996 A3999 l3998.length n4001 t4088.2, r7 A3999 l3998.length n4001 l3998] w4090) := ⟨HS.out.call hS⟩
    clear hS
    go_wp2_with fail
    obtain ⟨t4091, HA4092, H⟩ := bind_some H
    refine (ground_Ground_Word.calls l3998 t4088.2 a4004 a4005 a4006 a4007 (wrap64 (a4008 - 1)) 2 g3994 g3996 A3999 l3998.length n4001 t4091 _ ⟨HGl0.out.pass HS.out⟩ ⟨HS.out.begin⟩ HA4092).mono ?_
    rintro e_ w4093 ⟨rfl, hS⟩
    replace HS : Aside0 (Sep FF w [b21 g3994 g3996 a4004 a4005 a4006 a4007, b20 g3996 A3999 l3998.length n4001 t4091.2, r7 A3999 l3998.length n4001 l3998] w4093) := ⟨HS.out.call hS⟩
    clear hS
    go_wp2_with fail
    go_ret3
    rw [← some_eq H]
    exact ⟨(by first | rfl | (simp [IntKind.wrap_u32]; done)), HS.out⟩
  · have H := if_no c4087 H
    have c4087b0 : t4084.1 = false := by simpa using c4087
    have c4087b1 : (!t4084.1) = true := by rw [c4087b0]; rfl
    try rw [c4087b1]
    clear c4087
    go_wp2_with fail
    go_ret3
    rw [← some_eq H]
    exact ⟨(by first | rfl | (simp [IntKind.wrap_u32]; done)), HS.out⟩

set_option maxHeartbeats 30000000 in
set_option maxRecDepth 100000 in
theorem obj_Blocks.calls (k : Nat) (l3982 : List Int) (a3987 : Int) (a3988 : Int) (a3989 : Int) (a3990 : Int) (a3991 : Int) (a3992 : Int) (g3978 : Nat) (g3980 : Nat) (A3983 : Option Addr) (m3984 : Nat) (n3985 : Nat) (r : Int × Int) (w : World)  (HGl0 : Aside0 (Gl 0 #[.int .i64 0, .int .i64 0, .int .i64 0, .int .i64 0, .int .i64 0] (fps [b21 g3978 g3980 a3988 a3989 a3990 a3991, b20 g3980 A3983 m3984 n3985 a3987, r7 A3983 m3984 n3985 l3982]) w)) (HS : Aside0 (Sep (fps [b21 g3978 g3980 a3988 a3989 a3990 a3991, b20 g3980 A3983 m3984 n3985 a3987, r7 A3983 m3984 n3985 l3982]) w [b21 g3978 g3980 a3988 a3989 a3990 a3991, b20 g3980 A3983 m3984 n3985 a3987, r7 A3983 m3984 n3985 l3982] w)) (H : Aside0 (obj_Blocks.f k l3982 a3987 a3988 a3989 a3990 a3991 a3992 = some r)) :
    Calls Tryd.prog 45 #[.pointer (some ⟨g3978, 0, none⟩), .int .i64 a3992] w fun e w' => e = .returned (.int .i64 r.1) ∧ Sep (fps [b21 g3978 g3980 a3988 a3989 a3990 a3991, b20 g3980 A3983 m3984 n3985 a3987, r7 A3983 m3984 n3985 l3982]) w [b21 g3978 g3980 a3988 a3989 a3990 a3991, b20 g3980 A3983 m3984 n3985 r.2, r7 A3983 m3984 n3985 l3982] w' := by
  generalize (fps [b21 g3978 g3980 a3988 a3989 a3990 a3991, b20 g3980 A3983 m3984 n3985 a3987, r7 A3983 m3984 n3985 l3982]) = FF at HS HGl0 ⊢
  obtain rfl := (row_len (HS.out.at2)).symm
  unfold obj_Blocks.f at H
  go_enter Tryd.func45, Tryd.ntmps45
  go_wp2_with fail
  obtain ⟨t4105, HA4106, H⟩ := bind_some H
  refine (obj_Lens.calls l3982 a3987 a3988 a3989 a3990 a3991 a3992 g3978 g3980 A3983 l3982.length n3985 t4105 _ ⟨HGl0.out.pass HS.out⟩ ⟨HS.out.begin⟩ HA4106).mono ?_
  rintro e_ w4107 ⟨rfl, hS⟩
  replace HS : Aside0 (Sep FF w [b21 g3978 g3980 a3988 a3989 a3990 a3991, b20 g3980 A3983 l3982.length n3985 t4105.2.2.2, r7 A3983 l3982.length n3985 l3982] w4107) := ⟨HS.out.call hS⟩
  clear hS
  by_cases c4108 : t4105.2.2.1 = 0
  · have H := if_yes c4108 H
    have c4108b0 : (t4105.2.2.1 == 0) = true := beq_iff_eq.mpr c4108
    have c4108b1 : (t4105.2.2.1 != 0) = false := bne_eq_false_iff_eq.mpr c4108
    clear c4108
    go_wp2_with fail
    obtain ⟨t4109, HA4110, H⟩ := bind_some H
    refine (ground_Ground_Conf.calls l3982 t4105.2.2.2 a3988 a3989 a3990 a3991 g3978 g3980 A3983 l3982.length n3985 t4109 _ ⟨HGl0.out.pass HS.out⟩ ⟨HS.out.begin⟩ HA4110).mono ?_
    rintro e_ w4111 ⟨rfl, hS⟩
    replace HS : Aside0 (Sep FF w [b21 g3978 g3980 a3988 a3989 a3990 a3991, b20 g3980 A3983 l3982.length n3985 t4105.2.2.2, r7 A3983 l3982.length n3985 l3982] w4111) := ⟨HS.out.call hS⟩
    clear hS
    have fl4112 : ∀ w, (Instr.field 30 (.agg #[.int .i64 t4109.1, .int .i64 t4109.2.1, .int .i64 t4109.2.2.1, .int .i64 t4109.2.2.2]) 1).run Tryd.prog w = .ok (.int .i64 t4109.2.1) w := fun _ => by kernel_rfl
    go_wp2_with fail
    clear fl4112
    obtain ⟨t4113, HA4114, H⟩ := bind_some H
    refine (shape_Blocks.calls _ t4109.2.1 t4105.1 t4105.2.1 t4113 _ ⟨HGl0.out.pass (l := []) HS.out⟩ ⟨Sep.start _⟩ HA4114).mono ?_
    rintro e_ w4115 ⟨rfl, hS⟩
    replace HS : Aside0 (Sep FF w [b21 g3978 g3980 a3988 a3989 a3990 a3991, b20 g3980 A3983 l3982.length n3985 t4105.2.2.2, r7 A3983 l3982.length n3985 l3982] w4115) := ⟨HS.out.call hS⟩
    clear hS
    go_wp2_with fail
    go_ret
    rw [← some_eq H]
    exact ⟨(by first | rfl | (simp [IntKind.wrap_u32]; done)), HS.out⟩
  · have H := if_no c4108 H
    have c4108b0 : (t4105.2.2.1 == 0) = false := beq_eq_false_iff_ne.mpr c4108
    have c4108b1 : (t4105.2.2.1 != 0) = true := bne_iff_ne.mpr c4108
    clear c4108
    go_wp2_with fail
    go_ret
    rw [← some_eq H]
    exact ⟨(by first | rfl | (simp [IntKind.wrap_u32]; done)), HS.out⟩

set_option maxHeartbeats 30000000 in
set_option maxRecDepth 100000 in
theorem obj_field.calls (k : Nat) (l4142 : List Int) (a4147 : Int) (a4148 : Int) (a4149 : Int) (a4150 : Int) (a4151 : Int) (a4152 : Int) (a4153 : Int) (a4154 : Bool) (g4138 : Nat) (g4140 : Nat) (A4143 : Option Addr) (m4144 : Nat) (n4145 : Nat) (r : Int × Int × Int × Int) (w : World)  (HGl0 : Aside0 (Gl 0 #[.int .i64 0, .int .i64 0, .int .i64 0, .int .i64 0, .int .i64 0] (fps [b21 g4138 g4140 a4148 a4149 a4150 a4151, b20 g4140 A4143 m4144 n4145 a4147, r7 A4143 m4144 n4145 l4142]) w)) (HS : Aside0 (Sep (fps [b21 g4138 g4140 a4148 a4149 a4150 a4151, b20 g4140 A4143 m4144 n4145 a4147, r7 A4143 m4144 n4145 l4142]) w [b21 g4138 g4140 a4148 a4149 a4150 a4151, b20 g4140 A4143 m4144 n4145 a4147, r7 A4143 m4144 n4145 l4142] w)) (H : Aside0 (obj_field.f k l4142 a4147 a4148 a4149 a4150 a4151 a4152 a4153 a4154 = some r)) :
    Calls Tryd.prog 116 #[.pointer (some ⟨g4138, 0, none⟩), .int .i64 a4152, .int .i64 a4153, .bool a4154] w fun e w' => e = .returned (.tuple #[.agg #[.int .i64 r.1, .int .i64 r.2.1], .int .i64 r.2.2.1]) ∧ Sep (fps [b21 g4138 g4140 a4148 a4149 a4150 a4151, b20 g4140 A4143 m4144 n4145 a4147, r7 A4143 m4144 n4145 l4142]) w [b21 g4138 g4140 a4148 a4149 a4150 a4151, b20 g4140 A4143 m4144 n4145 r.2.2.2, r7 A4143 m4144 n4145 l4142] w' := by
  generalize (fps [b21 g4138 g4140 a4148 a4149 a4150 a4151, b20 g4140 A4143 m4144 n4145 a4147, r7 A4143 m4144 n4145 l4142]) = FF at HS HGl0 ⊢
  obtain rfl := (row_len (HS.out.at2)).symm
  unfold obj_field.f at H
  go_enter Tryd.func116, Tryd.ntmps116
  go_wp2_with (first | ((with_reducible refine gate_dst (N := 8) rfl ?_); refine box_on ?hg (N := 8) ?hd (cs := #[.int .i64 0, .int .i64 0]) (t := 142) ?hr ?_; (case hd => rfl); (case hg => rfl); (case hr => first | (go_simp; done) | (go_simp; rfl)); intro g4171 hg w4172 hbox hb; replace HS : Aside0 (Sep FF w [b21 g4138 g4140 a4148 a4149 a4150 a4151, b20 g4140 A4143 l4142.length n4145 a4147, r7 A4143 l4142.length n4145 l4142, b10 g4171 0 0] w4172) := ⟨HS.out.box hg hbox hb⟩; clear hg hbox hb))
  obtain ⟨t4174, HA4175, H⟩ := bind_some H
  refine (obj_Lens.calls l4142 a4147 a4148 a4149 a4150 a4151 a4152 g4138 g4140 A4143 l4142.length n4145 t4174 _ ⟨HGl0.out.pass HS.out⟩ ⟨HS.out.begin⟩ HA4175).mono ?_
  rintro e_ w4176 ⟨rfl, hS⟩
  replace HS : Aside0 (Sep FF w [b21 g4138 g4140 a4148 a4149 a4150 a4151, b20 g4140 A4143 l4142.length n4145 t4174.2.2.2, r7 A4143 l4142.length n4145 l4142, b10 g4171 0 0] w4176) := ⟨HS.out.call hS⟩
  clear hS
  by_cases c4177 : t4174.2.2.1 = 0
  · have H := if_yes c4177 H
    have c4177b0 : (t4174.2.2.1 == 0) = true := beq_iff_eq.mpr c4177
    have c4177b1 : (t4174.2.2.1 != 0) = false := bne_eq_false_iff_eq.mpr c4177
    clear c4177
    by_cases c4178 : a4154 = true
    · have H := if_yes c4178 H
      have c4178b0 : a4154 = true := c4178
      have c4178b1 : (!a4154) = false := by rw [c4178b0]; rfl
      clear c4178
      by_cases c4179 : a4153 < 0
      · have H := if_yes c4179 H
        have c4179b0 : decide (a4153 < 0) = true := decide_eq_true c4179
        clear c4179
        have hc4180 : w4176.cell? ⟨g4171, 0, none⟩ = some (.int .i64 0) := blk_cellv (HS.out.at3) 0 rfl
        have hz4181 : w4176.frozen? ⟨g4171, 0, none⟩ = false := blk_fz (HS.out.at3) 0
        have hc4182 : w4176.cell? ⟨g4171, 1, none⟩ = some (.int .i64 0) := blk_cellv (HS.out.at3) 1 rfl
        have hz4183 : w4176.frozen? ⟨g4171, 1, none⟩ = false := blk_fz (HS.out.at3) 1
        go_wp2_with (first | ((with_reducible refine gate_store (t := 142) (p := 8) rfl ?_); refine store_event (w1 := (World.setCell (World.setCell w4176 ⟨g4171, 0, none⟩ (.int .i64 0)) ⟨g4171, 1, none⟩ (.int .i64 0))) rfl (t := 142) (p := 8) rfl rfl ?hr ?_; (case hr => first | (go_simp; done) | (go_simp; rfl)); intro w4184 hst; clear hc4180 hz4181 hc4182 hz4183; have hq0 : Sep FF w [b21 g4138 g4140 a4148 a4149 a4150 a4151, b20 g4140 A4143 l4142.length n4145 t4174.2.2.2, r7 A4143 l4142.length n4145 l4142, b10 g4171 0 0] (World.setCell w4176 ⟨g4171, 0, none⟩ (.int .i64 0)) := (HS.out).set1 (l1 := [b21 g4138 g4140 a4148 a4149 a4150 a4151, b20 g4140 A4143 l4142.length n4145 t4174.2.2.2, r7 A4143 l4142.length n4145 l4142]) (l2 := []) 0 (.int .i64 0); have hq1 : Sep FF w [b21 g4138 g4140 a4148 a4149 a4150 a4151, b20 g4140 A4143 l4142.length n4145 t4174.2.2.2, r7 A4143 l4142.length n4145 l4142, b10 g4171 0 0] (World.setCell (World.setCell w4176 ⟨g4171, 0, none⟩ (.int .i64 0)) ⟨g4171, 1, none⟩ (.int .i64 0)) := (hq0).set1 (l1 := [b21 g4138 g4140 a4148 a4149 a4150 a4151, b20 g4140 A4143 l4142.length n4145 t4174.2.2.2, r7 A4143 l4142.length n4145 l4142]) (l2 := []) 1 (.int .i64 0); replace HS : Aside0 (Sep FF w [b21 g4138 g4140 a4148 a4149 a4150 a4151, b20 g4140 A4143 l4142.length n4145 t4174.2.2.2, r7 A4143 l4142.length n4145 l4142, b10 g4171 0 0] w4184) := ⟨by rw [hst]; exact hq1⟩; clear hq0 hq1; clear hst))
        have hc4185 : w4184.cell? ⟨g4171, 0, none⟩ = some (.int .i64 0) := blk_cellv (HS.out.at3) 0 rfl
        have hc4186 : w4184.cell? ⟨g4171, 1, none⟩ = some (.int .i64 0) := blk_cellv (HS.out.at3) 1 rfl
        refine bodyPost_ret (v := .tuple #[.agg #[.int .i64 0, .int .i64 0], .int .i64 7]) (by simp [results, Tryd.results116, go_sem, hc4185, hc4186]) rfl ?_
        rw [← some_eq H]
        exact ⟨(by first | rfl | (simp [IntKind.wrap_u32]; done)), HS.out.sub (.cons_cons _ (.cons_cons _ (.cons_cons _ (.cons _ .slnil))))⟩
      · have H := if_no c4179 H
        have c4179b0 : decide (a4153 < 0) = false := decide_eq_false c4179
        clear c4179
        by_cases c4187 : a4153 ≥ t4174.2.1
        · have H := if_yes c4187 H
          have c4187b0 : decide (t4174.2.1 ≤ a4153) = true := decide_eq_true c4187
          clear c4187
          have hc4188 : w4176.cell? ⟨g4171, 0, none⟩ = some (.int .i64 0) := blk_cellv (HS.out.at3) 0 rfl
          have hz4189 : w4176.frozen? ⟨g4171, 0, none⟩ = false := blk_fz (HS.out.at3) 0
          have hc4190 : w4176.cell? ⟨g4171, 1, none⟩ = some (.int .i64 0) := blk_cellv (HS.out.at3) 1 rfl
          have hz4191 : w4176.frozen? ⟨g4171, 1, none⟩ = false := blk_fz (HS.out.at3) 1
          go_wp2_with (first | ((with_reducible refine gate_store (t := 142) (p := 8) rfl ?_); refine store_event (w1 := (World.setCell (World.setCell w4176 ⟨g4171, 0, none⟩ (.int .i64 0)) ⟨g4171, 1, none⟩ (.int .i64 0))) rfl (t := 142) (p := 8) rfl rfl ?hr ?_; (case hr => first | (go_simp; done) | (go_simp; rfl)); intro w4192 hst; clear hc4188 hz4189 hc4190 hz4191; have hq0 : Sep FF w [b21 g4138 g4140 a4148 a4149 a4150 a4151, b20 g4140 A4143 l4142.length n4145 t4174.2.2.2, r7 A4143 l4142.length n4145 l4142, b10 g4171 0 0] (World.setCell w4176 ⟨g4171, 0, none⟩ (.int .i64 0)) := (HS.out).set1 (l1 := [b21 g4138 g4140 a4148 a4149 a4150 a4151, b20 g4140 A4143 l4142.length n4145 t4174.2.2.2, r7 A4143 l4142.length n4145 l4142]) (l2 := []) 0 (.int .i64 0); have hq1 : Sep FF w [b21 g4138 g4140 a4148 a4149 a4150 a4151, b20 g4140 A4143 l4142.length n4145 t4174.2.2.2, r7 A4143 l4142.length n4145 l4142, b10 g4171 0 0] (World.setCell (World.setCell w4176 ⟨g4171, 0, none⟩ (.int .i64 0)) ⟨g4171, 1, none⟩ (.int .i64 0)) := (hq0).set1 (l1 := [b21 g4138 g4140 a4148 a4149 a4150 a4151, b20 g4140 A4143 l4142.length n4145 t4174.2.2.2, r7 A4143 l4142.length n4145 l4142]) (l2 := []) 1 (.int .i64 0); replace HS : Aside0 (Sep FF w [b21 g4138 g4140 a4148 a4149 a4150 a4151, b20 g4140 A4143 l4142.length n4145 t4174.2.2.2, r7 A4143 l4142.length n4145 l4142, b10 g4171 0 0] w4192) := ⟨by rw [hst]; exact hq1⟩; clear hq0 hq1; clear hst))
          have hc4193 : w4192.cell? ⟨g4171, 0, none⟩ = some (.int .i64 0) := blk_cellv (HS.out.at3) 0 rfl
          have hc4194 : w4192.cell? ⟨g4171, 1, none⟩ = some (.int .i64 0) := blk_cellv (HS.out.at3) 1 rfl
          refine bodyPost_ret (v := .tuple #[.agg #[.int .i64 0, .int .i64 0], .int .i64 7]) (by simp [results, Tryd.results116, go_sem, hc4193, hc4194]) rfl ?_
          rw [← some_eq H]
          exact ⟨(by first | rfl | (simp [IntKind.wrap_u32]; done)), HS.out.sub (.cons_cons _ (.cons_cons _ (.cons_cons _ (.cons _ .slnil))))⟩
        · have H := if_no c4187 H
          have c4187b0 : decide (t4174.2.1 ≤ a4153) = false := decide_eq_false c4187
          clear c4187
          go_wp2_with fail
          obtain ⟨t4195, HA4196, H⟩ := bind_some H
          refine (ground_Ground_Conf.calls l4142 t4174.2.2.2 a4148 a4149 a4150 a4151 g4138 g4140 A4143 l4142.length n4145 t4195 _ ⟨HGl0.out.pass HS.out⟩ ⟨HS.out.begin⟩ HA4196).mono ?_
          rintro e_ w4197 ⟨rfl, hS⟩
          replace HS : Aside0 (Sep FF w [b21 g4138 g4140 a4148 a4149 a4150 a4151, b20 g4140 A4143 l4142.length n4145 t4174.2.2.2, r7 A4143 l4142.length n4145 l4142, b10 g4171 0 0] w4197) := ⟨HS.out.call hS⟩
          clear hS
          have fl4198 : ∀ w, (Instr.field 30 (.agg #[.int .i64 t4195.1, .int .i64 t4195.2.1, .int .i64 t4195.2.2.1, .int .i64 t4195.2.2.2]) 1).run Tryd.prog w = .ok (.int .i64 t4195.2.1) w := fun _ => by kernel_rfl
          go_wp2_with fail
          clear fl4198
          obtain ⟨t4199, HA4200, H⟩ := bind_some H
          refine (shape_Place.calls _ t4195.2.1 (wrap64 (t4174.1 + t4174.2.1)) (wrap64 (t4174.1 + a4153)) t4199 _ ⟨HGl0.out.pass (l := []) HS.out⟩ ⟨Sep.start _⟩ HA4200).mono ?_
          rintro e_ w4201 ⟨rfl, hS⟩
          replace HS : Aside0 (Sep FF w [b21 g4138 g4140 a4148 a4149 a4150 a4151, b20 g4140 A4143 l4142.length n4145 t4174.2.2.2, r7 A4143 l4142.length n4145 l4142, b10 g4171 0 0] w4201) := ⟨HS.out.call hS⟩
          clear hS
          by_cases c4202 : t4199.2.2 = 0
          · have H := if_yes c4202 H
            have c4202b0 : (t4199.2.2 == 0) = true := beq_iff_eq.mpr c4202
            have c4202b1 : (t4199.2.2 != 0) = false := bne_eq_false_iff_eq.mpr c4202
            clear c4202
            by_cases c4203 : t4199.1 < 0
            · have H := if_yes c4203 H
              have c4203b0 : decide (t4199.1 < 0) = true := decide_eq_true c4203
              clear c4203
              have hc4204 : w4201.cell? ⟨g4171, 0, none⟩ = some (.int .i64 0) := blk_cellv (HS.out.at3) 0 rfl
              have hz4205 : w4201.frozen? ⟨g4171, 0, none⟩ = false := blk_fz (HS.out.at3) 0
              have hc4206 : w4201.cell? ⟨g4171, 1, none⟩ = some (.int .i64 0) := blk_cellv (HS.out.at3) 1 rfl
              have hz4207 : w4201.frozen? ⟨g4171, 1, none⟩ = false := blk_fz (HS.out.at3) 1
              go_wp2_with (first | ((with_reducible refine gate_store (t := 142) (p := 8) rfl ?_); refine store_event (w1 := (World.setCell (World.setCell w4201 ⟨g4171, 0, none⟩ (.int .i64 (wrap64 (a4152 - 1)))) ⟨g4171, 1, none⟩ (.int .i64 t4199.2.1))) rfl (t := 142) (p := 8) rfl rfl ?hr ?_; (case hr => first | (go_simp; done) | (go_simp; rfl)); intro w4208 hst; clear hc4204 hz4205 hc4206 hz4207; have hq0 : Sep FF w [b21 g4138 g4140 a4148 a4149 a4150 a4151, b20 g4140 A4143 l4142.length n4145 t4174.2.2.2, r7 A4143 l4142.length n4145 l4142, b10 g4171 (wrap64 (a4152 - 1)) 0] (World.setCell w4201 ⟨g4171, 0, none⟩ (.int .i64 (wrap64 (a4152 - 1)))) := (HS.out).set1 (l1 := [b21 g4138 g4140 a4148 a4149 a4150 a4151, b20 g4140 A4143 l4142.length n4145 t4174.2.2.2, r7 A4143 l4142.length n4145 l4142]) (l2 := []) 0 (.int .i64 (wrap64 (a4152 - 1))); have hq1 : Sep FF w [b21 g4138 g4140 a4148 a4149 a4150 a4151, b20 g4140 A4143 l4142.length n4145 t4174.2.2.2, r7 A4143 l4142.length n4145 l4142, b10 g4171 (wrap64 (a4152 - 1)) t4199.2.1] (World.setCell (World.setCell w4201 ⟨g4171, 0, none⟩ (.int .i64 (wrap64 (a4152 - 1)))) ⟨g4171, 1, none⟩ (.int .i64 t4199.2.1)) := (hq0).set1 (l1 := [b21 g4138 g4140 a4148 a4149 a4150 a4151, b20 g4140 A4143 l4142.length n4145 t4174.2.2.2, r7 A4143 l4142.length n4145 l4142]) (l2 := []) 1 (.int .i64 t4199.2.1); replace HS : Aside0 (Sep FF w [b21 g4138 g4140 a4148 a4149 a4150 a4151, b20 g4140 A4143 l4142.length n4145 t4174.2.2.2, r7 A4143 l4142.length n4145 l4142, b10 g4171 (wrap64 (a4152 - 1)) t4199.2.1] w4208) := ⟨by rw [hst]; exact hq1⟩; clear hq0 hq1; clear hst))
              have hc4209 : w4208.cell? ⟨g4171, 0, none⟩ = some (.int .i64 (wrap64 (a4152 - 1))) := blk_cellv (HS.out.at3) 0 rfl
              have hc4210 : w4208.cell? ⟨g4171, 1, none⟩ = some (.int .i64 t4199.2.1) := blk_cellv (HS.out.at3) 1 rfl
              refine bodyPost_ret (v := .tuple #[.agg #[.int .i64 (wrap64 (a4152 - 1)), .int .i64 t4199.2.1], .int .i64 0]) (by simp [results, Tryd.results116, go_sem, hc4209, hc4210]) rfl ?_
              rw [← some_eq H]
              exact ⟨(by first | rfl | (simp [IntKind.wrap_u32]; done)), HS.out.sub (.cons_cons _ (.cons_cons _ (.cons_cons _ (.cons _ .slnil))))⟩
            · have H := if_no c4203 H
              have c4203b0 : decide (t4199.1 < 0) = false := decide_eq_false c4203
              clear c4203
              go_wp2_with fail
              obtain ⟨t4211, HA4212, H⟩ := bind_some H
              refine (ground_Ground_Word.calls l4142 t4174.2.2.2 a4148 a4149 a4150 a4151 (wrap64 (a4152 - 1)) (wrap64 (8 + t4199.1)) g4138 g4140 A4143 l4142.length n4145 t4211 _ ⟨HGl0.out.pass HS.out⟩ ⟨HS.out.begin⟩ HA4212).mono ?_
              rintro e_ w4213 ⟨rfl, hS⟩
              replace HS : Aside0 (Sep FF w [b21 g4138 g4140 a4148 a4149 a4150 a4151, b20 g4140 A4143 l4142.length n4145 t4211.2, r7 A4143 l4142.length n4145 l4142, b10 g4171 0 0] w4213) := ⟨HS.out.call hS⟩
              clear hS
              by_cases c4214 : (wrap64 (t4211.1)) = 0
              · have H := if_yes c4214 H
                have c4214b0 : ((wrap64 (t4211.1)) == 0) = true := beq_iff_eq.mpr c4214
                have c4214b1 : ((wrap64 (t4211.1)) != 0) = false := bne_eq_false_iff_eq.mpr c4214
                clear c4214
                have hc4215 : w4213.cell? ⟨g4171, 0, none⟩ = some (.int .i64 0) := blk_cellv (HS.out.at3) 0 rfl
                have hz4216 : w4213.frozen? ⟨g4171, 0, none⟩ = false := blk_fz (HS.out.at3) 0
                have hc4217 : w4213.cell? ⟨g4171, 1, none⟩ = some (.int .i64 0) := blk_cellv (HS.out.at3) 1 rfl
                have hz4218 : w4213.frozen? ⟨g4171, 1, none⟩ = false := blk_fz (HS.out.at3) 1
                go_wp2_with (first | ((with_reducible refine gate_store (t := 142) (p := 8) rfl ?_); refine store_event (w1 := (World.setCell (World.setCell w4213 ⟨g4171, 0, none⟩ (.int .i64 0)) ⟨g4171, 1, none⟩ (.int .i64 0))) rfl (t := 142) (p := 8) rfl rfl ?hr ?_; (case hr => first | (go_simp; done) | (go_simp; rfl)); intro w4219 hst; clear hc4215 hz4216 hc4217 hz4218; have hq0 : Sep FF w [b21 g4138 g4140 a4148 a4149 a4150 a4151, b20 g4140 A4143 l4142.length n4145 t4211.2, r7 A4143 l4142.length n4145 l4142, b10 g4171 0 0] (World.setCell w4213 ⟨g4171, 0, none⟩ (.int .i64 0)) := (HS.out).set1 (l1 := [b21 g4138 g4140 a4148 a4149 a4150 a4151, b20 g4140 A4143 l4142.length n4145 t4211.2, r7 A4143 l4142.length n4145 l4142]) (l2 := []) 0 (.int .i64 0); have hq1 : Sep FF w [b21 g4138 g4140 a4148 a4149 a4150 a4151, b20 g4140 A4143 l4142.length n4145 t4211.2, r7 A4143 l4142.length n4145 l4142, b10 g4171 0 0] (World.setCell (World.setCell w4213 ⟨g4171, 0, none⟩ (.int .i64 0)) ⟨g4171, 1, none⟩ (.int .i64 0)) := (hq0).set1 (l1 := [b21 g4138 g4140 a4148 a4149 a4150 a4151, b20 g4140 A4143 l4142.length n4145 t4211.2, r7 A4143 l4142.length n4145 l4142]) (l2 := []) 1 (.int .i64 0); replace HS : Aside0 (Sep FF w [b21 g4138 g4140 a4148 a4149 a4150 a4151, b20 g4140 A4143 l4142.length n4145 t4211.2, r7 A4143 l4142.length n4145 l4142, b10 g4171 0 0] w4219) := ⟨by rw [hst]; exact hq1⟩; clear hq0 hq1; clear hst))
                have hc4220 : w4219.cell? ⟨g4171, 0, none⟩ = some (.int .i64 0) := blk_cellv (HS.out.at3) 0 rfl
                have hc4221 : w4219.cell? ⟨g4171, 1, none⟩ = some (.int .i64 0) := blk_cellv (HS.out.at3) 1 rfl
                refine bodyPost_ret (v := .tuple #[.agg #[.int .i64 0, .int .i64 0], .int .i64 7]) (by simp [results, Tryd.results116, go_sem, hc4220, hc4221]) rfl ?_
                rw [← some_eq H]
                exact ⟨(by first | rfl | (simp [IntKind.wrap_u32]; done)), HS.out.sub (.cons_cons _ (.cons_cons _ (.cons_cons _ (.cons _ .slnil))))⟩
              · have H := if_no c4214 H
                have c4214b0 : ((wrap64 (t4211.1)) == 0) = false := beq_eq_false_iff_ne.mpr c4214
                have c4214b1 : ((wrap64 (t4211.1)) != 0) = true := bne_iff_ne.mpr c4214
                clear c4214
                have hc4222 : w4213.cell? ⟨g4171, 0, none⟩ = some (.int .i64 0) := blk_cellv (HS.out.at3) 0 rfl
                have hz4223 : w4213.frozen? ⟨g4171, 0, none⟩ = false := blk_fz (HS.out.at3) 0
                have hc4224 : w4213.cell? ⟨g4171, 1, none⟩ = some (.int .i64 0) := blk_cellv (HS.out.at3) 1 rfl
                have hz4225 : w4213.frozen? ⟨g4171, 1, none⟩ = false := blk_fz (HS.out.at3) 1
                go_wp2_with (first | ((with_reducible refine gate_store (t := 142) (p := 8) rfl ?_); refine store_event (w1 := (World.setCell (World.setCell w4213 ⟨g4171, 0, none⟩ (.int .i64 (wrap64 ((wrap64 (t4211.1)) - 1)))) ⟨g4171, 1, none⟩ (.int .i64 t4199.2.1))) rfl (t := 142) (p := 8) rfl rfl ?hr ?_; (case hr => first | (go_simp; done) | (go_simp; rfl)); intro w4226 hst; clear hc4222 hz4223 hc4224 hz4225; have hq0 : Sep FF w [b21 g4138 g4140 a4148 a4149 a4150 a4151, b20 g4140 A4143 l4142.length n4145 t4211.2, r7 A4143 l4142.length n4145 l4142, b10 g4171 (wrap64 ((wrap64 (t4211.1)) - 1)) 0] (World.setCell w4213 ⟨g4171, 0, none⟩ (.int .i64 (wrap64 ((wrap64 (t4211.1)) - 1)))) := (HS.out).set1 (l1 := [b21 g4138 g4140 a4148 a4149 a4150 a4151, b20 g4140 A4143 l4142.length n4145 t4211.2, r7 A4143 l4142.length n4145 l4142]) (l2 := []) 0 (.int .i64 (wrap64 ((wrap64 (t4211.1)) - 1))); have hq1 : Sep FF w [b21 g4138 g4140 a4148 a4149 a4150 a4151, b20 g4140 A4143 l4142.length n4145 t4211.2, r7 A4143 l4142.length n4145 l4142, b10 g4171 (wrap64 ((wrap64 (t4211.1)) - 1)) t4199.2.1] (World.setCell (World.setCell w4213 ⟨g4171, 0, none⟩ (.int .i64 (wrap64 ((wrap64 (t4211.1)) - 1)))) ⟨g4171, 1, none⟩ (.int .i64 t4199.2.1)) := (hq0).set1 (l1 := [b21 g4138 g4140 a4148 a4149 a4150 a4151, b20 g4140 A4143 l4142.length n4145 t4211.2, r7 A4143 l4142.length n4145 l4142]) (l2 := []) 1 (.int .i64 t4199.2.1); replace HS : Aside0 (Sep FF w [b21 g4138 g4140 a4148 a4149 a4150 a4151, b20 g4140 A4143 l4142.length n4145 t4211.2, r7 A4143 l4142.length n4145 l4142, b10 g4171 (wrap64 ((wrap64 (t4211.1)) - 1)) t4199.2.1] w4226) := ⟨by rw [hst]; exact hq1⟩; clear hq0 hq1; clear hst))
                have hc4227 : w4226.cell? ⟨g4171, 0, none⟩ = some (.int .i64 (wrap64 ((wrap64 (t4211.1)) - 1))) := blk_cellv (HS.out.at3) 0 rfl
                have hc4228 : w4226.cell? ⟨g4171, 1, none⟩ = some (.int .i64 t4199.2.1) := blk_cellv (HS.out.at3) 1 rfl
                refine bodyPost_ret (v := .tuple #[.agg #[.int .i64 (wrap64 ((wrap64 (t4211.1)) - 1)), .int .i64 t4199.2.1], .int .i64 0]) (by simp [results, Tryd.results116, go_sem, hc4227, hc4228]) rfl ?_
                rw [← some_eq H]
                exact ⟨(by first | rfl | (simp [IntKind.wrap_u32]; done)), HS.out.sub (.cons_cons _ (.cons_cons _ (.cons_cons _ (.cons _ .slnil))))⟩
          · have H := if_no c4202 H
            have c4202b0 : (t4199.2.2 == 0) = false := beq_eq_false_iff_ne.mpr c4202
            have c4202b1 : (t4199.2.2 != 0) = true := bne_iff_ne.mpr c4202
            clear c4202
            have hc4229 : w4201.cell? ⟨g4171, 0, none⟩ = some (.int .i64 0) := blk_cellv (HS.out.at3) 0 rfl
            have hz4230 : w4201.frozen? ⟨g4171, 0, none⟩ = false := blk_fz (HS.out.at3) 0
            have hc4231 : w4201.cell? ⟨g4171, 1, none⟩ = some (.int .i64 0) := blk_cellv (HS.out.at3) 1 rfl
            have hz4232 : w4201.frozen? ⟨g4171, 1, none⟩ = false := blk_fz (HS.out.at3) 1
            go_wp2_with (first | ((with_reducible refine gate_store (t := 142) (p := 8) rfl ?_); refine store_event (w1 := (World.setCell (World.setCell w4201 ⟨g4171, 0, none⟩ (.int .i64 0)) ⟨g4171, 1, none⟩ (.int .i64 0))) rfl (t := 142) (p := 8) rfl rfl ?hr ?_; (case hr => first | (go_simp; done) | (go_simp; rfl)); intro w4233 hst; clear hc4229 hz4230 hc4231 hz4232; have hq0 : Sep FF w [b21 g4138 g4140 a4148 a4149 a4150 a4151, b20 g4140 A4143 l4142.length n4145 t4174.2.2.2, r7 A4143 l4142.length n4145 l4142, b10 g4171 0 0] (World.setCell w4201 ⟨g4171, 0, none⟩ (.int .i64 0)) := (HS.out).set1 (l1 := [b21 g4138 g4140 a4148 a4149 a4150 a4151, b20 g4140 A4143 l4142.length n4145 t4174.2.2.2, r7 A4143 l4142.length n4145 l4142]) (l2 := []) 0 (.int .i64 0); have hq1 : Sep FF w [b21 g4138 g4140 a4148 a4149 a4150 a4151, b20 g4140 A4143 l4142.length n4145 t4174.2.2.2, r7 A4143 l4142.length n4145 l4142, b10 g4171 0 0] (World.setCell (World.setCell w4201 ⟨g4171, 0, none⟩ (.int .i64 0)) ⟨g4171, 1, none⟩ (.int .i64 0)) := (hq0).set1 (l1 := [b21 g4138 g4140 a4148 a4149 a4150 a4151, b20 g4140 A4143 l4142.length n4145 t4174.2.2.2, r7 A4143 l4142.length n4145 l4142]) (l2 := []) 1 (.int .i64 0); replace HS : Aside0 (Sep FF w [b21 g4138 g4140 a4148 a4149 a4150 a4151, b20 g4140 A4143 l4142.length n4145 t4174.2.2.2, r7 A4143 l4142.length n4145 l4142, b10 g4171 0 0] w4233) := ⟨by rw [hst]; exact hq1⟩; clear hq0 hq1; clear hst))
            have hc4234 : w4233.cell? ⟨g4171, 0, none⟩ = some (.int .i64 0) := blk_cellv (HS.out.at3) 0 rfl
            have hc4235 : w4233.cell? ⟨g4171, 1, none⟩ = some (.int .i64 0) := blk_cellv (HS.out.at3) 1 rfl
            refine bodyPost_ret (v := .tuple #[.agg #[.int .i64 0, .int .i64 0], .int .i64 t4199.2.2]) (by simp [results, Tryd.results116, go_sem, hc4234, hc4235]) rfl ?_
            rw [← some_eq H]
            exact ⟨(by first | rfl | (simp [IntKind.wrap_u32]; done)), HS.out.sub (.cons_cons _ (.cons_cons _ (.cons_cons _ (.cons _ .slnil))))⟩
    · have H := if_no c4178 H
      have c4178b0 : a4154 = false := by simpa using c4178
      have c4178b1 : (!a4154) = true := by rw [c4178b0]; rfl
      clear c4178
      by_cases c4236 : a4153 < 0
      · have H := if_yes c4236 H
        have c4236b0 : decide (a4153 < 0) = true := decide_eq_true c4236
        clear c4236
        have hc4237 : w4176.cell? ⟨g4171, 0, none⟩ = some (.int .i64 0) := blk_cellv (HS.out.at3) 0 rfl
        have hz4238 : w4176.frozen? ⟨g4171, 0, none⟩ = false := blk_fz (HS.out.at3) 0
        have hc4239 : w4176.cell? ⟨g4171, 1, none⟩ = some (.int .i64 0) := blk_cellv (HS.out.at3) 1 rfl
        have hz4240 : w4176.frozen? ⟨g4171, 1, none⟩ = false := blk_fz (HS.out.at3) 1
        go_wp2_with (first | ((with_reducible refine gate_store (t := 142) (p := 8) rfl ?_); refine store_event (w1 := (World.setCell (World.setCell w4176 ⟨g4171, 0, none⟩ (.int .i64 0)) ⟨g4171, 1, none⟩ (.int .i64 0))) rfl (t := 142) (p := 8) rfl rfl ?hr ?_; (case hr => first | (go_simp; done) | (go_simp; rfl)); intro w4241 hst; clear hc4237 hz4238 hc4239 hz4240; have hq0 : Sep FF w [b21 g4138 g4140 a4148 a4149 a4150 a4151, b20 g4140 A4143 l4142.length n4145 t4174.2.2.2, r7 A4143 l4142.length n4145 l4142, b10 g4171 0 0] (World.setCell w4176 ⟨g4171, 0, none⟩ (.int .i64 0)) := (HS.out).set1 (l1 := [b21 g4138 g4140 a4148 a4149 a4150 a4151, b20 g4140 A4143 l4142.length n4145 t4174.2.2.2, r7 A4143 l4142.length n4145 l4142]) (l2 := []) 0 (.int .i64 0); have hq1 : Sep FF w [b21 g4138 g4140 a4148 a4149 a4150 a4151, b20 g4140 A4143 l4142.length n4145 t4174.2.2.2, r7 A4143 l4142.length n4145 l4142, b10 g4171 0 0] (World.setCell (World.setCell w4176 ⟨g4171, 0, none⟩ (.int .i64 0)) ⟨g4171, 1, none⟩ (.int .i64 0)) := (hq0).set1 (l1 := [b21 g4138 g4140 a4148 a4149 a4150 a4151, b20 g4140 A4143 l4142.length n4145 t4174.2.2.2, r7 A4143 l4142.length n4145 l4142]) (l2 := []) 1 (.int .i64 0); replace HS : Aside0 (Sep FF w [b21 g4138 g4140 a4148 a4149 a4150 a4151, b20 g4140 A4143 l4142.length n4145 t4174.2.2.2, r7 A4143 l4142.length n4145 l4142, b10 g4171 0 0] w4241) := ⟨by rw [hst]; exact hq1⟩; clear hq0 hq1; clear hst))
        have hc4242 : w4241.cell? ⟨g4171, 0, none⟩ = some (.int .i64 0) := blk_cellv (HS.out.at3) 0 rfl
        have hc4243 : w4241.cell? ⟨g4171, 1, none⟩ = some (.int .i64 0) := blk_cellv (HS.out.at3) 1 rfl
        refine bodyPost_ret (v := .tuple #[.agg #[.int .i64 0, .int .i64 0], .int .i64 7]) (by simp [results, Tryd.results116, go_sem, hc4242, hc4243]) rfl ?_
        rw [← some_eq H]
        exact ⟨(by first | rfl | (simp [IntKind.wrap_u32]; done)), HS.out.sub (.cons_cons _ (.cons_cons _ (.cons_cons _ (.cons _ .slnil))))⟩
      · have H := if_no c4236 H
        have c4236b0 : decide (a4153 < 0) = false := decide_eq_false c4236
        clear c4236
        by_cases c4244 : a4153 ≥ t4174.1
        · have H := if_yes c4244 H
          have c4244b0 : decide (t4174.1 ≤ a4153) = true := decide_eq_true c4244
          clear c4244
          have hc4245 : w4176.cell? ⟨g4171, 0, none⟩ = some (.int .i64 0) := blk_cellv (HS.out.at3) 0 rfl
          have hz4246 : w4176.frozen? ⟨g4171, 0, none⟩ = false := blk_fz (HS.out.at3) 0
          have hc4247 : w4176.cell? ⟨g4171, 1, none⟩ = some (.int .i64 0) := blk_cellv (HS.out.at3) 1 rfl
          have hz4248 : w4176.frozen? ⟨g4171, 1, none⟩ = false := blk_fz (HS.out.at3) 1
          go_wp2_with (first | ((with_reducible refine gate_store (t := 142) (p := 8) rfl ?_); refine store_event (w1 := (World.setCell (World.setCell w4176 ⟨g4171, 0, none⟩ (.int .i64 0)) ⟨g4171, 1, none⟩ (.int .i64 0))) rfl (t := 142) (p := 8) rfl rfl ?hr ?_; (case hr => first | (go_simp; done) | (go_simp; rfl)); intro w4249 hst; clear hc4245 hz4246 hc4247 hz4248; have hq0 : Sep FF w [b21 g4138 g4140 a4148 a4149 a4150 a4151, b20 g4140 A4143 l4142.length n4145 t4174.2.2.2, r7 A4143 l4142.length n4145 l4142, b10 g4171 0 0] (World.setCell w4176 ⟨g4171, 0, none⟩ (.int .i64 0)) := (HS.out).set1 (l1 := [b21 g4138 g4140 a4148 a4149 a4150 a4151, b20 g4140 A4143 l4142.length n4145 t4174.2.2.2, r7 A4143 l4142.length n4145 l4142]) (l2 := []) 0 (.int .i64 0); have hq1 : Sep FF w [b21 g4138 g4140 a4148 a4149 a4150 a4151, b20 g4140 A4143 l4142.length n4145 t4174.2.2.2, r7 A4143 l4142.length n4145 l4142, b10 g4171 0 0] (World.setCell (World.setCell w4176 ⟨g4171, 0, none⟩ (.int .i64 0)) ⟨g4171, 1, none⟩ (.int .i64 0)) := (hq0).set1 (l1 := [b21 g4138 g4140 a4148 a4149 a4150 a4151, b20 g4140 A4143 l4142.length n4145 t4174.2.2.2, r7 A4143 l4142.length n4145 l4142]) (l2 := []) 1 (.int .i64 0); replace HS : Aside0 (Sep FF w [b21 g4138 g4140 a4148 a4149 a4150 a4151, b20 g4140 A4143 l4142.length n4145 t4174.2.2.2, r7 A4143 l4142.length n4145 l4142, b10 g4171 0 0] w4249) := ⟨by rw [hst]; exact hq1⟩; clear hq0 hq1; clear hst))
          have hc4250 : w4249.cell? ⟨g4171, 0, none⟩ = some (.int .i64 0) := blk_cellv (HS.out.at3) 0 rfl
          have hc4251 : w4249.cell? ⟨g4171, 1, none⟩ = some (.int .i64 0) := blk_cellv (HS.out.at3) 1 rfl
          refine bodyPost_ret (v := .tuple #[.agg #[.int .i64 0, .int .i64 0], .int .i64 7]) (by simp [results, Tryd.results116, go_sem, hc4250, hc4251]) rfl ?_
          rw [← some_eq H]
          exact ⟨(by first | rfl | (simp [IntKind.wrap_u32]; done)), HS.out.sub (.cons_cons _ (.cons_cons _ (.cons_cons _ (.cons _ .slnil))))⟩
        · have H := if_no c4244 H
          have c4244b0 : decide (t4174.1 ≤ a4153) = false := decide_eq_false c4244
          clear c4244
          go_wp2_with fail
          obtain ⟨t4195, HA4252, H⟩ := bind_some H
          refine (ground_Ground_Conf.calls l4142 t4174.2.2.2 a4148 a4149 a4150 a4151 g4138 g4140 A4143 l4142.length n4145 t4195 _ ⟨HGl0.out.pass HS.out⟩ ⟨HS.out.begin⟩ HA4252).mono ?_
          rintro e_ w4253 ⟨rfl, hS⟩
          replace HS : Aside0 (Sep FF w [b21 g4138 g4140 a4148 a4149 a4150 a4151, b20 g4140 A4143 l4142.length n4145 t4174.2.2.2, r7 A4143 l4142.length n4145 l4142, b10 g4171 0 0] w4253) := ⟨HS.out.call hS⟩
          clear hS
          have fl4254 : ∀ w, (Instr.field 30 (.agg #[.int .i64 t4195.1, .int .i64 t4195.2.1, .int .i64 t4195.2.2.1, .int .i64 t4195.2.2.2]) 1).run Tryd.prog w = .ok (.int .i64 t4195.2.1) w := fun _ => by kernel_rfl
          go_wp2_with fail
          clear fl4254
          obtain ⟨t4199, HA4255, H⟩ := bind_some H
          refine (shape_Place.calls _ t4195.2.1 (wrap64 (t4174.1 + t4174.2.1)) (wrap64 (a4153)) t4199 _ ⟨HGl0.out.pass (l := []) HS.out⟩ ⟨Sep.start _⟩ HA4255).mono ?_
          rintro e_ w4256 ⟨rfl, hS⟩
          replace HS : Aside0 (Sep FF w [b21 g4138 g4140 a4148 a4149 a4150 a4151, b20 g4140 A4143 l4142.length n4145 t4174.2.2.2, r7 A4143 l4142.length n4145 l4142, b10 g4171 0 0] w4256) := ⟨HS.out.call hS⟩
          clear hS
          by_cases c4257 : t4199.2.2 = 0
          · have H := if_yes c4257 H
            have c4257b0 : (t4199.2.2 == 0) = true := beq_iff_eq.mpr c4257
            have c4257b1 : (t4199.2.2 != 0) = false := bne_eq_false_iff_eq.mpr c4257
            clear c4257
            by_cases c4258 : t4199.1 < 0
            · have H := if_yes c4258 H
              have c4258b0 : decide (t4199.1 < 0) = true := decide_eq_true c4258
              clear c4258
              have hc4259 : w4256.cell? ⟨g4171, 0, none⟩ = some (.int .i64 0) := blk_cellv (HS.out.at3) 0 rfl
              have hz4260 : w4256.frozen? ⟨g4171, 0, none⟩ = false := blk_fz (HS.out.at3) 0
              have hc4261 : w4256.cell? ⟨g4171, 1, none⟩ = some (.int .i64 0) := blk_cellv (HS.out.at3) 1 rfl
              have hz4262 : w4256.frozen? ⟨g4171, 1, none⟩ = false := blk_fz (HS.out.at3) 1
              go_wp2_with (first | ((with_reducible refine gate_store (t := 142) (p := 8) rfl ?_); refine store_event (w1 := (World.setCell (World.setCell w4256 ⟨g4171, 0, none⟩ (.int .i64 (wrap64 (a4152 - 1)))) ⟨g4171, 1, none⟩ (.int .i64 t4199.2.1))) rfl (t := 142) (p := 8) rfl rfl ?hr ?_; (case hr => first | (go_simp; done) | (go_simp; rfl)); intro w4263 hst; clear hc4259 hz4260 hc4261 hz4262; have hq0 : Sep FF w [b21 g4138 g4140 a4148 a4149 a4150 a4151, b20 g4140 A4143 l4142.length n4145 t4174.2.2.2, r7 A4143 l4142.length n4145 l4142, b10 g4171 (wrap64 (a4152 - 1)) 0] (World.setCell w4256 ⟨g4171, 0, none⟩ (.int .i64 (wrap64 (a4152 - 1)))) := (HS.out).set1 (l1 := [b21 g4138 g4140 a4148 a4149 a4150 a4151, b20 g4140 A4143 l4142.length n4145 t4174.2.2.2, r7 A4143 l4142.length n4145 l4142]) (l2 := []) 0 (.int .i64 (wrap64 (a4152 - 1))); have hq1 : Sep FF w [b21 g4138 g4140 a4148 a4149 a4150 a4151, b20 g4140 A4143 l4142.length n4145 t4174.2.2.2, r7 A4143 l4142.length n4145 l4142, b10 g4171 (wrap64 (a4152 - 1)) t4199.2.1] (World.setCell (World.setCell w4256 ⟨g4171, 0, none⟩ (.int .i64 (wrap64 (a4152 - 1)))) ⟨g4171, 1, none⟩ (.int .i64 t4199.2.1)) := (hq0).set1 (l1 := [b21 g4138 g4140 a4148 a4149 a4150 a4151, b20 g4140 A4143 l4142.length n4145 t4174.2.2.2, r7 A4143 l4142.length n4145 l4142]) (l2 := []) 1 (.int .i64 t4199.2.1); replace HS : Aside0 (Sep FF w [b21 g4138 g4140 a4148 a4149 a4150 a4151, b20 g4140 A4143 l4142.length n4145 t4174.2.2.2, r7 A4143 l4142.length n4145 l4142, b10 g4171 (wrap64 (a4152 - 1)) t4199.2.1] w4263) := ⟨by rw [hst]; exact hq1⟩; clear hq0 hq1; clear hst))
              have hc4264 : w4263.cell? ⟨g4171, 0, none⟩ = some (.int .i64 (wrap64 (a4152 - 1))) := blk_cellv (HS.out.at3) 0 rfl
              have hc4265 : w4263.cell? ⟨g4171, 1, none⟩ = some (.int .i64 t4199.2.1) := blk_cellv (HS.out.at3) 1 rfl
              refine bodyPost_ret (v := .tuple #[.agg #[.int .i64 (wrap64 (a4152 - 1)), .int .i64 t4199.2.1], .int .i64 0]) (by simp [results, Tryd.results116, go_sem, hc4264, hc4265]) rfl ?_
              rw [← some_eq H]
              exact ⟨(by first | rfl | (simp [IntKind.wrap_u32]; done)), HS.out.sub (.cons_cons _ (.cons_cons _ (.cons_cons _ (.cons _ .slnil))))⟩
            · have H := if_no c4258 H
              have c4258b0 : decide (t4199.1 < 0) = false := decide_eq_false c4258
              clear c4258
              go_wp2_with fail
              obtain ⟨t4211, HA4266, H⟩ := bind_some H
              refine (ground_Ground_Word.calls l4142 t4174.2.2.2 a4148 a4149 a4150 a4151 (wrap64 (a4152 - 1)) (wrap64 (8 + t4199.1)) g4138 g4140 A4143 l4142.length n4145 t4211 _ ⟨HGl0.out.pass HS.out⟩ ⟨HS.out.begin⟩ HA4266).mono ?_
              rintro e_ w4267 ⟨rfl, hS⟩
              replace HS : Aside0 (Sep FF w [b21 g4138 g4140 a4148 a4149 a4150 a4151, b20 g4140 A4143 l4142.length n4145 t4211.2, r7 A4143 l4142.length n4145 l4142, b10 g4171 0 0] w4267) := ⟨HS.out.call hS⟩
              clear hS
              by_cases c4268 : (wrap64 (t4211.1)) = 0
              · have H := if_yes c4268 H
                have c4268b0 : ((wrap64 (t4211.1)) == 0) = true := beq_iff_eq.mpr c4268
                have c4268b1 : ((wrap64 (t4211.1)) != 0) = false := bne_eq_false_iff_eq.mpr c4268
                clear c4268
                have hc4269 : w4267.cell? ⟨g4171, 0, none⟩ = some (.int .i64 0) := blk_cellv (HS.out.at3) 0 rfl
                have hz4270 : w4267.frozen? ⟨g4171, 0, none⟩ = false := blk_fz (HS.out.at3) 0
                have hc4271 : w4267.cell? ⟨g4171, 1, none⟩ = some (.int .i64 0) := blk_cellv (HS.out.at3) 1 rfl
                have hz4272 : w4267.frozen? ⟨g4171, 1, none⟩ = false := blk_fz (HS.out.at3) 1
                go_wp2_with (first | ((with_reducible refine gate_store (t := 142) (p := 8) rfl ?_); refine store_event (w1 := (World.setCell (World.setCell w4267 ⟨g4171, 0, none⟩ (.int .i64 0)) ⟨g4171, 1, none⟩ (.int .i64 0))) rfl (t := 142) (p := 8) rfl rfl ?hr ?_; (case hr => first | (go_simp; done) | (go_simp; rfl)); intro w4273 hst; clear hc4269 hz4270 hc4271 hz4272; have hq0 : Sep FF w [b21 g4138 g4140 a4148 a4149 a4150 a4151, b20 g4140 A4143 l4142.length n4145 t4211.2, r7 A4143 l4142.length n4145 l4142, b10 g4171 0 0] (World.setCell w4267 ⟨g4171, 0, none⟩ (.int .i64 0)) := (HS.out).set1 (l1 := [b21 g4138 g4140 a4148 a4149 a4150 a4151, b20 g4140 A4143 l4142.length n4145 t4211.2, r7 A4143 l4142.length n4145 l4142]) (l2 := []) 0 (.int .i64 0); have hq1 : Sep FF w [b21 g4138 g4140 a4148 a4149 a4150 a4151, b20 g4140 A4143 l4142.length n4145 t4211.2, r7 A4143 l4142.length n4145 l4142, b10 g4171 0 0] (World.setCell (World.setCell w4267 ⟨g4171, 0, none⟩ (.int .i64 0)) ⟨g4171, 1, none⟩ (.int .i64 0)) := (hq0).set1 (l1 := [b21 g4138 g4140 a4148 a4149 a4150 a4151, b20 g4140 A4143 l4142.length n4145 t4211.2, r7 A4143 l4142.length n4145 l4142]) (l2 := []) 1 (.int .i64 0); replace HS : Aside0 (Sep FF w [b21 g4138 g4140 a4148 a4149 a4150 a4151, b20 g4140 A4143 l4142.length n4145 t4211.2, r7 A4143 l4142.length n4145 l4142, b10 g4171 0 0] w4273) := ⟨by rw [hst]; exact hq1⟩; clear hq0 hq1; clear hst))
                have hc4274 : w4273.cell? ⟨g4171, 0, none⟩ = some (.int .i64 0) := blk_cellv (HS.out.at3) 0 rfl
                have hc4275 : w4273.cell? ⟨g4171, 1, none⟩ = some (.int .i64 0) := blk_cellv (HS.out.at3) 1 rfl
                refine bodyPost_ret (v := .tuple #[.agg #[.int .i64 0, .int .i64 0], .int .i64 7]) (by simp [results, Tryd.results116, go_sem, hc4274, hc4275]) rfl ?_
                rw [← some_eq H]
                exact ⟨(by first | rfl | (simp [IntKind.wrap_u32]; done)), HS.out.sub (.cons_cons _ (.cons_cons _ (.cons_cons _ (.cons _ .slnil))))⟩
              · have H := if_no c4268 H
                have c4268b0 : ((wrap64 (t4211.1)) == 0) = false := beq_eq_false_iff_ne.mpr c4268
                have c4268b1 : ((wrap64 (t4211.1)) != 0) = true := bne_iff_ne.mpr c4268
                clear c4268
                have hc4276 : w4267.cell? ⟨g4171, 0, none⟩ = some (.int .i64 0) := blk_cellv (HS.out.at3) 0 rfl
                have hz4277 : w4267.frozen? ⟨g4171, 0, none⟩ = false := blk_fz (HS.out.at3) 0
                have hc4278 : w4267.cell? ⟨g4171, 1, none⟩ = some (.int .i64 0) := blk_cellv (HS.out.at3) 1 rfl
                have hz4279 : w4267.frozen? ⟨g4171, 1, none⟩ = false := blk_fz (HS.out.at3) 1
                go_wp2_with (first | ((with_reducible refine gate_store (t := 142) (p := 8) rfl ?_); refine store_event (w1 := (World.setCell (World.setCell w4267 ⟨g4171, 0, none⟩ (.int .i64 (wrap64 ((wrap64 (t4211.1)) - 1)))) ⟨g4171, 1, none⟩ (.int .i64 t4199.2.1))) rfl (t := 142) (p := 8) rfl rfl ?hr ?_; (case hr => first | (go_simp; done) | (go_simp; rfl)); intro w4280 hst; clear hc4276 hz4277 hc4278 hz4279; have hq0 : Sep FF w [b21 g4138 g4140 a4148 a4149 a4150 a4151, b20 g4140 A4143 l4142.length n4145 t4211.2, r7 A4143 l4142.length n4145 l4142, b10 g4171 (wrap64 ((wrap64 (t4211.1)) - 1)) 0] (World.setCell w4267 ⟨g4171, 0, none⟩ (.int .i64 (wrap64 ((wrap64 (t4211.1)) - 1)))) := (HS.out).set1 (l1 := [b21 g4138 g4140 a4148 a4149 a4150 a4151, b20 g4140 A4143 l4142.length n4145 t4211.2, r7 A4143 l4142.length n4145 l4142]) (l2 := []) 0 (.int .i64 (wrap64 ((wrap64 (t4211.1)) - 1))); have hq1 : Sep FF w [b21 g4138 g4140 a4148 a4149 a4150 a4151, b20 g4140 A4143 l4142.length n4145 t4211.2, r7 A4143 l4142.length n4145 l4142, b10 g4171 (wrap64 ((wrap64 (t4211.1)) - 1)) t4199.2.1] (World.setCell (World.setCell w4267 ⟨g4171, 0, none⟩ (.int .i64 (wrap64 ((wrap64 (t4211.1)) - 1)))) ⟨g4171, 1, none⟩ (.int .i64 t4199.2.1)) := (hq0).set1 (l1 := [b21 g4138 g4140 a4148 a4149 a4150 a4151, b20 g4140 A4143 l4142.length n4145 t4211.2, r7 A4143 l4142.length n4145 l4142]) (l2 := []) 1 (.int .i64 t4199.2.1); replace HS : Aside0 (Sep FF w [b21 g4138 g4140 a4148 a4149 a4150 a4151, b20 g4140 A4143 l4142.length n4145 t4211.2, r7 A4143 l4142.length n4145 l4142, b10 g4171 (wrap64 ((wrap64 (t4211.1)) - 1)) t4199.2.1] w4280) := ⟨by rw [hst]; exact hq1⟩; clear hq0 hq1; clear hst))
                have hc4281 : w4280.cell? ⟨g4171, 0, none⟩ = some (.int .i64 (wrap64 ((wrap64 (t4211.1)) - 1))) := blk_cellv (HS.out.at3) 0 rfl
                have hc4282 : w4280.cell? ⟨g4171, 1, none⟩ = some (.int .i64 t4199.2.1) := blk_cellv (HS.out.at3) 1 rfl
                refine bodyPost_ret (v := .tuple #[.agg #[.int .i64 (wrap64 ((wrap64 (t4211.1)) - 1)), .int .i64 t4199.2.1], .int .i64 0]) (by simp [results, Tryd.results116, go_sem, hc4281, hc4282]) rfl ?_
                rw [← some_eq H]
                exact ⟨(by first | rfl | (simp [IntKind.wrap_u32]; done)), HS.out.sub (.cons_cons _ (.cons_cons _ (.cons_cons _ (.cons _ .slnil))))⟩
          · have H := if_no c4257 H
            have c4257b0 : (t4199.2.2 == 0) = false := beq_eq_false_iff_ne.mpr c4257
            have c4257b1 : (t4199.2.2 != 0) = true := bne_iff_ne.mpr c4257
            clear c4257
            have hc4283 : w4256.cell? ⟨g4171, 0, none⟩ = some (.int .i64 0) := blk_cellv (HS.out.at3) 0 rfl
            have hz4284 : w4256.frozen? ⟨g4171, 0, none⟩ = false := blk_fz (HS.out.at3) 0
            have hc4285 : w4256.cell? ⟨g4171, 1, none⟩ = some (.int .i64 0) := blk_cellv (HS.out.at3) 1 rfl
            have hz4286 : w4256.frozen? ⟨g4171, 1, none⟩ = false := blk_fz (HS.out.at3) 1
            go_wp2_with (first | ((with_reducible refine gate_store (t := 142) (p := 8) rfl ?_); refine store_event (w1 := (World.setCell (World.setCell w4256 ⟨g4171, 0, none⟩ (.int .i64 0)) ⟨g4171, 1, none⟩ (.int .i64 0))) rfl (t := 142) (p := 8) rfl rfl ?hr ?_; (case hr => first | (go_simp; done) | (go_simp; rfl)); intro w4287 hst; clear hc4283 hz4284 hc4285 hz4286; have hq0 : Sep FF w [b21 g4138 g4140 a4148 a4149 a4150 a4151, b20 g4140 A4143 l4142.length n4145 t4174.2.2.2, r7 A4143 l4142.length n4145 l4142, b10 g4171 0 0] (World.setCell w4256 ⟨g4171, 0, none⟩ (.int .i64 0)) := (HS.out).set1 (l1 := [b21 g4138 g4140 a4148 a4149 a4150 a4151, b20 g4140 A4143 l4142.length n4145 t4174.2.2.2, r7 A4143 l4142.length n4145 l4142]) (l2 := []) 0 (.int .i64 0); have hq1 : Sep FF w [b21 g4138 g4140 a4148 a4149 a4150 a4151, b20 g4140 A4143 l4142.length n4145 t4174.2.2.2, r7 A4143 l4142.length n4145 l4142, b10 g4171 0 0] (World.setCell (World.setCell w4256 ⟨g4171, 0, none⟩ (.int .i64 0)) ⟨g4171, 1, none⟩ (.int .i64 0)) := (hq0).set1 (l1 := [b21 g4138 g4140 a4148 a4149 a4150 a4151, b20 g4140 A4143 l4142.length n4145 t4174.2.2.2, r7 A4143 l4142.length n4145 l4142]) (l2 := []) 1 (.int .i64 0); replace HS : Aside0 (Sep FF w [b21 g4138 g4140 a4148 a4149 a4150 a4151, b20 g4140 A4143 l4142.length n4145 t4174.2.2.2, r7 A4143 l4142.length n4145 l4142, b10 g4171 0 0] w4287) := ⟨by rw [hst]; exact hq1⟩; clear hq0 hq1; clear hst))
            have hc4288 : w4287.cell? ⟨g4171, 0, none⟩ = some (.int .i64 0) := blk_cellv (HS.out.at3) 0 rfl
            have hc4289 : w4287.cell? ⟨g4171, 1, none⟩ = some (.int .i64 0) := blk_cellv (HS.out.at3) 1 rfl
            refine bodyPost_ret (v := .tuple #[.agg #[.int .i64 0, .int .i64 0], .int .i64 t4199.2.2]) (by simp [results, Tryd.results116, go_sem, hc4288, hc4289]) rfl ?_
            rw [← some_eq H]
            exact ⟨(by first | rfl | (simp [IntKind.wrap_u32]; done)), HS.out.sub (.cons_cons _ (.cons_cons _ (.cons_cons _ (.cons _ .slnil))))⟩
  · have H := if_no c4177 H
    have c4177b0 : (t4174.2.2.1 == 0) = false := beq_eq_false_iff_ne.mpr c4177
    have c4177b1 : (t4174.2.2.1 != 0) = true := bne_iff_ne.mpr c4177
    clear c4177
    have hc4290 : w4176.cell? ⟨g4171, 0, none⟩ = some (.int .i64 0) := blk_cellv (HS.out.at3) 0 rfl
    have hz4291 : w4176.frozen? ⟨g4171, 0, none⟩ = false := blk_fz (HS.out.at3) 0
    have hc4292 : w4176.cell? ⟨g4171, 1, none⟩ = some (.int .i64 0) := blk_cellv (HS.out.at3) 1 rfl
    have hz4293 : w4176.frozen? ⟨g4171, 1, none⟩ = false := blk_fz (HS.out.at3) 1
    go_wp2_with (first | ((with_reducible refine gate_store (t := 142) (p := 8) rfl ?_); refine store_event (w1 := (World.setCell (World.setCell w4176 ⟨g4171, 0, none⟩ (.int .i64 0)) ⟨g4171, 1, none⟩ (.int .i64 0))) rfl (t := 142) (p := 8) rfl rfl ?hr ?_; (case hr => first | (go_simp; done) | (go_simp; rfl)); intro w4294 hst; clear hc4290 hz4291 hc4292 hz4293; have hq0 : Sep FF w [b21 g4138 g4140 a4148 a4149 a4150 a4151, b20 g4140 A4143 l4142.length n4145 t4174.2.2.2, r7 A4143 l4142.length n4145 l4142, b10 g4171 0 0] (World.setCell w4176 ⟨g4171, 0, none⟩ (.int .i64 0)) := (HS.out).set1 (l1 := [b21 g4138 g4140 a4148 a4149 a4150 a4151, b20 g4140 A4143 l4142.length n4145 t4174.2.2.2, r7 A4143 l4142.length n4145 l4142]) (l2 := []) 0 (.int .i64 0); have hq1 : Sep FF w [b21 g4138 g4140 a4148 a4149 a4150 a4151, b20 g4140 A4143 l4142.length n4145 t4174.2.2.2, r7 A4143 l4142.length n4145 l4142, b10 g4171 0 0] (World.setCell (World.setCell w4176 ⟨g4171, 0, none⟩ (.int .i64 0)) ⟨g4171, 1, none⟩ (.int .i64 0)) := (hq0).set1 (l1 := [b21 g4138 g4140 a4148 a4149 a4150 a4151, b20 g4140 A4143 l4142.length n4145 t4174.2.2.2, r7 A4143 l4142.length n4145 l4142]) (l2 := []) 1 (.int .i64 0); replace HS : Aside0 (Sep FF w [b21 g4138 g4140 a4148 a4149 a4150 a4151, b20 g4140 A4143 l4142.length n4145 t4174.2.2.2, r7 A4143 l4142.length n4145 l4142, b10 g4171 0 0] w4294) := ⟨by rw [hst]; exact hq1⟩; clear hq0 hq1; clear hst))
    have hc4295 : w4294.cell? ⟨g4171, 0, none⟩ = some (.int .i64 0) := blk_cellv (HS.out.at3) 0 rfl
    have hc4296 : w4294.cell? ⟨g4171, 1, none⟩ = some (.int .i64 0) := blk_cellv (HS.out.at3) 1 rfl
    refine bodyPost_ret (v := .tuple #[.agg #[.int .i64 0, .int .i64 0], .int .i64 t4174.2.2.1]) (by simp [results, Tryd.results116, go_sem, hc4295, hc4296]) rfl ?_
    rw [← some_eq H]
    exact ⟨(by first | rfl | (simp [IntKind.wrap_u32]; done)), HS.out.sub (.cons_cons _ (.cons_cons _ (.cons_cons _ (.cons _ .slnil))))⟩

set_option maxHeartbeats 30000000 in
set_option maxRecDepth 100000 in
theorem obj_SetPtr.calls (k : Nat) (l4124 : List Int) (a4129 : Int) (a4130 : Int) (a4131 : Int) (a4132 : Int) (a4133 : Int) (a4134 : Int) (a4135 : Int) (a4136 : Int) (g4120 : Nat) (g4122 : Nat) (A4125 : Option Addr) (m4126 : Nat) (n4127 : Nat) (r : Int × Int × List Int) (w : World)  (HGl0 : Aside0 (Gl 0 #[.int .i64 0, .int .i64 0, .int .i64 0, .int .i64 0, .int .i64 0] (fps [b21 g4120 g4122 a4130 a4131 a4132 a4133, b20 g4122 A4125 m4126 n4127 a4129, r7 A4125 m4126 n4127 l4124]) w)) (HS : Aside0 (Sep (fps [b21 g4120 g4122 a4130 a4131 a4132 a4133, b20 g4122 A4125 m4126 n4127 a4129, r7 A4125 m4126 n4127 l4124]) w [b21 g4120 g4122 a4130 a4131 a4132 a4133, b20 g4122 A4125 m4126 n4127 a4129, r7 A4125 m4126 n4127 l4124] w)) (H : Aside0 (obj_SetPtr.f k l4124 a4129 a4130 a4131 a4132 a4133 a4134 a4135 a4136 = some r)) :
    Calls Tryd.prog 58 #[.pointer (some ⟨g4120, 0, none⟩), .int .i64 a4134, .int .i64 a4135, .int .i64 a4136] w fun e w' => e = .returned (.int .i64 r.1) ∧ Sep (fps [b21 g4120 g4122 a4130 a4131 a4132 a4133, b20 g4122 A4125 m4126 n4127 a4129, r7 A4125 m4126 n4127 l4124]) w [b21 g4120 g4122 a4130 a4131 a4132 a4133, b20 g4122 A4125 m4126 n4127 r.2.1, r7 A4125 m4126 n4127 r.2.2] w' := by
  generalize (fps [b21 g4120 g4122 a4130 a4131 a4132 a4133, b20 g4122 A4125 m4126 n4127 a4129, r7 A4125 m4126 n4127 l4124]) = FF at HS HGl0 ⊢
  obtain rfl := (row_len (HS.out.at2)).symm
  unfold obj_SetPtr.f at H
  go_enter Tryd.func58, Tryd.ntmps58
  go_wp2_with fail
  obtain ⟨t4333, HA4334, H⟩ := bind_some H
  refine (obj_field.calls _ l4124 a4129 a4130 a4131 a4132 a4133 a4134 a4135 false g4120 g4122 A4125 l4124.length n4127 t4333 _ ⟨HGl0.out.pass HS.out⟩ ⟨HS.out.begin⟩ HA4334).mono ?_
  rintro e_ w4335 ⟨rfl, hS⟩
  replace HS : Aside0 (Sep FF w [b21 g4120 g4122 a4130 a4131 a4132 a4133, b20 g4122 A4125 l4124.length n4127 t4333.2.2.2, r7 A4125 l4124.length n4127 l4124] w4335) := ⟨HS.out.call hS⟩
  clear hS
  by_cases c4344 : t4333.2.2.1 = 0
  · have H := if_yes c4344 H
    have c4344b0 : (t4333.2.2.1 == 0) = true := beq_iff_eq.mpr c4344
    have c4344b1 : (t4333.2.2.1 != 0) = false := bne_eq_false_iff_eq.mpr c4344
    clear c4344
    by_cases c4345 : a4136 < 0
    · have H := if_yes c4345 H
      have c4345b0 : decide (a4136 < 0) = true := decide_eq_true c4345
      clear c4345
      go_wp2_with (first | ((with_reducible refine gate_dst (N := 9) rfl ?_); refine box_on ?hg (N := 9) ?hd (cs := #[.int .i64 0, .int .i64 0]) (t := 142) ?hr ?_; (case hd => rfl); (case hg => rfl); (case hr => first | (go_simp; done) | (go_simp; rfl)); intro g4336 hg w4337 hbox hb; replace HS : Aside0 (Sep FF w [b21 g4120 g4122 a4130 a4131 a4132 a4133, b20 g4122 A4125 l4124.length n4127 t4333.2.2.2, r7 A4125 l4124.length n4127 l4124, b10 g4336 0 0] w4337) := ⟨HS.out.box hg hbox hb⟩; clear hg hbox hb; have hc4339 : w4337.cell? ⟨g4336, 0, none⟩ = some (.int .i64 0) := blk_cellv (HS.out.at3) 0 rfl; have hz4340 : w4337.frozen? ⟨g4336, 0, none⟩ = false := blk_fz (HS.out.at3) 0; have hc4341 : w4337.cell? ⟨g4336, 1, none⟩ = some (.int .i64 0) := blk_cellv (HS.out.at3) 1 rfl; have hz4342 : w4337.frozen? ⟨g4336, 1, none⟩ = false := blk_fz (HS.out.at3) 1) | ((with_reducible refine gate_store (t := 142) (p := 9) rfl ?_); refine store_event (w1 := (World.setCell (World.setCell w4337 ⟨g4336, 0, none⟩ (.int .i64 t4333.1)) ⟨g4336, 1, none⟩ (.int .i64 t4333.2.1))) rfl (t := 142) (p := 9) rfl rfl ?hr ?_; (case hr => first | (go_simp; done) | (go_simp; rfl)); intro w4343 hst; clear hc4339 hz4340 hc4341 hz4342; have hq0 : Sep FF w [b21 g4120 g4122 a4130 a4131 a4132 a4133, b20 g4122 A4125 l4124.length n4127 t4333.2.2.2, r7 A4125 l4124.length n4127 l4124, b10 g4336 t4333.1 0] (World.setCell w4337 ⟨g4336, 0, none⟩ (.int .i64 t4333.1)) := (HS.out).set1 (l1 := [b21 g4120 g4122 a4130 a4131 a4132 a4133, b20 g4122 A4125 l4124.length n4127 t4333.2.2.2, r7 A4125 l4124.length n4127 l4124]) (l2 := []) 0 (.int .i64 t4333.1); have hq1 : Sep FF w [b21 g4120 g4122 a4130 a4131 a4132 a4133, b20 g4122 A4125 l4124.length n4127 t4333.2.2.2, r7 A4125 l4124.length n4127 l4124, b10 g4336 t4333.1 t4333.2.1] (World.setCell (World.setCell w4337 ⟨g4336, 0, none⟩ (.int .i64 t4333.1)) ⟨g4336, 1, none⟩ (.int .i64 t4333.2.1)) := (hq0).set1 (l1 := [b21 g4120 g4122 a4130 a4131 a4132 a4133, b20 g4122 A4125 l4124.length n4127 t4333.2.2.2, r7 A4125 l4124.length n4127 l4124]) (l2 := []) 1 (.int .i64 t4333.2.1); replace HS : Aside0 (Sep FF w [b21 g4120 g4122 a4130 a4131 a4132 a4133, b20 g4122 A4125 l4124.length n4127 t4333.2.2.2, r7 A4125 l4124.length n4127 l4124, b10 g4336 t4333.1 t4333.2.1] w4343) := ⟨by rw [hst]; exact hq1⟩; clear hq0 hq1; clear hst; replace HS : Aside0 (Sep FF w [b21 g4120 g4122 a4130 a4131 a4132 a4133, b20 g4122 A4125 l4124.length n4127 t4333.2.2.2, r7 A4125 l4124.length n4127 l4124] w4343) := ⟨HS.out.sub (.cons_cons _ (.cons_cons _ (.cons_cons _ (.cons _ .slnil))))⟩))
      go_ret
      rw [← some_eq H]
      exact ⟨(by first | rfl | (simp [IntKind.wrap_u32]; done)), HS.out⟩
    · have H := if_no c4345 H
      have c4345b0 : decide (a4136 < 0) = false := decide_eq_false c4345
      clear c4345
      go_wp2_with (first | ((with_reducible refine gate_dst (N := 9) rfl ?_); refine box_on ?hg (N := 9) ?hd (cs := #[.int .i64 0, .int .i64 0]) (t := 142) ?hr ?_; (case hd => rfl); (case hg => rfl); (case hr => first | (go_simp; done) | (go_simp; rfl)); intro g4336 hg w4337 hbox hb; replace HS : Aside0 (Sep FF w [b21 g4120 g4122 a4130 a4131 a4132 a4133, b20 g4122 A4125 l4124.length n4127 t4333.2.2.2, r7 A4125 l4124.length n4127 l4124, b10 g4336 0 0] w4337) := ⟨HS.out.box hg hbox hb⟩; clear hg hbox hb; have hc4339 : w4337.cell? ⟨g4336, 0, none⟩ = some (.int .i64 0) := blk_cellv (HS.out.at3) 0 rfl; have hz4340 : w4337.frozen? ⟨g4336, 0, none⟩ = false := blk_fz (HS.out.at3) 0; have hc4341 : w4337.cell? ⟨g4336, 1, none⟩ = some (.int .i64 0) := blk_cellv (HS.out.at3) 1 rfl; have hz4342 : w4337.frozen? ⟨g4336, 1, none⟩ = false := blk_fz (HS.out.at3) 1) | ((with_reducible refine gate_store (t := 142) (p := 9) rfl ?_); refine store_event (w1 := (World.setCell (World.setCell w4337 ⟨g4336, 0, none⟩ (.int .i64 t4333.1)) ⟨g4336, 1, none⟩ (.int .i64 t4333.2.1))) rfl (t := 142) (p := 9) rfl rfl ?hr ?_; (case hr => first | (go_simp; done) | (go_simp; rfl)); intro w4343 hst; clear hc4339 hz4340 hc4341 hz4342; have hq0 : Sep FF w [b21 g4120 g4122 a4130 a4131 a4132 a4133, b20 g4122 A4125 l4124.length n4127 t4333.2.2.2, r7 A4125 l4124.length n4127 l4124, b10 g4336 t4333.1 0] (World.setCell w4337 ⟨g4336, 0, none⟩ (.int .i64 t4333.1)) := (HS.out).set1 (l1 := [b21 g4120 g4122 a4130 a4131 a4132 a4133, b20 g4122 A4125 l4124.length n4127 t4333.2.2.2, r7 A4125 l4124.length n4127 l4124]) (l2 := []) 0 (.int .i64 t4333.1); have hq1 : Sep FF w [b21 g4120 g4122 a4130 a4131 a4132 a4133, b20 g4122 A4125 l4124.length n4127 t4333.2.2.2, r7 A4125 l4124.length n4127 l4124, b10 g4336 t4333.1 t4333.2.1] (World.setCell (World.setCell w4337 ⟨g4336, 0, none⟩ (.int .i64 t4333.1)) ⟨g4336, 1, none⟩ (.int .i64 t4333.2.1)) := (hq0).set1 (l1 := [b21 g4120 g4122 a4130 a4131 a4132 a4133, b20 g4122 A4125 l4124.length n4127 t4333.2.2.2, r7 A4125 l4124.length n4127 l4124]) (l2 := []) 1 (.int .i64 t4333.2.1); replace HS : Aside0 (Sep FF w [b21 g4120 g4122 a4130 a4131 a4132 a4133, b20 g4122 A4125 l4124.length n4127 t4333.2.2.2, r7 A4125 l4124.length n4127 l4124, b10 g4336 t4333.1 t4333.2.1] w4343) := ⟨by rw [hst]; exact hq1⟩; clear hq0 hq1; clear hst))
      obtain ⟨t4346, HA4347, H⟩ := bind_some H
      refine (ground_Ground_Conf.calls l4124 t4333.2.2.2 a4130 a4131 a4132 a4133 g4120 g4122 A4125 l4124.length n4127 t4346 _ ⟨HGl0.out.pass HS.out⟩ ⟨HS.out.begin⟩ HA4347).mono ?_
      rintro e_ w4348 ⟨rfl, hS⟩
      replace HS : Aside0 (Sep FF w [b21 g4120 g4122 a4130 a4131 a4132 a4133, b20 g4122 A4125 l4124.length n4127 t4333.2.2.2, r7 A4125 l4124.length n4127 l4124, b10 g4336 t4333.1 t4333.2.1] w4348) := ⟨HS.out.call hS⟩
      clear hS
      by_cases c4350 : a4136 > t4346.1
      · have H := if_yes c4350 H
        have c4350b0 : decide (t4346.1 < a4136) = true := decide_eq_true c4350
        clear c4350
        have fl4349 : ∀ w, (Instr.field 30 (.agg #[.int .i64 t4346.1, .int .i64 t4346.2.1, .int .i64 t4346.2.2.1, .int .i64 t4346.2.2.2]) 0).run Tryd.prog w = .ok (.int .i64 t4346.1) w := fun _ => by kernel_rfl
        replace HS : Aside0 (Sep FF w [b21 g4120 g4122 a4130 a4131 a4132 a4133, b20 g4122 A4125 l4124.length n4127 t4333.2.2.2, r7 A4125 l4124.length n4127 l4124] w4348) := ⟨HS.out.sub (.cons_cons _ (.cons_cons _ (.cons_cons _ (.cons _ .slnil))))⟩
        go_wp2_with fail
        clear fl4349
        go_ret
        rw [← some_eq H]
        exact ⟨(by first | rfl | (simp [IntKind.wrap_u32]; done)), HS.out⟩
      · have H := if_no c4350 H
        have c4350b0 : decide (t4346.1 < a4136) = false := decide_eq_false c4350
        clear c4350
        have fl4349 : ∀ w, (Instr.field 30 (.agg #[.int .i64 t4346.1, .int .i64 t4346.2.1, .int .i64 t4346.2.2.1, .int .i64 t4346.2.2.2]) 0).run Tryd.prog w = .ok (.int .i64 t4346.1) w := fun _ => by kernel_rfl
        have hc4351 : w4348.cell? ⟨g4336, 0, none⟩ = some (.int .i64 t4333.1) := blk_cellv (HS.out.at3) 0 rfl
        have hc4352 : w4348.cell? ⟨g4336, 1, none⟩ = some (.int .i64 t4333.2.1) := blk_cellv (HS.out.at3) 1 rfl
        go_wp2_with fail
        clear fl4349 hc4351 hc4352
        obtain ⟨t4353, HA4354, H⟩ := bind_some H
        refine (ground_Ground_SetWord.calls l4124 t4333.2.2.2 a4130 a4131 a4132 a4133 t4333.1 t4333.2.1 ((a4136) % 4294967296) g4120 g4122 A4125 l4124.length n4127 t4353 _ ⟨HGl0.out.pass HS.out⟩ ⟨HS.out.begin⟩ HA4354).mono ?_
        rintro e_ w4355 ⟨rfl, hS⟩
        replace HS : Aside0 (Sep FF w [b21 g4120 g4122 a4130 a4131 a4132 a4133, b20 g4122 A4125 l4124.length n4127 t4353.2.1, r7 A4125 l4124.length n4127 t4353.2.2, b10 g4336 t4333.1 t4333.2.1] w4355) := ⟨HS.out.call hS⟩
        clear hS
        replace HS : Aside0 (Sep FF w [b21 g4120 g4122 a4130 a4131 a4132 a4133, b20 g4122 A4125 l4124.length n4127 t4353.2.1, r7 A4125 l4124.length n4127 t4353.2.2] w4355) := ⟨HS.out.sub (.cons_cons _ (.cons_cons _ (.cons_cons _ (.cons _ .slnil))))⟩
        go_wp2_with fail
        go_ret
        rw [← some_eq H]
        exact ⟨(by first | rfl | (simp [IntKind.wrap_u32]; done)), HS.out⟩
  · have H := if_no c4344 H
    have c4344b0 : (t4333.2.2.1 == 0) = false := beq_eq_false_iff_ne.mpr c4344
    have c4344b1 : (t4333.2.2.1 != 0) = true := bne_iff_ne.mpr c4344
    clear c4344
    go_wp2_with (first | ((with_reducible refine gate_dst (N := 9) rfl ?_); refine box_on ?hg (N := 9) ?hd (cs := #[.int .i64 0, .int .i64 0]) (t := 142) ?hr ?_; (case hd => rfl); (case hg => rfl); (case hr => first | (go_simp; done) | (go_simp; rfl)); intro g4336 hg w4337 hbox hb; replace HS : Aside0 (Sep FF w [b21 g4120 g4122 a4130 a4131 a4132 a4133, b20 g4122 A4125 l4124.length n4127 t4333.2.2.2, r7 A4125 l4124.length n4127 l4124, b10 g4336 0 0] w4337) := ⟨HS.out.box hg hbox hb⟩; clear hg hbox hb; have hc4339 : w4337.cell? ⟨g4336, 0, none⟩ = some (.int .i64 0) := blk_cellv (HS.out.at3) 0 rfl; have hz4340 : w4337.frozen? ⟨g4336, 0, none⟩ = false := blk_fz (HS.out.at3) 0; have hc4341 : w4337.cell? ⟨g4336, 1, none⟩ = some (.int .i64 0) := blk_cellv (HS.out.at3) 1 rfl; have hz4342 : w4337.frozen? ⟨g4336, 1, none⟩ = false := blk_fz (HS.out.at3) 1) | ((with_reducible refine gate_store (t := 142) (p := 9) rfl ?_); refine store_event (w1 := (World.setCell (World.setCell w4337 ⟨g4336, 0, none⟩ (.int .i64 t4333.1)) ⟨g4336, 1, none⟩ (.int .i64 t4333.2.1))) rfl (t := 142) (p := 9) rfl rfl ?hr ?_; (case hr => first | (go_simp; done) | (go_simp; rfl)); intro w4343 hst; clear hc4339 hz4340 hc4341 hz4342; have hq0 : Sep FF w [b21 g4120 g4122 a4130 a4131 a4132 a4133, b20 g4122 A4125 l4124.length n4127 t4333.2.2.2, r7 A4125 l4124.length n4127 l4124, b10 g4336 t4333.1 0] (World.setCell w4337 ⟨g4336, 0, none⟩ (.int .i64 t4333.1)) := (HS.out).set1 (l1 := [b21 g4120 g4122 a4130 a4131 a4132 a4133, b20 g4122 A4125 l4124.length n4127 t4333.2.2.2, r7 A4125 l4124.length n4127 l4124]) (l2 := []) 0 (.int .i64 t4333.1); have hq1 : Sep FF w [b21 g4120 g4122 a4130 a4131 a4132 a4133, b20 g4122 A4125 l4124.length n4127 t4333.2.2.2, r7 A4125 l4124.length n4127 l4124, b10 g4336 t4333.1 t4333.2.1] (World.setCell (World.setCell w4337 ⟨g4336, 0, none⟩ (.int .i64 t4333.1)) ⟨g4336, 1, none⟩ (.int .i64 t4333.2.1)) := (hq0).set1 (l1 := [b21 g4120 g4122 a4130 a4131 a4132 a4133, b20 g4122 A4125 l4124.length n4127 t4333.2.2.2, r7 A4125 l4124.length n4127 l4124]) (l2 := []) 1 (.int .i64 t4333.2.1); replace HS : Aside0 (Sep FF w [b21 g4120 g4122 a4130 a4131 a4132 a4133, b20 g4122 A4125 l4124.length n4127 t4333.2.2.2, r7 A4125 l4124.length n4127 l4124, b10 g4336 t4333.1 t4333.2.1] w4343) := ⟨by rw [hst]; exact hq1⟩; clear hq0 hq1; clear hst; replace HS : Aside0 (Sep FF w [b21 g4120 g4122 a4130 a4131 a4132 a4133, b20 g4122 A4125 l4124.length n4127 t4333.2.2.2, r7 A4125 l4124.length n4127 l4124] w4343) := ⟨HS.out.sub (.cons_cons _ (.cons_cons _ (.cons_cons _ (.cons _ .slnil))))⟩))
    go_ret
    rw [← some_eq H]
    exact ⟨(by first | rfl | (simp [IntKind.wrap_u32]; done)), HS.out⟩

set_option maxHeartbeats 30000000 in
set_option maxRecDepth 100000 in
theorem obj_Ptr.calls (k : Nat) (l4364 : List Int) (a4369 : Int) (a4370 : Int) (a4371 : Int) (a4372 : Int) (a4373 : Int) (a4374 : Int) (a4375 : Int) (g4360 : Nat) (g4362 : Nat) (A4365 : Option Addr) (m4366 : Nat) (n4367 : Nat) (r : Int × Int × Int) (w : World)  (HGl0 : Aside0 (Gl 0 #[.int .i64 0, .int .i64 0, .int .i64 0, .int .i64 0, .int .i64 0] (fps [b21 g4360 g4362 a4370 a4371 a4372 a4373, b20 g4362 A4365 m4366 n4367 a4369, r7 A4365 m4366 n4367 l4364]) w)) (HS : Aside0 (Sep (fps [b21 g4360 g4362 a4370 a4371 a4372 a4373, b20 g4362 A4365 m4366 n4367 a4369, r7 A4365 m4366 n4367 l4364]) w [b21 g4360 g4362 a4370 a4371 a4372 a4373, b20 g4362 A4365 m4366 n4367 a4369, r7 A4365 m4366 n4367 l4364] w)) (H : Aside0 (obj_Ptr.f k l4364 a4369 a4370 a4371 a4372 a4373 a4374 a4375 = some r)) :
    Calls Tryd.prog 59 #[.pointer (some ⟨g4360, 0, none⟩), .int .i64 a4374, .int .i64 a4375] w fun e w' => e = .returned (.tuple #[.int .i64 r.1, .int .i64 r.2.1]) ∧ Sep (fps [b21 g4360 g4362 a4370 a4371 a4372 a4373, b20 g4362 A4365 m4366 n4367 a4369, r7 A4365 m4366 n4367 l4364]) w [b21 g4360 g4362 a4370 a4371 a4372 a4373, b20 g4362 A4365 m4366 n4367 r.2.2, r7 A4365 m4366 n4367 l4364] w' := by
  generalize (fps [b21 g4360 g4362 a4370 a4371 a4372 a4373, b20 g4362 A4365 m4366 n4367 a4369, r7 A4365 m4366 n4367 l4364]) = FF at HS HGl0 ⊢
  obtain rfl := (row_len (HS.out.at2)).symm
  unfold obj_Ptr.f at H
  go_enter Tryd.func59, Tryd.ntmps59
  go_wp2_with fail
  obtain ⟨t4393, HA4394, H⟩ := bind_some H
  refine (obj_field.calls _ l4364 a4369 a4370 a4371 a4372 a4373 a4374 a4375 false g4360 g4362 A4365 l4364.length n4367 t4393 _ ⟨HGl0.out.pass HS.out⟩ ⟨HS.out.begin⟩ HA4394).mono ?_
  rintro e_ w4395 ⟨rfl, hS⟩
  replace HS : Aside0 (Sep FF w [b21 g4360 g4362 a4370 a4371 a4372 a4373, b20 g4362 A4365 l4364.length n4367 t4393.2.2.2, r7 A4365 l4364.length n4367 l4364] w4395) := ⟨HS.out.call hS⟩
  clear hS
  by_cases c4404 : t4393.2.2.1 = 0
  · have H := if_yes c4404 H
    have c4404b0 : (t4393.2.2.1 == 0) = true := beq_iff_eq.mpr c4404
    have c4404b1 : (t4393.2.2.1 != 0) = false := bne_eq_false_iff_eq.mpr c4404
    clear c4404
    go_wp2_with (first | ((with_reducible refine gate_dst (N := 8) rfl ?_); refine box_on ?hg (N := 8) ?hd (cs := #[.int .i64 0, .int .i64 0]) (t := 142) ?hr ?_; (case hd => rfl); (case hg => rfl); (case hr => first | (go_simp; done) | (go_simp; rfl)); intro g4396 hg w4397 hbox hb; replace HS : Aside0 (Sep FF w [b21 g4360 g4362 a4370 a4371 a4372 a4373, b20 g4362 A4365 l4364.length n4367 t4393.2.2.2, r7 A4365 l4364.length n4367 l4364, b10 g4396 0 0] w4397) := ⟨HS.out.box hg hbox hb⟩; clear hg hbox hb; have hc4399 : w4397.cell? ⟨g4396, 0, none⟩ = some (.int .i64 0) := blk_cellv (HS.out.at3) 0 rfl; have hz4400 : w4397.frozen? ⟨g4396, 0, none⟩ = false := blk_fz (HS.out.at3) 0; have hc4401 : w4397.cell? ⟨g4396, 1, none⟩ = some (.int .i64 0) := blk_cellv (HS.out.at3) 1 rfl; have hz4402 : w4397.frozen? ⟨g4396, 1, none⟩ = false := blk_fz (HS.out.at3) 1) | ((with_reducible refine gate_store (t := 142) (p := 8) rfl ?_); refine store_event (w1 := (World.setCell (World.setCell w4397 ⟨g4396, 0, none⟩ (.int .i64 t4393.1)) ⟨g4396, 1, none⟩ (.int .i64 t4393.2.1))) rfl (t := 142) (p := 8) rfl rfl ?hr ?_; (case hr => first | (go_simp; done) | (go_simp; rfl)); intro w4403 hst; clear hc4399 hz4400 hc4401 hz4402; have hq0 : Sep FF w [b21 g4360 g4362 a4370 a4371 a4372 a4373, b20 g4362 A4365 l4364.length n4367 t4393.2.2.2, r7 A4365 l4364.length n4367 l4364, b10 g4396 t4393.1 0] (World.setCell w4397 ⟨g4396, 0, none⟩ (.int .i64 t4393.1)) := (HS.out).set1 (l1 := [b21 g4360 g4362 a4370 a4371 a4372 a4373, b20 g4362 A4365 l4364.length n4367 t4393.2.2.2, r7 A4365 l4364.length n4367 l4364]) (l2 := []) 0 (.int .i64 t4393.1); have hq1 : Sep FF w [b21 g4360 g4362 a4370 a4371 a4372 a4373, b20 g4362 A4365 l4364.length n4367 t4393.2.2.2, r7 A4365 l4364.length n4367 l4364, b10 g4396 t4393.1 t4393.2.1] (World.setCell (World.setCell w4397 ⟨g4396, 0, none⟩ (.int .i64 t4393.1)) ⟨g4396, 1, none⟩ (.int .i64 t4393.2.1)) := (hq0).set1 (l1 := [b21 g4360 g4362 a4370 a4371 a4372 a4373, b20 g4362 A4365 l4364.length n4367 t4393.2.2.2, r7 A4365 l4364.length n4367 l4364]) (l2 := []) 1 (.int .i64 t4393.2.1); replace HS : Aside0 (Sep FF w [b21 g4360 g4362 a4370 a4371 a4372 a4373, b20 g4362 A4365 l4364.length n4367 t4393.2.2.2, r7 A4365 l4364.length n4367 l4364, b10 g4396 t4393.1 t4393.2.1] w4403) := ⟨by rw [hst]; exact hq1⟩; clear hq0 hq1; clear hst; have hc4405 : w4403.cell? ⟨g4396, 0, none⟩ = some (.int .i64 t4393.1) := blk_cellv (HS.out.at3) 0 rfl; have hc4406 : w4403.cell? ⟨g4396, 1, none⟩ = some (.int .i64 t4393.2.1) := blk_cellv (HS.out.at3) 1 rfl))
    clear hc4405 hc4406
    obtain ⟨t4407, HA4408, H⟩ := bind_some H
    refine (ground_Ground_Word.calls l4364 t4393.2.2.2 a4370 a4371 a4372 a4373 t4393.1 t4393.2.1 g4360 g4362 A4365 l4364.length n4367 t4407 _ ⟨HGl0.out.pass HS.out⟩ ⟨HS.out.begin⟩ HA4408).mono ?_
    rintro e_ w4409 ⟨rfl, hS⟩
    replace HS : Aside0 (Sep FF w [b21 g4360 g4362 a4370 a4371 a4372 a4373, b20 g4362 A4365 l4364.length n4367 t4407.2, r7 A4365 l4364.length n4367 l4364, b10 g4396 t4393.1 t4393.2.1] w4409) := ⟨HS.out.call hS⟩
    clear hS
    replace HS : Aside0 (Sep FF w [b21 g4360 g4362 a4370 a4371 a4372 a4373, b20 g4362 A4365 l4364.length n4367 t4407.2, r7 A4365 l4364.length n4367 l4364] w4409) := ⟨HS.out.sub (.cons_cons _ (.cons_cons _ (.cons_cons _ (.cons _ .slnil))))⟩
    go_wp2_with fail
    go_ret2
    rw [← some_eq H]
    exact ⟨(by first | rfl | (simp [IntKind.wrap_u32]; done)), HS.out⟩
  · have H := if_no c4404 H
    have c4404b0 : (t4393.2.2.1 == 0) = false := beq_eq_false_iff_ne.mpr c4404
    have c4404b1 : (t4393.2.2.1 != 0) = true := bne_iff_ne.mpr c4404
    clear c4404
    go_wp2_with (first | ((with_reducible refine gate_dst (N := 8) rfl ?_); refine box_on ?hg (N := 8) ?hd (cs := #[.int .i64 0, .int .i64 0]) (t := 142) ?hr ?_; (case hd => rfl); (case hg => rfl); (case hr => first | (go_simp; done) | (go_simp; rfl)); intro g4396 hg w4397 hbox hb; replace HS : Aside0 (Sep FF w [b21 g4360 g4362 a4370 a4371 a4372 a4373, b20 g4362 A4365 l4364.length n4367 t4393.2.2.2, r7 A4365 l4364.length n4367 l4364, b10 g4396 0 0] w4397) := ⟨HS.out.box hg hbox hb⟩; clear hg hbox hb; have hc4399 : w4397.cell? ⟨g4396, 0, none⟩ = some (.int .i64 0) := blk_cellv (HS.out.at3) 0 rfl; have hz4400 : w4397.frozen? ⟨g4396, 0, none⟩ = false := blk_fz (HS.out.at3) 0; have hc4401 : w4397.cell? ⟨g4396, 1, none⟩ = some (.int .i64 0) := blk_cellv (HS.out.at3) 1 rfl; have hz4402 : w4397.frozen? ⟨g4396, 1, none⟩ = false := blk_fz (HS.out.at3) 1) | ((with_reducible refine gate_store (t := 142) (p := 8) rfl ?_); refine store_event (w1 := (World.setCell (World.setCell w4397 ⟨g4396, 0, none⟩ (.int .i64 t4393.1)) ⟨g4396, 1, none⟩ (.int .i64 t4393.2.1))) rfl (t := 142) (p := 8) rfl rfl ?hr ?_; (case hr => first | (go_simp; done) | (go_simp; rfl)); intro w4403 hst; clear hc4399 hz4400 hc4401 hz4402; have hq0 : Sep FF w [b21 g4360 g4362 a4370 a4371 a4372 a4373, b20 g4362 A4365 l4364.length n4367 t4393.2.2.2, r7 A4365 l4364.length n4367 l4364, b10 g4396 t4393.1 0] (World.setCell w4397 ⟨g4396, 0, none⟩ (.int .i64 t4393.1)) := (HS.out).set1 (l1 := [b21 g4360 g4362 a4370 a4371 a4372 a4373, b20 g4362 A4365 l4364.length n4367 t4393.2.2.2, r7 A4365 l4364.length n4367 l4364]) (l2 := []) 0 (.int .i64 t4393.1); have hq1 : Sep FF w [b21 g4360 g4362 a4370 a4371 a4372 a4373, b20 g4362 A4365 l4364.length n4367 t4393.2.2.2, r7 A4365 l4364.length n4367 l4364, b10 g4396 t4393.1 t4393.2.1] (World.setCell (World.setCell w4397 ⟨g4396, 0, none⟩ (.int .i64 t4393.1)) ⟨g4396, 1, none⟩ (.int .i64 t4393.2.1)) := (hq0).set1 (l1 := [b21 g4360 g4362 a4370 a4371 a4372 a4373, b20 g4362 A4365 l4364.length n4367 t4393.2.2.2, r7 A4365 l4364.length n4367 l4364]) (l2 := []) 1 (.int .i64 t4393.2.1); replace HS : Aside0 (Sep FF w [b21 g4360 g4362 a4370 a4371 a4372 a4373, b20 g4362 A4365 l4364.length n4367 t4393.2.2.2, r7 A4365 l4364.length n4367 l4364, b10 g4396 t4393.1 t4393.2.1] w4403) := ⟨by rw [hst]; exact hq1⟩; clear hq0 hq1; clear hst; replace HS : Aside0 (Sep FF w [b21 g4360 g4362 a4370 a4371 a4372 a4373, b20 g4362 A4365 l4364.length n4367 t4393.2.2.2, r7 A4365 l4364.length n4367 l4364] w4403) := ⟨HS.out.sub (.cons_cons _ (.cons_cons _ (.cons_cons _ (.cons _ .slnil))))⟩))
    go_ret2
    rw [← some_eq H]
    exact ⟨(by first | rfl | (simp [IntKind.wrap_u32]; done)), HS.out⟩

set_option maxHeartbeats 30000000 in
set_option maxRecDepth 100000 in
theorem chain_Push_1_1.calls (a4557 : Int) (a4558 : Int) (a4559 : Int) (a4560 : Int) (a4561 : Int) (l4569 : List Int) (a4574 : Int) (a4575 : Int) (a4576 : Int) (a4577 : Int) (a4578 : Int) (a4581 : Int) (g4563 : Nat) (g4565 : Nat) (g4567 : Nat) (A4570 : Option Addr) (m4571 : Nat) (n4572 : Nat) (g4580 : Nat) (r : Int × List Int) (w : World)  (HGl0 : Aside0 (Gl 0 #[.int .i64 0, .int .i64 0, .int .i64 0, .int .i64 0, .int .i64 0] (fps [b22 g4563 g4565, b21 g4565 g4567 a4575 a4576 a4577 a4578, b20 g4567 A4570 m4571 n4572 a4574, r7 A4570 m4571 n4572 l4569, b11 g4580 a4581]) w)) (HS : Aside0 (Sep (fps [b22 g4563 g4565, b21 g4565 g4567 a4575 a4576 a4577 a4578, b20 g4567 A4570 m4571 n4572 a4574, r7 A4570 m4571 n4572 l4569, b11 g4580 a4581]) w [b22 g4563 g4565, b21 g4565 g4567 a4575 a4576 a4577 a4578, b20 g4567 A4570 m4571 n4572 a4574, r7 A4570 m4571 n4572 l4569, b11 g4580 a4581] w)) (H : Aside0 (chain_Push_1_1.f a4557 a4558 a4559 a4560 a4561 l4569 a4574 a4575 a4576 a4577 a4578 a4581 = some r)) :
    Calls Tryd.prog 156 #[.agg #[.int .i64 a4557, .int .i64 a4558, .int .i64 a4559], .int .i64 a4560, .int .i64 a4561, .pointer (some ⟨g4563, 0, none⟩), .pointer (some ⟨g4580, 0, none⟩)] w fun e w' => e = .returned (.tuple #[]) ∧ Sep (fps [b22 g4563 g4565, b21 g4565 g4567 a4575 a4576 a4577 a4578, b20 g4567 A4570 m4571 n4572 a4574, r7 A4570 m4571 n4572 l4569, b11 g4580 a4581]) w [b22 g4563 g4565, b21 g4565 g4567 a4575 a4576 a4577 a4578, b20 g4567 A4570 m4571 n4572 r.1, r7 A4570 m4571 n4572 r.2, b11 g4580 a4581] w' := by
  generalize (fps [b22 g4563 g4565, b21 g4565 g4567 a4575 a4576 a4577 a4578, b20 g4567 A4570 m4571 n4572 a4574, r7 A4570 m4571 n4572 l4569, b11 g4580 a4581]) = FF at HS HGl0 ⊢
  obtain rfl := (row_len (HS.out.at3)).symm
  unfold chain_Push_1_1.f at H
  go_enter Tryd.func156, Tryd.ntmps156
  go_wp2_with (first | ((with_reducible refine gate_dst (N := 5) rfl ?_); refine box_on ?hg (N := 5) ?hd (cs := #[.int .i64 a4557, .int .i64 a4558, .int .i64 a4559]) (t := 166) ?hr ?_; (case hd => rfl); (case hg => rfl); (case hr => first | (go_simp; done) | (go_simp; rfl)); intro g4604 hg w4605 hbox hb; replace HS : Aside0 (Sep FF w [b22 g4563 g4565, b21 g4565 g4567 a4575 a4576 a4577 a4578, b20 g4567 A4570 l4569.length n4572 a4574, r7 A4570 l4569.length n4572 l4569, b11 g4580 a4581, b3 g4604 a4557 a4558 a4559] w4605) := ⟨HS.out.box hg hbox hb⟩; clear hg hbox hb))
  refine start_ (n := 8) (S := (fun w' => w'.cell? ⟨g4563, 0, none⟩ = some (.pointer (some ⟨g4565, 0, none⟩)) ∧ w'.cell? ⟨g4580, 0, none⟩ = some (.int .i64 a4581) ∧ w'.cell? ⟨g4604, 0, none⟩ = some (.int .i64 a4557))) (ds := []) #[false, false, false, false, false, false, false, false] (by kernel_rfl) rfl rfl (⟨blk_cellv ((HS.out.drew).at0) 0 rfl, blk_cellv ((HS.out.drew).at4) 0 rfl, blk_cellv ((HS.out.drew).at5) 0 rfl⟩) (fun hHeld => ?_)
  have HS_ := Aside0.mk HS.out.drew
  clear HS
  generalize World.drew _ = w4608 at HS_ hHeld ⊢
  have HS := HS_
  clear HS_
  refine pure_ (i := 3) (N := some 11) (v := ?_) (a' := ?_) #[false, false, false, true, false, false, false, false] rfl rfl (by kernel_rfl) (fun _ _ _ h => h) (Or.inl ⟨by rfl, ?_⟩) ?_ ?_
  rotate_left
  · intro w'
    go_simp
    with_reducible rfl
  rotate_left
  · simp only [Act.put, List.setIfInBounds_toArray, List.set_cons_zero, List.set_cons_succ, i64_w, i32_w]
    rfl
  refine take_ (i := 0) (N := some 8) (v := ?_) (a' := ?_) #[true, false, false, true, false, false, false, false] rfl rfl (by kernel_rfl) (fun _ _ _ h => h) (Or.inl ⟨by rfl, ?_⟩) hHeld ?_ ?_
  rotate_left
  · rintro w' hS'
    obtain ⟨s0, s1, s2⟩ := hS'
    go_simp
    with_reducible rfl
  rotate_left
  · simp only [Act.put, List.setIfInBounds_toArray, List.set_cons_zero, List.set_cons_succ, i64_w, i32_w]
    rfl
  refine take_ (i := 1) (N := some 9) (v := ?_) (a' := ?_) #[true, true, false, true, false, false, false, false] rfl rfl (by kernel_rfl) (fun _ _ _ h => h) (Or.inl ⟨by rfl, ?_⟩) hHeld ?_ ?_
  rotate_left
  · rintro w' hS'
    obtain ⟨s0, s1, s2⟩ := hS'
    go_simp
    with_reducible rfl
  rotate_left
  · simp only [Act.put, List.setIfInBounds_toArray, List.set_cons_zero, List.set_cons_succ, i64_w, i32_w]
    rfl
  refine take_ (i := 2) (N := some 10) (v := ?_) (a' := ?_) #[true, true, true, true, false, false, false, false] rfl rfl (by kernel_rfl) (fun _ _ _ h => h) (Or.inl ⟨by rfl, ?_⟩) hHeld ?_ ?_
  rotate_left
  · rintro w' hS'
    obtain ⟨s0, s1, s2⟩ := hS'
    go_simp
    with_reducible rfl
  rotate_left
  · simp only [Act.put, List.setIfInBounds_toArray, List.set_cons_zero, List.set_cons_succ, i64_w, i32_w]
    rfl
  refine take_ (i := 4) (N := some 12) (v := ?_) (a' := ?_) #[true, true, true, true, true, false, false, false] rfl rfl (by kernel_rfl) (fun _ _ _ h => h) (Or.inl ⟨by rfl, ?_⟩) hHeld ?_ ?_
  rotate_left
  · rintro w' hS'
    obtain ⟨s0, s1, s2⟩ := hS'
    go_simp
    with_reducible rfl
  rotate_left
  · simp only [Act.put, List.setIfInBounds_toArray, List.set_cons_zero, List.set_cons_succ, i64_w, i32_w]
    rfl
  refine one_ (i := 5) (N := some 13) #[true, true, true, true, true, true, false, false] rfl rfl (by kernel_rfl) (by decide) (fun K hK => ?_)
  replace HS : Aside0 (Sep FF w [r7 A4570 l4569.length n4572 l4569, b22 g4563 g4565, b21 g4565 g4567 a4575 a4576 a4577 a4578, b20 g4567 A4570 l4569.length n4572 a4574, b11 g4580 a4581, b3 g4604 a4557 a4558 a4559] w4608) := ⟨HS.out.front 3 (by simp)⟩
  replace HS : Aside0 (Sep FF w [b20 g4567 A4570 l4569.length n4572 a4574, r7 A4570 l4569.length n4572 l4569, b22 g4563 g4565, b21 g4565 g4567 a4575 a4576 a4577 a4578, b11 g4580 a4581, b3 g4604 a4557 a4558 a4559] w4608) := ⟨HS.out.front 3 (by simp)⟩
  replace HS : Aside0 (Sep FF w [b21 g4565 g4567 a4575 a4576 a4577 a4578, b20 g4567 A4570 l4569.length n4572 a4574, r7 A4570 l4569.length n4572 l4569, b22 g4563 g4565, b11 g4580 a4581, b3 g4604 a4557 a4558 a4559] w4608) := ⟨HS.out.front 3 (by simp)⟩
  obtain ⟨t4609, HA4610, H⟩ := bind_some H
  refine goes_ Tryd.func81 (by kernel_rfl) rfl #[.pointer (some ⟨g4565, 0, none⟩), .int .i64 a4557] (by rfl) rfl rfl (by (try simp only [List.map_toArray, List.map_cons, List.map_nil]); first | done | rfl) ?_
  refine (ground_Ground_Reg.calls l4569 a4574 a4575 a4576 a4577 a4578 a4557 g4565 g4567 A4570 l4569.length n4572 t4609 _ ⟨HGl0.out.pass HS.out⟩ ⟨HS.out.begin⟩ HA4610).mono ?_
  rintro e_ w4611 ⟨rfl, hS⟩
  replace HS : Aside0 (Sep FF w [b21 g4565 g4567 a4575 a4576 a4577 a4578, b20 g4567 A4570 l4569.length n4572 t4609.2, r7 A4570 l4569.length n4572 l4569, b22 g4563 g4565, b11 g4580 a4581, b3 g4604 a4557 a4558 a4559] w4611) := ⟨HS.out.call hS⟩
  clear hS
  refine ⟨_, rfl, ?_⟩
  refine hK.out _ _ (⟨blk_cellv (HS.out.at3) 0 rfl, blk_cellv (HS.out.at4) 0 rfl, blk_cellv (HS.out.at5) 0 rfl⟩) (fun hHeld => ?_)
  clear hK K
  refine norm_ (a' := ?_) ?_ ?_
  rotate_left
  · show Act.put _ (some 13) _ = _
    simp only [Act.put, List.setIfInBounds_toArray, List.set_cons_zero, List.set_cons_succ, i64_w, i32_w]
    rfl
  refine pure_ (i := 6) (N := some 14) (v := ?_) (a' := ?_) #[true, true, true, true, true, true, true, false] rfl rfl (by kernel_rfl) (fun _ _ _ h => h) (Or.inl ⟨by rfl, ?_⟩) ?_ ?_
  rotate_left
  · intro w'
    go_simp
    with_reducible rfl
  rotate_left
  · simp only [Act.put, List.setIfInBounds_toArray, List.set_cons_zero, List.set_cons_succ, i64_w, i32_w]
    rfl
  refine one_ (i := 7) (N := some 15) #[true, true, true, true, true, true, true, true] rfl rfl (by kernel_rfl) (by decide) (fun K hK => ?_)
  obtain ⟨t4612, HA4613, H⟩ := bind_some H
  refine goes_ Tryd.func17 (by kernel_rfl) rfl #[.pointer (some ⟨g4565, 0, none⟩), .int .i64 a4581, .int .i64 5, .int .u32 ((t4609.1) % 4294967296)] (by rfl) rfl rfl (by (try simp only [List.map_toArray, List.map_cons, List.map_nil]); first | done | rfl) ?_
  refine (ground_Ground_SetWord.calls l4569 t4609.2 a4575 a4576 a4577 a4578 a4581 5 ((t4609.1) % 4294967296) g4565 g4567 A4570 l4569.length n4572 t4612 _ ⟨HGl0.out.pass HS.out⟩ ⟨HS.out.begin⟩ HA4613).mono ?_
  rintro e_ w4614 ⟨rfl, hS⟩
  replace HS : Aside0 (Sep FF w [b21 g4565 g4567 a4575 a4576 a4577 a4578, b20 g4567 A4570 l4569.length n4572 t4612.2.1, r7 A4570 l4569.length n4572 t4612.2.2, b22 g4563 g4565, b11 g4580 a4581, b3 g4604 a4557 a4558 a4559] w4614) := ⟨HS.out.call hS⟩
  clear hS
  refine ⟨_, rfl, ?_⟩
  refine hK.out _ _ (⟨blk_cellv (HS.out.at3) 0 rfl, blk_cellv (HS.out.at4) 0 rfl, blk_cellv (HS.out.at5) 0 rfl⟩) (fun hHeld => ?_)
  clear hK K
  refine norm_ (a' := ?_) ?_ ?_
  rotate_left
  · show Act.put _ (some 15) _ = _
    simp only [Act.put, List.setIfInBounds_toArray, List.set_cons_zero, List.set_cons_succ, i64_w, i32_w]
    rfl
  refine done_ (by kernel_rfl) ?_
  have hc4615 : w4614.cell? ⟨g4563, 0, none⟩ = some (.pointer (some ⟨g4565, 0, none⟩)) := blk_cellv (HS.out.at3) 0 rfl
  have hc4616 : w4614.cell? ⟨g4604, 0, none⟩ = some (.int .i64 a4557) := blk_cellv (HS.out.at5) 0 rfl
  go_wp2_with fail
  clear hc4615 hc4616
  obtain ⟨t4617, HA4618, H⟩ := bind_some H
  refine (ground_Ground_SetReg.calls t4612.2.2 t4612.2.1 a4575 a4576 a4577 a4578 a4557 a4560 g4565 g4567 A4570 l4569.length n4572 t4617 _ ⟨HGl0.out.pass HS.out⟩ ⟨HS.out.begin⟩ HA4618).mono ?_
  rintro e_ w4619 ⟨rfl, hS⟩
  replace HS : Aside0 (Sep FF w [b21 g4565 g4567 a4575 a4576 a4577 a4578, b20 g4567 A4570 l4569.length n4572 t4617.2.1, r7 A4570 l4569.length n4572 t4617.2.2, b22 g4563 g4565, b11 g4580 a4581, b3 g4604 a4557 a4558 a4559] w4619) := ⟨HS.out.call hS⟩
  clear hS
  by_cases c4620 : a4561 = 0
  · have H := if_yes c4620 H
    have c4620b0 : (a4561 == 0) = true := beq_iff_eq.mpr c4620
    have c4620b1 : (a4561 != 0) = false := bne_eq_false_iff_eq.mpr c4620
    clear c4620
    have hc4621 : w4619.cell? ⟨g4563, 0, none⟩ = some (.pointer (some ⟨g4565, 0, none⟩)) := blk_cellv (HS.out.at3) 0 rfl
    have hc4622 : w4619.cell? ⟨g4604, 1, none⟩ = some (.int .i64 a4558) := blk_cellv (HS.out.at5) 1 rfl
    go_wp2_with fail
    clear hc4621 hc4622
    obtain ⟨t4623, HA4624, H⟩ := bind_some H
    refine (ground_Ground_SetReg.calls t4617.2.2 t4617.2.1 a4575 a4576 a4577 a4578 a4558 a4560 g4565 g4567 A4570 l4569.length n4572 t4623 _ ⟨HGl0.out.pass HS.out⟩ ⟨HS.out.begin⟩ HA4624).mono ?_
    rintro e_ w4625 ⟨rfl, hS⟩
    replace HS : Aside0 (Sep FF w [b21 g4565 g4567 a4575 a4576 a4577 a4578, b20 g4567 A4570 l4569.length n4572 t4623.2.1, r7 A4570 l4569.length n4572 t4623.2.2, b22 g4563 g4565, b11 g4580 a4581, b3 g4604 a4557 a4558 a4559] w4625) := ⟨HS.out.call hS⟩
    clear hS
    replace HS : Aside0 (Sep FF w [b21 g4565 g4567 a4575 a4576 a4577 a4578, b20 g4567 A4570 l4569.length n4572 t4623.2.1, r7 A4570 l4569.length n4572 t4623.2.2, b22 g4563 g4565, b11 g4580 a4581] w4625) := ⟨HS.out.sub (.cons_cons _ (.cons_cons _ (.cons_cons _ (.cons_cons _ (.cons_cons _ (.cons _ .slnil))))))⟩
    go_wp2_with fail
    first | go_end0 | refine bodyPost_ret (results_none rfl _ _ _) rfl ?_
    rw [← some_eq H]
    exact ⟨rfl, ((((((HS.out).front 4 (by simp)).front 3 (by simp)).front 3 (by simp)).front 3 (by simp)).front 4 (by simp)).keep (l := [b22 g4563 g4565, b21 g4565 g4567 a4575 a4576 a4577 a4578, b20 g4567 A4570 l4569.length n4572 t4623.2.1, r7 A4570 l4569.length n4572 t4623.2.2, b11 g4580 a4581]) (rest := [])⟩
  · have H := if_no c4620 H
    have c4620b0 : (a4561 == 0) = false := beq_eq_false_iff_ne.mpr c4620
    have c4620b1 : (a4561 != 0) = true := bne_iff_ne.mpr c4620
    clear c4620
    go_wp2_with fail
    first | go_end0 | refine bodyPost_ret (results_none rfl _ _ _) rfl ?_
    rw [← some_eq H]
    exact ⟨rfl, ((((((HS.out).front 4 (by simp)).front 3 (by simp)).front 3 (by simp)).front 3 (by simp)).front 4 (by simp)).keep (l := [b22 g4563 g4565, b21 g4565 g4567 a4575 a4576 a4577 a4578, b20 g4567 A4570 l4569.length n4572 t4617.2.1, r7 A4570 l4569.length n4572 t4617.2.2, b11 g4580 a4581]) (rest := [b3 g4604 a4557 a4558 a4559])⟩

set_option maxHeartbeats 30000000 in
set_option maxRecDepth 100000 in
theorem chain_put_F156.calls (l4513 : List Int) (a4518 : Int) (a4519 : Int) (a4520 : Int) (a4521 : Int) (a4522 : Int) (a4523 : Int) (a4524 : Int) (a4529 : Int) (g4509 : Nat) (g4511 : Nat) (A4514 : Option Addr) (m4515 : Nat) (n4516 : Nat) (g4526 : Nat) (g4528 : Nat) (r : Bool × Int × List Int) (w : World)  (HGl0 : Aside0 (Gl 0 #[.int .i64 0, .int .i64 0, .int .i64 0, .int .i64 0, .int .i64 0] (fps [b21 g4509 g4511 a4519 a4520 a4521 a4522, b20 g4511 A4514 m4515 n4516 a4518, r7 A4514 m4515 n4516 l4513, b22 g4526 g4509, b11 g4528 a4529]) w)) (HS : Aside0 (Sep (fps [b21 g4509 g4511 a4519 a4520 a4521 a4522, b20 g4511 A4514 m4515 n4516 a4518, r7 A4514 m4515 n4516 l4513, b22 g4526 g4509, b11 g4528 a4529]) w [b21 g4509 g4511 a4519 a4520 a4521 a4522, b20 g4511 A4514 m4515 n4516 a4518, r7 A4514 m4515 n4516 l4513, b22 g4526 g4509, b11 g4528 a4529] w)) (H : Aside0 (chain_put_F156.f l4513 a4518 a4519 a4520 a4521 a4522 a4523 a4524 a4529 = some r)) :
    Calls Tryd.prog 142 #[.pointer (some ⟨g4509, 0, none⟩), .int .i64 a4523, .int .i64 a4524, .func (.func 156) #[] #[.pointer (some ⟨g4526, 0, none⟩), .pointer (some ⟨g4528, 0, none⟩)]] w fun e w' => e = .returned (.bool r.1) ∧ Sep (fps [b21 g4509 g4511 a4519 a4520 a4521 a4522, b20 g4511 A4514 m4515 n4516 a4518, r7 A4514 m4515 n4516 l4513, b22 g4526 g4509, b11 g4528 a4529]) w [b21 g4509 g4511 a4519 a4520 a4521 a4522, b20 g4511 A4514 m4515 n4516 r.2.1, r7 A4514 m4515 n4516 r.2.2, b22 g4526 g4509, b11 g4528 a4529] w' := by
  generalize (fps [b21 g4509 g4511 a4519 a4520 a4521 a4522, b20 g4511 A4514 m4515 n4516 a4518, r7 A4514 m4515 n4516 l4513, b22 g4526 g4509, b11 g4528 a4529]) = FF at HS HGl0 ⊢
  obtain rfl := (row_len (HS.out.at2)).symm
  unfold chain_put_F156.f at H
  go_enter Tryd.func142, Tryd.ntmps142
  go_wp2_with fail
  obtain ⟨t4633, HA4634, H⟩ := bind_some H
  refine (chain_of.calls l4513 a4518 a4519 a4520 a4521 a4522 a4523 g4509 g4511 A4514 l4513.length n4516 t4633 _ ⟨HGl0.out.pass HS.out⟩ ⟨HS.out.begin⟩ HA4634).mono ?_
  rintro e_ w4635 ⟨rfl, hS⟩
  replace HS : Aside0 (Sep FF w [b21 g4509 g4511 a4519 a4520 a4521 a4522, b20 g4511 A4514 l4513.length n4516 a4518, r7 A4514 l4513.length n4516 l4513, b22 g4526 g4509, b11 g4528 a4529] w4635) := ⟨HS.out.call hS⟩
  clear hS
  by_cases c4646 : t4633.2.2.2 = true
  · have H := if_yes c4646 H
    have c4646b0 : t4633.2.2.2 = true := c4646
    have c4646b1 : (!t4633.2.2.2) = false := by rw [c4646b0]; rfl
    try rw [c4646b1]
    clear c4646
    by_cases c4647 : a4524 < 0
    · have H := if_yes c4647 H
      have c4647b0 : decide (a4524 < 0) = true := decide_eq_true c4647
      clear c4647
      go_wp2_with (first | ((with_reducible refine gate_dst (N := 9) rfl ?_); refine box_on ?hg (N := 9) ?hd (cs := #[.int .i64 0, .int .i64 0, .int .i64 0]) (t := 166) ?hr ?_; (case hd => rfl); (case hg => rfl); (case hr => first | (go_simp; done) | (go_simp; rfl)); intro g4636 hg w4637 hbox hb; replace HS : Aside0 (Sep FF w [b21 g4509 g4511 a4519 a4520 a4521 a4522, b20 g4511 A4514 l4513.length n4516 a4518, r7 A4514 l4513.length n4516 l4513, b22 g4526 g4509, b11 g4528 a4529, b3 g4636 0 0 0] w4637) := ⟨HS.out.box hg hbox hb⟩; clear hg hbox hb; have hc4639 : w4637.cell? ⟨g4636, 0, none⟩ = some (.int .i64 0) := blk_cellv (HS.out.at5) 0 rfl; have hz4640 : w4637.frozen? ⟨g4636, 0, none⟩ = false := blk_fz (HS.out.at5) 0; have hc4641 : w4637.cell? ⟨g4636, 1, none⟩ = some (.int .i64 0) := blk_cellv (HS.out.at5) 1 rfl; have hz4642 : w4637.frozen? ⟨g4636, 1, none⟩ = false := blk_fz (HS.out.at5) 1; have hc4643 : w4637.cell? ⟨g4636, 2, none⟩ = some (.int .i64 0) := blk_cellv (HS.out.at5) 2 rfl; have hz4644 : w4637.frozen? ⟨g4636, 2, none⟩ = false := blk_fz (HS.out.at5) 2) | ((with_reducible refine gate_store (t := 166) (p := 9) rfl ?_); refine store_event (w1 := (World.setCell (World.setCell (World.setCell w4637 ⟨g4636, 0, none⟩ (.int .i64 t4633.1)) ⟨g4636, 1, none⟩ (.int .i64 t4633.2.1)) ⟨g4636, 2, none⟩ (.int .i64 t4633.2.2.1))) rfl (t := 166) (p := 9) rfl rfl ?hr ?_; (case hr => first | (go_simp; done) | (go_simp; rfl)); intro w4645 hst; clear hc4639 hz4640 hc4641 hz4642 hc4643 hz4644; replace HS : Aside0 (Sep FF w [b21 g4509 g4511 a4519 a4520 a4521 a4522, b20 g4511 A4514 l4513.length n4516 a4518, r7 A4514 l4513.length n4516 l4513, b22 g4526 g4509, b11 g4528 a4529, b3 g4636 t4633.1 t4633.2.1 t4633.2.2.1] w4645) := ⟨by rw [hst]; exact HS.out.setAll (l1 := [b21 g4509 g4511 a4519 a4520 a4521 a4522, b20 g4511 A4514 l4513.length n4516 a4518, r7 A4514 l4513.length n4516 l4513, b22 g4526 g4509, b11 g4528 a4529]) (l2 := []) [.int .i64 t4633.1, .int .i64 t4633.2.1, .int .i64 t4633.2.2.1] rfl⟩; clear hst; replace HS : Aside0 (Sep FF w [b21 g4509 g4511 a4519 a4520 a4521 a4522, b20 g4511 A4514 l4513.length n4516 a4518, r7 A4514 l4513.length n4516 l4513, b22 g4526 g4509, b11 g4528 a4529] w4645) := ⟨HS.out.sub (.cons_cons _ (.cons_cons _ (.cons_cons _ (.cons_cons _ (.cons_cons _ (.cons _ .slnil))))))⟩))
      go_ret
      rw [← some_eq H]
      exact ⟨(by first | rfl | (simp [IntKind.wrap_u32]; done)), HS.out⟩
    · have H := if_no c4647 H
      have c4647b0 : decide (a4524 < 0) = false := decide_eq_false c4647
      clear c4647
      go_wp2_with (first | ((with_reducible refine gate_dst (N := 9) rfl ?_); refine box_on ?hg (N := 9) ?hd (cs := #[.int .i64 0, .int .i64 0, .int .i64 0]) (t := 166) ?hr ?_; (case hd => rfl); (case hg => rfl); (case hr => first | (go_simp; done) | (go_simp; rfl)); intro g4636 hg w4637 hbox hb; replace HS : Aside0 (Sep FF w [b21 g4509 g4511 a4519 a4520 a4521 a4522, b20 g4511 A4514 l4513.length n4516 a4518, r7 A4514 l4513.length n4516 l4513, b22 g4526 g4509, b11 g4528 a4529, b3 g4636 0 0 0] w4637) := ⟨HS.out.box hg hbox hb⟩; clear hg hbox hb; have hc4639 : w4637.cell? ⟨g4636, 0, none⟩ = some (.int .i64 0) := blk_cellv (HS.out.at5) 0 rfl; have hz4640 : w4637.frozen? ⟨g4636, 0, none⟩ = false := blk_fz (HS.out.at5) 0; have hc4641 : w4637.cell? ⟨g4636, 1, none⟩ = some (.int .i64 0) := blk_cellv (HS.out.at5) 1 rfl; have hz4642 : w4637.frozen? ⟨g4636, 1, none⟩ = false := blk_fz (HS.out.at5) 1; have hc4643 : w4637.cell? ⟨g4636, 2, none⟩ = some (.int .i64 0) := blk_cellv (HS.out.at5) 2 rfl; have hz4644 : w4637.frozen? ⟨g4636, 2, none⟩ = false := blk_fz (HS.out.at5) 2) | ((with_reducible refine gate_store (t := 166) (p := 9) rfl ?_); refine store_event (w1 := (World.setCell (World.setCell (World.setCell w4637 ⟨g4636, 0, none⟩ (.int .i64 t4633.1)) ⟨g4636, 1, none⟩ (.int .i64 t4633.2.1)) ⟨g4636, 2, none⟩ (.int .i64 t4633.2.2.1))) rfl (t := 166) (p := 9) rfl rfl ?hr ?_; (case hr => first | (go_simp; done) | (go_simp; rfl)); intro w4645 hst; clear hc4639 hz4640 hc4641 hz4642 hc4643 hz4644; replace HS : Aside0 (Sep FF w [b21 g4509 g4511 a4519 a4520 a4521 a4522, b20 g4511 A4514 l4513.length n4516 a4518, r7 A4514 l4513.length n4516 l4513, b22 g4526 g4509, b11 g4528 a4529, b3 g4636 t4633.1 t4633.2.1 t4633.2.2.1] w4645) := ⟨by rw [hst]; exact HS.out.setAll (l1 := [b21 g4509 g4511 a4519 a4520 a4521 a4522, b20 g4511 A4514 l4513.length n4516 a4518, r7 A4514 l4513.length n4516 l4513, b22 g4526 g4509, b11 g4528 a4529]) (l2 := []) [.int .i64 t4633.1, .int .i64 t4633.2.1, .int .i64 t4633.2.2.1] rfl⟩; clear hst))
      obtain ⟨t4648, HA4649, H⟩ := bind_some H
      refine (ground_Ground_Conf.calls l4513 a4518 a4519 a4520 a4521 a4522 g4509 g4511 A4514 l4513.length n4516 t4648 _ ⟨HGl0.out.pass HS.out⟩ ⟨HS.out.begin⟩ HA4649).mono ?_
      rintro e_ w4650 ⟨rfl, hS⟩
      replace HS : Aside0 (Sep FF w [b21 g4509 g4511 a4519 a4520 a4521 a4522, b20 g4511 A4514 l4513.length n4516 a4518, r7 A4514 l4513.length n4516 l4513, b22 g4526 g4509, b11 g4528 a4529, b3 g4636 t4633.1 t4633.2.1 t4633.2.2.1] w4650) := ⟨HS.out.call hS⟩
      clear hS
      by_cases c4652 : a4524 ≥ t4648.1
      · have H := if_yes c4652 H
        have c4652b0 : decide (t4648.1 ≤ a4524) = true := decide_eq_true c4652
        clear c4652
        have fl4651 : ∀ w, (Instr.field 30 (.agg #[.int .i64 t4648.1, .int .i64 t4648.2.1, .int .i64 t4648.2.2.1, .int .i64 t4648.2.2.2]) 0).run Tryd.prog w = .ok (.int .i64 t4648.1) w := fun _ => by kernel_rfl
        replace HS : Aside0 (Sep FF w [b21 g4509 g4511 a4519 a4520 a4521 a4522, b20 g4511 A4514 l4513.length n4516 a4518, r7 A4514 l4513.length n4516 l4513, b22 g4526 g4509, b11 g4528 a4529] w4650) := ⟨HS.out.sub (.cons_cons _ (.cons_cons _ (.cons_cons _ (.cons_cons _ (.cons_cons _ (.cons _ .slnil))))))⟩
        go_wp2_with fail
        clear fl4651
        go_ret
        rw [← some_eq H]
        exact ⟨(by first | rfl | (simp [IntKind.wrap_u32]; done)), HS.out⟩
      · have H := if_no c4652 H
        have c4652b0 : decide (t4648.1 ≤ a4524) = false := decide_eq_false c4652
        clear c4652
        have fl4651 : ∀ w, (Instr.field 30 (.agg #[.int .i64 t4648.1, .int .i64 t4648.2.1, .int .i64 t4648.2.2.1, .int .i64 t4648.2.2.2]) 0).run Tryd.prog w = .ok (.int .i64 t4648.1) w := fun _ => by kernel_rfl
        have hc4653 : w4650.cell? ⟨g4636, 2, none⟩ = some (.int .i64 t4633.2.2.1) := blk_cellv (HS.out.at5) 2 rfl
        go_wp2_with fail
        clear fl4651 hc4653
        obtain ⟨t4654, HA4655, H⟩ := bind_some H
        refine (ground_Ground_Reg.calls l4513 a4518 a4519 a4520 a4521 a4522 t4633.2.2.1 g4509 g4511 A4514 l4513.length n4516 t4654 _ ⟨HGl0.out.pass HS.out⟩ ⟨HS.out.begin⟩ HA4655).mono ?_
        rintro e_ w4656 ⟨rfl, hS⟩
        replace HS : Aside0 (Sep FF w [b21 g4509 g4511 a4519 a4520 a4521 a4522, b20 g4511 A4514 l4513.length n4516 t4654.2, r7 A4514 l4513.length n4516 l4513, b22 g4526 g4509, b11 g4528 a4529, b3 g4636 t4633.1 t4633.2.1 t4633.2.2.1] w4656) := ⟨HS.out.call hS⟩
        clear hS
        have hc4657 : w4656.cell? ⟨g4636, 0, none⟩ = some (.int .i64 t4633.1) := blk_cellv (HS.out.at5) 0 rfl
        have hc4658 : w4656.cell? ⟨g4636, 1, none⟩ = some (.int .i64 t4633.2.1) := blk_cellv (HS.out.at5) 1 rfl
        have hc4659 : w4656.cell? ⟨g4636, 2, none⟩ = some (.int .i64 t4633.2.2.1) := blk_cellv (HS.out.at5) 2 rfl
        go_wp2_with fail
        clear hc4657 hc4658 hc4659
        replace HS : Aside0 (Sep FF w [b11 g4528 a4529, b21 g4509 g4511 a4519 a4520 a4521 a4522, b20 g4511 A4514 l4513.length n4516 t4654.2, r7 A4514 l4513.length n4516 l4513, b22 g4526 g4509, b3 g4636 t4633.1 t4633.2.1 t4633.2.2.1] w4656) := ⟨HS.out.front 4 (by simp)⟩
        replace HS : Aside0 (Sep FF w [r7 A4514 l4513.length n4516 l4513, b11 g4528 a4529, b21 g4509 g4511 a4519 a4520 a4521 a4522, b20 g4511 A4514 l4513.length n4516 t4654.2, b22 g4526 g4509, b3 g4636 t4633.1 t4633.2.1 t4633.2.2.1] w4656) := ⟨HS.out.front 3 (by simp)⟩
        replace HS : Aside0 (Sep FF w [b20 g4511 A4514 l4513.length n4516 t4654.2, r7 A4514 l4513.length n4516 l4513, b11 g4528 a4529, b21 g4509 g4511 a4519 a4520 a4521 a4522, b22 g4526 g4509, b3 g4636 t4633.1 t4633.2.1 t4633.2.2.1] w4656) := ⟨HS.out.front 3 (by simp)⟩
        replace HS : Aside0 (Sep FF w [b21 g4509 g4511 a4519 a4520 a4521 a4522, b20 g4511 A4514 l4513.length n4516 t4654.2, r7 A4514 l4513.length n4516 l4513, b11 g4528 a4529, b22 g4526 g4509, b3 g4636 t4633.1 t4633.2.1 t4633.2.2.1] w4656) := ⟨HS.out.front 3 (by simp)⟩
        replace HS : Aside0 (Sep FF w [b22 g4526 g4509, b21 g4509 g4511 a4519 a4520 a4521 a4522, b20 g4511 A4514 l4513.length n4516 t4654.2, r7 A4514 l4513.length n4516 l4513, b11 g4528 a4529, b3 g4636 t4633.1 t4633.2.1 t4633.2.2.1] w4656) := ⟨HS.out.front 4 (by simp)⟩
        obtain ⟨t4660, HA4661, H⟩ := bind_some H
        refine (chain_Push_1_1.calls t4633.1 t4633.2.1 t4633.2.2.1 (wrap64 (a4524 + 1)) t4654.1 l4513 t4654.2 a4519 a4520 a4521 a4522 a4529 g4526 g4509 g4511 A4514 l4513.length n4516 g4528 t4660 _ ⟨HGl0.out.pass HS.out⟩ ⟨HS.out.begin⟩ HA4661).mono ?_
        rintro e_ w4662 ⟨rfl, hS⟩
        replace HS : Aside0 (Sep FF w [b22 g4526 g4509, b21 g4509 g4511 a4519 a4520 a4521 a4522, b20 g4511 A4514 l4513.length n4516 t4660.1, r7 A4514 l4513.length n4516 t4660.2, b11 g4528 a4529, b3 g4636 t4633.1 t4633.2.1 t4633.2.2.1] w4662) := ⟨HS.out.call hS⟩
        clear hS
        have hc4663 : w4662.cell? ⟨g4636, 2, none⟩ = some (.int .i64 t4633.2.2.1) := blk_cellv (HS.out.at5) 2 rfl
        go_wp2_with fail
        clear hc4663
        replace HS : Aside0 (Sep FF w [r7 A4514 l4513.length n4516 t4660.2, b22 g4526 g4509, b21 g4509 g4511 a4519 a4520 a4521 a4522, b20 g4511 A4514 l4513.length n4516 t4660.1, b11 g4528 a4529, b3 g4636 t4633.1 t4633.2.1 t4633.2.2.1] w4662) := ⟨HS.out.front 3 (by simp)⟩
        replace HS : Aside0 (Sep FF w [b20 g4511 A4514 l4513.length n4516 t4660.1, r7 A4514 l4513.length n4516 t4660.2, b22 g4526 g4509, b21 g4509 g4511 a4519 a4520 a4521 a4522, b11 g4528 a4529, b3 g4636 t4633.1 t4633.2.1 t4633.2.2.1] w4662) := ⟨HS.out.front 3 (by simp)⟩
        replace HS : Aside0 (Sep FF w [b21 g4509 g4511 a4519 a4520 a4521 a4522, b20 g4511 A4514 l4513.length n4516 t4660.1, r7 A4514 l4513.length n4516 t4660.2, b22 g4526 g4509, b11 g4528 a4529, b3 g4636 t4633.1 t4633.2.1 t4633.2.2.1] w4662) := ⟨HS.out.front 3 (by simp)⟩
        obtain ⟨t4664, HA4665, H⟩ := bind_some H
        refine (ground_Ground_SetReg.calls t4660.2 t4660.1 a4519 a4520 a4521 a4522 t4633.2.2.1 (wrap64 (t4654.1 + 1)) g4509 g4511 A4514 l4513.length n4516 t4664 _ ⟨HGl0.out.pass HS.out⟩ ⟨HS.out.begin⟩ HA4665).mono ?_
        rintro e_ w4666 ⟨rfl, hS⟩
        replace HS : Aside0 (Sep FF w [b21 g4509 g4511 a4519 a4520 a4521 a4522, b20 g4511 A4514 l4513.length n4516 t4664.2.1, r7 A4514 l4513.length n4516 t4664.2.2, b22 g4526 g4509, b11 g4528 a4529, b3 g4636 t4633.1 t4633.2.1 t4633.2.2.1] w4666) := ⟨HS.out.call hS⟩
        clear hS
        replace HS : Aside0 (Sep FF w [b21 g4509 g4511 a4519 a4520 a4521 a4522, b20 g4511 A4514 l4513.length n4516 t4664.2.1, r7 A4514 l4513.length n4516 t4664.2.2, b22 g4526 g4509, b11 g4528 a4529] w4666) := ⟨HS.out.sub (.cons_cons _ (.cons_cons _ (.cons_cons _ (.cons_cons _ (.cons_cons _ (.cons _ .slnil))))))⟩
        go_wp2_with fail
        go_ret
        rw [← some_eq H]
        exact ⟨(by first | rfl | (simp [IntKind.wrap_u32]; done)), HS.out⟩
  · have H := if_no c4646 H
    have c4646b0 : t4633.2.2.2 = false := by simpa using c4646
    have c4646b1 : (!t4633.2.2.2) = true := by rw [c4646b0]; rfl
    try rw [c4646b1]
    clear c4646
    go_wp2_with (first | ((with_reducible refine gate_dst (N := 9) rfl ?_); refine box_on ?hg (N := 9) ?hd (cs := #[.int .i64 0, .int .i64 0, .int .i64 0]) (t := 166) ?hr ?_; (case hd => rfl); (case hg => rfl); (case hr => first | (go_simp; done) | (go_simp; rfl)); intro g4636 hg w4637 hbox hb; replace HS : Aside0 (Sep FF w [b21 g4509 g4511 a4519 a4520 a4521 a4522, b20 g4511 A4514 l4513.length n4516 a4518, r7 A4514 l4513.length n4516 l4513, b22 g4526 g4509, b11 g4528 a4529, b3 g4636 0 0 0] w4637) := ⟨HS.out.box hg hbox hb⟩; clear hg hbox hb; have hc4639 : w4637.cell? ⟨g4636, 0, none⟩ = some (.int .i64 0) := blk_cellv (HS.out.at5) 0 rfl; have hz4640 : w4637.frozen? ⟨g4636, 0, none⟩ = false := blk_fz (HS.out.at5) 0; have hc4641 : w4637.cell? ⟨g4636, 1, none⟩ = some (.int .i64 0) := blk_cellv (HS.out.at5) 1 rfl; have hz4642 : w4637.frozen? ⟨g4636, 1, none⟩ = false := blk_fz (HS.out.at5) 1; have hc4643 : w4637.cell? ⟨g4636, 2, none⟩ = some (.int .i64 0) := blk_cellv (HS.out.at5) 2 rfl; have hz4644 : w4637.frozen? ⟨g4636, 2, none⟩ = false := blk_fz (HS.out.at5) 2) | ((with_reducible refine gate_store (t := 166) (p := 9) rfl ?_); refine store_event (w1 := (World.setCell (World.setCell (World.setCell w4637 ⟨g4636, 0, none⟩ (.int .i64 t4633.1)) ⟨g4636, 1, none⟩ (.int .i64 t4633.2.1)) ⟨g4636, 2, none⟩ (.int .i64 t4633.2.2.1))) rfl (t := 166) (p := 9) rfl rfl ?hr ?_; (case hr => first | (go_simp; done) | (go_simp; rfl)); intro w4645 hst; clear hc4639 hz4640 hc4641 hz4642 hc4643 hz4644; replace HS : Aside0 (Sep FF w [b21 g4509 g4511 a4519 a4520 a4521 a4522, b20 g4511 A4514 l4513.length n4516 a4518, r7 A4514 l4513.length n4516 l4513, b22 g4526 g4509, b11 g4528 a4529, b3 g4636 t4633.1 t4633.2.1 t4633.2.2.1] w4645) := ⟨by rw [hst]; exact HS.out.setAll (l1 := [b21 g4509 g4511 a4519 a4520 a4521 a4522, b20 g4511 A4514 l4513.length n4516 a4518, r7 A4514 l4513.length n4516 l4513, b22 g4526 g4509, b11 g4528 a4529]) (l2 := []) [.int .i64 t4633.1, .int .i64 t4633.2.1, .int .i64 t4633.2.2.1] rfl⟩; clear hst; replace HS : Aside0 (Sep FF w [b21 g4509 g4511 a4519 a4520 a4521 a4522, b20 g4511 A4514 l4513.length n4516 a4518, r7 A4514 l4513.length n4516 l4513, b22 g4526 g4509, b11 g4528 a4529] w4645) := ⟨HS.out.sub (.cons_cons _ (.cons_cons _ (.cons_cons _ (.cons_cons _ (.cons_cons _ (.cons _ .slnil))))))⟩))
    go_ret
    rw [← some_eq H]
    exact ⟨(by first | rfl | (simp [IntKind.wrap_u32]; done)), HS.out⟩

set_option maxHeartbeats 30000000 in
set_option maxRecDepth 100000 in
theorem chain_Push.calls (l4488 : List Int) (a4493 : Int) (a4494 : Int) (a4495 : Int) (a4496 : Int) (a4497 : Int) (a4498 : Int) (a4499 : Int) (g4484 : Nat) (g4486 : Nat) (A4489 : Option Addr) (m4490 : Nat) (n4491 : Nat) (r : Bool × Int × List Int) (w : World)  (HGl0 : Aside0 (Gl 0 #[.int .i64 0, .int .i64 0, .int .i64 0, .int .i64 0, .int .i64 0] (fps [b21 g4484 g4486 a4494 a4495 a4496 a4497, b20 g4486 A4489 m4490 n4491 a4493, r7 A4489 m4490 n4491 l4488]) w)) (HS : Aside0 (Sep (fps [b21 g4484 g4486 a4494 a4495 a4496 a4497, b20 g4486 A4489 m4490 n4491 a4493, r7 A4489 m4490 n4491 l4488]) w [b21 g4484 g4486 a4494 a4495 a4496 a4497, b20 g4486 A4489 m4490 n4491 a4493, r7 A4489 m4490 n4491 l4488] w)) (H : Aside0 (chain_Push.f l4488 a4493 a4494 a4495 a4496 a4497 a4498 a4499 = some r)) :
    Calls Tryd.prog 140 #[.pointer (some ⟨g4484, 0, none⟩), .int .i64 a4498, .int .i64 a4499] w fun e w' => e = .returned (.bool r.1) ∧ Sep (fps [b21 g4484 g4486 a4494 a4495 a4496 a4497, b20 g4486 A4489 m4490 n4491 a4493, r7 A4489 m4490 n4491 l4488]) w [b21 g4484 g4486 a4494 a4495 a4496 a4497, b20 g4486 A4489 m4490 n4491 r.2.1, r7 A4489 m4490 n4491 r.2.2] w' := by
  generalize (fps [b21 g4484 g4486 a4494 a4495 a4496 a4497, b20 g4486 A4489 m4490 n4491 a4493, r7 A4489 m4490 n4491 l4488]) = FF at HS HGl0 ⊢
  obtain rfl := (row_len (HS.out.at2)).symm
  unfold chain_Push.f at H
  go_enter Tryd.func140, Tryd.ntmps140
  go_wp2_with (first | ((with_reducible refine gate_dst (N := 3) rfl ?_); refine box_on ?hg (N := 3) ?hd (cs := #[.pointer (some ⟨g4484, 0, none⟩)]) (t := 25) ?hr ?_; (case hd => rfl); (case hg => rfl); (case hr => first | (go_simp; done) | (go_simp; rfl)); intro g4670 hg w4671 hbox hb; replace HS : Aside0 (Sep FF w [b21 g4484 g4486 a4494 a4495 a4496 a4497, b20 g4486 A4489 l4488.length n4491 a4493, r7 A4489 l4488.length n4491 l4488, b22 g4670 g4484] w4671) := ⟨HS.out.box hg hbox hb⟩; clear hg hbox hb) | ((with_reducible refine gate_dst (N := 5) rfl ?_); refine box_on ?hg (N := 5) ?hd (cs := #[.int .i64 a4499]) (t := 3) ?hr ?_; (case hd => rfl); (case hg => rfl); (case hr => first | (go_simp; done) | (go_simp; rfl)); intro g4673 hg w4674 hbox hb; replace HS : Aside0 (Sep FF w [b21 g4484 g4486 a4494 a4495 a4496 a4497, b20 g4486 A4489 l4488.length n4491 a4493, r7 A4489 l4488.length n4491 l4488, b22 g4670 g4484, b11 g4673 a4499] w4674) := ⟨HS.out.box hg hbox hb⟩; clear hg hbox hb; have hc4676 : w4674.cell? ⟨g4670, 0, none⟩ = some (.pointer (some ⟨g4484, 0, none⟩)) := blk_cellv (HS.out.at3) 0 rfl; have hc4677 : w4674.cell? ⟨g4673, 0, none⟩ = some (.int .i64 a4499) := blk_cellv (HS.out.at4) 0 rfl))
  clear hc4676 hc4677
  obtain ⟨t4678, HA4679, H⟩ := bind_some H
  refine (chain_put_F156.calls l4488 a4493 a4494 a4495 a4496 a4497 a4498 a4499 a4499 g4484 g4486 A4489 l4488.length n4491 g4670 g4673 t4678 _ ⟨HGl0.out.pass HS.out⟩ ⟨HS.out.begin⟩ HA4679).mono ?_
  rintro e_ w4680 ⟨rfl, hS⟩
  replace HS : Aside0 (Sep FF w [b21 g4484 g4486 a4494 a4495 a4496 a4497, b20 g4486 A4489 l4488.length n4491 t4678.2.1, r7 A4489 l4488.length n4491 t4678.2.2, b22 g4670 g4484, b11 g4673 a4499] w4680) := ⟨HS.out.call hS⟩
  clear hS
  replace HS : Aside0 (Sep FF w [b21 g4484 g4486 a4494 a4495 a4496 a4497, b20 g4486 A4489 l4488.length n4491 t4678.2.1, r7 A4489 l4488.length n4491 t4678.2.2] w4680) := ⟨HS.out.sub (.cons_cons _ (.cons_cons _ (.cons_cons _ (.cons _ (.cons _ .slnil)))))⟩
  go_wp2_with fail
  go_ret
  rw [← some_eq H]
  exact ⟨(by first | rfl | (simp [IntKind.wrap_u32]; done)), HS.out⟩

set_option maxHeartbeats 30000000 in
set_option maxRecDepth 100000 in
theorem pool_Give.calls (l4453 : List Int) (a4458 : Int) (a4459 : Int) (a4460 : Int) (a4461 : Int) (a4462 : Int) (a4463 : Int) (g4449 : Nat) (g4451 : Nat) (A4454 : Option Addr) (m4455 : Nat) (n4456 : Nat) (r : Bool × Int × List Int) (w : World)  (HGl0 : Aside0 (Gl 0 #[.int .i64 0, .int .i64 0, .int .i64 0, .int .i64 0, .int .i64 0] (fps [b21 g4449 g4451 a4459 a4460 a4461 a4462, b20 g4451 A4454 m4455 n4456 a4458, r7 A4454 m4455 n4456 l4453]) w)) (HS : Aside0 (Sep (fps [b21 g4449 g4451 a4459 a4460 a4461 a4462, b20 g4451 A4454 m4455 n4456 a4458, r7 A4454 m4455 n4456 l4453]) w [b21 g4449 g4451 a4459 a4460 a4461 a4462, b20 g4451 A4454 m4455 n4456 a4458, r7 A4454 m4455 n4456 l4453] w)) (H : Aside0 (pool_Give.f l4453 a4458 a4459 a4460 a4461 a4462 a4463 = some r)) :
    Calls Tryd.prog 106 #[.pointer (some ⟨g4449, 0, none⟩), .int .i64 a4463] w fun e w' => e = .returned (.bool r.1) ∧ Sep (fps [b21 g4449 g4451 a4459 a4460 a4461 a4462, b20 g4451 A4454 m4455 n4456 a4458, r7 A4454 m4455 n4456 l4453]) w [b21 g4449 g4451 a4459 a4460 a4461 a4462, b20 g4451 A4454 m4455 n4456 r.2.1, r7 A4454 m4455 n4456 r.2.2] w' := by
  generalize (fps [b21 g4449 g4451 a4459 a4460 a4461 a4462, b20 g4451 A4454 m4455 n4456 a4458, r7 A4454 m4455 n4456 l4453]) = FF at HS HGl0 ⊢
  obtain rfl := (row_len (HS.out.at2)).symm
  unfold pool_Give.f at H
  go_enter Tryd.func106, Tryd.ntmps106
  go_wp2_with fail
  obtain ⟨t4684, HA4685, H⟩ := bind_some H
  refine (ground_Ground_Word.calls l4453 a4458 a4459 a4460 a4461 a4462 a4463 0 g4449 g4451 A4454 l4453.length n4456 t4684 _ ⟨HGl0.out.pass HS.out⟩ ⟨HS.out.begin⟩ HA4685).mono ?_
  rintro e_ w4686 ⟨rfl, hS⟩
  replace HS : Aside0 (Sep FF w [b21 g4449 g4451 a4459 a4460 a4461 a4462, b20 g4451 A4454 l4453.length n4456 t4684.2, r7 A4454 l4453.length n4456 l4453] w4686) := ⟨HS.out.call hS⟩
  clear hS
  go_wp2_with fail
  obtain ⟨t4687, HA4688, H⟩ := bind_some H
  refine (tag_Unpack.calls t4684.1 t4687 _ ⟨HGl0.out.pass (l := []) HS.out⟩ ⟨Sep.start _⟩ HA4688).mono ?_
  rintro e_ w4689 ⟨rfl, hS⟩
  replace HS : Aside0 (Sep FF w [b21 g4449 g4451 a4459 a4460 a4461 a4462, b20 g4451 A4454 l4453.length n4456 t4684.2, r7 A4454 l4453.length n4456 l4453] w4689) := ⟨HS.out.call hS⟩
  clear hS
  by_cases c4691 : t4687.1 = 0
  · have H := if_yes c4691 H
    have c4691b0 : (t4687.1 == 0) = true := beq_iff_eq.mpr c4691
    have c4691b1 : (t4687.1 != 0) = false := bne_eq_false_iff_eq.mpr c4691
    clear c4691
    have fl4690 : ∀ w, (Instr.field 32 (.agg #[.int .i64 t4687.1, .int .i64 t4687.2.1, .int .i64 t4687.2.2.1, .int .i64 t4687.2.2.2.1, .int .i64 t4687.2.2.2.2.1, .int .i64 t4687.2.2.2.2.2.1, .int .i64 t4687.2.2.2.2.2.2]) 0).run Tryd.prog w = .ok (.int .i64 t4687.1) w := fun _ => by kernel_rfl
    go_wp2_with fail
    clear fl4690
    go_ret
    rw [← some_eq H]
    exact ⟨(by first | rfl | (simp [IntKind.wrap_u32]; done)), HS.out⟩
  · have H := if_no c4691 H
    have c4691b0 : (t4687.1 == 0) = false := beq_eq_false_iff_ne.mpr c4691
    have c4691b1 : (t4687.1 != 0) = true := bne_iff_ne.mpr c4691
    clear c4691
    have fl4690 : ∀ w, (Instr.field 32 (.agg #[.int .i64 t4687.1, .int .i64 t4687.2.1, .int .i64 t4687.2.2.1, .int .i64 t4687.2.2.2.1, .int .i64 t4687.2.2.2.2.1, .int .i64 t4687.2.2.2.2.2.1, .int .i64 t4687.2.2.2.2.2.2]) 0).run Tryd.prog w = .ok (.int .i64 t4687.1) w := fun _ => by kernel_rfl
    go_wp2_with fail
    clear fl4690
    obtain ⟨t4692, HA4693, H⟩ := bind_some H
    refine (ground_Ground_SetWord.calls l4453 t4684.2 a4459 a4460 a4461 a4462 a4463 0 0 g4449 g4451 A4454 l4453.length n4456 t4692 _ ⟨HGl0.out.pass HS.out⟩ ⟨HS.out.begin⟩ HA4693).mono ?_
    rintro e_ w4694 ⟨rfl, hS⟩
    replace HS : Aside0 (Sep FF w [b21 g4449 g4451 a4459 a4460 a4461 a4462, b20 g4451 A4454 l4453.length n4456 t4692.2.1, r7 A4454 l4453.length n4456 t4692.2.2] w4694) := ⟨HS.out.call hS⟩
    clear hS
    go_wp2_with fail
    obtain ⟨t4695, HA4696, H⟩ := bind_some H
    refine (chain_Push.calls t4692.2.2 t4692.2.1 a4459 a4460 a4461 a4462 0 a4463 g4449 g4451 A4454 l4453.length n4456 t4695 _ ⟨HGl0.out.pass HS.out⟩ ⟨HS.out.begin⟩ HA4696).mono ?_
    rintro e_ w4697 ⟨rfl, hS⟩
    replace HS : Aside0 (Sep FF w [b21 g4449 g4451 a4459 a4460 a4461 a4462, b20 g4451 A4454 l4453.length n4456 t4695.2.1, r7 A4454 l4453.length n4456 t4695.2.2] w4697) := ⟨HS.out.call hS⟩
    clear hS
    go_wp2_with fail
    go_ret
    rw [← some_eq H]
    exact ⟨(by first | rfl | (simp [IntKind.wrap_u32]; done)), HS.out⟩

set_option maxHeartbeats 30000000 in
set_option maxRecDepth 100000 in
theorem obj_Shed.calls (k : Nat) (l4419 : List Int) (a4424 : Int) (a4425 : Int) (a4426 : Int) (a4427 : Int) (a4428 : Int) (a4429 : Int) (a4430 : Int) (g4415 : Nat) (g4417 : Nat) (A4420 : Option Addr) (m4421 : Nat) (n4422 : Nat) (r : Bool × Int × List Int) (w : World)  (HGl0 : Aside0 (Gl 0 #[.int .i64 0, .int .i64 0, .int .i64 0, .int .i64 0, .int .i64 0] (fps [b21 g4415 g4417 a4425 a4426 a4427 a4428, b20 g4417 A4420 m4421 n4422 a4424, r7 A4420 m4421 n4422 l4419]) w)) (HS : Aside0 (Sep (fps [b21 g4415 g4417 a4425 a4426 a4427 a4428, b20 g4417 A4420 m4421 n4422 a4424, r7 A4420 m4421 n4422 l4419]) w [b21 g4415 g4417 a4425 a4426 a4427 a4428, b20 g4417 A4420 m4421 n4422 a4424, r7 A4420 m4421 n4422 l4419] w)) (H : Aside0 (obj_Shed.f k l4419 a4424 a4425 a4426 a4427 a4428 a4429 a4430 = some r)) :
    Calls Tryd.prog 46 #[.pointer (some ⟨g4415, 0, none⟩), .int .i64 a4429, .int .i64 a4430] w fun e w' => e = .returned (.bool r.1) ∧ Sep (fps [b21 g4415 g4417 a4425 a4426 a4427 a4428, b20 g4417 A4420 m4421 n4422 a4424, r7 A4420 m4421 n4422 l4419]) w [b21 g4415 g4417 a4425 a4426 a4427 a4428, b20 g4417 A4420 m4421 n4422 r.2.1, r7 A4420 m4421 n4422 r.2.2] w' := by
  generalize (fps [b21 g4415 g4417 a4425 a4426 a4427 a4428, b20 g4417 A4420 m4421 n4422 a4424, r7 A4420 m4421 n4422 l4419]) = FF at HS HGl0 ⊢
  obtain rfl := (row_len (HS.out.at2)).symm
  unfold obj_Shed.f at H
  go_enter Tryd.func46, Tryd.ntmps46
  by_cases c4701 : a4430 < 0
  · have H := if_yes c4701 H
    have c4701b0 : decide (a4430 < 0) = true := decide_eq_true c4701
    clear c4701
    go_wp2_with fail
    go_ret
    rw [← some_eq H]
    exact ⟨(by first | rfl | (simp [IntKind.wrap_u32]; done)), HS.out⟩
  · have H := if_no c4701 H
    have c4701b0 : decide (a4430 < 0) = false := decide_eq_false c4701
    clear c4701
    go_wp2_with fail
    obtain ⟨t4702, HA4703, H⟩ := bind_some H
    refine (obj_Blocks.calls _ l4419 a4424 a4425 a4426 a4427 a4428 a4429 g4415 g4417 A4420 l4419.length n4422 t4702 _ ⟨HGl0.out.pass HS.out⟩ ⟨HS.out.begin⟩ HA4703).mono ?_
    rintro e_ w4704 ⟨rfl, hS⟩
    replace HS : Aside0 (Sep FF w [b21 g4415 g4417 a4425 a4426 a4427 a4428, b20 g4417 A4420 l4419.length n4422 t4702.2, r7 A4420 l4419.length n4422 l4419] w4704) := ⟨HS.out.call hS⟩
    clear hS
    by_cases c4705 : a4430 ≥ (wrap64 (t4702.1 - 1))
    · have H := if_yes c4705 H
      have c4705b0 : decide ((wrap64 (t4702.1 - 1)) ≤ a4430) = true := decide_eq_true c4705
      clear c4705
      go_wp2_with fail
      go_ret
      rw [← some_eq H]
      exact ⟨(by first | rfl | (simp [IntKind.wrap_u32]; done)), HS.out⟩
    · have H := if_no c4705 H
      have c4705b0 : decide ((wrap64 (t4702.1 - 1)) ≤ a4430) = false := decide_eq_false c4705
      clear c4705
      go_wp2_with fail
      obtain ⟨t4706, HA4707, H⟩ := bind_some H
      refine (ground_Ground_Word.calls l4419 t4702.2 a4425 a4426 a4427 a4428 (wrap64 (a4429 - 1)) (wrap64 (8 + a4430)) g4415 g4417 A4420 l4419.length n4422 t4706 _ ⟨HGl0.out.pass HS.out⟩ ⟨HS.out.begin⟩ HA4707).mono ?_
      rintro e_ w4708 ⟨rfl, hS⟩
      replace HS : Aside0 (Sep FF w [b21 g4415 g4417 a4425 a4426 a4427 a4428, b20 g4417 A4420 l4419.length n4422 t4706.2, r7 A4420 l4419.length n4422 l4419] w4708) := ⟨HS.out.call hS⟩
      clear hS
      by_cases c4709 : (wrap64 (t4706.1)) = 0
      · have H := if_yes c4709 H
        have c4709b0 : ((wrap64 (t4706.1)) == 0) = true := beq_iff_eq.mpr c4709
        have c4709b1 : ((wrap64 (t4706.1)) != 0) = false := bne_eq_false_iff_eq.mpr c4709
        clear c4709
        go_wp2_with fail
        go_ret
        rw [← some_eq H]
        exact ⟨(by first | rfl | (simp [IntKind.wrap_u32]; done)), HS.out⟩
      · have H := if_no c4709 H
        have c4709b0 : ((wrap64 (t4706.1)) == 0) = false := beq_eq_false_iff_ne.mpr c4709
        have c4709b1 : ((wrap64 (t4706.1)) != 0) = true := bne_iff_ne.mpr c4709
        clear c4709
        go_wp2_with fail
        obtain ⟨t4710, HA4711, H⟩ := bind_some H
        refine (ground_Ground_SetWord.calls l4419 t4706.2 a4425 a4426 a4427 a4428 (wrap64 (a4429 - 1)) (wrap64 (8 + a4430)) 0 g4415 g4417 A4420 l4419.length n4422 t4710 _ ⟨HGl0.out.pass HS.out⟩ ⟨HS.out.begin⟩ HA4711).mono ?_
        rintro e_ w4712 ⟨rfl, hS⟩
        replace HS : Aside0 (Sep FF w [b21 g4415 g4417 a4425 a4426 a4427 a4428, b20 g4417 A4420 l4419.length n4422 t4710.2.1, r7 A4420 l4419.length n4422 t4710.2.2] w4712) := ⟨HS.out.call hS⟩
        clear hS
        go_wp2_with fail
        obtain ⟨t4713, HA4714, H⟩ := bind_some H
        refine (pool_Give.calls t4710.2.2 t4710.2.1 a4425 a4426 a4427 a4428 (wrap64 ((wrap64 (t4706.1)) - 1)) g4415 g4417 A4420 l4419.length n4422 t4713 _ ⟨HGl0.out.pass HS.out⟩ ⟨HS.out.begin⟩ HA4714).mono ?_
        rintro e_ w4715 ⟨rfl, hS⟩
        replace HS : Aside0 (Sep FF w [b21 g4415 g4417 a4425 a4426 a4427 a4428, b20 g4417 A4420 l4419.length n4422 t4713.2.1, r7 A4420 l4419.length n4422 t4713.2.2] w4715) := ⟨HS.out.call hS⟩
        clear hS
        go_wp2_with fail
        go_ret
        rw [← some_eq H]
        exact ⟨(by first | rfl | (simp [IntKind.wrap_u32]; done)), HS.out⟩

set_option maxHeartbeats 30000000 in
set_option maxRecDepth 100000 in
theorem store_Store_Peek.calls (l4793 : List Int) (a4798 : Int) (a4799 : Int) (g4791 : Nat) (A4794 : Option Addr) (m4795 : Nat) (n4796 : Nat) (r : Int) (w : World)  (HGl0 : Aside0 (Gl 0 #[.int .i64 0, .int .i64 0, .int .i64 0, .int .i64 0, .int .i64 0] (fps [b20 g4791 A4794 m4795 n4796 a4798, r7 A4794 m4795 n4796 l4793]) w)) (HS : Aside0 (Sep (fps [b20 g4791 A4794 m4795 n4796 a4798, r7 A4794 m4795 n4796 l4793]) w [b20 g4791 A4794 m4795 n4796 a4798, r7 A4794 m4795 n4796 l4793] w)) (H : Aside0 (store_Store_Peek.f l4793 a4798 a4799 = some r)) :
    Calls Tryd.prog 73 #[.pointer (some ⟨g4791, 0, none⟩), .int .i64 a4799] w fun e w' => e = .returned (.int .u32 r) ∧ Sep (fps [b20 g4791 A4794 m4795 n4796 a4798, r7 A4794 m4795 n4796 l4793]) w [b20 g4791 A4794 m4795 n4796 a4798, r7 A4794 m4795 n4796 l4793] w' := by
  generalize (fps [b20 g4791 A4794 m4795 n4796 a4798, r7 A4794 m4795 n4796 l4793]) = FF at HS HGl0 ⊢
  obtain rfl := (row_len (HS.out.at1)).symm
  unfold store_Store_Peek.f at H
  go_enter Tryd.func73, Tryd.ntmps73
  go_wp2_with fail
  obtain ⟨t4800, HA4801, H⟩ := bind_some H
  refine (store_Store_has.calls l4793 a4798 a4799 g4791 A4794 l4793.length n4796 t4800 _ ⟨HGl0.out.pass HS.out⟩ ⟨HS.out.begin⟩ HA4801).mono ?_
  rintro e_ w4802 ⟨rfl, hS⟩
  replace HS : Aside0 (Sep FF w [b20 g4791 A4794 l4793.length n4796 a4798, r7 A4794 l4793.length n4796 l4793] w4802) := ⟨HS.out.call hS⟩
  clear hS
  by_cases c4803 : t4800 = true
  · have H := if_yes c4803 H
    have c4803b0 : t4800 = true := c4803
    have c4803b1 : (!t4800) = false := by rw [c4803b0]; rfl
    try rw [c4803b1]
    clear c4803
    by_cases c4805 : 0 ≤ a4799
    · have H := if_yes c4805 H
      have c4805b0 : decide (0 ≤ a4799) = true := decide_eq_true c4805
      have c4805p : (0 ≤ a4799) = True := eq_true c4805
      clear c4805
      by_cases c4806 : a4799 < (l4793.length : Int)
      · have H := if_yes c4806 H
        have c4806b0 : decide (a4799 < (l4793.length : Int)) = true := decide_eq_true c4806
        have c4806p : (a4799 < (l4793.length : Int)) = True := eq_true c4806
        clear c4806
        have hc4804 : w4802.cell? ⟨g4791, 0, none⟩ = some (.slice A4794 l4793.length n4796) := blk_cellv (HS.out.at0) 0 rfl
        obtain ⟨g4807, ea⟩ := row_at (HS.out.at1) (by have := (of_decide_eq_true c4805b0); have := (of_decide_eq_true c4806b0); omega); cases ea
        have hx4808 := C_at_int (row_Ci (HS.out.at1)) a4799 (of_decide_eq_true c4805b0) (of_decide_eq_true c4806b0)
        have hx4809 : w4802.cell? ⟨g4807, (a4799).toNat, none⟩ = some (.int .u32 (rd l4793 a4799)) := (row_get 0 (HS.out.at1) a4799 (of_decide_eq_true c4805b0) (of_decide_eq_true c4806b0)).1
        go_wp2_with fail
        clear hc4804 hx4808 hx4809
        go_ret
        rw [← some_eq H]
        exact ⟨(by first | rfl | (simp [IntKind.wrap_u32]; done)), HS.out⟩
      · have H := if_no c4806 H
        have c4806b0 : decide (a4799 < (l4793.length : Int)) = false := decide_eq_false c4806
        clear c4806
        exact (none_no H).elim
    · have H := if_no c4805 H
      have c4805b0 : decide (0 ≤ a4799) = false := decide_eq_false c4805
      clear c4805
      exact (none_no H).elim
  · have H := if_no c4803 H
    have c4803b0 : t4800 = false := by simpa using c4803
    have c4803b1 : (!t4800) = true := by rw [c4803b0]; rfl
    try rw [c4803b1]
    clear c4803
    go_wp2_with fail
    go_ret
    rw [← some_eq H]
    exact ⟨(by first | rfl | (simp [IntKind.wrap_u32]; done)), HS.out⟩

set_option maxHeartbeats 30000000 in
set_option maxRecDepth 100000 in
theorem ground_Ground_SeeReg.calls (l4773 : List Int) (a4778 : Int) (a4779 : Int) (a4780 : Int) (a4781 : Int) (a4782 : Int) (a4783 : Int) (g4769 : Nat) (g4771 : Nat) (A4774 : Option Addr) (m4775 : Nat) (n4776 : Nat) (r : Int) (w : World)  (HGl0 : Aside0 (Gl 0 #[.int .i64 0, .int .i64 0, .int .i64 0, .int .i64 0, .int .i64 0] (fps [b21 g4769 g4771 a4779 a4780 a4781 a4782, b20 g4771 A4774 m4775 n4776 a4778, r7 A4774 m4775 n4776 l4773]) w)) (HS : Aside0 (Sep (fps [b21 g4769 g4771 a4779 a4780 a4781 a4782, b20 g4771 A4774 m4775 n4776 a4778, r7 A4774 m4775 n4776 l4773]) w [b21 g4769 g4771 a4779 a4780 a4781 a4782, b20 g4771 A4774 m4775 n4776 a4778, r7 A4774 m4775 n4776 l4773] w)) (H : Aside0 (ground_Ground_SeeReg.f l4773 a4778 a4779 a4780 a4781 a4782 a4783 = some r)) :
    Calls Tryd.prog 85 #[.pointer (some ⟨g4769, 0, none⟩), .int .i64 a4783] w fun e w' => e = .returned (.int .i64 r) ∧ Sep (fps [b21 g4769 g4771 a4779 a4780 a4781 a4782, b20 g4771 A4774 m4775 n4776 a4778, r7 A4774 m4775 n4776 l4773]) w [b21 g4769 g4771 a4779 a4780 a4781 a4782, b20 g4771 A4774 m4775 n4776 a4778, r7 A4774 m4775 n4776 l4773] w' := by
  generalize (fps [b21 g4769 g4771 a4779 a4780 a4781 a4782, b20 g4771 A4774 m4775 n4776 a4778, r7 A4774 m4775 n4776 l4773]) = FF at HS HGl0 ⊢
  obtain rfl := (row_len (HS.out.at2)).symm
  unfold ground_Ground_SeeReg.f at H
  go_enter Tryd.func85, Tryd.ntmps85
  go_wp2_with fail
  obtain ⟨t4784, HA4785, H⟩ := bind_some H
  refine (ground_Ground_all.calls l4773 a4778 a4779 a4780 a4781 a4782 g4769 g4771 A4774 l4773.length n4776 t4784 _ ⟨HGl0.out.pass HS.out⟩ ⟨HS.out.begin⟩ HA4785).mono ?_
  rintro e_ w4786 ⟨rfl, hS⟩
  replace HS : Aside0 (Sep FF w [b21 g4769 g4771 a4779 a4780 a4781 a4782, b20 g4771 A4774 l4773.length n4776 a4778, r7 A4774 l4773.length n4776 l4773] w4786) := ⟨HS.out.call hS⟩
  clear hS
  go_wp2_with fail
  obtain ⟨t4787, HA4788, H⟩ := bind_some H
  refine (ground_reg.calls a4783 t4787 _ ⟨HGl0.out.pass (l := []) HS.out⟩ ⟨Sep.start _⟩ HA4788).mono ?_
  rintro e_ w4789 ⟨rfl, hS⟩
  replace HS : Aside0 (Sep FF w [b21 g4769 g4771 a4779 a4780 a4781 a4782, b20 g4771 A4774 l4773.length n4776 a4778, r7 A4774 l4773.length n4776 l4773] w4789) := ⟨HS.out.call hS⟩
  clear hS
  go_wp2_with fail
  replace HS : Aside0 (Sep FF w [r7 A4774 l4773.length n4776 l4773, b21 g4769 g4771 a4779 a4780 a4781 a4782, b20 g4771 A4774 l4773.length n4776 a4778] w4789) := ⟨HS.out.front 2 (by simp)⟩
  replace HS : Aside0 (Sep FF w [b20 g4771 A4774 l4773.length n4776 a4778, r7 A4774 l4773.length n4776 l4773, b21 g4769 g4771 a4779 a4780 a4781 a4782] w4789) := ⟨HS.out.front 2 (by simp)⟩
  obtain ⟨t4810, HA4811, H⟩ := bind_some H
  refine (store_Store_Peek.calls l4773 a4778 t4787 g4771 A4774 l4773.length n4776 t4810 _ ⟨HGl0.out.pass HS.out⟩ ⟨HS.out.begin⟩ HA4811).mono ?_
  rintro e_ w4812 ⟨rfl, hS⟩
  replace HS : Aside0 (Sep FF w [b20 g4771 A4774 l4773.length n4776 a4778, r7 A4774 l4773.length n4776 l4773, b21 g4769 g4771 a4779 a4780 a4781 a4782] w4812) := ⟨HS.out.call hS⟩
  clear hS
  go_wp2_with fail
  go_ret
  rw [← some_eq H]
  exact ⟨(by first | rfl | (simp [IntKind.wrap_u32]; done)), ((((HS.out).front 1 (by simp)).front 1 (by simp)).front 2 (by simp)).keep (l := [b21 g4769 g4771 a4779 a4780 a4781 a4782, b20 g4771 A4774 l4773.length n4776 a4778, r7 A4774 l4773.length n4776 l4773]) (rest := [])⟩

set_option maxHeartbeats 30000000 in
set_option maxRecDepth 100000 in
theorem ground_Ground_SeeWord.calls (l4850 : List Int) (a4855 : Int) (a4856 : Int) (a4857 : Int) (a4858 : Int) (a4859 : Int) (a4860 : Int) (a4861 : Int) (g4846 : Nat) (g4848 : Nat) (A4851 : Option Addr) (m4852 : Nat) (n4853 : Nat) (r : Int) (w : World)  (HGl0 : Aside0 (Gl 0 #[.int .i64 0, .int .i64 0, .int .i64 0, .int .i64 0, .int .i64 0] (fps [b21 g4846 g4848 a4856 a4857 a4858 a4859, b20 g4848 A4851 m4852 n4853 a4855, r7 A4851 m4852 n4853 l4850]) w)) (HS : Aside0 (Sep (fps [b21 g4846 g4848 a4856 a4857 a4858 a4859, b20 g4848 A4851 m4852 n4853 a4855, r7 A4851 m4852 n4853 l4850]) w [b21 g4846 g4848 a4856 a4857 a4858 a4859, b20 g4848 A4851 m4852 n4853 a4855, r7 A4851 m4852 n4853 l4850] w)) (H : Aside0 (ground_Ground_SeeWord.f l4850 a4855 a4856 a4857 a4858 a4859 a4860 a4861 = some r)) :
    Calls Tryd.prog 18 #[.pointer (some ⟨g4846, 0, none⟩), .int .i64 a4860, .int .i64 a4861] w fun e w' => e = .returned (.int .u32 r) ∧ Sep (fps [b21 g4846 g4848 a4856 a4857 a4858 a4859, b20 g4848 A4851 m4852 n4853 a4855, r7 A4851 m4852 n4853 l4850]) w [b21 g4846 g4848 a4856 a4857 a4858 a4859, b20 g4848 A4851 m4852 n4853 a4855, r7 A4851 m4852 n4853 l4850] w' := by
  generalize (fps [b21 g4846 g4848 a4856 a4857 a4858 a4859, b20 g4848 A4851 m4852 n4853 a4855, r7 A4851 m4852 n4853 l4850]) = FF at HS HGl0 ⊢
  obtain rfl := (row_len (HS.out.at2)).symm
  unfold ground_Ground_SeeWord.f at H
  go_enter Tryd.func18, Tryd.ntmps18
  go_wp2_with fail
  obtain ⟨t4862, HA4863, H⟩ := bind_some H
  refine (ground_Ground_all.calls l4850 a4855 a4856 a4857 a4858 a4859 g4846 g4848 A4851 l4850.length n4853 t4862 _ ⟨HGl0.out.pass HS.out⟩ ⟨HS.out.begin⟩ HA4863).mono ?_
  rintro e_ w4864 ⟨rfl, hS⟩
  replace HS : Aside0 (Sep FF w [b21 g4846 g4848 a4856 a4857 a4858 a4859, b20 g4848 A4851 l4850.length n4853 a4855, r7 A4851 l4850.length n4853 l4850] w4864) := ⟨HS.out.call hS⟩
  clear hS
  go_wp2_with fail
  obtain ⟨t4865, HA4866, H⟩ := bind_some H
  refine (ground_Ground_word.calls l4850 a4855 a4856 a4857 a4858 a4859 a4860 a4861 g4846 g4848 A4851 l4850.length n4853 t4865 _ ⟨HGl0.out.pass HS.out⟩ ⟨HS.out.begin⟩ HA4866).mono ?_
  rintro e_ w4867 ⟨rfl, hS⟩
  replace HS : Aside0 (Sep FF w [b21 g4846 g4848 a4856 a4857 a4858 a4859, b20 g4848 A4851 l4850.length n4853 a4855, r7 A4851 l4850.length n4853 l4850] w4867) := ⟨HS.out.call hS⟩
  clear hS
  go_wp2_with fail
  replace HS : Aside0 (Sep FF w [r7 A4851 l4850.length n4853 l4850, b21 g4846 g4848 a4856 a4857 a4858 a4859, b20 g4848 A4851 l4850.length n4853 a4855] w4867) := ⟨HS.out.front 2 (by simp)⟩
  replace HS : Aside0 (Sep FF w [b20 g4848 A4851 l4850.length n4853 a4855, r7 A4851 l4850.length n4853 l4850, b21 g4846 g4848 a4856 a4857 a4858 a4859] w4867) := ⟨HS.out.front 2 (by simp)⟩
  obtain ⟨t4868, HA4869, H⟩ := bind_some H
  refine (store_Store_Peek.calls l4850 a4855 t4865 g4848 A4851 l4850.length n4853 t4868 _ ⟨HGl0.out.pass HS.out⟩ ⟨HS.out.begin⟩ HA4869).mono ?_
  rintro e_ w4870 ⟨rfl, hS⟩
  replace HS : Aside0 (Sep FF w [b20 g4848 A4851 l4850.length n4853 a4855, r7 A4851 l4850.length n4853 l4850, b21 g4846 g4848 a4856 a4857 a4858 a4859] w4870) := ⟨HS.out.call hS⟩
  clear hS
  go_wp2_with fail
  go_ret
  rw [← some_eq H]
  exact ⟨(by first | rfl | (simp [IntKind.wrap_u32]; done)), ((((HS.out).front 1 (by simp)).front 1 (by simp)).front 2 (by simp)).keep (l := [b21 g4846 g4848 a4856 a4857 a4858 a4859, b20 g4848 A4851 l4850.length n4853 a4855, r7 A4851 l4850.length n4853 l4850]) (rest := [])⟩

set_option maxHeartbeats 30000000 in
set_option maxRecDepth 100000 in
theorem chain_List.calls (k : Nat) (l4742 : List Int) (a4747 : Int) (a4748 : Int) (a4749 : Int) (a4750 : Int) (a4751 : Int) (a4752 : Int) (g4738 : Nat) (g4740 : Nat) (A4743 : Option Addr) (m4744 : Nat) (n4745 : Nat) (r : List Int) (w : World)  (HGl0 : Aside0 (Gl 0 #[.int .i64 0, .int .i64 0, .int .i64 0, .int .i64 0, .int .i64 0] (fps [b21 g4738 g4740 a4748 a4749 a4750 a4751, b20 g4740 A4743 m4744 n4745 a4747, r7 A4743 m4744 n4745 l4742]) w)) (HS : Aside0 (Sep (fps [b21 g4738 g4740 a4748 a4749 a4750 a4751, b20 g4740 A4743 m4744 n4745 a4747, r7 A4743 m4744 n4745 l4742]) w [b21 g4738 g4740 a4748 a4749 a4750 a4751, b20 g4740 A4743 m4744 n4745 a4747, r7 A4743 m4744 n4745 l4742] w)) (H : Aside0 (chain_List.f k l4742 a4747 a4748 a4749 a4750 a4751 a4752 = some r)) :
    Calls Tryd.prog 138 #[.pointer (some ⟨g4738, 0, none⟩), .int .i64 a4752] w fun e w' => ∃ (A4901 : Option Addr) (m4902 : Nat) (n4903 : Nat), e = .returned (.slice A4901 m4902 n4903) ∧ Sep (fps [b21 g4738 g4740 a4748 a4749 a4750 a4751, b20 g4740 A4743 m4744 n4745 a4747, r7 A4743 m4744 n4745 l4742]) w [b21 g4738 g4740 a4748 a4749 a4750 a4751, b20 g4740 A4743 m4744 n4745 a4747, r7 A4743 m4744 n4745 l4742, r13 A4901 m4902 n4903 r] w' := by
  generalize (fps [b21 g4738 g4740 a4748 a4749 a4750 a4751, b20 g4740 A4743 m4744 n4745 a4747, r7 A4743 m4744 n4745 l4742]) = FF at HS HGl0 ⊢
  obtain rfl := (row_len (HS.out.at2)).symm
  unfold chain_List.f at H
  go_enter Tryd.func138, Tryd.ntmps138
  go_wp2_with fail
  obtain ⟨t4753, HA4754, H⟩ := bind_some H
  refine (chain_of.calls l4742 a4747 a4748 a4749 a4750 a4751 a4752 g4738 g4740 A4743 l4742.length n4745 t4753 _ ⟨HGl0.out.pass HS.out⟩ ⟨HS.out.begin⟩ HA4754).mono ?_
  rintro e_ w4755 ⟨rfl, hS⟩
  replace HS : Aside0 (Sep FF w [b21 g4738 g4740 a4748 a4749 a4750 a4751, b20 g4740 A4743 l4742.length n4745 a4747, r7 A4743 l4742.length n4745 l4742] w4755) := ⟨HS.out.call hS⟩
  clear hS
  by_cases c4766 : t4753.2.2.2 = true
  · have H := if_yes c4766 H
    have c4766b0 : t4753.2.2.2 = true := c4766
    have c4766b1 : (!t4753.2.2.2) = false := by rw [c4766b0]; rfl
    try rw [c4766b1]
    clear c4766
    go_wp2_with (first | ((with_reducible refine gate_dst (N := 5) rfl ?_); refine box_on ?hg (N := 5) ?hd (cs := #[.int .i64 0, .int .i64 0, .int .i64 0]) (t := 166) ?hr ?_; (case hd => rfl); (case hg => rfl); (case hr => first | (go_simp; done) | (go_simp; rfl)); intro g4756 hg w4757 hbox hb; replace HS : Aside0 (Sep FF w [b21 g4738 g4740 a4748 a4749 a4750 a4751, b20 g4740 A4743 l4742.length n4745 a4747, r7 A4743 l4742.length n4745 l4742, b3 g4756 0 0 0] w4757) := ⟨HS.out.box hg hbox hb⟩; clear hg hbox hb; have hc4759 : w4757.cell? ⟨g4756, 0, none⟩ = some (.int .i64 0) := blk_cellv (HS.out.at3) 0 rfl; have hz4760 : w4757.frozen? ⟨g4756, 0, none⟩ = false := blk_fz (HS.out.at3) 0; have hc4761 : w4757.cell? ⟨g4756, 1, none⟩ = some (.int .i64 0) := blk_cellv (HS.out.at3) 1 rfl; have hz4762 : w4757.frozen? ⟨g4756, 1, none⟩ = false := blk_fz (HS.out.at3) 1; have hc4763 : w4757.cell? ⟨g4756, 2, none⟩ = some (.int .i64 0) := blk_cellv (HS.out.at3) 2 rfl; have hz4764 : w4757.frozen? ⟨g4756, 2, none⟩ = false := blk_fz (HS.out.at3) 2) | ((with_reducible refine gate_store (t := 166) (p := 5) rfl ?_); refine store_event (w1 := (World.setCell (World.setCell (World.setCell w4757 ⟨g4756, 0, none⟩ (.int .i64 t4753.1)) ⟨g4756, 1, none⟩ (.int .i64 t4753.2.1)) ⟨g4756, 2, none⟩ (.int .i64 t4753.2.2.1))) rfl (t := 166) (p := 5) rfl rfl ?hr ?_; (case hr => first | (go_simp; done) | (go_simp; rfl)); intro w4765 hst; clear hc4759 hz4760 hc4761 hz4762 hc4763 hz4764; replace HS : Aside0 (Sep FF w [b21 g4738 g4740 a4748 a4749 a4750 a4751, b20 g4740 A4743 l4742.length n4745 a4747, r7 A4743 l4742.length n4745 l4742, b3 g4756 t4753.1 t4753.2.1 t4753.2.2.1] w4765) := ⟨by rw [hst]; exact HS.out.setAll (l1 := [b21 g4738 g4740 a4748 a4749 a4750 a4751, b20 g4740 A4743 l4742.length n4745 a4747, r7 A4743 l4742.length n4745 l4742]) (l2 := []) [.int .i64 t4753.1, .int .i64 t4753.2.1, .int .i64 t4753.2.2.1] rfl⟩; clear hst; have hc4767 : w4765.cell? ⟨g4756, 0, none⟩ = some (.int .i64 t4753.1) := blk_cellv (HS.out.at3) 0 rfl))
    clear hc4767
    obtain ⟨t4813, HA4814, H⟩ := bind_some H
    refine (ground_Ground_SeeReg.calls l4742 a4747 a4748 a4749 a4750 a4751 t4753.1 g4738 g4740 A4743 l4742.length n4745 t4813 _ ⟨HGl0.out.pass HS.out⟩ ⟨HS.out.begin⟩ HA4814).mono ?_
    rintro e_ w4815 ⟨rfl, hS⟩
    replace HS : Aside0 (Sep FF w [b21 g4738 g4740 a4748 a4749 a4750 a4751, b20 g4740 A4743 l4742.length n4745 a4747, r7 A4743 l4742.length n4745 l4742, b3 g4756 t4753.1 t4753.2.1 t4753.2.2.1] w4815) := ⟨HS.out.call hS⟩
    clear hS
    replace HS : Aside0 (Sep FF w [b21 g4738 g4740 a4748 a4749 a4750 a4751, b20 g4740 A4743 l4742.length n4745 a4747, r7 A4743 l4742.length n4745 l4742] w4815) := ⟨HS.out.sub (.cons_cons _ (.cons_cons _ (.cons_cons _ (.cons _ .slnil))))⟩
    go_wp2_with fail
    replace HS : Aside0 (Sep FF w [r13 none 0 0 [], b21 g4738 g4740 a4748 a4749 a4750 a4751, b20 g4740 A4743 l4742.length n4745 a4747, r7 A4743 l4742.length n4745 l4742] w4815) := ⟨HS.out.nilrow 3 (Value.int .i64)⟩
    obtain ⟨o4817, AL4818, H⟩ := bind_some H
    go_loopg [7, 8] k (fun kq v7 v8 wc => ∃ (x4823 : Int) (x4824 : List Int) (A4825 : Option Addr) (m4826 : Nat) (n4827 : Nat), v7 = .slice A4825 m4826 n4827 ∧ v8 = .int .i64 x4823 ∧ Aside0 (chain_List.lo0 kq l4742 a4747 a4748 a4749 a4750 a4751 x4823 x4824 = some o4817) ∧ Aside0 (Sep FF w [r13 A4825 m4826 n4827 x4824, b21 g4738 g4740 a4748 a4749 a4750 a4751, b20 g4740 A4743 l4742.length n4745 a4747, r7 A4743 l4742.length n4745 l4742] wc))
    case atStart => exact ⟨(t4813), (([] : List Int)), (none), (0), (0), (by first | rfl | (simp [IntKind.wrap_u32]; done)), (by first | rfl | (simp [IntKind.wrap_u32]; done)), AL4818, ⟨HS.out⟩⟩
    case round =>
      clear AL4818 HS
      obtain ⟨x4823, x4824, A4825, m4826, n4827, rfl, rfl, AL4818, HS⟩ := hrel
      obtain ⟨w4819, rfl⟩ : ∃ x : World, x = wr := ⟨_, rfl⟩
      obtain rfl := (row_len (HS.out.at0)).symm
      cases gk with
      | zero => exact absurd AL4818.out (by simp [chain_List.lo0])
      | succ k4820 =>
        have AL0 := AL4818.out
        rw [chain_List.lo0] at AL0
        clear AL4818
        have AL4818 := Aside0.mk AL0
        clear AL0
        by_cases c4829 : x4823 > 0
        · have AL4818 := if_yes c4829 AL4818
          have c4829b0 : decide (0 < x4823) = true := decide_eq_true c4829
          clear c4829
          go_wp2_with fail
          replace HS : Aside0 (Sep FF w [r7 A4743 l4742.length n4745 l4742, r13 A4825 x4824.length n4827 x4824, b21 g4738 g4740 a4748 a4749 a4750 a4751, b20 g4740 A4743 l4742.length n4745 a4747] w4819) := ⟨HS.out.front 3 (by simp)⟩
          replace HS : Aside0 (Sep FF w [b20 g4740 A4743 l4742.length n4745 a4747, r7 A4743 l4742.length n4745 l4742, r13 A4825 x4824.length n4827 x4824, b21 g4738 g4740 a4748 a4749 a4750 a4751] w4819) := ⟨HS.out.front 3 (by simp)⟩
          replace HS : Aside0 (Sep FF w [b21 g4738 g4740 a4748 a4749 a4750 a4751, b20 g4740 A4743 l4742.length n4745 a4747, r7 A4743 l4742.length n4745 l4742, r13 A4825 x4824.length n4827 x4824] w4819) := ⟨HS.out.front 3 (by simp)⟩
          obtain ⟨t4830, HA4831, AL4818⟩ := bind_some AL4818
          refine (ground_Ground_Conf.calls l4742 a4747 a4748 a4749 a4750 a4751 g4738 g4740 A4743 l4742.length n4745 t4830 _ ⟨HGl0.out.pass HS.out⟩ ⟨HS.out.begin⟩ HA4831).mono ?_
          rintro e_ w4832 ⟨rfl, hS⟩
          replace HS : Aside0 (Sep FF w [b21 g4738 g4740 a4748 a4749 a4750 a4751, b20 g4740 A4743 l4742.length n4745 a4747, r7 A4743 l4742.length n4745 l4742, r13 A4825 x4824.length n4827 x4824] w4832) := ⟨HS.out.call hS⟩
          clear hS
          by_cases c4834 : (x4824.length : Int) < t4830.1
          · have AL4818 := if_yes c4834 AL4818
            have c4834b0 : decide ((x4824.length : Int) < t4830.1) = true := decide_eq_true c4834
            clear c4834
            by_cases c4838 : x4824.length < 17592186044416
            · have AL4818 := if_yes c4838 AL4818
              have c4838b0 : decide (x4824.length < 17592186044416) = true := decide_eq_true c4838
              clear c4838
              obtain ⟨y4842, HA4843, AL4818⟩ := bind_some AL4818
              have fl4833 : ∀ w, (Instr.field 30 (.agg #[.int .i64 t4830.1, .int .i64 t4830.2.1, .int .i64 t4830.2.2.1, .int .i64 t4830.2.2.2]) 0).run Tryd.prog w = .ok (.int .i64 t4830.1) w := fun _ => by kernel_rfl
              go_wp2_with (first | ((with_reducible refine gate_dst (N := 39) rfl ?_); refine slice_on (n := 1) ?hg (N := 39) ?hd (cs := #[.int .i64 (wrap64 (x4823 - 1))]) (t := 3) ?hr ?_; (case hd => rfl); (case hg => rfl); (case hr => first | (go_simp; done) | (go_simp; rfl)); intro g4835 hg w4836 hbox hb; clear fl4833; replace HS : Aside0 (Sep FF w [b21 g4738 g4740 a4748 a4749 a4750 a4751, b20 g4740 A4743 l4742.length n4745 a4747, r7 A4743 l4742.length n4745 l4742, r13 A4825 x4824.length n4827 x4824, b11 g4835 (wrap64 (x4823 - 1))] w4836) := ⟨HS.out.box hg hbox hb⟩; clear hg hbox hb) | ((with_reducible refine gate_dst (N := 40) rfl ?_); refine append_event (l1 := [b21 g4738 g4740 a4748 a4749 a4750 a4751, b20 g4740 A4743 l4742.length n4745 a4747, r7 A4743 l4742.length n4745 l4742]) (l2 := [b11 g4835 (wrap64 (x4823 - 1))]) rfl (.tmp 36) (.tmp 39) 49 3 (.int .i64 0) 8 rfl Tryd.underlying49 (by kernel_rfl) rfl (by decide) (Value.int .i64) (fun _ => rfl) (.slice A4825 x4824.length n4827) (x4824 : List Int) [wrap64 (x4823 - 1)] ⟨g4835, 0, none⟩ 1 rfl rfl (blk_news (xs := [wrap64 (x4823 - 1)]) (HS.out.at4)) HS.out (by have := of_decide_eq_true c4838b0; simp only [List.length_cons, List.length_nil]; omega) HA4843 ?_; intro A4839 n4840 w4841 HS1; replace HS : Aside0 (Sep FF w [b21 g4738 g4740 a4748 a4749 a4750 a4751, b20 g4740 A4743 l4742.length n4745 a4747, r7 A4743 l4742.length n4745 l4742, r13 A4839 y4842.length n4840 y4842, b11 g4835 (wrap64 (x4823 - 1))] w4841) := ⟨HS1⟩; clear HS1; replace HS : Aside0 (Sep FF w [b21 g4738 g4740 a4748 a4749 a4750 a4751, b20 g4740 A4743 l4742.length n4745 a4747, r7 A4743 l4742.length n4745 l4742, r13 A4839 y4842.length n4840 y4842] w4841) := ⟨HS.out.sub (.cons_cons _ (.cons_cons _ (.cons_cons _ (.cons_cons _ (.cons _ .slnil)))))⟩))
              obtain ⟨t4871, HA4872, AL4818⟩ := bind_some AL4818
              refine (ground_Ground_SeeWord.calls l4742 a4747 a4748 a4749 a4750 a4751 (wrap64 (x4823 - 1)) 5 g4738 g4740 A4743 l4742.length n4745 t4871 _ ⟨HGl0.out.pass HS.out⟩ ⟨HS.out.begin⟩ HA4872).mono ?_
              rintro e_ w4873 ⟨rfl, hS⟩
              replace HS : Aside0 (Sep FF w [b21 g4738 g4740 a4748 a4749 a4750 a4751, b20 g4740 A4743 l4742.length n4745 a4747, r7 A4743 l4742.length n4745 l4742, r13 A4839 y4842.length n4840 y4842] w4873) := ⟨HS.out.call hS⟩
              clear hS
              go_wp2_with fail
              go_roundg k4820
              case measure => exact Nat.lt_succ_self _
              case rel => exact ⟨(wrap64 (t4871)), (y4842), (A4839), (y4842.length), (n4840), (by first | rfl | (simp [IntKind.wrap_u32]; done)), (by first | rfl | (simp [IntKind.wrap_u32]; done)), Aside0.mk AL4818.out, ⟨(((((HS.out).front 2 (by simp)).front 2 (by simp)).front 2 (by simp)).front 3 (by simp)).keep (l := [r13 A4839 y4842.length n4840 y4842, b21 g4738 g4740 a4748 a4749 a4750 a4751, b20 g4740 A4743 l4742.length n4745 a4747, r7 A4743 l4742.length n4745 l4742]) (rest := [])⟩⟩
            · have AL4818 := if_no c4838 AL4818
              have c4838b0 : decide (x4824.length < 17592186044416) = false := decide_eq_false c4838
              clear c4838
              exact (none_no AL4818).elim
          · have AL4818 := if_no c4834 AL4818
            have c4834b0 : decide ((x4824.length : Int) < t4830.1) = false := decide_eq_false c4834
            clear c4834
            have ho := some_eq AL4818
            subst ho
            clear AL4818
            have fl4833 : ∀ w, (Instr.field 30 (.agg #[.int .i64 t4830.1, .int .i64 t4830.2.1, .int .i64 t4830.2.2.1, .int .i64 t4830.2.2.2]) 0).run Tryd.prog w = .ok (.int .i64 t4830.1) w := fun _ => by kernel_rfl
            go_wp2_with fail
            clear fl4833
            go_ret
            rw [← some_eq H]
            exact ⟨A4825, x4824.length, n4827, (by first | rfl | (simp [IntKind.wrap_u32]; done)), HS.out⟩
        · have AL4818 := if_no c4829 AL4818
          have c4829b0 : decide (0 < x4823) = false := decide_eq_false c4829
          clear c4829
          have ho := some_eq AL4818
          subst ho
          clear AL4818
          go_wp2_with fail
          go_ret
          rw [← some_eq H]
          exact ⟨A4825, x4824.length, n4827, (by first | rfl | (simp [IntKind.wrap_u32]; done)), ((((HS.out).front 3 (by simp)).front 3 (by simp)).front 3 (by simp)).keep (l := [b21 g4738 g4740 a4748 a4749 a4750 a4751, b20 g4740 A4743 l4742.length n4745 a4747, r7 A4743 l4742.length n4745 l4742, r13 A4825 x4824.length n4827 x4824]) (rest := [])⟩
  · have H := if_no c4766 H
    have c4766b0 : t4753.2.2.2 = false := by simpa using c4766
    have c4766b1 : (!t4753.2.2.2) = true := by rw [c4766b0]; rfl
    try rw [c4766b1]
    clear c4766
    go_wp2_with (first | ((with_reducible refine gate_dst (N := 5) rfl ?_); refine box_on ?hg (N := 5) ?hd (cs := #[.int .i64 0, .int .i64 0, .int .i64 0]) (t := 166) ?hr ?_; (case hd => rfl); (case hg => rfl); (case hr => first | (go_simp; done) | (go_simp; rfl)); intro g4756 hg w4757 hbox hb; replace HS : Aside0 (Sep FF w [b21 g4738 g4740 a4748 a4749 a4750 a4751, b20 g4740 A4743 l4742.length n4745 a4747, r7 A4743 l4742.length n4745 l4742, b3 g4756 0 0 0] w4757) := ⟨HS.out.box hg hbox hb⟩; clear hg hbox hb; have hc4759 : w4757.cell? ⟨g4756, 0, none⟩ = some (.int .i64 0) := blk_cellv (HS.out.at3) 0 rfl; have hz4760 : w4757.frozen? ⟨g4756, 0, none⟩ = false := blk_fz (HS.out.at3) 0; have hc4761 : w4757.cell? ⟨g4756, 1, none⟩ = some (.int .i64 0) := blk_cellv (HS.out.at3) 1 rfl; have hz4762 : w4757.frozen? ⟨g4756, 1, none⟩ = false := blk_fz (HS.out.at3) 1; have hc4763 : w4757.cell? ⟨g4756, 2, none⟩ = some (.int .i64 0) := blk_cellv (HS.out.at3) 2 rfl; have hz4764 : w4757.frozen? ⟨g4756, 2, none⟩ = false := blk_fz (HS.out.at3) 2) | ((with_reducible refine gate_store (t := 166) (p := 5) rfl ?_); refine store_event (w1 := (World.setCell (World.setCell (World.setCell w4757 ⟨g4756, 0, none⟩ (.int .i64 t4753.1)) ⟨g4756, 1, none⟩ (.int .i64 t4753.2.1)) ⟨g4756, 2, none⟩ (.int .i64 t4753.2.2.1))) rfl (t := 166) (p := 5) rfl rfl ?hr ?_; (case hr => first | (go_simp; done) | (go_simp; rfl)); intro w4765 hst; clear hc4759 hz4760 hc4761 hz4762 hc4763 hz4764; replace HS : Aside0 (Sep FF w [b21 g4738 g4740 a4748 a4749 a4750 a4751, b20 g4740 A4743 l4742.length n4745 a4747, r7 A4743 l4742.length n4745 l4742, b3 g4756 t4753.1 t4753.2.1 t4753.2.2.1] w4765) := ⟨by rw [hst]; exact HS.out.setAll (l1 := [b21 g4738 g4740 a4748 a4749 a4750 a4751, b20 g4740 A4743 l4742.length n4745 a4747, r7 A4743 l4742.length n4745 l4742]) (l2 := []) [.int .i64 t4753.1, .int .i64 t4753.2.1, .int .i64 t4753.2.2.1] rfl⟩; clear hst; replace HS : Aside0 (Sep FF w [b21 g4738 g4740 a4748 a4749 a4750 a4751, b20 g4740 A4743 l4742.length n4745 a4747, r7 A4743 l4742.length n4745 l4742] w4765) := ⟨HS.out.sub (.cons_cons _ (.cons_cons _ (.cons_cons _ (.cons _ .slnil))))⟩))
    replace HS : Aside0 (Sep FF w [r13 none 0 0 [], b21 g4738 g4740 a4748 a4749 a4750 a4751, b20 g4740 A4743 l4742.length n4745 a4747, r7 A4743 l4742.length n4745 l4742] w4765) := ⟨HS.out.nilrow 3 (Value.int .i64)⟩
    go_ret
    rw [← some_eq H]
    exact ⟨none, 0, 0, (by first | rfl | (simp [IntKind.wrap_u32]; done)), ((((HS.out).front 3 (by simp)).front 3 (by simp)).front 3 (by simp)).keep (l := [b21 g4738 g4740 a4748 a4749 a4750 a4751, b20 g4740 A4743 l4742.length n4745 a4747, r7 A4743 l4742.length n4745 l4742, r13 none 0 0 []]) (rest := [])⟩

set_option maxHeartbeats 30000000 in
set_option maxRecDepth 100000 in
theorem pool_List.calls (k : Nat) (l4727 : List Int) (a4732 : Int) (a4733 : Int) (a4734 : Int) (a4735 : Int) (a4736 : Int) (g4723 : Nat) (g4725 : Nat) (A4728 : Option Addr) (m4729 : Nat) (n4730 : Nat) (r : List Int) (w : World)  (HGl0 : Aside0 (Gl 0 #[.int .i64 0, .int .i64 0, .int .i64 0, .int .i64 0, .int .i64 0] (fps [b21 g4723 g4725 a4733 a4734 a4735 a4736, b20 g4725 A4728 m4729 n4730 a4732, r7 A4728 m4729 n4730 l4727]) w)) (HS : Aside0 (Sep (fps [b21 g4723 g4725 a4733 a4734 a4735 a4736, b20 g4725 A4728 m4729 n4730 a4732, r7 A4728 m4729 n4730 l4727]) w [b21 g4723 g4725 a4733 a4734 a4735 a4736, b20 g4725 A4728 m4729 n4730 a4732, r7 A4728 m4729 n4730 l4727] w)) (H : Aside0 (pool_List.f k l4727 a4732 a4733 a4734 a4735 a4736 = some r)) :
    Calls Tryd.prog 104 #[.pointer (some ⟨g4723, 0, none⟩)] w fun e w' => ∃ (A4919 : Option Addr) (m4920 : Nat) (n4921 : Nat), e = .returned (.slice A4919 m4920 n4921) ∧ Sep (fps [b21 g4723 g4725 a4733 a4734 a4735 a4736, b20 g4725 A4728 m4729 n4730 a4732, r7 A4728 m4729 n4730 l4727]) w [b21 g4723 g4725 a4733 a4734 a4735 a4736, b20 g4725 A4728 m4729 n4730 a4732, r7 A4728 m4729 n4730 l4727, r13 A4919 m4920 n4921 r] w' := by
  generalize (fps [b21 g4723 g4725 a4733 a4734 a4735 a4736, b20 g4725 A4728 m4729 n4730 a4732, r7 A4728 m4729 n4730 l4727]) = FF at HS HGl0 ⊢
  obtain rfl := (row_len (HS.out.at2)).symm
  unfold pool_List.f at H
  go_enter Tryd.func104, Tryd.ntmps104
  go_wp2_with fail
  obtain ⟨t4905, HA4906, H⟩ := bind_some H
  refine (chain_List.calls _ l4727 a4732 a4733 a4734 a4735 a4736 0 g4723 g4725 A4728 l4727.length n4730 t4905 _ ⟨HGl0.out.pass HS.out⟩ ⟨HS.out.begin⟩ HA4906).mono ?_
  rintro e_ w4907 ⟨A4909, m4910, n4911, rfl, hS⟩
  replace HS : Aside0 (Sep FF w [b21 g4723 g4725 a4733 a4734 a4735 a4736, b20 g4725 A4728 l4727.length n4730 a4732, r7 A4728 l4727.length n4730 l4727, r13 A4909 m4910 n4911 t4905] w4907) := ⟨HS.out.call hS⟩
  clear hS
  obtain rfl := (row_len (HS.out.at3)).symm
  go_wp2_with fail
  go_ret
  rw [← some_eq H]
  exact ⟨A4909, t4905.length, n4911, (by first | rfl | (simp [IntKind.wrap_u32]; done)), HS.out⟩
end Go.Proofs.YtobeonkddamnoaaDoor.C

/- Each function of the group TI does what its plain function says, and changes nothing that was there; proved by walking its code. No condition. -/
import Derived.Test.YtobeonkddamnoaaDoorQw
import Derived.Test.YtobeonkddamnoaaDoorMTI
import Derived.Test.YtobeonkddamnoaaDoorGTI0
import Derived.Test.YtobeonkddamnoaaDoorGTI1
import Derived.Test.YtobeonkddamnoaaDoorGTI2
namespace Go.Proofs.YtobeonkddamnoaaDoor.C
open Go.RowKit Go.Proofs.YtobeonkddamnoaaDoorW.PrintWords Go.Proofs.YtobeonkddamnoaaDoorW.PrintLast Go.Proofs.YtobeonkddamnoaaDoor.Q Go.Proofs.YtobeonkddamnoaaDoor.M
set_option linter.unusedVariables false
set_option linter.unusedSimpArgs false
set_option maxHeartbeats 30000000 in
set_option maxRecDepth 100000 in
theorem tint_Touch.calls (k : Nat) (l3647 : List Int) (a3652 : Int) (a3653 : Int) (a3654 : Int) (a3655 : Int) (a3656 : Int) (a3657 : Int) (g3643 : Nat) (g3645 : Nat) (A3648 : Option Addr) (m3649 : Nat) (n3650 : Nat) (r : Bool × Int × List Int) (w : World)  (HGl0 : Aside0 (Gl 0 #[.int .i64 0, .int .i64 0, .int .i64 0, .int .i64 0, .int .i64 0] (fps [b7 g3643 g3645 a3653 a3654 a3655 a3656, b6 g3645 A3648 m3649 n3650 a3652, r5 A3648 m3649 n3650 l3647]) w)) (HS : Aside0 (Sep (fps [b7 g3643 g3645 a3653 a3654 a3655 a3656, b6 g3645 A3648 m3649 n3650 a3652, r5 A3648 m3649 n3650 l3647]) w [b7 g3643 g3645 a3653 a3654 a3655 a3656, b6 g3645 A3648 m3649 n3650 a3652, r5 A3648 m3649 n3650 l3647] w)) (H : Aside0 (tint_Touch.f k l3647 a3652 a3653 a3654 a3655 a3656 a3657 = some r)) :
    Calls Tryd.prog 53 #[.pointer (some ⟨g3643, 0, none⟩), .int .i64 a3657] w fun e w' => e = .returned (.bool r.1) ∧ Sep (fps [b7 g3643 g3645 a3653 a3654 a3655 a3656, b6 g3645 A3648 m3649 n3650 a3652, r5 A3648 m3649 n3650 l3647]) w [b7 g3643 g3645 a3653 a3654 a3655 a3656, b6 g3645 A3648 m3649 n3650 r.2.1, r5 A3648 m3649 n3650 r.2.2] w' := by
  generalize (fps [b7 g3643 g3645 a3653 a3654 a3655 a3656, b6 g3645 A3648 m3649 n3650 a3652, r5 A3648 m3649 n3650 l3647]) = FF at HS HGl0 ⊢
  obtain rfl := (row_len (HS.out.at2)).symm
  unfold tint_Touch.f at H
  go_enter Tryd.func53, Tryd.ntmps53
  go_wp2_with fail
  obtain ⟨t4367, HA4368, H⟩ := bind_some H
  refine (tint_of.calls l3647 a3652 a3653 a3654 a3655 a3656 a3657 g3643 g3645 A3648 l3647.length n3650 t4367 _ ⟨HGl0.out.pass HS.out⟩ ⟨HS.out.begin⟩ HA4368).mono ?_
  rintro e_ w4369 ⟨rfl, hS⟩
  replace HS : Aside0 (Sep FF w [b7 g3643 g3645 a3653 a3654 a3655 a3656, b6 g3645 A3648 l3647.length n3650 t4367.2.2.2.2.2.2.2.2, r5 A3648 l3647.length n3650 l3647] w4369) := ⟨HS.out.call hS⟩
  clear hS
  go_wp2_with (first | ((with_reducible refine gate_dst (N := 5) rfl ?_); refine box_on ?hg (N := 5) ?hd (cs := #[.int .i64 0, .int .i64 0, .int .i64 0, .int .i64 0, .int .i64 0, .int .i64 0, .int .i64 0]) (t := 32) ?hr ?_; (case hd => rfl); (case hg => rfl); (case hr => first | (go_simp; done) | (go_simp; rfl)); intro g4370 hg w4371 hbox hb; replace HS : Aside0 (Sep FF w [b7 g3643 g3645 a3653 a3654 a3655 a3656, b6 g3645 A3648 l3647.length n3650 t4367.2.2.2.2.2.2.2.2, r5 A3648 l3647.length n3650 l3647, b16 g4370 0 0 0 0 0 0 0] w4371) := ⟨HS.out.box hg hbox hb⟩; clear hg hbox hb; have hc4373 : w4371.cell? ⟨g4370, 0, none⟩ = some (.int .i64 0) := blk_cellv (HS.out.at3) 0 rfl; have hz4374 : w4371.frozen? ⟨g4370, 0, none⟩ = false := blk_fz (HS.out.at3) 0; have hc4375 : w4371.cell? ⟨g4370, 1, none⟩ = some (.int .i64 0) := blk_cellv (HS.out.at3) 1 rfl; have hz4376 : w4371.frozen? ⟨g4370, 1, none⟩ = false := blk_fz (HS.out.at3) 1; have hc4377 : w4371.cell? ⟨g4370, 2, none⟩ = some (.int .i64 0) := blk_cellv (HS.out.at3) 2 rfl; have hz4378 : w4371.frozen? ⟨g4370, 2, none⟩ = false := blk_fz (HS.out.at3) 2; have hc4379 : w4371.cell? ⟨g4370, 3, none⟩ = some (.int .i64 0) := blk_cellv (HS.out.at3) 3 rfl; have hz4380 : w4371.frozen? ⟨g4370, 3, none⟩ = false := blk_fz (HS.out.at3) 3; have hc4381 : w4371.cell? ⟨g4370, 4, none⟩ = some (.int .i64 0) := blk_cellv (HS.out.at3) 4 rfl; have hz4382 : w4371.frozen? ⟨g4370, 4, none⟩ = false := blk_fz (HS.out.at3) 4; have hc4383 : w4371.cell? ⟨g4370, 5, none⟩ = some (.int .i64 0) := blk_cellv (HS.out.at3) 5 rfl; have hz4384 : w4371.frozen? ⟨g4370, 5, none⟩ = false := blk_fz (HS.out.at3) 5; have hc4385 : w4371.cell? ⟨g4370, 6, none⟩ = some (.int .i64 0) := blk_cellv (HS.out.at3) 6 rfl; have hz4386 : w4371.frozen? ⟨g4370, 6, none⟩ = false := blk_fz (HS.out.at3) 6) | ((with_reducible refine gate_store (t := 32) (p := 5) rfl ?_); refine store_event (w1 := (World.setCell (World.setCell (World.setCell (World.setCell (World.setCell (World.setCell (World.setCell w4371 ⟨g4370, 0, none⟩ (.int .i64 t4367.1)) ⟨g4370, 1, none⟩ (.int .i64 t4367.2.1)) ⟨g4370, 2, none⟩ (.int .i64 t4367.2.2.1)) ⟨g4370, 3, none⟩ (.int .i64 t4367.2.2.2.1)) ⟨g4370, 4, none⟩ (.int .i64 t4367.2.2.2.2.1)) ⟨g4370, 5, none⟩ (.int .i64 t4367.2.2.2.2.2.1)) ⟨g4370, 6, none⟩ (.int .i64 t4367.2.2.2.2.2.2.1))) rfl (t := 32) (p := 5) rfl rfl ?hr ?_; (case hr => first | (go_simp; done) | (go_simp; rfl)); intro w4387 hst; clear hc4373 hz4374 hc4375 hz4376 hc4377 hz4378 hc4379 hz4380 hc4381 hz4382 hc4383 hz4384 hc4385 hz4386; replace HS : Aside0 (Sep FF w [b7 g3643 g3645 a3653 a3654 a3655 a3656, b6 g3645 A3648 l3647.length n3650 t4367.2.2.2.2.2.2.2.2, r5 A3648 l3647.length n3650 l3647, b16 g4370 t4367.1 t4367.2.1 t4367.2.2.1 t4367.2.2.2.1 t4367.2.2.2.2.1 t4367.2.2.2.2.2.1 t4367.2.2.2.2.2.2.1] w4387) := ⟨by rw [hst]; exact HS.out.setAll (l1 := [b7 g3643 g3645 a3653 a3654 a3655 a3656, b6 g3645 A3648 l3647.length n3650 t4367.2.2.2.2.2.2.2.2, r5 A3648 l3647.length n3650 l3647]) (l2 := []) [.int .i64 t4367.1, .int .i64 t4367.2.1, .int .i64 t4367.2.2.1, .int .i64 t4367.2.2.2.1, .int .i64 t4367.2.2.2.2.1, .int .i64 t4367.2.2.2.2.2.1, .int .i64 t4367.2.2.2.2.2.2.1] rfl⟩; clear hst))
  refine start_ (n := 25) (S := (fun w' => w'.cell? ⟨g4370, 4, none⟩ = some (.int .i64 t4367.2.2.2.2.1) ∧ w'.cell? ⟨g4370, 1, none⟩ = some (.int .i64 t4367.2.1))) (ds := []) #[false, false, false, false, false, false, false, false, false, false, false, false, false, false, false, false, false, false, false, false, false, false, false, false, false] (by kernel_rfl) rfl rfl (⟨blk_cellv ((HS.out.drew).at3) 4 rfl, blk_cellv ((HS.out.drew).at3) 1 rfl⟩) (fun hHeld => ?_)
  have HS_ := Aside0.mk HS.out.drew
  clear HS
  generalize World.drew _ = w4389 at HS_ hHeld ⊢
  have HS := HS_
  clear HS_
  refine pure_ (i := 0) (N := some 13) (v := ?_) (a' := ?_) #[true, false, false, false, false, false, false, false, false, false, false, false, false, false, false, false, false, false, false, false, false, false, false, false, false] rfl rfl (by kernel_rfl) (fun _ _ _ h => h) (Or.inl ⟨by rfl, ?_⟩) ?_ ?_
  rotate_left
  · intro w'
    go_simp
    with_reducible rfl
  rotate_left
  · simp only [Act.put, List.setIfInBounds_toArray, List.set_cons_zero, List.set_cons_succ, i64_w, i32_w]
    rfl
  refine pure_ (i := 1) (N := some 14) (v := ?_) (a' := ?_) #[true, true, false, false, false, false, false, false, false, false, false, false, false, false, false, false, false, false, false, false, false, false, false, false, false] rfl rfl (by kernel_rfl) (fun _ _ _ h => h) (Or.inl ⟨by rfl, ?_⟩) ?_ ?_
  rotate_left
  · intro w'
    go_simp
    with_reducible rfl
  rotate_left
  · simp only [Act.put, List.setIfInBounds_toArray, List.set_cons_zero, List.set_cons_succ, i64_w, i32_w]
    rfl
  refine pure_ (i := 2) (N := some 15) (v := ?_) (a' := ?_) #[true, true, true, false, false, false, false, false, false, false, false, false, false, false, false, false, false, false, false, false, false, false, false, false, false] rfl rfl (by kernel_rfl) (fun _ _ _ h => h) (Or.inl ⟨by rfl, ?_⟩) ?_ ?_
  rotate_left
  · intro w'
    go_simp
    with_reducible rfl
  rotate_left
  · simp only [Act.put, List.setIfInBounds_toArray, List.set_cons_zero, List.set_cons_succ, i64_w, i32_w]
    rfl
  by_cases c4390 : t4367.2.2.2.2.2.2.2.1 = true
  · replace H := if_yes c4390 H
    have c4390b0 : t4367.2.2.2.2.2.2.2.1 = true := c4390
    have c4390b1 : (!t4367.2.2.2.2.2.2.2.1) = false := by rw [c4390b0]; rfl
    try rw [c4390b1]
    clear c4390
    try simp only [c4390b0, Bool.not_true, Bool.not_false]
    refine pure_ (i := 3) (N := some 16) (v := ?_) (a' := ?_) #[true, true, true, true, false, false, false, false, false, false, false, false, false, false, false, false, false, false, false, false, false, false, false, false, false] rfl rfl (by kernel_rfl) (fun _ _ _ h => h) (Or.inl ⟨by rfl, ?_⟩) ?_ ?_
    rotate_left
    · intro w'
      go_simp
      with_reducible rfl
    rotate_left
    · simp only [Act.put, List.setIfInBounds_toArray, List.set_cons_zero, List.set_cons_succ, i64_w, i32_w]
      rfl
    try simp only [c4390b0, Bool.not_true, Bool.not_false]
    refine one_ (i := 4) (N := some 17) #[true, true, true, true, true, false, false, false, false, false, false, false, false, false, false, false, false, false, false, false, false, false, false, false, false] rfl rfl (by kernel_rfl) (by decide) (fun K hK => ?_)
    obtain ⟨t4391, HA4392, H⟩ := bind_some H
    refine goes_ Tryd.func112 (by kernel_rfl) rfl #[.pointer (some ⟨g3643, 0, none⟩)] (by rfl) rfl rfl (by (try simp only [List.map_toArray, List.map_cons, List.map_nil]); first | done | rfl) ?_
    refine (tint_Phase.calls l3647 t4367.2.2.2.2.2.2.2.2 a3653 a3654 a3655 a3656 g3643 g3645 A3648 l3647.length n3650 t4391 _ ⟨HGl0.out.pass HS.out⟩ ⟨HS.out.begin⟩ HA4392).mono ?_
    rintro e_ w4393 ⟨rfl, hS⟩
    replace HS : Aside0 (Sep FF w [b7 g3643 g3645 a3653 a3654 a3655 a3656, b6 g3645 A3648 l3647.length n3650 t4391.2, r5 A3648 l3647.length n3650 l3647, b16 g4370 t4367.1 t4367.2.1 t4367.2.2.1 t4367.2.2.2.1 t4367.2.2.2.2.1 t4367.2.2.2.2.2.1 t4367.2.2.2.2.2.2.1] w4393) := ⟨HS.out.call hS⟩
    clear hS
    refine ⟨_, rfl, ?_⟩
    refine hK.out _ _ (⟨blk_cellv (HS.out.at3) 4 rfl, blk_cellv (HS.out.at3) 1 rfl⟩) (fun hHeld => ?_)
    clear hK K
    refine norm_ (a' := ?_) ?_ ?_
    rotate_left
    · show Act.put _ (some 17) _ = _
      simp only [Act.put, List.setIfInBounds_toArray, List.set_cons_zero, List.set_cons_succ, i64_w, i32_w]
      rfl
    try simp only [c4390b0, Bool.not_true, Bool.not_false]
    refine pure_ (i := 5) (N := some 18) (v := ?_) (a' := ?_) #[true, true, true, true, true, true, false, false, false, false, false, false, false, false, false, false, false, false, false, false, false, false, false, false, false] rfl rfl (by kernel_rfl) (fun _ _ _ h => h) (Or.inl ⟨by rfl, ?_⟩) ?_ ?_
    rotate_left
    · intro w'
      go_simp
      with_reducible rfl
    rotate_left
    · simp only [Act.put, List.setIfInBounds_toArray, List.set_cons_zero, List.set_cons_succ, i64_w, i32_w]
      rfl
    refine pure_ (i := 6) (N := some 19) (v := ?_) (a' := ?_) #[true, true, true, true, true, true, true, false, false, false, false, false, false, false, false, false, false, false, false, false, false, false, false, false, false] rfl rfl (by kernel_rfl) (fun _ _ _ h => h) (Or.inl ⟨by rfl, ?_⟩) ?_ ?_
    rotate_left
    · intro w'
      go_simp
      with_reducible rfl
    rotate_left
    · simp only [Act.put, List.setIfInBounds_toArray, List.set_cons_zero, List.set_cons_succ, i64_w, i32_w]
      rfl
    refine pure_ (i := 7) (N := some 20) (v := ?_) (a' := ?_) #[true, true, true, true, true, true, true, true, false, false, false, false, false, false, false, false, false, false, false, false, false, false, false, false, false] rfl rfl (by kernel_rfl) (fun _ _ _ h => h) (Or.inl ⟨by rfl, ?_⟩) ?_ ?_
    rotate_left
    · intro w'
      go_simp
      with_reducible rfl
    rotate_left
    · simp only [Act.put, List.setIfInBounds_toArray, List.set_cons_zero, List.set_cons_succ, i64_w, i32_w]
      rfl
    by_cases c4394 : t4391.1 = 0
    · replace H := if_yes c4394 H
      have c4394b0 : (t4391.1 == 0) = true := beq_iff_eq.mpr c4394
      have c4394b1 : (t4391.1 != 0) = false := bne_eq_false_iff_eq.mpr c4394
      clear c4394
      try simp only [c4394b0, Bool.not_true, Bool.not_false]
      refine pure_ (i := 8) (N := some 21) (v := undef) (a' := ?_) #[true, true, true, true, true, true, true, true, true, false, false, false, false, false, false, false, false, false, false, false, false, false, false, false, false] rfl rfl (by kernel_rfl) (fun _ _ _ h => h) (Or.inr ⟨by rfl, rfl⟩) ?_ ?_
      rotate_left
      · simp only [Act.put, List.setIfInBounds_toArray, List.set_cons_zero, List.set_cons_succ, i64_w, i32_w]
        rfl
      try simp only [c4394b0, Bool.not_true, Bool.not_false]
      refine pure_ (i := 9) (N := some 22) (v := undef) (a' := ?_) #[true, true, true, true, true, true, true, true, true, true, false, false, false, false, false, false, false, false, false, false, false, false, false, false, false] rfl rfl (by kernel_rfl) (fun _ _ _ h => h) (Or.inr ⟨by rfl, rfl⟩) ?_ ?_
      rotate_left
      · simp only [Act.put, List.setIfInBounds_toArray, List.set_cons_zero, List.set_cons_succ, i64_w, i32_w]
        rfl
      try simp only [c4394b0, Bool.not_true, Bool.not_false]
      refine pure_ (i := 10) (N := some 23) (v := undef) (a' := ?_) #[true, true, true, true, true, true, true, true, true, true, true, false, false, false, false, false, false, false, false, false, false, false, false, false, false] rfl rfl (by kernel_rfl) (fun _ _ _ h => h) (Or.inr ⟨by rfl, rfl⟩) ?_ ?_
      rotate_left
      · simp only [Act.put, List.setIfInBounds_toArray, List.set_cons_zero, List.set_cons_succ, i64_w, i32_w]
        rfl
      refine pure_ (i := 11) (N := some 24) (v := ?_) (a' := ?_) #[true, true, true, true, true, true, true, true, true, true, true, true, false, false, false, false, false, false, false, false, false, false, false, false, false] rfl rfl (by kernel_rfl) (fun _ _ _ h => h) (Or.inl ⟨by rfl, ?_⟩) ?_ ?_
      rotate_left
      · intro w'
        go_simp
        with_reducible rfl
      rotate_left
      · simp only [Act.put, List.setIfInBounds_toArray, List.set_cons_zero, List.set_cons_succ, i64_w, i32_w]
        rfl
      refine pure_ (i := 12) (N := some 25) (v := ?_) (a' := ?_) #[true, true, true, true, true, true, true, true, true, true, true, true, true, false, false, false, false, false, false, false, false, false, false, false, false] rfl rfl (by kernel_rfl) (fun _ _ _ h => h) (Or.inl ⟨by rfl, ?_⟩) ?_ ?_
      rotate_left
      · intro w'
        go_simp
        with_reducible rfl
      rotate_left
      · simp only [Act.put, List.setIfInBounds_toArray, List.set_cons_zero, List.set_cons_succ, i64_w, i32_w]
        rfl
      refine pure_ (i := 13) (N := some 26) (v := undef) (a' := ?_) #[true, true, true, true, true, true, true, true, true, true, true, true, true, true, false, false, false, false, false, false, false, false, false, false, false] rfl rfl (by kernel_rfl) (fun _ _ _ h => h) (Or.inr ⟨by rfl, rfl⟩) ?_ ?_
      rotate_left
      · simp only [Act.put, List.setIfInBounds_toArray, List.set_cons_zero, List.set_cons_succ, i64_w, i32_w]
        rfl
      refine pure_ (i := 14) (N := some 27) (v := undef) (a' := ?_) #[true, true, true, true, true, true, true, true, true, true, true, true, true, true, true, false, false, false, false, false, false, false, false, false, false] rfl rfl (by kernel_rfl) (fun _ _ _ h => h) (Or.inr ⟨by rfl, rfl⟩) ?_ ?_
      rotate_left
      · simp only [Act.put, List.setIfInBounds_toArray, List.set_cons_zero, List.set_cons_succ, i64_w, i32_w]
        rfl
      refine pure_ (i := 15) (N := some 28) (v := undef) (a' := ?_) #[true, true, true, true, true, true, true, true, true, true, true, true, true, true, true, true, false, false, false, false, false, false, false, false, false] rfl rfl (by kernel_rfl) (fun _ _ _ h => h) (Or.inr ⟨by rfl, rfl⟩) ?_ ?_
      rotate_left
      · simp only [Act.put, List.setIfInBounds_toArray, List.set_cons_zero, List.set_cons_succ, i64_w, i32_w]
        rfl
      refine pure_ (i := 16) (N := some 29) (v := undef) (a' := ?_) #[true, true, true, true, true, true, true, true, true, true, true, true, true, true, true, true, true, false, false, false, false, false, false, false, false] rfl rfl (by kernel_rfl) (fun _ _ _ h => h) (Or.inr ⟨by rfl, rfl⟩) ?_ ?_
      rotate_left
      · simp only [Act.put, List.setIfInBounds_toArray, List.set_cons_zero, List.set_cons_succ, i64_w, i32_w]
        rfl
      refine pure_ (i := 17) (N := some 30) (v := undef) (a' := ?_) #[true, true, true, true, true, true, true, true, true, true, true, true, true, true, true, true, true, true, false, false, false, false, false, false, false] rfl rfl (by kernel_rfl) (fun _ _ _ h => h) (Or.inr ⟨by rfl, rfl⟩) ?_ ?_
      rotate_left
      · simp only [Act.put, List.setIfInBounds_toArray, List.set_cons_zero, List.set_cons_succ, i64_w, i32_w]
        rfl
      refine pure_ (i := 18) (N := some 31) (v := ?_) (a' := ?_) #[true, true, true, true, true, true, true, true, true, true, true, true, true, true, true, true, true, true, true, false, false, false, false, false, false] rfl rfl (by kernel_rfl) (fun _ _ _ h => h) (Or.inl ⟨by rfl, ?_⟩) ?_ ?_
      rotate_left
      · intro w'
        go_simp
        with_reducible rfl
      rotate_left
      · simp only [Act.put, List.setIfInBounds_toArray, List.set_cons_zero, List.set_cons_succ, i64_w, i32_w]
        rfl
      refine pure_ (i := 19) (N := some 32) (v := ?_) (a' := ?_) #[true, true, true, true, true, true, true, true, true, true, true, true, true, true, true, true, true, true, true, true, false, false, false, false, false] rfl rfl (by kernel_rfl) (fun _ _ _ h => h) (Or.inl ⟨by rfl, ?_⟩) ?_ ?_
      rotate_left
      · intro w'
        go_simp
        with_reducible rfl
      rotate_left
      · simp only [Act.put, List.setIfInBounds_toArray, List.set_cons_zero, List.set_cons_succ, i64_w, i32_w]
        rfl
      refine pure_ (i := 20) (N := some 33) (v := undef) (a' := ?_) #[true, true, true, true, true, true, true, true, true, true, true, true, true, true, true, true, true, true, true, true, true, false, false, false, false] rfl rfl (by kernel_rfl) (fun _ _ _ h => h) (Or.inr ⟨by rfl, rfl⟩) ?_ ?_
      rotate_left
      · simp only [Act.put, List.setIfInBounds_toArray, List.set_cons_zero, List.set_cons_succ, i64_w, i32_w]
        rfl
      refine pure_ (i := 21) (N := some 34) (v := undef) (a' := ?_) #[true, true, true, true, true, true, true, true, true, true, true, true, true, true, true, true, true, true, true, true, true, true, false, false, false] rfl rfl (by kernel_rfl) (fun _ _ _ h => h) (Or.inr ⟨by rfl, rfl⟩) ?_ ?_
      rotate_left
      · simp only [Act.put, List.setIfInBounds_toArray, List.set_cons_zero, List.set_cons_succ, i64_w, i32_w]
        rfl
      refine pure_ (i := 22) (N := some 35) (v := undef) (a' := ?_) #[true, true, true, true, true, true, true, true, true, true, true, true, true, true, true, true, true, true, true, true, true, true, true, false, false] rfl rfl (by kernel_rfl) (fun _ _ _ h => h) (Or.inr ⟨by rfl, rfl⟩) ?_ ?_
      rotate_left
      · simp only [Act.put, List.setIfInBounds_toArray, List.set_cons_zero, List.set_cons_succ, i64_w, i32_w]
        rfl
      refine pure_ (i := 23) (N := some 36) (v := undef) (a' := ?_) #[true, true, true, true, true, true, true, true, true, true, true, true, true, true, true, true, true, true, true, true, true, true, true, true, false] rfl rfl (by kernel_rfl) (fun _ _ _ h => h) (Or.inr ⟨by rfl, rfl⟩) ?_ ?_
      rotate_left
      · simp only [Act.put, List.setIfInBounds_toArray, List.set_cons_zero, List.set_cons_succ, i64_w, i32_w]
        rfl
      refine pure_ (i := 24) (N := some 37) (v := ?_) (a' := ?_) #[true, true, true, true, true, true, true, true, true, true, true, true, true, true, true, true, true, true, true, true, true, true, true, true, true] rfl rfl (by kernel_rfl) (fun _ _ _ h => h) (Or.inl ⟨by rfl, ?_⟩) ?_ ?_
      rotate_left
      · intro w'
        go_simp
        with_reducible rfl
      rotate_left
      · simp only [Act.put, List.setIfInBounds_toArray, List.set_cons_zero, List.set_cons_succ, i64_w, i32_w]
        rfl
      refine done_ (by kernel_rfl) ?_
      replace HS : Aside0 (Sep FF w [b7 g3643 g3645 a3653 a3654 a3655 a3656, b6 g3645 A3648 l3647.length n3650 t4391.2, r5 A3648 l3647.length n3650 l3647] w4393) := ⟨HS.out.sub (.cons_cons _ (.cons_cons _ (.cons_cons _ (.cons _ .slnil))))⟩
      go_wp2_with fail
      go_ret
      rw [← some_eq H]
      exact ⟨(by first | rfl | (simp [IntKind.wrap_u32]; done)), HS.out⟩
    · replace H := if_no c4394 H
      have c4394b0 : (t4391.1 == 0) = false := beq_eq_false_iff_ne.mpr c4394
      have c4394b1 : (t4391.1 != 0) = true := bne_iff_ne.mpr c4394
      clear c4394
      try simp only [c4394b0, Bool.not_true, Bool.not_false]
      refine pure_ (i := 8) (N := some 21) (v := ?_) (a' := ?_) #[true, true, true, true, true, true, true, true, true, false, false, false, false, false, false, false, false, false, false, false, false, false, false, false, false] rfl rfl (by kernel_rfl) (fun _ _ _ h => h) (Or.inl ⟨by rfl, ?_⟩) ?_ ?_
      rotate_left
      · intro w'
        go_simp
        with_reducible rfl
      rotate_left
      · simp only [Act.put, List.setIfInBounds_toArray, List.set_cons_zero, List.set_cons_succ, i64_w, i32_w]
        rfl
      try simp only [c4394b0, Bool.not_true, Bool.not_false]
      refine take_ (i := 9) (N := some 22) (v := ?_) (a' := ?_) #[true, true, true, true, true, true, true, true, true, true, false, false, false, false, false, false, false, false, false, false, false, false, false, false, false] rfl rfl (by kernel_rfl) (fun _ _ _ h => h) (Or.inl ⟨by rfl, ?_⟩) hHeld ?_ ?_
      rotate_left
      · rintro w' hS'
        obtain ⟨s0, s1⟩ := hS'
        go_simp
        with_reducible rfl
      rotate_left
      · simp only [Act.put, List.setIfInBounds_toArray, List.set_cons_zero, List.set_cons_succ, i64_w, i32_w]
        rfl
      try simp only [c4394b0, Bool.not_true, Bool.not_false]
      refine pure_ (i := 10) (N := some 23) (v := ?_) (a' := ?_) #[true, true, true, true, true, true, true, true, true, true, true, false, false, false, false, false, false, false, false, false, false, false, false, false, false] rfl rfl (by kernel_rfl) (fun _ _ _ h => h) (Or.inl ⟨by rfl, ?_⟩) ?_ ?_
      rotate_left
      · intro w'
        go_simp
        with_reducible rfl
      rotate_left
      · simp only [Act.put, List.setIfInBounds_toArray, List.set_cons_zero, List.set_cons_succ, i64_w, i32_w]
        rfl
      refine pure_ (i := 11) (N := some 24) (v := ?_) (a' := ?_) #[true, true, true, true, true, true, true, true, true, true, true, true, false, false, false, false, false, false, false, false, false, false, false, false, false] rfl rfl (by kernel_rfl) (fun _ _ _ h => h) (Or.inl ⟨by rfl, ?_⟩) ?_ ?_
      rotate_left
      · intro w'
        go_simp
        with_reducible rfl
      rotate_left
      · simp only [Act.put, List.setIfInBounds_toArray, List.set_cons_zero, List.set_cons_succ, i64_w, i32_w]
        rfl
      refine pure_ (i := 12) (N := some 25) (v := ?_) (a' := ?_) #[true, true, true, true, true, true, true, true, true, true, true, true, true, false, false, false, false, false, false, false, false, false, false, false, false] rfl rfl (by kernel_rfl) (fun _ _ _ h => h) (Or.inl ⟨by rfl, ?_⟩) ?_ ?_
      rotate_left
      · intro w'
        go_simp
        with_reducible rfl
      rotate_left
      · simp only [Act.put, List.setIfInBounds_toArray, List.set_cons_zero, List.set_cons_succ, i64_w, i32_w]
        rfl
      by_cases c4395 : t4367.2.2.2.2.1 = 1
      · replace H := if_yes c4395 H
        have c4395b0 : (t4367.2.2.2.2.1 == 1) = true := beq_iff_eq.mpr c4395
        have c4395b1 : (t4367.2.2.2.2.1 != 1) = false := bne_eq_false_iff_eq.mpr c4395
        clear c4395
        try simp only [c4395b0, Bool.not_true, Bool.not_false]
        refine pure_ (i := 13) (N := some 26) (v := undef) (a' := ?_) #[true, true, true, true, true, true, true, true, true, true, true, true, true, true, false, false, false, false, false, false, false, false, false, false, false] rfl rfl (by kernel_rfl) (fun _ _ _ h => h) (Or.inr ⟨by rfl, rfl⟩) ?_ ?_
        rotate_left
        · simp only [Act.put, List.setIfInBounds_toArray, List.set_cons_zero, List.set_cons_succ, i64_w, i32_w]
          rfl
        try simp only [c4395b0, Bool.not_true, Bool.not_false]
        refine pure_ (i := 14) (N := some 27) (v := undef) (a' := ?_) #[true, true, true, true, true, true, true, true, true, true, true, true, true, true, true, false, false, false, false, false, false, false, false, false, false] rfl rfl (by kernel_rfl) (fun _ _ _ h => h) (Or.inr ⟨by rfl, rfl⟩) ?_ ?_
        rotate_left
        · simp only [Act.put, List.setIfInBounds_toArray, List.set_cons_zero, List.set_cons_succ, i64_w, i32_w]
          rfl
        try simp only [c4395b0, Bool.not_true, Bool.not_false]
        refine pure_ (i := 15) (N := some 28) (v := undef) (a' := ?_) #[true, true, true, true, true, true, true, true, true, true, true, true, true, true, true, true, false, false, false, false, false, false, false, false, false] rfl rfl (by kernel_rfl) (fun _ _ _ h => h) (Or.inr ⟨by rfl, rfl⟩) ?_ ?_
        rotate_left
        · simp only [Act.put, List.setIfInBounds_toArray, List.set_cons_zero, List.set_cons_succ, i64_w, i32_w]
          rfl
        try simp only [c4395b0, Bool.not_true, Bool.not_false]
        refine pure_ (i := 16) (N := some 29) (v := undef) (a' := ?_) #[true, true, true, true, true, true, true, true, true, true, true, true, true, true, true, true, true, false, false, false, false, false, false, false, false] rfl rfl (by kernel_rfl) (fun _ _ _ h => h) (Or.inr ⟨by rfl, rfl⟩) ?_ ?_
        rotate_left
        · simp only [Act.put, List.setIfInBounds_toArray, List.set_cons_zero, List.set_cons_succ, i64_w, i32_w]
          rfl
        try simp only [c4395b0, Bool.not_true, Bool.not_false]
        refine pure_ (i := 17) (N := some 30) (v := undef) (a' := ?_) #[true, true, true, true, true, true, true, true, true, true, true, true, true, true, true, true, true, true, false, false, false, false, false, false, false] rfl rfl (by kernel_rfl) (fun _ _ _ h => h) (Or.inr ⟨by rfl, rfl⟩) ?_ ?_
        rotate_left
        · simp only [Act.put, List.setIfInBounds_toArray, List.set_cons_zero, List.set_cons_succ, i64_w, i32_w]
          rfl
        refine pure_ (i := 18) (N := some 31) (v := ?_) (a' := ?_) #[true, true, true, true, true, true, true, true, true, true, true, true, true, true, true, true, true, true, true, false, false, false, false, false, false] rfl rfl (by kernel_rfl) (fun _ _ _ h => h) (Or.inl ⟨by rfl, ?_⟩) ?_ ?_
        rotate_left
        · intro w'
          go_simp
          with_reducible rfl
        rotate_left
        · simp only [Act.put, List.setIfInBounds_toArray, List.set_cons_zero, List.set_cons_succ, i64_w, i32_w]
          rfl
        refine pure_ (i := 19) (N := some 32) (v := ?_) (a' := ?_) #[true, true, true, true, true, true, true, true, true, true, true, true, true, true, true, true, true, true, true, true, false, false, false, false, false] rfl rfl (by kernel_rfl) (fun _ _ _ h => h) (Or.inl ⟨by rfl, ?_⟩) ?_ ?_
        rotate_left
        · intro w'
          go_simp
          with_reducible rfl
        rotate_left
        · simp only [Act.put, List.setIfInBounds_toArray, List.set_cons_zero, List.set_cons_succ, i64_w, i32_w]
          rfl
        refine pure_ (i := 20) (N := some 33) (v := undef) (a' := ?_) #[true, true, true, true, true, true, true, true, true, true, true, true, true, true, true, true, true, true, true, true, true, false, false, false, false] rfl rfl (by kernel_rfl) (fun _ _ _ h => h) (Or.inr ⟨by rfl, rfl⟩) ?_ ?_
        rotate_left
        · simp only [Act.put, List.setIfInBounds_toArray, List.set_cons_zero, List.set_cons_succ, i64_w, i32_w]
          rfl
        refine pure_ (i := 21) (N := some 34) (v := undef) (a' := ?_) #[true, true, true, true, true, true, true, true, true, true, true, true, true, true, true, true, true, true, true, true, true, true, false, false, false] rfl rfl (by kernel_rfl) (fun _ _ _ h => h) (Or.inr ⟨by rfl, rfl⟩) ?_ ?_
        rotate_left
        · simp only [Act.put, List.setIfInBounds_toArray, List.set_cons_zero, List.set_cons_succ, i64_w, i32_w]
          rfl
        refine pure_ (i := 22) (N := some 35) (v := undef) (a' := ?_) #[true, true, true, true, true, true, true, true, true, true, true, true, true, true, true, true, true, true, true, true, true, true, true, false, false] rfl rfl (by kernel_rfl) (fun _ _ _ h => h) (Or.inr ⟨by rfl, rfl⟩) ?_ ?_
        rotate_left
        · simp only [Act.put, List.setIfInBounds_toArray, List.set_cons_zero, List.set_cons_succ, i64_w, i32_w]
          rfl
        refine pure_ (i := 23) (N := some 36) (v := undef) (a' := ?_) #[true, true, true, true, true, true, true, true, true, true, true, true, true, true, true, true, true, true, true, true, true, true, true, true, false] rfl rfl (by kernel_rfl) (fun _ _ _ h => h) (Or.inr ⟨by rfl, rfl⟩) ?_ ?_
        rotate_left
        · simp only [Act.put, List.setIfInBounds_toArray, List.set_cons_zero, List.set_cons_succ, i64_w, i32_w]
          rfl
        refine pure_ (i := 24) (N := some 37) (v := ?_) (a' := ?_) #[true, true, true, true, true, true, true, true, true, true, true, true, true, true, true, true, true, true, true, true, true, true, true, true, true] rfl rfl (by kernel_rfl) (fun _ _ _ h => h) (Or.inl ⟨by rfl, ?_⟩) ?_ ?_
        rotate_left
        · intro w'
          go_simp
          with_reducible rfl
        rotate_left
        · simp only [Act.put, List.setIfInBounds_toArray, List.set_cons_zero, List.set_cons_succ, i64_w, i32_w]
          rfl
        refine done_ (by kernel_rfl) ?_
        replace HS : Aside0 (Sep FF w [b7 g3643 g3645 a3653 a3654 a3655 a3656, b6 g3645 A3648 l3647.length n3650 t4391.2, r5 A3648 l3647.length n3650 l3647] w4393) := ⟨HS.out.sub (.cons_cons _ (.cons_cons _ (.cons_cons _ (.cons _ .slnil))))⟩
        go_wp2_with fail
        go_ret
        rw [← some_eq H]
        exact ⟨(by first | rfl | (simp [IntKind.wrap_u32]; done)), HS.out⟩
      · replace H := if_no c4395 H
        have c4395b0 : (t4367.2.2.2.2.1 == 1) = false := beq_eq_false_iff_ne.mpr c4395
        have c4395b1 : (t4367.2.2.2.2.1 != 1) = true := bne_iff_ne.mpr c4395
        clear c4395
        try simp only [c4395b0, Bool.not_true, Bool.not_false]
        refine pure_ (i := 13) (N := some 26) (v := ?_) (a' := ?_) #[true, true, true, true, true, true, true, true, true, true, true, true, true, true, false, false, false, false, false, false, false, false, false, false, false] rfl rfl (by kernel_rfl) (fun _ _ _ h => h) (Or.inl ⟨by rfl, ?_⟩) ?_ ?_
        rotate_left
        · intro w'
          go_simp
          with_reducible rfl
        rotate_left
        · simp only [Act.put, List.setIfInBounds_toArray, List.set_cons_zero, List.set_cons_succ, i64_w, i32_w]
          rfl
        try simp only [c4395b0, Bool.not_true, Bool.not_false]
        refine pure_ (i := 15) (N := some 28) (v := ?_) (a' := ?_) #[true, true, true, true, true, true, true, true, true, true, true, true, true, true, false, true, false, false, false, false, false, false, false, false, false] rfl rfl (by kernel_rfl) (fun _ _ _ h => h) (Or.inl ⟨by rfl, ?_⟩) ?_ ?_
        rotate_left
        · intro w'
          go_simp
          with_reducible rfl
        rotate_left
        · simp only [Act.put, List.setIfInBounds_toArray, List.set_cons_zero, List.set_cons_succ, i64_w, i32_w]
          rfl
        try simp only [c4395b0, Bool.not_true, Bool.not_false]
        refine take_ (i := 14) (N := some 27) (v := ?_) (a' := ?_) #[true, true, true, true, true, true, true, true, true, true, true, true, true, true, true, true, false, false, false, false, false, false, false, false, false] rfl rfl (by kernel_rfl) (fun _ _ _ h => h) (Or.inl ⟨by rfl, ?_⟩) hHeld ?_ ?_
        rotate_left
        · rintro w' hS'
          obtain ⟨s0, s1⟩ := hS'
          go_simp
          with_reducible rfl
        rotate_left
        · simp only [Act.put, List.setIfInBounds_toArray, List.set_cons_zero, List.set_cons_succ, i64_w, i32_w]
          rfl
        try simp only [c4395b0, Bool.not_true, Bool.not_false]
        refine one_ (i := 16) (N := some 29) #[true, true, true, true, true, true, true, true, true, true, true, true, true, true, true, true, true, false, false, false, false, false, false, false, false] rfl rfl (by kernel_rfl) (by decide) (fun K hK => ?_)
        obtain ⟨t4396, HA4397, H⟩ := bind_some H
        refine goes_ Tryd.func111 (by kernel_rfl) rfl #[.pointer (some ⟨g3643, 0, none⟩)] (by rfl) rfl rfl (by (try simp only [List.map_toArray, List.map_cons, List.map_nil]); first | done | rfl) ?_
        refine (tint_Parity.calls l3647 t4391.2 a3653 a3654 a3655 a3656 g3643 g3645 A3648 l3647.length n3650 t4396 _ ⟨HGl0.out.pass HS.out⟩ ⟨HS.out.begin⟩ HA4397).mono ?_
        rintro e_ w4398 ⟨rfl, hS⟩
        replace HS : Aside0 (Sep FF w [b7 g3643 g3645 a3653 a3654 a3655 a3656, b6 g3645 A3648 l3647.length n3650 t4396.2, r5 A3648 l3647.length n3650 l3647, b16 g4370 t4367.1 t4367.2.1 t4367.2.2.1 t4367.2.2.2.1 t4367.2.2.2.2.1 t4367.2.2.2.2.2.1 t4367.2.2.2.2.2.2.1] w4398) := ⟨HS.out.call hS⟩
        clear hS
        refine ⟨_, rfl, ?_⟩
        refine hK.out _ _ (⟨blk_cellv (HS.out.at3) 4 rfl, blk_cellv (HS.out.at3) 1 rfl⟩) (fun hHeld => ?_)
        clear hK K
        refine norm_ (a' := ?_) ?_ ?_
        rotate_left
        · show Act.put _ (some 29) _ = _
          simp only [Act.put, List.setIfInBounds_toArray, List.set_cons_zero, List.set_cons_succ, i64_w, i32_w]
          rfl
        try simp only [c4395b0, Bool.not_true, Bool.not_false]
        refine pure_ (i := 17) (N := some 30) (v := ?_) (a' := ?_) #[true, true, true, true, true, true, true, true, true, true, true, true, true, true, true, true, true, true, false, false, false, false, false, false, false] rfl rfl (by kernel_rfl) (fun _ _ _ h => h) (Or.inl ⟨by rfl, ?_⟩) ?_ ?_
        rotate_left
        · intro w'
          go_simp
          with_reducible rfl
        rotate_left
        · simp only [Act.put, List.setIfInBounds_toArray, List.set_cons_zero, List.set_cons_succ, i64_w, i32_w]
          rfl
        refine pure_ (i := 18) (N := some 31) (v := ?_) (a' := ?_) #[true, true, true, true, true, true, true, true, true, true, true, true, true, true, true, true, true, true, true, false, false, false, false, false, false] rfl rfl (by kernel_rfl) (fun _ _ _ h => h) (Or.inl ⟨by rfl, ?_⟩) ?_ ?_
        rotate_left
        · intro w'
          go_simp
          with_reducible rfl
        rotate_left
        · simp only [Act.put, List.setIfInBounds_toArray, List.set_cons_zero, List.set_cons_succ, i64_w, i32_w]
          rfl
        refine pure_ (i := 19) (N := some 32) (v := ?_) (a' := ?_) #[true, true, true, true, true, true, true, true, true, true, true, true, true, true, true, true, true, true, true, true, false, false, false, false, false] rfl rfl (by kernel_rfl) (fun _ _ _ h => h) (Or.inl ⟨by rfl, ?_⟩) ?_ ?_
        rotate_left
        · intro w'
          go_simp
          with_reducible rfl
        rotate_left
        · simp only [Act.put, List.setIfInBounds_toArray, List.set_cons_zero, List.set_cons_succ, i64_w, i32_w]
          rfl
        by_cases c4399 : t4367.2.1 = t4396.1
        · replace H := if_yes c4399 H
          have c4399b0 : (t4367.2.1 == t4396.1) = true := beq_iff_eq.mpr c4399
          have c4399b1 : (t4367.2.1 != t4396.1) = false := bne_eq_false_iff_eq.mpr c4399
          clear c4399
          try simp only [c4399b0, Bool.not_true, Bool.not_false]
          refine pure_ (i := 20) (N := some 33) (v := undef) (a' := ?_) #[true, true, true, true, true, true, true, true, true, true, true, true, true, true, true, true, true, true, true, true, true, false, false, false, false] rfl rfl (by kernel_rfl) (fun _ _ _ h => h) (Or.inr ⟨by rfl, rfl⟩) ?_ ?_
          rotate_left
          · simp only [Act.put, List.setIfInBounds_toArray, List.set_cons_zero, List.set_cons_succ, i64_w, i32_w]
            rfl
          try simp only [c4399b0, Bool.not_true, Bool.not_false]
          refine pure_ (i := 21) (N := some 34) (v := undef) (a' := ?_) #[true, true, true, true, true, true, true, true, true, true, true, true, true, true, true, true, true, true, true, true, true, true, false, false, false] rfl rfl (by kernel_rfl) (fun _ _ _ h => h) (Or.inr ⟨by rfl, rfl⟩) ?_ ?_
          rotate_left
          · simp only [Act.put, List.setIfInBounds_toArray, List.set_cons_zero, List.set_cons_succ, i64_w, i32_w]
            rfl
          try simp only [c4399b0, Bool.not_true, Bool.not_false]
          refine pure_ (i := 22) (N := some 35) (v := undef) (a' := ?_) #[true, true, true, true, true, true, true, true, true, true, true, true, true, true, true, true, true, true, true, true, true, true, true, false, false] rfl rfl (by kernel_rfl) (fun _ _ _ h => h) (Or.inr ⟨by rfl, rfl⟩) ?_ ?_
          rotate_left
          · simp only [Act.put, List.setIfInBounds_toArray, List.set_cons_zero, List.set_cons_succ, i64_w, i32_w]
            rfl
          try simp only [c4399b0, Bool.not_true, Bool.not_false]
          refine pure_ (i := 23) (N := some 36) (v := undef) (a' := ?_) #[true, true, true, true, true, true, true, true, true, true, true, true, true, true, true, true, true, true, true, true, true, true, true, true, false] rfl rfl (by kernel_rfl) (fun _ _ _ h => h) (Or.inr ⟨by rfl, rfl⟩) ?_ ?_
          rotate_left
          · simp only [Act.put, List.setIfInBounds_toArray, List.set_cons_zero, List.set_cons_succ, i64_w, i32_w]
            rfl
          refine pure_ (i := 24) (N := some 37) (v := ?_) (a' := ?_) #[true, true, true, true, true, true, true, true, true, true, true, true, true, true, true, true, true, true, true, true, true, true, true, true, true] rfl rfl (by kernel_rfl) (fun _ _ _ h => h) (Or.inl ⟨by rfl, ?_⟩) ?_ ?_
          rotate_left
          · intro w'
            go_simp
            with_reducible rfl
          rotate_left
          · simp only [Act.put, List.setIfInBounds_toArray, List.set_cons_zero, List.set_cons_succ, i64_w, i32_w]
            rfl
          refine done_ (by kernel_rfl) ?_
          replace HS : Aside0 (Sep FF w [b7 g3643 g3645 a3653 a3654 a3655 a3656, b6 g3645 A3648 l3647.length n3650 t4396.2, r5 A3648 l3647.length n3650 l3647] w4398) := ⟨HS.out.sub (.cons_cons _ (.cons_cons _ (.cons_cons _ (.cons _ .slnil))))⟩
          go_wp2_with fail
          go_ret
          rw [← some_eq H]
          exact ⟨(by first | rfl | (simp [IntKind.wrap_u32]; done)), HS.out⟩
        · replace H := if_no c4399 H
          have c4399b0 : (t4367.2.1 == t4396.1) = false := beq_eq_false_iff_ne.mpr c4399
          have c4399b1 : (t4367.2.1 != t4396.1) = true := bne_iff_ne.mpr c4399
          clear c4399
          try simp only [c4399b0, Bool.not_true, Bool.not_false]
          refine pure_ (i := 20) (N := some 33) (v := ?_) (a' := ?_) #[true, true, true, true, true, true, true, true, true, true, true, true, true, true, true, true, true, true, true, true, true, false, false, false, false] rfl rfl (by kernel_rfl) (fun _ _ _ h => h) (Or.inl ⟨by rfl, ?_⟩) ?_ ?_
          rotate_left
          · intro w'
            go_simp
            with_reducible rfl
          rotate_left
          · simp only [Act.put, List.setIfInBounds_toArray, List.set_cons_zero, List.set_cons_succ, i64_w, i32_w]
            rfl
          try simp only [c4399b0, Bool.not_true, Bool.not_false]
          refine pure_ (i := 21) (N := some 34) (v := ?_) (a' := ?_) #[true, true, true, true, true, true, true, true, true, true, true, true, true, true, true, true, true, true, true, true, true, true, false, false, false] rfl rfl (by kernel_rfl) (fun _ _ _ h => h) (Or.inl ⟨by rfl, ?_⟩) ?_ ?_
          rotate_left
          · intro w'
            go_simp
            with_reducible rfl
          rotate_left
          · simp only [Act.put, List.setIfInBounds_toArray, List.set_cons_zero, List.set_cons_succ, i64_w, i32_w]
            rfl
          try simp only [c4399b0, Bool.not_true, Bool.not_false]
          refine one_ (i := 22) (N := some 35) #[true, true, true, true, true, true, true, true, true, true, true, true, true, true, true, true, true, true, true, true, true, true, true, false, false] rfl rfl (by kernel_rfl) (by decide) (fun K hK => ?_)
          obtain ⟨t4400, HA4401, H⟩ := bind_some H
          refine goes_ Tryd.func113 (by kernel_rfl) rfl #[.pointer (some ⟨g3643, 0, none⟩), .int .i64 a3657] (by rfl) rfl rfl (by (try simp only [List.map_toArray, List.map_cons, List.map_nil]); first | done | rfl) ?_
          refine (tint_Paint.calls _ l3647 t4396.2 a3653 a3654 a3655 a3656 a3657 g3643 g3645 A3648 l3647.length n3650 t4400 _ ⟨HGl0.out.pass HS.out⟩ ⟨HS.out.begin⟩ HA4401).mono ?_
          rintro e_ w4402 ⟨rfl, hS⟩
          replace HS : Aside0 (Sep FF w [b7 g3643 g3645 a3653 a3654 a3655 a3656, b6 g3645 A3648 l3647.length n3650 t4400.2.1, r5 A3648 l3647.length n3650 t4400.2.2, b16 g4370 t4367.1 t4367.2.1 t4367.2.2.1 t4367.2.2.2.1 t4367.2.2.2.2.1 t4367.2.2.2.2.2.1 t4367.2.2.2.2.2.2.1] w4402) := ⟨HS.out.call hS⟩
          clear hS
          refine ⟨_, rfl, ?_⟩
          refine hK.out _ _ (⟨blk_cellv (HS.out.at3) 4 rfl, blk_cellv (HS.out.at3) 1 rfl⟩) (fun hHeld => ?_)
          clear hK K
          refine norm_ (a' := ?_) ?_ ?_
          rotate_left
          · show Act.put _ (some 35) _ = _
            simp only [Act.put, List.setIfInBounds_toArray, List.set_cons_zero, List.set_cons_succ, i64_w, i32_w]
            rfl
          try simp only [c4399b0, Bool.not_true, Bool.not_false]
          refine pure_ (i := 23) (N := some 36) (v := ?_) (a' := ?_) #[true, true, true, true, true, true, true, true, true, true, true, true, true, true, true, true, true, true, true, true, true, true, true, true, false] rfl rfl (by kernel_rfl) (fun _ _ _ h => h) (Or.inl ⟨by rfl, ?_⟩) ?_ ?_
          rotate_left
          · intro w'
            go_simp
            with_reducible rfl
          rotate_left
          · simp only [Act.put, List.setIfInBounds_toArray, List.set_cons_zero, List.set_cons_succ, i64_w, i32_w]
            rfl
          refine pure_ (i := 24) (N := some 37) (v := ?_) (a' := ?_) #[true, true, true, true, true, true, true, true, true, true, true, true, true, true, true, true, true, true, true, true, true, true, true, true, true] rfl rfl (by kernel_rfl) (fun _ _ _ h => h) (Or.inl ⟨by rfl, ?_⟩) ?_ ?_
          rotate_left
          · intro w'
            go_simp
            with_reducible rfl
          rotate_left
          · simp only [Act.put, List.setIfInBounds_toArray, List.set_cons_zero, List.set_cons_succ, i64_w, i32_w]
            rfl
          refine done_ (by kernel_rfl) ?_
          by_cases c4403 : t4400.1 = true
          · replace H := if_yes c4403 H
            have c4403b0 : t4400.1 = true := c4403
            have c4403b1 : (!t4400.1) = false := by rw [c4403b0]; rfl
            try rw [c4403b1]
            clear c4403
            replace HS : Aside0 (Sep FF w [b7 g3643 g3645 a3653 a3654 a3655 a3656, b6 g3645 A3648 l3647.length n3650 t4400.2.1, r5 A3648 l3647.length n3650 t4400.2.2] w4402) := ⟨HS.out.sub (.cons_cons _ (.cons_cons _ (.cons_cons _ (.cons _ .slnil))))⟩
            go_wp2_with fail
            obtain ⟨t4404, HA4405, H⟩ := bind_some H
            refine (ring_Add.calls _ t4400.2.2 t4400.2.1 a3653 a3654 a3655 a3656 (wrap64 (a3657 - 1)) g3643 g3645 A3648 l3647.length n3650 t4404 _ ⟨HGl0.out.pass HS.out⟩ ⟨HS.out.begin⟩ HA4405).mono ?_
            rintro e_ w4406 ⟨rfl, hS⟩
            replace HS : Aside0 (Sep FF w [b7 g3643 g3645 a3653 a3654 a3655 a3656, b6 g3645 A3648 l3647.length n3650 t4404.2.1, r5 A3648 l3647.length n3650 t4404.2.2] w4406) := ⟨HS.out.call hS⟩
            clear hS
            go_wp2_with fail
            go_ret
            rw [← some_eq H]
            exact ⟨(by first | rfl | (simp [IntKind.wrap_u32]; done)), HS.out⟩
          · replace H := if_no c4403 H
            have c4403b0 : t4400.1 = false := by simpa using c4403
            have c4403b1 : (!t4400.1) = true := by rw [c4403b0]; rfl
            try rw [c4403b1]
            clear c4403
            replace HS : Aside0 (Sep FF w [b7 g3643 g3645 a3653 a3654 a3655 a3656, b6 g3645 A3648 l3647.length n3650 t4400.2.1, r5 A3648 l3647.length n3650 t4400.2.2] w4402) := ⟨HS.out.sub (.cons_cons _ (.cons_cons _ (.cons_cons _ (.cons _ .slnil))))⟩
            go_wp2_with fail
            go_ret
            rw [← some_eq H]
            exact ⟨(by first | rfl | (simp [IntKind.wrap_u32]; done)), HS.out⟩
  · replace H := if_no c4390 H
    have c4390b0 : t4367.2.2.2.2.2.2.2.1 = false := by simpa using c4390
    have c4390b1 : (!t4367.2.2.2.2.2.2.2.1) = true := by rw [c4390b0]; rfl
    try rw [c4390b1]
    clear c4390
    try simp only [c4390b0, Bool.not_true, Bool.not_false]
    refine pure_ (i := 3) (N := some 16) (v := undef) (a' := ?_) #[true, true, true, true, false, false, false, false, false, false, false, false, false, false, false, false, false, false, false, false, false, false, false, false, false] rfl rfl (by kernel_rfl) (fun _ _ _ h => h) (Or.inr ⟨by rfl, rfl⟩) ?_ ?_
    rotate_left
    · simp only [Act.put, List.setIfInBounds_toArray, List.set_cons_zero, List.set_cons_succ, i64_w, i32_w]
      rfl
    try simp only [c4390b0, Bool.not_true, Bool.not_false]
    refine pure_ (i := 4) (N := some 17) (v := undef) (a' := ?_) #[true, true, true, true, true, false, false, false, false, false, false, false, false, false, false, false, false, false, false, false, false, false, false, false, false] rfl rfl (by kernel_rfl) (fun _ _ _ h => h) (Or.inr ⟨by rfl, rfl⟩) ?_ ?_
    rotate_left
    · simp only [Act.put, List.setIfInBounds_toArray, List.set_cons_zero, List.set_cons_succ, i64_w, i32_w]
      rfl
    try simp only [c4390b0, Bool.not_true, Bool.not_false]
    refine pure_ (i := 5) (N := some 18) (v := undef) (a' := ?_) #[true, true, true, true, true, true, false, false, false, false, false, false, false, false, false, false, false, false, false, false, false, false, false, false, false] rfl rfl (by kernel_rfl) (fun _ _ _ h => h) (Or.inr ⟨by rfl, rfl⟩) ?_ ?_
    rotate_left
    · simp only [Act.put, List.setIfInBounds_toArray, List.set_cons_zero, List.set_cons_succ, i64_w, i32_w]
      rfl
    refine pure_ (i := 6) (N := some 19) (v := ?_) (a' := ?_) #[true, true, true, true, true, true, true, false, false, false, false, false, false, false, false, false, false, false, false, false, false, false, false, false, false] rfl rfl (by kernel_rfl) (fun _ _ _ h => h) (Or.inl ⟨by rfl, ?_⟩) ?_ ?_
    rotate_left
    · intro w'
      go_simp
      with_reducible rfl
    rotate_left
    · simp only [Act.put, List.setIfInBounds_toArray, List.set_cons_zero, List.set_cons_succ, i64_w, i32_w]
      rfl
    refine pure_ (i := 7) (N := some 20) (v := ?_) (a' := ?_) #[true, true, true, true, true, true, true, true, false, false, false, false, false, false, false, false, false, false, false, false, false, false, false, false, false] rfl rfl (by kernel_rfl) (fun _ _ _ h => h) (Or.inl ⟨by rfl, ?_⟩) ?_ ?_
    rotate_left
    · intro w'
      go_simp
      with_reducible rfl
    rotate_left
    · simp only [Act.put, List.setIfInBounds_toArray, List.set_cons_zero, List.set_cons_succ, i64_w, i32_w]
      rfl
    refine pure_ (i := 8) (N := some 21) (v := undef) (a' := ?_) #[true, true, true, true, true, true, true, true, true, false, false, false, false, false, false, false, false, false, false, false, false, false, false, false, false] rfl rfl (by kernel_rfl) (fun _ _ _ h => h) (Or.inr ⟨by rfl, rfl⟩) ?_ ?_
    rotate_left
    · simp only [Act.put, List.setIfInBounds_toArray, List.set_cons_zero, List.set_cons_succ, i64_w, i32_w]
      rfl
    refine pure_ (i := 9) (N := some 22) (v := undef) (a' := ?_) #[true, true, true, true, true, true, true, true, true, true, false, false, false, false, false, false, false, false, false, false, false, false, false, false, false] rfl rfl (by kernel_rfl) (fun _ _ _ h => h) (Or.inr ⟨by rfl, rfl⟩) ?_ ?_
    rotate_left
    · simp only [Act.put, List.setIfInBounds_toArray, List.set_cons_zero, List.set_cons_succ, i64_w, i32_w]
      rfl
    refine pure_ (i := 10) (N := some 23) (v := undef) (a' := ?_) #[true, true, true, true, true, true, true, true, true, true, true, false, false, false, false, false, false, false, false, false, false, false, false, false, false] rfl rfl (by kernel_rfl) (fun _ _ _ h => h) (Or.inr ⟨by rfl, rfl⟩) ?_ ?_
    rotate_left
    · simp only [Act.put, List.setIfInBounds_toArray, List.set_cons_zero, List.set_cons_succ, i64_w, i32_w]
      rfl
    refine pure_ (i := 11) (N := some 24) (v := ?_) (a' := ?_) #[true, true, true, true, true, true, true, true, true, true, true, true, false, false, false, false, false, false, false, false, false, false, false, false, false] rfl rfl (by kernel_rfl) (fun _ _ _ h => h) (Or.inl ⟨by rfl, ?_⟩) ?_ ?_
    rotate_left
    · intro w'
      go_simp
      with_reducible rfl
    rotate_left
    · simp only [Act.put, List.setIfInBounds_toArray, List.set_cons_zero, List.set_cons_succ, i64_w, i32_w]
      rfl
    refine pure_ (i := 12) (N := some 25) (v := ?_) (a' := ?_) #[true, true, true, true, true, true, true, true, true, true, true, true, true, false, false, false, false, false, false, false, false, false, false, false, false] rfl rfl (by kernel_rfl) (fun _ _ _ h => h) (Or.inl ⟨by rfl, ?_⟩) ?_ ?_
    rotate_left
    · intro w'
      go_simp
      with_reducible rfl
    rotate_left
    · simp only [Act.put, List.setIfInBounds_toArray, List.set_cons_zero, List.set_cons_succ, i64_w, i32_w]
      rfl
    refine pure_ (i := 13) (N := some 26) (v := undef) (a' := ?_) #[true, true, true, true, true, true, true, true, true, true, true, true, true, true, false, false, false, false, false, false, false, false, false, false, false] rfl rfl (by kernel_rfl) (fun _ _ _ h => h) (Or.inr ⟨by rfl, rfl⟩) ?_ ?_
    rotate_left
    · simp only [Act.put, List.setIfInBounds_toArray, List.set_cons_zero, List.set_cons_succ, i64_w, i32_w]
      rfl
    refine pure_ (i := 14) (N := some 27) (v := undef) (a' := ?_) #[true, true, true, true, true, true, true, true, true, true, true, true, true, true, true, false, false, false, false, false, false, false, false, false, false] rfl rfl (by kernel_rfl) (fun _ _ _ h => h) (Or.inr ⟨by rfl, rfl⟩) ?_ ?_
    rotate_left
    · simp only [Act.put, List.setIfInBounds_toArray, List.set_cons_zero, List.set_cons_succ, i64_w, i32_w]
      rfl
    refine pure_ (i := 15) (N := some 28) (v := undef) (a' := ?_) #[true, true, true, true, true, true, true, true, true, true, true, true, true, true, true, true, false, false, false, false, false, false, false, false, false] rfl rfl (by kernel_rfl) (fun _ _ _ h => h) (Or.inr ⟨by rfl, rfl⟩) ?_ ?_
    rotate_left
    · simp only [Act.put, List.setIfInBounds_toArray, List.set_cons_zero, List.set_cons_succ, i64_w, i32_w]
      rfl
    refine pure_ (i := 16) (N := some 29) (v := undef) (a' := ?_) #[true, true, true, true, true, true, true, true, true, true, true, true, true, true, true, true, true, false, false, false, false, false, false, false, false] rfl rfl (by kernel_rfl) (fun _ _ _ h => h) (Or.inr ⟨by rfl, rfl⟩) ?_ ?_
    rotate_left
    · simp only [Act.put, List.setIfInBounds_toArray, List.set_cons_zero, List.set_cons_succ, i64_w, i32_w]
      rfl
    refine pure_ (i := 17) (N := some 30) (v := undef) (a' := ?_) #[true, true, true, true, true, true, true, true, true, true, true, true, true, true, true, true, true, true, false, false, false, false, false, false, false] rfl rfl (by kernel_rfl) (fun _ _ _ h => h) (Or.inr ⟨by rfl, rfl⟩) ?_ ?_
    rotate_left
    · simp only [Act.put, List.setIfInBounds_toArray, List.set_cons_zero, List.set_cons_succ, i64_w, i32_w]
      rfl
    refine pure_ (i := 18) (N := some 31) (v := ?_) (a' := ?_) #[true, true, true, true, true, true, true, true, true, true, true, true, true, true, true, true, true, true, true, false, false, false, false, false, false] rfl rfl (by kernel_rfl) (fun _ _ _ h => h) (Or.inl ⟨by rfl, ?_⟩) ?_ ?_
    rotate_left
    · intro w'
      go_simp
      with_reducible rfl
    rotate_left
    · simp only [Act.put, List.setIfInBounds_toArray, List.set_cons_zero, List.set_cons_succ, i64_w, i32_w]
      rfl
    refine pure_ (i := 19) (N := some 32) (v := ?_) (a' := ?_) #[true, true, true, true, true, true, true, true, true, true, true, true, true, true, true, true, true, true, true, true, false, false, false, false, false] rfl rfl (by kernel_rfl) (fun _ _ _ h => h) (Or.inl ⟨by rfl, ?_⟩) ?_ ?_
    rotate_left
    · intro w'
      go_simp
      with_reducible rfl
    rotate_left
    · simp only [Act.put, List.setIfInBounds_toArray, List.set_cons_zero, List.set_cons_succ, i64_w, i32_w]
      rfl
    refine pure_ (i := 20) (N := some 33) (v := undef) (a' := ?_) #[true, true, true, true, true, true, true, true, true, true, true, true, true, true, true, true, true, true, true, true, true, false, false, false, false] rfl rfl (by kernel_rfl) (fun _ _ _ h => h) (Or.inr ⟨by rfl, rfl⟩) ?_ ?_
    rotate_left
    · simp only [Act.put, List.setIfInBounds_toArray, List.set_cons_zero, List.set_cons_succ, i64_w, i32_w]
      rfl
    refine pure_ (i := 21) (N := some 34) (v := undef) (a' := ?_) #[true, true, true, true, true, true, true, true, true, true, true, true, true, true, true, true, true, true, true, true, true, true, false, false, false] rfl rfl (by kernel_rfl) (fun _ _ _ h => h) (Or.inr ⟨by rfl, rfl⟩) ?_ ?_
    rotate_left
    · simp only [Act.put, List.setIfInBounds_toArray, List.set_cons_zero, List.set_cons_succ, i64_w, i32_w]
      rfl
    refine pure_ (i := 22) (N := some 35) (v := undef) (a' := ?_) #[true, true, true, true, true, true, true, true, true, true, true, true, true, true, true, true, true, true, true, true, true, true, true, false, false] rfl rfl (by kernel_rfl) (fun _ _ _ h => h) (Or.inr ⟨by rfl, rfl⟩) ?_ ?_
    rotate_left
    · simp only [Act.put, List.setIfInBounds_toArray, List.set_cons_zero, List.set_cons_succ, i64_w, i32_w]
      rfl
    refine pure_ (i := 23) (N := some 36) (v := undef) (a' := ?_) #[true, true, true, true, true, true, true, true, true, true, true, true, true, true, true, true, true, true, true, true, true, true, true, true, false] rfl rfl (by kernel_rfl) (fun _ _ _ h => h) (Or.inr ⟨by rfl, rfl⟩) ?_ ?_
    rotate_left
    · simp only [Act.put, List.setIfInBounds_toArray, List.set_cons_zero, List.set_cons_succ, i64_w, i32_w]
      rfl
    refine pure_ (i := 24) (N := some 37) (v := ?_) (a' := ?_) #[true, true, true, true, true, true, true, true, true, true, true, true, true, true, true, true, true, true, true, true, true, true, true, true, true] rfl rfl (by kernel_rfl) (fun _ _ _ h => h) (Or.inl ⟨by rfl, ?_⟩) ?_ ?_
    rotate_left
    · intro w'
      go_simp
      with_reducible rfl
    rotate_left
    · simp only [Act.put, List.setIfInBounds_toArray, List.set_cons_zero, List.set_cons_succ, i64_w, i32_w]
      rfl
    refine done_ (by kernel_rfl) ?_
    replace HS : Aside0 (Sep FF w [b7 g3643 g3645 a3653 a3654 a3655 a3656, b6 g3645 A3648 l3647.length n3650 t4367.2.2.2.2.2.2.2.2, r5 A3648 l3647.length n3650 l3647] w4389) := ⟨HS.out.sub (.cons_cons _ (.cons_cons _ (.cons_cons _ (.cons _ .slnil))))⟩
    go_wp2_with fail
    go_ret
    rw [← some_eq H]
    exact ⟨(by first | rfl | (simp [IntKind.wrap_u32]; done)), HS.out⟩

set_option maxHeartbeats 30000000 in
set_option maxRecDepth 100000 in
theorem tint_Black.calls (l4436 : List Int) (a4441 : Int) (a4442 : Int) (a4443 : Int) (a4444 : Int) (a4445 : Int) (a4446 : Int) (g4432 : Nat) (g4434 : Nat) (A4437 : Option Addr) (m4438 : Nat) (n4439 : Nat) (r : Bool × Int) (w : World)  (HGl0 : Aside0 (Gl 0 #[.int .i64 0, .int .i64 0, .int .i64 0, .int .i64 0, .int .i64 0] (fps [b7 g4432 g4434 a4442 a4443 a4444 a4445, b6 g4434 A4437 m4438 n4439 a4441, r5 A4437 m4438 n4439 l4436]) w)) (HS : Aside0 (Sep (fps [b7 g4432 g4434 a4442 a4443 a4444 a4445, b6 g4434 A4437 m4438 n4439 a4441, r5 A4437 m4438 n4439 l4436]) w [b7 g4432 g4434 a4442 a4443 a4444 a4445, b6 g4434 A4437 m4438 n4439 a4441, r5 A4437 m4438 n4439 l4436] w)) (H : Aside0 (tint_Black.f l4436 a4441 a4442 a4443 a4444 a4445 a4446 = some r)) :
    Calls Tryd.prog 114 #[.pointer (some ⟨g4432, 0, none⟩), .int .i64 a4446] w fun e w' => e = .returned (.bool r.1) ∧ Sep (fps [b7 g4432 g4434 a4442 a4443 a4444 a4445, b6 g4434 A4437 m4438 n4439 a4441, r5 A4437 m4438 n4439 l4436]) w [b7 g4432 g4434 a4442 a4443 a4444 a4445, b6 g4434 A4437 m4438 n4439 r.2, r5 A4437 m4438 n4439 l4436] w' := by
  generalize (fps [b7 g4432 g4434 a4442 a4443 a4444 a4445, b6 g4434 A4437 m4438 n4439 a4441, r5 A4437 m4438 n4439 l4436]) = FF at HS HGl0 ⊢
  obtain rfl := (row_len (HS.out.at2)).symm
  unfold tint_Black.f at H
  go_enter Tryd.func114, Tryd.ntmps114
  go_wp2_with fail
  obtain ⟨t4474, HA4475, H⟩ := bind_some H
  refine (tint_of.calls l4436 a4441 a4442 a4443 a4444 a4445 a4446 g4432 g4434 A4437 l4436.length n4439 t4474 _ ⟨HGl0.out.pass HS.out⟩ ⟨HS.out.begin⟩ HA4475).mono ?_
  rintro e_ w4476 ⟨rfl, hS⟩
  replace HS : Aside0 (Sep FF w [b7 g4432 g4434 a4442 a4443 a4444 a4445, b6 g4434 A4437 l4436.length n4439 t4474.2.2.2.2.2.2.2.2, r5 A4437 l4436.length n4439 l4436] w4476) := ⟨HS.out.call hS⟩
  clear hS
  go_wp2_with (first | ((with_reducible refine gate_dst (N := 5) rfl ?_); refine box_on ?hg (N := 5) ?hd (cs := #[.int .i64 0, .int .i64 0, .int .i64 0, .int .i64 0, .int .i64 0, .int .i64 0, .int .i64 0]) (t := 32) ?hr ?_; (case hd => rfl); (case hg => rfl); (case hr => first | (go_simp; done) | (go_simp; rfl)); intro g4477 hg w4478 hbox hb; replace HS : Aside0 (Sep FF w [b7 g4432 g4434 a4442 a4443 a4444 a4445, b6 g4434 A4437 l4436.length n4439 t4474.2.2.2.2.2.2.2.2, r5 A4437 l4436.length n4439 l4436, b16 g4477 0 0 0 0 0 0 0] w4478) := ⟨HS.out.box hg hbox hb⟩; clear hg hbox hb; have hc4480 : w4478.cell? ⟨g4477, 0, none⟩ = some (.int .i64 0) := blk_cellv (HS.out.at3) 0 rfl; have hz4481 : w4478.frozen? ⟨g4477, 0, none⟩ = false := blk_fz (HS.out.at3) 0; have hc4482 : w4478.cell? ⟨g4477, 1, none⟩ = some (.int .i64 0) := blk_cellv (HS.out.at3) 1 rfl; have hz4483 : w4478.frozen? ⟨g4477, 1, none⟩ = false := blk_fz (HS.out.at3) 1; have hc4484 : w4478.cell? ⟨g4477, 2, none⟩ = some (.int .i64 0) := blk_cellv (HS.out.at3) 2 rfl; have hz4485 : w4478.frozen? ⟨g4477, 2, none⟩ = false := blk_fz (HS.out.at3) 2; have hc4486 : w4478.cell? ⟨g4477, 3, none⟩ = some (.int .i64 0) := blk_cellv (HS.out.at3) 3 rfl; have hz4487 : w4478.frozen? ⟨g4477, 3, none⟩ = false := blk_fz (HS.out.at3) 3; have hc4488 : w4478.cell? ⟨g4477, 4, none⟩ = some (.int .i64 0) := blk_cellv (HS.out.at3) 4 rfl; have hz4489 : w4478.frozen? ⟨g4477, 4, none⟩ = false := blk_fz (HS.out.at3) 4; have hc4490 : w4478.cell? ⟨g4477, 5, none⟩ = some (.int .i64 0) := blk_cellv (HS.out.at3) 5 rfl; have hz4491 : w4478.frozen? ⟨g4477, 5, none⟩ = false := blk_fz (HS.out.at3) 5; have hc4492 : w4478.cell? ⟨g4477, 6, none⟩ = some (.int .i64 0) := blk_cellv (HS.out.at3) 6 rfl; have hz4493 : w4478.frozen? ⟨g4477, 6, none⟩ = false := blk_fz (HS.out.at3) 6) | ((with_reducible refine gate_store (t := 32) (p := 5) rfl ?_); refine store_event (w1 := (World.setCell (World.setCell (World.setCell (World.setCell (World.setCell (World.setCell (World.setCell w4478 ⟨g4477, 0, none⟩ (.int .i64 t4474.1)) ⟨g4477, 1, none⟩ (.int .i64 t4474.2.1)) ⟨g4477, 2, none⟩ (.int .i64 t4474.2.2.1)) ⟨g4477, 3, none⟩ (.int .i64 t4474.2.2.2.1)) ⟨g4477, 4, none⟩ (.int .i64 t4474.2.2.2.2.1)) ⟨g4477, 5, none⟩ (.int .i64 t4474.2.2.2.2.2.1)) ⟨g4477, 6, none⟩ (.int .i64 t4474.2.2.2.2.2.2.1))) rfl (t := 32) (p := 5) rfl rfl ?hr ?_; (case hr => first | (go_simp; done) | (go_simp; rfl)); intro w4494 hst; clear hc4480 hz4481 hc4482 hz4483 hc4484 hz4485 hc4486 hz4487 hc4488 hz4489 hc4490 hz4491 hc4492 hz4493; replace HS : Aside0 (Sep FF w [b7 g4432 g4434 a4442 a4443 a4444 a4445, b6 g4434 A4437 l4436.length n4439 t4474.2.2.2.2.2.2.2.2, r5 A4437 l4436.length n4439 l4436, b16 g4477 t4474.1 t4474.2.1 t4474.2.2.1 t4474.2.2.2.1 t4474.2.2.2.2.1 t4474.2.2.2.2.2.1 t4474.2.2.2.2.2.2.1] w4494) := ⟨by rw [hst]; exact HS.out.setAll (l1 := [b7 g4432 g4434 a4442 a4443 a4444 a4445, b6 g4434 A4437 l4436.length n4439 t4474.2.2.2.2.2.2.2.2, r5 A4437 l4436.length n4439 l4436]) (l2 := []) [.int .i64 t4474.1, .int .i64 t4474.2.1, .int .i64 t4474.2.2.1, .int .i64 t4474.2.2.2.1, .int .i64 t4474.2.2.2.2.1, .int .i64 t4474.2.2.2.2.2.1, .int .i64 t4474.2.2.2.2.2.2.1] rfl⟩; clear hst))
  refine start_ (n := 9) (S := (fun w' => w'.cell? ⟨g4477, 1, none⟩ = some (.int .i64 t4474.2.1))) (ds := []) #[false, false, false, false, false, false, false, false, false] (by kernel_rfl) rfl rfl (blk_cellv ((HS.out.drew).at3) 1 rfl) (fun hHeld => ?_)
  have HS_ := Aside0.mk HS.out.drew
  clear HS
  generalize World.drew _ = w4496 at HS_ hHeld ⊢
  have HS := HS_
  clear HS_
  refine pure_ (i := 0) (N := some 13) (v := ?_) (a' := ?_) #[true, false, false, false, false, false, false, false, false] rfl rfl (by kernel_rfl) (fun _ _ _ h => h) (Or.inl ⟨by rfl, ?_⟩) ?_ ?_
  rotate_left
  · intro w'
    go_simp
    with_reducible rfl
  rotate_left
  · simp only [Act.put, List.setIfInBounds_toArray, List.set_cons_zero, List.set_cons_succ, i64_w, i32_w]
    rfl
  refine pure_ (i := 1) (N := some 14) (v := ?_) (a' := ?_) #[true, true, false, false, false, false, false, false, false] rfl rfl (by kernel_rfl) (fun _ _ _ h => h) (Or.inl ⟨by rfl, ?_⟩) ?_ ?_
  rotate_left
  · intro w'
    go_simp
    with_reducible rfl
  rotate_left
  · simp only [Act.put, List.setIfInBounds_toArray, List.set_cons_zero, List.set_cons_succ, i64_w, i32_w]
    rfl
  by_cases c4497 : t4474.2.2.2.2.2.2.2.1 = true
  · replace H := if_yes c4497 H
    have c4497b0 : t4474.2.2.2.2.2.2.2.1 = true := c4497
    have c4497b1 : (!t4474.2.2.2.2.2.2.2.1) = false := by rw [c4497b0]; rfl
    clear c4497
    try simp only [c4497b0, Bool.not_true, Bool.not_false]
    refine pure_ (i := 2) (N := some 15) (v := ?_) (a' := ?_) #[true, true, true, false, false, false, false, false, false] rfl rfl (by kernel_rfl) (fun _ _ _ h => h) (Or.inl ⟨by rfl, ?_⟩) ?_ ?_
    rotate_left
    · intro w'
      go_simp
      with_reducible rfl
    rotate_left
    · simp only [Act.put, List.setIfInBounds_toArray, List.set_cons_zero, List.set_cons_succ, i64_w, i32_w]
      rfl
    try simp only [c4497b0, Bool.not_true, Bool.not_false]
    refine pure_ (i := 4) (N := some 17) (v := ?_) (a' := ?_) #[true, true, true, false, true, false, false, false, false] rfl rfl (by kernel_rfl) (fun _ _ _ h => h) (Or.inl ⟨by rfl, ?_⟩) ?_ ?_
    rotate_left
    · intro w'
      go_simp
      with_reducible rfl
    rotate_left
    · simp only [Act.put, List.setIfInBounds_toArray, List.set_cons_zero, List.set_cons_succ, i64_w, i32_w]
      rfl
    try simp only [c4497b0, Bool.not_true, Bool.not_false]
    refine take_ (i := 3) (N := some 16) (v := ?_) (a' := ?_) #[true, true, true, true, true, false, false, false, false] rfl rfl (by kernel_rfl) (fun _ _ _ h => h) (Or.inl ⟨by rfl, ?_⟩) hHeld ?_ ?_
    rotate_left
    · rintro w' hS'
      have s0 := hS'
      go_simp
      with_reducible rfl
    rotate_left
    · simp only [Act.put, List.setIfInBounds_toArray, List.set_cons_zero, List.set_cons_succ, i64_w, i32_w]
      rfl
    try simp only [c4497b0, Bool.not_true, Bool.not_false]
    refine one_ (i := 5) (N := some 18) #[true, true, true, true, true, true, false, false, false] rfl rfl (by kernel_rfl) (by decide) (fun K hK => ?_)
    obtain ⟨t4498, HA4499, H⟩ := bind_some H
    refine goes_ Tryd.func111 (by kernel_rfl) rfl #[.pointer (some ⟨g4432, 0, none⟩)] (by rfl) rfl rfl (by (try simp only [List.map_toArray, List.map_cons, List.map_nil]); first | done | rfl) ?_
    refine (tint_Parity.calls l4436 t4474.2.2.2.2.2.2.2.2 a4442 a4443 a4444 a4445 g4432 g4434 A4437 l4436.length n4439 t4498 _ ⟨HGl0.out.pass HS.out⟩ ⟨HS.out.begin⟩ HA4499).mono ?_
    rintro e_ w4500 ⟨rfl, hS⟩
    replace HS : Aside0 (Sep FF w [b7 g4432 g4434 a4442 a4443 a4444 a4445, b6 g4434 A4437 l4436.length n4439 t4498.2, r5 A4437 l4436.length n4439 l4436, b16 g4477 t4474.1 t4474.2.1 t4474.2.2.1 t4474.2.2.2.1 t4474.2.2.2.2.1 t4474.2.2.2.2.2.1 t4474.2.2.2.2.2.2.1] w4500) := ⟨HS.out.call hS⟩
    clear hS
    refine ⟨_, rfl, ?_⟩
    refine hK.out _ _ (blk_cellv (HS.out.at3) 1 rfl) (fun hHeld => ?_)
    clear hK K
    refine norm_ (a' := ?_) ?_ ?_
    rotate_left
    · show Act.put _ (some 18) _ = _
      simp only [Act.put, List.setIfInBounds_toArray, List.set_cons_zero, List.set_cons_succ, i64_w, i32_w]
      rfl
    try simp only [c4497b0, Bool.not_true, Bool.not_false]
    refine pure_ (i := 6) (N := some 19) (v := ?_) (a' := ?_) #[true, true, true, true, true, true, true, false, false] rfl rfl (by kernel_rfl) (fun _ _ _ h => h) (Or.inl ⟨by rfl, ?_⟩) ?_ ?_
    rotate_left
    · intro w'
      go_simp
      with_reducible rfl
    rotate_left
    · simp only [Act.put, List.setIfInBounds_toArray, List.set_cons_zero, List.set_cons_succ, i64_w, i32_w]
      rfl
    refine pure_ (i := 7) (N := some 20) (v := ?_) (a' := ?_) #[true, true, true, true, true, true, true, true, false] rfl rfl (by kernel_rfl) (fun _ _ _ h => h) (Or.inl ⟨by rfl, ?_⟩) ?_ ?_
    rotate_left
    · intro w'
      go_simp
      with_reducible rfl
    rotate_left
    · simp only [Act.put, List.setIfInBounds_toArray, List.set_cons_zero, List.set_cons_succ, i64_w, i32_w]
      rfl
    refine pure_ (i := 8) (N := some 4) (v := ?_) (a' := ?_) #[true, true, true, true, true, true, true, true, true] rfl rfl (by kernel_rfl) (fun _ _ _ h => h) (Or.inl ⟨by rfl, ?_⟩) ?_ ?_
    rotate_left
    · intro w'
      go_simp
      with_reducible rfl
    rotate_left
    · simp only [Act.put, List.setIfInBounds_toArray, List.set_cons_zero, List.set_cons_succ, i64_w, i32_w]
      rfl
    refine done_ (by kernel_rfl) ?_
    replace HS : Aside0 (Sep FF w [b7 g4432 g4434 a4442 a4443 a4444 a4445, b6 g4434 A4437 l4436.length n4439 t4498.2, r5 A4437 l4436.length n4439 l4436] w4500) := ⟨HS.out.sub (.cons_cons _ (.cons_cons _ (.cons_cons _ (.cons _ .slnil))))⟩
    go_wp2_with fail
    go_ret
    rw [← some_eq H]
    exact ⟨(by first | rfl | (simp [IntKind.wrap_u32]; done)), HS.out⟩
  · replace H := if_no c4497 H
    have c4497b0 : t4474.2.2.2.2.2.2.2.1 = false := by simpa using c4497
    have c4497b1 : (!t4474.2.2.2.2.2.2.2.1) = true := by rw [c4497b0]; rfl
    clear c4497
    try simp only [c4497b0, Bool.not_true, Bool.not_false]
    refine pure_ (i := 2) (N := some 15) (v := undef) (a' := ?_) #[true, true, true, false, false, false, false, false, false] rfl rfl (by kernel_rfl) (fun _ _ _ h => h) (Or.inr ⟨by rfl, rfl⟩) ?_ ?_
    rotate_left
    · simp only [Act.put, List.setIfInBounds_toArray, List.set_cons_zero, List.set_cons_succ, i64_w, i32_w]
      rfl
    try simp only [c4497b0, Bool.not_true, Bool.not_false]
    refine pure_ (i := 3) (N := some 16) (v := undef) (a' := ?_) #[true, true, true, true, false, false, false, false, false] rfl rfl (by kernel_rfl) (fun _ _ _ h => h) (Or.inr ⟨by rfl, rfl⟩) ?_ ?_
    rotate_left
    · simp only [Act.put, List.setIfInBounds_toArray, List.set_cons_zero, List.set_cons_succ, i64_w, i32_w]
      rfl
    try simp only [c4497b0, Bool.not_true, Bool.not_false]
    refine pure_ (i := 4) (N := some 17) (v := undef) (a' := ?_) #[true, true, true, true, true, false, false, false, false] rfl rfl (by kernel_rfl) (fun _ _ _ h => h) (Or.inr ⟨by rfl, rfl⟩) ?_ ?_
    rotate_left
    · simp only [Act.put, List.setIfInBounds_toArray, List.set_cons_zero, List.set_cons_succ, i64_w, i32_w]
      rfl
    try simp only [c4497b0, Bool.not_true, Bool.not_false]
    refine pure_ (i := 5) (N := some 18) (v := undef) (a' := ?_) #[true, true, true, true, true, true, false, false, false] rfl rfl (by kernel_rfl) (fun _ _ _ h => h) (Or.inr ⟨by rfl, rfl⟩) ?_ ?_
    rotate_left
    · simp only [Act.put, List.setIfInBounds_toArray, List.set_cons_zero, List.set_cons_succ, i64_w, i32_w]
      rfl
    try simp only [c4497b0, Bool.not_true, Bool.not_false]
    refine pure_ (i := 6) (N := some 19) (v := undef) (a' := ?_) #[true, true, true, true, true, true, true, false, false] rfl rfl (by kernel_rfl) (fun _ _ _ h => h) (Or.inr ⟨by rfl, rfl⟩) ?_ ?_
    rotate_left
    · simp only [Act.put, List.setIfInBounds_toArray, List.set_cons_zero, List.set_cons_succ, i64_w, i32_w]
      rfl
    refine pure_ (i := 7) (N := some 20) (v := ?_) (a' := ?_) #[true, true, true, true, true, true, true, true, false] rfl rfl (by kernel_rfl) (fun _ _ _ h => h) (Or.inl ⟨by rfl, ?_⟩) ?_ ?_
    rotate_left
    · intro w'
      go_simp
      with_reducible rfl
    rotate_left
    · simp only [Act.put, List.setIfInBounds_toArray, List.set_cons_zero, List.set_cons_succ, i64_w, i32_w]
      rfl
    refine pure_ (i := 8) (N := some 4) (v := ?_) (a' := ?_) #[true, true, true, true, true, true, true, true, true] rfl rfl (by kernel_rfl) (fun _ _ _ h => h) (Or.inl ⟨by rfl, ?_⟩) ?_ ?_
    rotate_left
    · intro w'
      go_simp
      with_reducible rfl
    rotate_left
    · simp only [Act.put, List.setIfInBounds_toArray, List.set_cons_zero, List.set_cons_succ, i64_w, i32_w]
      rfl
    refine done_ (by kernel_rfl) ?_
    replace HS : Aside0 (Sep FF w [b7 g4432 g4434 a4442 a4443 a4444 a4445, b6 g4434 A4437 l4436.length n4439 t4474.2.2.2.2.2.2.2.2, r5 A4437 l4436.length n4439 l4436] w4496) := ⟨HS.out.sub (.cons_cons _ (.cons_cons _ (.cons_cons _ (.cons _ .slnil))))⟩
    go_wp2_with fail
    go_ret
    rw [← some_eq H]
    exact ⟨(by first | rfl | (simp [IntKind.wrap_u32]; done)), HS.out⟩

set_option maxHeartbeats 30000000 in
set_option maxRecDepth 100000 in
theorem obj_in.calls (l4534 : List Int) (a4539 : Int) (a4540 : Int) (a4541 : Int) (a4542 : Int) (a4543 : Int) (a4544 : Int) (g4530 : Nat) (g4532 : Nat) (A4535 : Option Addr) (m4536 : Nat) (n4537 : Nat) (r : Bool) (w : World)  (HGl0 : Aside0 (Gl 0 #[.int .i64 0, .int .i64 0, .int .i64 0, .int .i64 0, .int .i64 0] (fps [b7 g4530 g4532 a4540 a4541 a4542 a4543, b6 g4532 A4535 m4536 n4537 a4539, r5 A4535 m4536 n4537 l4534]) w)) (HS : Aside0 (Sep (fps [b7 g4530 g4532 a4540 a4541 a4542 a4543, b6 g4532 A4535 m4536 n4537 a4539, r5 A4535 m4536 n4537 l4534]) w [b7 g4530 g4532 a4540 a4541 a4542 a4543, b6 g4532 A4535 m4536 n4537 a4539, r5 A4535 m4536 n4537 l4534] w)) (H : Aside0 (obj_in.f l4534 a4539 a4540 a4541 a4542 a4543 a4544 = some r)) :
    Calls Tryd.prog 100 #[.pointer (some ⟨g4530, 0, none⟩), .int .i64 a4544] w fun e w' => e = .returned (.bool r) ∧ Sep (fps [b7 g4530 g4532 a4540 a4541 a4542 a4543, b6 g4532 A4535 m4536 n4537 a4539, r5 A4535 m4536 n4537 l4534]) w [b7 g4530 g4532 a4540 a4541 a4542 a4543, b6 g4532 A4535 m4536 n4537 a4539, r5 A4535 m4536 n4537 l4534] w' := by
  generalize (fps [b7 g4530 g4532 a4540 a4541 a4542 a4543, b6 g4532 A4535 m4536 n4537 a4539, r5 A4535 m4536 n4537 l4534]) = FF at HS HGl0 ⊢
  obtain rfl := (row_len (HS.out.at2)).symm
  unfold obj_in.f at H
  go_enter Tryd.func100, Tryd.ntmps100
  by_cases c4545 : a4544 > 0
  · replace H := if_yes c4545 H
    have c4545b0 : decide (0 < a4544) = true := decide_eq_true c4545
    clear c4545
    go_wp2_with fail
    obtain ⟨t4546, HA4547, H⟩ := bind_some H
    refine (ground_Ground_Conf.calls l4534 a4539 a4540 a4541 a4542 a4543 g4530 g4532 A4535 l4534.length n4537 t4546 _ ⟨HGl0.out.pass HS.out⟩ ⟨HS.out.begin⟩ HA4547).mono ?_
    rintro e_ w4548 ⟨rfl, hS⟩
    replace HS : Aside0 (Sep FF w [b7 g4530 g4532 a4540 a4541 a4542 a4543, b6 g4532 A4535 l4534.length n4537 a4539, r5 A4535 l4534.length n4537 l4534] w4548) := ⟨HS.out.call hS⟩
    clear hS
    have fl4549 : ∀ w, (Instr.field 30 (.agg #[.int .i64 t4546.1, .int .i64 t4546.2.1, .int .i64 t4546.2.2.1, .int .i64 t4546.2.2.2]) 0).run Tryd.prog w = .ok (.int .i64 t4546.1) w := fun _ => by kernel_rfl
    go_wp2_with fail
    clear fl4549
    go_ret
    rw [← some_eq H]
    exact ⟨(by first | rfl | (simp [IntKind.wrap_u32]; done)), HS.out⟩
  · replace H := if_no c4545 H
    have c4545b0 : decide (0 < a4544) = false := decide_eq_false c4545
    clear c4545
    go_wp2_with fail
    go_ret
    rw [← some_eq H]
    exact ⟨(by first | rfl | (simp [IntKind.wrap_u32]; done)), HS.out⟩

set_option maxHeartbeats 30000000 in
set_option maxRecDepth 100000 in
theorem obj_isHead.calls (a4561 : Int) (r : Bool) (w : World)  (HGl0 : Aside0 (Gl 0 #[.int .i64 0, .int .i64 0, .int .i64 0, .int .i64 0, .int .i64 0] (fps []) w)) (HS : Aside0 (Sep (fps []) w [] w)) (H : Aside0 (obj_isHead.f a4561 = some r)) :
    Calls Tryd.prog 101 #[.int .i64 a4561] w fun e w' => e = .returned (.bool r) ∧ Sep (fps []) w [] w' := by
  unfold obj_isHead.f at H
  go_enter Tryd.func101, Tryd.ntmps101
  by_cases c4562 : a4561 = 1
  · replace H := if_yes c4562 H
    have c4562b0 : (a4561 == 1) = true := beq_iff_eq.mpr c4562
    have c4562b1 : (a4561 != 1) = false := bne_eq_false_iff_eq.mpr c4562
    clear c4562
    go_wp2_with fail
    go_ret
    rw [← some_eq H]
    exact ⟨(by first | rfl | (simp [IntKind.wrap_u32]; done)), HS.out⟩
  · replace H := if_no c4562 H
    have c4562b0 : (a4561 == 1) = false := beq_eq_false_iff_ne.mpr c4562
    have c4562b1 : (a4561 != 1) = true := bne_iff_ne.mpr c4562
    clear c4562
    go_wp2_with fail
    go_ret
    rw [← some_eq H]
    exact ⟨(by first | rfl | (simp [IntKind.wrap_u32]; done)), HS.out⟩

set_option maxHeartbeats 30000000 in
set_option maxRecDepth 100000 in
theorem obj_Is.calls (l4518 : List Int) (a4523 : Int) (a4524 : Int) (a4525 : Int) (a4526 : Int) (a4527 : Int) (a4528 : Int) (g4514 : Nat) (g4516 : Nat) (A4519 : Option Addr) (m4520 : Nat) (n4521 : Nat) (r : Bool × Int) (w : World)  (HGl0 : Aside0 (Gl 0 #[.int .i64 0, .int .i64 0, .int .i64 0, .int .i64 0, .int .i64 0] (fps [b7 g4514 g4516 a4524 a4525 a4526 a4527, b6 g4516 A4519 m4520 n4521 a4523, r5 A4519 m4520 n4521 l4518]) w)) (HS : Aside0 (Sep (fps [b7 g4514 g4516 a4524 a4525 a4526 a4527, b6 g4516 A4519 m4520 n4521 a4523, r5 A4519 m4520 n4521 l4518]) w [b7 g4514 g4516 a4524 a4525 a4526 a4527, b6 g4516 A4519 m4520 n4521 a4523, r5 A4519 m4520 n4521 l4518] w)) (H : Aside0 (obj_Is.f l4518 a4523 a4524 a4525 a4526 a4527 a4528 = some r)) :
    Calls Tryd.prog 48 #[.pointer (some ⟨g4514, 0, none⟩), .int .i64 a4528] w fun e w' => e = .returned (.bool r.1) ∧ Sep (fps [b7 g4514 g4516 a4524 a4525 a4526 a4527, b6 g4516 A4519 m4520 n4521 a4523, r5 A4519 m4520 n4521 l4518]) w [b7 g4514 g4516 a4524 a4525 a4526 a4527, b6 g4516 A4519 m4520 n4521 r.2, r5 A4519 m4520 n4521 l4518] w' := by
  generalize (fps [b7 g4514 g4516 a4524 a4525 a4526 a4527, b6 g4516 A4519 m4520 n4521 a4523, r5 A4519 m4520 n4521 l4518]) = FF at HS HGl0 ⊢
  obtain rfl := (row_len (HS.out.at2)).symm
  unfold obj_Is.f at H
  go_enter Tryd.func48, Tryd.ntmps48
  go_wp2_with fail
  obtain ⟨t4566, HA4567, H⟩ := bind_some H
  refine (obj_in.calls l4518 a4523 a4524 a4525 a4526 a4527 a4528 g4514 g4516 A4519 l4518.length n4521 t4566 _ ⟨HGl0.out.pass HS.out⟩ ⟨HS.out.begin⟩ HA4567).mono ?_
  rintro e_ w4568 ⟨rfl, hS⟩
  replace HS : Aside0 (Sep FF w [b7 g4514 g4516 a4524 a4525 a4526 a4527, b6 g4516 A4519 l4518.length n4521 a4523, r5 A4519 l4518.length n4521 l4518] w4568) := ⟨HS.out.call hS⟩
  clear hS
  by_cases c4569 : t4566 = true
  · replace H := if_yes c4569 H
    have c4569b0 : t4566 = true := c4569
    have c4569b1 : (!t4566) = false := by rw [c4569b0]; rfl
    clear c4569
    go_wp2_with fail
    obtain ⟨t4570, HA4571, H⟩ := bind_some H
    refine (ground_Ground_Word.calls l4518 a4523 a4524 a4525 a4526 a4527 (wrap64 (a4528 - 1)) 0 g4514 g4516 A4519 l4518.length n4521 t4570 _ ⟨HGl0.out.pass HS.out⟩ ⟨HS.out.begin⟩ HA4571).mono ?_
    rintro e_ w4572 ⟨rfl, hS⟩
    replace HS : Aside0 (Sep FF w [b7 g4514 g4516 a4524 a4525 a4526 a4527, b6 g4516 A4519 l4518.length n4521 t4570.2, r5 A4519 l4518.length n4521 l4518] w4572) := ⟨HS.out.call hS⟩
    clear hS
    go_wp2_with fail
    obtain ⟨t4573, HA4574, H⟩ := bind_some H
    refine (tag_Unpack.calls t4570.1 t4573 _ ⟨HGl0.out.pass (l := []) HS.out⟩ ⟨Sep.start _⟩ HA4574).mono ?_
    rintro e_ w4575 ⟨rfl, hS⟩
    replace HS : Aside0 (Sep FF w [b7 g4514 g4516 a4524 a4525 a4526 a4527, b6 g4516 A4519 l4518.length n4521 t4570.2, r5 A4519 l4518.length n4521 l4518] w4575) := ⟨HS.out.call hS⟩
    clear hS
    have fl4576 : ∀ w, (Instr.field 32 (.agg #[.int .i64 t4573.1, .int .i64 t4573.2.1, .int .i64 t4573.2.2.1, .int .i64 t4573.2.2.2.1, .int .i64 t4573.2.2.2.2.1, .int .i64 t4573.2.2.2.2.2.1, .int .i64 t4573.2.2.2.2.2.2]) 0).run Tryd.prog w = .ok (.int .i64 t4573.1) w := fun _ => by kernel_rfl
    go_wp2_with fail
    clear fl4576
    obtain ⟨t4577, HA4578, H⟩ := bind_some H
    refine (obj_isHead.calls t4573.1 t4577 _ ⟨HGl0.out.pass (l := []) HS.out⟩ ⟨Sep.start _⟩ HA4578).mono ?_
    rintro e_ w4579 ⟨rfl, hS⟩
    replace HS : Aside0 (Sep FF w [b7 g4514 g4516 a4524 a4525 a4526 a4527, b6 g4516 A4519 l4518.length n4521 t4570.2, r5 A4519 l4518.length n4521 l4518] w4579) := ⟨HS.out.call hS⟩
    clear hS
    go_wp2_with fail
    go_ret
    rw [← some_eq H]
    exact ⟨(by first | rfl | (simp [IntKind.wrap_u32]; done)), HS.out⟩
  · replace H := if_no c4569 H
    have c4569b0 : t4566 = false := by simpa using c4569
    have c4569b1 : (!t4566) = true := by rw [c4569b0]; rfl
    clear c4569
    go_wp2_with fail
    go_ret
    rw [← some_eq H]
    exact ⟨(by first | rfl | (simp [IntKind.wrap_u32]; done)), HS.out⟩

set_option maxHeartbeats 30000000 in
set_option maxRecDepth 100000 in
theorem tint_Lighten.calls (l4416 : List Int) (a4421 : Int) (a4422 : Int) (a4423 : Int) (a4424 : Int) (a4425 : Int) (a4426 : Int) (g4412 : Nat) (g4414 : Nat) (A4417 : Option Addr) (m4418 : Nat) (n4419 : Nat) (r : Bool × Int × List Int) (w : World)  (HGl0 : Aside0 (Gl 0 #[.int .i64 0, .int .i64 0, .int .i64 0, .int .i64 0, .int .i64 0] (fps [b7 g4412 g4414 a4422 a4423 a4424 a4425, b6 g4414 A4417 m4418 n4419 a4421, r5 A4417 m4418 n4419 l4416]) w)) (HS : Aside0 (Sep (fps [b7 g4412 g4414 a4422 a4423 a4424 a4425, b6 g4414 A4417 m4418 n4419 a4421, r5 A4417 m4418 n4419 l4416]) w [b7 g4412 g4414 a4422 a4423 a4424 a4425, b6 g4414 A4417 m4418 n4419 a4421, r5 A4417 m4418 n4419 l4416] w)) (H : Aside0 (tint_Lighten.f l4416 a4421 a4422 a4423 a4424 a4425 a4426 = some r)) :
    Calls Tryd.prog 54 #[.pointer (some ⟨g4412, 0, none⟩), .int .i64 a4426] w fun e w' => e = .returned (.bool r.1) ∧ Sep (fps [b7 g4412 g4414 a4422 a4423 a4424 a4425, b6 g4414 A4417 m4418 n4419 a4421, r5 A4417 m4418 n4419 l4416]) w [b7 g4412 g4414 a4422 a4423 a4424 a4425, b6 g4414 A4417 m4418 n4419 r.2.1, r5 A4417 m4418 n4419 r.2.2] w' := by
  generalize (fps [b7 g4412 g4414 a4422 a4423 a4424 a4425, b6 g4414 A4417 m4418 n4419 a4421, r5 A4417 m4418 n4419 l4416]) = FF at HS HGl0 ⊢
  obtain rfl := (row_len (HS.out.at2)).symm
  unfold tint_Lighten.f at H
  go_enter Tryd.func54, Tryd.ntmps54
  go_wp2_with fail
  obtain ⟨t4591, HA4592, H⟩ := bind_some H
  refine (tint_Phase.calls l4416 a4421 a4422 a4423 a4424 a4425 g4412 g4414 A4417 l4416.length n4419 t4591 _ ⟨HGl0.out.pass HS.out⟩ ⟨HS.out.begin⟩ HA4592).mono ?_
  rintro e_ w4593 ⟨rfl, hS⟩
  replace HS : Aside0 (Sep FF w [b7 g4412 g4414 a4422 a4423 a4424 a4425, b6 g4414 A4417 l4416.length n4419 t4591.2, r5 A4417 l4416.length n4419 l4416] w4593) := ⟨HS.out.call hS⟩
  clear hS
  by_cases c4594 : t4591.1 = 1
  · replace H := if_yes c4594 H
    have c4594b0 : (t4591.1 == 1) = true := beq_iff_eq.mpr c4594
    have c4594b1 : (t4591.1 != 1) = false := bne_eq_false_iff_eq.mpr c4594
    clear c4594
    go_wp2_with fail
    obtain ⟨t4595, HA4596, H⟩ := bind_some H
    refine (tint_Black.calls l4416 t4591.2 a4422 a4423 a4424 a4425 a4426 g4412 g4414 A4417 l4416.length n4419 t4595 _ ⟨HGl0.out.pass HS.out⟩ ⟨HS.out.begin⟩ HA4596).mono ?_
    rintro e_ w4597 ⟨rfl, hS⟩
    replace HS : Aside0 (Sep FF w [b7 g4412 g4414 a4422 a4423 a4424 a4425, b6 g4414 A4417 l4416.length n4419 t4595.2, r5 A4417 l4416.length n4419 l4416] w4597) := ⟨HS.out.call hS⟩
    clear hS
    by_cases c4598 : t4595.1 = true
    · replace H := if_yes c4598 H
      have c4598b0 : t4595.1 = true := c4598
      have c4598b1 : (!t4595.1) = false := by rw [c4598b0]; rfl
      clear c4598
      go_wp2_with fail
      go_ret
      rw [← some_eq H]
      exact ⟨(by first | rfl | (simp [IntKind.wrap_u32]; done)), HS.out⟩
    · replace H := if_no c4598 H
      have c4598b0 : t4595.1 = false := by simpa using c4598
      have c4598b1 : (!t4595.1) = true := by rw [c4598b0]; rfl
      clear c4598
      go_wp2_with fail
      obtain ⟨t4599, HA4600, H⟩ := bind_some H
      refine (obj_Is.calls l4416 t4595.2 a4422 a4423 a4424 a4425 a4426 g4412 g4414 A4417 l4416.length n4419 t4599 _ ⟨HGl0.out.pass HS.out⟩ ⟨HS.out.begin⟩ HA4600).mono ?_
      rintro e_ w4601 ⟨rfl, hS⟩
      replace HS : Aside0 (Sep FF w [b7 g4412 g4414 a4422 a4423 a4424 a4425, b6 g4414 A4417 l4416.length n4419 t4599.2, r5 A4417 l4416.length n4419 l4416] w4601) := ⟨HS.out.call hS⟩
      clear hS
      by_cases c4602 : t4599.1 = true
      · replace H := if_yes c4602 H
        have c4602b0 : t4599.1 = true := c4602
        have c4602b1 : (!t4599.1) = false := by rw [c4602b0]; rfl
        try rw [c4602b1]
        clear c4602
        go_wp2_with fail
        obtain ⟨t4603, HA4604, H⟩ := bind_some H
        refine (tint_Shadow.calls l4416 t4599.2 a4422 a4423 a4424 a4425 a4426 g4412 g4414 A4417 l4416.length n4419 t4603 _ ⟨HGl0.out.pass HS.out⟩ ⟨HS.out.begin⟩ HA4604).mono ?_
        rintro e_ w4605 ⟨rfl, hS⟩
        replace HS : Aside0 (Sep FF w [b7 g4412 g4414 a4422 a4423 a4424 a4425, b6 g4414 A4417 l4416.length n4419 t4603.2, r5 A4417 l4416.length n4419 l4416] w4605) := ⟨HS.out.call hS⟩
        clear hS
        by_cases c4606 : t4603.1 > 0
        · replace H := if_yes c4606 H
          have c4606b0 : decide (0 < t4603.1) = true := decide_eq_true c4606
          clear c4606
          go_wp2_with fail
          obtain ⟨t4607, HA4608, H⟩ := bind_some H
          refine (ground_Ground_SetWord.calls l4416 t4603.2 a4422 a4423 a4424 a4425 (wrap64 (a4426 - 1)) 4 ((wrap64 (t4603.1 - 1)) % 4294967296) g4412 g4414 A4417 l4416.length n4419 t4607 _ ⟨HGl0.out.pass HS.out⟩ ⟨HS.out.begin⟩ HA4608).mono ?_
          rintro e_ w4609 ⟨rfl, hS⟩
          replace HS : Aside0 (Sep FF w [b7 g4412 g4414 a4422 a4423 a4424 a4425, b6 g4414 A4417 l4416.length n4419 t4607.2.1, r5 A4417 l4416.length n4419 t4607.2.2] w4609) := ⟨HS.out.call hS⟩
          clear hS
          go_wp2_with fail
          go_ret
          rw [← some_eq H]
          exact ⟨(by first | rfl | (simp [IntKind.wrap_u32]; done)), HS.out⟩
        · replace H := if_no c4606 H
          have c4606b0 : decide (0 < t4603.1) = false := decide_eq_false c4606
          clear c4606
          go_wp2_with fail
          go_ret
          rw [← some_eq H]
          exact ⟨(by first | rfl | (simp [IntKind.wrap_u32]; done)), HS.out⟩
      · replace H := if_no c4602 H
        have c4602b0 : t4599.1 = false := by simpa using c4602
        have c4602b1 : (!t4599.1) = true := by rw [c4602b0]; rfl
        try rw [c4602b1]
        clear c4602
        go_wp2_with fail
        go_ret
        rw [← some_eq H]
        exact ⟨(by first | rfl | (simp [IntKind.wrap_u32]; done)), HS.out⟩
  · replace H := if_no c4594 H
    have c4594b0 : (t4591.1 == 1) = false := beq_eq_false_iff_ne.mpr c4594
    have c4594b1 : (t4591.1 != 1) = true := bne_iff_ne.mpr c4594
    clear c4594
    by_cases c4610 : t4591.1 = 2
    · replace H := if_yes c4610 H
      have c4610b0 : (t4591.1 == 2) = true := beq_iff_eq.mpr c4610
      have c4610b1 : (t4591.1 != 2) = false := bne_eq_false_iff_eq.mpr c4610
      clear c4610
      go_wp2_with fail
      obtain ⟨t4595, HA4611, H⟩ := bind_some H
      refine (tint_Black.calls l4416 t4591.2 a4422 a4423 a4424 a4425 a4426 g4412 g4414 A4417 l4416.length n4419 t4595 _ ⟨HGl0.out.pass HS.out⟩ ⟨HS.out.begin⟩ HA4611).mono ?_
      rintro e_ w4612 ⟨rfl, hS⟩
      replace HS : Aside0 (Sep FF w [b7 g4412 g4414 a4422 a4423 a4424 a4425, b6 g4414 A4417 l4416.length n4419 t4595.2, r5 A4417 l4416.length n4419 l4416] w4612) := ⟨HS.out.call hS⟩
      clear hS
      by_cases c4613 : t4595.1 = true
      · replace H := if_yes c4613 H
        have c4613b0 : t4595.1 = true := c4613
        have c4613b1 : (!t4595.1) = false := by rw [c4613b0]; rfl
        clear c4613
        go_wp2_with fail
        go_ret
        rw [← some_eq H]
        exact ⟨(by first | rfl | (simp [IntKind.wrap_u32]; done)), HS.out⟩
      · replace H := if_no c4613 H
        have c4613b0 : t4595.1 = false := by simpa using c4613
        have c4613b1 : (!t4595.1) = true := by rw [c4613b0]; rfl
        clear c4613
        go_wp2_with fail
        obtain ⟨t4599, HA4614, H⟩ := bind_some H
        refine (obj_Is.calls l4416 t4595.2 a4422 a4423 a4424 a4425 a4426 g4412 g4414 A4417 l4416.length n4419 t4599 _ ⟨HGl0.out.pass HS.out⟩ ⟨HS.out.begin⟩ HA4614).mono ?_
        rintro e_ w4615 ⟨rfl, hS⟩
        replace HS : Aside0 (Sep FF w [b7 g4412 g4414 a4422 a4423 a4424 a4425, b6 g4414 A4417 l4416.length n4419 t4599.2, r5 A4417 l4416.length n4419 l4416] w4615) := ⟨HS.out.call hS⟩
        clear hS
        by_cases c4616 : t4599.1 = true
        · replace H := if_yes c4616 H
          have c4616b0 : t4599.1 = true := c4616
          have c4616b1 : (!t4599.1) = false := by rw [c4616b0]; rfl
          try rw [c4616b1]
          clear c4616
          go_wp2_with fail
          obtain ⟨t4603, HA4617, H⟩ := bind_some H
          refine (tint_Shadow.calls l4416 t4599.2 a4422 a4423 a4424 a4425 a4426 g4412 g4414 A4417 l4416.length n4419 t4603 _ ⟨HGl0.out.pass HS.out⟩ ⟨HS.out.begin⟩ HA4617).mono ?_
          rintro e_ w4618 ⟨rfl, hS⟩
          replace HS : Aside0 (Sep FF w [b7 g4412 g4414 a4422 a4423 a4424 a4425, b6 g4414 A4417 l4416.length n4419 t4603.2, r5 A4417 l4416.length n4419 l4416] w4618) := ⟨HS.out.call hS⟩
          clear hS
          by_cases c4619 : t4603.1 > 0
          · replace H := if_yes c4619 H
            have c4619b0 : decide (0 < t4603.1) = true := decide_eq_true c4619
            clear c4619
            go_wp2_with fail
            obtain ⟨t4607, HA4620, H⟩ := bind_some H
            refine (ground_Ground_SetWord.calls l4416 t4603.2 a4422 a4423 a4424 a4425 (wrap64 (a4426 - 1)) 4 ((wrap64 (t4603.1 - 1)) % 4294967296) g4412 g4414 A4417 l4416.length n4419 t4607 _ ⟨HGl0.out.pass HS.out⟩ ⟨HS.out.begin⟩ HA4620).mono ?_
            rintro e_ w4621 ⟨rfl, hS⟩
            replace HS : Aside0 (Sep FF w [b7 g4412 g4414 a4422 a4423 a4424 a4425, b6 g4414 A4417 l4416.length n4419 t4607.2.1, r5 A4417 l4416.length n4419 t4607.2.2] w4621) := ⟨HS.out.call hS⟩
            clear hS
            go_wp2_with fail
            go_ret
            rw [← some_eq H]
            exact ⟨(by first | rfl | (simp [IntKind.wrap_u32]; done)), HS.out⟩
          · replace H := if_no c4619 H
            have c4619b0 : decide (0 < t4603.1) = false := decide_eq_false c4619
            clear c4619
            go_wp2_with fail
            go_ret
            rw [← some_eq H]
            exact ⟨(by first | rfl | (simp [IntKind.wrap_u32]; done)), HS.out⟩
        · replace H := if_no c4616 H
          have c4616b0 : t4599.1 = false := by simpa using c4616
          have c4616b1 : (!t4599.1) = true := by rw [c4616b0]; rfl
          try rw [c4616b1]
          clear c4616
          go_wp2_with fail
          go_ret
          rw [← some_eq H]
          exact ⟨(by first | rfl | (simp [IntKind.wrap_u32]; done)), HS.out⟩
    · replace H := if_no c4610 H
      have c4610b0 : (t4591.1 == 2) = false := beq_eq_false_iff_ne.mpr c4610
      have c4610b1 : (t4591.1 != 2) = true := bne_iff_ne.mpr c4610
      clear c4610
      go_wp2_with fail
      go_ret
      rw [← some_eq H]
      exact ⟨(by first | rfl | (simp [IntKind.wrap_u32]; done)), HS.out⟩

set_option maxHeartbeats 30000000 in
set_option maxRecDepth 100000 in
theorem ring_Len.calls (l4635 : List Int) (a4640 : Int) (a4641 : Int) (a4642 : Int) (a4643 : Int) (a4644 : Int) (g4631 : Nat) (g4633 : Nat) (A4636 : Option Addr) (m4637 : Nat) (n4638 : Nat) (r : Int × Int) (w : World)  (HGl0 : Aside0 (Gl 0 #[.int .i64 0, .int .i64 0, .int .i64 0, .int .i64 0, .int .i64 0] (fps [b7 g4631 g4633 a4641 a4642 a4643 a4644, b6 g4633 A4636 m4637 n4638 a4640, r5 A4636 m4637 n4638 l4635]) w)) (HS : Aside0 (Sep (fps [b7 g4631 g4633 a4641 a4642 a4643 a4644, b6 g4633 A4636 m4637 n4638 a4640, r5 A4636 m4637 n4638 l4635]) w [b7 g4631 g4633 a4641 a4642 a4643 a4644, b6 g4633 A4636 m4637 n4638 a4640, r5 A4636 m4637 n4638 l4635] w)) (H : Aside0 (ring_Len.f l4635 a4640 a4641 a4642 a4643 a4644 = some r)) :
    Calls Tryd.prog 26 #[.pointer (some ⟨g4631, 0, none⟩)] w fun e w' => e = .returned (.int .i64 r.1) ∧ Sep (fps [b7 g4631 g4633 a4641 a4642 a4643 a4644, b6 g4633 A4636 m4637 n4638 a4640, r5 A4636 m4637 n4638 l4635]) w [b7 g4631 g4633 a4641 a4642 a4643 a4644, b6 g4633 A4636 m4637 n4638 r.2, r5 A4636 m4637 n4638 l4635] w' := by
  generalize (fps [b7 g4631 g4633 a4641 a4642 a4643 a4644, b6 g4633 A4636 m4637 n4638 a4640, r5 A4636 m4637 n4638 l4635]) = FF at HS HGl0 ⊢
  obtain rfl := (row_len (HS.out.at2)).symm
  unfold ring_Len.f at H
  go_enter Tryd.func26, Tryd.ntmps26
  go_wp2_with fail
  obtain ⟨t4648, HA4649, H⟩ := bind_some H
  refine (ground_Ground_Reg.calls l4635 a4640 a4641 a4642 a4643 a4644 9 g4631 g4633 A4636 l4635.length n4638 t4648 _ ⟨HGl0.out.pass HS.out⟩ ⟨HS.out.begin⟩ HA4649).mono ?_
  rintro e_ w4650 ⟨rfl, hS⟩
  replace HS : Aside0 (Sep FF w [b7 g4631 g4633 a4641 a4642 a4643 a4644, b6 g4633 A4636 l4635.length n4638 t4648.2, r5 A4636 l4635.length n4638 l4635] w4650) := ⟨HS.out.call hS⟩
  clear hS
  go_wp2_with fail
  go_ret
  rw [← some_eq H]
  exact ⟨(by first | rfl | (simp [IntKind.wrap_u32]; done)), HS.out⟩

set_option maxHeartbeats 30000000 in
set_option maxRecDepth 100000 in
theorem tint_Begin.calls (k : Nat) (l4711 : List Int) (a4716 : Int) (a4717 : Int) (a4718 : Int) (a4719 : Int) (a4720 : Int) (a4721 : Int) (g4707 : Nat) (g4709 : Nat) (A4712 : Option Addr) (m4713 : Nat) (n4714 : Nat) (r : Bool × Int × List Int) (w : World)  (HGl0 : Aside0 (Gl 0 #[.int .i64 0, .int .i64 0, .int .i64 0, .int .i64 0, .int .i64 0] (fps [b7 g4707 g4709 a4717 a4718 a4719 a4720, b6 g4709 A4712 m4713 n4714 a4716, r5 A4712 m4713 n4714 l4711]) w)) (HS : Aside0 (Sep (fps [b7 g4707 g4709 a4717 a4718 a4719 a4720, b6 g4709 A4712 m4713 n4714 a4716, r5 A4712 m4713 n4714 l4711]) w [b7 g4707 g4709 a4717 a4718 a4719 a4720, b6 g4709 A4712 m4713 n4714 a4716, r5 A4712 m4713 n4714 l4711] w)) (H : Aside0 (tint_Begin.f k l4711 a4716 a4717 a4718 a4719 a4720 a4721 = some r)) :
    Calls Tryd.prog 115 #[.pointer (some ⟨g4707, 0, none⟩), .int .i64 a4721] w fun e w' => e = .returned (.bool r.1) ∧ Sep (fps [b7 g4707 g4709 a4717 a4718 a4719 a4720, b6 g4709 A4712 m4713 n4714 a4716, r5 A4712 m4713 n4714 l4711]) w [b7 g4707 g4709 a4717 a4718 a4719 a4720, b6 g4709 A4712 m4713 n4714 r.2.1, r5 A4712 m4713 n4714 r.2.2] w' := by
  generalize (fps [b7 g4707 g4709 a4717 a4718 a4719 a4720, b6 g4709 A4712 m4713 n4714 a4716, r5 A4712 m4713 n4714 l4711]) = FF at HS HGl0 ⊢
  obtain rfl := (row_len (HS.out.at2)).symm
  unfold tint_Begin.f at H
  go_enter Tryd.func115, Tryd.ntmps115
  by_cases c4756 : a4721 < 0
  · replace H := if_yes c4756 H
    have c4756b0 : decide (a4721 < 0) = true := decide_eq_true c4756
    clear c4756
    go_wp2_with fail
    go_ret
    rw [← some_eq H]
    exact ⟨(by first | rfl | (simp [IntKind.wrap_u32]; done)), HS.out⟩
  · replace H := if_no c4756 H
    have c4756b0 : decide (a4721 < 0) = false := decide_eq_false c4756
    clear c4756
    by_cases c4757 : a4721 > 3
    · replace H := if_yes c4757 H
      have c4757b0 : decide (3 < a4721) = true := decide_eq_true c4757
      clear c4757
      go_wp2_with fail
      go_ret
      rw [← some_eq H]
      exact ⟨(by first | rfl | (simp [IntKind.wrap_u32]; done)), HS.out⟩
    · replace H := if_no c4757 H
      have c4757b0 : decide (3 < a4721) = false := decide_eq_false c4757
      clear c4757
      go_wp2_with fail
      obtain ⟨t4758, HA4759, H⟩ := bind_some H
      refine (ground_Ground_SetReg.calls l4711 a4716 a4717 a4718 a4719 a4720 11 a4721 g4707 g4709 A4712 l4711.length n4714 t4758 _ ⟨HGl0.out.pass HS.out⟩ ⟨HS.out.begin⟩ HA4759).mono ?_
      rintro e_ w4760 ⟨rfl, hS⟩
      replace HS : Aside0 (Sep FF w [b7 g4707 g4709 a4717 a4718 a4719 a4720, b6 g4709 A4712 l4711.length n4714 t4758.2.1, r5 A4712 l4711.length n4714 t4758.2.2] w4760) := ⟨HS.out.call hS⟩
      clear hS
      go_wp2_with (first | ((with_reducible refine gate_dst (N := 20) rfl ?_); refine slice_on (n := 4) ?hg (N := 20) ?hd (cs := #[.int .i64 12, .int .i64 13, .int .i64 14, .int .i64 15]) (t := 3) ?hr ?_; (case hd => rfl); (case hg => rfl); (case hr => first | (go_simp; done) | (go_simp; rfl)); intro g4761 hg w4762 hbox hb; replace HS : Aside0 (Sep FF w [b7 g4707 g4709 a4717 a4718 a4719 a4720, b6 g4709 A4712 l4711.length n4714 t4758.2.1, r5 A4712 l4711.length n4714 t4758.2.2, b21 g4761 12 13 14 15] w4762) := ⟨HS.out.box hg hbox hb⟩; clear hg hbox hb))
      obtain ⟨o4777, AL4778, H⟩ := bind_some H
      go_loopg [22] k (fun kq v22 wc => ∃ (x4781 : Int) (x4782 : List Int) (x4783 : Int), v22 = .int .i64 x4781 ∧ Aside0 (tint_Begin.lo0 kq a4717 a4718 a4719 a4720 x4781 x4782 x4783 = some o4777) ∧ Aside0 (Sep FF w [b7 g4707 g4709 a4717 a4718 a4719 a4720, b6 g4709 A4712 l4711.length n4714 x4783, r5 A4712 l4711.length n4714 x4782, b21 g4761 12 13 14 15] wc))
      case atStart => exact ⟨(0), (t4758.2.2), (t4758.2.1), (by first | rfl | (simp [IntKind.wrap_u32]; done)), AL4778, ⟨HS.out⟩⟩
      case round =>
        clear AL4778 HS
        obtain ⟨x4781, x4782, x4783, rfl, AL4778, HS⟩ := hrel
        obtain ⟨w4779, rfl⟩ : ∃ x : World, x = wr := ⟨_, rfl⟩
        cases gk with
        | zero => exact absurd AL4778.out (by simp [tint_Begin.lo0])
        | succ k4780 =>
          have AL0 := AL4778.out
          rw [tint_Begin.lo0] at AL0
          clear AL4778
          have AL4778 := Aside0.mk AL0
          clear AL0
          by_cases c4784 : x4781 < 4
          · replace AL4778 := if_yes c4784 AL4778
            have c4784b0 : decide (x4781 < 4) = true := decide_eq_true c4784
            clear c4784
            by_cases c4785 : 0 ≤ x4781
            · replace AL4778 := if_yes c4785 AL4778
              have c4785b0 : decide (0 ≤ x4781) = true := decide_eq_true c4785
              have c4785p : (0 ≤ x4781) = True := eq_true c4785
              clear c4785
              have ip4786 : (x4781 < 4) = True := eq_true (of_decide_eq_true c4784b0)
              have hx4787 := C_at_int (C_of_blk (xs := [12, 13, 14, 15]) (HS.out.at3) (by simp)) x4781 (of_decide_eq_true c4785b0) (of_decide_eq_true c4784b0)
              have hx4787p : w4779.cell? ⟨g4761, (x4781).toNat, none⟩ = some (.int .i64 (rd [12, 13, 14, 15] x4781)) := by have h_ := hx4787; rwa [add_plain] at h_
              go_wp2_with fail
              clear hx4787 hx4787p
              obtain ⟨t4774, HA4788, AL4778⟩ := bind_some AL4778
              refine (ground_Ground_SetReg.calls x4782 x4783 a4717 a4718 a4719 a4720 (rd [12, 13, 14, 15] x4781) 0 g4707 g4709 A4712 l4711.length n4714 t4774 _ ⟨HGl0.out.pass HS.out⟩ ⟨HS.out.begin⟩ HA4788).mono ?_
              rintro e_ w4789 ⟨rfl, hS⟩
              replace HS : Aside0 (Sep FF w [b7 g4707 g4709 a4717 a4718 a4719 a4720, b6 g4709 A4712 l4711.length n4714 t4774.2.1, r5 A4712 l4711.length n4714 t4774.2.2, b21 g4761 12 13 14 15] w4789) := ⟨HS.out.call hS⟩
              clear hS
              go_wp2_with fail
              go_roundg k4780
              case measure => exact Nat.lt_succ_self _
              case rel => exact ⟨(wrap64 (x4781 + 1)), (t4774.2.2), (t4774.2.1), (by first | rfl | (simp [IntKind.wrap_u32]; done)), Aside0.mk AL4778.out, ⟨HS.out⟩⟩
            · replace AL4778 := if_no c4785 AL4778
              have c4785b0 : decide (0 ≤ x4781) = false := decide_eq_false c4785
              clear c4785
              exact (none_no AL4778).elim
          · replace AL4778 := if_no c4784 AL4778
            have c4784b0 : decide (x4781 < 4) = false := decide_eq_false c4784
            clear c4784
            have ho := some_eq AL4778
            subst ho
            clear AL4778
            replace HS : Aside0 (Sep FF w [b7 g4707 g4709 a4717 a4718 a4719 a4720, b6 g4709 A4712 l4711.length n4714 x4783, r5 A4712 l4711.length n4714 x4782] w4779) := ⟨HS.out.sub (.cons_cons _ (.cons_cons _ (.cons_cons _ (.cons _ .slnil))))⟩
            go_wp2_with fail
            go_ret
            rw [← some_eq H]
            exact ⟨(by first | rfl | (simp [IntKind.wrap_u32]; done)), HS.out⟩

set_option maxHeartbeats 30000000 in
set_option maxRecDepth 100000 in
theorem store_Store_Peek.calls (l4863 : List Int) (a4868 : Int) (a4869 : Int) (g4861 : Nat) (A4864 : Option Addr) (m4865 : Nat) (n4866 : Nat) (r : Int) (w : World)  (HGl0 : Aside0 (Gl 0 #[.int .i64 0, .int .i64 0, .int .i64 0, .int .i64 0, .int .i64 0] (fps [b6 g4861 A4864 m4865 n4866 a4868, r5 A4864 m4865 n4866 l4863]) w)) (HS : Aside0 (Sep (fps [b6 g4861 A4864 m4865 n4866 a4868, r5 A4864 m4865 n4866 l4863]) w [b6 g4861 A4864 m4865 n4866 a4868, r5 A4864 m4865 n4866 l4863] w)) (H : Aside0 (store_Store_Peek.f l4863 a4868 a4869 = some r)) :
    Calls Tryd.prog 73 #[.pointer (some ⟨g4861, 0, none⟩), .int .i64 a4869] w fun e w' => e = .returned (.int .u32 r) ∧ Sep (fps [b6 g4861 A4864 m4865 n4866 a4868, r5 A4864 m4865 n4866 l4863]) w [b6 g4861 A4864 m4865 n4866 a4868, r5 A4864 m4865 n4866 l4863] w' := by
  generalize (fps [b6 g4861 A4864 m4865 n4866 a4868, r5 A4864 m4865 n4866 l4863]) = FF at HS HGl0 ⊢
  obtain rfl := (row_len (HS.out.at1)).symm
  unfold store_Store_Peek.f at H
  go_enter Tryd.func73, Tryd.ntmps73
  go_wp2_with fail
  obtain ⟨t4870, HA4871, H⟩ := bind_some H
  refine (store_Store_has.calls l4863 a4868 a4869 g4861 A4864 l4863.length n4866 t4870 _ ⟨HGl0.out.pass HS.out⟩ ⟨HS.out.begin⟩ HA4871).mono ?_
  rintro e_ w4872 ⟨rfl, hS⟩
  replace HS : Aside0 (Sep FF w [b6 g4861 A4864 l4863.length n4866 a4868, r5 A4864 l4863.length n4866 l4863] w4872) := ⟨HS.out.call hS⟩
  clear hS
  by_cases c4873 : t4870 = true
  · replace H := if_yes c4873 H
    have c4873b0 : t4870 = true := c4873
    have c4873b1 : (!t4870) = false := by rw [c4873b0]; rfl
    try rw [c4873b1]
    clear c4873
    by_cases c4875 : 0 ≤ a4869
    · replace H := if_yes c4875 H
      have c4875b0 : decide (0 ≤ a4869) = true := decide_eq_true c4875
      have c4875p : (0 ≤ a4869) = True := eq_true c4875
      clear c4875
      by_cases c4876 : a4869 < (l4863.length : Int)
      · replace H := if_yes c4876 H
        have c4876b0 : decide (a4869 < (l4863.length : Int)) = true := decide_eq_true c4876
        have c4876p : (a4869 < (l4863.length : Int)) = True := eq_true c4876
        clear c4876
        have hc4874 : w4872.cell? ⟨g4861, 0, none⟩ = some (.slice A4864 l4863.length n4866) := blk_cellv (HS.out.at0) 0 rfl
        obtain ⟨g4877, ea⟩ := row_at (HS.out.at1) (by have := (of_decide_eq_true c4875b0); have := (of_decide_eq_true c4876b0); omega); cases ea
        have hx4878 := C_at_int (row_Ci (HS.out.at1)) a4869 (of_decide_eq_true c4875b0) (of_decide_eq_true c4876b0)
        have hx4879 : w4872.cell? ⟨g4877, (a4869).toNat, none⟩ = some (.int .u32 (rd l4863 a4869)) := (row_get 0 (HS.out.at1) a4869 (of_decide_eq_true c4875b0) (of_decide_eq_true c4876b0)).1
        go_wp2_with fail
        clear hc4874 hx4878 hx4879
        go_ret
        rw [← some_eq H]
        exact ⟨(by first | rfl | (simp [IntKind.wrap_u32]; done)), HS.out⟩
      · replace H := if_no c4876 H
        have c4876b0 : decide (a4869 < (l4863.length : Int)) = false := decide_eq_false c4876
        clear c4876
        exact (none_no H).elim
    · replace H := if_no c4875 H
      have c4875b0 : decide (0 ≤ a4869) = false := decide_eq_false c4875
      clear c4875
      exact (none_no H).elim
  · replace H := if_no c4873 H
    have c4873b0 : t4870 = false := by simpa using c4873
    have c4873b1 : (!t4870) = true := by rw [c4873b0]; rfl
    try rw [c4873b1]
    clear c4873
    go_wp2_with fail
    go_ret
    rw [← some_eq H]
    exact ⟨(by first | rfl | (simp [IntKind.wrap_u32]; done)), HS.out⟩

set_option maxHeartbeats 30000000 in
set_option maxRecDepth 100000 in
theorem ground_Ground_SeeReg.calls (l4843 : List Int) (a4848 : Int) (a4849 : Int) (a4850 : Int) (a4851 : Int) (a4852 : Int) (a4853 : Int) (g4839 : Nat) (g4841 : Nat) (A4844 : Option Addr) (m4845 : Nat) (n4846 : Nat) (r : Int) (w : World)  (HGl0 : Aside0 (Gl 0 #[.int .i64 0, .int .i64 0, .int .i64 0, .int .i64 0, .int .i64 0] (fps [b7 g4839 g4841 a4849 a4850 a4851 a4852, b6 g4841 A4844 m4845 n4846 a4848, r5 A4844 m4845 n4846 l4843]) w)) (HS : Aside0 (Sep (fps [b7 g4839 g4841 a4849 a4850 a4851 a4852, b6 g4841 A4844 m4845 n4846 a4848, r5 A4844 m4845 n4846 l4843]) w [b7 g4839 g4841 a4849 a4850 a4851 a4852, b6 g4841 A4844 m4845 n4846 a4848, r5 A4844 m4845 n4846 l4843] w)) (H : Aside0 (ground_Ground_SeeReg.f l4843 a4848 a4849 a4850 a4851 a4852 a4853 = some r)) :
    Calls Tryd.prog 85 #[.pointer (some ⟨g4839, 0, none⟩), .int .i64 a4853] w fun e w' => e = .returned (.int .i64 r) ∧ Sep (fps [b7 g4839 g4841 a4849 a4850 a4851 a4852, b6 g4841 A4844 m4845 n4846 a4848, r5 A4844 m4845 n4846 l4843]) w [b7 g4839 g4841 a4849 a4850 a4851 a4852, b6 g4841 A4844 m4845 n4846 a4848, r5 A4844 m4845 n4846 l4843] w' := by
  generalize (fps [b7 g4839 g4841 a4849 a4850 a4851 a4852, b6 g4841 A4844 m4845 n4846 a4848, r5 A4844 m4845 n4846 l4843]) = FF at HS HGl0 ⊢
  obtain rfl := (row_len (HS.out.at2)).symm
  unfold ground_Ground_SeeReg.f at H
  go_enter Tryd.func85, Tryd.ntmps85
  go_wp2_with fail
  obtain ⟨t4854, HA4855, H⟩ := bind_some H
  refine (ground_Ground_all.calls l4843 a4848 a4849 a4850 a4851 a4852 g4839 g4841 A4844 l4843.length n4846 t4854 _ ⟨HGl0.out.pass HS.out⟩ ⟨HS.out.begin⟩ HA4855).mono ?_
  rintro e_ w4856 ⟨rfl, hS⟩
  replace HS : Aside0 (Sep FF w [b7 g4839 g4841 a4849 a4850 a4851 a4852, b6 g4841 A4844 l4843.length n4846 a4848, r5 A4844 l4843.length n4846 l4843] w4856) := ⟨HS.out.call hS⟩
  clear hS
  go_wp2_with fail
  obtain ⟨t4857, HA4858, H⟩ := bind_some H
  refine (ground_reg.calls a4853 t4857 _ ⟨HGl0.out.pass (l := []) HS.out⟩ ⟨Sep.start _⟩ HA4858).mono ?_
  rintro e_ w4859 ⟨rfl, hS⟩
  replace HS : Aside0 (Sep FF w [b7 g4839 g4841 a4849 a4850 a4851 a4852, b6 g4841 A4844 l4843.length n4846 a4848, r5 A4844 l4843.length n4846 l4843] w4859) := ⟨HS.out.call hS⟩
  clear hS
  go_wp2_with fail
  replace HS : Aside0 (Sep FF w [r5 A4844 l4843.length n4846 l4843, b7 g4839 g4841 a4849 a4850 a4851 a4852, b6 g4841 A4844 l4843.length n4846 a4848] w4859) := ⟨HS.out.front 2 (by simp)⟩
  replace HS : Aside0 (Sep FF w [b6 g4841 A4844 l4843.length n4846 a4848, r5 A4844 l4843.length n4846 l4843, b7 g4839 g4841 a4849 a4850 a4851 a4852] w4859) := ⟨HS.out.front 2 (by simp)⟩
  obtain ⟨t4880, HA4881, H⟩ := bind_some H
  refine (store_Store_Peek.calls l4843 a4848 t4857 g4841 A4844 l4843.length n4846 t4880 _ ⟨HGl0.out.pass HS.out⟩ ⟨HS.out.begin⟩ HA4881).mono ?_
  rintro e_ w4882 ⟨rfl, hS⟩
  replace HS : Aside0 (Sep FF w [b6 g4841 A4844 l4843.length n4846 a4848, r5 A4844 l4843.length n4846 l4843, b7 g4839 g4841 a4849 a4850 a4851 a4852] w4882) := ⟨HS.out.call hS⟩
  clear hS
  go_wp2_with fail
  go_ret
  rw [← some_eq H]
  exact ⟨(by first | rfl | (simp [IntKind.wrap_u32]; done)), ((((HS.out).front 1 (by simp)).front 1 (by simp)).front 2 (by simp)).keep (l := [b7 g4839 g4841 a4849 a4850 a4851 a4852, b6 g4841 A4844 l4843.length n4846 a4848, r5 A4844 l4843.length n4846 l4843]) (rest := [])⟩

set_option maxHeartbeats 30000000 in
set_option maxRecDepth 100000 in
theorem ground_Ground_SeeWord.calls (l4920 : List Int) (a4925 : Int) (a4926 : Int) (a4927 : Int) (a4928 : Int) (a4929 : Int) (a4930 : Int) (a4931 : Int) (g4916 : Nat) (g4918 : Nat) (A4921 : Option Addr) (m4922 : Nat) (n4923 : Nat) (r : Int) (w : World)  (HGl0 : Aside0 (Gl 0 #[.int .i64 0, .int .i64 0, .int .i64 0, .int .i64 0, .int .i64 0] (fps [b7 g4916 g4918 a4926 a4927 a4928 a4929, b6 g4918 A4921 m4922 n4923 a4925, r5 A4921 m4922 n4923 l4920]) w)) (HS : Aside0 (Sep (fps [b7 g4916 g4918 a4926 a4927 a4928 a4929, b6 g4918 A4921 m4922 n4923 a4925, r5 A4921 m4922 n4923 l4920]) w [b7 g4916 g4918 a4926 a4927 a4928 a4929, b6 g4918 A4921 m4922 n4923 a4925, r5 A4921 m4922 n4923 l4920] w)) (H : Aside0 (ground_Ground_SeeWord.f l4920 a4925 a4926 a4927 a4928 a4929 a4930 a4931 = some r)) :
    Calls Tryd.prog 18 #[.pointer (some ⟨g4916, 0, none⟩), .int .i64 a4930, .int .i64 a4931] w fun e w' => e = .returned (.int .u32 r) ∧ Sep (fps [b7 g4916 g4918 a4926 a4927 a4928 a4929, b6 g4918 A4921 m4922 n4923 a4925, r5 A4921 m4922 n4923 l4920]) w [b7 g4916 g4918 a4926 a4927 a4928 a4929, b6 g4918 A4921 m4922 n4923 a4925, r5 A4921 m4922 n4923 l4920] w' := by
  generalize (fps [b7 g4916 g4918 a4926 a4927 a4928 a4929, b6 g4918 A4921 m4922 n4923 a4925, r5 A4921 m4922 n4923 l4920]) = FF at HS HGl0 ⊢
  obtain rfl := (row_len (HS.out.at2)).symm
  unfold ground_Ground_SeeWord.f at H
  go_enter Tryd.func18, Tryd.ntmps18
  go_wp2_with fail
  obtain ⟨t4932, HA4933, H⟩ := bind_some H
  refine (ground_Ground_all.calls l4920 a4925 a4926 a4927 a4928 a4929 g4916 g4918 A4921 l4920.length n4923 t4932 _ ⟨HGl0.out.pass HS.out⟩ ⟨HS.out.begin⟩ HA4933).mono ?_
  rintro e_ w4934 ⟨rfl, hS⟩
  replace HS : Aside0 (Sep FF w [b7 g4916 g4918 a4926 a4927 a4928 a4929, b6 g4918 A4921 l4920.length n4923 a4925, r5 A4921 l4920.length n4923 l4920] w4934) := ⟨HS.out.call hS⟩
  clear hS
  go_wp2_with fail
  obtain ⟨t4935, HA4936, H⟩ := bind_some H
  refine (ground_Ground_word.calls l4920 a4925 a4926 a4927 a4928 a4929 a4930 a4931 g4916 g4918 A4921 l4920.length n4923 t4935 _ ⟨HGl0.out.pass HS.out⟩ ⟨HS.out.begin⟩ HA4936).mono ?_
  rintro e_ w4937 ⟨rfl, hS⟩
  replace HS : Aside0 (Sep FF w [b7 g4916 g4918 a4926 a4927 a4928 a4929, b6 g4918 A4921 l4920.length n4923 a4925, r5 A4921 l4920.length n4923 l4920] w4937) := ⟨HS.out.call hS⟩
  clear hS
  go_wp2_with fail
  replace HS : Aside0 (Sep FF w [r5 A4921 l4920.length n4923 l4920, b7 g4916 g4918 a4926 a4927 a4928 a4929, b6 g4918 A4921 l4920.length n4923 a4925] w4937) := ⟨HS.out.front 2 (by simp)⟩
  replace HS : Aside0 (Sep FF w [b6 g4918 A4921 l4920.length n4923 a4925, r5 A4921 l4920.length n4923 l4920, b7 g4916 g4918 a4926 a4927 a4928 a4929] w4937) := ⟨HS.out.front 2 (by simp)⟩
  obtain ⟨t4938, HA4939, H⟩ := bind_some H
  refine (store_Store_Peek.calls l4920 a4925 t4935 g4918 A4921 l4920.length n4923 t4938 _ ⟨HGl0.out.pass HS.out⟩ ⟨HS.out.begin⟩ HA4939).mono ?_
  rintro e_ w4940 ⟨rfl, hS⟩
  replace HS : Aside0 (Sep FF w [b6 g4918 A4921 l4920.length n4923 a4925, r5 A4921 l4920.length n4923 l4920, b7 g4916 g4918 a4926 a4927 a4928 a4929] w4940) := ⟨HS.out.call hS⟩
  clear hS
  go_wp2_with fail
  go_ret
  rw [← some_eq H]
  exact ⟨(by first | rfl | (simp [IntKind.wrap_u32]; done)), ((((HS.out).front 1 (by simp)).front 1 (by simp)).front 2 (by simp)).keep (l := [b7 g4916 g4918 a4926 a4927 a4928 a4929, b6 g4918 A4921 l4920.length n4923 a4925, r5 A4921 l4920.length n4923 l4920]) (rest := [])⟩

set_option maxHeartbeats 30000000 in
set_option maxRecDepth 100000 in
theorem ring_List.calls (k : Nat) (l4828 : List Int) (a4833 : Int) (a4834 : Int) (a4835 : Int) (a4836 : Int) (a4837 : Int) (g4824 : Nat) (g4826 : Nat) (A4829 : Option Addr) (m4830 : Nat) (n4831 : Nat) (r : List Int) (w : World)  (HGl0 : Aside0 (Gl 0 #[.int .i64 0, .int .i64 0, .int .i64 0, .int .i64 0, .int .i64 0] (fps [b7 g4824 g4826 a4834 a4835 a4836 a4837, b6 g4826 A4829 m4830 n4831 a4833, r5 A4829 m4830 n4831 l4828]) w)) (HS : Aside0 (Sep (fps [b7 g4824 g4826 a4834 a4835 a4836 a4837, b6 g4826 A4829 m4830 n4831 a4833, r5 A4829 m4830 n4831 l4828]) w [b7 g4824 g4826 a4834 a4835 a4836 a4837, b6 g4826 A4829 m4830 n4831 a4833, r5 A4829 m4830 n4831 l4828] w)) (H : Aside0 (ring_List.f k l4828 a4833 a4834 a4835 a4836 a4837 = some r)) :
    Calls Tryd.prog 28 #[.pointer (some ⟨g4824, 0, none⟩)] w fun e w' => ∃ (A4964 : Option Addr) (m4965 : Nat) (n4966 : Nat), e = .returned (.slice A4964 m4965 n4966) ∧ Sep (fps [b7 g4824 g4826 a4834 a4835 a4836 a4837, b6 g4826 A4829 m4830 n4831 a4833, r5 A4829 m4830 n4831 l4828]) w [b7 g4824 g4826 a4834 a4835 a4836 a4837, b6 g4826 A4829 m4830 n4831 a4833, r5 A4829 m4830 n4831 l4828, r11 A4964 m4965 n4966 r] w' := by
  generalize (fps [b7 g4824 g4826 a4834 a4835 a4836 a4837, b6 g4826 A4829 m4830 n4831 a4833, r5 A4829 m4830 n4831 l4828]) = FF at HS HGl0 ⊢
  obtain rfl := (row_len (HS.out.at2)).symm
  unfold ring_List.f at H
  go_enter Tryd.func28, Tryd.ntmps28
  go_wp2_with fail
  obtain ⟨t4883, HA4884, H⟩ := bind_some H
  refine (ground_Ground_SeeReg.calls l4828 a4833 a4834 a4835 a4836 a4837 7 g4824 g4826 A4829 l4828.length n4831 t4883 _ ⟨HGl0.out.pass HS.out⟩ ⟨HS.out.begin⟩ HA4884).mono ?_
  rintro e_ w4885 ⟨rfl, hS⟩
  replace HS : Aside0 (Sep FF w [b7 g4824 g4826 a4834 a4835 a4836 a4837, b6 g4826 A4829 l4828.length n4831 a4833, r5 A4829 l4828.length n4831 l4828] w4885) := ⟨HS.out.call hS⟩
  clear hS
  go_wp2_with fail
  replace HS : Aside0 (Sep FF w [r11 none 0 0 [], b7 g4824 g4826 a4834 a4835 a4836 a4837, b6 g4826 A4829 l4828.length n4831 a4833, r5 A4829 l4828.length n4831 l4828] w4885) := ⟨HS.out.nilrow 3 (Value.int .i64)⟩
  obtain ⟨o4887, AL4888, H⟩ := bind_some H
  go_loopg [3, 4] k (fun kq v3 v4 wc => ∃ (x4893 : Int) (x4894 : List Int) (A4895 : Option Addr) (m4896 : Nat) (n4897 : Nat), v3 = .slice A4895 m4896 n4897 ∧ v4 = .int .i64 x4893 ∧ Aside0 (ring_List.lo0 kq l4828 a4833 a4834 a4835 a4836 a4837 x4893 x4894 = some o4887) ∧ Aside0 (Sep FF w [r11 A4895 m4896 n4897 x4894, b7 g4824 g4826 a4834 a4835 a4836 a4837, b6 g4826 A4829 l4828.length n4831 a4833, r5 A4829 l4828.length n4831 l4828] wc))
  case atStart => exact ⟨(t4883), (([] : List Int)), (none), (0), (0), (by first | rfl | (simp [IntKind.wrap_u32]; done)), (by first | rfl | (simp [IntKind.wrap_u32]; done)), AL4888, ⟨HS.out⟩⟩
  case round =>
    clear AL4888 HS
    obtain ⟨x4893, x4894, A4895, m4896, n4897, rfl, rfl, AL4888, HS⟩ := hrel
    obtain ⟨w4889, rfl⟩ : ∃ x : World, x = wr := ⟨_, rfl⟩
    obtain rfl := (row_len (HS.out.at0)).symm
    cases gk with
    | zero => exact absurd AL4888.out (by simp [ring_List.lo0])
    | succ k4890 =>
      have AL0 := AL4888.out
      rw [ring_List.lo0] at AL0
      clear AL4888
      have AL4888 := Aside0.mk AL0
      clear AL0
      by_cases c4899 : x4893 > 0
      · replace AL4888 := if_yes c4899 AL4888
        have c4899b0 : decide (0 < x4893) = true := decide_eq_true c4899
        clear c4899
        go_wp2_with fail
        replace HS : Aside0 (Sep FF w [r5 A4829 l4828.length n4831 l4828, r11 A4895 x4894.length n4897 x4894, b7 g4824 g4826 a4834 a4835 a4836 a4837, b6 g4826 A4829 l4828.length n4831 a4833] w4889) := ⟨HS.out.front 3 (by simp)⟩
        replace HS : Aside0 (Sep FF w [b6 g4826 A4829 l4828.length n4831 a4833, r5 A4829 l4828.length n4831 l4828, r11 A4895 x4894.length n4897 x4894, b7 g4824 g4826 a4834 a4835 a4836 a4837] w4889) := ⟨HS.out.front 3 (by simp)⟩
        replace HS : Aside0 (Sep FF w [b7 g4824 g4826 a4834 a4835 a4836 a4837, b6 g4826 A4829 l4828.length n4831 a4833, r5 A4829 l4828.length n4831 l4828, r11 A4895 x4894.length n4897 x4894] w4889) := ⟨HS.out.front 3 (by simp)⟩
        obtain ⟨t4900, HA4901, AL4888⟩ := bind_some AL4888
        refine (ground_Ground_Conf.calls l4828 a4833 a4834 a4835 a4836 a4837 g4824 g4826 A4829 l4828.length n4831 t4900 _ ⟨HGl0.out.pass HS.out⟩ ⟨HS.out.begin⟩ HA4901).mono ?_
        rintro e_ w4902 ⟨rfl, hS⟩
        replace HS : Aside0 (Sep FF w [b7 g4824 g4826 a4834 a4835 a4836 a4837, b6 g4826 A4829 l4828.length n4831 a4833, r5 A4829 l4828.length n4831 l4828, r11 A4895 x4894.length n4897 x4894] w4902) := ⟨HS.out.call hS⟩
        clear hS
        by_cases c4904 : (x4894.length : Int) < t4900.1
        · replace AL4888 := if_yes c4904 AL4888
          have c4904b0 : decide ((x4894.length : Int) < t4900.1) = true := decide_eq_true c4904
          clear c4904
          by_cases c4908 : x4894.length < 17592186044416
          · replace AL4888 := if_yes c4908 AL4888
            have c4908b0 : decide (x4894.length < 17592186044416) = true := decide_eq_true c4908
            clear c4908
            obtain ⟨y4912, HA4913, AL4888⟩ := bind_some AL4888
            have fl4903 : ∀ w, (Instr.field 30 (.agg #[.int .i64 t4900.1, .int .i64 t4900.2.1, .int .i64 t4900.2.2.1, .int .i64 t4900.2.2.2]) 0).run Tryd.prog w = .ok (.int .i64 t4900.1) w := fun _ => by kernel_rfl
            go_wp2_with (first | ((with_reducible refine gate_dst (N := 27) rfl ?_); refine slice_on (n := 1) ?hg (N := 27) ?hd (cs := #[.int .i64 (wrap64 (x4893 - 1))]) (t := 3) ?hr ?_; (case hd => rfl); (case hg => rfl); (case hr => first | (go_simp; done) | (go_simp; rfl)); intro g4905 hg w4906 hbox hb; clear fl4903; replace HS : Aside0 (Sep FF w [b7 g4824 g4826 a4834 a4835 a4836 a4837, b6 g4826 A4829 l4828.length n4831 a4833, r5 A4829 l4828.length n4831 l4828, r11 A4895 x4894.length n4897 x4894, b10 g4905 (wrap64 (x4893 - 1))] w4906) := ⟨HS.out.box hg hbox hb⟩; clear hg hbox hb) | ((with_reducible refine gate_dst (N := 28) rfl ?_); refine append_event (l1 := [b7 g4824 g4826 a4834 a4835 a4836 a4837, b6 g4826 A4829 l4828.length n4831 a4833, r5 A4829 l4828.length n4831 l4828]) (l2 := [b10 g4905 (wrap64 (x4893 - 1))]) rfl (.tmp 24) (.tmp 27) 49 3 (.int .i64 0) 8 rfl Tryd.underlying49 (by kernel_rfl) rfl (by decide) (Value.int .i64) (fun _ => rfl) (.slice A4895 x4894.length n4897) (x4894 : List Int) [wrap64 (x4893 - 1)] ⟨g4905, 0, none⟩ 1 rfl rfl (blk_news (xs := [wrap64 (x4893 - 1)]) (HS.out.at4)) HS.out (by have := of_decide_eq_true c4908b0; simp only [List.length_cons, List.length_nil]; omega) HA4913 ?_; intro A4909 n4910 w4911 HS1; replace HS : Aside0 (Sep FF w [b7 g4824 g4826 a4834 a4835 a4836 a4837, b6 g4826 A4829 l4828.length n4831 a4833, r5 A4829 l4828.length n4831 l4828, r11 A4909 y4912.length n4910 y4912, b10 g4905 (wrap64 (x4893 - 1))] w4911) := ⟨HS1⟩; clear HS1; replace HS : Aside0 (Sep FF w [b7 g4824 g4826 a4834 a4835 a4836 a4837, b6 g4826 A4829 l4828.length n4831 a4833, r5 A4829 l4828.length n4831 l4828, r11 A4909 y4912.length n4910 y4912] w4911) := ⟨HS.out.sub (.cons_cons _ (.cons_cons _ (.cons_cons _ (.cons_cons _ (.cons _ .slnil)))))⟩))
            obtain ⟨t4941, HA4942, AL4888⟩ := bind_some AL4888
            refine (ground_Ground_SeeWord.calls l4828 a4833 a4834 a4835 a4836 a4837 (wrap64 (x4893 - 1)) 7 g4824 g4826 A4829 l4828.length n4831 t4941 _ ⟨HGl0.out.pass HS.out⟩ ⟨HS.out.begin⟩ HA4942).mono ?_
            rintro e_ w4943 ⟨rfl, hS⟩
            replace HS : Aside0 (Sep FF w [b7 g4824 g4826 a4834 a4835 a4836 a4837, b6 g4826 A4829 l4828.length n4831 a4833, r5 A4829 l4828.length n4831 l4828, r11 A4909 y4912.length n4910 y4912] w4943) := ⟨HS.out.call hS⟩
            clear hS
            go_wp2_with fail
            go_roundg k4890
            case measure => exact Nat.lt_succ_self _
            case rel => exact ⟨(wrap64 (t4941)), (y4912), (A4909), (y4912.length), (n4910), (by first | rfl | (simp [IntKind.wrap_u32]; done)), (by first | rfl | (simp [IntKind.wrap_u32]; done)), Aside0.mk AL4888.out, ⟨(((((HS.out).front 2 (by simp)).front 2 (by simp)).front 2 (by simp)).front 3 (by simp)).keep (l := [r11 A4909 y4912.length n4910 y4912, b7 g4824 g4826 a4834 a4835 a4836 a4837, b6 g4826 A4829 l4828.length n4831 a4833, r5 A4829 l4828.length n4831 l4828]) (rest := [])⟩⟩
          · replace AL4888 := if_no c4908 AL4888
            have c4908b0 : decide (x4894.length < 17592186044416) = false := decide_eq_false c4908
            clear c4908
            exact (none_no AL4888).elim
        · replace AL4888 := if_no c4904 AL4888
          have c4904b0 : decide ((x4894.length : Int) < t4900.1) = false := decide_eq_false c4904
          clear c4904
          have ho := some_eq AL4888
          subst ho
          clear AL4888
          have fl4903 : ∀ w, (Instr.field 30 (.agg #[.int .i64 t4900.1, .int .i64 t4900.2.1, .int .i64 t4900.2.2.1, .int .i64 t4900.2.2.2]) 0).run Tryd.prog w = .ok (.int .i64 t4900.1) w := fun _ => by kernel_rfl
          go_wp2_with fail
          clear fl4903
          go_ret
          rw [← some_eq H]
          exact ⟨A4895, x4894.length, n4897, (by first | rfl | (simp [IntKind.wrap_u32]; done)), HS.out⟩
      · replace AL4888 := if_no c4899 AL4888
        have c4899b0 : decide (0 < x4893) = false := decide_eq_false c4899
        clear c4899
        have ho := some_eq AL4888
        subst ho
        clear AL4888
        go_wp2_with fail
        go_ret
        rw [← some_eq H]
        exact ⟨A4895, x4894.length, n4897, (by first | rfl | (simp [IntKind.wrap_u32]; done)), ((((HS.out).front 3 (by simp)).front 3 (by simp)).front 3 (by simp)).keep (l := [b7 g4824 g4826 a4834 a4835 a4836 a4837, b6 g4826 A4829 l4828.length n4831 a4833, r5 A4829 l4828.length n4831 l4828, r11 A4895 x4894.length n4897 x4894]) (rest := [])⟩

set_option maxHeartbeats 30000000 in
set_option maxRecDepth 100000 in
theorem quitrentref01_Ints.calls (k : Nat) (l4979 : List Int) (l4983 : List Int) (A4980 : Option Addr) (n4981 : Nat) (A4984 : Option Addr) (n4985 : Nat) (r : Bool) (w : World) (HR4982 : Aside0 (Rd (Kd.int .i64) (fps []) w A4980 l4979.length l4979)) (HR4986 : Aside0 (Rd (Kd.int .i64) (fps []) w A4984 l4983.length l4983)) (HGl0 : Aside0 (Gl 0 #[.int .i64 0, .int .i64 0, .int .i64 0, .int .i64 0, .int .i64 0] (fps []) w)) (HS : Aside0 (Sep (fps []) w [] w)) (H : Aside0 (quitrentref01_Ints.f k l4979 l4983 = some r)) :
    Calls Tryd.prog 32 #[.slice A4980 l4979.length n4981, .slice A4984 l4983.length n4985] w fun e w' => e = .returned (.bool r) ∧ Sep (fps []) w [] w' := by
  unfold quitrentref01_Ints.f at H
  go_enter Tryd.func32, Tryd.ntmps32
  by_cases c4987 : (l4979.length : Int) = (l4983.length : Int)
  · replace H := if_yes c4987 H
    have c4987b0 : ((l4979.length : Int) == (l4983.length : Int)) = true := beq_iff_eq.mpr c4987
    have c4987b1 : ((l4979.length : Int) != (l4983.length : Int)) = false := bne_eq_false_iff_eq.mpr c4987
    clear c4987
    go_wp2_with fail
    obtain ⟨o5003, AL5004, H⟩ := bind_some H
    go_loopg [5] k (fun kq v5 wc => ∃ (x5007 : Int), v5 = .int .i64 x5007 ∧ Aside0 (quitrentref01_Ints.lo0 kq l4979 l4983 x5007 = some o5003) ∧ Aside0 (Sep (fps []) w [] wc))
    case atStart => exact ⟨(0), (by first | rfl | (simp [IntKind.wrap_u32]; done)), AL5004, ⟨HS.out⟩⟩
    case round =>
      clear AL5004 HS
      obtain ⟨x5007, rfl, AL5004, HS⟩ := hrel
      obtain ⟨w5005, rfl⟩ : ∃ x : World, x = wr := ⟨_, rfl⟩
      cases gk with
      | zero => exact absurd AL5004.out (by simp [quitrentref01_Ints.lo0])
      | succ k5006 =>
        have AL0 := AL5004.out
        rw [quitrentref01_Ints.lo0] at AL0
        clear AL5004
        have AL5004 := Aside0.mk AL0
        clear AL0
        by_cases c5008 : x5007 < (l4979.length : Int)
        · replace AL5004 := if_yes c5008 AL5004
          have c5008b0 : decide (x5007 < (l4979.length : Int)) = true := decide_eq_true c5008
          clear c5008
          go_wp2_with fail
          refine start_ (n := 9) (S := (fun w' => Kd.C (Kd.int .i64) w' A4980 l4979.length l4979 ∧ Kd.C (Kd.int .i64) w' A4984 l4983.length l4983)) (ds := []) #[false, false, false, false, false, false, false, false, false] (by kernel_rfl) rfl rfl (⟨Rd.read (fun _ _ _ _ h => h) HR4982.out (HS.out.drew).fr, Rd.read (fun _ _ _ _ h => h) HR4986.out (HS.out.drew).fr⟩) (fun hHeld => ?_)
          have HS_ := Aside0.mk HS.out.drew
          clear HS
          generalize World.drew _ = w5010 at HS_ hHeld ⊢
          have HS := HS_
          clear HS_
          refine pure_ (i := 0) (N := some 17) (v := ?_) (a' := ?_) #[true, false, false, false, false, false, false, false, false] rfl rfl (by kernel_rfl) (fun _ _ _ h => h) (Or.inl ⟨by rfl, ?_⟩) ?_ ?_
          rotate_left
          · intro w'
            go_simp
            with_reducible rfl
          rotate_left
          · simp only [Act.put, List.setIfInBounds_toArray, List.set_cons_zero, List.set_cons_succ, i64_w, i32_w]
            rfl
          refine pure_ (i := 1) (N := some 18) (v := ?_) (a' := ?_) #[true, true, false, false, false, false, false, false, false] rfl rfl (by kernel_rfl) (fun _ _ _ h => h) (Or.inl ⟨by rfl, ?_⟩) ?_ ?_
          rotate_left
          · intro w'
            go_simp
            with_reducible rfl
          rotate_left
          · simp only [Act.put, List.setIfInBounds_toArray, List.set_cons_zero, List.set_cons_succ, i64_w, i32_w]
            rfl
          by_cases c5011 : 0 ≤ x5007
          · replace AL5004 := if_yes c5011 AL5004
            have c5011b0 : decide (0 ≤ x5007) = true := decide_eq_true c5011
            have c5011p : (0 ≤ x5007) = True := eq_true c5011
            clear c5011
            have ip5012 : (x5007 < (l4979.length : Int)) = True := eq_true (of_decide_eq_true c5008b0)
            obtain ⟨ad5013, ea, _⟩ := Kd.at_int (Rd.read (fun _ _ _ _ h => h) HR4982.out HS.out.fr) x5007 (of_decide_eq_true c5011b0) (of_decide_eq_true c5008b0)
            cases ea
            refine pure_ (i := 2) (N := some 19) (v := ?_) (a' := ?_) #[true, true, true, false, false, false, false, false, false] rfl rfl (by kernel_rfl) (fun _ _ _ h => h) (Or.inl ⟨by rfl, ?_⟩) ?_ ?_
            rotate_left
            · intro w'
              go_simp
              with_reducible rfl
            rotate_left
            · simp only [Act.put, List.setIfInBounds_toArray, List.set_cons_zero, List.set_cons_succ, i64_w, i32_w]
              rfl
            refine pure_ (i := 4) (N := some 21) (v := ?_) (a' := ?_) #[true, true, true, false, true, false, false, false, false] rfl rfl (by kernel_rfl) (fun _ _ _ h => h) (Or.inl ⟨by rfl, ?_⟩) ?_ ?_
            rotate_left
            · intro w'
              go_simp
              with_reducible rfl
            rotate_left
            · simp only [Act.put, List.setIfInBounds_toArray, List.set_cons_zero, List.set_cons_succ, i64_w, i32_w]
              rfl
            refine pure_ (i := 5) (N := some 22) (v := ?_) (a' := ?_) #[true, true, true, false, true, true, false, false, false] rfl rfl (by kernel_rfl) (fun _ _ _ h => h) (Or.inl ⟨by rfl, ?_⟩) ?_ ?_
            rotate_left
            · intro w'
              go_simp
              with_reducible rfl
            rotate_left
            · simp only [Act.put, List.setIfInBounds_toArray, List.set_cons_zero, List.set_cons_succ, i64_w, i32_w]
              rfl
            by_cases c5014 : x5007 < (l4983.length : Int)
            · replace AL5004 := if_yes c5014 AL5004
              have c5014b0 : decide (x5007 < (l4983.length : Int)) = true := decide_eq_true c5014
              have c5014p : (x5007 < (l4983.length : Int)) = True := eq_true c5014
              clear c5014
              obtain ⟨ad5015, ea, _⟩ := Kd.at_int (Rd.read (fun _ _ _ _ h => h) HR4986.out HS.out.fr) x5007 (of_decide_eq_true c5011b0) (of_decide_eq_true c5014b0)
              cases ea
              refine pure_ (i := 6) (N := some 23) (v := ?_) (a' := ?_) #[true, true, true, false, true, true, true, false, false] rfl rfl (by kernel_rfl) (fun _ _ _ h => h) (Or.inl ⟨by rfl, ?_⟩) ?_ ?_
              rotate_left
              · intro w'
                go_simp
                with_reducible rfl
              rotate_left
              · simp only [Act.put, List.setIfInBounds_toArray, List.set_cons_zero, List.set_cons_succ, i64_w, i32_w]
                rfl
              refine take_ (i := 3) (N := some 20) (v := ?_) (a' := ?_) #[true, true, true, true, true, true, true, false, false] rfl rfl (by kernel_rfl) (fun _ _ _ h => h) (Or.inl ⟨by rfl, ?_⟩) hHeld ?_ ?_
              rotate_left
              · rintro w' hS'
                obtain ⟨s0, s1⟩ := hS'
                have hx := C_at_int s0 x5007 (of_decide_eq_true c5011b0) (of_decide_eq_true c5008b0)
                go_simp
                with_reducible rfl
              rotate_left
              · simp only [Act.put, List.setIfInBounds_toArray, List.set_cons_zero, List.set_cons_succ, i64_w, i32_w]
                rfl
              refine take_ (i := 7) (N := some 24) (v := ?_) (a' := ?_) #[true, true, true, true, true, true, true, true, false] rfl rfl (by kernel_rfl) (fun _ _ _ h => h) (Or.inl ⟨by rfl, ?_⟩) hHeld ?_ ?_
              rotate_left
              · rintro w' hS'
                obtain ⟨s0, s1⟩ := hS'
                have hx := C_at_int s1 x5007 (of_decide_eq_true c5011b0) (of_decide_eq_true c5014b0)
                go_simp
                with_reducible rfl
              rotate_left
              · simp only [Act.put, List.setIfInBounds_toArray, List.set_cons_zero, List.set_cons_succ, i64_w, i32_w]
                rfl
              refine pure_ (i := 8) (N := some 25) (v := ?_) (a' := ?_) #[true, true, true, true, true, true, true, true, true] rfl rfl (by kernel_rfl) (fun _ _ _ h => h) (Or.inl ⟨by rfl, ?_⟩) ?_ ?_
              rotate_left
              · intro w'
                go_simp
                with_reducible rfl
              rotate_left
              · simp only [Act.put, List.setIfInBounds_toArray, List.set_cons_zero, List.set_cons_succ, i64_w, i32_w]
                rfl
              refine done_ (by kernel_rfl) ?_
              by_cases c5016 : (rd l4979 x5007) = (rd l4983 x5007)
              · replace AL5004 := if_yes c5016 AL5004
                have c5016b0 : ((rd l4979 x5007) == (rd l4983 x5007)) = true := beq_iff_eq.mpr c5016
                have c5016b1 : ((rd l4979 x5007) != (rd l4983 x5007)) = false := bne_eq_false_iff_eq.mpr c5016
                clear c5016
                go_wp2_with fail
                go_roundg k5006
                case measure => exact Nat.lt_succ_self _
                case rel => exact ⟨(wrap64 (x5007 + 1)), (by first | rfl | (simp [IntKind.wrap_u32]; done)), Aside0.mk AL5004.out, ⟨HS.out⟩⟩
              · replace AL5004 := if_no c5016 AL5004
                have c5016b0 : ((rd l4979 x5007) == (rd l4983 x5007)) = false := beq_eq_false_iff_ne.mpr c5016
                have c5016b1 : ((rd l4979 x5007) != (rd l4983 x5007)) = true := bne_iff_ne.mpr c5016
                clear c5016
                go_wp2_with fail
                have ho := some_eq AL5004
                subst ho
                have H := lp_ret H
                go_ret
                rw [← some_eq H]
                exact ⟨(by first | rfl | (simp [IntKind.wrap_u32]; done)), HS.out⟩
            · replace AL5004 := if_no c5014 AL5004
              have c5014b0 : decide (x5007 < (l4983.length : Int)) = false := decide_eq_false c5014
              clear c5014
              exact (none_no AL5004).elim
          · replace AL5004 := if_no c5011 AL5004
            have c5011b0 : decide (0 ≤ x5007) = false := decide_eq_false c5011
            clear c5011
            exact (none_no AL5004).elim
        · replace AL5004 := if_no c5008 AL5004
          have c5008b0 : decide (x5007 < (l4979.length : Int)) = false := decide_eq_false c5008
          clear c5008
          have ho := some_eq AL5004
          subst ho
          clear AL5004
          have H := lp_out H
          go_wp2_with fail
          go_ret
          rw [← some_eq H]
          exact ⟨(by first | rfl | (simp [IntKind.wrap_u32]; done)), HS.out⟩
  · replace H := if_no c4987 H
    have c4987b0 : ((l4979.length : Int) == (l4983.length : Int)) = false := beq_eq_false_iff_ne.mpr c4987
    have c4987b1 : ((l4979.length : Int) != (l4983.length : Int)) = true := bne_iff_ne.mpr c4987
    clear c4987
    go_wp2_with fail
    go_ret
    rw [← some_eq H]
    exact ⟨(by first | rfl | (simp [IntKind.wrap_u32]; done)), HS.out⟩

set_option maxHeartbeats 30000000 in
set_option maxRecDepth 100000 in
theorem quitrentlaw13_begun.calls (k : Nat)  (r : Bool) (w : World)  (HGl0 : Aside0 (Gl 0 #[.int .i64 0, .int .i64 0, .int .i64 0, .int .i64 0, .int .i64 0] (fps []) w)) (HS : Aside0 (Sep (fps []) w [] w)) (H : Aside0 (quitrentlaw13_begun.f k = some r)) :
    Calls Tryd.prog 55 #[] w fun e w' => e = .returned (.bool r) ∧ Sep (fps []) w [] w' := by
  unfold quitrentlaw13_begun.f at H
  go_enter Tryd.func55, Tryd.ntmps55
  go_wp2_with fail
  obtain ⟨t4655, HA4656, H⟩ := bind_some H
  rcases t4655 with t4657 | t4658
  · have H := sum_l H
    refine (quitrentlaw12_Opened.calls _ 2 16 1 1 (.inl t4657) _ ⟨HGl0.out.pass (l := []) HS.out⟩ ⟨Sep.start _⟩ HA4656).mono ?_
    rintro e_ w4659 ⟨rfl, hS⟩
    replace HS : Aside0 (Sep (fps []) w [] w4659) := ⟨HS.out.call hS⟩
    clear hS
    by_cases c4660 : t4657 = true
    · replace H := if_yes c4660 H
      have c4660b0 : t4657 = true := c4660
      have c4660b1 : (!t4657) = false := by rw [c4660b0]; rfl
      try rw [c4660b1]
      clear c4660
      exact (none_no H).elim
    · replace H := if_no c4660 H
      have c4660b0 : t4657 = false := by simpa using c4660
      have c4660b1 : (!t4657) = true := by rw [c4660b0]; rfl
      try rw [c4660b1]
      clear c4660
      go_wp2_with fail
      go_ret
      rw [← some_eq H]
      exact ⟨(by first | rfl | (simp [IntKind.wrap_u32]; done)), HS.out⟩
  · have H := sum_r H
    refine (quitrentlaw12_Opened.calls _ 2 16 1 1 (.inr t4658) _ ⟨HGl0.out.pass (l := []) HS.out⟩ ⟨Sep.start _⟩ HA4656).mono ?_
    rintro e_ w4661 ⟨g4670, g4671, rfl, g4672, g4673, A4674, m4675, n4676, A4678, m4679, n4680, A4682, m4683, n4684, A4686, m4687, n4688, hS⟩
    replace HS : Aside0 (Sep (fps []) w [b7 g4670 g4672 t4658.2.1 t4658.2.2.1 t4658.2.2.2.1 t4658.2.2.2.2.1, b15 g4671 g4673 0 0 0 0 0 0 0 0 0 A4674 m4675 n4676 A4678 m4679 n4680 0, b6 g4672 A4682 m4683 n4684 t4658.2.2.2.2.2.1, b12 g4673 t4658.2.2.2.2.2.2.1 t4658.2.2.2.2.2.2.2.1 A4686 m4687 n4688, r11 A4674 m4675 n4676 t4658.2.2.2.2.2.2.2.2.1, r11 A4678 m4679 n4680 t4658.2.2.2.2.2.2.2.2.2.1, r5 A4682 m4683 n4684 t4658.2.2.2.2.2.2.2.2.2.2.1, r11 A4686 m4687 n4688 t4658.2.2.2.2.2.2.2.2.2.2.2] w4661) := ⟨HS.out.call hS⟩
    clear hS
    obtain rfl := (row_len (HS.out.at4)).symm
    obtain rfl := (row_len (HS.out.at5)).symm
    obtain rfl := (row_len (HS.out.at6)).symm
    obtain rfl := (row_len (HS.out.at7)).symm
    by_cases c4690 : t4658.1 = true
    · replace H := if_yes c4690 H
      have c4690b0 : t4658.1 = true := c4690
      have c4690b1 : (!t4658.1) = false := by rw [c4690b0]; rfl
      try rw [c4690b1]
      clear c4690
      replace HS : Aside0 (Sep (fps []) w [b7 g4670 g4672 t4658.2.1 t4658.2.2.1 t4658.2.2.2.1 t4658.2.2.2.2.1, b6 g4672 A4682 ((t4658.2.2.2.2.2.2.2.2.2.2.1).length) n4684 t4658.2.2.2.2.2.1, r5 A4682 ((t4658.2.2.2.2.2.2.2.2.2.2.1).length) n4684 t4658.2.2.2.2.2.2.2.2.2.2.1] w4661) := ⟨HS.out.sub (.cons_cons _ (.cons _ (.cons_cons _ (.cons _ (.cons _ (.cons _ (.cons_cons _ (.cons _ .slnil))))))))⟩
      go_wp2_with fail
      obtain ⟨t4691, HA4692, H⟩ := bind_some H
      refine (obj_Make.calls _ t4658.2.2.2.2.2.2.2.2.2.2.1 t4658.2.2.2.2.2.1 t4658.2.1 t4658.2.2.1 t4658.2.2.2.1 t4658.2.2.2.2.1 1 1 g4670 g4672 A4682 ((t4658.2.2.2.2.2.2.2.2.2.2.1).length) n4684 t4691 _ ⟨HGl0.out.pass HS.out⟩ ⟨HS.out.begin⟩ HA4692).mono ?_
      rintro e_ w4693 ⟨rfl, hS⟩
      replace HS : Aside0 (Sep (fps []) w [b7 g4670 g4672 t4658.2.1 t4658.2.2.1 t4658.2.2.2.1 t4658.2.2.2.2.1, b6 g4672 A4682 ((t4658.2.2.2.2.2.2.2.2.2.2.1).length) n4684 t4691.2.2.1, r5 A4682 ((t4658.2.2.2.2.2.2.2.2.2.2.1).length) n4684 t4691.2.2.2] w4693) := ⟨HS.out.call hS⟩
      clear hS
      by_cases c4694 : t4691.2.1 = 0
      · replace H := if_yes c4694 H
        have c4694b0 : (t4691.2.1 == 0) = true := beq_iff_eq.mpr c4694
        have c4694b1 : (t4691.2.1 != 0) = false := bne_eq_false_iff_eq.mpr c4694
        clear c4694
        go_wp2_with fail
        obtain ⟨t4695, HA4696, H⟩ := bind_some H
        refine (tint_Dye.calls _ t4691.2.2.2 t4691.2.2.1 t4658.2.1 t4658.2.2.1 t4658.2.2.2.1 t4658.2.2.2.2.1 t4691.1 g4670 g4672 A4682 ((t4658.2.2.2.2.2.2.2.2.2.2.1).length) n4684 t4695 _ ⟨HGl0.out.pass HS.out⟩ ⟨HS.out.begin⟩ HA4696).mono ?_
        rintro e_ w4697 ⟨rfl, hS⟩
        replace HS : Aside0 (Sep (fps []) w [b7 g4670 g4672 t4658.2.1 t4658.2.2.1 t4658.2.2.2.1 t4658.2.2.2.2.1, b6 g4672 A4682 ((t4658.2.2.2.2.2.2.2.2.2.2.1).length) n4684 t4695.2.1, r5 A4682 ((t4658.2.2.2.2.2.2.2.2.2.2.1).length) n4684 t4695.2.2] w4697) := ⟨HS.out.call hS⟩
        clear hS
        by_cases c4698 : t4695.1 = true
        · replace H := if_yes c4698 H
          have c4698b0 : t4695.1 = true := c4698
          have c4698b1 : (!t4695.1) = false := by rw [c4698b0]; rfl
          try rw [c4698b1]
          clear c4698
          go_wp2_with fail
          obtain ⟨t4699, HA4700, H⟩ := bind_some H
          refine (tint_Black.calls t4695.2.2 t4695.2.1 t4658.2.1 t4658.2.2.1 t4658.2.2.2.1 t4658.2.2.2.2.1 t4691.1 g4670 g4672 A4682 ((t4658.2.2.2.2.2.2.2.2.2.2.1).length) n4684 t4699 _ ⟨HGl0.out.pass HS.out⟩ ⟨HS.out.begin⟩ HA4700).mono ?_
          rintro e_ w4701 ⟨rfl, hS⟩
          replace HS : Aside0 (Sep (fps []) w [b7 g4670 g4672 t4658.2.1 t4658.2.2.1 t4658.2.2.2.1 t4658.2.2.2.2.1, b6 g4672 A4682 ((t4658.2.2.2.2.2.2.2.2.2.2.1).length) n4684 t4699.2, r5 A4682 ((t4658.2.2.2.2.2.2.2.2.2.2.1).length) n4684 t4695.2.2] w4701) := ⟨HS.out.call hS⟩
          clear hS
          by_cases c4702 : t4699.1 = true
          · replace H := if_yes c4702 H
            have c4702b0 : t4699.1 = true := c4702
            have c4702b1 : (!t4699.1) = false := by rw [c4702b0]; rfl
            try rw [c4702b1]
            clear c4702
            go_wp2_with fail
            obtain ⟨t4703, HA4704, H⟩ := bind_some H
            refine (tint_Turn.calls t4695.2.2 t4699.2 t4658.2.1 t4658.2.2.1 t4658.2.2.2.1 t4658.2.2.2.2.1 g4670 g4672 A4682 ((t4658.2.2.2.2.2.2.2.2.2.2.1).length) n4684 t4703 _ ⟨HGl0.out.pass HS.out⟩ ⟨HS.out.begin⟩ HA4704).mono ?_
            rintro e_ w4705 ⟨rfl, hS⟩
            replace HS : Aside0 (Sep (fps []) w [b7 g4670 g4672 t4658.2.1 t4658.2.2.1 t4658.2.2.2.1 t4658.2.2.2.2.1, b6 g4672 A4682 ((t4658.2.2.2.2.2.2.2.2.2.2.1).length) n4684 t4703.1, r5 A4682 ((t4658.2.2.2.2.2.2.2.2.2.2.1).length) n4684 t4703.2] w4705) := ⟨HS.out.call hS⟩
            clear hS
            go_wp2_with fail
            obtain ⟨t4791, HA4792, H⟩ := bind_some H
            refine (tint_Begin.calls _ t4703.2 t4703.1 t4658.2.1 t4658.2.2.1 t4658.2.2.2.1 t4658.2.2.2.2.1 1 g4670 g4672 A4682 ((t4658.2.2.2.2.2.2.2.2.2.2.1).length) n4684 t4791 _ ⟨HGl0.out.pass HS.out⟩ ⟨HS.out.begin⟩ HA4792).mono ?_
            rintro e_ w4793 ⟨rfl, hS⟩
            replace HS : Aside0 (Sep (fps []) w [b7 g4670 g4672 t4658.2.1 t4658.2.2.1 t4658.2.2.2.1 t4658.2.2.2.2.1, b6 g4672 A4682 ((t4658.2.2.2.2.2.2.2.2.2.2.1).length) n4684 t4791.2.1, r5 A4682 ((t4658.2.2.2.2.2.2.2.2.2.2.1).length) n4684 t4791.2.2] w4793) := ⟨HS.out.call hS⟩
            clear hS
            by_cases c4794 : t4791.1 = true
            · replace H := if_yes c4794 H
              have c4794b0 : t4791.1 = true := c4794
              have c4794b1 : (!t4791.1) = false := by rw [c4794b0]; rfl
              try rw [c4794b1]
              clear c4794
              go_wp2_with fail
              obtain ⟨t4795, HA4796, H⟩ := bind_some H
              refine (tint_Black.calls t4791.2.2 t4791.2.1 t4658.2.1 t4658.2.2.1 t4658.2.2.2.1 t4658.2.2.2.2.1 t4691.1 g4670 g4672 A4682 ((t4658.2.2.2.2.2.2.2.2.2.2.1).length) n4684 t4795 _ ⟨HGl0.out.pass HS.out⟩ ⟨HS.out.begin⟩ HA4796).mono ?_
              rintro e_ w4797 ⟨rfl, hS⟩
              replace HS : Aside0 (Sep (fps []) w [b7 g4670 g4672 t4658.2.1 t4658.2.2.1 t4658.2.2.2.1 t4658.2.2.2.2.1, b6 g4672 A4682 ((t4658.2.2.2.2.2.2.2.2.2.2.1).length) n4684 t4795.2, r5 A4682 ((t4658.2.2.2.2.2.2.2.2.2.2.1).length) n4684 t4791.2.2] w4797) := ⟨HS.out.call hS⟩
              clear hS
              by_cases c4798 : t4795.1 = true
              · replace H := if_yes c4798 H
                have c4798b0 : t4795.1 = true := c4798
                have c4798b1 : (!t4795.1) = false := by rw [c4798b0]; rfl
                clear c4798
                replace HS : Aside0 (Sep (fps []) w [] w4797) := ⟨HS.out.sub (.cons _ (.cons _ (.cons _ .slnil)))⟩
                go_wp2_with fail
                go_ret
                rw [← some_eq H]
                exact ⟨(by first | rfl | (simp [IntKind.wrap_u32]; done)), HS.out⟩
              · replace H := if_no c4798 H
                have c4798b0 : t4795.1 = false := by simpa using c4798
                have c4798b1 : (!t4795.1) = true := by rw [c4798b0]; rfl
                clear c4798
                go_wp2_with fail
                obtain ⟨t4799, HA4800, H⟩ := bind_some H
                refine (tint_Deepen.calls _ t4791.2.2 t4795.2 t4658.2.1 t4658.2.2.1 t4658.2.2.2.1 t4658.2.2.2.2.1 t4691.1 g4670 g4672 A4682 ((t4658.2.2.2.2.2.2.2.2.2.2.1).length) n4684 t4799 _ ⟨HGl0.out.pass HS.out⟩ ⟨HS.out.begin⟩ HA4800).mono ?_
                rintro e_ w4801 ⟨rfl, hS⟩
                replace HS : Aside0 (Sep (fps []) w [b7 g4670 g4672 t4658.2.1 t4658.2.2.1 t4658.2.2.2.1 t4658.2.2.2.2.1, b6 g4672 A4682 ((t4658.2.2.2.2.2.2.2.2.2.2.1).length) n4684 t4799.2.1, r5 A4682 ((t4658.2.2.2.2.2.2.2.2.2.2.1).length) n4684 t4799.2.2] w4801) := ⟨HS.out.call hS⟩
                clear hS
                by_cases c4802 : t4799.1 = true
                · replace H := if_yes c4802 H
                  have c4802b0 : t4799.1 = true := c4802
                  have c4802b1 : (!t4799.1) = false := by rw [c4802b0]; rfl
                  try rw [c4802b1]
                  clear c4802
                  go_wp2_with fail
                  obtain ⟨t4803, HA4804, H⟩ := bind_some H
                  refine (tint_Deepen.calls _ t4799.2.2 t4799.2.1 t4658.2.1 t4658.2.2.1 t4658.2.2.2.1 t4658.2.2.2.2.1 t4691.1 g4670 g4672 A4682 ((t4658.2.2.2.2.2.2.2.2.2.2.1).length) n4684 t4803 _ ⟨HGl0.out.pass HS.out⟩ ⟨HS.out.begin⟩ HA4804).mono ?_
                  rintro e_ w4805 ⟨rfl, hS⟩
                  replace HS : Aside0 (Sep (fps []) w [b7 g4670 g4672 t4658.2.1 t4658.2.2.1 t4658.2.2.2.1 t4658.2.2.2.2.1, b6 g4672 A4682 ((t4658.2.2.2.2.2.2.2.2.2.2.1).length) n4684 t4803.2.1, r5 A4682 ((t4658.2.2.2.2.2.2.2.2.2.2.1).length) n4684 t4803.2.2] w4805) := ⟨HS.out.call hS⟩
                  clear hS
                  by_cases c4806 : t4803.1 = true
                  · replace H := if_yes c4806 H
                    have c4806b0 : t4803.1 = true := c4806
                    have c4806b1 : (!t4803.1) = false := by rw [c4806b0]; rfl
                    try rw [c4806b1]
                    clear c4806
                    go_wp2_with fail
                    obtain ⟨t4807, HA4808, H⟩ := bind_some H
                    refine (tint_Lighten.calls t4803.2.2 t4803.2.1 t4658.2.1 t4658.2.2.1 t4658.2.2.2.1 t4658.2.2.2.2.1 t4691.1 g4670 g4672 A4682 ((t4658.2.2.2.2.2.2.2.2.2.2.1).length) n4684 t4807 _ ⟨HGl0.out.pass HS.out⟩ ⟨HS.out.begin⟩ HA4808).mono ?_
                    rintro e_ w4809 ⟨rfl, hS⟩
                    replace HS : Aside0 (Sep (fps []) w [b7 g4670 g4672 t4658.2.1 t4658.2.2.1 t4658.2.2.2.1 t4658.2.2.2.2.1, b6 g4672 A4682 ((t4658.2.2.2.2.2.2.2.2.2.2.1).length) n4684 t4807.2.1, r5 A4682 ((t4658.2.2.2.2.2.2.2.2.2.2.1).length) n4684 t4807.2.2] w4809) := ⟨HS.out.call hS⟩
                    clear hS
                    by_cases c4810 : t4807.1 = true
                    · replace H := if_yes c4810 H
                      have c4810b0 : t4807.1 = true := c4810
                      have c4810b1 : (!t4807.1) = false := by rw [c4810b0]; rfl
                      try rw [c4810b1]
                      clear c4810
                      go_wp2_with fail
                      obtain ⟨t4811, HA4812, H⟩ := bind_some H
                      refine (tint_Shadow.calls t4807.2.2 t4807.2.1 t4658.2.1 t4658.2.2.1 t4658.2.2.2.1 t4658.2.2.2.2.1 t4691.1 g4670 g4672 A4682 ((t4658.2.2.2.2.2.2.2.2.2.2.1).length) n4684 t4811 _ ⟨HGl0.out.pass HS.out⟩ ⟨HS.out.begin⟩ HA4812).mono ?_
                      rintro e_ w4813 ⟨rfl, hS⟩
                      replace HS : Aside0 (Sep (fps []) w [b7 g4670 g4672 t4658.2.1 t4658.2.2.1 t4658.2.2.2.1 t4658.2.2.2.2.1, b6 g4672 A4682 ((t4658.2.2.2.2.2.2.2.2.2.2.1).length) n4684 t4811.2, r5 A4682 ((t4658.2.2.2.2.2.2.2.2.2.2.1).length) n4684 t4807.2.2] w4813) := ⟨HS.out.call hS⟩
                      clear hS
                      by_cases c4814 : t4811.1 = 1
                      · replace H := if_yes c4814 H
                        have c4814b0 : (t4811.1 == 1) = true := beq_iff_eq.mpr c4814
                        have c4814b1 : (t4811.1 != 1) = false := bne_eq_false_iff_eq.mpr c4814
                        clear c4814
                        go_wp2_with fail
                        obtain ⟨t4815, HA4816, H⟩ := bind_some H
                        refine (tint_Touch.calls _ t4807.2.2 t4811.2 t4658.2.1 t4658.2.2.1 t4658.2.2.2.1 t4658.2.2.2.2.1 t4691.1 g4670 g4672 A4682 ((t4658.2.2.2.2.2.2.2.2.2.2.1).length) n4684 t4815 _ ⟨HGl0.out.pass HS.out⟩ ⟨HS.out.begin⟩ HA4816).mono ?_
                        rintro e_ w4817 ⟨rfl, hS⟩
                        replace HS : Aside0 (Sep (fps []) w [b7 g4670 g4672 t4658.2.1 t4658.2.2.1 t4658.2.2.2.1 t4658.2.2.2.2.1, b6 g4672 A4682 ((t4658.2.2.2.2.2.2.2.2.2.2.1).length) n4684 t4815.2.1, r5 A4682 ((t4658.2.2.2.2.2.2.2.2.2.2.1).length) n4684 t4815.2.2] w4817) := ⟨HS.out.call hS⟩
                        clear hS
                        by_cases c4818 : t4815.1 = true
                        · replace H := if_yes c4818 H
                          have c4818b0 : t4815.1 = true := c4818
                          have c4818b1 : (!t4815.1) = false := by rw [c4818b0]; rfl
                          clear c4818
                          go_wp2_with fail
                          obtain ⟨t4819, HA4820, H⟩ := bind_some H
                          refine (tint_Touch.calls _ t4815.2.2 t4815.2.1 t4658.2.1 t4658.2.2.1 t4658.2.2.2.1 t4658.2.2.2.2.1 t4691.1 g4670 g4672 A4682 ((t4658.2.2.2.2.2.2.2.2.2.2.1).length) n4684 t4819 _ ⟨HGl0.out.pass HS.out⟩ ⟨HS.out.begin⟩ HA4820).mono ?_
                          rintro e_ w4821 ⟨rfl, hS⟩
                          replace HS : Aside0 (Sep (fps []) w [b7 g4670 g4672 t4658.2.1 t4658.2.2.1 t4658.2.2.2.1 t4658.2.2.2.2.1, b6 g4672 A4682 ((t4658.2.2.2.2.2.2.2.2.2.2.1).length) n4684 t4819.2.1, r5 A4682 ((t4658.2.2.2.2.2.2.2.2.2.2.1).length) n4684 t4819.2.2] w4821) := ⟨HS.out.call hS⟩
                          clear hS
                          by_cases c4822 : t4819.1 = true
                          · replace H := if_yes c4822 H
                            have c4822b0 : t4819.1 = true := c4822
                            have c4822b1 : (!t4819.1) = false := by rw [c4822b0]; rfl
                            try rw [c4822b1]
                            clear c4822
                            replace HS : Aside0 (Sep (fps []) w [] w4821) := ⟨HS.out.sub (.cons _ (.cons _ (.cons _ .slnil)))⟩
                            go_wp2_with fail
                            go_ret
                            rw [← some_eq H]
                            exact ⟨(by first | rfl | (simp [IntKind.wrap_u32]; done)), HS.out⟩
                          · replace H := if_no c4822 H
                            have c4822b0 : t4819.1 = false := by simpa using c4822
                            have c4822b1 : (!t4819.1) = true := by rw [c4822b0]; rfl
                            try rw [c4822b1]
                            clear c4822
                            go_wp2_with fail
                            obtain ⟨t4968, HA4969, H⟩ := bind_some H
                            refine (ring_List.calls _ t4819.2.2 t4819.2.1 t4658.2.1 t4658.2.2.1 t4658.2.2.2.1 t4658.2.2.2.2.1 g4670 g4672 A4682 ((t4658.2.2.2.2.2.2.2.2.2.2.1).length) n4684 t4968 _ ⟨HGl0.out.pass HS.out⟩ ⟨HS.out.begin⟩ HA4969).mono ?_
                            rintro e_ w4970 ⟨A4972, m4973, n4974, rfl, hS⟩
                            replace HS : Aside0 (Sep (fps []) w [b7 g4670 g4672 t4658.2.1 t4658.2.2.1 t4658.2.2.2.1 t4658.2.2.2.2.1, b6 g4672 A4682 ((t4658.2.2.2.2.2.2.2.2.2.2.1).length) n4684 t4819.2.1, r5 A4682 ((t4658.2.2.2.2.2.2.2.2.2.2.1).length) n4684 t4819.2.2, r11 A4972 m4973 n4974 t4968] w4970) := ⟨HS.out.call hS⟩
                            clear hS
                            obtain rfl := (row_len (HS.out.at3)).symm
                            go_wp2_with (first | ((with_reducible refine gate_dst (N := 81) rfl ?_); refine slice_on (n := 1) ?hg (N := 81) ?hd (cs := #[.int .i64 (wrap64 (t4691.1 - 1))]) (t := 3) ?hr ?_; (case hd => rfl); (case hg => rfl); (case hr => first | (go_simp; done) | (go_simp; rfl)); intro g4976 hg w4977 hbox hb; replace HS : Aside0 (Sep (fps []) w [b7 g4670 g4672 t4658.2.1 t4658.2.2.1 t4658.2.2.2.1 t4658.2.2.2.2.1, b6 g4672 A4682 ((t4658.2.2.2.2.2.2.2.2.2.2.1).length) n4684 t4819.2.1, r5 A4682 ((t4658.2.2.2.2.2.2.2.2.2.2.1).length) n4684 t4819.2.2, r11 A4972 t4968.length n4974 t4968, b10 g4976 (wrap64 (t4691.1 - 1))] w4977) := ⟨HS.out.box hg hbox hb⟩; clear hg hbox hb))
                            obtain ⟨t5018, HA5019, H⟩ := bind_some H
                            refine (quitrentref01_Ints.calls _ t4968 [wrap64 (t4691.1 - 1)] A4972 n4974 (some ⟨g4976, 0, none⟩) 1 t5018 _ ⟨Rd.ownI (l := []) HS.out 3 rfl⟩ ⟨Rd.lit (l := []) (xs := [wrap64 (t4691.1 - 1)]) HS.out 4 rfl (by simp)⟩ ⟨HGl0.out.pass (l := []) HS.out⟩ ⟨Sep.start _⟩ HA5019).mono ?_
                            rintro e_ w5020 ⟨rfl, hS⟩
                            replace HS : Aside0 (Sep (fps []) w [b7 g4670 g4672 t4658.2.1 t4658.2.2.1 t4658.2.2.2.1 t4658.2.2.2.2.1, b6 g4672 A4682 ((t4658.2.2.2.2.2.2.2.2.2.2.1).length) n4684 t4819.2.1, r5 A4682 ((t4658.2.2.2.2.2.2.2.2.2.2.1).length) n4684 t4819.2.2, r11 A4972 t4968.length n4974 t4968, b10 g4976 (wrap64 (t4691.1 - 1))] w5020) := ⟨HS.out.call hS⟩
                            clear hS
                            replace HS : Aside0 (Sep (fps []) w [] w5020) := ⟨HS.out.sub (.cons _ (.cons _ (.cons _ (.cons _ (.cons _ .slnil)))))⟩
                            go_wp2_with fail
                            go_ret
                            rw [← some_eq H]
                            exact ⟨(by first | rfl | (simp [IntKind.wrap_u32]; done)), HS.out⟩
                        · replace H := if_no c4818 H
                          have c4818b0 : t4815.1 = false := by simpa using c4818
                          have c4818b1 : (!t4815.1) = true := by rw [c4818b0]; rfl
                          clear c4818
                          replace HS : Aside0 (Sep (fps []) w [] w4817) := ⟨HS.out.sub (.cons _ (.cons _ (.cons _ .slnil)))⟩
                          go_wp2_with fail
                          go_ret
                          rw [← some_eq H]
                          exact ⟨(by first | rfl | (simp [IntKind.wrap_u32]; done)), HS.out⟩
                      · replace H := if_no c4814 H
                        have c4814b0 : (t4811.1 == 1) = false := beq_eq_false_iff_ne.mpr c4814
                        have c4814b1 : (t4811.1 != 1) = true := bne_iff_ne.mpr c4814
                        clear c4814
                        replace HS : Aside0 (Sep (fps []) w [] w4813) := ⟨HS.out.sub (.cons _ (.cons _ (.cons _ .slnil)))⟩
                        go_wp2_with fail
                        go_ret
                        rw [← some_eq H]
                        exact ⟨(by first | rfl | (simp [IntKind.wrap_u32]; done)), HS.out⟩
                    · replace H := if_no c4810 H
                      have c4810b0 : t4807.1 = false := by simpa using c4810
                      have c4810b1 : (!t4807.1) = true := by rw [c4810b0]; rfl
                      try rw [c4810b1]
                      clear c4810
                      replace HS : Aside0 (Sep (fps []) w [] w4809) := ⟨HS.out.sub (.cons _ (.cons _ (.cons _ .slnil)))⟩
                      go_wp2_with fail
                      go_ret
                      rw [← some_eq H]
                      exact ⟨(by first | rfl | (simp [IntKind.wrap_u32]; done)), HS.out⟩
                  · replace H := if_no c4806 H
                    have c4806b0 : t4803.1 = false := by simpa using c4806
                    have c4806b1 : (!t4803.1) = true := by rw [c4806b0]; rfl
                    try rw [c4806b1]
                    clear c4806
                    replace HS : Aside0 (Sep (fps []) w [] w4805) := ⟨HS.out.sub (.cons _ (.cons _ (.cons _ .slnil)))⟩
                    go_wp2_with fail
                    go_ret
                    rw [← some_eq H]
                    exact ⟨(by first | rfl | (simp [IntKind.wrap_u32]; done)), HS.out⟩
                · replace H := if_no c4802 H
                  have c4802b0 : t4799.1 = false := by simpa using c4802
                  have c4802b1 : (!t4799.1) = true := by rw [c4802b0]; rfl
                  try rw [c4802b1]
                  clear c4802
                  replace HS : Aside0 (Sep (fps []) w [] w4801) := ⟨HS.out.sub (.cons _ (.cons _ (.cons _ .slnil)))⟩
                  go_wp2_with fail
                  go_ret
                  rw [← some_eq H]
                  exact ⟨(by first | rfl | (simp [IntKind.wrap_u32]; done)), HS.out⟩
            · replace H := if_no c4794 H
              have c4794b0 : t4791.1 = false := by simpa using c4794
              have c4794b1 : (!t4791.1) = true := by rw [c4794b0]; rfl
              try rw [c4794b1]
              clear c4794
              replace HS : Aside0 (Sep (fps []) w [] w4793) := ⟨HS.out.sub (.cons _ (.cons _ (.cons _ .slnil)))⟩
              go_wp2_with fail
              go_ret
              rw [← some_eq H]
              exact ⟨(by first | rfl | (simp [IntKind.wrap_u32]; done)), HS.out⟩
          · replace H := if_no c4702 H
            have c4702b0 : t4699.1 = false := by simpa using c4702
            have c4702b1 : (!t4699.1) = true := by rw [c4702b0]; rfl
            try rw [c4702b1]
            clear c4702
            replace HS : Aside0 (Sep (fps []) w [] w4701) := ⟨HS.out.sub (.cons _ (.cons _ (.cons _ .slnil)))⟩
            go_wp2_with fail
            go_ret
            rw [← some_eq H]
            exact ⟨(by first | rfl | (simp [IntKind.wrap_u32]; done)), HS.out⟩
        · replace H := if_no c4698 H
          have c4698b0 : t4695.1 = false := by simpa using c4698
          have c4698b1 : (!t4695.1) = true := by rw [c4698b0]; rfl
          try rw [c4698b1]
          clear c4698
          replace HS : Aside0 (Sep (fps []) w [] w4697) := ⟨HS.out.sub (.cons _ (.cons _ (.cons _ .slnil)))⟩
          go_wp2_with fail
          go_ret
          rw [← some_eq H]
          exact ⟨(by first | rfl | (simp [IntKind.wrap_u32]; done)), HS.out⟩
      · replace H := if_no c4694 H
        have c4694b0 : (t4691.2.1 == 0) = false := beq_eq_false_iff_ne.mpr c4694
        have c4694b1 : (t4691.2.1 != 0) = true := bne_iff_ne.mpr c4694
        clear c4694
        replace HS : Aside0 (Sep (fps []) w [] w4693) := ⟨HS.out.sub (.cons _ (.cons _ (.cons _ .slnil)))⟩
        go_wp2_with fail
        go_ret
        rw [← some_eq H]
        exact ⟨(by first | rfl | (simp [IntKind.wrap_u32]; done)), HS.out⟩
    · replace H := if_no c4690 H
      have c4690b0 : t4658.1 = false := by simpa using c4690
      have c4690b1 : (!t4658.1) = true := by rw [c4690b0]; rfl
      try rw [c4690b1]
      clear c4690
      replace HS : Aside0 (Sep (fps []) w [b7 g4670 g4672 t4658.2.1 t4658.2.2.1 t4658.2.2.2.1 t4658.2.2.2.2.1, b6 g4672 A4682 ((t4658.2.2.2.2.2.2.2.2.2.2.1).length) n4684 t4658.2.2.2.2.2.1, r5 A4682 ((t4658.2.2.2.2.2.2.2.2.2.2.1).length) n4684 t4658.2.2.2.2.2.2.2.2.2.2.1] w4661) := ⟨HS.out.sub (.cons_cons _ (.cons _ (.cons_cons _ (.cons _ (.cons _ (.cons _ (.cons_cons _ (.cons _ .slnil))))))))⟩
      replace HS : Aside0 (Sep (fps []) w [] w4661) := ⟨HS.out.sub (.cons _ (.cons _ (.cons _ .slnil)))⟩
      go_wp2_with fail
      go_ret
      rw [← some_eq H]
      exact ⟨(by first | rfl | (simp [IntKind.wrap_u32]; done)), HS.out⟩

set_option maxHeartbeats 30000000 in
set_option maxRecDepth 100000 in
theorem quitrentlaw13_TintIdle.calls (k : Nat) (a1 : Int) (a2 : Int) (r : Bool) (w : World)  (HGl0 : Aside0 (Gl 0 #[.int .i64 0, .int .i64 0, .int .i64 0, .int .i64 0, .int .i64 0] (fps []) w)) (HS : Aside0 (Sep (fps []) w [] w)) (H : Aside0 (quitrentlaw13_TintIdle.f k a1 a2 = some r)) :
    Calls Tryd.prog 10 #[.int .u8 a1, .int .i64 a2] w fun e w' => e = .returned (.bool r) ∧ Sep (fps []) w [] w' := by
  unfold quitrentlaw13_TintIdle.f at H
  go_enter Tryd.func10, Tryd.ntmps10
  go_wp2_with fail
  obtain ⟨t1813, HA1814, H⟩ := bind_some H
  rcases t1813 with t1815 | t1816
  · have H := sum_l H
    refine (quitrentlaw12_Opened.calls _ (wrap64 ((wrap64 (a1)) + 1)) 16 1 1 (.inl t1815) _ ⟨HGl0.out.pass (l := []) HS.out⟩ ⟨Sep.start _⟩ HA1814).mono ?_
    rintro e_ w1817 ⟨rfl, hS⟩
    replace HS : Aside0 (Sep (fps []) w [] w1817) := ⟨HS.out.call hS⟩
    clear hS
    by_cases c1818 : t1815 = true
    · replace H := if_yes c1818 H
      have c1818b0 : t1815 = true := c1818
      have c1818b1 : (!t1815) = false := by rw [c1818b0]; rfl
      try rw [c1818b1]
      clear c1818
      exact (none_no H).elim
    · replace H := if_no c1818 H
      have c1818b0 : t1815 = false := by simpa using c1818
      have c1818b1 : (!t1815) = true := by rw [c1818b0]; rfl
      try rw [c1818b1]
      clear c1818
      go_wp2_with fail
      go_ret
      rw [← some_eq H]
      exact ⟨(by first | rfl | (simp [IntKind.wrap_u32]; done)), HS.out⟩
  · have H := sum_r H
    refine (quitrentlaw12_Opened.calls _ (wrap64 ((wrap64 (a1)) + 1)) 16 1 1 (.inr t1816) _ ⟨HGl0.out.pass (l := []) HS.out⟩ ⟨Sep.start _⟩ HA1814).mono ?_
    rintro e_ w1819 ⟨g1828, g1829, rfl, g1830, g1831, A1832, m1833, n1834, A1836, m1837, n1838, A1840, m1841, n1842, A1844, m1845, n1846, hS⟩
    replace HS : Aside0 (Sep (fps []) w [b7 g1828 g1830 t1816.2.1 t1816.2.2.1 t1816.2.2.2.1 t1816.2.2.2.2.1, b15 g1829 g1831 0 0 0 0 0 0 0 0 0 A1832 m1833 n1834 A1836 m1837 n1838 0, b6 g1830 A1840 m1841 n1842 t1816.2.2.2.2.2.1, b12 g1831 t1816.2.2.2.2.2.2.1 t1816.2.2.2.2.2.2.2.1 A1844 m1845 n1846, r11 A1832 m1833 n1834 t1816.2.2.2.2.2.2.2.2.1, r11 A1836 m1837 n1838 t1816.2.2.2.2.2.2.2.2.2.1, r5 A1840 m1841 n1842 t1816.2.2.2.2.2.2.2.2.2.2.1, r11 A1844 m1845 n1846 t1816.2.2.2.2.2.2.2.2.2.2.2] w1819) := ⟨HS.out.call hS⟩
    clear hS
    obtain rfl := (row_len (HS.out.at4)).symm
    obtain rfl := (row_len (HS.out.at5)).symm
    obtain rfl := (row_len (HS.out.at6)).symm
    obtain rfl := (row_len (HS.out.at7)).symm
    by_cases c1848 : t1816.1 = true
    · replace H := if_yes c1848 H
      have c1848b0 : t1816.1 = true := c1848
      have c1848b1 : (!t1816.1) = false := by rw [c1848b0]; rfl
      try rw [c1848b1]
      clear c1848
      replace HS : Aside0 (Sep (fps []) w [b7 g1828 g1830 t1816.2.1 t1816.2.2.1 t1816.2.2.2.1 t1816.2.2.2.2.1, b6 g1830 A1840 ((t1816.2.2.2.2.2.2.2.2.2.2.1).length) n1842 t1816.2.2.2.2.2.1, r5 A1840 ((t1816.2.2.2.2.2.2.2.2.2.2.1).length) n1842 t1816.2.2.2.2.2.2.2.2.2.2.1] w1819) := ⟨HS.out.sub (.cons_cons _ (.cons _ (.cons_cons _ (.cons _ (.cons _ (.cons _ (.cons_cons _ (.cons _ .slnil))))))))⟩
      go_wp2_with fail
      obtain ⟨t2772, HA2773, H⟩ := bind_some H
      refine (obj_Make.calls _ t1816.2.2.2.2.2.2.2.2.2.2.1 t1816.2.2.2.2.2.1 t1816.2.1 t1816.2.2.1 t1816.2.2.2.1 t1816.2.2.2.2.1 1 0 g1828 g1830 A1840 ((t1816.2.2.2.2.2.2.2.2.2.2.1).length) n1842 t2772 _ ⟨HGl0.out.pass HS.out⟩ ⟨HS.out.begin⟩ HA2773).mono ?_
      rintro e_ w2774 ⟨rfl, hS⟩
      replace HS : Aside0 (Sep (fps []) w [b7 g1828 g1830 t1816.2.1 t1816.2.2.1 t1816.2.2.2.1 t1816.2.2.2.2.1, b6 g1830 A1840 ((t1816.2.2.2.2.2.2.2.2.2.2.1).length) n1842 t2772.2.2.1, r5 A1840 ((t1816.2.2.2.2.2.2.2.2.2.2.1).length) n1842 t2772.2.2.2] w2774) := ⟨HS.out.call hS⟩
      clear hS
      by_cases c2775 : t2772.2.1 = 0
      · replace H := if_yes c2775 H
        have c2775b0 : (t2772.2.1 == 0) = true := beq_iff_eq.mpr c2775
        have c2775b1 : (t2772.2.1 != 0) = false := bne_eq_false_iff_eq.mpr c2775
        clear c2775
        go_wp2_with fail
        obtain ⟨t3310, HA3311, H⟩ := bind_some H
        refine (tint_Dye.calls _ t2772.2.2.2 t2772.2.2.1 t1816.2.1 t1816.2.2.1 t1816.2.2.2.1 t1816.2.2.2.2.1 t2772.1 g1828 g1830 A1840 ((t1816.2.2.2.2.2.2.2.2.2.2.1).length) n1842 t3310 _ ⟨HGl0.out.pass HS.out⟩ ⟨HS.out.begin⟩ HA3311).mono ?_
        rintro e_ w3312 ⟨rfl, hS⟩
        replace HS : Aside0 (Sep (fps []) w [b7 g1828 g1830 t1816.2.1 t1816.2.2.1 t1816.2.2.2.1 t1816.2.2.2.2.1, b6 g1830 A1840 ((t1816.2.2.2.2.2.2.2.2.2.2.1).length) n1842 t3310.2.1, r5 A1840 ((t1816.2.2.2.2.2.2.2.2.2.2.1).length) n1842 t3310.2.2] w3312) := ⟨HS.out.call hS⟩
        clear hS
        by_cases c3313 : t3310.1 = true
        · replace H := if_yes c3313 H
          have c3313b0 : t3310.1 = true := c3313
          have c3313b1 : (!t3310.1) = false := by rw [c3313b0]; rfl
          try rw [c3313b1]
          clear c3313
          go_wp2_with fail
          obtain ⟨t3523, HA3524, H⟩ := bind_some H
          refine (tint_Deepen.calls _ t3310.2.2 t3310.2.1 t1816.2.1 t1816.2.2.1 t1816.2.2.2.1 t1816.2.2.2.2.1 t2772.1 g1828 g1830 A1840 ((t1816.2.2.2.2.2.2.2.2.2.2.1).length) n1842 t3523 _ ⟨HGl0.out.pass HS.out⟩ ⟨HS.out.begin⟩ HA3524).mono ?_
          rintro e_ w3525 ⟨rfl, hS⟩
          replace HS : Aside0 (Sep (fps []) w [b7 g1828 g1830 t1816.2.1 t1816.2.2.1 t1816.2.2.2.1 t1816.2.2.2.2.1, b6 g1830 A1840 ((t1816.2.2.2.2.2.2.2.2.2.2.1).length) n1842 t3523.2.1, r5 A1840 ((t1816.2.2.2.2.2.2.2.2.2.2.1).length) n1842 t3523.2.2] w3525) := ⟨HS.out.call hS⟩
          clear hS
          by_cases c3526 : t3523.1 = true
          · replace H := if_yes c3526 H
            have c3526b0 : t3523.1 = true := c3526
            have c3526b1 : (!t3523.1) = false := by rw [c3526b0]; rfl
            try rw [c3526b1]
            clear c3526
            go_wp2_with fail
            obtain ⟨t3554, HA3555, H⟩ := bind_some H
            refine (tint_Turn.calls t3523.2.2 t3523.2.1 t1816.2.1 t1816.2.2.1 t1816.2.2.2.1 t1816.2.2.2.2.1 g1828 g1830 A1840 ((t1816.2.2.2.2.2.2.2.2.2.2.1).length) n1842 t3554 _ ⟨HGl0.out.pass HS.out⟩ ⟨HS.out.begin⟩ HA3555).mono ?_
            rintro e_ w3556 ⟨rfl, hS⟩
            replace HS : Aside0 (Sep (fps []) w [b7 g1828 g1830 t1816.2.1 t1816.2.2.1 t1816.2.2.2.1 t1816.2.2.2.2.1, b6 g1830 A1840 ((t1816.2.2.2.2.2.2.2.2.2.2.1).length) n1842 t3554.1, r5 A1840 ((t1816.2.2.2.2.2.2.2.2.2.2.1).length) n1842 t3554.2] w3556) := ⟨HS.out.call hS⟩
            clear hS
            go_wp2_with fail
            obtain ⟨t3557, HA3558, H⟩ := bind_some H
            refine (tint_Turn.calls t3554.2 t3554.1 t1816.2.1 t1816.2.2.1 t1816.2.2.2.1 t1816.2.2.2.2.1 g1828 g1830 A1840 ((t1816.2.2.2.2.2.2.2.2.2.2.1).length) n1842 t3557 _ ⟨HGl0.out.pass HS.out⟩ ⟨HS.out.begin⟩ HA3558).mono ?_
            rintro e_ w3559 ⟨rfl, hS⟩
            replace HS : Aside0 (Sep (fps []) w [b7 g1828 g1830 t1816.2.1 t1816.2.2.1 t1816.2.2.2.1 t1816.2.2.2.2.1, b6 g1830 A1840 ((t1816.2.2.2.2.2.2.2.2.2.2.1).length) n1842 t3557.1, r5 A1840 ((t1816.2.2.2.2.2.2.2.2.2.2.1).length) n1842 t3557.2] w3559) := ⟨HS.out.call hS⟩
            clear hS
            go_wp2_with fail
            obtain ⟨t3638, HA3639, H⟩ := bind_some H
            refine (tint_Shadow.calls t3557.2 t3557.1 t1816.2.1 t1816.2.2.1 t1816.2.2.2.1 t1816.2.2.2.2.1 t2772.1 g1828 g1830 A1840 ((t1816.2.2.2.2.2.2.2.2.2.2.1).length) n1842 t3638 _ ⟨HGl0.out.pass HS.out⟩ ⟨HS.out.begin⟩ HA3639).mono ?_
            rintro e_ w3640 ⟨rfl, hS⟩
            replace HS : Aside0 (Sep (fps []) w [b7 g1828 g1830 t1816.2.1 t1816.2.2.1 t1816.2.2.2.1 t1816.2.2.2.2.1, b6 g1830 A1840 ((t1816.2.2.2.2.2.2.2.2.2.2.1).length) n1842 t3638.2, r5 A1840 ((t1816.2.2.2.2.2.2.2.2.2.2.1).length) n1842 t3557.2] w3640) := ⟨HS.out.call hS⟩
            clear hS
            by_cases c3641 : t3638.1 = 1
            · replace H := if_yes c3641 H
              have c3641b0 : (t3638.1 == 1) = true := beq_iff_eq.mpr c3641
              have c3641b1 : (t3638.1 != 1) = false := bne_eq_false_iff_eq.mpr c3641
              clear c3641
              go_wp2_with fail
              obtain ⟨t4407, HA4408, H⟩ := bind_some H
              refine (tint_Touch.calls _ t3557.2 t3638.2 t1816.2.1 t1816.2.2.1 t1816.2.2.2.1 t1816.2.2.2.2.1 t2772.1 g1828 g1830 A1840 ((t1816.2.2.2.2.2.2.2.2.2.2.1).length) n1842 t4407 _ ⟨HGl0.out.pass HS.out⟩ ⟨HS.out.begin⟩ HA4408).mono ?_
              rintro e_ w4409 ⟨rfl, hS⟩
              replace HS : Aside0 (Sep (fps []) w [b7 g1828 g1830 t1816.2.1 t1816.2.2.1 t1816.2.2.2.1 t1816.2.2.2.2.1, b6 g1830 A1840 ((t1816.2.2.2.2.2.2.2.2.2.2.1).length) n1842 t4407.2.1, r5 A1840 ((t1816.2.2.2.2.2.2.2.2.2.2.1).length) n1842 t4407.2.2] w4409) := ⟨HS.out.call hS⟩
              clear hS
              by_cases c4410 : t4407.1 = true
              · replace H := if_yes c4410 H
                have c4410b0 : t4407.1 = true := c4410
                have c4410b1 : (!t4407.1) = false := by rw [c4410b0]; rfl
                try rw [c4410b1]
                clear c4410
                replace HS : Aside0 (Sep (fps []) w [] w4409) := ⟨HS.out.sub (.cons _ (.cons _ (.cons _ .slnil)))⟩
                go_wp2_with fail
                go_ret
                rw [← some_eq H]
                exact ⟨(by first | rfl | (simp [IntKind.wrap_u32]; done)), HS.out⟩
              · replace H := if_no c4410 H
                have c4410b0 : t4407.1 = false := by simpa using c4410
                have c4410b1 : (!t4407.1) = true := by rw [c4410b0]; rfl
                try rw [c4410b1]
                clear c4410
                go_wp2_with fail
                obtain ⟨t4622, HA4623, H⟩ := bind_some H
                refine (tint_Lighten.calls t4407.2.2 t4407.2.1 t1816.2.1 t1816.2.2.1 t1816.2.2.2.1 t1816.2.2.2.2.1 t2772.1 g1828 g1830 A1840 ((t1816.2.2.2.2.2.2.2.2.2.2.1).length) n1842 t4622 _ ⟨HGl0.out.pass HS.out⟩ ⟨HS.out.begin⟩ HA4623).mono ?_
                rintro e_ w4624 ⟨rfl, hS⟩
                replace HS : Aside0 (Sep (fps []) w [b7 g1828 g1830 t1816.2.1 t1816.2.2.1 t1816.2.2.2.1 t1816.2.2.2.2.1, b6 g1830 A1840 ((t1816.2.2.2.2.2.2.2.2.2.2.1).length) n1842 t4622.2.1, r5 A1840 ((t1816.2.2.2.2.2.2.2.2.2.2.1).length) n1842 t4622.2.2] w4624) := ⟨HS.out.call hS⟩
                clear hS
                by_cases c4625 : t4622.1 = true
                · replace H := if_yes c4625 H
                  have c4625b0 : t4622.1 = true := c4625
                  have c4625b1 : (!t4622.1) = false := by rw [c4625b0]; rfl
                  try rw [c4625b1]
                  clear c4625
                  replace HS : Aside0 (Sep (fps []) w [] w4624) := ⟨HS.out.sub (.cons _ (.cons _ (.cons _ .slnil)))⟩
                  go_wp2_with fail
                  go_ret
                  rw [← some_eq H]
                  exact ⟨(by first | rfl | (simp [IntKind.wrap_u32]; done)), HS.out⟩
                · replace H := if_no c4625 H
                  have c4625b0 : t4622.1 = false := by simpa using c4625
                  have c4625b1 : (!t4622.1) = true := by rw [c4625b0]; rfl
                  try rw [c4625b1]
                  clear c4625
                  go_wp2_with fail
                  obtain ⟨t4626, HA4627, H⟩ := bind_some H
                  refine (tint_Touch.calls _ t4622.2.2 t4622.2.1 t1816.2.1 t1816.2.2.1 t1816.2.2.2.1 t1816.2.2.2.2.1 a2 g1828 g1830 A1840 ((t1816.2.2.2.2.2.2.2.2.2.2.1).length) n1842 t4626 _ ⟨HGl0.out.pass HS.out⟩ ⟨HS.out.begin⟩ HA4627).mono ?_
                  rintro e_ w4628 ⟨rfl, hS⟩
                  replace HS : Aside0 (Sep (fps []) w [b7 g1828 g1830 t1816.2.1 t1816.2.2.1 t1816.2.2.2.1 t1816.2.2.2.2.1, b6 g1830 A1840 ((t1816.2.2.2.2.2.2.2.2.2.2.1).length) n1842 t4626.2.1, r5 A1840 ((t1816.2.2.2.2.2.2.2.2.2.2.1).length) n1842 t4626.2.2] w4628) := ⟨HS.out.call hS⟩
                  clear hS
                  by_cases c4629 : t4626.1 = true
                  · replace H := if_yes c4629 H
                    have c4629b0 : t4626.1 = true := c4629
                    have c4629b1 : (!t4626.1) = false := by rw [c4629b0]; rfl
                    try rw [c4629b1]
                    clear c4629
                    replace HS : Aside0 (Sep (fps []) w [] w4628) := ⟨HS.out.sub (.cons _ (.cons _ (.cons _ .slnil)))⟩
                    go_wp2_with fail
                    go_ret
                    rw [← some_eq H]
                    exact ⟨(by first | rfl | (simp [IntKind.wrap_u32]; done)), HS.out⟩
                  · replace H := if_no c4629 H
                    have c4629b0 : t4626.1 = false := by simpa using c4629
                    have c4629b1 : (!t4626.1) = true := by rw [c4629b0]; rfl
                    try rw [c4629b1]
                    clear c4629
                    go_wp2_with fail
                    obtain ⟨t4651, HA4652, H⟩ := bind_some H
                    refine (ring_Len.calls t4626.2.2 t4626.2.1 t1816.2.1 t1816.2.2.1 t1816.2.2.2.1 t1816.2.2.2.2.1 g1828 g1830 A1840 ((t1816.2.2.2.2.2.2.2.2.2.2.1).length) n1842 t4651 _ ⟨HGl0.out.pass HS.out⟩ ⟨HS.out.begin⟩ HA4652).mono ?_
                    rintro e_ w4653 ⟨rfl, hS⟩
                    replace HS : Aside0 (Sep (fps []) w [b7 g1828 g1830 t1816.2.1 t1816.2.2.1 t1816.2.2.2.1 t1816.2.2.2.2.1, b6 g1830 A1840 ((t1816.2.2.2.2.2.2.2.2.2.2.1).length) n1842 t4651.2, r5 A1840 ((t1816.2.2.2.2.2.2.2.2.2.2.1).length) n1842 t4626.2.2] w4653) := ⟨HS.out.call hS⟩
                    clear hS
                    by_cases c4654 : t4651.1 = 0
                    · replace H := if_yes c4654 H
                      have c4654b0 : (t4651.1 == 0) = true := beq_iff_eq.mpr c4654
                      have c4654b1 : (t4651.1 != 0) = false := bne_eq_false_iff_eq.mpr c4654
                      clear c4654
                      go_wp2_with fail
                      obtain ⟨t5021, HA5022, H⟩ := bind_some H
                      refine (quitrentlaw13_begun.calls _ t5021 _ ⟨HGl0.out.pass (l := []) HS.out⟩ ⟨Sep.start _⟩ HA5022).mono ?_
                      rintro e_ w5023 ⟨rfl, hS⟩
                      replace HS : Aside0 (Sep (fps []) w [b7 g1828 g1830 t1816.2.1 t1816.2.2.1 t1816.2.2.2.1 t1816.2.2.2.2.1, b6 g1830 A1840 ((t1816.2.2.2.2.2.2.2.2.2.2.1).length) n1842 t4651.2, r5 A1840 ((t1816.2.2.2.2.2.2.2.2.2.2.1).length) n1842 t4626.2.2] w5023) := ⟨HS.out.call hS⟩
                      clear hS
                      replace HS : Aside0 (Sep (fps []) w [] w5023) := ⟨HS.out.sub (.cons _ (.cons _ (.cons _ .slnil)))⟩
                      go_wp2_with fail
                      go_ret
                      rw [← some_eq H]
                      exact ⟨(by first | rfl | (simp [IntKind.wrap_u32]; done)), HS.out⟩
                    · replace H := if_no c4654 H
                      have c4654b0 : (t4651.1 == 0) = false := beq_eq_false_iff_ne.mpr c4654
                      have c4654b1 : (t4651.1 != 0) = true := bne_iff_ne.mpr c4654
                      clear c4654
                      replace HS : Aside0 (Sep (fps []) w [] w4653) := ⟨HS.out.sub (.cons _ (.cons _ (.cons _ .slnil)))⟩
                      go_wp2_with fail
                      go_ret
                      rw [← some_eq H]
                      exact ⟨(by first | rfl | (simp [IntKind.wrap_u32]; done)), HS.out⟩
            · replace H := if_no c3641 H
              have c3641b0 : (t3638.1 == 1) = false := beq_eq_false_iff_ne.mpr c3641
              have c3641b1 : (t3638.1 != 1) = true := bne_iff_ne.mpr c3641
              clear c3641
              replace HS : Aside0 (Sep (fps []) w [] w3640) := ⟨HS.out.sub (.cons _ (.cons _ (.cons _ .slnil)))⟩
              go_wp2_with fail
              go_ret
              rw [← some_eq H]
              exact ⟨(by first | rfl | (simp [IntKind.wrap_u32]; done)), HS.out⟩
          · replace H := if_no c3526 H
            have c3526b0 : t3523.1 = false := by simpa using c3526
            have c3526b1 : (!t3523.1) = true := by rw [c3526b0]; rfl
            try rw [c3526b1]
            clear c3526
            replace HS : Aside0 (Sep (fps []) w [] w3525) := ⟨HS.out.sub (.cons _ (.cons _ (.cons _ .slnil)))⟩
            go_wp2_with fail
            go_ret
            rw [← some_eq H]
            exact ⟨(by first | rfl | (simp [IntKind.wrap_u32]; done)), HS.out⟩
        · replace H := if_no c3313 H
          have c3313b0 : t3310.1 = false := by simpa using c3313
          have c3313b1 : (!t3310.1) = true := by rw [c3313b0]; rfl
          try rw [c3313b1]
          clear c3313
          replace HS : Aside0 (Sep (fps []) w [] w3312) := ⟨HS.out.sub (.cons _ (.cons _ (.cons _ .slnil)))⟩
          go_wp2_with fail
          go_ret
          rw [← some_eq H]
          exact ⟨(by first | rfl | (simp [IntKind.wrap_u32]; done)), HS.out⟩
      · replace H := if_no c2775 H
        have c2775b0 : (t2772.2.1 == 0) = false := beq_eq_false_iff_ne.mpr c2775
        have c2775b1 : (t2772.2.1 != 0) = true := bne_iff_ne.mpr c2775
        clear c2775
        replace HS : Aside0 (Sep (fps []) w [] w2774) := ⟨HS.out.sub (.cons _ (.cons _ (.cons _ .slnil)))⟩
        go_wp2_with fail
        go_ret
        rw [← some_eq H]
        exact ⟨(by first | rfl | (simp [IntKind.wrap_u32]; done)), HS.out⟩
    · replace H := if_no c1848 H
      have c1848b0 : t1816.1 = false := by simpa using c1848
      have c1848b1 : (!t1816.1) = true := by rw [c1848b0]; rfl
      try rw [c1848b1]
      clear c1848
      replace HS : Aside0 (Sep (fps []) w [b7 g1828 g1830 t1816.2.1 t1816.2.2.1 t1816.2.2.2.1 t1816.2.2.2.2.1, b6 g1830 A1840 ((t1816.2.2.2.2.2.2.2.2.2.2.1).length) n1842 t1816.2.2.2.2.2.1, r5 A1840 ((t1816.2.2.2.2.2.2.2.2.2.2.1).length) n1842 t1816.2.2.2.2.2.2.2.2.2.2.1] w1819) := ⟨HS.out.sub (.cons_cons _ (.cons _ (.cons_cons _ (.cons _ (.cons _ (.cons _ (.cons_cons _ (.cons _ .slnil))))))))⟩
      replace HS : Aside0 (Sep (fps []) w [] w1819) := ⟨HS.out.sub (.cons _ (.cons _ (.cons _ .slnil)))⟩
      go_wp2_with fail
      go_ret
      rw [← some_eq H]
      exact ⟨(by first | rfl | (simp [IntKind.wrap_u32]; done)), HS.out⟩
end Go.Proofs.YtobeonkddamnoaaDoor.C

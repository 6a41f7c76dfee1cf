/- Each function of the group TN does what its plain function says, and changes nothing that was there; proved by walking its code. No condition. -/
import Derived.Test.YtobeonkddamnoaaGreatDoorQw
import Derived.Test.YtobeonkddamnoaaGreatDoorMTN
import Derived.Test.YtobeonkddamnoaaGreatDoorGTN0
namespace Go.Proofs.YtobeonkddamnoaaGreatDoor.C
open Go.RowKit Go.Proofs.YtobeonkddamnoaaGreatDoorW.PrintWords Go.Proofs.YtobeonkddamnoaaGreatDoorW.PrintLast Go.Proofs.YtobeonkddamnoaaGreatDoor.Q Go.Proofs.YtobeonkddamnoaaGreatDoor.M
set_option linter.unusedVariables false
set_option linter.unusedSimpArgs false
set_option maxHeartbeats 30000000 in
set_option maxRecDepth 100000 in
theorem tint_Touch_nil.calls (k : Nat) (a737 : Int) (r : Bool) (w : World)  (HGl0 : Aside0 (Gl 0 #[.int .i64 0, .int .i64 0, .int .i64 0, .int .i64 0, .int .i64 0] (fps []) w)) (HS : Aside0 (Sep (fps []) w [] w)) (H : Aside0 (tint_Touch_nil.f k a737 = some r)) :
    Calls Tryz.prog 18 #[.pointer none, .int .i64 a737] w fun e w' => e = .returned (.bool r) ∧ Sep (fps []) w [] w' := by
  unfold tint_Touch_nil.f at H
  go_enter Tryz.func18, Tryz.ntmps18
  go_wp2_with fail
  obtain ⟨t738, HA739, H⟩ := bind_some H
  refine (tint_of_nil.calls a737 t738 _ ⟨HGl0.out.pass (l := []) HS.out⟩ ⟨Sep.start _⟩ HA739).mono ?_
  rintro e_ w740 ⟨rfl, hS⟩
  replace HS : Aside0 (Sep (fps []) w [] w740) := ⟨HS.out.call hS⟩
  clear hS
  go_wp2_with (first | ((with_reducible refine gate_dst (N := 5) rfl ?_); refine box_on ?hg (N := 5) ?hd (cs := #[.int .i64 0, .int .i64 0, .int .i64 0, .int .i64 0, .int .i64 0, .int .i64 0, .int .i64 0]) (t := 79) ?hr ?_; (case hd => rfl); (case hg => rfl); (case hr => first | (go_simp; done) | (go_simp; rfl)); intro g741 hg w742 hbox hb; replace HS : Aside0 (Sep (fps []) w [b3 g741 0 0 0 0 0 0 0] w742) := ⟨HS.out.box hg hbox hb⟩; clear hg hbox hb; have hc744 : w742.cell? ⟨g741, 0, none⟩ = some (.int .i64 0) := blk_cellv (HS.out.at0) 0 rfl; have hz745 : w742.frozen? ⟨g741, 0, none⟩ = false := blk_fz (HS.out.at0) 0; have hc746 : w742.cell? ⟨g741, 1, none⟩ = some (.int .i64 0) := blk_cellv (HS.out.at0) 1 rfl; have hz747 : w742.frozen? ⟨g741, 1, none⟩ = false := blk_fz (HS.out.at0) 1; have hc748 : w742.cell? ⟨g741, 2, none⟩ = some (.int .i64 0) := blk_cellv (HS.out.at0) 2 rfl; have hz749 : w742.frozen? ⟨g741, 2, none⟩ = false := blk_fz (HS.out.at0) 2; have hc750 : w742.cell? ⟨g741, 3, none⟩ = some (.int .i64 0) := blk_cellv (HS.out.at0) 3 rfl; have hz751 : w742.frozen? ⟨g741, 3, none⟩ = false := blk_fz (HS.out.at0) 3; have hc752 : w742.cell? ⟨g741, 4, none⟩ = some (.int .i64 0) := blk_cellv (HS.out.at0) 4 rfl; have hz753 : w742.frozen? ⟨g741, 4, none⟩ = false := blk_fz (HS.out.at0) 4; have hc754 : w742.cell? ⟨g741, 5, none⟩ = some (.int .i64 0) := blk_cellv (HS.out.at0) 5 rfl; have hz755 : w742.frozen? ⟨g741, 5, none⟩ = false := blk_fz (HS.out.at0) 5; have hc756 : w742.cell? ⟨g741, 6, none⟩ = some (.int .i64 0) := blk_cellv (HS.out.at0) 6 rfl; have hz757 : w742.frozen? ⟨g741, 6, none⟩ = false := blk_fz (HS.out.at0) 6) | ((with_reducible refine gate_store (t := 79) (p := 5) rfl ?_); refine store_event (w1 := (World.setCell (World.setCell (World.setCell (World.setCell (World.setCell (World.setCell (World.setCell w742 ⟨g741, 0, none⟩ (.int .i64 t738.1)) ⟨g741, 1, none⟩ (.int .i64 t738.2.1)) ⟨g741, 2, none⟩ (.int .i64 t738.2.2.1)) ⟨g741, 3, none⟩ (.int .i64 t738.2.2.2.1)) ⟨g741, 4, none⟩ (.int .i64 t738.2.2.2.2.1)) ⟨g741, 5, none⟩ (.int .i64 t738.2.2.2.2.2.1)) ⟨g741, 6, none⟩ (.int .i64 t738.2.2.2.2.2.2.1))) rfl (t := 79) (p := 5) rfl rfl ?hr ?_; (case hr => first | (go_simp; done) | (go_simp; rfl)); intro w758 hst; clear hc744 hz745 hc746 hz747 hc748 hz749 hc750 hz751 hc752 hz753 hc754 hz755 hc756 hz757; replace HS : Aside0 (Sep (fps []) w [b3 g741 t738.1 t738.2.1 t738.2.2.1 t738.2.2.2.1 t738.2.2.2.2.1 t738.2.2.2.2.2.1 t738.2.2.2.2.2.2.1] w758) := ⟨by rw [hst]; exact HS.out.setAll (l1 := []) (l2 := []) [.int .i64 t738.1, .int .i64 t738.2.1, .int .i64 t738.2.2.1, .int .i64 t738.2.2.2.1, .int .i64 t738.2.2.2.2.1, .int .i64 t738.2.2.2.2.2.1, .int .i64 t738.2.2.2.2.2.2.1] rfl⟩; clear hst))
  refine start_ (n := 25) (S := (fun w' => w'.cell? ⟨g741, 4, none⟩ = some (.int .i64 t738.2.2.2.2.1) ∧ w'.cell? ⟨g741, 1, none⟩ = some (.int .i64 t738.2.1))) (ds := []) #[false, false, false, false, false, false, false, false, false, false, false, false, false, false, false, false, false, false, false, false, false, false, false, false, false] (by kernel_rfl) rfl rfl (⟨blk_cellv ((HS.out.drew).at0) 4 rfl, blk_cellv ((HS.out.drew).at0) 1 rfl⟩) (fun hHeld => ?_)
  have HS_ := Aside0.mk HS.out.drew
  clear HS
  generalize World.drew _ = w760 at HS_ hHeld ⊢
  have HS := HS_
  clear HS_
  refine pure_ (i := 0) (N := some 13) (v := ?_) (a' := ?_) #[true, false, false, false, false, false, false, false, false, false, false, false, false, false, false, false, false, false, false, false, false, false, false, false, false] rfl rfl (by kernel_rfl) (fun _ _ _ h => h) (Or.inl ⟨by rfl, ?_⟩) ?_ ?_
  rotate_left
  · intro w'
    go_simp
    with_reducible rfl
  rotate_left
  · simp only [Act.put, List.setIfInBounds_toArray, List.set_cons_zero, List.set_cons_succ, i64_w, i32_w]
    rfl
  refine pure_ (i := 1) (N := some 14) (v := ?_) (a' := ?_) #[true, true, false, false, false, false, false, false, false, false, false, false, false, false, false, false, false, false, false, false, false, false, false, false, false] rfl rfl (by kernel_rfl) (fun _ _ _ h => h) (Or.inl ⟨by rfl, ?_⟩) ?_ ?_
  rotate_left
  · intro w'
    go_simp
    with_reducible rfl
  rotate_left
  · simp only [Act.put, List.setIfInBounds_toArray, List.set_cons_zero, List.set_cons_succ, i64_w, i32_w]
    rfl
  refine pure_ (i := 2) (N := some 15) (v := ?_) (a' := ?_) #[true, true, true, false, false, false, false, false, false, false, false, false, false, false, false, false, false, false, false, false, false, false, false, false, false] rfl rfl (by kernel_rfl) (fun _ _ _ h => h) (Or.inl ⟨by rfl, ?_⟩) ?_ ?_
  rotate_left
  · intro w'
    go_simp
    with_reducible rfl
  rotate_left
  · simp only [Act.put, List.setIfInBounds_toArray, List.set_cons_zero, List.set_cons_succ, i64_w, i32_w]
    rfl
  by_cases c761 : t738.2.2.2.2.2.2.2 = true
  · have H := if_yes c761 H
    have c761b0 : t738.2.2.2.2.2.2.2 = true := c761
    have c761b1 : (!t738.2.2.2.2.2.2.2) = false := by rw [c761b0]; rfl
    try rw [c761b1]
    clear c761
    try simp only [c761b0, Bool.not_true, Bool.not_false]
    refine pure_ (i := 3) (N := some 16) (v := ?_) (a' := ?_) #[true, true, true, true, false, false, false, false, false, false, false, false, false, false, false, false, false, false, false, false, false, false, false, false, false] rfl rfl (by kernel_rfl) (fun _ _ _ h => h) (Or.inl ⟨by rfl, ?_⟩) ?_ ?_
    rotate_left
    · intro w'
      go_simp
      with_reducible rfl
    rotate_left
    · simp only [Act.put, List.setIfInBounds_toArray, List.set_cons_zero, List.set_cons_succ, i64_w, i32_w]
      rfl
    try simp only [c761b0, Bool.not_true, Bool.not_false]
    refine one_ (i := 4) (N := some 17) #[true, true, true, true, true, false, false, false, false, false, false, false, false, false, false, false, false, false, false, false, false, false, false, false, false] rfl rfl (by kernel_rfl) (by decide) (fun K hK => ?_)
    obtain ⟨t762, HA763, H⟩ := bind_some H
    refine goes_ Tryz.func22 (by kernel_rfl) rfl #[.pointer none] (by rfl) rfl rfl (by (try simp only [List.map_toArray, List.map_cons, List.map_nil]); first | done | rfl) ?_
    refine (tint_Phase_nil.calls t762 _ ⟨HGl0.out.pass (l := []) HS.out⟩ ⟨Sep.start _⟩ HA763).mono ?_
    rintro e_ w764 ⟨rfl, hS⟩
    replace HS : Aside0 (Sep (fps []) w [b3 g741 t738.1 t738.2.1 t738.2.2.1 t738.2.2.2.1 t738.2.2.2.2.1 t738.2.2.2.2.2.1 t738.2.2.2.2.2.2.1] w764) := ⟨HS.out.call hS⟩
    clear hS
    refine ⟨_, rfl, ?_⟩
    refine hK.out _ _ (⟨blk_cellv (HS.out.at0) 4 rfl, blk_cellv (HS.out.at0) 1 rfl⟩) (fun hHeld => ?_)
    clear hK K
    refine norm_ (a' := ?_) ?_ ?_
    rotate_left
    · show Act.put _ (some 17) _ = _
      simp only [Act.put, List.setIfInBounds_toArray, List.set_cons_zero, List.set_cons_succ, i64_w, i32_w]
      rfl
    try simp only [c761b0, Bool.not_true, Bool.not_false]
    refine pure_ (i := 5) (N := some 18) (v := ?_) (a' := ?_) #[true, true, true, true, true, true, false, false, false, false, false, false, false, false, false, false, false, false, false, false, false, false, false, false, false] rfl rfl (by kernel_rfl) (fun _ _ _ h => h) (Or.inl ⟨by rfl, ?_⟩) ?_ ?_
    rotate_left
    · intro w'
      go_simp
      with_reducible rfl
    rotate_left
    · simp only [Act.put, List.setIfInBounds_toArray, List.set_cons_zero, List.set_cons_succ, i64_w, i32_w]
      rfl
    refine pure_ (i := 6) (N := some 19) (v := ?_) (a' := ?_) #[true, true, true, true, true, true, true, false, false, false, false, false, false, false, false, false, false, false, false, false, false, false, false, false, false] rfl rfl (by kernel_rfl) (fun _ _ _ h => h) (Or.inl ⟨by rfl, ?_⟩) ?_ ?_
    rotate_left
    · intro w'
      go_simp
      with_reducible rfl
    rotate_left
    · simp only [Act.put, List.setIfInBounds_toArray, List.set_cons_zero, List.set_cons_succ, i64_w, i32_w]
      rfl
    refine pure_ (i := 7) (N := some 20) (v := ?_) (a' := ?_) #[true, true, true, true, true, true, true, true, false, false, false, false, false, false, false, false, false, false, false, false, false, false, false, false, false] rfl rfl (by kernel_rfl) (fun _ _ _ h => h) (Or.inl ⟨by rfl, ?_⟩) ?_ ?_
    rotate_left
    · intro w'
      go_simp
      with_reducible rfl
    rotate_left
    · simp only [Act.put, List.setIfInBounds_toArray, List.set_cons_zero, List.set_cons_succ, i64_w, i32_w]
      rfl
    by_cases c765 : t762 = 0
    · have H := if_yes c765 H
      have c765b0 : (t762 == 0) = true := beq_iff_eq.mpr c765
      have c765b1 : (t762 != 0) = false := bne_eq_false_iff_eq.mpr c765
      clear c765
      try simp only [c765b0, Bool.not_true, Bool.not_false]
      refine pure_ (i := 8) (N := some 21) (v := undef) (a' := ?_) #[true, true, true, true, true, true, true, true, true, false, false, false, false, false, false, false, false, false, false, false, false, false, false, false, false] rfl rfl (by kernel_rfl) (fun _ _ _ h => h) (Or.inr ⟨by rfl, rfl⟩) ?_ ?_
      rotate_left
      · simp only [Act.put, List.setIfInBounds_toArray, List.set_cons_zero, List.set_cons_succ, i64_w, i32_w]
        rfl
      try simp only [c765b0, Bool.not_true, Bool.not_false]
      refine pure_ (i := 9) (N := some 22) (v := undef) (a' := ?_) #[true, true, true, true, true, true, true, true, true, true, false, false, false, false, false, false, false, false, false, false, false, false, false, false, false] rfl rfl (by kernel_rfl) (fun _ _ _ h => h) (Or.inr ⟨by rfl, rfl⟩) ?_ ?_
      rotate_left
      · simp only [Act.put, List.setIfInBounds_toArray, List.set_cons_zero, List.set_cons_succ, i64_w, i32_w]
        rfl
      try simp only [c765b0, Bool.not_true, Bool.not_false]
      refine pure_ (i := 10) (N := some 23) (v := undef) (a' := ?_) #[true, true, true, true, true, true, true, true, true, true, true, false, false, false, false, false, false, false, false, false, false, false, false, false, false] rfl rfl (by kernel_rfl) (fun _ _ _ h => h) (Or.inr ⟨by rfl, rfl⟩) ?_ ?_
      rotate_left
      · simp only [Act.put, List.setIfInBounds_toArray, List.set_cons_zero, List.set_cons_succ, i64_w, i32_w]
        rfl
      refine pure_ (i := 11) (N := some 24) (v := ?_) (a' := ?_) #[true, true, true, true, true, true, true, true, true, true, true, true, false, false, false, false, false, false, false, false, false, false, false, false, false] rfl rfl (by kernel_rfl) (fun _ _ _ h => h) (Or.inl ⟨by rfl, ?_⟩) ?_ ?_
      rotate_left
      · intro w'
        go_simp
        with_reducible rfl
      rotate_left
      · simp only [Act.put, List.setIfInBounds_toArray, List.set_cons_zero, List.set_cons_succ, i64_w, i32_w]
        rfl
      refine pure_ (i := 12) (N := some 25) (v := ?_) (a' := ?_) #[true, true, true, true, true, true, true, true, true, true, true, true, true, false, false, false, false, false, false, false, false, false, false, false, false] rfl rfl (by kernel_rfl) (fun _ _ _ h => h) (Or.inl ⟨by rfl, ?_⟩) ?_ ?_
      rotate_left
      · intro w'
        go_simp
        with_reducible rfl
      rotate_left
      · simp only [Act.put, List.setIfInBounds_toArray, List.set_cons_zero, List.set_cons_succ, i64_w, i32_w]
        rfl
      refine pure_ (i := 13) (N := some 26) (v := undef) (a' := ?_) #[true, true, true, true, true, true, true, true, true, true, true, true, true, true, false, false, false, false, false, false, false, false, false, false, false] rfl rfl (by kernel_rfl) (fun _ _ _ h => h) (Or.inr ⟨by rfl, rfl⟩) ?_ ?_
      rotate_left
      · simp only [Act.put, List.setIfInBounds_toArray, List.set_cons_zero, List.set_cons_succ, i64_w, i32_w]
        rfl
      refine pure_ (i := 14) (N := some 27) (v := undef) (a' := ?_) #[true, true, true, true, true, true, true, true, true, true, true, true, true, true, true, false, false, false, false, false, false, false, false, false, false] rfl rfl (by kernel_rfl) (fun _ _ _ h => h) (Or.inr ⟨by rfl, rfl⟩) ?_ ?_
      rotate_left
      · simp only [Act.put, List.setIfInBounds_toArray, List.set_cons_zero, List.set_cons_succ, i64_w, i32_w]
        rfl
      refine pure_ (i := 15) (N := some 28) (v := undef) (a' := ?_) #[true, true, true, true, true, true, true, true, true, true, true, true, true, true, true, true, false, false, false, false, false, false, false, false, false] rfl rfl (by kernel_rfl) (fun _ _ _ h => h) (Or.inr ⟨by rfl, rfl⟩) ?_ ?_
      rotate_left
      · simp only [Act.put, List.setIfInBounds_toArray, List.set_cons_zero, List.set_cons_succ, i64_w, i32_w]
        rfl
      refine pure_ (i := 16) (N := some 29) (v := undef) (a' := ?_) #[true, true, true, true, true, true, true, true, true, true, true, true, true, true, true, true, true, false, false, false, false, false, false, false, false] rfl rfl (by kernel_rfl) (fun _ _ _ h => h) (Or.inr ⟨by rfl, rfl⟩) ?_ ?_
      rotate_left
      · simp only [Act.put, List.setIfInBounds_toArray, List.set_cons_zero, List.set_cons_succ, i64_w, i32_w]
        rfl
      refine pure_ (i := 17) (N := some 30) (v := undef) (a' := ?_) #[true, true, true, true, true, true, true, true, true, true, true, true, true, true, true, true, true, true, false, false, false, false, false, false, false] rfl rfl (by kernel_rfl) (fun _ _ _ h => h) (Or.inr ⟨by rfl, rfl⟩) ?_ ?_
      rotate_left
      · simp only [Act.put, List.setIfInBounds_toArray, List.set_cons_zero, List.set_cons_succ, i64_w, i32_w]
        rfl
      refine pure_ (i := 18) (N := some 31) (v := ?_) (a' := ?_) #[true, true, true, true, true, true, true, true, true, true, true, true, true, true, true, true, true, true, true, false, false, false, false, false, false] rfl rfl (by kernel_rfl) (fun _ _ _ h => h) (Or.inl ⟨by rfl, ?_⟩) ?_ ?_
      rotate_left
      · intro w'
        go_simp
        with_reducible rfl
      rotate_left
      · simp only [Act.put, List.setIfInBounds_toArray, List.set_cons_zero, List.set_cons_succ, i64_w, i32_w]
        rfl
      refine pure_ (i := 19) (N := some 32) (v := ?_) (a' := ?_) #[true, true, true, true, true, true, true, true, true, true, true, true, true, true, true, true, true, true, true, true, false, false, false, false, false] rfl rfl (by kernel_rfl) (fun _ _ _ h => h) (Or.inl ⟨by rfl, ?_⟩) ?_ ?_
      rotate_left
      · intro w'
        go_simp
        with_reducible rfl
      rotate_left
      · simp only [Act.put, List.setIfInBounds_toArray, List.set_cons_zero, List.set_cons_succ, i64_w, i32_w]
        rfl
      refine pure_ (i := 20) (N := some 33) (v := undef) (a' := ?_) #[true, true, true, true, true, true, true, true, true, true, true, true, true, true, true, true, true, true, true, true, true, false, false, false, false] rfl rfl (by kernel_rfl) (fun _ _ _ h => h) (Or.inr ⟨by rfl, rfl⟩) ?_ ?_
      rotate_left
      · simp only [Act.put, List.setIfInBounds_toArray, List.set_cons_zero, List.set_cons_succ, i64_w, i32_w]
        rfl
      refine pure_ (i := 21) (N := some 34) (v := undef) (a' := ?_) #[true, true, true, true, true, true, true, true, true, true, true, true, true, true, true, true, true, true, true, true, true, true, false, false, false] rfl rfl (by kernel_rfl) (fun _ _ _ h => h) (Or.inr ⟨by rfl, rfl⟩) ?_ ?_
      rotate_left
      · simp only [Act.put, List.setIfInBounds_toArray, List.set_cons_zero, List.set_cons_succ, i64_w, i32_w]
        rfl
      refine pure_ (i := 22) (N := some 35) (v := undef) (a' := ?_) #[true, true, true, true, true, true, true, true, true, true, true, true, true, true, true, true, true, true, true, true, true, true, true, false, false] rfl rfl (by kernel_rfl) (fun _ _ _ h => h) (Or.inr ⟨by rfl, rfl⟩) ?_ ?_
      rotate_left
      · simp only [Act.put, List.setIfInBounds_toArray, List.set_cons_zero, List.set_cons_succ, i64_w, i32_w]
        rfl
      refine pure_ (i := 23) (N := some 36) (v := undef) (a' := ?_) #[true, true, true, true, true, true, true, true, true, true, true, true, true, true, true, true, true, true, true, true, true, true, true, true, false] rfl rfl (by kernel_rfl) (fun _ _ _ h => h) (Or.inr ⟨by rfl, rfl⟩) ?_ ?_
      rotate_left
      · simp only [Act.put, List.setIfInBounds_toArray, List.set_cons_zero, List.set_cons_succ, i64_w, i32_w]
        rfl
      refine pure_ (i := 24) (N := some 37) (v := ?_) (a' := ?_) #[true, true, true, true, true, true, true, true, true, true, true, true, true, true, true, true, true, true, true, true, true, true, true, true, true] rfl rfl (by kernel_rfl) (fun _ _ _ h => h) (Or.inl ⟨by rfl, ?_⟩) ?_ ?_
      rotate_left
      · intro w'
        go_simp
        with_reducible rfl
      rotate_left
      · simp only [Act.put, List.setIfInBounds_toArray, List.set_cons_zero, List.set_cons_succ, i64_w, i32_w]
        rfl
      refine done_ (by kernel_rfl) ?_
      replace HS : Aside0 (Sep (fps []) w [] w764) := ⟨HS.out.sub (.cons _ .slnil)⟩
      go_wp2_with fail
      go_ret
      rw [← some_eq H]
      exact ⟨(by first | rfl | (simp [IntKind.wrap_u32]; done)), HS.out⟩
    · have H := if_no c765 H
      have c765b0 : (t762 == 0) = false := beq_eq_false_iff_ne.mpr c765
      have c765b1 : (t762 != 0) = true := bne_iff_ne.mpr c765
      clear c765
      try simp only [c765b0, Bool.not_true, Bool.not_false]
      refine pure_ (i := 8) (N := some 21) (v := ?_) (a' := ?_) #[true, true, true, true, true, true, true, true, true, false, false, false, false, false, false, false, false, false, false, false, false, false, false, false, false] rfl rfl (by kernel_rfl) (fun _ _ _ h => h) (Or.inl ⟨by rfl, ?_⟩) ?_ ?_
      rotate_left
      · intro w'
        go_simp
        with_reducible rfl
      rotate_left
      · simp only [Act.put, List.setIfInBounds_toArray, List.set_cons_zero, List.set_cons_succ, i64_w, i32_w]
        rfl
      try simp only [c765b0, Bool.not_true, Bool.not_false]
      refine take_ (i := 9) (N := some 22) (v := ?_) (a' := ?_) #[true, true, true, true, true, true, true, true, true, true, false, false, false, false, false, false, false, false, false, false, false, false, false, false, false] rfl rfl (by kernel_rfl) (fun _ _ _ h => h) (Or.inl ⟨by rfl, ?_⟩) hHeld ?_ ?_
      rotate_left
      · rintro w' hS'
        obtain ⟨s0, s1⟩ := hS'
        go_simp
        with_reducible rfl
      rotate_left
      · simp only [Act.put, List.setIfInBounds_toArray, List.set_cons_zero, List.set_cons_succ, i64_w, i32_w]
        rfl
      try simp only [c765b0, Bool.not_true, Bool.not_false]
      refine pure_ (i := 10) (N := some 23) (v := ?_) (a' := ?_) #[true, true, true, true, true, true, true, true, true, true, true, false, false, false, false, false, false, false, false, false, false, false, false, false, false] rfl rfl (by kernel_rfl) (fun _ _ _ h => h) (Or.inl ⟨by rfl, ?_⟩) ?_ ?_
      rotate_left
      · intro w'
        go_simp
        with_reducible rfl
      rotate_left
      · simp only [Act.put, List.setIfInBounds_toArray, List.set_cons_zero, List.set_cons_succ, i64_w, i32_w]
        rfl
      refine pure_ (i := 11) (N := some 24) (v := ?_) (a' := ?_) #[true, true, true, true, true, true, true, true, true, true, true, true, false, false, false, false, false, false, false, false, false, false, false, false, false] rfl rfl (by kernel_rfl) (fun _ _ _ h => h) (Or.inl ⟨by rfl, ?_⟩) ?_ ?_
      rotate_left
      · intro w'
        go_simp
        with_reducible rfl
      rotate_left
      · simp only [Act.put, List.setIfInBounds_toArray, List.set_cons_zero, List.set_cons_succ, i64_w, i32_w]
        rfl
      refine pure_ (i := 12) (N := some 25) (v := ?_) (a' := ?_) #[true, true, true, true, true, true, true, true, true, true, true, true, true, false, false, false, false, false, false, false, false, false, false, false, false] rfl rfl (by kernel_rfl) (fun _ _ _ h => h) (Or.inl ⟨by rfl, ?_⟩) ?_ ?_
      rotate_left
      · intro w'
        go_simp
        with_reducible rfl
      rotate_left
      · simp only [Act.put, List.setIfInBounds_toArray, List.set_cons_zero, List.set_cons_succ, i64_w, i32_w]
        rfl
      by_cases c766 : t738.2.2.2.2.1 = 1
      · have H := if_yes c766 H
        have c766b0 : (t738.2.2.2.2.1 == 1) = true := beq_iff_eq.mpr c766
        have c766b1 : (t738.2.2.2.2.1 != 1) = false := bne_eq_false_iff_eq.mpr c766
        clear c766
        try simp only [c766b0, Bool.not_true, Bool.not_false]
        refine pure_ (i := 13) (N := some 26) (v := undef) (a' := ?_) #[true, true, true, true, true, true, true, true, true, true, true, true, true, true, false, false, false, false, false, false, false, false, false, false, false] rfl rfl (by kernel_rfl) (fun _ _ _ h => h) (Or.inr ⟨by rfl, rfl⟩) ?_ ?_
        rotate_left
        · simp only [Act.put, List.setIfInBounds_toArray, List.set_cons_zero, List.set_cons_succ, i64_w, i32_w]
          rfl
        try simp only [c766b0, Bool.not_true, Bool.not_false]
        refine pure_ (i := 14) (N := some 27) (v := undef) (a' := ?_) #[true, true, true, true, true, true, true, true, true, true, true, true, true, true, true, false, false, false, false, false, false, false, false, false, false] rfl rfl (by kernel_rfl) (fun _ _ _ h => h) (Or.inr ⟨by rfl, rfl⟩) ?_ ?_
        rotate_left
        · simp only [Act.put, List.setIfInBounds_toArray, List.set_cons_zero, List.set_cons_succ, i64_w, i32_w]
          rfl
        try simp only [c766b0, Bool.not_true, Bool.not_false]
        refine pure_ (i := 15) (N := some 28) (v := undef) (a' := ?_) #[true, true, true, true, true, true, true, true, true, true, true, true, true, true, true, true, false, false, false, false, false, false, false, false, false] rfl rfl (by kernel_rfl) (fun _ _ _ h => h) (Or.inr ⟨by rfl, rfl⟩) ?_ ?_
        rotate_left
        · simp only [Act.put, List.setIfInBounds_toArray, List.set_cons_zero, List.set_cons_succ, i64_w, i32_w]
          rfl
        try simp only [c766b0, Bool.not_true, Bool.not_false]
        refine pure_ (i := 16) (N := some 29) (v := undef) (a' := ?_) #[true, true, true, true, true, true, true, true, true, true, true, true, true, true, true, true, true, false, false, false, false, false, false, false, false] rfl rfl (by kernel_rfl) (fun _ _ _ h => h) (Or.inr ⟨by rfl, rfl⟩) ?_ ?_
        rotate_left
        · simp only [Act.put, List.setIfInBounds_toArray, List.set_cons_zero, List.set_cons_succ, i64_w, i32_w]
          rfl
        try simp only [c766b0, Bool.not_true, Bool.not_false]
        refine pure_ (i := 17) (N := some 30) (v := undef) (a' := ?_) #[true, true, true, true, true, true, true, true, true, true, true, true, true, true, true, true, true, true, false, false, false, false, false, false, false] rfl rfl (by kernel_rfl) (fun _ _ _ h => h) (Or.inr ⟨by rfl, rfl⟩) ?_ ?_
        rotate_left
        · simp only [Act.put, List.setIfInBounds_toArray, List.set_cons_zero, List.set_cons_succ, i64_w, i32_w]
          rfl
        refine pure_ (i := 18) (N := some 31) (v := ?_) (a' := ?_) #[true, true, true, true, true, true, true, true, true, true, true, true, true, true, true, true, true, true, true, false, false, false, false, false, false] rfl rfl (by kernel_rfl) (fun _ _ _ h => h) (Or.inl ⟨by rfl, ?_⟩) ?_ ?_
        rotate_left
        · intro w'
          go_simp
          with_reducible rfl
        rotate_left
        · simp only [Act.put, List.setIfInBounds_toArray, List.set_cons_zero, List.set_cons_succ, i64_w, i32_w]
          rfl
        refine pure_ (i := 19) (N := some 32) (v := ?_) (a' := ?_) #[true, true, true, true, true, true, true, true, true, true, true, true, true, true, true, true, true, true, true, true, false, false, false, false, false] rfl rfl (by kernel_rfl) (fun _ _ _ h => h) (Or.inl ⟨by rfl, ?_⟩) ?_ ?_
        rotate_left
        · intro w'
          go_simp
          with_reducible rfl
        rotate_left
        · simp only [Act.put, List.setIfInBounds_toArray, List.set_cons_zero, List.set_cons_succ, i64_w, i32_w]
          rfl
        refine pure_ (i := 20) (N := some 33) (v := undef) (a' := ?_) #[true, true, true, true, true, true, true, true, true, true, true, true, true, true, true, true, true, true, true, true, true, false, false, false, false] rfl rfl (by kernel_rfl) (fun _ _ _ h => h) (Or.inr ⟨by rfl, rfl⟩) ?_ ?_
        rotate_left
        · simp only [Act.put, List.setIfInBounds_toArray, List.set_cons_zero, List.set_cons_succ, i64_w, i32_w]
          rfl
        refine pure_ (i := 21) (N := some 34) (v := undef) (a' := ?_) #[true, true, true, true, true, true, true, true, true, true, true, true, true, true, true, true, true, true, true, true, true, true, false, false, false] rfl rfl (by kernel_rfl) (fun _ _ _ h => h) (Or.inr ⟨by rfl, rfl⟩) ?_ ?_
        rotate_left
        · simp only [Act.put, List.setIfInBounds_toArray, List.set_cons_zero, List.set_cons_succ, i64_w, i32_w]
          rfl
        refine pure_ (i := 22) (N := some 35) (v := undef) (a' := ?_) #[true, true, true, true, true, true, true, true, true, true, true, true, true, true, true, true, true, true, true, true, true, true, true, false, false] rfl rfl (by kernel_rfl) (fun _ _ _ h => h) (Or.inr ⟨by rfl, rfl⟩) ?_ ?_
        rotate_left
        · simp only [Act.put, List.setIfInBounds_toArray, List.set_cons_zero, List.set_cons_succ, i64_w, i32_w]
          rfl
        refine pure_ (i := 23) (N := some 36) (v := undef) (a' := ?_) #[true, true, true, true, true, true, true, true, true, true, true, true, true, true, true, true, true, true, true, true, true, true, true, true, false] rfl rfl (by kernel_rfl) (fun _ _ _ h => h) (Or.inr ⟨by rfl, rfl⟩) ?_ ?_
        rotate_left
        · simp only [Act.put, List.setIfInBounds_toArray, List.set_cons_zero, List.set_cons_succ, i64_w, i32_w]
          rfl
        refine pure_ (i := 24) (N := some 37) (v := ?_) (a' := ?_) #[true, true, true, true, true, true, true, true, true, true, true, true, true, true, true, true, true, true, true, true, true, true, true, true, true] rfl rfl (by kernel_rfl) (fun _ _ _ h => h) (Or.inl ⟨by rfl, ?_⟩) ?_ ?_
        rotate_left
        · intro w'
          go_simp
          with_reducible rfl
        rotate_left
        · simp only [Act.put, List.setIfInBounds_toArray, List.set_cons_zero, List.set_cons_succ, i64_w, i32_w]
          rfl
        refine done_ (by kernel_rfl) ?_
        replace HS : Aside0 (Sep (fps []) w [] w764) := ⟨HS.out.sub (.cons _ .slnil)⟩
        go_wp2_with fail
        go_ret
        rw [← some_eq H]
        exact ⟨(by first | rfl | (simp [IntKind.wrap_u32]; done)), HS.out⟩
      · have H := if_no c766 H
        have c766b0 : (t738.2.2.2.2.1 == 1) = false := beq_eq_false_iff_ne.mpr c766
        have c766b1 : (t738.2.2.2.2.1 != 1) = true := bne_iff_ne.mpr c766
        clear c766
        try simp only [c766b0, Bool.not_true, Bool.not_false]
        refine pure_ (i := 13) (N := some 26) (v := ?_) (a' := ?_) #[true, true, true, true, true, true, true, true, true, true, true, true, true, true, false, false, false, false, false, false, false, false, false, false, false] rfl rfl (by kernel_rfl) (fun _ _ _ h => h) (Or.inl ⟨by rfl, ?_⟩) ?_ ?_
        rotate_left
        · intro w'
          go_simp
          with_reducible rfl
        rotate_left
        · simp only [Act.put, List.setIfInBounds_toArray, List.set_cons_zero, List.set_cons_succ, i64_w, i32_w]
          rfl
        try simp only [c766b0, Bool.not_true, Bool.not_false]
        refine pure_ (i := 15) (N := some 28) (v := ?_) (a' := ?_) #[true, true, true, true, true, true, true, true, true, true, true, true, true, true, false, true, false, false, false, false, false, false, false, false, false] rfl rfl (by kernel_rfl) (fun _ _ _ h => h) (Or.inl ⟨by rfl, ?_⟩) ?_ ?_
        rotate_left
        · intro w'
          go_simp
          with_reducible rfl
        rotate_left
        · simp only [Act.put, List.setIfInBounds_toArray, List.set_cons_zero, List.set_cons_succ, i64_w, i32_w]
          rfl
        try simp only [c766b0, Bool.not_true, Bool.not_false]
        refine take_ (i := 14) (N := some 27) (v := ?_) (a' := ?_) #[true, true, true, true, true, true, true, true, true, true, true, true, true, true, true, true, false, false, false, false, false, false, false, false, false] rfl rfl (by kernel_rfl) (fun _ _ _ h => h) (Or.inl ⟨by rfl, ?_⟩) hHeld ?_ ?_
        rotate_left
        · rintro w' hS'
          obtain ⟨s0, s1⟩ := hS'
          go_simp
          with_reducible rfl
        rotate_left
        · simp only [Act.put, List.setIfInBounds_toArray, List.set_cons_zero, List.set_cons_succ, i64_w, i32_w]
          rfl
        try simp only [c766b0, Bool.not_true, Bool.not_false]
        refine one_ (i := 16) (N := some 29) #[true, true, true, true, true, true, true, true, true, true, true, true, true, true, true, true, true, false, false, false, false, false, false, false, false] rfl rfl (by kernel_rfl) (by decide) (fun K hK => ?_)
        obtain ⟨t767, HA768, H⟩ := bind_some H
        refine goes_ Tryz.func15 (by kernel_rfl) rfl #[.pointer none] (by rfl) rfl rfl (by (try simp only [List.map_toArray, List.map_cons, List.map_nil]); first | done | rfl) ?_
        refine (tint_Parity_nil.calls t767 _ ⟨HGl0.out.pass (l := []) HS.out⟩ ⟨Sep.start _⟩ HA768).mono ?_
        rintro e_ w769 ⟨rfl, hS⟩
        replace HS : Aside0 (Sep (fps []) w [b3 g741 t738.1 t738.2.1 t738.2.2.1 t738.2.2.2.1 t738.2.2.2.2.1 t738.2.2.2.2.2.1 t738.2.2.2.2.2.2.1] w769) := ⟨HS.out.call hS⟩
        clear hS
        refine ⟨_, rfl, ?_⟩
        refine hK.out _ _ (⟨blk_cellv (HS.out.at0) 4 rfl, blk_cellv (HS.out.at0) 1 rfl⟩) (fun hHeld => ?_)
        clear hK K
        refine norm_ (a' := ?_) ?_ ?_
        rotate_left
        · show Act.put _ (some 29) _ = _
          simp only [Act.put, List.setIfInBounds_toArray, List.set_cons_zero, List.set_cons_succ, i64_w, i32_w]
          rfl
        try simp only [c766b0, Bool.not_true, Bool.not_false]
        refine pure_ (i := 17) (N := some 30) (v := ?_) (a' := ?_) #[true, true, true, true, true, true, true, true, true, true, true, true, true, true, true, true, true, true, false, false, false, false, false, false, false] rfl rfl (by kernel_rfl) (fun _ _ _ h => h) (Or.inl ⟨by rfl, ?_⟩) ?_ ?_
        rotate_left
        · intro w'
          go_simp
          with_reducible rfl
        rotate_left
        · simp only [Act.put, List.setIfInBounds_toArray, List.set_cons_zero, List.set_cons_succ, i64_w, i32_w]
          rfl
        refine pure_ (i := 18) (N := some 31) (v := ?_) (a' := ?_) #[true, true, true, true, true, true, true, true, true, true, true, true, true, true, true, true, true, true, true, false, false, false, false, false, false] rfl rfl (by kernel_rfl) (fun _ _ _ h => h) (Or.inl ⟨by rfl, ?_⟩) ?_ ?_
        rotate_left
        · intro w'
          go_simp
          with_reducible rfl
        rotate_left
        · simp only [Act.put, List.setIfInBounds_toArray, List.set_cons_zero, List.set_cons_succ, i64_w, i32_w]
          rfl
        refine pure_ (i := 19) (N := some 32) (v := ?_) (a' := ?_) #[true, true, true, true, true, true, true, true, true, true, true, true, true, true, true, true, true, true, true, true, false, false, false, false, false] rfl rfl (by kernel_rfl) (fun _ _ _ h => h) (Or.inl ⟨by rfl, ?_⟩) ?_ ?_
        rotate_left
        · intro w'
          go_simp
          with_reducible rfl
        rotate_left
        · simp only [Act.put, List.setIfInBounds_toArray, List.set_cons_zero, List.set_cons_succ, i64_w, i32_w]
          rfl
        by_cases c770 : t738.2.1 = t767
        · have H := if_yes c770 H
          have c770b0 : (t738.2.1 == t767) = true := beq_iff_eq.mpr c770
          have c770b1 : (t738.2.1 != t767) = false := bne_eq_false_iff_eq.mpr c770
          clear c770
          try simp only [c770b0, Bool.not_true, Bool.not_false]
          refine pure_ (i := 20) (N := some 33) (v := undef) (a' := ?_) #[true, true, true, true, true, true, true, true, true, true, true, true, true, true, true, true, true, true, true, true, true, false, false, false, false] rfl rfl (by kernel_rfl) (fun _ _ _ h => h) (Or.inr ⟨by rfl, rfl⟩) ?_ ?_
          rotate_left
          · simp only [Act.put, List.setIfInBounds_toArray, List.set_cons_zero, List.set_cons_succ, i64_w, i32_w]
            rfl
          try simp only [c770b0, Bool.not_true, Bool.not_false]
          refine pure_ (i := 21) (N := some 34) (v := undef) (a' := ?_) #[true, true, true, true, true, true, true, true, true, true, true, true, true, true, true, true, true, true, true, true, true, true, false, false, false] rfl rfl (by kernel_rfl) (fun _ _ _ h => h) (Or.inr ⟨by rfl, rfl⟩) ?_ ?_
          rotate_left
          · simp only [Act.put, List.setIfInBounds_toArray, List.set_cons_zero, List.set_cons_succ, i64_w, i32_w]
            rfl
          try simp only [c770b0, Bool.not_true, Bool.not_false]
          refine pure_ (i := 22) (N := some 35) (v := undef) (a' := ?_) #[true, true, true, true, true, true, true, true, true, true, true, true, true, true, true, true, true, true, true, true, true, true, true, false, false] rfl rfl (by kernel_rfl) (fun _ _ _ h => h) (Or.inr ⟨by rfl, rfl⟩) ?_ ?_
          rotate_left
          · simp only [Act.put, List.setIfInBounds_toArray, List.set_cons_zero, List.set_cons_succ, i64_w, i32_w]
            rfl
          try simp only [c770b0, Bool.not_true, Bool.not_false]
          refine pure_ (i := 23) (N := some 36) (v := undef) (a' := ?_) #[true, true, true, true, true, true, true, true, true, true, true, true, true, true, true, true, true, true, true, true, true, true, true, true, false] rfl rfl (by kernel_rfl) (fun _ _ _ h => h) (Or.inr ⟨by rfl, rfl⟩) ?_ ?_
          rotate_left
          · simp only [Act.put, List.setIfInBounds_toArray, List.set_cons_zero, List.set_cons_succ, i64_w, i32_w]
            rfl
          refine pure_ (i := 24) (N := some 37) (v := ?_) (a' := ?_) #[true, true, true, true, true, true, true, true, true, true, true, true, true, true, true, true, true, true, true, true, true, true, true, true, true] rfl rfl (by kernel_rfl) (fun _ _ _ h => h) (Or.inl ⟨by rfl, ?_⟩) ?_ ?_
          rotate_left
          · intro w'
            go_simp
            with_reducible rfl
          rotate_left
          · simp only [Act.put, List.setIfInBounds_toArray, List.set_cons_zero, List.set_cons_succ, i64_w, i32_w]
            rfl
          refine done_ (by kernel_rfl) ?_
          replace HS : Aside0 (Sep (fps []) w [] w769) := ⟨HS.out.sub (.cons _ .slnil)⟩
          go_wp2_with fail
          go_ret
          rw [← some_eq H]
          exact ⟨(by first | rfl | (simp [IntKind.wrap_u32]; done)), HS.out⟩
        · have H := if_no c770 H
          have c770b0 : (t738.2.1 == t767) = false := beq_eq_false_iff_ne.mpr c770
          have c770b1 : (t738.2.1 != t767) = true := bne_iff_ne.mpr c770
          clear c770
          try simp only [c770b0, Bool.not_true, Bool.not_false]
          refine pure_ (i := 20) (N := some 33) (v := ?_) (a' := ?_) #[true, true, true, true, true, true, true, true, true, true, true, true, true, true, true, true, true, true, true, true, true, false, false, false, false] rfl rfl (by kernel_rfl) (fun _ _ _ h => h) (Or.inl ⟨by rfl, ?_⟩) ?_ ?_
          rotate_left
          · intro w'
            go_simp
            with_reducible rfl
          rotate_left
          · simp only [Act.put, List.setIfInBounds_toArray, List.set_cons_zero, List.set_cons_succ, i64_w, i32_w]
            rfl
          try simp only [c770b0, Bool.not_true, Bool.not_false]
          refine pure_ (i := 21) (N := some 34) (v := ?_) (a' := ?_) #[true, true, true, true, true, true, true, true, true, true, true, true, true, true, true, true, true, true, true, true, true, true, false, false, false] rfl rfl (by kernel_rfl) (fun _ _ _ h => h) (Or.inl ⟨by rfl, ?_⟩) ?_ ?_
          rotate_left
          · intro w'
            go_simp
            with_reducible rfl
          rotate_left
          · simp only [Act.put, List.setIfInBounds_toArray, List.set_cons_zero, List.set_cons_succ, i64_w, i32_w]
            rfl
          try simp only [c770b0, Bool.not_true, Bool.not_false]
          refine one_ (i := 22) (N := some 35) #[true, true, true, true, true, true, true, true, true, true, true, true, true, true, true, true, true, true, true, true, true, true, true, false, false] rfl rfl (by kernel_rfl) (by decide) (fun K hK => ?_)
          obtain ⟨t771, HA772, H⟩ := bind_some H
          refine goes_ Tryz.func24 (by kernel_rfl) rfl #[.pointer none, .int .i64 a737] (by rfl) rfl rfl (by (try simp only [List.map_toArray, List.map_cons, List.map_nil]); first | done | rfl) ?_
          refine (tint_Paint_nil.calls _ a737 t771 _ ⟨HGl0.out.pass (l := []) HS.out⟩ ⟨Sep.start _⟩ HA772).mono ?_
          rintro e_ w773 ⟨rfl, hS⟩
          replace HS : Aside0 (Sep (fps []) w [b3 g741 t738.1 t738.2.1 t738.2.2.1 t738.2.2.2.1 t738.2.2.2.2.1 t738.2.2.2.2.2.1 t738.2.2.2.2.2.2.1] w773) := ⟨HS.out.call hS⟩
          clear hS
          refine ⟨_, rfl, ?_⟩
          refine hK.out _ _ (⟨blk_cellv (HS.out.at0) 4 rfl, blk_cellv (HS.out.at0) 1 rfl⟩) (fun hHeld => ?_)
          clear hK K
          refine norm_ (a' := ?_) ?_ ?_
          rotate_left
          · show Act.put _ (some 35) _ = _
            simp only [Act.put, List.setIfInBounds_toArray, List.set_cons_zero, List.set_cons_succ, i64_w, i32_w]
            rfl
          try simp only [c770b0, Bool.not_true, Bool.not_false]
          refine pure_ (i := 23) (N := some 36) (v := ?_) (a' := ?_) #[true, true, true, true, true, true, true, true, true, true, true, true, true, true, true, true, true, true, true, true, true, true, true, true, false] rfl rfl (by kernel_rfl) (fun _ _ _ h => h) (Or.inl ⟨by rfl, ?_⟩) ?_ ?_
          rotate_left
          · intro w'
            go_simp
            with_reducible rfl
          rotate_left
          · simp only [Act.put, List.setIfInBounds_toArray, List.set_cons_zero, List.set_cons_succ, i64_w, i32_w]
            rfl
          refine pure_ (i := 24) (N := some 37) (v := ?_) (a' := ?_) #[true, true, true, true, true, true, true, true, true, true, true, true, true, true, true, true, true, true, true, true, true, true, true, true, true] rfl rfl (by kernel_rfl) (fun _ _ _ h => h) (Or.inl ⟨by rfl, ?_⟩) ?_ ?_
          rotate_left
          · intro w'
            go_simp
            with_reducible rfl
          rotate_left
          · simp only [Act.put, List.setIfInBounds_toArray, List.set_cons_zero, List.set_cons_succ, i64_w, i32_w]
            rfl
          refine done_ (by kernel_rfl) ?_
          by_cases c774 : t771 = true
          · have H := if_yes c774 H
            have c774b0 : t771 = true := c774
            have c774b1 : (!t771) = false := by rw [c774b0]; rfl
            try rw [c774b1]
            clear c774
            replace HS : Aside0 (Sep (fps []) w [] w773) := ⟨HS.out.sub (.cons _ .slnil)⟩
            go_wp2_with fail
            obtain ⟨t896, HA897, H⟩ := bind_some H
            refine (ring_Add_nil.calls _ (wrap64 (a737 - 1)) t896 _ ⟨HGl0.out.pass (l := []) HS.out⟩ ⟨Sep.start _⟩ HA897).mono ?_
            rintro e_ w898 ⟨rfl, hS⟩
            replace HS : Aside0 (Sep (fps []) w [] w898) := ⟨HS.out.call hS⟩
            clear hS
            go_wp2_with fail
            go_ret
            rw [← some_eq H]
            exact ⟨(by first | rfl | (simp [IntKind.wrap_u32]; done)), HS.out⟩
          · have H := if_no c774 H
            have c774b0 : t771 = false := by simpa using c774
            have c774b1 : (!t771) = true := by rw [c774b0]; rfl
            try rw [c774b1]
            clear c774
            replace HS : Aside0 (Sep (fps []) w [] w773) := ⟨HS.out.sub (.cons _ .slnil)⟩
            go_wp2_with fail
            go_ret
            rw [← some_eq H]
            exact ⟨(by first | rfl | (simp [IntKind.wrap_u32]; done)), HS.out⟩
  · have H := if_no c761 H
    have c761b0 : t738.2.2.2.2.2.2.2 = false := by simpa using c761
    have c761b1 : (!t738.2.2.2.2.2.2.2) = true := by rw [c761b0]; rfl
    try rw [c761b1]
    clear c761
    try simp only [c761b0, Bool.not_true, Bool.not_false]
    refine pure_ (i := 3) (N := some 16) (v := undef) (a' := ?_) #[true, true, true, true, false, false, false, false, false, false, false, false, false, false, false, false, false, false, false, false, false, false, false, false, false] rfl rfl (by kernel_rfl) (fun _ _ _ h => h) (Or.inr ⟨by rfl, rfl⟩) ?_ ?_
    rotate_left
    · simp only [Act.put, List.setIfInBounds_toArray, List.set_cons_zero, List.set_cons_succ, i64_w, i32_w]
      rfl
    try simp only [c761b0, Bool.not_true, Bool.not_false]
    refine pure_ (i := 4) (N := some 17) (v := undef) (a' := ?_) #[true, true, true, true, true, false, false, false, false, false, false, false, false, false, false, false, false, false, false, false, false, false, false, false, false] rfl rfl (by kernel_rfl) (fun _ _ _ h => h) (Or.inr ⟨by rfl, rfl⟩) ?_ ?_
    rotate_left
    · simp only [Act.put, List.setIfInBounds_toArray, List.set_cons_zero, List.set_cons_succ, i64_w, i32_w]
      rfl
    try simp only [c761b0, Bool.not_true, Bool.not_false]
    refine pure_ (i := 5) (N := some 18) (v := undef) (a' := ?_) #[true, true, true, true, true, true, false, false, false, false, false, false, false, false, false, false, false, false, false, false, false, false, false, false, false] rfl rfl (by kernel_rfl) (fun _ _ _ h => h) (Or.inr ⟨by rfl, rfl⟩) ?_ ?_
    rotate_left
    · simp only [Act.put, List.setIfInBounds_toArray, List.set_cons_zero, List.set_cons_succ, i64_w, i32_w]
      rfl
    refine pure_ (i := 6) (N := some 19) (v := ?_) (a' := ?_) #[true, true, true, true, true, true, true, false, false, false, false, false, false, false, false, false, false, false, false, false, false, false, false, false, false] rfl rfl (by kernel_rfl) (fun _ _ _ h => h) (Or.inl ⟨by rfl, ?_⟩) ?_ ?_
    rotate_left
    · intro w'
      go_simp
      with_reducible rfl
    rotate_left
    · simp only [Act.put, List.setIfInBounds_toArray, List.set_cons_zero, List.set_cons_succ, i64_w, i32_w]
      rfl
    refine pure_ (i := 7) (N := some 20) (v := ?_) (a' := ?_) #[true, true, true, true, true, true, true, true, false, false, false, false, false, false, false, false, false, false, false, false, false, false, false, false, false] rfl rfl (by kernel_rfl) (fun _ _ _ h => h) (Or.inl ⟨by rfl, ?_⟩) ?_ ?_
    rotate_left
    · intro w'
      go_simp
      with_reducible rfl
    rotate_left
    · simp only [Act.put, List.setIfInBounds_toArray, List.set_cons_zero, List.set_cons_succ, i64_w, i32_w]
      rfl
    refine pure_ (i := 8) (N := some 21) (v := undef) (a' := ?_) #[true, true, true, true, true, true, true, true, true, false, false, false, false, false, false, false, false, false, false, false, false, false, false, false, false] rfl rfl (by kernel_rfl) (fun _ _ _ h => h) (Or.inr ⟨by rfl, rfl⟩) ?_ ?_
    rotate_left
    · simp only [Act.put, List.setIfInBounds_toArray, List.set_cons_zero, List.set_cons_succ, i64_w, i32_w]
      rfl
    refine pure_ (i := 9) (N := some 22) (v := undef) (a' := ?_) #[true, true, true, true, true, true, true, true, true, true, false, false, false, false, false, false, false, false, false, false, false, false, false, false, false] rfl rfl (by kernel_rfl) (fun _ _ _ h => h) (Or.inr ⟨by rfl, rfl⟩) ?_ ?_
    rotate_left
    · simp only [Act.put, List.setIfInBounds_toArray, List.set_cons_zero, List.set_cons_succ, i64_w, i32_w]
      rfl
    refine pure_ (i := 10) (N := some 23) (v := undef) (a' := ?_) #[true, true, true, true, true, true, true, true, true, true, true, false, false, false, false, false, false, false, false, false, false, false, false, false, false] rfl rfl (by kernel_rfl) (fun _ _ _ h => h) (Or.inr ⟨by rfl, rfl⟩) ?_ ?_
    rotate_left
    · simp only [Act.put, List.setIfInBounds_toArray, List.set_cons_zero, List.set_cons_succ, i64_w, i32_w]
      rfl
    refine pure_ (i := 11) (N := some 24) (v := ?_) (a' := ?_) #[true, true, true, true, true, true, true, true, true, true, true, true, false, false, false, false, false, false, false, false, false, false, false, false, false] rfl rfl (by kernel_rfl) (fun _ _ _ h => h) (Or.inl ⟨by rfl, ?_⟩) ?_ ?_
    rotate_left
    · intro w'
      go_simp
      with_reducible rfl
    rotate_left
    · simp only [Act.put, List.setIfInBounds_toArray, List.set_cons_zero, List.set_cons_succ, i64_w, i32_w]
      rfl
    refine pure_ (i := 12) (N := some 25) (v := ?_) (a' := ?_) #[true, true, true, true, true, true, true, true, true, true, true, true, true, false, false, false, false, false, false, false, false, false, false, false, false] rfl rfl (by kernel_rfl) (fun _ _ _ h => h) (Or.inl ⟨by rfl, ?_⟩) ?_ ?_
    rotate_left
    · intro w'
      go_simp
      with_reducible rfl
    rotate_left
    · simp only [Act.put, List.setIfInBounds_toArray, List.set_cons_zero, List.set_cons_succ, i64_w, i32_w]
      rfl
    refine pure_ (i := 13) (N := some 26) (v := undef) (a' := ?_) #[true, true, true, true, true, true, true, true, true, true, true, true, true, true, false, false, false, false, false, false, false, false, false, false, false] rfl rfl (by kernel_rfl) (fun _ _ _ h => h) (Or.inr ⟨by rfl, rfl⟩) ?_ ?_
    rotate_left
    · simp only [Act.put, List.setIfInBounds_toArray, List.set_cons_zero, List.set_cons_succ, i64_w, i32_w]
      rfl
    refine pure_ (i := 14) (N := some 27) (v := undef) (a' := ?_) #[true, true, true, true, true, true, true, true, true, true, true, true, true, true, true, false, false, false, false, false, false, false, false, false, false] rfl rfl (by kernel_rfl) (fun _ _ _ h => h) (Or.inr ⟨by rfl, rfl⟩) ?_ ?_
    rotate_left
    · simp only [Act.put, List.setIfInBounds_toArray, List.set_cons_zero, List.set_cons_succ, i64_w, i32_w]
      rfl
    refine pure_ (i := 15) (N := some 28) (v := undef) (a' := ?_) #[true, true, true, true, true, true, true, true, true, true, true, true, true, true, true, true, false, false, false, false, false, false, false, false, false] rfl rfl (by kernel_rfl) (fun _ _ _ h => h) (Or.inr ⟨by rfl, rfl⟩) ?_ ?_
    rotate_left
    · simp only [Act.put, List.setIfInBounds_toArray, List.set_cons_zero, List.set_cons_succ, i64_w, i32_w]
      rfl
    refine pure_ (i := 16) (N := some 29) (v := undef) (a' := ?_) #[true, true, true, true, true, true, true, true, true, true, true, true, true, true, true, true, true, false, false, false, false, false, false, false, false] rfl rfl (by kernel_rfl) (fun _ _ _ h => h) (Or.inr ⟨by rfl, rfl⟩) ?_ ?_
    rotate_left
    · simp only [Act.put, List.setIfInBounds_toArray, List.set_cons_zero, List.set_cons_succ, i64_w, i32_w]
      rfl
    refine pure_ (i := 17) (N := some 30) (v := undef) (a' := ?_) #[true, true, true, true, true, true, true, true, true, true, true, true, true, true, true, true, true, true, false, false, false, false, false, false, false] rfl rfl (by kernel_rfl) (fun _ _ _ h => h) (Or.inr ⟨by rfl, rfl⟩) ?_ ?_
    rotate_left
    · simp only [Act.put, List.setIfInBounds_toArray, List.set_cons_zero, List.set_cons_succ, i64_w, i32_w]
      rfl
    refine pure_ (i := 18) (N := some 31) (v := ?_) (a' := ?_) #[true, true, true, true, true, true, true, true, true, true, true, true, true, true, true, true, true, true, true, false, false, false, false, false, false] rfl rfl (by kernel_rfl) (fun _ _ _ h => h) (Or.inl ⟨by rfl, ?_⟩) ?_ ?_
    rotate_left
    · intro w'
      go_simp
      with_reducible rfl
    rotate_left
    · simp only [Act.put, List.setIfInBounds_toArray, List.set_cons_zero, List.set_cons_succ, i64_w, i32_w]
      rfl
    refine pure_ (i := 19) (N := some 32) (v := ?_) (a' := ?_) #[true, true, true, true, true, true, true, true, true, true, true, true, true, true, true, true, true, true, true, true, false, false, false, false, false] rfl rfl (by kernel_rfl) (fun _ _ _ h => h) (Or.inl ⟨by rfl, ?_⟩) ?_ ?_
    rotate_left
    · intro w'
      go_simp
      with_reducible rfl
    rotate_left
    · simp only [Act.put, List.setIfInBounds_toArray, List.set_cons_zero, List.set_cons_succ, i64_w, i32_w]
      rfl
    refine pure_ (i := 20) (N := some 33) (v := undef) (a' := ?_) #[true, true, true, true, true, true, true, true, true, true, true, true, true, true, true, true, true, true, true, true, true, false, false, false, false] rfl rfl (by kernel_rfl) (fun _ _ _ h => h) (Or.inr ⟨by rfl, rfl⟩) ?_ ?_
    rotate_left
    · simp only [Act.put, List.setIfInBounds_toArray, List.set_cons_zero, List.set_cons_succ, i64_w, i32_w]
      rfl
    refine pure_ (i := 21) (N := some 34) (v := undef) (a' := ?_) #[true, true, true, true, true, true, true, true, true, true, true, true, true, true, true, true, true, true, true, true, true, true, false, false, false] rfl rfl (by kernel_rfl) (fun _ _ _ h => h) (Or.inr ⟨by rfl, rfl⟩) ?_ ?_
    rotate_left
    · simp only [Act.put, List.setIfInBounds_toArray, List.set_cons_zero, List.set_cons_succ, i64_w, i32_w]
      rfl
    refine pure_ (i := 22) (N := some 35) (v := undef) (a' := ?_) #[true, true, true, true, true, true, true, true, true, true, true, true, true, true, true, true, true, true, true, true, true, true, true, false, false] rfl rfl (by kernel_rfl) (fun _ _ _ h => h) (Or.inr ⟨by rfl, rfl⟩) ?_ ?_
    rotate_left
    · simp only [Act.put, List.setIfInBounds_toArray, List.set_cons_zero, List.set_cons_succ, i64_w, i32_w]
      rfl
    refine pure_ (i := 23) (N := some 36) (v := undef) (a' := ?_) #[true, true, true, true, true, true, true, true, true, true, true, true, true, true, true, true, true, true, true, true, true, true, true, true, false] rfl rfl (by kernel_rfl) (fun _ _ _ h => h) (Or.inr ⟨by rfl, rfl⟩) ?_ ?_
    rotate_left
    · simp only [Act.put, List.setIfInBounds_toArray, List.set_cons_zero, List.set_cons_succ, i64_w, i32_w]
      rfl
    refine pure_ (i := 24) (N := some 37) (v := ?_) (a' := ?_) #[true, true, true, true, true, true, true, true, true, true, true, true, true, true, true, true, true, true, true, true, true, true, true, true, true] rfl rfl (by kernel_rfl) (fun _ _ _ h => h) (Or.inl ⟨by rfl, ?_⟩) ?_ ?_
    rotate_left
    · intro w'
      go_simp
      with_reducible rfl
    rotate_left
    · simp only [Act.put, List.setIfInBounds_toArray, List.set_cons_zero, List.set_cons_succ, i64_w, i32_w]
      rfl
    refine done_ (by kernel_rfl) ?_
    replace HS : Aside0 (Sep (fps []) w [] w760) := ⟨HS.out.sub (.cons _ .slnil)⟩
    go_wp2_with fail
    go_ret
    rw [← some_eq H]
    exact ⟨(by first | rfl | (simp [IntKind.wrap_u32]; done)), HS.out⟩

set_option maxHeartbeats 30000000 in
set_option maxRecDepth 100000 in
theorem tint_Dead_nil.calls (a903 : Int) (r : Bool) (w : World)  (HGl0 : Aside0 (Gl 0 #[.int .i64 0, .int .i64 0, .int .i64 0, .int .i64 0, .int .i64 0] (fps []) w)) (HS : Aside0 (Sep (fps []) w [] w)) (H : Aside0 (tint_Dead_nil.f a903 = some r)) :
    Calls Tryz.prog 25 #[.pointer none, .int .i64 a903] w fun e w' => e = .returned (.bool r) ∧ Sep (fps []) w [] w' := by
  unfold tint_Dead_nil.f at H
  go_enter Tryz.func25, Tryz.ntmps25
  go_wp2_with fail
  obtain ⟨t904, HA905, H⟩ := bind_some H
  refine (tint_of_nil.calls a903 t904 _ ⟨HGl0.out.pass (l := []) HS.out⟩ ⟨Sep.start _⟩ HA905).mono ?_
  rintro e_ w906 ⟨rfl, hS⟩
  replace HS : Aside0 (Sep (fps []) w [] w906) := ⟨HS.out.call hS⟩
  clear hS
  by_cases c925 : t904.2.2.2.2.2.2.2 = true
  · have H := if_yes c925 H
    have c925b0 : t904.2.2.2.2.2.2.2 = true := c925
    have c925b1 : (!t904.2.2.2.2.2.2.2) = false := by rw [c925b0]; rfl
    clear c925
    go_wp2_with (first | ((with_reducible refine gate_dst (N := 5) rfl ?_); refine box_on ?hg (N := 5) ?hd (cs := #[.int .i64 0, .int .i64 0, .int .i64 0, .int .i64 0, .int .i64 0, .int .i64 0, .int .i64 0]) (t := 79) ?hr ?_; (case hd => rfl); (case hg => rfl); (case hr => first | (go_simp; done) | (go_simp; rfl)); intro g907 hg w908 hbox hb; replace HS : Aside0 (Sep (fps []) w [b3 g907 0 0 0 0 0 0 0] w908) := ⟨HS.out.box hg hbox hb⟩; clear hg hbox hb; have hc910 : w908.cell? ⟨g907, 0, none⟩ = some (.int .i64 0) := blk_cellv (HS.out.at0) 0 rfl; have hz911 : w908.frozen? ⟨g907, 0, none⟩ = false := blk_fz (HS.out.at0) 0; have hc912 : w908.cell? ⟨g907, 1, none⟩ = some (.int .i64 0) := blk_cellv (HS.out.at0) 1 rfl; have hz913 : w908.frozen? ⟨g907, 1, none⟩ = false := blk_fz (HS.out.at0) 1; have hc914 : w908.cell? ⟨g907, 2, none⟩ = some (.int .i64 0) := blk_cellv (HS.out.at0) 2 rfl; have hz915 : w908.frozen? ⟨g907, 2, none⟩ = false := blk_fz (HS.out.at0) 2; have hc916 : w908.cell? ⟨g907, 3, none⟩ = some (.int .i64 0) := blk_cellv (HS.out.at0) 3 rfl; have hz917 : w908.frozen? ⟨g907, 3, none⟩ = false := blk_fz (HS.out.at0) 3; have hc918 : w908.cell? ⟨g907, 4, none⟩ = some (.int .i64 0) := blk_cellv (HS.out.at0) 4 rfl; have hz919 : w908.frozen? ⟨g907, 4, none⟩ = false := blk_fz (HS.out.at0) 4; have hc920 : w908.cell? ⟨g907, 5, none⟩ = some (.int .i64 0) := blk_cellv (HS.out.at0) 5 rfl; have hz921 : w908.frozen? ⟨g907, 5, none⟩ = false := blk_fz (HS.out.at0) 5; have hc922 : w908.cell? ⟨g907, 6, none⟩ = some (.int .i64 0) := blk_cellv (HS.out.at0) 6 rfl; have hz923 : w908.frozen? ⟨g907, 6, none⟩ = false := blk_fz (HS.out.at0) 6) | ((with_reducible refine gate_store (t := 79) (p := 5) rfl ?_); refine store_event (w1 := (World.setCell (World.setCell (World.setCell (World.setCell (World.setCell (World.setCell (World.setCell w908 ⟨g907, 0, none⟩ (.int .i64 t904.1)) ⟨g907, 1, none⟩ (.int .i64 t904.2.1)) ⟨g907, 2, none⟩ (.int .i64 t904.2.2.1)) ⟨g907, 3, none⟩ (.int .i64 t904.2.2.2.1)) ⟨g907, 4, none⟩ (.int .i64 t904.2.2.2.2.1)) ⟨g907, 5, none⟩ (.int .i64 t904.2.2.2.2.2.1)) ⟨g907, 6, none⟩ (.int .i64 t904.2.2.2.2.2.2.1))) rfl (t := 79) (p := 5) rfl rfl ?hr ?_; (case hr => first | (go_simp; done) | (go_simp; rfl)); intro w924 hst; clear hc910 hz911 hc912 hz913 hc914 hz915 hc916 hz917 hc918 hz919 hc920 hz921 hc922 hz923; replace HS : Aside0 (Sep (fps []) w [b3 g907 t904.1 t904.2.1 t904.2.2.1 t904.2.2.2.1 t904.2.2.2.2.1 t904.2.2.2.2.2.1 t904.2.2.2.2.2.2.1] w924) := ⟨by rw [hst]; exact HS.out.setAll (l1 := []) (l2 := []) [.int .i64 t904.1, .int .i64 t904.2.1, .int .i64 t904.2.2.1, .int .i64 t904.2.2.2.1, .int .i64 t904.2.2.2.2.1, .int .i64 t904.2.2.2.2.2.1, .int .i64 t904.2.2.2.2.2.2.1] rfl⟩; clear hst; have hc926 : w924.cell? ⟨g907, 4, none⟩ = some (.int .i64 t904.2.2.2.2.1) := blk_cellv (HS.out.at0) 4 rfl; replace HS : Aside0 (Sep (fps []) w [] w924) := ⟨HS.out.sub (.cons _ .slnil)⟩))
    clear hc926
    go_ret
    rw [← some_eq H]
    exact ⟨(by first | rfl | (simp [IntKind.wrap_u32]; done)), HS.out⟩
  · have H := if_no c925 H
    have c925b0 : t904.2.2.2.2.2.2.2 = false := by simpa using c925
    have c925b1 : (!t904.2.2.2.2.2.2.2) = true := by rw [c925b0]; rfl
    clear c925
    go_wp2_with (first | ((with_reducible refine gate_dst (N := 5) rfl ?_); refine box_on ?hg (N := 5) ?hd (cs := #[.int .i64 0, .int .i64 0, .int .i64 0, .int .i64 0, .int .i64 0, .int .i64 0, .int .i64 0]) (t := 79) ?hr ?_; (case hd => rfl); (case hg => rfl); (case hr => first | (go_simp; done) | (go_simp; rfl)); intro g907 hg w908 hbox hb; replace HS : Aside0 (Sep (fps []) w [b3 g907 0 0 0 0 0 0 0] w908) := ⟨HS.out.box hg hbox hb⟩; clear hg hbox hb; have hc910 : w908.cell? ⟨g907, 0, none⟩ = some (.int .i64 0) := blk_cellv (HS.out.at0) 0 rfl; have hz911 : w908.frozen? ⟨g907, 0, none⟩ = false := blk_fz (HS.out.at0) 0; have hc912 : w908.cell? ⟨g907, 1, none⟩ = some (.int .i64 0) := blk_cellv (HS.out.at0) 1 rfl; have hz913 : w908.frozen? ⟨g907, 1, none⟩ = false := blk_fz (HS.out.at0) 1; have hc914 : w908.cell? ⟨g907, 2, none⟩ = some (.int .i64 0) := blk_cellv (HS.out.at0) 2 rfl; have hz915 : w908.frozen? ⟨g907, 2, none⟩ = false := blk_fz (HS.out.at0) 2; have hc916 : w908.cell? ⟨g907, 3, none⟩ = some (.int .i64 0) := blk_cellv (HS.out.at0) 3 rfl; have hz917 : w908.frozen? ⟨g907, 3, none⟩ = false := blk_fz (HS.out.at0) 3; have hc918 : w908.cell? ⟨g907, 4, none⟩ = some (.int .i64 0) := blk_cellv (HS.out.at0) 4 rfl; have hz919 : w908.frozen? ⟨g907, 4, none⟩ = false := blk_fz (HS.out.at0) 4; have hc920 : w908.cell? ⟨g907, 5, none⟩ = some (.int .i64 0) := blk_cellv (HS.out.at0) 5 rfl; have hz921 : w908.frozen? ⟨g907, 5, none⟩ = false := blk_fz (HS.out.at0) 5; have hc922 : w908.cell? ⟨g907, 6, none⟩ = some (.int .i64 0) := blk_cellv (HS.out.at0) 6 rfl; have hz923 : w908.frozen? ⟨g907, 6, none⟩ = false := blk_fz (HS.out.at0) 6) | ((with_reducible refine gate_store (t := 79) (p := 5) rfl ?_); refine store_event (w1 := (World.setCell (World.setCell (World.setCell (World.setCell (World.setCell (World.setCell (World.setCell w908 ⟨g907, 0, none⟩ (.int .i64 t904.1)) ⟨g907, 1, none⟩ (.int .i64 t904.2.1)) ⟨g907, 2, none⟩ (.int .i64 t904.2.2.1)) ⟨g907, 3, none⟩ (.int .i64 t904.2.2.2.1)) ⟨g907, 4, none⟩ (.int .i64 t904.2.2.2.2.1)) ⟨g907, 5, none⟩ (.int .i64 t904.2.2.2.2.2.1)) ⟨g907, 6, none⟩ (.int .i64 t904.2.2.2.2.2.2.1))) rfl (t := 79) (p := 5) rfl rfl ?hr ?_; (case hr => first | (go_simp; done) | (go_simp; rfl)); intro w924 hst; clear hc910 hz911 hc912 hz913 hc914 hz915 hc916 hz917 hc918 hz919 hc920 hz921 hc922 hz923; replace HS : Aside0 (Sep (fps []) w [b3 g907 t904.1 t904.2.1 t904.2.2.1 t904.2.2.2.1 t904.2.2.2.2.1 t904.2.2.2.2.2.1 t904.2.2.2.2.2.2.1] w924) := ⟨by rw [hst]; exact HS.out.setAll (l1 := []) (l2 := []) [.int .i64 t904.1, .int .i64 t904.2.1, .int .i64 t904.2.2.1, .int .i64 t904.2.2.2.1, .int .i64 t904.2.2.2.2.1, .int .i64 t904.2.2.2.2.2.1, .int .i64 t904.2.2.2.2.2.2.1] rfl⟩; clear hst; replace HS : Aside0 (Sep (fps []) w [] w924) := ⟨HS.out.sub (.cons _ .slnil)⟩))
    go_ret
    rw [← some_eq H]
    exact ⟨(by first | rfl | (simp [IntKind.wrap_u32]; done)), HS.out⟩

set_option maxHeartbeats 30000000 in
set_option maxRecDepth 100000 in
theorem tint_Kill_1.calls (a964 : Int) (a965 : Int) (a966 : Int) (a967 : Int) (a968 : Int) (a969 : Int) (a970 : Int) (a971 : Int) (g963 : Nat) (r : Int) (w : World)  (HGl0 : Aside0 (Gl 0 #[.int .i64 0, .int .i64 0, .int .i64 0, .int .i64 0, .int .i64 0] (fps [b3 g963 a964 a965 a966 a967 a968 a969 a970]) w)) (HS : Aside0 (Sep (fps [b3 g963 a964 a965 a966 a967 a968 a969 a970]) w [b3 g963 a964 a965 a966 a967 a968 a969 a970] w)) (H : Aside0 (tint_Kill_1.f a964 a965 a966 a967 a968 a969 a970 a971 = some r)) :
    Calls Tryz.prog 60 #[.pointer (some ⟨g963, 0, none⟩), .int .i64 a971] w fun e w' => e = .returned (.tuple #[]) ∧ Sep (fps [b3 g963 a964 a965 a966 a967 a968 a969 a970]) w [b3 g963 a964 a965 a966 a967 r a969 a970] w' := by
  generalize (fps [b3 g963 a964 a965 a966 a967 a968 a969 a970]) = FF at HS HGl0 ⊢
  unfold tint_Kill_1.f at H
  go_enter Tryz.func60, Tryz.ntmps60
  have hc975 : w.cell? ⟨g963, 4, none⟩ = some (.int .i64 a968) := blk_cellv (HS.out.at0) 4 rfl
  have hz976 : w.frozen? ⟨g963, 4, none⟩ = false := blk_fz (HS.out.at0) 4
  go_wp2_with (first | ((with_reducible refine gate_store (t := 3) (p := 6) rfl ?_); refine store_event (w1 := (World.setCell w ⟨g963, 4, none⟩ (.int .i64 1))) rfl (t := 3) (p := 6) rfl rfl ?hr ?_; (case hr => first | (go_simp; done) | (go_simp; rfl)); intro w977 hst; clear hc975 hz976; have hq0 : Sep FF w [b3 g963 a964 a965 a966 a967 1 a969 a970] (World.setCell w ⟨g963, 4, none⟩ (.int .i64 1)) := (HS.out).set1 (l1 := []) (l2 := []) 4 (.int .i64 1); replace HS : Aside0 (Sep FF w [b3 g963 a964 a965 a966 a967 1 a969 a970] w977) := ⟨by rw [hst]; exact hq0⟩; clear hq0; clear hst))
  first | go_end0 | refine bodyPost_ret (results_none rfl _ _ _) rfl ?_
  rw [← some_eq H]
  exact ⟨rfl, HS.out⟩

set_option maxHeartbeats 30000000 in
set_option maxRecDepth 100000 in
theorem tint_change_nil_F60.calls (k : Nat) (a936 : Int) (r : Bool) (w : World)  (HGl0 : Aside0 (Gl 0 #[.int .i64 0, .int .i64 0, .int .i64 0, .int .i64 0, .int .i64 0] (fps []) w)) (HS : Aside0 (Sep (fps []) w [] w)) (H : Aside0 (tint_change_nil_F60.f k a936 = some r)) :
    Calls Tryz.prog 51 #[.pointer none, .int .i64 a936, .func (.func 60) #[] #[]] w fun e w' => e = .returned (.bool r) ∧ Sep (fps []) w [] w' := by
  unfold tint_change_nil_F60.f at H
  go_enter Tryz.func51, Tryz.ntmps51
  go_wp2_with fail
  obtain ⟨t937, HA938, H⟩ := bind_some H
  refine (tint_of_nil.calls a936 t937 _ ⟨HGl0.out.pass (l := []) HS.out⟩ ⟨Sep.start _⟩ HA938).mono ?_
  rintro e_ w939 ⟨rfl, hS⟩
  replace HS : Aside0 (Sep (fps []) w [] w939) := ⟨HS.out.call hS⟩
  clear hS
  by_cases c958 : t937.2.2.2.2.2.2.2 = true
  · have H := if_yes c958 H
    have c958b0 : t937.2.2.2.2.2.2.2 = true := c958
    have c958b1 : (!t937.2.2.2.2.2.2.2) = false := by rw [c958b0]; rfl
    try rw [c958b1]
    clear c958
    go_wp2_with (first | ((with_reducible refine gate_dst (N := 7) rfl ?_); refine box_on ?hg (N := 7) ?hd (cs := #[.int .i64 0, .int .i64 0, .int .i64 0, .int .i64 0, .int .i64 0, .int .i64 0, .int .i64 0]) (t := 79) ?hr ?_; (case hd => rfl); (case hg => rfl); (case hr => first | (go_simp; done) | (go_simp; rfl)); intro g940 hg w941 hbox hb; replace HS : Aside0 (Sep (fps []) w [b3 g940 0 0 0 0 0 0 0] w941) := ⟨HS.out.box hg hbox hb⟩; clear hg hbox hb; have hc943 : w941.cell? ⟨g940, 0, none⟩ = some (.int .i64 0) := blk_cellv (HS.out.at0) 0 rfl; have hz944 : w941.frozen? ⟨g940, 0, none⟩ = false := blk_fz (HS.out.at0) 0; have hc945 : w941.cell? ⟨g940, 1, none⟩ = some (.int .i64 0) := blk_cellv (HS.out.at0) 1 rfl; have hz946 : w941.frozen? ⟨g940, 1, none⟩ = false := blk_fz (HS.out.at0) 1; have hc947 : w941.cell? ⟨g940, 2, none⟩ = some (.int .i64 0) := blk_cellv (HS.out.at0) 2 rfl; have hz948 : w941.frozen? ⟨g940, 2, none⟩ = false := blk_fz (HS.out.at0) 2; have hc949 : w941.cell? ⟨g940, 3, none⟩ = some (.int .i64 0) := blk_cellv (HS.out.at0) 3 rfl; have hz950 : w941.frozen? ⟨g940, 3, none⟩ = false := blk_fz (HS.out.at0) 3; have hc951 : w941.cell? ⟨g940, 4, none⟩ = some (.int .i64 0) := blk_cellv (HS.out.at0) 4 rfl; have hz952 : w941.frozen? ⟨g940, 4, none⟩ = false := blk_fz (HS.out.at0) 4; have hc953 : w941.cell? ⟨g940, 5, none⟩ = some (.int .i64 0) := blk_cellv (HS.out.at0) 5 rfl; have hz954 : w941.frozen? ⟨g940, 5, none⟩ = false := blk_fz (HS.out.at0) 5; have hc955 : w941.cell? ⟨g940, 6, none⟩ = some (.int .i64 0) := blk_cellv (HS.out.at0) 6 rfl; have hz956 : w941.frozen? ⟨g940, 6, none⟩ = false := blk_fz (HS.out.at0) 6) | ((with_reducible refine gate_store (t := 79) (p := 7) rfl ?_); refine store_event (w1 := (World.setCell (World.setCell (World.setCell (World.setCell (World.setCell (World.setCell (World.setCell w941 ⟨g940, 0, none⟩ (.int .i64 t937.1)) ⟨g940, 1, none⟩ (.int .i64 t937.2.1)) ⟨g940, 2, none⟩ (.int .i64 t937.2.2.1)) ⟨g940, 3, none⟩ (.int .i64 t937.2.2.2.1)) ⟨g940, 4, none⟩ (.int .i64 t937.2.2.2.2.1)) ⟨g940, 5, none⟩ (.int .i64 t937.2.2.2.2.2.1)) ⟨g940, 6, none⟩ (.int .i64 t937.2.2.2.2.2.2.1))) rfl (t := 79) (p := 7) rfl rfl ?hr ?_; (case hr => first | (go_simp; done) | (go_simp; rfl)); intro w957 hst; clear hc943 hz944 hc945 hz946 hc947 hz948 hc949 hz950 hc951 hz952 hc953 hz954 hc955 hz956; replace HS : Aside0 (Sep (fps []) w [b3 g940 t937.1 t937.2.1 t937.2.2.1 t937.2.2.2.1 t937.2.2.2.2.1 t937.2.2.2.2.2.1 t937.2.2.2.2.2.2.1] w957) := ⟨by rw [hst]; exact HS.out.setAll (l1 := []) (l2 := []) [.int .i64 t937.1, .int .i64 t937.2.1, .int .i64 t937.2.2.1, .int .i64 t937.2.2.2.1, .int .i64 t937.2.2.2.2.1, .int .i64 t937.2.2.2.2.2.1, .int .i64 t937.2.2.2.2.2.2.1] rfl⟩; clear hst))
    obtain ⟨t959, HA960, H⟩ := bind_some H
    refine (tint_Parity_nil.calls t959 _ ⟨HGl0.out.pass (l := []) HS.out⟩ ⟨Sep.start _⟩ HA960).mono ?_
    rintro e_ w961 ⟨rfl, hS⟩
    replace HS : Aside0 (Sep (fps []) w [b3 g940 t937.1 t937.2.1 t937.2.2.1 t937.2.2.2.1 t937.2.2.2.2.1 t937.2.2.2.2.2.1 t937.2.2.2.2.2.2.1] w961) := ⟨HS.out.call hS⟩
    clear hS
    go_wp2_with fail
    obtain ⟨t978, HA979, H⟩ := bind_some H
    refine (tint_Kill_1.calls t937.1 t937.2.1 t937.2.2.1 t937.2.2.2.1 t937.2.2.2.2.1 t937.2.2.2.2.2.1 t937.2.2.2.2.2.2.1 t959 g940 t978 _ ⟨HGl0.out.pass HS.out⟩ ⟨HS.out.begin⟩ HA979).mono ?_
    rintro e_ w980 ⟨rfl, hS⟩
    replace HS : Aside0 (Sep (fps []) w [b3 g940 t937.1 t937.2.1 t937.2.2.1 t937.2.2.2.1 t978 t937.2.2.2.2.2.1 t937.2.2.2.2.2.2.1] w980) := ⟨HS.out.call hS⟩
    clear hS
    have hc981 : w980.cell? ⟨g940, 0, none⟩ = some (.int .i64 t937.1) := blk_cellv (HS.out.at0) 0 rfl
    have hc982 : w980.cell? ⟨g940, 1, none⟩ = some (.int .i64 t937.2.1) := blk_cellv (HS.out.at0) 1 rfl
    have hc983 : w980.cell? ⟨g940, 2, none⟩ = some (.int .i64 t937.2.2.1) := blk_cellv (HS.out.at0) 2 rfl
    have hc984 : w980.cell? ⟨g940, 3, none⟩ = some (.int .i64 t937.2.2.2.1) := blk_cellv (HS.out.at0) 3 rfl
    have hc985 : w980.cell? ⟨g940, 4, none⟩ = some (.int .i64 t978) := blk_cellv (HS.out.at0) 4 rfl
    have hc986 : w980.cell? ⟨g940, 5, none⟩ = some (.int .i64 t937.2.2.2.2.2.1) := blk_cellv (HS.out.at0) 5 rfl
    have hc987 : w980.cell? ⟨g940, 6, none⟩ = some (.int .i64 t937.2.2.2.2.2.2.1) := blk_cellv (HS.out.at0) 6 rfl
    go_wp2_with fail
    clear hc981 hc982 hc983 hc984 hc985 hc986 hc987
    obtain ⟨t988, HA989, H⟩ := bind_some H
    refine (tag_Pack.calls _ t937.1 t937.2.1 t937.2.2.1 t937.2.2.2.1 t978 t937.2.2.2.2.2.1 t937.2.2.2.2.2.2.1 t988 _ ⟨HGl0.out.pass (l := []) HS.out⟩ ⟨Sep.start _⟩ HA989).mono ?_
    rintro e_ w990 ⟨rfl, hS⟩
    replace HS : Aside0 (Sep (fps []) w [b3 g940 t937.1 t937.2.1 t937.2.2.1 t937.2.2.2.1 t978 t937.2.2.2.2.2.1 t937.2.2.2.2.2.2.1] w990) := ⟨HS.out.call hS⟩
    clear hS
    by_cases c991 : t988.2 = 0
    · have H := if_yes c991 H
      have c991b0 : (t988.2 == 0) = true := beq_iff_eq.mpr c991
      have c991b1 : (t988.2 != 0) = false := bne_eq_false_iff_eq.mpr c991
      clear c991
      replace HS : Aside0 (Sep (fps []) w [] w990) := ⟨HS.out.sub (.cons _ .slnil)⟩
      go_wp2_with fail
      obtain ⟨t992, HA993, H⟩ := bind_some H
      refine (ground_Ground_SetWord_nil.calls (wrap64 (a936 - 1)) 0 t988.1 t992 _ ⟨HGl0.out.pass (l := []) HS.out⟩ ⟨Sep.start _⟩ HA993).mono ?_
      rintro e_ w994 ⟨rfl, hS⟩
      replace HS : Aside0 (Sep (fps []) w [] w994) := ⟨HS.out.call hS⟩
      clear hS
      go_wp2_with fail
      go_ret
      rw [← some_eq H]
      exact ⟨(by first | rfl | (simp [IntKind.wrap_u32]; done)), HS.out⟩
    · have H := if_no c991 H
      have c991b0 : (t988.2 == 0) = false := beq_eq_false_iff_ne.mpr c991
      have c991b1 : (t988.2 != 0) = true := bne_iff_ne.mpr c991
      clear c991
      replace HS : Aside0 (Sep (fps []) w [] w990) := ⟨HS.out.sub (.cons _ .slnil)⟩
      go_wp2_with fail
      go_ret
      rw [← some_eq H]
      exact ⟨(by first | rfl | (simp [IntKind.wrap_u32]; done)), HS.out⟩
  · have H := if_no c958 H
    have c958b0 : t937.2.2.2.2.2.2.2 = false := by simpa using c958
    have c958b1 : (!t937.2.2.2.2.2.2.2) = true := by rw [c958b0]; rfl
    try rw [c958b1]
    clear c958
    go_wp2_with (first | ((with_reducible refine gate_dst (N := 7) rfl ?_); refine box_on ?hg (N := 7) ?hd (cs := #[.int .i64 0, .int .i64 0, .int .i64 0, .int .i64 0, .int .i64 0, .int .i64 0, .int .i64 0]) (t := 79) ?hr ?_; (case hd => rfl); (case hg => rfl); (case hr => first | (go_simp; done) | (go_simp; rfl)); intro g940 hg w941 hbox hb; replace HS : Aside0 (Sep (fps []) w [b3 g940 0 0 0 0 0 0 0] w941) := ⟨HS.out.box hg hbox hb⟩; clear hg hbox hb; have hc943 : w941.cell? ⟨g940, 0, none⟩ = some (.int .i64 0) := blk_cellv (HS.out.at0) 0 rfl; have hz944 : w941.frozen? ⟨g940, 0, none⟩ = false := blk_fz (HS.out.at0) 0; have hc945 : w941.cell? ⟨g940, 1, none⟩ = some (.int .i64 0) := blk_cellv (HS.out.at0) 1 rfl; have hz946 : w941.frozen? ⟨g940, 1, none⟩ = false := blk_fz (HS.out.at0) 1; have hc947 : w941.cell? ⟨g940, 2, none⟩ = some (.int .i64 0) := blk_cellv (HS.out.at0) 2 rfl; have hz948 : w941.frozen? ⟨g940, 2, none⟩ = false := blk_fz (HS.out.at0) 2; have hc949 : w941.cell? ⟨g940, 3, none⟩ = some (.int .i64 0) := blk_cellv (HS.out.at0) 3 rfl; have hz950 : w941.frozen? ⟨g940, 3, none⟩ = false := blk_fz (HS.out.at0) 3; have hc951 : w941.cell? ⟨g940, 4, none⟩ = some (.int .i64 0) := blk_cellv (HS.out.at0) 4 rfl; have hz952 : w941.frozen? ⟨g940, 4, none⟩ = false := blk_fz (HS.out.at0) 4; have hc953 : w941.cell? ⟨g940, 5, none⟩ = some (.int .i64 0) := blk_cellv (HS.out.at0) 5 rfl; have hz954 : w941.frozen? ⟨g940, 5, none⟩ = false := blk_fz (HS.out.at0) 5; have hc955 : w941.cell? ⟨g940, 6, none⟩ = some (.int .i64 0) := blk_cellv (HS.out.at0) 6 rfl; have hz956 : w941.frozen? ⟨g940, 6, none⟩ = false := blk_fz (HS.out.at0) 6) | ((with_reducible refine gate_store (t := 79) (p := 7) rfl ?_); refine store_event (w1 := (World.setCell (World.setCell (World.setCell (World.setCell (World.setCell (World.setCell (World.setCell w941 ⟨g940, 0, none⟩ (.int .i64 t937.1)) ⟨g940, 1, none⟩ (.int .i64 t937.2.1)) ⟨g940, 2, none⟩ (.int .i64 t937.2.2.1)) ⟨g940, 3, none⟩ (.int .i64 t937.2.2.2.1)) ⟨g940, 4, none⟩ (.int .i64 t937.2.2.2.2.1)) ⟨g940, 5, none⟩ (.int .i64 t937.2.2.2.2.2.1)) ⟨g940, 6, none⟩ (.int .i64 t937.2.2.2.2.2.2.1))) rfl (t := 79) (p := 7) rfl rfl ?hr ?_; (case hr => first | (go_simp; done) | (go_simp; rfl)); intro w957 hst; clear hc943 hz944 hc945 hz946 hc947 hz948 hc949 hz950 hc951 hz952 hc953 hz954 hc955 hz956; replace HS : Aside0 (Sep (fps []) w [b3 g940 t937.1 t937.2.1 t937.2.2.1 t937.2.2.2.1 t937.2.2.2.2.1 t937.2.2.2.2.2.1 t937.2.2.2.2.2.2.1] w957) := ⟨by rw [hst]; exact HS.out.setAll (l1 := []) (l2 := []) [.int .i64 t937.1, .int .i64 t937.2.1, .int .i64 t937.2.2.1, .int .i64 t937.2.2.2.1, .int .i64 t937.2.2.2.2.1, .int .i64 t937.2.2.2.2.2.1, .int .i64 t937.2.2.2.2.2.2.1] rfl⟩; clear hst; replace HS : Aside0 (Sep (fps []) w [] w957) := ⟨HS.out.sub (.cons _ .slnil)⟩))
    go_ret
    rw [← some_eq H]
    exact ⟨(by first | rfl | (simp [IntKind.wrap_u32]; done)), HS.out⟩

set_option maxHeartbeats 30000000 in
set_option maxRecDepth 100000 in
theorem tint_Kill_nil.calls (k : Nat) (a931 : Int) (r : Bool) (w : World)  (HGl0 : Aside0 (Gl 0 #[.int .i64 0, .int .i64 0, .int .i64 0, .int .i64 0, .int .i64 0] (fps []) w)) (HS : Aside0 (Sep (fps []) w [] w)) (H : Aside0 (tint_Kill_nil.f k a931 = some r)) :
    Calls Tryz.prog 26 #[.pointer none, .int .i64 a931] w fun e w' => e = .returned (.bool r) ∧ Sep (fps []) w [] w' := by
  unfold tint_Kill_nil.f at H
  go_enter Tryz.func26, Tryz.ntmps26
  go_wp2_with fail
  obtain ⟨t932, HA933, H⟩ := bind_some H
  refine (tint_Dead_nil.calls a931 t932 _ ⟨HGl0.out.pass (l := []) HS.out⟩ ⟨Sep.start _⟩ HA933).mono ?_
  rintro e_ w934 ⟨rfl, hS⟩
  replace HS : Aside0 (Sep (fps []) w [] w934) := ⟨HS.out.call hS⟩
  clear hS
  by_cases c935 : t932 = true
  · have H := if_yes c935 H
    have c935b0 : t932 = true := c935
    have c935b1 : (!t932) = false := by rw [c935b0]; rfl
    try rw [c935b1]
    clear c935
    go_wp2_with fail
    go_ret
    rw [← some_eq H]
    exact ⟨(by first | rfl | (simp [IntKind.wrap_u32]; done)), HS.out⟩
  · have H := if_no c935 H
    have c935b0 : t932 = false := by simpa using c935
    have c935b1 : (!t932) = true := by rw [c935b0]; rfl
    try rw [c935b1]
    clear c935
    go_wp2_with fail
    obtain ⟨t995, HA996, H⟩ := bind_some H
    refine (tint_change_nil_F60.calls _ a931 t995 _ ⟨HGl0.out.pass (l := []) HS.out⟩ ⟨Sep.start _⟩ HA996).mono ?_
    rintro e_ w997 ⟨rfl, hS⟩
    replace HS : Aside0 (Sep (fps []) w [] w997) := ⟨HS.out.call hS⟩
    clear hS
    go_wp2_with fail
    go_ret
    rw [← some_eq H]
    exact ⟨(by first | rfl | (simp [IntKind.wrap_u32]; done)), HS.out⟩

set_option maxHeartbeats 30000000 in
set_option maxRecDepth 100000 in
theorem ground_Ground_Word_nil.calls (a1031 : Int) (a1032 : Int) (r : Int) (w : World)  (HGl0 : Aside0 (Gl 0 #[.int .i64 0, .int .i64 0, .int .i64 0, .int .i64 0, .int .i64 0] (fps []) w)) (HS : Aside0 (Sep (fps []) w [] w)) (H : Aside0 (ground_Ground_Word_nil.f a1031 a1032 = some r)) :
    Calls Tryz.prog 55 #[.pointer none, .int .i64 a1031, .int .i64 a1032] w fun e w' => e = .returned (.int .u32 r) ∧ Sep (fps []) w [] w' := by
  unfold ground_Ground_Word_nil.f at H
  go_enter Tryz.func55, Tryz.ntmps55
  go_wp2_with fail
  obtain ⟨t1033, HA1034, H⟩ := bind_some H
  refine (ground_Ground_all_nil.calls t1033 _ ⟨HGl0.out.pass (l := []) HS.out⟩ ⟨Sep.start _⟩ HA1034).mono ?_
  rintro e_ w1035 ⟨rfl, hS⟩
  replace HS : Aside0 (Sep (fps []) w [] w1035) := ⟨HS.out.call hS⟩
  clear hS
  go_wp2_with fail
  obtain ⟨t1036, HA1037, H⟩ := bind_some H
  refine (ground_Ground_word_nil.calls a1031 a1032 t1036 _ ⟨HGl0.out.pass (l := []) HS.out⟩ ⟨Sep.start _⟩ HA1037).mono ?_
  rintro e_ w1038 ⟨rfl, hS⟩
  replace HS : Aside0 (Sep (fps []) w [] w1038) := ⟨HS.out.call hS⟩
  clear hS
  go_wp2_with fail
  obtain ⟨t1039, HA1040, H⟩ := bind_some H
  refine (store_Store_Get_nil.calls t1036 t1039 _ ⟨HGl0.out.pass (l := []) HS.out⟩ ⟨Sep.start _⟩ HA1040).mono ?_
  rintro e_ w1041 ⟨rfl, hS⟩
  replace HS : Aside0 (Sep (fps []) w [] w1041) := ⟨HS.out.call hS⟩
  clear hS
  go_wp2_with fail
  go_ret
  rw [← some_eq H]
  exact ⟨(by first | rfl | (simp [IntKind.wrap_u32]; done)), HS.out⟩

set_option maxHeartbeats 30000000 in
set_option maxRecDepth 100000 in
theorem tint_Shadow_nil.calls (a1002 : Int) (r : Int) (w : World)  (HGl0 : Aside0 (Gl 0 #[.int .i64 0, .int .i64 0, .int .i64 0, .int .i64 0, .int .i64 0] (fps []) w)) (HS : Aside0 (Sep (fps []) w [] w)) (H : Aside0 (tint_Shadow_nil.f a1002 = some r)) :
    Calls Tryz.prog 17 #[.pointer none, .int .i64 a1002] w fun e w' => e = .returned (.int .i64 r) ∧ Sep (fps []) w [] w' := by
  unfold tint_Shadow_nil.f at H
  go_enter Tryz.func17, Tryz.ntmps17
  go_wp2_with fail
  obtain ⟨t1003, HA1004, H⟩ := bind_some H
  refine (tint_of_nil.calls a1002 t1003 _ ⟨HGl0.out.pass (l := []) HS.out⟩ ⟨Sep.start _⟩ HA1004).mono ?_
  rintro e_ w1005 ⟨rfl, hS⟩
  replace HS : Aside0 (Sep (fps []) w [] w1005) := ⟨HS.out.call hS⟩
  clear hS
  go_wp2_with (first | ((with_reducible refine gate_dst (N := 5) rfl ?_); refine box_on ?hg (N := 5) ?hd (cs := #[.int .i64 0, .int .i64 0, .int .i64 0, .int .i64 0, .int .i64 0, .int .i64 0, .int .i64 0]) (t := 79) ?hr ?_; (case hd => rfl); (case hg => rfl); (case hr => first | (go_simp; done) | (go_simp; rfl)); intro g1006 hg w1007 hbox hb; replace HS : Aside0 (Sep (fps []) w [b3 g1006 0 0 0 0 0 0 0] w1007) := ⟨HS.out.box hg hbox hb⟩; clear hg hbox hb; have hc1009 : w1007.cell? ⟨g1006, 0, none⟩ = some (.int .i64 0) := blk_cellv (HS.out.at0) 0 rfl; have hz1010 : w1007.frozen? ⟨g1006, 0, none⟩ = false := blk_fz (HS.out.at0) 0; have hc1011 : w1007.cell? ⟨g1006, 1, none⟩ = some (.int .i64 0) := blk_cellv (HS.out.at0) 1 rfl; have hz1012 : w1007.frozen? ⟨g1006, 1, none⟩ = false := blk_fz (HS.out.at0) 1; have hc1013 : w1007.cell? ⟨g1006, 2, none⟩ = some (.int .i64 0) := blk_cellv (HS.out.at0) 2 rfl; have hz1014 : w1007.frozen? ⟨g1006, 2, none⟩ = false := blk_fz (HS.out.at0) 2; have hc1015 : w1007.cell? ⟨g1006, 3, none⟩ = some (.int .i64 0) := blk_cellv (HS.out.at0) 3 rfl; have hz1016 : w1007.frozen? ⟨g1006, 3, none⟩ = false := blk_fz (HS.out.at0) 3; have hc1017 : w1007.cell? ⟨g1006, 4, none⟩ = some (.int .i64 0) := blk_cellv (HS.out.at0) 4 rfl; have hz1018 : w1007.frozen? ⟨g1006, 4, none⟩ = false := blk_fz (HS.out.at0) 4; have hc1019 : w1007.cell? ⟨g1006, 5, none⟩ = some (.int .i64 0) := blk_cellv (HS.out.at0) 5 rfl; have hz1020 : w1007.frozen? ⟨g1006, 5, none⟩ = false := blk_fz (HS.out.at0) 5; have hc1021 : w1007.cell? ⟨g1006, 6, none⟩ = some (.int .i64 0) := blk_cellv (HS.out.at0) 6 rfl; have hz1022 : w1007.frozen? ⟨g1006, 6, none⟩ = false := blk_fz (HS.out.at0) 6) | ((with_reducible refine gate_store (t := 79) (p := 5) rfl ?_); refine store_event (w1 := (World.setCell (World.setCell (World.setCell (World.setCell (World.setCell (World.setCell (World.setCell w1007 ⟨g1006, 0, none⟩ (.int .i64 t1003.1)) ⟨g1006, 1, none⟩ (.int .i64 t1003.2.1)) ⟨g1006, 2, none⟩ (.int .i64 t1003.2.2.1)) ⟨g1006, 3, none⟩ (.int .i64 t1003.2.2.2.1)) ⟨g1006, 4, none⟩ (.int .i64 t1003.2.2.2.2.1)) ⟨g1006, 5, none⟩ (.int .i64 t1003.2.2.2.2.2.1)) ⟨g1006, 6, none⟩ (.int .i64 t1003.2.2.2.2.2.2.1))) rfl (t := 79) (p := 5) rfl rfl ?hr ?_; (case hr => first | (go_simp; done) | (go_simp; rfl)); intro w1023 hst; clear hc1009 hz1010 hc1011 hz1012 hc1013 hz1014 hc1015 hz1016 hc1017 hz1018 hc1019 hz1020 hc1021 hz1022; replace HS : Aside0 (Sep (fps []) w [b3 g1006 t1003.1 t1003.2.1 t1003.2.2.1 t1003.2.2.2.1 t1003.2.2.2.2.1 t1003.2.2.2.2.2.1 t1003.2.2.2.2.2.2.1] w1023) := ⟨by rw [hst]; exact HS.out.setAll (l1 := []) (l2 := []) [.int .i64 t1003.1, .int .i64 t1003.2.1, .int .i64 t1003.2.2.1, .int .i64 t1003.2.2.2.1, .int .i64 t1003.2.2.2.2.1, .int .i64 t1003.2.2.2.2.2.1, .int .i64 t1003.2.2.2.2.2.2.1] rfl⟩; clear hst))
  refine start_ (n := 9) (S := (fun w' => w'.cell? ⟨g1006, 3, none⟩ = some (.int .i64 t1003.2.2.2.1))) (ds := []) #[false, false, false, false, false, false, false, false, false] (by kernel_rfl) rfl rfl (blk_cellv ((HS.out.drew).at0) 3 rfl) (fun hHeld => ?_)
  have HS_ := Aside0.mk HS.out.drew
  clear HS
  generalize World.drew _ = w1025 at HS_ hHeld ⊢
  have HS := HS_
  clear HS_
  refine pure_ (i := 0) (N := some 13) (v := ?_) (a' := ?_) #[true, false, false, false, false, false, false, false, false] rfl rfl (by kernel_rfl) (fun _ _ _ h => h) (Or.inl ⟨by rfl, ?_⟩) ?_ ?_
  rotate_left
  · intro w'
    go_simp
    with_reducible rfl
  rotate_left
  · simp only [Act.put, List.setIfInBounds_toArray, List.set_cons_zero, List.set_cons_succ, i64_w, i32_w]
    rfl
  refine pure_ (i := 1) (N := some 14) (v := ?_) (a' := ?_) #[true, true, false, false, false, false, false, false, false] rfl rfl (by kernel_rfl) (fun _ _ _ h => h) (Or.inl ⟨by rfl, ?_⟩) ?_ ?_
  rotate_left
  · intro w'
    go_simp
    with_reducible rfl
  rotate_left
  · simp only [Act.put, List.setIfInBounds_toArray, List.set_cons_zero, List.set_cons_succ, i64_w, i32_w]
    rfl
  refine pure_ (i := 2) (N := some 15) (v := ?_) (a' := ?_) #[true, true, true, false, false, false, false, false, false] rfl rfl (by kernel_rfl) (fun _ _ _ h => h) (Or.inl ⟨by rfl, ?_⟩) ?_ ?_
  rotate_left
  · intro w'
    go_simp
    with_reducible rfl
  rotate_left
  · simp only [Act.put, List.setIfInBounds_toArray, List.set_cons_zero, List.set_cons_succ, i64_w, i32_w]
    rfl
  by_cases c1026 : t1003.2.2.2.2.2.2.2 = true
  · have H := if_yes c1026 H
    have c1026b0 : t1003.2.2.2.2.2.2.2 = true := c1026
    have c1026b1 : (!t1003.2.2.2.2.2.2.2) = false := by rw [c1026b0]; rfl
    try rw [c1026b1]
    clear c1026
    try simp only [c1026b0, Bool.not_true, Bool.not_false]
    refine pure_ (i := 3) (N := some 16) (v := ?_) (a' := ?_) #[true, true, true, true, false, false, false, false, false] rfl rfl (by kernel_rfl) (fun _ _ _ h => h) (Or.inl ⟨by rfl, ?_⟩) ?_ ?_
    rotate_left
    · intro w'
      go_simp
      with_reducible rfl
    rotate_left
    · simp only [Act.put, List.setIfInBounds_toArray, List.set_cons_zero, List.set_cons_succ, i64_w, i32_w]
      rfl
    try simp only [c1026b0, Bool.not_true, Bool.not_false]
    refine pure_ (i := 5) (N := some 18) (v := ?_) (a' := ?_) #[true, true, true, true, false, true, false, false, false] rfl rfl (by kernel_rfl) (fun _ _ _ h => h) (Or.inl ⟨by rfl, ?_⟩) ?_ ?_
    rotate_left
    · intro w'
      go_simp
      with_reducible rfl
    rotate_left
    · simp only [Act.put, List.setIfInBounds_toArray, List.set_cons_zero, List.set_cons_succ, i64_w, i32_w]
      rfl
    try simp only [c1026b0, Bool.not_true, Bool.not_false]
    refine take_ (i := 4) (N := some 17) (v := ?_) (a' := ?_) #[true, true, true, true, true, true, false, false, false] rfl rfl (by kernel_rfl) (fun _ _ _ h => h) (Or.inl ⟨by rfl, ?_⟩) hHeld ?_ ?_
    rotate_left
    · rintro w' hS'
      have s0 := hS'
      go_simp
      with_reducible rfl
    rotate_left
    · simp only [Act.put, List.setIfInBounds_toArray, List.set_cons_zero, List.set_cons_succ, i64_w, i32_w]
      rfl
    try simp only [c1026b0, Bool.not_true, Bool.not_false]
    refine one_ (i := 6) (N := some 19) #[true, true, true, true, true, true, true, false, false] rfl rfl (by kernel_rfl) (by decide) (fun K hK => ?_)
    obtain ⟨t1027, HA1028, H⟩ := bind_some H
    refine goes_ Tryz.func15 (by kernel_rfl) rfl #[.pointer none] (by rfl) rfl rfl (by (try simp only [List.map_toArray, List.map_cons, List.map_nil]); first | done | rfl) ?_
    refine (tint_Parity_nil.calls t1027 _ ⟨HGl0.out.pass (l := []) HS.out⟩ ⟨Sep.start _⟩ HA1028).mono ?_
    rintro e_ w1029 ⟨rfl, hS⟩
    replace HS : Aside0 (Sep (fps []) w [b3 g1006 t1003.1 t1003.2.1 t1003.2.2.1 t1003.2.2.2.1 t1003.2.2.2.2.1 t1003.2.2.2.2.2.1 t1003.2.2.2.2.2.2.1] w1029) := ⟨HS.out.call hS⟩
    clear hS
    refine ⟨_, rfl, ?_⟩
    refine hK.out _ _ (blk_cellv (HS.out.at0) 3 rfl) (fun hHeld => ?_)
    clear hK K
    refine norm_ (a' := ?_) ?_ ?_
    rotate_left
    · show Act.put _ (some 19) _ = _
      simp only [Act.put, List.setIfInBounds_toArray, List.set_cons_zero, List.set_cons_succ, i64_w, i32_w]
      rfl
    try simp only [c1026b0, Bool.not_true, Bool.not_false]
    refine pure_ (i := 7) (N := some 20) (v := ?_) (a' := ?_) #[true, true, true, true, true, true, true, true, false] rfl rfl (by kernel_rfl) (fun _ _ _ h => h) (Or.inl ⟨by rfl, ?_⟩) ?_ ?_
    rotate_left
    · intro w'
      go_simp
      with_reducible rfl
    rotate_left
    · simp only [Act.put, List.setIfInBounds_toArray, List.set_cons_zero, List.set_cons_succ, i64_w, i32_w]
      rfl
    refine pure_ (i := 8) (N := some 21) (v := ?_) (a' := ?_) #[true, true, true, true, true, true, true, true, true] rfl rfl (by kernel_rfl) (fun _ _ _ h => h) (Or.inl ⟨by rfl, ?_⟩) ?_ ?_
    rotate_left
    · intro w'
      go_simp
      with_reducible rfl
    rotate_left
    · simp only [Act.put, List.setIfInBounds_toArray, List.set_cons_zero, List.set_cons_succ, i64_w, i32_w]
      rfl
    refine done_ (by kernel_rfl) ?_
    by_cases c1030 : t1003.2.2.2.1 = t1027
    · have H := if_yes c1030 H
      have c1030b0 : (t1003.2.2.2.1 == t1027) = true := beq_iff_eq.mpr c1030
      have c1030b1 : (t1003.2.2.2.1 != t1027) = false := bne_eq_false_iff_eq.mpr c1030
      clear c1030
      replace HS : Aside0 (Sep (fps []) w [] w1029) := ⟨HS.out.sub (.cons _ .slnil)⟩
      go_wp2_with fail
      obtain ⟨t1042, HA1043, H⟩ := bind_some H
      refine (ground_Ground_Word_nil.calls (wrap64 (a1002 - 1)) 4 t1042 _ ⟨HGl0.out.pass (l := []) HS.out⟩ ⟨Sep.start _⟩ HA1043).mono ?_
      rintro e_ w1044 ⟨rfl, hS⟩
      replace HS : Aside0 (Sep (fps []) w [] w1044) := ⟨HS.out.call hS⟩
      clear hS
      go_wp2_with fail
      go_ret
      rw [← some_eq H]
      exact ⟨(by first | rfl | (simp [IntKind.wrap_u32]; done)), HS.out⟩
    · have H := if_no c1030 H
      have c1030b0 : (t1003.2.2.2.1 == t1027) = false := beq_eq_false_iff_ne.mpr c1030
      have c1030b1 : (t1003.2.2.2.1 != t1027) = true := bne_iff_ne.mpr c1030
      clear c1030
      replace HS : Aside0 (Sep (fps []) w [] w1029) := ⟨HS.out.sub (.cons _ .slnil)⟩
      go_wp2_with fail
      go_ret
      rw [← some_eq H]
      exact ⟨(by first | rfl | (simp [IntKind.wrap_u32]; done)), HS.out⟩
  · have H := if_no c1026 H
    have c1026b0 : t1003.2.2.2.2.2.2.2 = false := by simpa using c1026
    have c1026b1 : (!t1003.2.2.2.2.2.2.2) = true := by rw [c1026b0]; rfl
    try rw [c1026b1]
    clear c1026
    try simp only [c1026b0, Bool.not_true, Bool.not_false]
    refine pure_ (i := 3) (N := some 16) (v := undef) (a' := ?_) #[true, true, true, true, false, false, false, false, false] rfl rfl (by kernel_rfl) (fun _ _ _ h => h) (Or.inr ⟨by rfl, rfl⟩) ?_ ?_
    rotate_left
    · simp only [Act.put, List.setIfInBounds_toArray, List.set_cons_zero, List.set_cons_succ, i64_w, i32_w]
      rfl
    try simp only [c1026b0, Bool.not_true, Bool.not_false]
    refine pure_ (i := 4) (N := some 17) (v := undef) (a' := ?_) #[true, true, true, true, true, false, false, false, false] rfl rfl (by kernel_rfl) (fun _ _ _ h => h) (Or.inr ⟨by rfl, rfl⟩) ?_ ?_
    rotate_left
    · simp only [Act.put, List.setIfInBounds_toArray, List.set_cons_zero, List.set_cons_succ, i64_w, i32_w]
      rfl
    try simp only [c1026b0, Bool.not_true, Bool.not_false]
    refine pure_ (i := 5) (N := some 18) (v := undef) (a' := ?_) #[true, true, true, true, true, true, false, false, false] rfl rfl (by kernel_rfl) (fun _ _ _ h => h) (Or.inr ⟨by rfl, rfl⟩) ?_ ?_
    rotate_left
    · simp only [Act.put, List.setIfInBounds_toArray, List.set_cons_zero, List.set_cons_succ, i64_w, i32_w]
      rfl
    try simp only [c1026b0, Bool.not_true, Bool.not_false]
    refine pure_ (i := 6) (N := some 19) (v := undef) (a' := ?_) #[true, true, true, true, true, true, true, false, false] rfl rfl (by kernel_rfl) (fun _ _ _ h => h) (Or.inr ⟨by rfl, rfl⟩) ?_ ?_
    rotate_left
    · simp only [Act.put, List.setIfInBounds_toArray, List.set_cons_zero, List.set_cons_succ, i64_w, i32_w]
      rfl
    try simp only [c1026b0, Bool.not_true, Bool.not_false]
    refine pure_ (i := 7) (N := some 20) (v := undef) (a' := ?_) #[true, true, true, true, true, true, true, true, false] rfl rfl (by kernel_rfl) (fun _ _ _ h => h) (Or.inr ⟨by rfl, rfl⟩) ?_ ?_
    rotate_left
    · simp only [Act.put, List.setIfInBounds_toArray, List.set_cons_zero, List.set_cons_succ, i64_w, i32_w]
      rfl
    refine pure_ (i := 8) (N := some 21) (v := ?_) (a' := ?_) #[true, true, true, true, true, true, true, true, true] rfl rfl (by kernel_rfl) (fun _ _ _ h => h) (Or.inl ⟨by rfl, ?_⟩) ?_ ?_
    rotate_left
    · intro w'
      go_simp
      with_reducible rfl
    rotate_left
    · simp only [Act.put, List.setIfInBounds_toArray, List.set_cons_zero, List.set_cons_succ, i64_w, i32_w]
      rfl
    refine done_ (by kernel_rfl) ?_
    replace HS : Aside0 (Sep (fps []) w [] w1025) := ⟨HS.out.sub (.cons _ .slnil)⟩
    go_wp2_with fail
    go_ret
    rw [← some_eq H]
    exact ⟨(by first | rfl | (simp [IntKind.wrap_u32]; done)), HS.out⟩

set_option maxHeartbeats 30000000 in
set_option maxRecDepth 100000 in
theorem tint_Deepen_1.calls (a1091 : Int) (a1092 : Int) (a1093 : Int) (a1094 : Int) (a1095 : Int) (a1096 : Int) (a1097 : Int) (a1098 : Int) (a1103 : Int) (g1090 : Nat) (g1100 : Nat) (g1102 : Nat) (r : Int) (w : World)  (HGl0 : Aside0 (Gl 0 #[.int .i64 0, .int .i64 0, .int .i64 0, .int .i64 0, .int .i64 0] (fps [b3 g1090 a1091 a1092 a1093 a1094 a1095 a1096 a1097, b1 g1100, b2 g1102 a1103]) w)) (HS : Aside0 (Sep (fps [b3 g1090 a1091 a1092 a1093 a1094 a1095 a1096 a1097, b1 g1100, b2 g1102 a1103]) w [b3 g1090 a1091 a1092 a1093 a1094 a1095 a1096 a1097, b1 g1100, b2 g1102 a1103] w)) (H : Aside0 (tint_Deepen_1.f a1091 a1092 a1093 a1094 a1095 a1096 a1097 a1098 a1103 = some r)) :
    Calls Tryz.prog 54 #[.pointer (some ⟨g1090, 0, none⟩), .int .i64 a1098, .pointer (some ⟨g1100, 0, none⟩), .pointer (some ⟨g1102, 0, none⟩)] w fun e w' => e = .returned (.tuple #[]) ∧ Sep (fps [b3 g1090 a1091 a1092 a1093 a1094 a1095 a1096 a1097, b1 g1100, b2 g1102 a1103]) w [b3 g1090 a1091 a1092 a1093 r a1095 a1096 a1097, b1 g1100, b2 g1102 a1103] w' := by
  generalize (fps [b3 g1090 a1091 a1092 a1093 a1094 a1095 a1096 a1097, b1 g1100, b2 g1102 a1103]) = FF at HS HGl0 ⊢
  unfold tint_Deepen_1.f at H
  go_enter Tryz.func54, Tryz.ntmps54
  by_cases c1120 : a1094 = a1098
  · have H := if_yes c1120 H
    have c1120b0 : (a1094 == a1098) = true := beq_iff_eq.mpr c1120
    have c1120b1 : (a1094 != a1098) = false := bne_eq_false_iff_eq.mpr c1120
    clear c1120
    have hc1119 : w.cell? ⟨g1090, 3, none⟩ = some (.int .i64 a1094) := blk_cellv (HS.out.at0) 3 rfl
    have hc1121 : w.cell? ⟨g1100, 0, none⟩ = some (.pointer none) := blk_cellv (HS.out.at1) 0 rfl
    have hc1122 : w.cell? ⟨g1102, 0, none⟩ = some (.int .i64 a1103) := blk_cellv (HS.out.at2) 0 rfl
    go_wp2_with fail
    clear hc1119 hc1121 hc1122
    obtain ⟨t1123, HA1124, H⟩ := bind_some H
    refine (ground_Ground_Word_nil.calls (wrap64 (a1103 - 1)) 4 t1123 _ ⟨HGl0.out.pass (l := []) HS.out⟩ ⟨Sep.start _⟩ HA1124).mono ?_
    rintro e_ w1125 ⟨rfl, hS⟩
    replace HS : Aside0 (Sep FF w [b3 g1090 a1091 a1092 a1093 a1094 a1095 a1096 a1097, b1 g1100, b2 g1102 a1103] w1125) := ⟨HS.out.call hS⟩
    clear hS
    have hc1126 : w1125.cell? ⟨g1090, 3, none⟩ = some (.int .i64 a1094) := blk_cellv (HS.out.at0) 3 rfl
    have hz1127 : w1125.frozen? ⟨g1090, 3, none⟩ = false := blk_fz (HS.out.at0) 3
    go_wp2_with (first | ((with_reducible refine gate_store (t := 3) (p := 20) rfl ?_); refine store_event (w1 := (World.setCell w1125 ⟨g1090, 3, none⟩ (.int .i64 a1098))) rfl (t := 3) (p := 20) rfl rfl ?hr ?_; (case hr => first | (go_simp; done) | (go_simp; rfl)); intro w1128 hst; clear hc1126 hz1127; have hq0 : Sep FF w [b3 g1090 a1091 a1092 a1093 a1098 a1095 a1096 a1097, b1 g1100, b2 g1102 a1103] (World.setCell w1125 ⟨g1090, 3, none⟩ (.int .i64 a1098)) := (HS.out).set1 (l1 := []) (l2 := [b1 g1100, b2 g1102 a1103]) 3 (.int .i64 a1098); replace HS : Aside0 (Sep FF w [b3 g1090 a1091 a1092 a1093 a1098 a1095 a1096 a1097, b1 g1100, b2 g1102 a1103] w1128) := ⟨by rw [hst]; exact hq0⟩; clear hq0; clear hst; have hc1129 : w1128.cell? ⟨g1100, 0, none⟩ = some (.pointer none) := blk_cellv (HS.out.at1) 0 rfl; have hc1130 : w1128.cell? ⟨g1102, 0, none⟩ = some (.int .i64 a1103) := blk_cellv (HS.out.at2) 0 rfl))
    clear hc1129 hc1130
    obtain ⟨t1131, HA1132, H⟩ := bind_some H
    refine (ground_Ground_SetWord_nil.calls (wrap64 (a1103 - 1)) 4 ((t1123 + 1) % 4294967296) t1131 _ ⟨HGl0.out.pass (l := []) HS.out⟩ ⟨Sep.start _⟩ HA1132).mono ?_
    rintro e_ w1133 ⟨rfl, hS⟩
    replace HS : Aside0 (Sep FF w [b3 g1090 a1091 a1092 a1093 a1098 a1095 a1096 a1097, b1 g1100, b2 g1102 a1103] w1133) := ⟨HS.out.call hS⟩
    clear hS
    go_wp2_with fail
    first | go_end0 | refine bodyPost_ret (results_none rfl _ _ _) rfl ?_
    rw [← some_eq H]
    exact ⟨rfl, HS.out⟩
  · have H := if_no c1120 H
    have c1120b0 : (a1094 == a1098) = false := beq_eq_false_iff_ne.mpr c1120
    have c1120b1 : (a1094 != a1098) = true := bne_iff_ne.mpr c1120
    clear c1120
    have hc1119 : w.cell? ⟨g1090, 3, none⟩ = some (.int .i64 a1094) := blk_cellv (HS.out.at0) 3 rfl
    have hz1134 : w.frozen? ⟨g1090, 3, none⟩ = false := blk_fz (HS.out.at0) 3
    go_wp2_with (first | ((with_reducible refine gate_store (t := 3) (p := 20) rfl ?_); refine store_event (w1 := (World.setCell w ⟨g1090, 3, none⟩ (.int .i64 a1098))) rfl (t := 3) (p := 20) rfl rfl ?hr ?_; (case hr => first | (go_simp; done) | (go_simp; rfl)); intro w1135 hst; clear hc1119 hz1134; have hq0 : Sep FF w [b3 g1090 a1091 a1092 a1093 a1098 a1095 a1096 a1097, b1 g1100, b2 g1102 a1103] (World.setCell w ⟨g1090, 3, none⟩ (.int .i64 a1098)) := (HS.out).set1 (l1 := []) (l2 := [b1 g1100, b2 g1102 a1103]) 3 (.int .i64 a1098); replace HS : Aside0 (Sep FF w [b3 g1090 a1091 a1092 a1093 a1098 a1095 a1096 a1097, b1 g1100, b2 g1102 a1103] w1135) := ⟨by rw [hst]; exact hq0⟩; clear hq0; clear hst; have hc1136 : w1135.cell? ⟨g1100, 0, none⟩ = some (.pointer none) := blk_cellv (HS.out.at1) 0 rfl; have hc1137 : w1135.cell? ⟨g1102, 0, none⟩ = some (.int .i64 a1103) := blk_cellv (HS.out.at2) 0 rfl))
    clear hc1136 hc1137
    obtain ⟨t1131, HA1138, H⟩ := bind_some H
    refine (ground_Ground_SetWord_nil.calls (wrap64 (a1103 - 1)) 4 1 t1131 _ ⟨HGl0.out.pass (l := []) HS.out⟩ ⟨Sep.start _⟩ HA1138).mono ?_
    rintro e_ w1139 ⟨rfl, hS⟩
    replace HS : Aside0 (Sep FF w [b3 g1090 a1091 a1092 a1093 a1098 a1095 a1096 a1097, b1 g1100, b2 g1102 a1103] w1139) := ⟨HS.out.call hS⟩
    clear hS
    go_wp2_with fail
    first | go_end0 | refine bodyPost_ret (results_none rfl _ _ _) rfl ?_
    rw [← some_eq H]
    exact ⟨rfl, HS.out⟩

set_option maxHeartbeats 30000000 in
set_option maxRecDepth 100000 in
theorem tint_change_nil_F54.calls (k : Nat) (a1058 : Int) (a1063 : Int) (g1060 : Nat) (g1062 : Nat) (r : Bool) (w : World)  (HGl0 : Aside0 (Gl 0 #[.int .i64 0, .int .i64 0, .int .i64 0, .int .i64 0, .int .i64 0] (fps [b1 g1060, b2 g1062 a1063]) w)) (HS : Aside0 (Sep (fps [b1 g1060, b2 g1062 a1063]) w [b1 g1060, b2 g1062 a1063] w)) (H : Aside0 (tint_change_nil_F54.f k a1058 a1063 = some r)) :
    Calls Tryz.prog 51 #[.pointer none, .int .i64 a1058, .func (.func 54) #[] #[.pointer (some ⟨g1060, 0, none⟩), .pointer (some ⟨g1062, 0, none⟩)]] w fun e w' => e = .returned (.bool r) ∧ Sep (fps [b1 g1060, b2 g1062 a1063]) w [b1 g1060, b2 g1062 a1063] w' := by
  generalize (fps [b1 g1060, b2 g1062 a1063]) = FF at HS HGl0 ⊢
  unfold tint_change_nil_F54.f at H
  go_enter Tryz.func51, Tryz.ntmps51
  go_wp2_with fail
  obtain ⟨t1064, HA1065, H⟩ := bind_some H
  refine (tint_of_nil.calls a1058 t1064 _ ⟨HGl0.out.pass (l := []) HS.out⟩ ⟨Sep.start _⟩ HA1065).mono ?_
  rintro e_ w1066 ⟨rfl, hS⟩
  replace HS : Aside0 (Sep FF w [b1 g1060, b2 g1062 a1063] w1066) := ⟨HS.out.call hS⟩
  clear hS
  by_cases c1085 : t1064.2.2.2.2.2.2.2 = true
  · have H := if_yes c1085 H
    have c1085b0 : t1064.2.2.2.2.2.2.2 = true := c1085
    have c1085b1 : (!t1064.2.2.2.2.2.2.2) = false := by rw [c1085b0]; rfl
    try rw [c1085b1]
    clear c1085
    go_wp2_with (first | ((with_reducible refine gate_dst (N := 7) rfl ?_); refine box_on ?hg (N := 7) ?hd (cs := #[.int .i64 0, .int .i64 0, .int .i64 0, .int .i64 0, .int .i64 0, .int .i64 0, .int .i64 0]) (t := 79) ?hr ?_; (case hd => rfl); (case hg => rfl); (case hr => first | (go_simp; done) | (go_simp; rfl)); intro g1067 hg w1068 hbox hb; replace HS : Aside0 (Sep FF w [b1 g1060, b2 g1062 a1063, b3 g1067 0 0 0 0 0 0 0] w1068) := ⟨HS.out.box hg hbox hb⟩; clear hg hbox hb; have hc1070 : w1068.cell? ⟨g1067, 0, none⟩ = some (.int .i64 0) := blk_cellv (HS.out.at2) 0 rfl; have hz1071 : w1068.frozen? ⟨g1067, 0, none⟩ = false := blk_fz (HS.out.at2) 0; have hc1072 : w1068.cell? ⟨g1067, 1, none⟩ = some (.int .i64 0) := blk_cellv (HS.out.at2) 1 rfl; have hz1073 : w1068.frozen? ⟨g1067, 1, none⟩ = false := blk_fz (HS.out.at2) 1; have hc1074 : w1068.cell? ⟨g1067, 2, none⟩ = some (.int .i64 0) := blk_cellv (HS.out.at2) 2 rfl; have hz1075 : w1068.frozen? ⟨g1067, 2, none⟩ = false := blk_fz (HS.out.at2) 2; have hc1076 : w1068.cell? ⟨g1067, 3, none⟩ = some (.int .i64 0) := blk_cellv (HS.out.at2) 3 rfl; have hz1077 : w1068.frozen? ⟨g1067, 3, none⟩ = false := blk_fz (HS.out.at2) 3; have hc1078 : w1068.cell? ⟨g1067, 4, none⟩ = some (.int .i64 0) := blk_cellv (HS.out.at2) 4 rfl; have hz1079 : w1068.frozen? ⟨g1067, 4, none⟩ = false := blk_fz (HS.out.at2) 4; have hc1080 : w1068.cell? ⟨g1067, 5, none⟩ = some (.int .i64 0) := blk_cellv (HS.out.at2) 5 rfl; have hz1081 : w1068.frozen? ⟨g1067, 5, none⟩ = false := blk_fz (HS.out.at2) 5; have hc1082 : w1068.cell? ⟨g1067, 6, none⟩ = some (.int .i64 0) := blk_cellv (HS.out.at2) 6 rfl; have hz1083 : w1068.frozen? ⟨g1067, 6, none⟩ = false := blk_fz (HS.out.at2) 6) | ((with_reducible refine gate_store (t := 79) (p := 7) rfl ?_); refine store_event (w1 := (World.setCell (World.setCell (World.setCell (World.setCell (World.setCell (World.setCell (World.setCell w1068 ⟨g1067, 0, none⟩ (.int .i64 t1064.1)) ⟨g1067, 1, none⟩ (.int .i64 t1064.2.1)) ⟨g1067, 2, none⟩ (.int .i64 t1064.2.2.1)) ⟨g1067, 3, none⟩ (.int .i64 t1064.2.2.2.1)) ⟨g1067, 4, none⟩ (.int .i64 t1064.2.2.2.2.1)) ⟨g1067, 5, none⟩ (.int .i64 t1064.2.2.2.2.2.1)) ⟨g1067, 6, none⟩ (.int .i64 t1064.2.2.2.2.2.2.1))) rfl (t := 79) (p := 7) rfl rfl ?hr ?_; (case hr => first | (go_simp; done) | (go_simp; rfl)); intro w1084 hst; clear hc1070 hz1071 hc1072 hz1073 hc1074 hz1075 hc1076 hz1077 hc1078 hz1079 hc1080 hz1081 hc1082 hz1083; replace HS : Aside0 (Sep FF w [b1 g1060, b2 g1062 a1063, b3 g1067 t1064.1 t1064.2.1 t1064.2.2.1 t1064.2.2.2.1 t1064.2.2.2.2.1 t1064.2.2.2.2.2.1 t1064.2.2.2.2.2.2.1] w1084) := ⟨by rw [hst]; exact HS.out.setAll (l1 := [b1 g1060, b2 g1062 a1063]) (l2 := []) [.int .i64 t1064.1, .int .i64 t1064.2.1, .int .i64 t1064.2.2.1, .int .i64 t1064.2.2.2.1, .int .i64 t1064.2.2.2.2.1, .int .i64 t1064.2.2.2.2.2.1, .int .i64 t1064.2.2.2.2.2.2.1] rfl⟩; clear hst))
    obtain ⟨t1086, HA1087, H⟩ := bind_some H
    refine (tint_Parity_nil.calls t1086 _ ⟨HGl0.out.pass (l := []) HS.out⟩ ⟨Sep.start _⟩ HA1087).mono ?_
    rintro e_ w1088 ⟨rfl, hS⟩
    replace HS : Aside0 (Sep FF w [b1 g1060, b2 g1062 a1063, b3 g1067 t1064.1 t1064.2.1 t1064.2.2.1 t1064.2.2.2.1 t1064.2.2.2.2.1 t1064.2.2.2.2.2.1 t1064.2.2.2.2.2.2.1] w1088) := ⟨HS.out.call hS⟩
    clear hS
    go_wp2_with fail
    replace HS : Aside0 (Sep FF w [b2 g1062 a1063, b1 g1060, b3 g1067 t1064.1 t1064.2.1 t1064.2.2.1 t1064.2.2.2.1 t1064.2.2.2.2.1 t1064.2.2.2.2.2.1 t1064.2.2.2.2.2.2.1] w1088) := ⟨HS.out.front 1 (by simp)⟩
    replace HS : Aside0 (Sep FF w [b1 g1060, b2 g1062 a1063, b3 g1067 t1064.1 t1064.2.1 t1064.2.2.1 t1064.2.2.2.1 t1064.2.2.2.2.1 t1064.2.2.2.2.2.1 t1064.2.2.2.2.2.2.1] w1088) := ⟨HS.out.front 1 (by simp)⟩
    replace HS : Aside0 (Sep FF w [b3 g1067 t1064.1 t1064.2.1 t1064.2.2.1 t1064.2.2.2.1 t1064.2.2.2.2.1 t1064.2.2.2.2.2.1 t1064.2.2.2.2.2.2.1, b1 g1060, b2 g1062 a1063] w1088) := ⟨HS.out.front 2 (by simp)⟩
    obtain ⟨t1140, HA1141, H⟩ := bind_some H
    refine (tint_Deepen_1.calls t1064.1 t1064.2.1 t1064.2.2.1 t1064.2.2.2.1 t1064.2.2.2.2.1 t1064.2.2.2.2.2.1 t1064.2.2.2.2.2.2.1 t1086 a1063 g1067 g1060 g1062 t1140 _ ⟨HGl0.out.pass HS.out⟩ ⟨HS.out.begin⟩ HA1141).mono ?_
    rintro e_ w1142 ⟨rfl, hS⟩
    replace HS : Aside0 (Sep FF w [b3 g1067 t1064.1 t1064.2.1 t1064.2.2.1 t1140 t1064.2.2.2.2.1 t1064.2.2.2.2.2.1 t1064.2.2.2.2.2.2.1, b1 g1060, b2 g1062 a1063] w1142) := ⟨HS.out.call hS⟩
    clear hS
    have hc1143 : w1142.cell? ⟨g1067, 0, none⟩ = some (.int .i64 t1064.1) := blk_cellv (HS.out.at0) 0 rfl
    have hc1144 : w1142.cell? ⟨g1067, 1, none⟩ = some (.int .i64 t1064.2.1) := blk_cellv (HS.out.at0) 1 rfl
    have hc1145 : w1142.cell? ⟨g1067, 2, none⟩ = some (.int .i64 t1064.2.2.1) := blk_cellv (HS.out.at0) 2 rfl
    have hc1146 : w1142.cell? ⟨g1067, 3, none⟩ = some (.int .i64 t1140) := blk_cellv (HS.out.at0) 3 rfl
    have hc1147 : w1142.cell? ⟨g1067, 4, none⟩ = some (.int .i64 t1064.2.2.2.2.1) := blk_cellv (HS.out.at0) 4 rfl
    have hc1148 : w1142.cell? ⟨g1067, 5, none⟩ = some (.int .i64 t1064.2.2.2.2.2.1) := blk_cellv (HS.out.at0) 5 rfl
    have hc1149 : w1142.cell? ⟨g1067, 6, none⟩ = some (.int .i64 t1064.2.2.2.2.2.2.1) := blk_cellv (HS.out.at0) 6 rfl
    go_wp2_with fail
    clear hc1143 hc1144 hc1145 hc1146 hc1147 hc1148 hc1149
    obtain ⟨t1150, HA1151, H⟩ := bind_some H
    refine (tag_Pack.calls _ t1064.1 t1064.2.1 t1064.2.2.1 t1140 t1064.2.2.2.2.1 t1064.2.2.2.2.2.1 t1064.2.2.2.2.2.2.1 t1150 _ ⟨HGl0.out.pass (l := []) HS.out⟩ ⟨Sep.start _⟩ HA1151).mono ?_
    rintro e_ w1152 ⟨rfl, hS⟩
    replace HS : Aside0 (Sep FF w [b3 g1067 t1064.1 t1064.2.1 t1064.2.2.1 t1140 t1064.2.2.2.2.1 t1064.2.2.2.2.2.1 t1064.2.2.2.2.2.2.1, b1 g1060, b2 g1062 a1063] w1152) := ⟨HS.out.call hS⟩
    clear hS
    by_cases c1153 : t1150.2 = 0
    · have H := if_yes c1153 H
      have c1153b0 : (t1150.2 == 0) = true := beq_iff_eq.mpr c1153
      have c1153b1 : (t1150.2 != 0) = false := bne_eq_false_iff_eq.mpr c1153
      clear c1153
      replace HS : Aside0 (Sep FF w [b1 g1060, b2 g1062 a1063] w1152) := ⟨HS.out.sub (.cons _ (.cons_cons _ (.cons_cons _ .slnil)))⟩
      go_wp2_with fail
      obtain ⟨t1154, HA1155, H⟩ := bind_some H
      refine (ground_Ground_SetWord_nil.calls (wrap64 (a1058 - 1)) 0 t1150.1 t1154 _ ⟨HGl0.out.pass (l := []) HS.out⟩ ⟨Sep.start _⟩ HA1155).mono ?_
      rintro e_ w1156 ⟨rfl, hS⟩
      replace HS : Aside0 (Sep FF w [b1 g1060, b2 g1062 a1063] w1156) := ⟨HS.out.call hS⟩
      clear hS
      go_wp2_with fail
      go_ret
      rw [← some_eq H]
      exact ⟨(by first | rfl | (simp [IntKind.wrap_u32]; done)), HS.out⟩
    · have H := if_no c1153 H
      have c1153b0 : (t1150.2 == 0) = false := beq_eq_false_iff_ne.mpr c1153
      have c1153b1 : (t1150.2 != 0) = true := bne_iff_ne.mpr c1153
      clear c1153
      replace HS : Aside0 (Sep FF w [b1 g1060, b2 g1062 a1063] w1152) := ⟨HS.out.sub (.cons _ (.cons_cons _ (.cons_cons _ .slnil)))⟩
      go_wp2_with fail
      go_ret
      rw [← some_eq H]
      exact ⟨(by first | rfl | (simp [IntKind.wrap_u32]; done)), HS.out⟩
  · have H := if_no c1085 H
    have c1085b0 : t1064.2.2.2.2.2.2.2 = false := by simpa using c1085
    have c1085b1 : (!t1064.2.2.2.2.2.2.2) = true := by rw [c1085b0]; rfl
    try rw [c1085b1]
    clear c1085
    go_wp2_with (first | ((with_reducible refine gate_dst (N := 7) rfl ?_); refine box_on ?hg (N := 7) ?hd (cs := #[.int .i64 0, .int .i64 0, .int .i64 0, .int .i64 0, .int .i64 0, .int .i64 0, .int .i64 0]) (t := 79) ?hr ?_; (case hd => rfl); (case hg => rfl); (case hr => first | (go_simp; done) | (go_simp; rfl)); intro g1067 hg w1068 hbox hb; replace HS : Aside0 (Sep FF w [b1 g1060, b2 g1062 a1063, b3 g1067 0 0 0 0 0 0 0] w1068) := ⟨HS.out.box hg hbox hb⟩; clear hg hbox hb; have hc1070 : w1068.cell? ⟨g1067, 0, none⟩ = some (.int .i64 0) := blk_cellv (HS.out.at2) 0 rfl; have hz1071 : w1068.frozen? ⟨g1067, 0, none⟩ = false := blk_fz (HS.out.at2) 0; have hc1072 : w1068.cell? ⟨g1067, 1, none⟩ = some (.int .i64 0) := blk_cellv (HS.out.at2) 1 rfl; have hz1073 : w1068.frozen? ⟨g1067, 1, none⟩ = false := blk_fz (HS.out.at2) 1; have hc1074 : w1068.cell? ⟨g1067, 2, none⟩ = some (.int .i64 0) := blk_cellv (HS.out.at2) 2 rfl; have hz1075 : w1068.frozen? ⟨g1067, 2, none⟩ = false := blk_fz (HS.out.at2) 2; have hc1076 : w1068.cell? ⟨g1067, 3, none⟩ = some (.int .i64 0) := blk_cellv (HS.out.at2) 3 rfl; have hz1077 : w1068.frozen? ⟨g1067, 3, none⟩ = false := blk_fz (HS.out.at2) 3; have hc1078 : w1068.cell? ⟨g1067, 4, none⟩ = some (.int .i64 0) := blk_cellv (HS.out.at2) 4 rfl; have hz1079 : w1068.frozen? ⟨g1067, 4, none⟩ = false := blk_fz (HS.out.at2) 4; have hc1080 : w1068.cell? ⟨g1067, 5, none⟩ = some (.int .i64 0) := blk_cellv (HS.out.at2) 5 rfl; have hz1081 : w1068.frozen? ⟨g1067, 5, none⟩ = false := blk_fz (HS.out.at2) 5; have hc1082 : w1068.cell? ⟨g1067, 6, none⟩ = some (.int .i64 0) := blk_cellv (HS.out.at2) 6 rfl; have hz1083 : w1068.frozen? ⟨g1067, 6, none⟩ = false := blk_fz (HS.out.at2) 6) | ((with_reducible refine gate_store (t := 79) (p := 7) rfl ?_); refine store_event (w1 := (World.setCell (World.setCell (World.setCell (World.setCell (World.setCell (World.setCell (World.setCell w1068 ⟨g1067, 0, none⟩ (.int .i64 t1064.1)) ⟨g1067, 1, none⟩ (.int .i64 t1064.2.1)) ⟨g1067, 2, none⟩ (.int .i64 t1064.2.2.1)) ⟨g1067, 3, none⟩ (.int .i64 t1064.2.2.2.1)) ⟨g1067, 4, none⟩ (.int .i64 t1064.2.2.2.2.1)) ⟨g1067, 5, none⟩ (.int .i64 t1064.2.2.2.2.2.1)) ⟨g1067, 6, none⟩ (.int .i64 t1064.2.2.2.2.2.2.1))) rfl (t := 79) (p := 7) rfl rfl ?hr ?_; (case hr => first | (go_simp; done) | (go_simp; rfl)); intro w1084 hst; clear hc1070 hz1071 hc1072 hz1073 hc1074 hz1075 hc1076 hz1077 hc1078 hz1079 hc1080 hz1081 hc1082 hz1083; replace HS : Aside0 (Sep FF w [b1 g1060, b2 g1062 a1063, b3 g1067 t1064.1 t1064.2.1 t1064.2.2.1 t1064.2.2.2.1 t1064.2.2.2.2.1 t1064.2.2.2.2.2.1 t1064.2.2.2.2.2.2.1] w1084) := ⟨by rw [hst]; exact HS.out.setAll (l1 := [b1 g1060, b2 g1062 a1063]) (l2 := []) [.int .i64 t1064.1, .int .i64 t1064.2.1, .int .i64 t1064.2.2.1, .int .i64 t1064.2.2.2.1, .int .i64 t1064.2.2.2.2.1, .int .i64 t1064.2.2.2.2.2.1, .int .i64 t1064.2.2.2.2.2.2.1] rfl⟩; clear hst; replace HS : Aside0 (Sep FF w [b1 g1060, b2 g1062 a1063] w1084) := ⟨HS.out.sub (.cons_cons _ (.cons_cons _ (.cons _ .slnil)))⟩))
    go_ret
    rw [← some_eq H]
    exact ⟨(by first | rfl | (simp [IntKind.wrap_u32]; done)), HS.out⟩

set_option maxHeartbeats 30000000 in
set_option maxRecDepth 100000 in
theorem tint_Deepen_nil.calls (k : Nat) (a1049 : Int) (r : Bool) (w : World)  (HGl0 : Aside0 (Gl 0 #[.int .i64 0, .int .i64 0, .int .i64 0, .int .i64 0, .int .i64 0] (fps []) w)) (HS : Aside0 (Sep (fps []) w [] w)) (H : Aside0 (tint_Deepen_nil.f k a1049 = some r)) :
    Calls Tryz.prog 14 #[.pointer none, .int .i64 a1049] w fun e w' => e = .returned (.bool r) ∧ Sep (fps []) w [] w' := by
  unfold tint_Deepen_nil.f at H
  go_enter Tryz.func14, Tryz.ntmps14
  go_wp2_with (first | ((with_reducible refine gate_dst (N := 2) rfl ?_); refine box_on ?hg (N := 2) ?hd (cs := #[.pointer none]) (t := 24) ?hr ?_; (case hd => rfl); (case hg => rfl); (case hr => first | (go_simp; done) | (go_simp; rfl)); intro g1050 hg w1051 hbox hb; replace HS : Aside0 (Sep (fps []) w [b1 g1050] w1051) := ⟨HS.out.box hg hbox hb⟩; clear hg hbox hb) | ((with_reducible refine gate_dst (N := 3) rfl ?_); refine box_on ?hg (N := 3) ?hd (cs := #[.int .i64 a1049]) (t := 3) ?hr ?_; (case hd => rfl); (case hg => rfl); (case hr => first | (go_simp; done) | (go_simp; rfl)); intro g1053 hg w1054 hbox hb; replace HS : Aside0 (Sep (fps []) w [b1 g1050, b2 g1053 a1049] w1054) := ⟨HS.out.box hg hbox hb⟩; clear hg hbox hb; have hc1056 : w1054.cell? ⟨g1050, 0, none⟩ = some (.pointer none) := blk_cellv (HS.out.at0) 0 rfl; have hc1057 : w1054.cell? ⟨g1053, 0, none⟩ = some (.int .i64 a1049) := blk_cellv (HS.out.at1) 0 rfl))
  clear hc1056 hc1057
  obtain ⟨t1157, HA1158, H⟩ := bind_some H
  refine (tint_change_nil_F54.calls _ a1049 a1049 g1050 g1053 t1157 _ ⟨HGl0.out.pass HS.out⟩ ⟨HS.out.begin⟩ HA1158).mono ?_
  rintro e_ w1159 ⟨rfl, hS⟩
  replace HS : Aside0 (Sep (fps []) w [b1 g1050, b2 g1053 a1049] w1159) := ⟨HS.out.call hS⟩
  clear hS
  replace HS : Aside0 (Sep (fps []) w [] w1159) := ⟨HS.out.sub (.cons _ (.cons _ .slnil))⟩
  go_wp2_with fail
  go_ret
  rw [← some_eq H]
  exact ⟨(by first | rfl | (simp [IntKind.wrap_u32]; done)), HS.out⟩

set_option maxHeartbeats 30000000 in
set_option maxRecDepth 100000 in
theorem obj_in_nil.calls (a1174 : Int) (r : Bool) (w : World)  (HGl0 : Aside0 (Gl 0 #[.int .i64 0, .int .i64 0, .int .i64 0, .int .i64 0, .int .i64 0] (fps []) w)) (HS : Aside0 (Sep (fps []) w [] w)) (H : Aside0 (obj_in_nil.f a1174 = some r)) :
    Calls Tryz.prog 112 #[.pointer none, .int .i64 a1174] w fun e w' => e = .returned (.bool r) ∧ Sep (fps []) w [] w' := by
  unfold obj_in_nil.f at H
  go_enter Tryz.func112, Tryz.ntmps112
  by_cases c1175 : a1174 > 0
  · have H := if_yes c1175 H
    have c1175b0 : decide (0 < a1174) = true := decide_eq_true c1175
    clear c1175
    go_wp2_with fail
    obtain ⟨t1176, HA1177, H⟩ := bind_some H
    refine (ground_Ground_Conf_nil.calls t1176 _ ⟨HGl0.out.pass (l := []) HS.out⟩ ⟨Sep.start _⟩ HA1177).mono ?_
    rintro e_ w1178 ⟨rfl, hS⟩
    replace HS : Aside0 (Sep (fps []) w [] w1178) := ⟨HS.out.call hS⟩
    clear hS
    have fl1179 : ∀ w, (Instr.field 29 (.agg #[.int .i64 t1176.1, .int .i64 t1176.2.1, .int .i64 t1176.2.2.1, .int .i64 t1176.2.2.2]) 0).run Tryz.prog w = .ok (.int .i64 t1176.1) w := fun _ => by kernel_rfl
    go_wp2_with fail
    clear fl1179
    go_ret
    rw [← some_eq H]
    exact ⟨(by first | rfl | (simp [IntKind.wrap_u32]; done)), HS.out⟩
  · have H := if_no c1175 H
    have c1175b0 : decide (0 < a1174) = false := decide_eq_false c1175
    clear c1175
    go_wp2_with fail
    go_ret
    rw [← some_eq H]
    exact ⟨(by first | rfl | (simp [IntKind.wrap_u32]; done)), HS.out⟩

set_option maxHeartbeats 30000000 in
set_option maxRecDepth 100000 in
theorem pack_Get.calls (a1200 : Int) (a1201 : Int) (a1202 : Int) (r : Int) (w : World)  (HGl0 : Aside0 (Gl 0 #[.int .i64 0, .int .i64 0, .int .i64 0, .int .i64 0, .int .i64 0] (fps []) w)) (HS : Aside0 (Sep (fps []) w [] w)) (H : Aside0 (pack_Get.f a1200 a1201 a1202 = some r)) :
    Calls Tryz.prog 157 #[.int .u32 a1200, .int .i64 a1201, .int .i64 a1202] w fun e w' => e = .returned (.int .u32 r) ∧ Sep (fps []) w [] w' := by
  unfold pack_Get.f at H
  go_enter Tryz.func157, Tryz.ntmps157
  go_wp2_with fail
  obtain ⟨t1203, HA1204, H⟩ := bind_some H
  refine (pack_isPiece.calls a1201 a1202 t1203 _ ⟨HGl0.out.pass (l := []) HS.out⟩ ⟨Sep.start _⟩ HA1204).mono ?_
  rintro e_ w1205 ⟨rfl, hS⟩
  replace HS : Aside0 (Sep (fps []) w [] w1205) := ⟨HS.out.call hS⟩
  clear hS
  by_cases c1206 : t1203 = true
  · have H := if_yes c1206 H
    have c1206b0 : t1203 = true := c1206
    have c1206b1 : (!t1203) = false := by rw [c1206b0]; rfl
    try rw [c1206b1]
    clear c1206
    go_wp2_with fail
    obtain ⟨t1207, HA1208, H⟩ := bind_some H
    refine (pack_mask.calls a1201 a1202 t1207 _ ⟨HGl0.out.pass (l := []) HS.out⟩ ⟨Sep.start _⟩ HA1208).mono ?_
    rintro e_ w1209 ⟨rfl, hS⟩
    replace HS : Aside0 (Sep (fps []) w [] w1209) := ⟨HS.out.call hS⟩
    clear hS
    by_cases c1210 : 0 ≤ (IntKind.u64.wrap (a1201))
    · have H := if_yes c1210 H
      have c1210b0 : decide (0 ≤ (IntKind.u64.wrap (a1201))) = true := decide_eq_true c1210
      skip
      go_wp2_with fail
      clear c1210
      go_ret
      rw [← some_eq H]
      exact ⟨(by first | rfl | (simp [IntKind.wrap_u32]; done)), HS.out⟩
    · have H := if_no c1210 H
      have c1210b0 : decide (0 ≤ (IntKind.u64.wrap (a1201))) = false := decide_eq_false c1210
      exact (none_no H).elim
  · have H := if_no c1206 H
    have c1206b0 : t1203 = false := by simpa using c1206
    have c1206b1 : (!t1203) = true := by rw [c1206b0]; rfl
    try rw [c1206b1]
    clear c1206
    go_wp2_with fail
    go_ret
    rw [← some_eq H]
    exact ⟨(by first | rfl | (simp [IntKind.wrap_u32]; done)), HS.out⟩

set_option maxHeartbeats 30000000 in
set_option maxRecDepth 100000 in
theorem tag_Unpack_1.calls (a1194 : Int) (a1195 : Int) (a1198 : Int) (g1197 : Nat) (r : Int) (w : World)  (HGl0 : Aside0 (Gl 0 #[.int .i64 0, .int .i64 0, .int .i64 0, .int .i64 0, .int .i64 0] (fps [b6 g1197 a1198]) w)) (HS : Aside0 (Sep (fps [b6 g1197 a1198]) w [b6 g1197 a1198] w)) (H : Aside0 (tag_Unpack_1.f a1194 a1195 a1198 = some r)) :
    Calls Tryz.prog 156 #[.int .i64 a1194, .int .i64 a1195, .pointer (some ⟨g1197, 0, none⟩)] w fun e w' => e = .returned (.int .i64 r) ∧ Sep (fps [b6 g1197 a1198]) w [b6 g1197 a1198] w' := by
  generalize (fps [b6 g1197 a1198]) = FF at HS HGl0 ⊢
  unfold tag_Unpack_1.f at H
  go_enter Tryz.func156, Tryz.ntmps156
  have hc1199 : w.cell? ⟨g1197, 0, none⟩ = some (.int .u32 a1198) := blk_cellv (HS.out.at0) 0 rfl
  go_wp2_with fail
  clear hc1199
  obtain ⟨t1211, HA1212, H⟩ := bind_some H
  refine (pack_Get.calls a1198 a1194 a1195 t1211 _ ⟨HGl0.out.pass (l := []) HS.out⟩ ⟨Sep.start _⟩ HA1212).mono ?_
  rintro e_ w1213 ⟨rfl, hS⟩
  replace HS : Aside0 (Sep FF w [b6 g1197 a1198] w1213) := ⟨HS.out.call hS⟩
  clear hS
  go_wp2_with fail
  go_ret
  rw [← some_eq H]
  exact ⟨(by first | rfl | (simp [IntKind.wrap_u32]; done)), HS.out⟩

set_option maxHeartbeats 30000000 in
set_option maxRecDepth 100000 in
theorem tag_Unpack.calls (a1187 : Int) (r : Int × Int × Int × Int × Int × Int × Int) (w : World)  (HGl0 : Aside0 (Gl 0 #[.int .i64 0, .int .i64 0, .int .i64 0, .int .i64 0, .int .i64 0] (fps []) w)) (HS : Aside0 (Sep (fps []) w [] w)) (H : Aside0 (tag_Unpack.f a1187 = some r)) :
    Calls Tryz.prog 109 #[.int .u32 a1187] w fun e w' => e = .returned (.agg #[.int .i64 r.1, .int .i64 r.2.1, .int .i64 r.2.2.1, .int .i64 r.2.2.2.1, .int .i64 r.2.2.2.2.1, .int .i64 r.2.2.2.2.2.1, .int .i64 r.2.2.2.2.2.2]) ∧ Sep (fps []) w [] w' := by
  unfold tag_Unpack.f at H
  go_enter Tryz.func109, Tryz.ntmps109
  go_wp2_with (first | ((with_reducible refine gate_dst (N := 1) rfl ?_); refine box_on ?hg (N := 1) ?hd (cs := #[.int .u32 a1187]) (t := 57) ?hr ?_; (case hd => rfl); (case hg => rfl); (case hr => first | (go_simp; done) | (go_simp; rfl)); intro g1188 hg w1189 hbox hb; replace HS : Aside0 (Sep (fps []) w [b6 g1188 a1187] w1189) := ⟨HS.out.box hg hbox hb⟩; clear hg hbox hb) | ((with_reducible refine gate_dst (N := 2) rfl ?_); refine box_on ?hg (N := 2) ?hd (cs := #[.int .i64 0, .int .i64 0, .int .i64 0, .int .i64 0, .int .i64 0, .int .i64 0, .int .i64 0]) (t := 79) ?hr ?_; (case hd => rfl); (case hg => rfl); (case hr => first | (go_simp; done) | (go_simp; rfl)); intro g1191 hg w1192 hbox hb; replace HS : Aside0 (Sep (fps []) w [b6 g1188 a1187, b3 g1191 0 0 0 0 0 0 0] w1192) := ⟨HS.out.box hg hbox hb⟩; clear hg hbox hb))
  obtain ⟨t1214, HA1215, H⟩ := bind_some H
  refine (tag_Unpack_1.calls 0 2 a1187 g1188 t1214 _ ⟨HGl0.out.pass HS.out⟩ ⟨HS.out.begin⟩ HA1215).mono ?_
  rintro e_ w1216 ⟨rfl, hS⟩
  replace HS : Aside0 (Sep (fps []) w [b6 g1188 a1187, b3 g1191 0 0 0 0 0 0 0] w1216) := ⟨HS.out.call hS⟩
  clear hS
  go_wp2_with fail
  obtain ⟨t1217, HA1218, H⟩ := bind_some H
  refine (tag_Unpack_1.calls 2 1 a1187 g1188 t1217 _ ⟨HGl0.out.pass HS.out⟩ ⟨HS.out.begin⟩ HA1218).mono ?_
  rintro e_ w1219 ⟨rfl, hS⟩
  replace HS : Aside0 (Sep (fps []) w [b6 g1188 a1187, b3 g1191 0 0 0 0 0 0 0] w1219) := ⟨HS.out.call hS⟩
  clear hS
  go_wp2_with fail
  obtain ⟨t1220, HA1221, H⟩ := bind_some H
  refine (tag_Unpack_1.calls 3 1 a1187 g1188 t1220 _ ⟨HGl0.out.pass HS.out⟩ ⟨HS.out.begin⟩ HA1221).mono ?_
  rintro e_ w1222 ⟨rfl, hS⟩
  replace HS : Aside0 (Sep (fps []) w [b6 g1188 a1187, b3 g1191 0 0 0 0 0 0 0] w1222) := ⟨HS.out.call hS⟩
  clear hS
  go_wp2_with fail
  obtain ⟨t1223, HA1224, H⟩ := bind_some H
  refine (tag_Unpack_1.calls 4 1 a1187 g1188 t1223 _ ⟨HGl0.out.pass HS.out⟩ ⟨HS.out.begin⟩ HA1224).mono ?_
  rintro e_ w1225 ⟨rfl, hS⟩
  replace HS : Aside0 (Sep (fps []) w [b6 g1188 a1187, b3 g1191 0 0 0 0 0 0 0] w1225) := ⟨HS.out.call hS⟩
  clear hS
  go_wp2_with fail
  obtain ⟨t1226, HA1227, H⟩ := bind_some H
  refine (tag_Unpack_1.calls 5 1 a1187 g1188 t1226 _ ⟨HGl0.out.pass HS.out⟩ ⟨HS.out.begin⟩ HA1227).mono ?_
  rintro e_ w1228 ⟨rfl, hS⟩
  replace HS : Aside0 (Sep (fps []) w [b6 g1188 a1187, b3 g1191 0 0 0 0 0 0 0] w1228) := ⟨HS.out.call hS⟩
  clear hS
  go_wp2_with fail
  obtain ⟨t1229, HA1230, H⟩ := bind_some H
  refine (tag_Unpack_1.calls 6 1 a1187 g1188 t1229 _ ⟨HGl0.out.pass HS.out⟩ ⟨HS.out.begin⟩ HA1230).mono ?_
  rintro e_ w1231 ⟨rfl, hS⟩
  replace HS : Aside0 (Sep (fps []) w [b6 g1188 a1187, b3 g1191 0 0 0 0 0 0 0] w1231) := ⟨HS.out.call hS⟩
  clear hS
  go_wp2_with fail
  obtain ⟨t1232, HA1233, H⟩ := bind_some H
  refine (tag_Unpack_1.calls 8 24 a1187 g1188 t1232 _ ⟨HGl0.out.pass HS.out⟩ ⟨HS.out.begin⟩ HA1233).mono ?_
  rintro e_ w1234 ⟨rfl, hS⟩
  replace HS : Aside0 (Sep (fps []) w [b6 g1188 a1187, b3 g1191 0 0 0 0 0 0 0] w1234) := ⟨HS.out.call hS⟩
  clear hS
  have hc1235 : w1234.cell? ⟨g1191, 0, none⟩ = some (.int .i64 0) := blk_cellv (HS.out.at1) 0 rfl
  have hz1236 : w1234.frozen? ⟨g1191, 0, none⟩ = false := blk_fz (HS.out.at1) 0
  have hc1237 : w1234.cell? ⟨g1191, 1, none⟩ = some (.int .i64 0) := blk_cellv (HS.out.at1) 1 rfl
  have hz1238 : w1234.frozen? ⟨g1191, 1, none⟩ = false := blk_fz (HS.out.at1) 1
  have hc1239 : w1234.cell? ⟨g1191, 2, none⟩ = some (.int .i64 0) := blk_cellv (HS.out.at1) 2 rfl
  have hz1240 : w1234.frozen? ⟨g1191, 2, none⟩ = false := blk_fz (HS.out.at1) 2
  have hc1241 : w1234.cell? ⟨g1191, 3, none⟩ = some (.int .i64 0) := blk_cellv (HS.out.at1) 3 rfl
  have hz1242 : w1234.frozen? ⟨g1191, 3, none⟩ = false := blk_fz (HS.out.at1) 3
  have hc1243 : w1234.cell? ⟨g1191, 4, none⟩ = some (.int .i64 0) := blk_cellv (HS.out.at1) 4 rfl
  have hz1244 : w1234.frozen? ⟨g1191, 4, none⟩ = false := blk_fz (HS.out.at1) 4
  have hc1245 : w1234.cell? ⟨g1191, 5, none⟩ = some (.int .i64 0) := blk_cellv (HS.out.at1) 5 rfl
  have hz1246 : w1234.frozen? ⟨g1191, 5, none⟩ = false := blk_fz (HS.out.at1) 5
  have hc1247 : w1234.cell? ⟨g1191, 6, none⟩ = some (.int .i64 0) := blk_cellv (HS.out.at1) 6 rfl
  have hz1248 : w1234.frozen? ⟨g1191, 6, none⟩ = false := blk_fz (HS.out.at1) 6
  go_wp2_with (first | ((with_reducible refine gate_store (t := 79) (p := 2) rfl ?_); refine store_event (w1 := (World.setCell (World.setCell (World.setCell (World.setCell (World.setCell (World.setCell (World.setCell w1234 ⟨g1191, 0, none⟩ (.int .i64 t1214)) ⟨g1191, 1, none⟩ (.int .i64 t1217)) ⟨g1191, 2, none⟩ (.int .i64 t1220)) ⟨g1191, 3, none⟩ (.int .i64 t1223)) ⟨g1191, 4, none⟩ (.int .i64 t1226)) ⟨g1191, 5, none⟩ (.int .i64 t1229)) ⟨g1191, 6, none⟩ (.int .i64 t1232))) rfl (t := 79) (p := 2) rfl rfl ?hr ?_; (case hr => first | (go_simp; done) | (go_simp; rfl)); intro w1249 hst; clear hc1235 hz1236 hc1237 hz1238 hc1239 hz1240 hc1241 hz1242 hc1243 hz1244 hc1245 hz1246 hc1247 hz1248; replace HS : Aside0 (Sep (fps []) w [b6 g1188 a1187, b3 g1191 t1214 t1217 t1220 t1223 t1226 t1229 t1232] w1249) := ⟨by rw [hst]; exact HS.out.setAll (l1 := [b6 g1188 a1187]) (l2 := []) [.int .i64 t1214, .int .i64 t1217, .int .i64 t1220, .int .i64 t1223, .int .i64 t1226, .int .i64 t1229, .int .i64 t1232] rfl⟩; clear hst; replace HS : Aside0 (Sep (fps []) w [b3 g1191 t1214 t1217 t1220 t1223 t1226 t1229 t1232] w1249) := ⟨HS.out.sub (.cons _ (.cons_cons _ .slnil))⟩))
  have hc1250 : w1249.cell? ⟨g1191, 0, none⟩ = some (.int .i64 t1214) := blk_cellv (HS.out.at0) 0 rfl
  have hc1251 : w1249.cell? ⟨g1191, 1, none⟩ = some (.int .i64 t1217) := blk_cellv (HS.out.at0) 1 rfl
  have hc1252 : w1249.cell? ⟨g1191, 2, none⟩ = some (.int .i64 t1220) := blk_cellv (HS.out.at0) 2 rfl
  have hc1253 : w1249.cell? ⟨g1191, 3, none⟩ = some (.int .i64 t1223) := blk_cellv (HS.out.at0) 3 rfl
  have hc1254 : w1249.cell? ⟨g1191, 4, none⟩ = some (.int .i64 t1226) := blk_cellv (HS.out.at0) 4 rfl
  have hc1255 : w1249.cell? ⟨g1191, 5, none⟩ = some (.int .i64 t1229) := blk_cellv (HS.out.at0) 5 rfl
  have hc1256 : w1249.cell? ⟨g1191, 6, none⟩ = some (.int .i64 t1232) := blk_cellv (HS.out.at0) 6 rfl
  refine bodyPost_ret (v := .agg #[.int .i64 t1214, .int .i64 t1217, .int .i64 t1220, .int .i64 t1223, .int .i64 t1226, .int .i64 t1229, .int .i64 t1232]) (by simp [results, Tryz.results109, go_sem, hc1250, hc1251, hc1252, hc1253, hc1254, hc1255, hc1256]) rfl ?_
  rw [← some_eq H]
  exact ⟨(by first | rfl | (simp [IntKind.wrap_u32]; done)), HS.out.sub (.cons _ .slnil)⟩

set_option maxHeartbeats 30000000 in
set_option maxRecDepth 100000 in
theorem obj_isHead.calls (a1261 : Int) (r : Bool) (w : World)  (HGl0 : Aside0 (Gl 0 #[.int .i64 0, .int .i64 0, .int .i64 0, .int .i64 0, .int .i64 0] (fps []) w)) (HS : Aside0 (Sep (fps []) w [] w)) (H : Aside0 (obj_isHead.f a1261 = some r)) :
    Calls Tryz.prog 113 #[.int .i64 a1261] w fun e w' => e = .returned (.bool r) ∧ Sep (fps []) w [] w' := by
  unfold obj_isHead.f at H
  go_enter Tryz.func113, Tryz.ntmps113
  by_cases c1262 : a1261 = 1
  · have H := if_yes c1262 H
    have c1262b0 : (a1261 == 1) = true := beq_iff_eq.mpr c1262
    have c1262b1 : (a1261 != 1) = false := bne_eq_false_iff_eq.mpr c1262
    clear c1262
    go_wp2_with fail
    go_ret
    rw [← some_eq H]
    exact ⟨(by first | rfl | (simp [IntKind.wrap_u32]; done)), HS.out⟩
  · have H := if_no c1262 H
    have c1262b0 : (a1261 == 1) = false := beq_eq_false_iff_ne.mpr c1262
    have c1262b1 : (a1261 != 1) = true := bne_iff_ne.mpr c1262
    clear c1262
    go_wp2_with fail
    go_ret
    rw [← some_eq H]
    exact ⟨(by first | rfl | (simp [IntKind.wrap_u32]; done)), HS.out⟩

set_option maxHeartbeats 30000000 in
set_option maxRecDepth 100000 in
theorem obj_Is_nil.calls (a1173 : Int) (r : Bool) (w : World)  (HGl0 : Aside0 (Gl 0 #[.int .i64 0, .int .i64 0, .int .i64 0, .int .i64 0, .int .i64 0] (fps []) w)) (HS : Aside0 (Sep (fps []) w [] w)) (H : Aside0 (obj_Is_nil.f a1173 = some r)) :
    Calls Tryz.prog 61 #[.pointer none, .int .i64 a1173] w fun e w' => e = .returned (.bool r) ∧ Sep (fps []) w [] w' := by
  unfold obj_Is_nil.f at H
  go_enter Tryz.func61, Tryz.ntmps61
  go_wp2_with fail
  obtain ⟨t1180, HA1181, H⟩ := bind_some H
  refine (obj_in_nil.calls a1173 t1180 _ ⟨HGl0.out.pass (l := []) HS.out⟩ ⟨Sep.start _⟩ HA1181).mono ?_
  rintro e_ w1182 ⟨rfl, hS⟩
  replace HS : Aside0 (Sep (fps []) w [] w1182) := ⟨HS.out.call hS⟩
  clear hS
  by_cases c1183 : t1180 = true
  · have H := if_yes c1183 H
    have c1183b0 : t1180 = true := c1183
    have c1183b1 : (!t1180) = false := by rw [c1183b0]; rfl
    clear c1183
    go_wp2_with fail
    obtain ⟨t1184, HA1185, H⟩ := bind_some H
    refine (ground_Ground_Word_nil.calls (wrap64 (a1173 - 1)) 0 t1184 _ ⟨HGl0.out.pass (l := []) HS.out⟩ ⟨Sep.start _⟩ HA1185).mono ?_
    rintro e_ w1186 ⟨rfl, hS⟩
    replace HS : Aside0 (Sep (fps []) w [] w1186) := ⟨HS.out.call hS⟩
    clear hS
    go_wp2_with fail
    obtain ⟨t1257, HA1258, H⟩ := bind_some H
    refine (tag_Unpack.calls t1184 t1257 _ ⟨HGl0.out.pass (l := []) HS.out⟩ ⟨Sep.start _⟩ HA1258).mono ?_
    rintro e_ w1259 ⟨rfl, hS⟩
    replace HS : Aside0 (Sep (fps []) w [] w1259) := ⟨HS.out.call hS⟩
    clear hS
    have fl1260 : ∀ w, (Instr.field 79 (.agg #[.int .i64 t1257.1, .int .i64 t1257.2.1, .int .i64 t1257.2.2.1, .int .i64 t1257.2.2.2.1, .int .i64 t1257.2.2.2.2.1, .int .i64 t1257.2.2.2.2.2.1, .int .i64 t1257.2.2.2.2.2.2]) 0).run Tryz.prog w = .ok (.int .i64 t1257.1) w := fun _ => by kernel_rfl
    go_wp2_with fail
    clear fl1260
    obtain ⟨t1263, HA1264, H⟩ := bind_some H
    refine (obj_isHead.calls t1257.1 t1263 _ ⟨HGl0.out.pass (l := []) HS.out⟩ ⟨Sep.start _⟩ HA1264).mono ?_
    rintro e_ w1265 ⟨rfl, hS⟩
    replace HS : Aside0 (Sep (fps []) w [] w1265) := ⟨HS.out.call hS⟩
    clear hS
    go_wp2_with fail
    go_ret
    rw [← some_eq H]
    exact ⟨(by first | rfl | (simp [IntKind.wrap_u32]; done)), HS.out⟩
  · have H := if_no c1183 H
    have c1183b0 : t1180 = false := by simpa using c1183
    have c1183b1 : (!t1180) = true := by rw [c1183b0]; rfl
    clear c1183
    go_wp2_with fail
    go_ret
    rw [← some_eq H]
    exact ⟨(by first | rfl | (simp [IntKind.wrap_u32]; done)), HS.out⟩

set_option maxHeartbeats 30000000 in
set_option maxRecDepth 100000 in
theorem tint_Lighten_nil.calls (a1164 : Int) (r : Bool) (w : World)  (HGl0 : Aside0 (Gl 0 #[.int .i64 0, .int .i64 0, .int .i64 0, .int .i64 0, .int .i64 0] (fps []) w)) (HS : Aside0 (Sep (fps []) w [] w)) (H : Aside0 (tint_Lighten_nil.f a1164 = some r)) :
    Calls Tryz.prog 27 #[.pointer none, .int .i64 a1164] w fun e w' => e = .returned (.bool r) ∧ Sep (fps []) w [] w' := by
  unfold tint_Lighten_nil.f at H
  go_enter Tryz.func27, Tryz.ntmps27
  go_wp2_with fail
  obtain ⟨t1165, HA1166, H⟩ := bind_some H
  refine (tint_Phase_nil.calls t1165 _ ⟨HGl0.out.pass (l := []) HS.out⟩ ⟨Sep.start _⟩ HA1166).mono ?_
  rintro e_ w1167 ⟨rfl, hS⟩
  replace HS : Aside0 (Sep (fps []) w [] w1167) := ⟨HS.out.call hS⟩
  clear hS
  by_cases c1168 : t1165 = 1
  · have H := if_yes c1168 H
    have c1168b0 : (t1165 == 1) = true := beq_iff_eq.mpr c1168
    have c1168b1 : (t1165 != 1) = false := bne_eq_false_iff_eq.mpr c1168
    clear c1168
    go_wp2_with fail
    obtain ⟨t1169, HA1170, H⟩ := bind_some H
    refine (tint_Black_nil.calls a1164 t1169 _ ⟨HGl0.out.pass (l := []) HS.out⟩ ⟨Sep.start _⟩ HA1170).mono ?_
    rintro e_ w1171 ⟨rfl, hS⟩
    replace HS : Aside0 (Sep (fps []) w [] w1171) := ⟨HS.out.call hS⟩
    clear hS
    by_cases c1172 : t1169 = true
    · have H := if_yes c1172 H
      have c1172b0 : t1169 = true := c1172
      have c1172b1 : (!t1169) = false := by rw [c1172b0]; rfl
      clear c1172
      go_wp2_with fail
      go_ret
      rw [← some_eq H]
      exact ⟨(by first | rfl | (simp [IntKind.wrap_u32]; done)), HS.out⟩
    · have H := if_no c1172 H
      have c1172b0 : t1169 = false := by simpa using c1172
      have c1172b1 : (!t1169) = true := by rw [c1172b0]; rfl
      clear c1172
      go_wp2_with fail
      obtain ⟨t1266, HA1267, H⟩ := bind_some H
      refine (obj_Is_nil.calls a1164 t1266 _ ⟨HGl0.out.pass (l := []) HS.out⟩ ⟨Sep.start _⟩ HA1267).mono ?_
      rintro e_ w1268 ⟨rfl, hS⟩
      replace HS : Aside0 (Sep (fps []) w [] w1268) := ⟨HS.out.call hS⟩
      clear hS
      by_cases c1269 : t1266 = true
      · have H := if_yes c1269 H
        have c1269b0 : t1266 = true := c1269
        have c1269b1 : (!t1266) = false := by rw [c1269b0]; rfl
        try rw [c1269b1]
        clear c1269
        go_wp2_with fail
        obtain ⟨t1270, HA1271, H⟩ := bind_some H
        refine (tint_Shadow_nil.calls a1164 t1270 _ ⟨HGl0.out.pass (l := []) HS.out⟩ ⟨Sep.start _⟩ HA1271).mono ?_
        rintro e_ w1272 ⟨rfl, hS⟩
        replace HS : Aside0 (Sep (fps []) w [] w1272) := ⟨HS.out.call hS⟩
        clear hS
        by_cases c1273 : t1270 > 0
        · have H := if_yes c1273 H
          have c1273b0 : decide (0 < t1270) = true := decide_eq_true c1273
          clear c1273
          go_wp2_with fail
          obtain ⟨t1274, HA1275, H⟩ := bind_some H
          refine (ground_Ground_SetWord_nil.calls (wrap64 (a1164 - 1)) 4 ((wrap64 (t1270 - 1)) % 4294967296) t1274 _ ⟨HGl0.out.pass (l := []) HS.out⟩ ⟨Sep.start _⟩ HA1275).mono ?_
          rintro e_ w1276 ⟨rfl, hS⟩
          replace HS : Aside0 (Sep (fps []) w [] w1276) := ⟨HS.out.call hS⟩
          clear hS
          go_wp2_with fail
          go_ret
          rw [← some_eq H]
          exact ⟨(by first | rfl | (simp [IntKind.wrap_u32]; done)), HS.out⟩
        · have H := if_no c1273 H
          have c1273b0 : decide (0 < t1270) = false := decide_eq_false c1273
          clear c1273
          go_wp2_with fail
          go_ret
          rw [← some_eq H]
          exact ⟨(by first | rfl | (simp [IntKind.wrap_u32]; done)), HS.out⟩
      · have H := if_no c1269 H
        have c1269b0 : t1266 = false := by simpa using c1269
        have c1269b1 : (!t1266) = true := by rw [c1269b0]; rfl
        try rw [c1269b1]
        clear c1269
        go_wp2_with fail
        go_ret
        rw [← some_eq H]
        exact ⟨(by first | rfl | (simp [IntKind.wrap_u32]; done)), HS.out⟩
  · have H := if_no c1168 H
    have c1168b0 : (t1165 == 1) = false := beq_eq_false_iff_ne.mpr c1168
    have c1168b1 : (t1165 != 1) = true := bne_iff_ne.mpr c1168
    clear c1168
    by_cases c1277 : t1165 = 2
    · have H := if_yes c1277 H
      have c1277b0 : (t1165 == 2) = true := beq_iff_eq.mpr c1277
      have c1277b1 : (t1165 != 2) = false := bne_eq_false_iff_eq.mpr c1277
      clear c1277
      go_wp2_with fail
      obtain ⟨t1169, HA1278, H⟩ := bind_some H
      refine (tint_Black_nil.calls a1164 t1169 _ ⟨HGl0.out.pass (l := []) HS.out⟩ ⟨Sep.start _⟩ HA1278).mono ?_
      rintro e_ w1279 ⟨rfl, hS⟩
      replace HS : Aside0 (Sep (fps []) w [] w1279) := ⟨HS.out.call hS⟩
      clear hS
      by_cases c1280 : t1169 = true
      · have H := if_yes c1280 H
        have c1280b0 : t1169 = true := c1280
        have c1280b1 : (!t1169) = false := by rw [c1280b0]; rfl
        clear c1280
        go_wp2_with fail
        go_ret
        rw [← some_eq H]
        exact ⟨(by first | rfl | (simp [IntKind.wrap_u32]; done)), HS.out⟩
      · have H := if_no c1280 H
        have c1280b0 : t1169 = false := by simpa using c1280
        have c1280b1 : (!t1169) = true := by rw [c1280b0]; rfl
        clear c1280
        go_wp2_with fail
        obtain ⟨t1266, HA1281, H⟩ := bind_some H
        refine (obj_Is_nil.calls a1164 t1266 _ ⟨HGl0.out.pass (l := []) HS.out⟩ ⟨Sep.start _⟩ HA1281).mono ?_
        rintro e_ w1282 ⟨rfl, hS⟩
        replace HS : Aside0 (Sep (fps []) w [] w1282) := ⟨HS.out.call hS⟩
        clear hS
        by_cases c1283 : t1266 = true
        · have H := if_yes c1283 H
          have c1283b0 : t1266 = true := c1283
          have c1283b1 : (!t1266) = false := by rw [c1283b0]; rfl
          try rw [c1283b1]
          clear c1283
          go_wp2_with fail
          obtain ⟨t1270, HA1284, H⟩ := bind_some H
          refine (tint_Shadow_nil.calls a1164 t1270 _ ⟨HGl0.out.pass (l := []) HS.out⟩ ⟨Sep.start _⟩ HA1284).mono ?_
          rintro e_ w1285 ⟨rfl, hS⟩
          replace HS : Aside0 (Sep (fps []) w [] w1285) := ⟨HS.out.call hS⟩
          clear hS
          by_cases c1286 : t1270 > 0
          · have H := if_yes c1286 H
            have c1286b0 : decide (0 < t1270) = true := decide_eq_true c1286
            clear c1286
            go_wp2_with fail
            obtain ⟨t1274, HA1287, H⟩ := bind_some H
            refine (ground_Ground_SetWord_nil.calls (wrap64 (a1164 - 1)) 4 ((wrap64 (t1270 - 1)) % 4294967296) t1274 _ ⟨HGl0.out.pass (l := []) HS.out⟩ ⟨Sep.start _⟩ HA1287).mono ?_
            rintro e_ w1288 ⟨rfl, hS⟩
            replace HS : Aside0 (Sep (fps []) w [] w1288) := ⟨HS.out.call hS⟩
            clear hS
            go_wp2_with fail
            go_ret
            rw [← some_eq H]
            exact ⟨(by first | rfl | (simp [IntKind.wrap_u32]; done)), HS.out⟩
          · have H := if_no c1286 H
            have c1286b0 : decide (0 < t1270) = false := decide_eq_false c1286
            clear c1286
            go_wp2_with fail
            go_ret
            rw [← some_eq H]
            exact ⟨(by first | rfl | (simp [IntKind.wrap_u32]; done)), HS.out⟩
        · have H := if_no c1283 H
          have c1283b0 : t1266 = false := by simpa using c1283
          have c1283b1 : (!t1266) = true := by rw [c1283b0]; rfl
          try rw [c1283b1]
          clear c1283
          go_wp2_with fail
          go_ret
          rw [← some_eq H]
          exact ⟨(by first | rfl | (simp [IntKind.wrap_u32]; done)), HS.out⟩
    · have H := if_no c1277 H
      have c1277b0 : (t1165 == 2) = false := beq_eq_false_iff_ne.mpr c1277
      have c1277b1 : (t1165 != 2) = true := bne_iff_ne.mpr c1277
      clear c1277
      go_wp2_with fail
      go_ret
      rw [← some_eq H]
      exact ⟨(by first | rfl | (simp [IntKind.wrap_u32]; done)), HS.out⟩

set_option maxHeartbeats 30000000 in
set_option maxRecDepth 100000 in
theorem tint_Counted_nil.calls (a1293 : Int) (a1294 : Int) (r : Bool) (w : World)  (HGl0 : Aside0 (Gl 0 #[.int .i64 0, .int .i64 0, .int .i64 0, .int .i64 0, .int .i64 0] (fps []) w)) (HS : Aside0 (Sep (fps []) w [] w)) (H : Aside0 (tint_Counted_nil.f a1293 a1294 = some r)) :
    Calls Tryz.prog 13 #[.pointer none, .int .i64 a1293, .int .i64 a1294] w fun e w' => e = .returned (.bool r) ∧ Sep (fps []) w [] w' := by
  unfold tint_Counted_nil.f at H
  go_enter Tryz.func13, Tryz.ntmps13
  go_wp2_with fail
  obtain ⟨t1295, HA1296, H⟩ := bind_some H
  refine (tint_of_nil.calls a1293 t1295 _ ⟨HGl0.out.pass (l := []) HS.out⟩ ⟨Sep.start _⟩ HA1296).mono ?_
  rintro e_ w1297 ⟨rfl, hS⟩
  replace HS : Aside0 (Sep (fps []) w [] w1297) := ⟨HS.out.call hS⟩
  clear hS
  by_cases c1316 : t1295.2.2.2.2.2.2.2 = true
  · have H := if_yes c1316 H
    have c1316b0 : t1295.2.2.2.2.2.2.2 = true := c1316
    have c1316b1 : (!t1295.2.2.2.2.2.2.2) = false := by rw [c1316b0]; rfl
    try rw [c1316b1]
    clear c1316
    by_cases c1317 : a1294 < 0
    · have H := if_yes c1317 H
      have c1317b0 : decide (a1294 < 0) = true := decide_eq_true c1317
      clear c1317
      go_wp2_with (first | ((with_reducible refine gate_dst (N := 7) rfl ?_); refine box_on ?hg (N := 7) ?hd (cs := #[.int .i64 0, .int .i64 0, .int .i64 0, .int .i64 0, .int .i64 0, .int .i64 0, .int .i64 0]) (t := 79) ?hr ?_; (case hd => rfl); (case hg => rfl); (case hr => first | (go_simp; done) | (go_simp; rfl)); intro g1298 hg w1299 hbox hb; replace HS : Aside0 (Sep (fps []) w [b3 g1298 0 0 0 0 0 0 0] w1299) := ⟨HS.out.box hg hbox hb⟩; clear hg hbox hb; have hc1301 : w1299.cell? ⟨g1298, 0, none⟩ = some (.int .i64 0) := blk_cellv (HS.out.at0) 0 rfl; have hz1302 : w1299.frozen? ⟨g1298, 0, none⟩ = false := blk_fz (HS.out.at0) 0; have hc1303 : w1299.cell? ⟨g1298, 1, none⟩ = some (.int .i64 0) := blk_cellv (HS.out.at0) 1 rfl; have hz1304 : w1299.frozen? ⟨g1298, 1, none⟩ = false := blk_fz (HS.out.at0) 1; have hc1305 : w1299.cell? ⟨g1298, 2, none⟩ = some (.int .i64 0) := blk_cellv (HS.out.at0) 2 rfl; have hz1306 : w1299.frozen? ⟨g1298, 2, none⟩ = false := blk_fz (HS.out.at0) 2; have hc1307 : w1299.cell? ⟨g1298, 3, none⟩ = some (.int .i64 0) := blk_cellv (HS.out.at0) 3 rfl; have hz1308 : w1299.frozen? ⟨g1298, 3, none⟩ = false := blk_fz (HS.out.at0) 3; have hc1309 : w1299.cell? ⟨g1298, 4, none⟩ = some (.int .i64 0) := blk_cellv (HS.out.at0) 4 rfl; have hz1310 : w1299.frozen? ⟨g1298, 4, none⟩ = false := blk_fz (HS.out.at0) 4; have hc1311 : w1299.cell? ⟨g1298, 5, none⟩ = some (.int .i64 0) := blk_cellv (HS.out.at0) 5 rfl; have hz1312 : w1299.frozen? ⟨g1298, 5, none⟩ = false := blk_fz (HS.out.at0) 5; have hc1313 : w1299.cell? ⟨g1298, 6, none⟩ = some (.int .i64 0) := blk_cellv (HS.out.at0) 6 rfl; have hz1314 : w1299.frozen? ⟨g1298, 6, none⟩ = false := blk_fz (HS.out.at0) 6) | ((with_reducible refine gate_store (t := 79) (p := 7) rfl ?_); refine store_event (w1 := (World.setCell (World.setCell (World.setCell (World.setCell (World.setCell (World.setCell (World.setCell w1299 ⟨g1298, 0, none⟩ (.int .i64 t1295.1)) ⟨g1298, 1, none⟩ (.int .i64 t1295.2.1)) ⟨g1298, 2, none⟩ (.int .i64 t1295.2.2.1)) ⟨g1298, 3, none⟩ (.int .i64 t1295.2.2.2.1)) ⟨g1298, 4, none⟩ (.int .i64 t1295.2.2.2.2.1)) ⟨g1298, 5, none⟩ (.int .i64 t1295.2.2.2.2.2.1)) ⟨g1298, 6, none⟩ (.int .i64 t1295.2.2.2.2.2.2.1))) rfl (t := 79) (p := 7) rfl rfl ?hr ?_; (case hr => first | (go_simp; done) | (go_simp; rfl)); intro w1315 hst; clear hc1301 hz1302 hc1303 hz1304 hc1305 hz1306 hc1307 hz1308 hc1309 hz1310 hc1311 hz1312 hc1313 hz1314; replace HS : Aside0 (Sep (fps []) w [b3 g1298 t1295.1 t1295.2.1 t1295.2.2.1 t1295.2.2.2.1 t1295.2.2.2.2.1 t1295.2.2.2.2.2.1 t1295.2.2.2.2.2.2.1] w1315) := ⟨by rw [hst]; exact HS.out.setAll (l1 := []) (l2 := []) [.int .i64 t1295.1, .int .i64 t1295.2.1, .int .i64 t1295.2.2.1, .int .i64 t1295.2.2.2.1, .int .i64 t1295.2.2.2.2.1, .int .i64 t1295.2.2.2.2.2.1, .int .i64 t1295.2.2.2.2.2.2.1] rfl⟩; clear hst; replace HS : Aside0 (Sep (fps []) w [] w1315) := ⟨HS.out.sub (.cons _ .slnil)⟩))
      go_ret
      rw [← some_eq H]
      exact ⟨(by first | rfl | (simp [IntKind.wrap_u32]; done)), HS.out⟩
    · have H := if_no c1317 H
      have c1317b0 : decide (a1294 < 0) = false := decide_eq_false c1317
      clear c1317
      go_wp2_with (first | ((with_reducible refine gate_dst (N := 7) rfl ?_); refine box_on ?hg (N := 7) ?hd (cs := #[.int .i64 0, .int .i64 0, .int .i64 0, .int .i64 0, .int .i64 0, .int .i64 0, .int .i64 0]) (t := 79) ?hr ?_; (case hd => rfl); (case hg => rfl); (case hr => first | (go_simp; done) | (go_simp; rfl)); intro g1298 hg w1299 hbox hb; replace HS : Aside0 (Sep (fps []) w [b3 g1298 0 0 0 0 0 0 0] w1299) := ⟨HS.out.box hg hbox hb⟩; clear hg hbox hb; have hc1301 : w1299.cell? ⟨g1298, 0, none⟩ = some (.int .i64 0) := blk_cellv (HS.out.at0) 0 rfl; have hz1302 : w1299.frozen? ⟨g1298, 0, none⟩ = false := blk_fz (HS.out.at0) 0; have hc1303 : w1299.cell? ⟨g1298, 1, none⟩ = some (.int .i64 0) := blk_cellv (HS.out.at0) 1 rfl; have hz1304 : w1299.frozen? ⟨g1298, 1, none⟩ = false := blk_fz (HS.out.at0) 1; have hc1305 : w1299.cell? ⟨g1298, 2, none⟩ = some (.int .i64 0) := blk_cellv (HS.out.at0) 2 rfl; have hz1306 : w1299.frozen? ⟨g1298, 2, none⟩ = false := blk_fz (HS.out.at0) 2; have hc1307 : w1299.cell? ⟨g1298, 3, none⟩ = some (.int .i64 0) := blk_cellv (HS.out.at0) 3 rfl; have hz1308 : w1299.frozen? ⟨g1298, 3, none⟩ = false := blk_fz (HS.out.at0) 3; have hc1309 : w1299.cell? ⟨g1298, 4, none⟩ = some (.int .i64 0) := blk_cellv (HS.out.at0) 4 rfl; have hz1310 : w1299.frozen? ⟨g1298, 4, none⟩ = false := blk_fz (HS.out.at0) 4; have hc1311 : w1299.cell? ⟨g1298, 5, none⟩ = some (.int .i64 0) := blk_cellv (HS.out.at0) 5 rfl; have hz1312 : w1299.frozen? ⟨g1298, 5, none⟩ = false := blk_fz (HS.out.at0) 5; have hc1313 : w1299.cell? ⟨g1298, 6, none⟩ = some (.int .i64 0) := blk_cellv (HS.out.at0) 6 rfl; have hz1314 : w1299.frozen? ⟨g1298, 6, none⟩ = false := blk_fz (HS.out.at0) 6) | ((with_reducible refine gate_store (t := 79) (p := 7) rfl ?_); refine store_event (w1 := (World.setCell (World.setCell (World.setCell (World.setCell (World.setCell (World.setCell (World.setCell w1299 ⟨g1298, 0, none⟩ (.int .i64 t1295.1)) ⟨g1298, 1, none⟩ (.int .i64 t1295.2.1)) ⟨g1298, 2, none⟩ (.int .i64 t1295.2.2.1)) ⟨g1298, 3, none⟩ (.int .i64 t1295.2.2.2.1)) ⟨g1298, 4, none⟩ (.int .i64 t1295.2.2.2.2.1)) ⟨g1298, 5, none⟩ (.int .i64 t1295.2.2.2.2.2.1)) ⟨g1298, 6, none⟩ (.int .i64 t1295.2.2.2.2.2.2.1))) rfl (t := 79) (p := 7) rfl rfl ?hr ?_; (case hr => first | (go_simp; done) | (go_simp; rfl)); intro w1315 hst; clear hc1301 hz1302 hc1303 hz1304 hc1305 hz1306 hc1307 hz1308 hc1309 hz1310 hc1311 hz1312 hc1313 hz1314; replace HS : Aside0 (Sep (fps []) w [b3 g1298 t1295.1 t1295.2.1 t1295.2.2.1 t1295.2.2.2.1 t1295.2.2.2.2.1 t1295.2.2.2.2.2.1 t1295.2.2.2.2.2.2.1] w1315) := ⟨by rw [hst]; exact HS.out.setAll (l1 := []) (l2 := []) [.int .i64 t1295.1, .int .i64 t1295.2.1, .int .i64 t1295.2.2.1, .int .i64 t1295.2.2.2.1, .int .i64 t1295.2.2.2.2.1, .int .i64 t1295.2.2.2.2.2.1, .int .i64 t1295.2.2.2.2.2.2.1] rfl⟩; clear hst))
      refine start_ (n := 5) (S := (fun w' => w'.cell? ⟨g1298, 2, none⟩ = some (.int .i64 t1295.2.2.1))) (ds := []) #[false, false, false, false, false] (by kernel_rfl) rfl rfl (blk_cellv ((HS.out.drew).at0) 2 rfl) (fun hHeld => ?_)
      have HS_ := Aside0.mk HS.out.drew
      clear HS
      generalize World.drew _ = w1319 at HS_ hHeld ⊢
      have HS := HS_
      clear HS_
      refine pure_ (i := 0) (N := some 23) (v := ?_) (a' := ?_) #[true, false, false, false, false] rfl rfl (by kernel_rfl) (fun _ _ _ h => h) (Or.inl ⟨by rfl, ?_⟩) ?_ ?_
      rotate_left
      · intro w'
        go_simp
        with_reducible rfl
      rotate_left
      · simp only [Act.put, List.setIfInBounds_toArray, List.set_cons_zero, List.set_cons_succ, i64_w, i32_w]
        rfl
      refine pure_ (i := 2) (N := some 25) (v := ?_) (a' := ?_) #[true, false, true, false, false] rfl rfl (by kernel_rfl) (fun _ _ _ h => h) (Or.inl ⟨by rfl, ?_⟩) ?_ ?_
      rotate_left
      · intro w'
        go_simp
        with_reducible rfl
      rotate_left
      · simp only [Act.put, List.setIfInBounds_toArray, List.set_cons_zero, List.set_cons_succ, i64_w, i32_w]
        rfl
      refine take_ (i := 1) (N := some 24) (v := ?_) (a' := ?_) #[true, true, true, false, false] rfl rfl (by kernel_rfl) (fun _ _ _ h => h) (Or.inl ⟨by rfl, ?_⟩) hHeld ?_ ?_
      rotate_left
      · rintro w' hS'
        have s0 := hS'
        go_simp
        with_reducible rfl
      rotate_left
      · simp only [Act.put, List.setIfInBounds_toArray, List.set_cons_zero, List.set_cons_succ, i64_w, i32_w]
        rfl
      refine one_ (i := 3) (N := some 26) #[true, true, true, true, false] rfl rfl (by kernel_rfl) (by decide) (fun K hK => ?_)
      obtain ⟨t1320, HA1321, H⟩ := bind_some H
      refine goes_ Tryz.func15 (by kernel_rfl) rfl #[.pointer none] (by rfl) rfl rfl (by (try simp only [List.map_toArray, List.map_cons, List.map_nil]); first | done | rfl) ?_
      refine (tint_Parity_nil.calls t1320 _ ⟨HGl0.out.pass (l := []) HS.out⟩ ⟨Sep.start _⟩ HA1321).mono ?_
      rintro e_ w1322 ⟨rfl, hS⟩
      replace HS : Aside0 (Sep (fps []) w [b3 g1298 t1295.1 t1295.2.1 t1295.2.2.1 t1295.2.2.2.1 t1295.2.2.2.2.1 t1295.2.2.2.2.2.1 t1295.2.2.2.2.2.2.1] w1322) := ⟨HS.out.call hS⟩
      clear hS
      refine ⟨_, rfl, ?_⟩
      refine hK.out _ _ (blk_cellv (HS.out.at0) 2 rfl) (fun hHeld => ?_)
      clear hK K
      refine norm_ (a' := ?_) ?_ ?_
      rotate_left
      · show Act.put _ (some 26) _ = _
        simp only [Act.put, List.setIfInBounds_toArray, List.set_cons_zero, List.set_cons_succ, i64_w, i32_w]
        rfl
      refine pure_ (i := 4) (N := some 27) (v := ?_) (a' := ?_) #[true, true, true, true, true] rfl rfl (by kernel_rfl) (fun _ _ _ h => h) (Or.inl ⟨by rfl, ?_⟩) ?_ ?_
      rotate_left
      · intro w'
        go_simp
        with_reducible rfl
      rotate_left
      · simp only [Act.put, List.setIfInBounds_toArray, List.set_cons_zero, List.set_cons_succ, i64_w, i32_w]
        rfl
      refine done_ (by kernel_rfl) ?_
      by_cases c1323 : t1295.2.2.1 = t1320
      · have H := if_yes c1323 H
        have c1323b0 : (t1295.2.2.1 == t1320) = true := beq_iff_eq.mpr c1323
        have c1323b1 : (t1295.2.2.1 != t1320) = false := bne_eq_false_iff_eq.mpr c1323
        clear c1323
        replace HS : Aside0 (Sep (fps []) w [] w1322) := ⟨HS.out.sub (.cons _ .slnil)⟩
        go_wp2_with fail
        go_ret
        rw [← some_eq H]
        exact ⟨(by first | rfl | (simp [IntKind.wrap_u32]; done)), HS.out⟩
      · have H := if_no c1323 H
        have c1323b0 : (t1295.2.2.1 == t1320) = false := beq_eq_false_iff_ne.mpr c1323
        have c1323b1 : (t1295.2.2.1 != t1320) = true := bne_iff_ne.mpr c1323
        clear c1323
        replace HS : Aside0 (Sep (fps []) w [] w1322) := ⟨HS.out.sub (.cons _ .slnil)⟩
        go_wp2_with fail
        obtain ⟨t1324, HA1325, H⟩ := bind_some H
        refine (tint_At_nil.calls t1324 _ ⟨HGl0.out.pass (l := []) HS.out⟩ ⟨Sep.start _⟩ HA1325).mono ?_
        rintro e_ w1326 ⟨rfl, hS⟩
        replace HS : Aside0 (Sep (fps []) w [] w1326) := ⟨HS.out.call hS⟩
        clear hS
        go_wp2_with fail
        obtain ⟨t1327, HA1328, H⟩ := bind_some H
        refine (tint_Phase_nil.calls t1327 _ ⟨HGl0.out.pass (l := []) HS.out⟩ ⟨Sep.start _⟩ HA1328).mono ?_
        rintro e_ w1329 ⟨rfl, hS⟩
        replace HS : Aside0 (Sep (fps []) w [] w1329) := ⟨HS.out.call hS⟩
        clear hS
        by_cases c1330 : t1327 = 1
        · have H := if_yes c1330 H
          have c1330b0 : (t1327 == 1) = true := beq_iff_eq.mpr c1330
          have c1330b1 : (t1327 != 1) = false := bne_eq_false_iff_eq.mpr c1330
          clear c1330
          by_cases c1331 : t1324.1 = (wrap64 (a1293 - 1))
          · have H := if_yes c1331 H
            have c1331b0 : (t1324.1 == (wrap64 (a1293 - 1))) = true := beq_iff_eq.mpr c1331
            have c1331b1 : (t1324.1 != (wrap64 (a1293 - 1))) = false := bne_eq_false_iff_eq.mpr c1331
            clear c1331
            go_wp2_with fail
            go_ret
            rw [← some_eq H]
            exact ⟨(by first | rfl | (simp [IntKind.wrap_u32]; done)), HS.out⟩
          · have H := if_no c1331 H
            have c1331b0 : (t1324.1 == (wrap64 (a1293 - 1))) = false := beq_eq_false_iff_ne.mpr c1331
            have c1331b1 : (t1324.1 != (wrap64 (a1293 - 1))) = true := bne_iff_ne.mpr c1331
            clear c1331
            go_wp2_with fail
            go_ret
            rw [← some_eq H]
            exact ⟨(by first | rfl | (simp [IntKind.wrap_u32]; done)), HS.out⟩
        · have H := if_no c1330 H
          have c1330b0 : (t1327 == 1) = false := beq_eq_false_iff_ne.mpr c1330
          have c1330b1 : (t1327 != 1) = true := bne_iff_ne.mpr c1330
          clear c1330
          go_wp2_with fail
          go_ret
          rw [← some_eq H]
          exact ⟨(by first | rfl | (simp [IntKind.wrap_u32]; done)), HS.out⟩
  · have H := if_no c1316 H
    have c1316b0 : t1295.2.2.2.2.2.2.2 = false := by simpa using c1316
    have c1316b1 : (!t1295.2.2.2.2.2.2.2) = true := by rw [c1316b0]; rfl
    try rw [c1316b1]
    clear c1316
    go_wp2_with (first | ((with_reducible refine gate_dst (N := 7) rfl ?_); refine box_on ?hg (N := 7) ?hd (cs := #[.int .i64 0, .int .i64 0, .int .i64 0, .int .i64 0, .int .i64 0, .int .i64 0, .int .i64 0]) (t := 79) ?hr ?_; (case hd => rfl); (case hg => rfl); (case hr => first | (go_simp; done) | (go_simp; rfl)); intro g1298 hg w1299 hbox hb; replace HS : Aside0 (Sep (fps []) w [b3 g1298 0 0 0 0 0 0 0] w1299) := ⟨HS.out.box hg hbox hb⟩; clear hg hbox hb; have hc1301 : w1299.cell? ⟨g1298, 0, none⟩ = some (.int .i64 0) := blk_cellv (HS.out.at0) 0 rfl; have hz1302 : w1299.frozen? ⟨g1298, 0, none⟩ = false := blk_fz (HS.out.at0) 0; have hc1303 : w1299.cell? ⟨g1298, 1, none⟩ = some (.int .i64 0) := blk_cellv (HS.out.at0) 1 rfl; have hz1304 : w1299.frozen? ⟨g1298, 1, none⟩ = false := blk_fz (HS.out.at0) 1; have hc1305 : w1299.cell? ⟨g1298, 2, none⟩ = some (.int .i64 0) := blk_cellv (HS.out.at0) 2 rfl; have hz1306 : w1299.frozen? ⟨g1298, 2, none⟩ = false := blk_fz (HS.out.at0) 2; have hc1307 : w1299.cell? ⟨g1298, 3, none⟩ = some (.int .i64 0) := blk_cellv (HS.out.at0) 3 rfl; have hz1308 : w1299.frozen? ⟨g1298, 3, none⟩ = false := blk_fz (HS.out.at0) 3; have hc1309 : w1299.cell? ⟨g1298, 4, none⟩ = some (.int .i64 0) := blk_cellv (HS.out.at0) 4 rfl; have hz1310 : w1299.frozen? ⟨g1298, 4, none⟩ = false := blk_fz (HS.out.at0) 4; have hc1311 : w1299.cell? ⟨g1298, 5, none⟩ = some (.int .i64 0) := blk_cellv (HS.out.at0) 5 rfl; have hz1312 : w1299.frozen? ⟨g1298, 5, none⟩ = false := blk_fz (HS.out.at0) 5; have hc1313 : w1299.cell? ⟨g1298, 6, none⟩ = some (.int .i64 0) := blk_cellv (HS.out.at0) 6 rfl; have hz1314 : w1299.frozen? ⟨g1298, 6, none⟩ = false := blk_fz (HS.out.at0) 6) | ((with_reducible refine gate_store (t := 79) (p := 7) rfl ?_); refine store_event (w1 := (World.setCell (World.setCell (World.setCell (World.setCell (World.setCell (World.setCell (World.setCell w1299 ⟨g1298, 0, none⟩ (.int .i64 t1295.1)) ⟨g1298, 1, none⟩ (.int .i64 t1295.2.1)) ⟨g1298, 2, none⟩ (.int .i64 t1295.2.2.1)) ⟨g1298, 3, none⟩ (.int .i64 t1295.2.2.2.1)) ⟨g1298, 4, none⟩ (.int .i64 t1295.2.2.2.2.1)) ⟨g1298, 5, none⟩ (.int .i64 t1295.2.2.2.2.2.1)) ⟨g1298, 6, none⟩ (.int .i64 t1295.2.2.2.2.2.2.1))) rfl (t := 79) (p := 7) rfl rfl ?hr ?_; (case hr => first | (go_simp; done) | (go_simp; rfl)); intro w1315 hst; clear hc1301 hz1302 hc1303 hz1304 hc1305 hz1306 hc1307 hz1308 hc1309 hz1310 hc1311 hz1312 hc1313 hz1314; replace HS : Aside0 (Sep (fps []) w [b3 g1298 t1295.1 t1295.2.1 t1295.2.2.1 t1295.2.2.2.1 t1295.2.2.2.2.1 t1295.2.2.2.2.2.1 t1295.2.2.2.2.2.2.1] w1315) := ⟨by rw [hst]; exact HS.out.setAll (l1 := []) (l2 := []) [.int .i64 t1295.1, .int .i64 t1295.2.1, .int .i64 t1295.2.2.1, .int .i64 t1295.2.2.2.1, .int .i64 t1295.2.2.2.2.1, .int .i64 t1295.2.2.2.2.2.1, .int .i64 t1295.2.2.2.2.2.2.1] rfl⟩; clear hst; replace HS : Aside0 (Sep (fps []) w [] w1315) := ⟨HS.out.sub (.cons _ .slnil)⟩))
    go_ret
    rw [← some_eq H]
    exact ⟨(by first | rfl | (simp [IntKind.wrap_u32]; done)), HS.out⟩

set_option maxHeartbeats 30000000 in
set_option maxRecDepth 100000 in
theorem tint_Done_1.calls (a1365 : Int) (a1366 : Int) (a1367 : Int) (a1368 : Int) (a1369 : Int) (a1370 : Int) (a1371 : Int) (a1372 : Int) (g1364 : Nat) (r : Int) (w : World)  (HGl0 : Aside0 (Gl 0 #[.int .i64 0, .int .i64 0, .int .i64 0, .int .i64 0, .int .i64 0] (fps [b3 g1364 a1365 a1366 a1367 a1368 a1369 a1370 a1371]) w)) (HS : Aside0 (Sep (fps [b3 g1364 a1365 a1366 a1367 a1368 a1369 a1370 a1371]) w [b3 g1364 a1365 a1366 a1367 a1368 a1369 a1370 a1371] w)) (H : Aside0 (tint_Done_1.f a1365 a1366 a1367 a1368 a1369 a1370 a1371 a1372 = some r)) :
    Calls Tryz.prog 62 #[.pointer (some ⟨g1364, 0, none⟩), .int .i64 a1372] w fun e w' => e = .returned (.tuple #[]) ∧ Sep (fps [b3 g1364 a1365 a1366 a1367 a1368 a1369 a1370 a1371]) w [b3 g1364 a1365 a1366 r a1368 a1369 a1370 a1371] w' := by
  generalize (fps [b3 g1364 a1365 a1366 a1367 a1368 a1369 a1370 a1371]) = FF at HS HGl0 ⊢
  unfold tint_Done_1.f at H
  go_enter Tryz.func62, Tryz.ntmps62
  have hc1376 : w.cell? ⟨g1364, 2, none⟩ = some (.int .i64 a1367) := blk_cellv (HS.out.at0) 2 rfl
  have hz1377 : w.frozen? ⟨g1364, 2, none⟩ = false := blk_fz (HS.out.at0) 2
  go_wp2_with (first | ((with_reducible refine gate_store (t := 3) (p := 7) rfl ?_); refine store_event (w1 := (World.setCell w ⟨g1364, 2, none⟩ (.int .i64 a1372))) rfl (t := 3) (p := 7) rfl rfl ?hr ?_; (case hr => first | (go_simp; done) | (go_simp; rfl)); intro w1378 hst; clear hc1376 hz1377; have hq0 : Sep FF w [b3 g1364 a1365 a1366 a1372 a1368 a1369 a1370 a1371] (World.setCell w ⟨g1364, 2, none⟩ (.int .i64 a1372)) := (HS.out).set1 (l1 := []) (l2 := []) 2 (.int .i64 a1372); replace HS : Aside0 (Sep FF w [b3 g1364 a1365 a1366 a1372 a1368 a1369 a1370 a1371] w1378) := ⟨by rw [hst]; exact hq0⟩; clear hq0; clear hst))
  first | go_end0 | refine bodyPost_ret (results_none rfl _ _ _) rfl ?_
  rw [← some_eq H]
  exact ⟨rfl, HS.out⟩

set_option maxHeartbeats 30000000 in
set_option maxRecDepth 100000 in
theorem tint_change_nil_F62.calls (k : Nat) (a1337 : Int) (r : Bool) (w : World)  (HGl0 : Aside0 (Gl 0 #[.int .i64 0, .int .i64 0, .int .i64 0, .int .i64 0, .int .i64 0] (fps []) w)) (HS : Aside0 (Sep (fps []) w [] w)) (H : Aside0 (tint_change_nil_F62.f k a1337 = some r)) :
    Calls Tryz.prog 51 #[.pointer none, .int .i64 a1337, .func (.func 62) #[] #[]] w fun e w' => e = .returned (.bool r) ∧ Sep (fps []) w [] w' := by
  unfold tint_change_nil_F62.f at H
  go_enter Tryz.func51, Tryz.ntmps51
  go_wp2_with fail
  obtain ⟨t1338, HA1339, H⟩ := bind_some H
  refine (tint_of_nil.calls a1337 t1338 _ ⟨HGl0.out.pass (l := []) HS.out⟩ ⟨Sep.start _⟩ HA1339).mono ?_
  rintro e_ w1340 ⟨rfl, hS⟩
  replace HS : Aside0 (Sep (fps []) w [] w1340) := ⟨HS.out.call hS⟩
  clear hS
  by_cases c1359 : t1338.2.2.2.2.2.2.2 = true
  · have H := if_yes c1359 H
    have c1359b0 : t1338.2.2.2.2.2.2.2 = true := c1359
    have c1359b1 : (!t1338.2.2.2.2.2.2.2) = false := by rw [c1359b0]; rfl
    try rw [c1359b1]
    clear c1359
    go_wp2_with (first | ((with_reducible refine gate_dst (N := 7) rfl ?_); refine box_on ?hg (N := 7) ?hd (cs := #[.int .i64 0, .int .i64 0, .int .i64 0, .int .i64 0, .int .i64 0, .int .i64 0, .int .i64 0]) (t := 79) ?hr ?_; (case hd => rfl); (case hg => rfl); (case hr => first | (go_simp; done) | (go_simp; rfl)); intro g1341 hg w1342 hbox hb; replace HS : Aside0 (Sep (fps []) w [b3 g1341 0 0 0 0 0 0 0] w1342) := ⟨HS.out.box hg hbox hb⟩; clear hg hbox hb; have hc1344 : w1342.cell? ⟨g1341, 0, none⟩ = some (.int .i64 0) := blk_cellv (HS.out.at0) 0 rfl; have hz1345 : w1342.frozen? ⟨g1341, 0, none⟩ = false := blk_fz (HS.out.at0) 0; have hc1346 : w1342.cell? ⟨g1341, 1, none⟩ = some (.int .i64 0) := blk_cellv (HS.out.at0) 1 rfl; have hz1347 : w1342.frozen? ⟨g1341, 1, none⟩ = false := blk_fz (HS.out.at0) 1; have hc1348 : w1342.cell? ⟨g1341, 2, none⟩ = some (.int .i64 0) := blk_cellv (HS.out.at0) 2 rfl; have hz1349 : w1342.frozen? ⟨g1341, 2, none⟩ = false := blk_fz (HS.out.at0) 2; have hc1350 : w1342.cell? ⟨g1341, 3, none⟩ = some (.int .i64 0) := blk_cellv (HS.out.at0) 3 rfl; have hz1351 : w1342.frozen? ⟨g1341, 3, none⟩ = false := blk_fz (HS.out.at0) 3; have hc1352 : w1342.cell? ⟨g1341, 4, none⟩ = some (.int .i64 0) := blk_cellv (HS.out.at0) 4 rfl; have hz1353 : w1342.frozen? ⟨g1341, 4, none⟩ = false := blk_fz (HS.out.at0) 4; have hc1354 : w1342.cell? ⟨g1341, 5, none⟩ = some (.int .i64 0) := blk_cellv (HS.out.at0) 5 rfl; have hz1355 : w1342.frozen? ⟨g1341, 5, none⟩ = false := blk_fz (HS.out.at0) 5; have hc1356 : w1342.cell? ⟨g1341, 6, none⟩ = some (.int .i64 0) := blk_cellv (HS.out.at0) 6 rfl; have hz1357 : w1342.frozen? ⟨g1341, 6, none⟩ = false := blk_fz (HS.out.at0) 6) | ((with_reducible refine gate_store (t := 79) (p := 7) rfl ?_); refine store_event (w1 := (World.setCell (World.setCell (World.setCell (World.setCell (World.setCell (World.setCell (World.setCell w1342 ⟨g1341, 0, none⟩ (.int .i64 t1338.1)) ⟨g1341, 1, none⟩ (.int .i64 t1338.2.1)) ⟨g1341, 2, none⟩ (.int .i64 t1338.2.2.1)) ⟨g1341, 3, none⟩ (.int .i64 t1338.2.2.2.1)) ⟨g1341, 4, none⟩ (.int .i64 t1338.2.2.2.2.1)) ⟨g1341, 5, none⟩ (.int .i64 t1338.2.2.2.2.2.1)) ⟨g1341, 6, none⟩ (.int .i64 t1338.2.2.2.2.2.2.1))) rfl (t := 79) (p := 7) rfl rfl ?hr ?_; (case hr => first | (go_simp; done) | (go_simp; rfl)); intro w1358 hst; clear hc1344 hz1345 hc1346 hz1347 hc1348 hz1349 hc1350 hz1351 hc1352 hz1353 hc1354 hz1355 hc1356 hz1357; replace HS : Aside0 (Sep (fps []) w [b3 g1341 t1338.1 t1338.2.1 t1338.2.2.1 t1338.2.2.2.1 t1338.2.2.2.2.1 t1338.2.2.2.2.2.1 t1338.2.2.2.2.2.2.1] w1358) := ⟨by rw [hst]; exact HS.out.setAll (l1 := []) (l2 := []) [.int .i64 t1338.1, .int .i64 t1338.2.1, .int .i64 t1338.2.2.1, .int .i64 t1338.2.2.2.1, .int .i64 t1338.2.2.2.2.1, .int .i64 t1338.2.2.2.2.2.1, .int .i64 t1338.2.2.2.2.2.2.1] rfl⟩; clear hst))
    obtain ⟨t1360, HA1361, H⟩ := bind_some H
    refine (tint_Parity_nil.calls t1360 _ ⟨HGl0.out.pass (l := []) HS.out⟩ ⟨Sep.start _⟩ HA1361).mono ?_
    rintro e_ w1362 ⟨rfl, hS⟩
    replace HS : Aside0 (Sep (fps []) w [b3 g1341 t1338.1 t1338.2.1 t1338.2.2.1 t1338.2.2.2.1 t1338.2.2.2.2.1 t1338.2.2.2.2.2.1 t1338.2.2.2.2.2.2.1] w1362) := ⟨HS.out.call hS⟩
    clear hS
    go_wp2_with fail
    obtain ⟨t1379, HA1380, H⟩ := bind_some H
    refine (tint_Done_1.calls t1338.1 t1338.2.1 t1338.2.2.1 t1338.2.2.2.1 t1338.2.2.2.2.1 t1338.2.2.2.2.2.1 t1338.2.2.2.2.2.2.1 t1360 g1341 t1379 _ ⟨HGl0.out.pass HS.out⟩ ⟨HS.out.begin⟩ HA1380).mono ?_
    rintro e_ w1381 ⟨rfl, hS⟩
    replace HS : Aside0 (Sep (fps []) w [b3 g1341 t1338.1 t1338.2.1 t1379 t1338.2.2.2.1 t1338.2.2.2.2.1 t1338.2.2.2.2.2.1 t1338.2.2.2.2.2.2.1] w1381) := ⟨HS.out.call hS⟩
    clear hS
    have hc1382 : w1381.cell? ⟨g1341, 0, none⟩ = some (.int .i64 t1338.1) := blk_cellv (HS.out.at0) 0 rfl
    have hc1383 : w1381.cell? ⟨g1341, 1, none⟩ = some (.int .i64 t1338.2.1) := blk_cellv (HS.out.at0) 1 rfl
    have hc1384 : w1381.cell? ⟨g1341, 2, none⟩ = some (.int .i64 t1379) := blk_cellv (HS.out.at0) 2 rfl
    have hc1385 : w1381.cell? ⟨g1341, 3, none⟩ = some (.int .i64 t1338.2.2.2.1) := blk_cellv (HS.out.at0) 3 rfl
    have hc1386 : w1381.cell? ⟨g1341, 4, none⟩ = some (.int .i64 t1338.2.2.2.2.1) := blk_cellv (HS.out.at0) 4 rfl
    have hc1387 : w1381.cell? ⟨g1341, 5, none⟩ = some (.int .i64 t1338.2.2.2.2.2.1) := blk_cellv (HS.out.at0) 5 rfl
    have hc1388 : w1381.cell? ⟨g1341, 6, none⟩ = some (.int .i64 t1338.2.2.2.2.2.2.1) := blk_cellv (HS.out.at0) 6 rfl
    go_wp2_with fail
    clear hc1382 hc1383 hc1384 hc1385 hc1386 hc1387 hc1388
    obtain ⟨t1389, HA1390, H⟩ := bind_some H
    refine (tag_Pack.calls _ t1338.1 t1338.2.1 t1379 t1338.2.2.2.1 t1338.2.2.2.2.1 t1338.2.2.2.2.2.1 t1338.2.2.2.2.2.2.1 t1389 _ ⟨HGl0.out.pass (l := []) HS.out⟩ ⟨Sep.start _⟩ HA1390).mono ?_
    rintro e_ w1391 ⟨rfl, hS⟩
    replace HS : Aside0 (Sep (fps []) w [b3 g1341 t1338.1 t1338.2.1 t1379 t1338.2.2.2.1 t1338.2.2.2.2.1 t1338.2.2.2.2.2.1 t1338.2.2.2.2.2.2.1] w1391) := ⟨HS.out.call hS⟩
    clear hS
    by_cases c1392 : t1389.2 = 0
    · have H := if_yes c1392 H
      have c1392b0 : (t1389.2 == 0) = true := beq_iff_eq.mpr c1392
      have c1392b1 : (t1389.2 != 0) = false := bne_eq_false_iff_eq.mpr c1392
      clear c1392
      replace HS : Aside0 (Sep (fps []) w [] w1391) := ⟨HS.out.sub (.cons _ .slnil)⟩
      go_wp2_with fail
      obtain ⟨t1393, HA1394, H⟩ := bind_some H
      refine (ground_Ground_SetWord_nil.calls (wrap64 (a1337 - 1)) 0 t1389.1 t1393 _ ⟨HGl0.out.pass (l := []) HS.out⟩ ⟨Sep.start _⟩ HA1394).mono ?_
      rintro e_ w1395 ⟨rfl, hS⟩
      replace HS : Aside0 (Sep (fps []) w [] w1395) := ⟨HS.out.call hS⟩
      clear hS
      go_wp2_with fail
      go_ret
      rw [← some_eq H]
      exact ⟨(by first | rfl | (simp [IntKind.wrap_u32]; done)), HS.out⟩
    · have H := if_no c1392 H
      have c1392b0 : (t1389.2 == 0) = false := beq_eq_false_iff_ne.mpr c1392
      have c1392b1 : (t1389.2 != 0) = true := bne_iff_ne.mpr c1392
      clear c1392
      replace HS : Aside0 (Sep (fps []) w [] w1391) := ⟨HS.out.sub (.cons _ .slnil)⟩
      go_wp2_with fail
      go_ret
      rw [← some_eq H]
      exact ⟨(by first | rfl | (simp [IntKind.wrap_u32]; done)), HS.out⟩
  · have H := if_no c1359 H
    have c1359b0 : t1338.2.2.2.2.2.2.2 = false := by simpa using c1359
    have c1359b1 : (!t1338.2.2.2.2.2.2.2) = true := by rw [c1359b0]; rfl
    try rw [c1359b1]
    clear c1359
    go_wp2_with (first | ((with_reducible refine gate_dst (N := 7) rfl ?_); refine box_on ?hg (N := 7) ?hd (cs := #[.int .i64 0, .int .i64 0, .int .i64 0, .int .i64 0, .int .i64 0, .int .i64 0, .int .i64 0]) (t := 79) ?hr ?_; (case hd => rfl); (case hg => rfl); (case hr => first | (go_simp; done) | (go_simp; rfl)); intro g1341 hg w1342 hbox hb; replace HS : Aside0 (Sep (fps []) w [b3 g1341 0 0 0 0 0 0 0] w1342) := ⟨HS.out.box hg hbox hb⟩; clear hg hbox hb; have hc1344 : w1342.cell? ⟨g1341, 0, none⟩ = some (.int .i64 0) := blk_cellv (HS.out.at0) 0 rfl; have hz1345 : w1342.frozen? ⟨g1341, 0, none⟩ = false := blk_fz (HS.out.at0) 0; have hc1346 : w1342.cell? ⟨g1341, 1, none⟩ = some (.int .i64 0) := blk_cellv (HS.out.at0) 1 rfl; have hz1347 : w1342.frozen? ⟨g1341, 1, none⟩ = false := blk_fz (HS.out.at0) 1; have hc1348 : w1342.cell? ⟨g1341, 2, none⟩ = some (.int .i64 0) := blk_cellv (HS.out.at0) 2 rfl; have hz1349 : w1342.frozen? ⟨g1341, 2, none⟩ = false := blk_fz (HS.out.at0) 2; have hc1350 : w1342.cell? ⟨g1341, 3, none⟩ = some (.int .i64 0) := blk_cellv (HS.out.at0) 3 rfl; have hz1351 : w1342.frozen? ⟨g1341, 3, none⟩ = false := blk_fz (HS.out.at0) 3; have hc1352 : w1342.cell? ⟨g1341, 4, none⟩ = some (.int .i64 0) := blk_cellv (HS.out.at0) 4 rfl; have hz1353 : w1342.frozen? ⟨g1341, 4, none⟩ = false := blk_fz (HS.out.at0) 4; have hc1354 : w1342.cell? ⟨g1341, 5, none⟩ = some (.int .i64 0) := blk_cellv (HS.out.at0) 5 rfl; have hz1355 : w1342.frozen? ⟨g1341, 5, none⟩ = false := blk_fz (HS.out.at0) 5; have hc1356 : w1342.cell? ⟨g1341, 6, none⟩ = some (.int .i64 0) := blk_cellv (HS.out.at0) 6 rfl; have hz1357 : w1342.frozen? ⟨g1341, 6, none⟩ = false := blk_fz (HS.out.at0) 6) | ((with_reducible refine gate_store (t := 79) (p := 7) rfl ?_); refine store_event (w1 := (World.setCell (World.setCell (World.setCell (World.setCell (World.setCell (World.setCell (World.setCell w1342 ⟨g1341, 0, none⟩ (.int .i64 t1338.1)) ⟨g1341, 1, none⟩ (.int .i64 t1338.2.1)) ⟨g1341, 2, none⟩ (.int .i64 t1338.2.2.1)) ⟨g1341, 3, none⟩ (.int .i64 t1338.2.2.2.1)) ⟨g1341, 4, none⟩ (.int .i64 t1338.2.2.2.2.1)) ⟨g1341, 5, none⟩ (.int .i64 t1338.2.2.2.2.2.1)) ⟨g1341, 6, none⟩ (.int .i64 t1338.2.2.2.2.2.2.1))) rfl (t := 79) (p := 7) rfl rfl ?hr ?_; (case hr => first | (go_simp; done) | (go_simp; rfl)); intro w1358 hst; clear hc1344 hz1345 hc1346 hz1347 hc1348 hz1349 hc1350 hz1351 hc1352 hz1353 hc1354 hz1355 hc1356 hz1357; replace HS : Aside0 (Sep (fps []) w [b3 g1341 t1338.1 t1338.2.1 t1338.2.2.1 t1338.2.2.2.1 t1338.2.2.2.2.1 t1338.2.2.2.2.2.1 t1338.2.2.2.2.2.2.1] w1358) := ⟨by rw [hst]; exact HS.out.setAll (l1 := []) (l2 := []) [.int .i64 t1338.1, .int .i64 t1338.2.1, .int .i64 t1338.2.2.1, .int .i64 t1338.2.2.2.1, .int .i64 t1338.2.2.2.2.1, .int .i64 t1338.2.2.2.2.2.1, .int .i64 t1338.2.2.2.2.2.2.1] rfl⟩; clear hst; replace HS : Aside0 (Sep (fps []) w [] w1358) := ⟨HS.out.sub (.cons _ .slnil)⟩))
    go_ret
    rw [← some_eq H]
    exact ⟨(by first | rfl | (simp [IntKind.wrap_u32]; done)), HS.out⟩

set_option maxHeartbeats 30000000 in
set_option maxRecDepth 100000 in
theorem tint_Done_nil.calls (k : Nat) (a1336 : Int) (r : Bool) (w : World)  (HGl0 : Aside0 (Gl 0 #[.int .i64 0, .int .i64 0, .int .i64 0, .int .i64 0, .int .i64 0] (fps []) w)) (HS : Aside0 (Sep (fps []) w [] w)) (H : Aside0 (tint_Done_nil.f k a1336 = some r)) :
    Calls Tryz.prog 28 #[.pointer none, .int .i64 a1336] w fun e w' => e = .returned (.bool r) ∧ Sep (fps []) w [] w' := by
  unfold tint_Done_nil.f at H
  go_enter Tryz.func28, Tryz.ntmps28
  go_wp2_with fail
  obtain ⟨t1396, HA1397, H⟩ := bind_some H
  refine (tint_change_nil_F62.calls _ a1336 t1396 _ ⟨HGl0.out.pass (l := []) HS.out⟩ ⟨Sep.start _⟩ HA1397).mono ?_
  rintro e_ w1398 ⟨rfl, hS⟩
  replace HS : Aside0 (Sep (fps []) w [] w1398) := ⟨HS.out.call hS⟩
  clear hS
  go_wp2_with fail
  go_ret
  rw [← some_eq H]
  exact ⟨(by first | rfl | (simp [IntKind.wrap_u32]; done)), HS.out⟩

set_option maxHeartbeats 30000000 in
set_option maxRecDepth 100000 in
theorem ratio_Clamp.calls (a1450 : Int) (a1451 : Int) (a1452 : Int) (r : Int) (w : World)  (HGl0 : Aside0 (Gl 0 #[.int .i64 0, .int .i64 0, .int .i64 0, .int .i64 0, .int .i64 0] (fps []) w)) (HS : Aside0 (Sep (fps []) w [] w)) (H : Aside0 (ratio_Clamp.f a1450 a1451 a1452 = some r)) :
    Calls Tryz.prog 194 #[.int .i64 a1450, .int .i64 a1451, .int .i64 a1452] w fun e w' => e = .returned (.int .i64 r) ∧ Sep (fps []) w [] w' := by
  unfold ratio_Clamp.f at H
  go_enter Tryz.func194, Tryz.ntmps194
  by_cases c1453 : a1450 > a1452
  · have H := if_yes c1453 H
    have c1453b0 : decide (a1452 < a1450) = true := decide_eq_true c1453
    clear c1453
    go_wp2_with fail
    go_ret
    rw [← some_eq H]
    exact ⟨(by first | rfl | (simp [IntKind.wrap_u32]; done)), HS.out⟩
  · have H := if_no c1453 H
    have c1453b0 : decide (a1452 < a1450) = false := decide_eq_false c1453
    clear c1453
    by_cases c1454 : a1450 < a1451
    · have H := if_yes c1454 H
      have c1454b0 : decide (a1450 < a1451) = true := decide_eq_true c1454
      skip
      go_wp2_with fail
      clear c1454
      go_ret
      rw [← some_eq H]
      exact ⟨(by first | rfl | (simp [IntKind.wrap_u32]; done)), HS.out⟩
    · have H := if_no c1454 H
      have c1454b0 : decide (a1450 < a1451) = false := decide_eq_false c1454
      skip
      go_wp2_with fail
      clear c1454
      go_ret
      rw [← some_eq H]
      exact ⟨(by first | rfl | (simp [IntKind.wrap_u32]; done)), HS.out⟩

set_option maxHeartbeats 30000000 in
set_option maxRecDepth 100000 in
theorem plan_within.calls (a1447 : Int) (a1448 : Int) (a1449 : Int) (r : Bool) (w : World)  (HGl0 : Aside0 (Gl 0 #[.int .i64 0, .int .i64 0, .int .i64 0, .int .i64 0, .int .i64 0] (fps []) w)) (HS : Aside0 (Sep (fps []) w [] w)) (H : Aside0 (plan_within.f a1447 a1448 a1449 = some r)) :
    Calls Tryz.prog 178 #[.int .i64 a1447, .int .i64 a1448, .int .i64 a1449] w fun e w' => e = .returned (.bool r) ∧ Sep (fps []) w [] w' := by
  unfold plan_within.f at H
  go_enter Tryz.func178, Tryz.ntmps178
  go_wp2_with fail
  obtain ⟨t1455, HA1456, H⟩ := bind_some H
  refine (ratio_Clamp.calls a1447 a1448 a1449 t1455 _ ⟨HGl0.out.pass (l := []) HS.out⟩ ⟨Sep.start _⟩ HA1456).mono ?_
  rintro e_ w1457 ⟨rfl, hS⟩
  replace HS : Aside0 (Sep (fps []) w [] w1457) := ⟨HS.out.call hS⟩
  clear hS
  go_wp2_with fail
  go_ret
  rw [← some_eq H]
  exact ⟨(by first | rfl | (simp [IntKind.wrap_u32]; done)), HS.out⟩

set_option maxHeartbeats 30000000 in
set_option maxRecDepth 100000 in
theorem plan_Check.calls (a1439 : Int) (a1440 : Int) (a1441 : Int) (a1442 : Int) (r : Int) (w : World)  (HGl0 : Aside0 (Gl 0 #[.int .i64 0, .int .i64 0, .int .i64 0, .int .i64 0, .int .i64 0] (fps []) w)) (HS : Aside0 (Sep (fps []) w [] w)) (H : Aside0 (plan_Check.f a1439 a1440 a1441 a1442 = some r)) :
    Calls Tryz.prog 138 #[.agg #[.int .i64 a1439, .int .i64 a1440, .int .i64 a1441, .int .i64 a1442]] w fun e w' => e = .returned (.int .i64 r) ∧ Sep (fps []) w [] w' := by
  unfold plan_Check.f at H
  go_enter Tryz.func138, Tryz.ntmps138
  go_wp2_with (first | ((with_reducible refine gate_dst (N := 1) rfl ?_); refine box_on ?hg (N := 1) ?hd (cs := #[.int .i64 a1439, .int .i64 a1440, .int .i64 a1441, .int .i64 a1442]) (t := 29) ?hr ?_; (case hd => rfl); (case hg => rfl); (case hr => first | (go_simp; done) | (go_simp; rfl)); intro g1443 hg w1444 hbox hb; replace HS : Aside0 (Sep (fps []) w [b4 g1443 a1439 a1440 a1441 a1442] w1444) := ⟨HS.out.box hg hbox hb⟩; clear hg hbox hb; have hc1446 : w1444.cell? ⟨g1443, 0, none⟩ = some (.int .i64 a1439) := blk_cellv (HS.out.at0) 0 rfl))
  clear hc1446
  obtain ⟨t1458, HA1459, H⟩ := bind_some H
  refine (plan_within.calls a1439 1 1048576 t1458 _ ⟨HGl0.out.pass (l := []) HS.out⟩ ⟨Sep.start _⟩ HA1459).mono ?_
  rintro e_ w1460 ⟨rfl, hS⟩
  replace HS : Aside0 (Sep (fps []) w [b4 g1443 a1439 a1440 a1441 a1442] w1460) := ⟨HS.out.call hS⟩
  clear hS
  by_cases c1461 : t1458 = true
  · have H := if_yes c1461 H
    have c1461b0 : t1458 = true := c1461
    have c1461b1 : (!t1458) = false := by rw [c1461b0]; rfl
    clear c1461
    have hc1462 : w1460.cell? ⟨g1443, 1, none⟩ = some (.int .i64 a1440) := blk_cellv (HS.out.at0) 1 rfl
    go_wp2_with fail
    clear hc1462
    obtain ⟨t1463, HA1464, H⟩ := bind_some H
    refine (plan_within.calls a1440 16 256 t1463 _ ⟨HGl0.out.pass (l := []) HS.out⟩ ⟨Sep.start _⟩ HA1464).mono ?_
    rintro e_ w1465 ⟨rfl, hS⟩
    replace HS : Aside0 (Sep (fps []) w [b4 g1443 a1439 a1440 a1441 a1442] w1465) := ⟨HS.out.call hS⟩
    clear hS
    by_cases c1466 : t1463 = true
    · have H := if_yes c1466 H
      have c1466b0 : t1463 = true := c1466
      have c1466b1 : (!t1463) = false := by rw [c1466b0]; rfl
      clear c1466
      have hc1467 : w1465.cell? ⟨g1443, 2, none⟩ = some (.int .i64 a1441) := blk_cellv (HS.out.at0) 2 rfl
      go_wp2_with fail
      clear hc1467
      obtain ⟨t1468, HA1469, H⟩ := bind_some H
      refine (plan_within.calls a1441 1 4096 t1468 _ ⟨HGl0.out.pass (l := []) HS.out⟩ ⟨Sep.start _⟩ HA1469).mono ?_
      rintro e_ w1470 ⟨rfl, hS⟩
      replace HS : Aside0 (Sep (fps []) w [b4 g1443 a1439 a1440 a1441 a1442] w1470) := ⟨HS.out.call hS⟩
      clear hS
      by_cases c1471 : t1468 = true
      · have H := if_yes c1471 H
        have c1471b0 : t1468 = true := c1471
        have c1471b1 : (!t1468) = false := by rw [c1471b0]; rfl
        clear c1471
        have hc1472 : w1470.cell? ⟨g1443, 3, none⟩ = some (.int .i64 a1442) := blk_cellv (HS.out.at0) 3 rfl
        go_wp2_with fail
        clear hc1472
        obtain ⟨t1473, HA1474, H⟩ := bind_some H
        refine (plan_within.calls a1442 1 65536 t1473 _ ⟨HGl0.out.pass (l := []) HS.out⟩ ⟨Sep.start _⟩ HA1474).mono ?_
        rintro e_ w1475 ⟨rfl, hS⟩
        replace HS : Aside0 (Sep (fps []) w [b4 g1443 a1439 a1440 a1441 a1442] w1475) := ⟨HS.out.call hS⟩
        clear hS
        by_cases c1476 : t1473 = true
        · have H := if_yes c1476 H
          have c1476b0 : t1473 = true := c1476
          have c1476b1 : (!t1473) = false := by rw [c1476b0]; rfl
          clear c1476
          by_cases c1479 : (wrap64 (a1439 * a1440)) ≤ 4194304
          · have H := if_yes c1479 H
            have c1479b0 : decide ((wrap64 (a1439 * a1440)) ≤ 4194304) = true := decide_eq_true c1479
            clear c1479
            have hc1477 : w1475.cell? ⟨g1443, 0, none⟩ = some (.int .i64 a1439) := blk_cellv (HS.out.at0) 0 rfl
            have hc1478 : w1475.cell? ⟨g1443, 1, none⟩ = some (.int .i64 a1440) := blk_cellv (HS.out.at0) 1 rfl
            replace HS : Aside0 (Sep (fps []) w [] w1475) := ⟨HS.out.sub (.cons _ .slnil)⟩
            go_wp2_with fail
            clear hc1477 hc1478
            go_ret
            rw [← some_eq H]
            exact ⟨(by first | rfl | (simp [IntKind.wrap_u32]; done)), HS.out⟩
          · have H := if_no c1479 H
            have c1479b0 : decide ((wrap64 (a1439 * a1440)) ≤ 4194304) = false := decide_eq_false c1479
            clear c1479
            have hc1477 : w1475.cell? ⟨g1443, 0, none⟩ = some (.int .i64 a1439) := blk_cellv (HS.out.at0) 0 rfl
            have hc1478 : w1475.cell? ⟨g1443, 1, none⟩ = some (.int .i64 a1440) := blk_cellv (HS.out.at0) 1 rfl
            replace HS : Aside0 (Sep (fps []) w [] w1475) := ⟨HS.out.sub (.cons _ .slnil)⟩
            go_wp2_with fail
            clear hc1477 hc1478
            go_ret
            rw [← some_eq H]
            exact ⟨(by first | rfl | (simp [IntKind.wrap_u32]; done)), HS.out⟩
        · have H := if_no c1476 H
          have c1476b0 : t1473 = false := by simpa using c1476
          have c1476b1 : (!t1473) = true := by rw [c1476b0]; rfl
          clear c1476
          replace HS : Aside0 (Sep (fps []) w [] w1475) := ⟨HS.out.sub (.cons _ .slnil)⟩
          go_wp2_with fail
          go_ret
          rw [← some_eq H]
          exact ⟨(by first | rfl | (simp [IntKind.wrap_u32]; done)), HS.out⟩
      · have H := if_no c1471 H
        have c1471b0 : t1468 = false := by simpa using c1471
        have c1471b1 : (!t1468) = true := by rw [c1471b0]; rfl
        clear c1471
        replace HS : Aside0 (Sep (fps []) w [] w1470) := ⟨HS.out.sub (.cons _ .slnil)⟩
        go_wp2_with fail
        go_ret
        rw [← some_eq H]
        exact ⟨(by first | rfl | (simp [IntKind.wrap_u32]; done)), HS.out⟩
    · have H := if_no c1466 H
      have c1466b0 : t1463 = false := by simpa using c1466
      have c1466b1 : (!t1463) = true := by rw [c1466b0]; rfl
      clear c1466
      replace HS : Aside0 (Sep (fps []) w [] w1465) := ⟨HS.out.sub (.cons _ .slnil)⟩
      go_wp2_with fail
      go_ret
      rw [← some_eq H]
      exact ⟨(by first | rfl | (simp [IntKind.wrap_u32]; done)), HS.out⟩
  · have H := if_no c1461 H
    have c1461b0 : t1458 = false := by simpa using c1461
    have c1461b1 : (!t1458) = true := by rw [c1461b0]; rfl
    clear c1461
    replace HS : Aside0 (Sep (fps []) w [] w1460) := ⟨HS.out.sub (.cons _ .slnil)⟩
    go_wp2_with fail
    go_ret
    rw [← some_eq H]
    exact ⟨(by first | rfl | (simp [IntKind.wrap_u32]; done)), HS.out⟩

set_option maxHeartbeats 30000000 in
set_option maxRecDepth 100000 in
theorem ratio_counts.calls (a1512 : Int) (r : Int) (w : World)  (HGl0 : Aside0 (Gl 0 #[.int .i64 0, .int .i64 0, .int .i64 0, .int .i64 0, .int .i64 0] (fps []) w)) (HS : Aside0 (Sep (fps []) w [] w)) (H : Aside0 (ratio_counts.f a1512 = some r)) :
    Calls Tryz.prog 179 #[.int .i64 a1512] w fun e w' => e = .returned (.int .i64 r) ∧ Sep (fps []) w [] w' := by
  unfold ratio_counts.f at H
  go_enter Tryz.func179, Tryz.ntmps179
  go_wp2_with fail
  obtain ⟨t1513, HA1514, H⟩ := bind_some H
  refine (ratio_Clamp.calls a1512 0 1125899906842624 t1513 _ ⟨HGl0.out.pass (l := []) HS.out⟩ ⟨Sep.start _⟩ HA1514).mono ?_
  rintro e_ w1515 ⟨rfl, hS⟩
  replace HS : Aside0 (Sep (fps []) w [] w1515) := ⟨HS.out.call hS⟩
  clear hS
  go_wp2_with fail
  go_ret
  rw [← some_eq H]
  exact ⟨(by first | rfl | (simp [IntKind.wrap_u32]; done)), HS.out⟩

set_option maxHeartbeats 30000000 in
set_option maxRecDepth 100000 in
theorem ratio_zero.calls (a1511 : Int) (r : Bool) (w : World)  (HGl0 : Aside0 (Gl 0 #[.int .i64 0, .int .i64 0, .int .i64 0, .int .i64 0, .int .i64 0] (fps []) w)) (HS : Aside0 (Sep (fps []) w [] w)) (H : Aside0 (ratio_zero.f a1511 = some r)) :
    Calls Tryz.prog 181 #[.int .i64 a1511] w fun e w' => e = .returned (.bool r) ∧ Sep (fps []) w [] w' := by
  unfold ratio_zero.f at H
  go_enter Tryz.func181, Tryz.ntmps181
  go_wp2_with fail
  obtain ⟨t1516, HA1517, H⟩ := bind_some H
  refine (ratio_counts.calls a1511 t1516 _ ⟨HGl0.out.pass (l := []) HS.out⟩ ⟨Sep.start _⟩ HA1517).mono ?_
  rintro e_ w1518 ⟨rfl, hS⟩
  replace HS : Aside0 (Sep (fps []) w [] w1518) := ⟨HS.out.call hS⟩
  clear hS
  go_wp2_with fail
  go_ret
  rw [← some_eq H]
  exact ⟨(by first | rfl | (simp [IntKind.wrap_u32]; done)), HS.out⟩

set_option maxHeartbeats 30000000 in
set_option maxRecDepth 100000 in
theorem slices_IndexFunc_int_int_F181.calls (k : Nat) (l1497 : List Int) (A1498 : Option Addr) (n1499 : Nat) (r : Int) (w : World) (HR1500 : Aside0 (Rd (Kd.int .i64) (fps []) w A1498 l1497.length l1497)) (HGl0 : Aside0 (Gl 0 #[.int .i64 0, .int .i64 0, .int .i64 0, .int .i64 0, .int .i64 0] (fps []) w)) (HS : Aside0 (Sep (fps []) w [] w)) (H : Aside0 (slices_IndexFunc_int_int_F181.f k l1497 = some r)) :
    Calls Tryz.prog 204 #[.slice A1498 l1497.length n1499, .func (.func 181) #[] #[]] w fun e w' => e = .returned (.int .i64 r) ∧ Sep (fps []) w [] w' := by
  unfold slices_IndexFunc_int_int_F181.f at H
  go_enter Tryz.func204, Tryz.ntmps204
  go_wp2_with fail
  obtain ⟨o1523, AL1524, H⟩ := bind_some H
  go_loopg [8] k (fun kq v8 wc => ∃ (x1527 : Int), v8 = .int .i64 x1527 ∧ Aside0 (slices_IndexFunc_int_int_F181.lo0 kq l1497 x1527 = some o1523) ∧ Aside0 (Sep (fps []) w [] wc))
  case atStart => exact ⟨(0), (by first | rfl | (simp [IntKind.wrap_u32]; done)), AL1524, ⟨HS.out⟩⟩
  case round =>
    clear AL1524 HS
    obtain ⟨x1527, rfl, AL1524, HS⟩ := hrel
    obtain ⟨w1525, rfl⟩ : ∃ x : World, x = wr := ⟨_, rfl⟩
    cases gk with
    | zero => exact absurd AL1524.out (by simp [slices_IndexFunc_int_int_F181.lo0])
    | succ k1526 =>
      have AL0 := AL1524.out
      rw [slices_IndexFunc_int_int_F181.lo0] at AL0
      clear AL1524
      have AL1524 := Aside0.mk AL0
      clear AL0
      by_cases c1528 : x1527 < (l1497.length : Int)
      · have AL1524 := if_yes c1528 AL1524
        have c1528b0 : decide (x1527 < (l1497.length : Int)) = true := decide_eq_true c1528
        clear c1528
        by_cases c1529 : 0 ≤ x1527
        · have AL1524 := if_yes c1529 AL1524
          have c1529b0 : decide (0 ≤ x1527) = true := decide_eq_true c1529
          have c1529p : (0 ≤ x1527) = True := eq_true c1529
          clear c1529
          have ip1530 : (x1527 < (l1497.length : Int)) = True := eq_true (of_decide_eq_true c1528b0)
          obtain ⟨hx1531a, hx1531e, hx1531⟩ := Kd.at_int (Rd.read (fun _ _ _ _ h => h) HR1500.out HS.out.fr) x1527 (of_decide_eq_true c1529b0) (of_decide_eq_true c1528b0); cases hx1531e
          go_wp2_with fail
          clear hx1531
          obtain ⟨t1519, HA1532, AL1524⟩ := bind_some AL1524
          refine (ratio_zero.calls (rd l1497 x1527) t1519 _ ⟨HGl0.out.pass (l := []) HS.out⟩ ⟨Sep.start _⟩ HA1532).mono ?_
          rintro e_ w1533 ⟨rfl, hS⟩
          replace HS : Aside0 (Sep (fps []) w [] w1533) := ⟨HS.out.call hS⟩
          clear hS
          by_cases c1534 : t1519 = true
          · have AL1524 := if_yes c1534 AL1524
            have c1534b0 : t1519 = true := c1534
            have c1534b1 : (!t1519) = false := by rw [c1534b0]; rfl
            clear c1534
            go_wp2_with fail
            have ho := some_eq AL1524
            subst ho
            have H := lp_ret H
            go_ret
            rw [← some_eq H]
            exact ⟨(by first | rfl | (simp [IntKind.wrap_u32]; done)), HS.out⟩
          · have AL1524 := if_no c1534 AL1524
            have c1534b0 : t1519 = false := by simpa using c1534
            have c1534b1 : (!t1519) = true := by rw [c1534b0]; rfl
            clear c1534
            go_wp2_with fail
            go_roundg k1526
            case measure => exact Nat.lt_succ_self _
            case rel => exact ⟨(wrap64 (x1527 + 1)), (by first | rfl | (simp [IntKind.wrap_u32]; done)), Aside0.mk AL1524.out, ⟨HS.out⟩⟩
        · have AL1524 := if_no c1529 AL1524
          have c1529b0 : decide (0 ≤ x1527) = false := decide_eq_false c1529
          clear c1529
          exact (none_no AL1524).elim
      · have AL1524 := if_no c1528 AL1524
        have c1528b0 : decide (x1527 < (l1497.length : Int)) = false := decide_eq_false c1528
        clear c1528
        have ho := some_eq AL1524
        subst ho
        clear AL1524
        have H := lp_out H
        go_wp2_with fail
        go_ret
        rw [← some_eq H]
        exact ⟨(by first | rfl | (simp [IntKind.wrap_u32]; done)), HS.out⟩

set_option maxHeartbeats 30000000 in
set_option maxRecDepth 100000 in
theorem slices_ContainsFunc_int_int_F181.calls (k : Nat) (l1493 : List Int) (A1494 : Option Addr) (n1495 : Nat) (r : Bool) (w : World) (HR1496 : Aside0 (Rd (Kd.int .i64) (fps []) w A1494 l1493.length l1493)) (HGl0 : Aside0 (Gl 0 #[.int .i64 0, .int .i64 0, .int .i64 0, .int .i64 0, .int .i64 0] (fps []) w)) (HS : Aside0 (Sep (fps []) w [] w)) (H : Aside0 (slices_ContainsFunc_int_int_F181.f k l1493 = some r)) :
    Calls Tryz.prog 180 #[.slice A1494 l1493.length n1495, .func (.func 181) #[] #[]] w fun e w' => e = .returned (.bool r) ∧ Sep (fps []) w [] w' := by
  unfold slices_ContainsFunc_int_int_F181.f at H
  go_enter Tryz.func180, Tryz.ntmps180
  go_wp2_with fail
  obtain ⟨t1536, HA1537, H⟩ := bind_some H
  refine (slices_IndexFunc_int_int_F181.calls _ l1493 A1494 n1495 t1536 _ ⟨Rd.pass (l := []) (by decide) (fun _ _ _ _ h => h) HR1496.out HS.out⟩ ⟨HGl0.out.pass (l := []) HS.out⟩ ⟨Sep.start _⟩ HA1537).mono ?_
  rintro e_ w1538 ⟨rfl, hS⟩
  replace HS : Aside0 (Sep (fps []) w [] w1538) := ⟨HS.out.call hS⟩
  clear hS
  go_wp2_with fail
  go_ret
  rw [← some_eq H]
  exact ⟨(by first | rfl | (simp [IntKind.wrap_u32]; done)), HS.out⟩

set_option maxHeartbeats 30000000 in
set_option maxRecDepth 100000 in
theorem ratio_Mul.calls (k : Nat) (l1489 : List Int) (A1490 : Option Addr) (n1491 : Nat) (r : Int) (w : World) (HR1492 : Aside0 (Rd (Kd.int .i64) (fps []) w A1490 l1489.length l1489)) (HGl0 : Aside0 (Gl 0 #[.int .i64 0, .int .i64 0, .int .i64 0, .int .i64 0, .int .i64 0] (fps []) w)) (HS : Aside0 (Sep (fps []) w [] w)) (H : Aside0 (ratio_Mul.f k l1489 = some r)) :
    Calls Tryz.prog 140 #[.slice A1490 l1489.length n1491] w fun e w' => e = .returned (.int .i64 r) ∧ Sep (fps []) w [] w' := by
  unfold ratio_Mul.f at H
  go_enter Tryz.func140, Tryz.ntmps140
  go_wp2_with fail
  obtain ⟨t1539, HA1540, H⟩ := bind_some H
  refine (slices_ContainsFunc_int_int_F181.calls _ l1489 A1490 n1491 t1539 _ ⟨Rd.pass (l := []) (by decide) (fun _ _ _ _ h => h) HR1492.out HS.out⟩ ⟨HGl0.out.pass (l := []) HS.out⟩ ⟨Sep.start _⟩ HA1540).mono ?_
  rintro e_ w1541 ⟨rfl, hS⟩
  replace HS : Aside0 (Sep (fps []) w [] w1541) := ⟨HS.out.call hS⟩
  clear hS
  by_cases c1542 : t1539 = true
  · have H := if_yes c1542 H
    have c1542b0 : t1539 = true := c1542
    have c1542b1 : (!t1539) = false := by rw [c1542b0]; rfl
    clear c1542
    go_wp2_with fail
    go_ret
    rw [← some_eq H]
    exact ⟨(by first | rfl | (simp [IntKind.wrap_u32]; done)), HS.out⟩
  · have H := if_no c1542 H
    have c1542b0 : t1539 = false := by simpa using c1542
    have c1542b1 : (!t1539) = true := by rw [c1542b0]; rfl
    clear c1542
    go_wp2_with fail
    obtain ⟨o1544, AL1545, H⟩ := bind_some H
    go_loopg [3, 11] k (fun kq v3 v11 wc => ∃ (x1548 : Int) (x1549 : Int), v3 = .int .i64 x1548 ∧ v11 = .int .i64 x1549 ∧ Aside0 (ratio_Mul.lo0 kq l1489 x1548 x1549 = some o1544) ∧ Aside0 (Sep (fps []) w [] wc))
    case atStart => exact ⟨(1), (0), (by first | rfl | (simp [IntKind.wrap_u32]; done)), (by first | rfl | (simp [IntKind.wrap_u32]; done)), AL1545, ⟨HS.out⟩⟩
    case round =>
      clear AL1545 HS
      obtain ⟨x1548, x1549, rfl, rfl, AL1545, HS⟩ := hrel
      obtain ⟨w1546, rfl⟩ : ∃ x : World, x = wr := ⟨_, rfl⟩
      cases gk with
      | zero => exact absurd AL1545.out (by simp [ratio_Mul.lo0])
      | succ k1547 =>
        have AL0 := AL1545.out
        rw [ratio_Mul.lo0] at AL0
        clear AL1545
        have AL1545 := Aside0.mk AL0
        clear AL0
        by_cases c1550 : x1549 < (l1489.length : Int)
        · have AL1545 := if_yes c1550 AL1545
          have c1550b0 : decide (x1549 < (l1489.length : Int)) = true := decide_eq_true c1550
          clear c1550
          by_cases c1551 : 0 ≤ x1549
          · have AL1545 := if_yes c1551 AL1545
            have c1551b0 : decide (0 ≤ x1549) = true := decide_eq_true c1551
            have c1551p : (0 ≤ x1549) = True := eq_true c1551
            clear c1551
            have ip1552 : (x1549 < (l1489.length : Int)) = True := eq_true (of_decide_eq_true c1550b0)
            obtain ⟨hx1553a, hx1553e, hx1553⟩ := Kd.at_int (Rd.read (fun _ _ _ _ h => h) HR1492.out HS.out.fr) x1549 (of_decide_eq_true c1551b0) (of_decide_eq_true c1550b0); cases hx1553e
            go_wp2_with fail
            clear hx1553
            obtain ⟨t1554, HA1555, AL1545⟩ := bind_some AL1545
            refine (ratio_counts.calls (rd l1489 x1549) t1554 _ ⟨HGl0.out.pass (l := []) HS.out⟩ ⟨Sep.start _⟩ HA1555).mono ?_
            rintro e_ w1556 ⟨rfl, hS⟩
            replace HS : Aside0 (Sep (fps []) w [] w1556) := ⟨HS.out.call hS⟩
            clear hS
            by_cases c1557 : t1554 = 0
            · have AL1545 := if_yes c1557 AL1545
              have c1557b0 : (t1554 == 0) = true := beq_iff_eq.mpr c1557
              have c1557b1 : (t1554 != 0) = false := bne_eq_false_iff_eq.mpr c1557
              exact (none_no AL1545).elim
            · have AL1545 := if_no c1557 AL1545
              have c1557b0 : (t1554 == 0) = false := beq_eq_false_iff_ne.mpr c1557
              have c1557b1 : (t1554 != 0) = true := bne_iff_ne.mpr c1557
              by_cases c1558 : x1548 ≤ (wrap64 (Int.tdiv (1125899906842624 : Int) t1554))
              · have AL1545 := if_yes c1558 AL1545
                have c1558b0 : decide (x1548 ≤ (wrap64 (Int.tdiv (1125899906842624 : Int) t1554))) = true := decide_eq_true c1558
                clear c1558
                skip
                go_wp2_with fail
                clear c1557
                go_roundg k1547
                case measure => exact Nat.lt_succ_self _
                case rel => exact ⟨(wrap64 (x1548 * t1554)), (wrap64 (x1549 + 1)), (by first | rfl | (simp [IntKind.wrap_u32]; done)), (by first | rfl | (simp [IntKind.wrap_u32]; done)), Aside0.mk AL1545.out, ⟨HS.out⟩⟩
              · have AL1545 := if_no c1558 AL1545
                have c1558b0 : decide (x1548 ≤ (wrap64 (Int.tdiv (1125899906842624 : Int) t1554))) = false := decide_eq_false c1558
                clear c1558
                skip
                go_wp2_with fail
                clear c1557
                go_roundg k1547
                case measure => exact Nat.lt_succ_self _
                case rel => exact ⟨(1125899906842624), (wrap64 (x1549 + 1)), (by first | rfl | (simp [IntKind.wrap_u32]; done)), (by first | rfl | (simp [IntKind.wrap_u32]; done)), Aside0.mk AL1545.out, ⟨HS.out⟩⟩
          · have AL1545 := if_no c1551 AL1545
            have c1551b0 : decide (0 ≤ x1549) = false := decide_eq_false c1551
            clear c1551
            exact (none_no AL1545).elim
        · have AL1545 := if_no c1550 AL1545
          have c1550b0 : decide (x1549 < (l1489.length : Int)) = false := decide_eq_false c1550
          clear c1550
          have ho := some_eq AL1545
          subst ho
          clear AL1545
          go_wp2_with fail
          go_ret
          rw [← some_eq H]
          exact ⟨(by first | rfl | (simp [IntKind.wrap_u32]; done)), HS.out⟩

set_option maxHeartbeats 30000000 in
set_option maxRecDepth 100000 in
theorem ratio_Add.calls (k : Nat) (l1566 : List Int) (A1567 : Option Addr) (n1568 : Nat) (r : Int) (w : World) (HR1569 : Aside0 (Rd (Kd.int .i64) (fps []) w A1567 l1566.length l1566)) (HGl0 : Aside0 (Gl 0 #[.int .i64 0, .int .i64 0, .int .i64 0, .int .i64 0, .int .i64 0] (fps []) w)) (HS : Aside0 (Sep (fps []) w [] w)) (H : Aside0 (ratio_Add.f k l1566 = some r)) :
    Calls Tryz.prog 139 #[.slice A1567 l1566.length n1568] w fun e w' => e = .returned (.int .i64 r) ∧ Sep (fps []) w [] w' := by
  unfold ratio_Add.f at H
  go_enter Tryz.func139, Tryz.ntmps139
  go_wp2_with fail
  obtain ⟨o1571, AL1572, H⟩ := bind_some H
  go_loopg [3, 8] k (fun kq v3 v8 wc => ∃ (x1575 : Int) (x1576 : Int), v3 = .int .i64 x1575 ∧ v8 = .int .i64 x1576 ∧ Aside0 (ratio_Add.lo0 kq l1566 x1575 x1576 = some o1571) ∧ Aside0 (Sep (fps []) w [] wc))
  case atStart => exact ⟨(0), (0), (by first | rfl | (simp [IntKind.wrap_u32]; done)), (by first | rfl | (simp [IntKind.wrap_u32]; done)), AL1572, ⟨HS.out⟩⟩
  case round =>
    clear AL1572 HS
    obtain ⟨x1575, x1576, rfl, rfl, AL1572, HS⟩ := hrel
    obtain ⟨w1573, rfl⟩ : ∃ x : World, x = wr := ⟨_, rfl⟩
    cases gk with
    | zero => exact absurd AL1572.out (by simp [ratio_Add.lo0])
    | succ k1574 =>
      have AL0 := AL1572.out
      rw [ratio_Add.lo0] at AL0
      clear AL1572
      have AL1572 := Aside0.mk AL0
      clear AL0
      by_cases c1577 : x1576 < (l1566.length : Int)
      · have AL1572 := if_yes c1577 AL1572
        have c1577b0 : decide (x1576 < (l1566.length : Int)) = true := decide_eq_true c1577
        clear c1577
        by_cases c1578 : 0 ≤ x1576
        · have AL1572 := if_yes c1578 AL1572
          have c1578b0 : decide (0 ≤ x1576) = true := decide_eq_true c1578
          have c1578p : (0 ≤ x1576) = True := eq_true c1578
          clear c1578
          have ip1579 : (x1576 < (l1566.length : Int)) = True := eq_true (of_decide_eq_true c1577b0)
          obtain ⟨hx1580a, hx1580e, hx1580⟩ := Kd.at_int (Rd.read (fun _ _ _ _ h => h) HR1569.out HS.out.fr) x1576 (of_decide_eq_true c1578b0) (of_decide_eq_true c1577b0); cases hx1580e
          go_wp2_with fail
          clear hx1580
          obtain ⟨t1581, HA1582, AL1572⟩ := bind_some AL1572
          refine (ratio_counts.calls (rd l1566 x1576) t1581 _ ⟨HGl0.out.pass (l := []) HS.out⟩ ⟨Sep.start _⟩ HA1582).mono ?_
          rintro e_ w1583 ⟨rfl, hS⟩
          replace HS : Aside0 (Sep (fps []) w [] w1583) := ⟨HS.out.call hS⟩
          clear hS
          by_cases c1584 : 1125899906842624 < (wrap64 (x1575 + t1581))
          · have AL1572 := if_yes c1584 AL1572
            have c1584b0 : decide (1125899906842624 < (wrap64 (x1575 + t1581))) = true := decide_eq_true c1584
            skip
            go_wp2_with fail
            clear c1584
            go_roundg k1574
            case measure => exact Nat.lt_succ_self _
            case rel => exact ⟨(1125899906842624), (wrap64 (x1576 + 1)), (by first | rfl | (simp [IntKind.wrap_u32]; done)), (by first | rfl | (simp [IntKind.wrap_u32]; done)), Aside0.mk AL1572.out, ⟨HS.out⟩⟩
          · have AL1572 := if_no c1584 AL1572
            have c1584b0 : decide (1125899906842624 < (wrap64 (x1575 + t1581))) = false := decide_eq_false c1584
            skip
            go_wp2_with fail
            clear c1584
            go_roundg k1574
            case measure => exact Nat.lt_succ_self _
            case rel => exact ⟨(wrap64 (x1575 + t1581)), (wrap64 (x1576 + 1)), (by first | rfl | (simp [IntKind.wrap_u32]; done)), (by first | rfl | (simp [IntKind.wrap_u32]; done)), Aside0.mk AL1572.out, ⟨HS.out⟩⟩
        · have AL1572 := if_no c1578 AL1572
          have c1578b0 : decide (0 ≤ x1576) = false := decide_eq_false c1578
          clear c1578
          exact (none_no AL1572).elim
      · have AL1572 := if_no c1577 AL1572
        have c1577b0 : decide (x1576 < (l1566.length : Int)) = false := decide_eq_false c1577
        clear c1577
        have ho := some_eq AL1572
        subst ho
        clear AL1572
        go_wp2_with fail
        go_ret
        rw [← some_eq H]
        exact ⟨(by first | rfl | (simp [IntKind.wrap_u32]; done)), HS.out⟩

set_option maxHeartbeats 30000000 in
set_option maxRecDepth 100000 in
theorem ratio_by.calls (a1795 : Int) (r : Int) (w : World)  (HGl0 : Aside0 (Gl 0 #[.int .i64 0, .int .i64 0, .int .i64 0, .int .i64 0, .int .i64 0] (fps []) w)) (HS : Aside0 (Sep (fps []) w [] w)) (H : Aside0 (ratio_by.f a1795 = some r)) :
    Calls Tryz.prog 182 #[.int .i64 a1795] w fun e w' => e = .returned (.int .i64 r) ∧ Sep (fps []) w [] w' := by
  unfold ratio_by.f at H
  go_enter Tryz.func182, Tryz.ntmps182
  go_wp2_with fail
  obtain ⟨t1796, HA1797, H⟩ := bind_some H
  refine (ratio_counts.calls a1795 t1796 _ ⟨HGl0.out.pass (l := []) HS.out⟩ ⟨Sep.start _⟩ HA1797).mono ?_
  rintro e_ w1798 ⟨rfl, hS⟩
  replace HS : Aside0 (Sep (fps []) w [] w1798) := ⟨HS.out.call hS⟩
  clear hS
  by_cases c1799 : t1796 < 1
  · have H := if_yes c1799 H
    have c1799b0 : decide (t1796 < 1) = true := decide_eq_true c1799
    skip
    go_wp2_with fail
    clear c1799
    go_ret
    rw [← some_eq H]
    exact ⟨(by first | rfl | (simp [IntKind.wrap_u32]; done)), HS.out⟩
  · have H := if_no c1799 H
    have c1799b0 : decide (t1796 < 1) = false := decide_eq_false c1799
    skip
    go_wp2_with fail
    clear c1799
    go_ret
    rw [← some_eq H]
    exact ⟨(by first | rfl | (simp [IntKind.wrap_u32]; done)), HS.out⟩

set_option maxHeartbeats 30000000 in
set_option maxRecDepth 100000 in
theorem ratio_Up.calls (a1790 : Int) (a1791 : Int) (r : Int) (w : World)  (HGl0 : Aside0 (Gl 0 #[.int .i64 0, .int .i64 0, .int .i64 0, .int .i64 0, .int .i64 0] (fps []) w)) (HS : Aside0 (Sep (fps []) w [] w)) (H : Aside0 (ratio_Up.f a1790 a1791 = some r)) :
    Calls Tryz.prog 141 #[.int .i64 a1790, .int .i64 a1791] w fun e w' => e = .returned (.int .i64 r) ∧ Sep (fps []) w [] w' := by
  unfold ratio_Up.f at H
  go_enter Tryz.func141, Tryz.ntmps141
  go_wp2_with fail
  obtain ⟨t1792, HA1793, H⟩ := bind_some H
  refine (ratio_counts.calls a1790 t1792 _ ⟨HGl0.out.pass (l := []) HS.out⟩ ⟨Sep.start _⟩ HA1793).mono ?_
  rintro e_ w1794 ⟨rfl, hS⟩
  replace HS : Aside0 (Sep (fps []) w [] w1794) := ⟨HS.out.call hS⟩
  clear hS
  go_wp2_with fail
  obtain ⟨t1800, HA1801, H⟩ := bind_some H
  refine (ratio_by.calls a1791 t1800 _ ⟨HGl0.out.pass (l := []) HS.out⟩ ⟨Sep.start _⟩ HA1801).mono ?_
  rintro e_ w1802 ⟨rfl, hS⟩
  replace HS : Aside0 (Sep (fps []) w [] w1802) := ⟨HS.out.call hS⟩
  clear hS
  go_wp2_with fail
  obtain ⟨t1803, HA1804, H⟩ := bind_some H
  refine (ratio_by.calls a1791 t1803 _ ⟨HGl0.out.pass (l := []) HS.out⟩ ⟨Sep.start _⟩ HA1804).mono ?_
  rintro e_ w1805 ⟨rfl, hS⟩
  replace HS : Aside0 (Sep (fps []) w [] w1805) := ⟨HS.out.call hS⟩
  clear hS
  by_cases c1806 : t1803 = 0
  · have H := if_yes c1806 H
    have c1806b0 : (t1803 == 0) = true := beq_iff_eq.mpr c1806
    have c1806b1 : (t1803 != 0) = false := bne_eq_false_iff_eq.mpr c1806
    exact (none_no H).elim
  · have H := if_no c1806 H
    have c1806b0 : (t1803 == 0) = false := beq_eq_false_iff_ne.mpr c1806
    have c1806b1 : (t1803 != 0) = true := bne_iff_ne.mpr c1806
    skip
    go_wp2_with fail
    clear c1806
    go_ret
    rw [← some_eq H]
    exact ⟨(by first | rfl | (simp [IntKind.wrap_u32]; done)), HS.out⟩
end Go.Proofs.YtobeonkddamnoaaGreatDoor.C

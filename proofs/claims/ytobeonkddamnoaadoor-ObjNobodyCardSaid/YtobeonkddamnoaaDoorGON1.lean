/- Each function of the group ON does what its plain function says, and changes nothing that was there; proved by walking its code. No condition. -/
import Derived.Test.YtobeonkddamnoaaDoorQw
import Derived.Test.YtobeonkddamnoaaDoorMON
import Derived.Test.YtobeonkddamnoaaDoorGON0
namespace Go.Proofs.YtobeonkddamnoaaDoor.C
open Go.RowKit Go.Proofs.YtobeonkddamnoaaDoorW.PrintWords Go.Proofs.YtobeonkddamnoaaDoorW.PrintLast Go.Proofs.YtobeonkddamnoaaDoor.Q Go.Proofs.YtobeonkddamnoaaDoor.M
set_option linter.unusedVariables false
set_option linter.unusedSimpArgs false
set_option maxHeartbeats 30000000 in
set_option maxRecDepth 100000 in
theorem obj_Lens_nil.calls (a764 : Int) (r : Int × Int × Int) (w : World)  (HGl0 : Aside0 (Gl 0 #[.int .i64 0, .int .i64 0, .int .i64 0, .int .i64 0, .int .i64 0] (fps []) w)) (HS : Aside0 (Sep (fps []) w [] w)) (H : Aside0 (obj_Lens_nil.f a764 = some r)) :
    Calls Tryd.prog 60 #[.pointer none, .int .i64 a764] w fun e w' => e = .returned (.tuple #[.int .i64 r.1, .int .i64 r.2.1, .int .i64 r.2.2]) ∧ Sep (fps []) w [] w' := by
  unfold obj_Lens_nil.f at H
  go_enter Tryd.func60, Tryd.ntmps60
  go_wp2_with fail
  obtain ⟨t858, HA859, H⟩ := bind_some H
  refine (obj_Is_nil.calls a764 t858 _ ⟨HGl0.out.pass (l := []) HS.out⟩ ⟨Sep.start _⟩ HA859).mono ?_
  rintro e_ w860 ⟨rfl, hS⟩
  replace HS : Aside0 (Sep (fps []) w [] w860) := ⟨HS.out.call hS⟩
  clear hS
  by_cases c861 : t858 = true
  · have H := if_yes c861 H
    have c861b0 : t858 = true := c861
    have c861b1 : (!t858) = false := by rw [c861b0]; rfl
    try rw [c861b1]
    clear c861
    go_wp2_with fail
    obtain ⟨t862, HA863, H⟩ := bind_some H
    refine (ground_Ground_Word_nil.calls (wrap64 (a764 - 1)) 1 t862 _ ⟨HGl0.out.pass (l := []) HS.out⟩ ⟨Sep.start _⟩ HA863).mono ?_
    rintro e_ w864 ⟨rfl, hS⟩
    replace HS : Aside0 (Sep (fps []) w [] w864) := ⟨HS.out.call hS⟩
    clear hS
    go_wp2_with fail
    obtain ⟨t865, HA866, H⟩ := bind_some H
    refine (ground_Ground_Word_nil.calls (wrap64 (a764 - 1)) 2 t865 _ ⟨HGl0.out.pass (l := []) HS.out⟩ ⟨Sep.start _⟩ HA866).mono ?_
    rintro e_ w867 ⟨rfl, hS⟩
    replace HS : Aside0 (Sep (fps []) w [] w867) := ⟨HS.out.call hS⟩
    clear hS
    go_wp2_with fail
    go_ret3
    rw [← some_eq H]
    exact ⟨(by first | rfl | (simp [IntKind.wrap_u32]; done)), HS.out⟩
  · have H := if_no c861 H
    have c861b0 : t858 = false := by simpa using c861
    have c861b1 : (!t858) = true := by rw [c861b0]; rfl
    try rw [c861b1]
    clear c861
    go_wp2_with fail
    go_ret3
    rw [← some_eq H]
    exact ⟨(by first | rfl | (simp [IntKind.wrap_u32]; done)), HS.out⟩

set_option maxHeartbeats 30000000 in
set_option maxRecDepth 100000 in
theorem shape_Place.calls (k : Nat) (a893 : Int) (a894 : Int) (a895 : Int) (r : Int × Int × Int) (w : World)  (HGl0 : Aside0 (Gl 0 #[.int .i64 0, .int .i64 0, .int .i64 0, .int .i64 0, .int .i64 0] (fps []) w)) (HS : Aside0 (Sep (fps []) w [] w)) (H : Aside0 (shape_Place.f k a893 a894 a895 = some r)) :
    Calls Tryd.prog 137 #[.int .i64 a893, .int .i64 a894, .int .i64 a895] w fun e w' => e = .returned (.tuple #[.int .i64 r.1, .int .i64 r.2.1, .int .i64 r.2.2]) ∧ Sep (fps []) w [] w' := by
  unfold shape_Place.f at H
  go_enter Tryd.func137, Tryd.ntmps137
  go_wp2_with (first | ((with_reducible refine gate_dst (N := 12) rfl ?_); refine slice_on (n := 1) ?hg (N := 12) ?hd (cs := #[.int .i64 a894]) (t := 3) ?hr ?_; (case hd => rfl); (case hg => rfl); (case hr => first | (go_simp; done) | (go_simp; rfl)); intro g896 hg w897 hbox hb; replace HS : Aside0 (Sep (fps []) w [b11 g896 a894] w897) := ⟨HS.out.box hg hbox hb⟩; clear hg hbox hb))
  obtain ⟨t899, HA900, H⟩ := bind_some H
  refine (shape_wrong.calls _ a893 [a894] (some ⟨g896, 0, none⟩) 1 t899 _ ⟨Rd.lit (l := []) (xs := [a894]) HS.out 0 rfl (by simp)⟩ ⟨HGl0.out.pass (l := []) HS.out⟩ ⟨Sep.start _⟩ HA900).mono ?_
  rintro e_ w901 ⟨rfl, hS⟩
  replace HS : Aside0 (Sep (fps []) w [b11 g896 a894] w901) := ⟨HS.out.call hS⟩
  clear hS
  by_cases c902 : t899 = 0
  · have H := if_yes c902 H
    have c902b0 : (t899 == 0) = true := beq_iff_eq.mpr c902
    have c902b1 : (t899 != 0) = false := bne_eq_false_iff_eq.mpr c902
    clear c902
    by_cases c903 : a895 < 0
    · have H := if_yes c903 H
      have c903b0 : decide (a895 < 0) = true := decide_eq_true c903
      clear c903
      replace HS : Aside0 (Sep (fps []) w [] w901) := ⟨HS.out.sub (.cons _ .slnil)⟩
      go_wp2_with fail
      go_ret3
      rw [← some_eq H]
      exact ⟨(by first | rfl | (simp [IntKind.wrap_u32]; done)), HS.out⟩
    · have H := if_no c903 H
      have c903b0 : decide (a895 < 0) = false := decide_eq_false c903
      clear c903
      by_cases c904 : a895 ≥ a894
      · have H := if_yes c904 H
        have c904b0 : decide (a894 ≤ a895) = true := decide_eq_true c904
        clear c904
        replace HS : Aside0 (Sep (fps []) w [] w901) := ⟨HS.out.sub (.cons _ .slnil)⟩
        go_wp2_with fail
        go_ret3
        rw [← some_eq H]
        exact ⟨(by first | rfl | (simp [IntKind.wrap_u32]; done)), HS.out⟩
      · have H := if_no c904 H
        have c904b0 : decide (a894 ≤ a895) = false := decide_eq_false c904
        clear c904
        replace HS : Aside0 (Sep (fps []) w [] w901) := ⟨HS.out.sub (.cons _ .slnil)⟩
        go_wp2_with fail
        obtain ⟨t905, HA906, H⟩ := bind_some H
        refine (shape_leaves.calls a893 a894 t905 _ ⟨HGl0.out.pass (l := []) HS.out⟩ ⟨Sep.start _⟩ HA906).mono ?_
        rintro e_ w907 ⟨rfl, hS⟩
        replace HS : Aside0 (Sep (fps []) w [] w907) := ⟨HS.out.call hS⟩
        clear hS
        by_cases c908 : t905 = 0
        · have H := if_yes c908 H
          have c908b0 : (t905 == 0) = true := beq_iff_eq.mpr c908
          have c908b1 : (t905 != 0) = false := bne_eq_false_iff_eq.mpr c908
          clear c908
          go_wp2_with fail
          go_ret3
          rw [← some_eq H]
          exact ⟨(by first | rfl | (simp [IntKind.wrap_u32]; done)), HS.out⟩
        · have H := if_no c908 H
          have c908b0 : (t905 == 0) = false := beq_eq_false_iff_ne.mpr c908
          have c908b1 : (t905 != 0) = true := bne_iff_ne.mpr c908
          clear c908
          go_wp2_with fail
          refine start_ (n := 12) (S := (fun _ => True)) (ds := []) #[false, false, false, false, false, false, false, false, false, false, false, false] (by kernel_rfl) rfl rfl (trivial) (fun hHeld => ?_)
          have HS_ := Aside0.mk HS.out.drew
          clear HS
          generalize World.drew _ = w910 at HS_ hHeld ⊢
          have HS := HS_
          clear HS_
          refine pure_ (i := 0) (N := some 32) (v := ?_) (a' := ?_) #[true, false, false, false, false, false, false, false, false, false, false, false] rfl rfl (by kernel_rfl) (fun _ _ _ h => h) (Or.inl ⟨by rfl, ?_⟩) ?_ ?_
          rotate_left
          · intro w'
            go_simp
            with_reducible rfl
          rotate_left
          · simp only [Act.put, List.setIfInBounds_toArray, List.set_cons_zero, List.set_cons_succ, i64_w, i32_w]
            rfl
          refine pure_ (i := 1) (N := some 33) (v := ?_) (a' := ?_) #[true, true, false, false, false, false, false, false, false, false, false, false] rfl rfl (by kernel_rfl) (fun _ _ _ h => h) (Or.inl ⟨by rfl, ?_⟩) ?_ ?_
          rotate_left
          · intro w'
            go_simp
            with_reducible rfl
          rotate_left
          · simp only [Act.put, List.setIfInBounds_toArray, List.set_cons_zero, List.set_cons_succ, i64_w, i32_w]
            rfl
          refine pure_ (i := 4) (N := some 36) (v := ?_) (a' := ?_) #[true, true, false, false, true, false, false, false, false, false, false, false] rfl rfl (by kernel_rfl) (fun _ _ _ h => h) (Or.inl ⟨by rfl, ?_⟩) ?_ ?_
          rotate_left
          · intro w'
            go_simp
            with_reducible rfl
          rotate_left
          · simp only [Act.put, List.setIfInBounds_toArray, List.set_cons_zero, List.set_cons_succ, i64_w, i32_w]
            rfl
          refine pure_ (i := 5) (N := some 37) (v := ?_) (a' := ?_) #[true, true, false, false, true, true, false, false, false, false, false, false] rfl rfl (by kernel_rfl) (fun _ _ _ h => h) (Or.inl ⟨by rfl, ?_⟩) ?_ ?_
          rotate_left
          · intro w'
            go_simp
            with_reducible rfl
          rotate_left
          · simp only [Act.put, List.setIfInBounds_toArray, List.set_cons_zero, List.set_cons_succ, i64_w, i32_w]
            rfl
          refine one_ (i := 2) (N := some 34) #[true, true, true, false, true, true, false, false, false, false, false, false] rfl rfl (by kernel_rfl) (by decide) (fun K hK => ?_)
          obtain ⟨t911, HA912, H⟩ := bind_some H
          refine goes_ Tryd.func120 (by kernel_rfl) rfl #[.int .i64 a893] (by rfl) rfl rfl (by (try simp only [List.map_toArray, List.map_cons, List.map_nil]); first | done | rfl) ?_
          refine (shape_inLeaf.calls a893 t911 _ ⟨HGl0.out.pass (l := []) HS.out⟩ ⟨Sep.start _⟩ HA912).mono ?_
          rintro e_ w913 ⟨rfl, hS⟩
          replace HS : Aside0 (Sep (fps []) w [] w913) := ⟨HS.out.call hS⟩
          clear hS
          refine ⟨_, rfl, ?_⟩
          refine hK.out _ _ (trivial) (fun hHeld => ?_)
          clear hK K
          refine norm_ (a' := ?_) ?_ ?_
          rotate_left
          · show Act.put _ (some 34) _ = _
            simp only [Act.put, List.setIfInBounds_toArray, List.set_cons_zero, List.set_cons_succ, i64_w, i32_w]
            rfl
          by_cases c914 : t911 = 0
          · have H := if_yes c914 H
            have c914b0 : (t911 == 0) = true := beq_iff_eq.mpr c914
            have c914b1 : (t911 != 0) = false := bne_eq_false_iff_eq.mpr c914
            exact (none_no H).elim
          · have H := if_no c914 H
            have c914b0 : (t911 == 0) = false := beq_eq_false_iff_ne.mpr c914
            have c914b1 : (t911 != 0) = true := bne_iff_ne.mpr c914
            refine pure_ (i := 3) (N := some 35) (v := ?_) (a' := ?_) #[true, true, true, true, true, true, false, false, false, false, false, false] rfl rfl (by kernel_rfl) (fun _ _ _ h => h) (Or.inl ⟨by rfl, ?_⟩) ?_ ?_
            rotate_left
            · intro w'
              go_simp
              with_reducible rfl
            rotate_left
            · simp only [Act.put, List.setIfInBounds_toArray, List.set_cons_zero, List.set_cons_succ, i64_w, i32_w]
              rfl
            refine one_ (i := 6) (N := some 38) #[true, true, true, true, true, true, true, false, false, false, false, false] rfl rfl (by kernel_rfl) (by decide) (fun K hK => ?_)
            obtain ⟨t915, HA916, H⟩ := bind_some H
            refine goes_ Tryd.func120 (by kernel_rfl) rfl #[.int .i64 a893] (by rfl) rfl rfl (by (try simp only [List.map_toArray, List.map_cons, List.map_nil]); first | done | rfl) ?_
            refine (shape_inLeaf.calls a893 t915 _ ⟨HGl0.out.pass (l := []) HS.out⟩ ⟨Sep.start _⟩ HA916).mono ?_
            rintro e_ w917 ⟨rfl, hS⟩
            replace HS : Aside0 (Sep (fps []) w [] w917) := ⟨HS.out.call hS⟩
            clear hS
            refine ⟨_, rfl, ?_⟩
            refine hK.out _ _ (trivial) (fun hHeld => ?_)
            clear hK K
            refine norm_ (a' := ?_) ?_ ?_
            rotate_left
            · show Act.put _ (some 38) _ = _
              simp only [Act.put, List.setIfInBounds_toArray, List.set_cons_zero, List.set_cons_succ, i64_w, i32_w]
              rfl
            by_cases c918 : t915 = 0
            · have H := if_yes c918 H
              have c918b0 : (t915 == 0) = true := beq_iff_eq.mpr c918
              have c918b1 : (t915 != 0) = false := bne_eq_false_iff_eq.mpr c918
              exact (none_no H).elim
            · have H := if_no c918 H
              have c918b0 : (t915 == 0) = false := beq_eq_false_iff_ne.mpr c918
              have c918b1 : (t915 != 0) = true := bne_iff_ne.mpr c918
              refine pure_ (i := 7) (N := some 39) (v := ?_) (a' := ?_) #[true, true, true, true, true, true, true, true, false, false, false, false] rfl rfl (by kernel_rfl) (fun _ _ _ h => h) (Or.inl ⟨by rfl, ?_⟩) ?_ ?_
              rotate_left
              · intro w'
                go_simp
                with_reducible rfl
              rotate_left
              · simp only [Act.put, List.setIfInBounds_toArray, List.set_cons_zero, List.set_cons_succ, i64_w, i32_w]
                rfl
              refine pure_ (i := 8) (N := some 40) (v := ?_) (a' := ?_) #[true, true, true, true, true, true, true, true, true, false, false, false] rfl rfl (by kernel_rfl) (fun _ _ _ h => h) (Or.inl ⟨by rfl, ?_⟩) ?_ ?_
              rotate_left
              · intro w'
                go_simp
                with_reducible rfl
              rotate_left
              · simp only [Act.put, List.setIfInBounds_toArray, List.set_cons_zero, List.set_cons_succ, i64_w, i32_w]
                rfl
              refine pure_ (i := 9) (N := some 6) (v := ?_) (a' := ?_) #[true, true, true, true, true, true, true, true, true, true, false, false] rfl rfl (by kernel_rfl) (fun _ _ _ h => h) (Or.inl ⟨by rfl, ?_⟩) ?_ ?_
              rotate_left
              · intro w'
                go_simp
                with_reducible rfl
              rotate_left
              · simp only [Act.put, List.setIfInBounds_toArray, List.set_cons_zero, List.set_cons_succ, i64_w, i32_w]
                rfl
              refine pure_ (i := 10) (N := some 7) (v := ?_) (a' := ?_) #[true, true, true, true, true, true, true, true, true, true, true, false] rfl rfl (by kernel_rfl) (fun _ _ _ h => h) (Or.inl ⟨by rfl, ?_⟩) ?_ ?_
              rotate_left
              · intro w'
                go_simp
                with_reducible rfl
              rotate_left
              · simp only [Act.put, List.setIfInBounds_toArray, List.set_cons_zero, List.set_cons_succ, i64_w, i32_w]
                rfl
              refine pure_ (i := 11) (N := some 8) (v := ?_) (a' := ?_) #[true, true, true, true, true, true, true, true, true, true, true, true] rfl rfl (by kernel_rfl) (fun _ _ _ h => h) (Or.inl ⟨by rfl, ?_⟩) ?_ ?_
              rotate_left
              · intro w'
                go_simp
                with_reducible rfl
              rotate_left
              · simp only [Act.put, List.setIfInBounds_toArray, List.set_cons_zero, List.set_cons_succ, i64_w, i32_w]
                rfl
              refine done_ (by kernel_rfl) ?_
              skip
              skip
              go_wp2_with fail
              clear c914 c918
              go_ret3
              rw [← some_eq H]
              exact ⟨(by first | rfl | (simp [IntKind.wrap_u32]; done)), HS.out⟩
  · have H := if_no c902 H
    have c902b0 : (t899 == 0) = false := beq_eq_false_iff_ne.mpr c902
    have c902b1 : (t899 != 0) = true := bne_iff_ne.mpr c902
    clear c902
    replace HS : Aside0 (Sep (fps []) w [] w901) := ⟨HS.out.sub (.cons _ .slnil)⟩
    go_wp2_with fail
    go_ret3
    rw [← some_eq H]
    exact ⟨(by first | rfl | (simp [IntKind.wrap_u32]; done)), HS.out⟩

set_option maxHeartbeats 30000000 in
set_option maxRecDepth 100000 in
theorem obj_field_nil.calls (k : Nat) (a758 : Int) (a759 : Int) (a760 : Bool) (r : Int × Int × Int) (w : World)  (HGl0 : Aside0 (Gl 0 #[.int .i64 0, .int .i64 0, .int .i64 0, .int .i64 0, .int .i64 0] (fps []) w)) (HS : Aside0 (Sep (fps []) w [] w)) (H : Aside0 (obj_field_nil.f k a758 a759 a760 = some r)) :
    Calls Tryd.prog 116 #[.pointer none, .int .i64 a758, .int .i64 a759, .bool a760] w fun e w' => e = .returned (.tuple #[.agg #[.int .i64 r.1, .int .i64 r.2.1], .int .i64 r.2.2]) ∧ Sep (fps []) w [] w' := by
  unfold obj_field_nil.f at H
  go_enter Tryd.func116, Tryd.ntmps116
  go_wp2_with (first | ((with_reducible refine gate_dst (N := 8) rfl ?_); refine box_on ?hg (N := 8) ?hd (cs := #[.int .i64 0, .int .i64 0]) (t := 142) ?hr ?_; (case hd => rfl); (case hg => rfl); (case hr => first | (go_simp; done) | (go_simp; rfl)); intro g761 hg w762 hbox hb; replace HS : Aside0 (Sep (fps []) w [b10 g761 0 0] w762) := ⟨HS.out.box hg hbox hb⟩; clear hg hbox hb))
  obtain ⟨t868, HA869, H⟩ := bind_some H
  refine (obj_Lens_nil.calls a758 t868 _ ⟨HGl0.out.pass (l := []) HS.out⟩ ⟨Sep.start _⟩ HA869).mono ?_
  rintro e_ w870 ⟨rfl, hS⟩
  replace HS : Aside0 (Sep (fps []) w [b10 g761 0 0] w870) := ⟨HS.out.call hS⟩
  clear hS
  by_cases c871 : t868.2.2 = 0
  · have H := if_yes c871 H
    have c871b0 : (t868.2.2 == 0) = true := beq_iff_eq.mpr c871
    have c871b1 : (t868.2.2 != 0) = false := bne_eq_false_iff_eq.mpr c871
    clear c871
    by_cases c872 : a760 = true
    · have H := if_yes c872 H
      have c872b0 : a760 = true := c872
      have c872b1 : (!a760) = false := by rw [c872b0]; rfl
      clear c872
      by_cases c873 : a759 < 0
      · have H := if_yes c873 H
        have c873b0 : decide (a759 < 0) = true := decide_eq_true c873
        clear c873
        have hc874 : w870.cell? ⟨g761, 0, none⟩ = some (.int .i64 0) := blk_cellv (HS.out.at0) 0 rfl
        have hz875 : w870.frozen? ⟨g761, 0, none⟩ = false := blk_fz (HS.out.at0) 0
        have hc876 : w870.cell? ⟨g761, 1, none⟩ = some (.int .i64 0) := blk_cellv (HS.out.at0) 1 rfl
        have hz877 : w870.frozen? ⟨g761, 1, none⟩ = false := blk_fz (HS.out.at0) 1
        go_wp2_with (first | ((with_reducible refine gate_store (t := 142) (p := 8) rfl ?_); refine store_event (w1 := (World.setCell (World.setCell w870 ⟨g761, 0, none⟩ (.int .i64 0)) ⟨g761, 1, none⟩ (.int .i64 0))) rfl (t := 142) (p := 8) rfl rfl ?hr ?_; (case hr => first | (go_simp; done) | (go_simp; rfl)); intro w878 hst; clear hc874 hz875 hc876 hz877; have hq0 : Sep (fps []) w [b10 g761 0 0] (World.setCell w870 ⟨g761, 0, none⟩ (.int .i64 0)) := (HS.out).set1 (l1 := []) (l2 := []) 0 (.int .i64 0); have hq1 : Sep (fps []) w [b10 g761 0 0] (World.setCell (World.setCell w870 ⟨g761, 0, none⟩ (.int .i64 0)) ⟨g761, 1, none⟩ (.int .i64 0)) := (hq0).set1 (l1 := []) (l2 := []) 1 (.int .i64 0); replace HS : Aside0 (Sep (fps []) w [b10 g761 0 0] w878) := ⟨by rw [hst]; exact hq1⟩; clear hq0 hq1; clear hst))
        have hc879 : w878.cell? ⟨g761, 0, none⟩ = some (.int .i64 0) := blk_cellv (HS.out.at0) 0 rfl
        have hc880 : w878.cell? ⟨g761, 1, none⟩ = some (.int .i64 0) := blk_cellv (HS.out.at0) 1 rfl
        refine bodyPost_ret (v := .tuple #[.agg #[.int .i64 0, .int .i64 0], .int .i64 7]) (by simp [results, Tryd.results116, go_sem, hc879, hc880]) rfl ?_
        rw [← some_eq H]
        exact ⟨(by first | rfl | (simp [IntKind.wrap_u32]; done)), HS.out.sub (.cons _ .slnil)⟩
      · have H := if_no c873 H
        have c873b0 : decide (a759 < 0) = false := decide_eq_false c873
        clear c873
        by_cases c881 : a759 ≥ t868.2.1
        · have H := if_yes c881 H
          have c881b0 : decide (t868.2.1 ≤ a759) = true := decide_eq_true c881
          clear c881
          have hc882 : w870.cell? ⟨g761, 0, none⟩ = some (.int .i64 0) := blk_cellv (HS.out.at0) 0 rfl
          have hz883 : w870.frozen? ⟨g761, 0, none⟩ = false := blk_fz (HS.out.at0) 0
          have hc884 : w870.cell? ⟨g761, 1, none⟩ = some (.int .i64 0) := blk_cellv (HS.out.at0) 1 rfl
          have hz885 : w870.frozen? ⟨g761, 1, none⟩ = false := blk_fz (HS.out.at0) 1
          go_wp2_with (first | ((with_reducible refine gate_store (t := 142) (p := 8) rfl ?_); refine store_event (w1 := (World.setCell (World.setCell w870 ⟨g761, 0, none⟩ (.int .i64 0)) ⟨g761, 1, none⟩ (.int .i64 0))) rfl (t := 142) (p := 8) rfl rfl ?hr ?_; (case hr => first | (go_simp; done) | (go_simp; rfl)); intro w886 hst; clear hc882 hz883 hc884 hz885; have hq0 : Sep (fps []) w [b10 g761 0 0] (World.setCell w870 ⟨g761, 0, none⟩ (.int .i64 0)) := (HS.out).set1 (l1 := []) (l2 := []) 0 (.int .i64 0); have hq1 : Sep (fps []) w [b10 g761 0 0] (World.setCell (World.setCell w870 ⟨g761, 0, none⟩ (.int .i64 0)) ⟨g761, 1, none⟩ (.int .i64 0)) := (hq0).set1 (l1 := []) (l2 := []) 1 (.int .i64 0); replace HS : Aside0 (Sep (fps []) w [b10 g761 0 0] w886) := ⟨by rw [hst]; exact hq1⟩; clear hq0 hq1; clear hst))
          have hc887 : w886.cell? ⟨g761, 0, none⟩ = some (.int .i64 0) := blk_cellv (HS.out.at0) 0 rfl
          have hc888 : w886.cell? ⟨g761, 1, none⟩ = some (.int .i64 0) := blk_cellv (HS.out.at0) 1 rfl
          refine bodyPost_ret (v := .tuple #[.agg #[.int .i64 0, .int .i64 0], .int .i64 7]) (by simp [results, Tryd.results116, go_sem, hc887, hc888]) rfl ?_
          rw [← some_eq H]
          exact ⟨(by first | rfl | (simp [IntKind.wrap_u32]; done)), HS.out.sub (.cons _ .slnil)⟩
        · have H := if_no c881 H
          have c881b0 : decide (t868.2.1 ≤ a759) = false := decide_eq_false c881
          clear c881
          go_wp2_with fail
          obtain ⟨t889, HA890, H⟩ := bind_some H
          refine (ground_Ground_Conf_nil.calls t889 _ ⟨HGl0.out.pass (l := []) HS.out⟩ ⟨Sep.start _⟩ HA890).mono ?_
          rintro e_ w891 ⟨rfl, hS⟩
          replace HS : Aside0 (Sep (fps []) w [b10 g761 0 0] w891) := ⟨HS.out.call hS⟩
          clear hS
          have fl892 : ∀ w, (Instr.field 30 (.agg #[.int .i64 t889.1, .int .i64 t889.2.1, .int .i64 t889.2.2.1, .int .i64 t889.2.2.2]) 1).run Tryd.prog w = .ok (.int .i64 t889.2.1) w := fun _ => by kernel_rfl
          go_wp2_with fail
          clear fl892
          obtain ⟨t919, HA920, H⟩ := bind_some H
          refine (shape_Place.calls _ t889.2.1 (wrap64 (t868.1 + t868.2.1)) (wrap64 (t868.1 + a759)) t919 _ ⟨HGl0.out.pass (l := []) HS.out⟩ ⟨Sep.start _⟩ HA920).mono ?_
          rintro e_ w921 ⟨rfl, hS⟩
          replace HS : Aside0 (Sep (fps []) w [b10 g761 0 0] w921) := ⟨HS.out.call hS⟩
          clear hS
          by_cases c922 : t919.2.2 = 0
          · have H := if_yes c922 H
            have c922b0 : (t919.2.2 == 0) = true := beq_iff_eq.mpr c922
            have c922b1 : (t919.2.2 != 0) = false := bne_eq_false_iff_eq.mpr c922
            clear c922
            by_cases c923 : t919.1 < 0
            · have H := if_yes c923 H
              have c923b0 : decide (t919.1 < 0) = true := decide_eq_true c923
              clear c923
              have hc924 : w921.cell? ⟨g761, 0, none⟩ = some (.int .i64 0) := blk_cellv (HS.out.at0) 0 rfl
              have hz925 : w921.frozen? ⟨g761, 0, none⟩ = false := blk_fz (HS.out.at0) 0
              have hc926 : w921.cell? ⟨g761, 1, none⟩ = some (.int .i64 0) := blk_cellv (HS.out.at0) 1 rfl
              have hz927 : w921.frozen? ⟨g761, 1, none⟩ = false := blk_fz (HS.out.at0) 1
              go_wp2_with (first | ((with_reducible refine gate_store (t := 142) (p := 8) rfl ?_); refine store_event (w1 := (World.setCell (World.setCell w921 ⟨g761, 0, none⟩ (.int .i64 (wrap64 (a758 - 1)))) ⟨g761, 1, none⟩ (.int .i64 t919.2.1))) rfl (t := 142) (p := 8) rfl rfl ?hr ?_; (case hr => first | (go_simp; done) | (go_simp; rfl)); intro w928 hst; clear hc924 hz925 hc926 hz927; have hq0 : Sep (fps []) w [b10 g761 (wrap64 (a758 - 1)) 0] (World.setCell w921 ⟨g761, 0, none⟩ (.int .i64 (wrap64 (a758 - 1)))) := (HS.out).set1 (l1 := []) (l2 := []) 0 (.int .i64 (wrap64 (a758 - 1))); have hq1 : Sep (fps []) w [b10 g761 (wrap64 (a758 - 1)) t919.2.1] (World.setCell (World.setCell w921 ⟨g761, 0, none⟩ (.int .i64 (wrap64 (a758 - 1)))) ⟨g761, 1, none⟩ (.int .i64 t919.2.1)) := (hq0).set1 (l1 := []) (l2 := []) 1 (.int .i64 t919.2.1); replace HS : Aside0 (Sep (fps []) w [b10 g761 (wrap64 (a758 - 1)) t919.2.1] w928) := ⟨by rw [hst]; exact hq1⟩; clear hq0 hq1; clear hst))
              have hc929 : w928.cell? ⟨g761, 0, none⟩ = some (.int .i64 (wrap64 (a758 - 1))) := blk_cellv (HS.out.at0) 0 rfl
              have hc930 : w928.cell? ⟨g761, 1, none⟩ = some (.int .i64 t919.2.1) := blk_cellv (HS.out.at0) 1 rfl
              refine bodyPost_ret (v := .tuple #[.agg #[.int .i64 (wrap64 (a758 - 1)), .int .i64 t919.2.1], .int .i64 0]) (by simp [results, Tryd.results116, go_sem, hc929, hc930]) rfl ?_
              rw [← some_eq H]
              exact ⟨(by first | rfl | (simp [IntKind.wrap_u32]; done)), HS.out.sub (.cons _ .slnil)⟩
            · have H := if_no c923 H
              have c923b0 : decide (t919.1 < 0) = false := decide_eq_false c923
              clear c923
              go_wp2_with fail
              obtain ⟨t931, HA932, H⟩ := bind_some H
              refine (ground_Ground_Word_nil.calls (wrap64 (a758 - 1)) (wrap64 (8 + t919.1)) t931 _ ⟨HGl0.out.pass (l := []) HS.out⟩ ⟨Sep.start _⟩ HA932).mono ?_
              rintro e_ w933 ⟨rfl, hS⟩
              replace HS : Aside0 (Sep (fps []) w [b10 g761 0 0] w933) := ⟨HS.out.call hS⟩
              clear hS
              by_cases c934 : (wrap64 (t931)) = 0
              · have H := if_yes c934 H
                have c934b0 : ((wrap64 (t931)) == 0) = true := beq_iff_eq.mpr c934
                have c934b1 : ((wrap64 (t931)) != 0) = false := bne_eq_false_iff_eq.mpr c934
                clear c934
                have hc935 : w933.cell? ⟨g761, 0, none⟩ = some (.int .i64 0) := blk_cellv (HS.out.at0) 0 rfl
                have hz936 : w933.frozen? ⟨g761, 0, none⟩ = false := blk_fz (HS.out.at0) 0
                have hc937 : w933.cell? ⟨g761, 1, none⟩ = some (.int .i64 0) := blk_cellv (HS.out.at0) 1 rfl
                have hz938 : w933.frozen? ⟨g761, 1, none⟩ = false := blk_fz (HS.out.at0) 1
                go_wp2_with (first | ((with_reducible refine gate_store (t := 142) (p := 8) rfl ?_); refine store_event (w1 := (World.setCell (World.setCell w933 ⟨g761, 0, none⟩ (.int .i64 0)) ⟨g761, 1, none⟩ (.int .i64 0))) rfl (t := 142) (p := 8) rfl rfl ?hr ?_; (case hr => first | (go_simp; done) | (go_simp; rfl)); intro w939 hst; clear hc935 hz936 hc937 hz938; have hq0 : Sep (fps []) w [b10 g761 0 0] (World.setCell w933 ⟨g761, 0, none⟩ (.int .i64 0)) := (HS.out).set1 (l1 := []) (l2 := []) 0 (.int .i64 0); have hq1 : Sep (fps []) w [b10 g761 0 0] (World.setCell (World.setCell w933 ⟨g761, 0, none⟩ (.int .i64 0)) ⟨g761, 1, none⟩ (.int .i64 0)) := (hq0).set1 (l1 := []) (l2 := []) 1 (.int .i64 0); replace HS : Aside0 (Sep (fps []) w [b10 g761 0 0] w939) := ⟨by rw [hst]; exact hq1⟩; clear hq0 hq1; clear hst))
                have hc940 : w939.cell? ⟨g761, 0, none⟩ = some (.int .i64 0) := blk_cellv (HS.out.at0) 0 rfl
                have hc941 : w939.cell? ⟨g761, 1, none⟩ = some (.int .i64 0) := blk_cellv (HS.out.at0) 1 rfl
                refine bodyPost_ret (v := .tuple #[.agg #[.int .i64 0, .int .i64 0], .int .i64 7]) (by simp [results, Tryd.results116, go_sem, hc940, hc941]) rfl ?_
                rw [← some_eq H]
                exact ⟨(by first | rfl | (simp [IntKind.wrap_u32]; done)), HS.out.sub (.cons _ .slnil)⟩
              · have H := if_no c934 H
                have c934b0 : ((wrap64 (t931)) == 0) = false := beq_eq_false_iff_ne.mpr c934
                have c934b1 : ((wrap64 (t931)) != 0) = true := bne_iff_ne.mpr c934
                clear c934
                have hc942 : w933.cell? ⟨g761, 0, none⟩ = some (.int .i64 0) := blk_cellv (HS.out.at0) 0 rfl
                have hz943 : w933.frozen? ⟨g761, 0, none⟩ = false := blk_fz (HS.out.at0) 0
                have hc944 : w933.cell? ⟨g761, 1, none⟩ = some (.int .i64 0) := blk_cellv (HS.out.at0) 1 rfl
                have hz945 : w933.frozen? ⟨g761, 1, none⟩ = false := blk_fz (HS.out.at0) 1
                go_wp2_with (first | ((with_reducible refine gate_store (t := 142) (p := 8) rfl ?_); refine store_event (w1 := (World.setCell (World.setCell w933 ⟨g761, 0, none⟩ (.int .i64 (wrap64 ((wrap64 (t931)) - 1)))) ⟨g761, 1, none⟩ (.int .i64 t919.2.1))) rfl (t := 142) (p := 8) rfl rfl ?hr ?_; (case hr => first | (go_simp; done) | (go_simp; rfl)); intro w946 hst; clear hc942 hz943 hc944 hz945; have hq0 : Sep (fps []) w [b10 g761 (wrap64 ((wrap64 (t931)) - 1)) 0] (World.setCell w933 ⟨g761, 0, none⟩ (.int .i64 (wrap64 ((wrap64 (t931)) - 1)))) := (HS.out).set1 (l1 := []) (l2 := []) 0 (.int .i64 (wrap64 ((wrap64 (t931)) - 1))); have hq1 : Sep (fps []) w [b10 g761 (wrap64 ((wrap64 (t931)) - 1)) t919.2.1] (World.setCell (World.setCell w933 ⟨g761, 0, none⟩ (.int .i64 (wrap64 ((wrap64 (t931)) - 1)))) ⟨g761, 1, none⟩ (.int .i64 t919.2.1)) := (hq0).set1 (l1 := []) (l2 := []) 1 (.int .i64 t919.2.1); replace HS : Aside0 (Sep (fps []) w [b10 g761 (wrap64 ((wrap64 (t931)) - 1)) t919.2.1] w946) := ⟨by rw [hst]; exact hq1⟩; clear hq0 hq1; clear hst))
                have hc947 : w946.cell? ⟨g761, 0, none⟩ = some (.int .i64 (wrap64 ((wrap64 (t931)) - 1))) := blk_cellv (HS.out.at0) 0 rfl
                have hc948 : w946.cell? ⟨g761, 1, none⟩ = some (.int .i64 t919.2.1) := blk_cellv (HS.out.at0) 1 rfl
                refine bodyPost_ret (v := .tuple #[.agg #[.int .i64 (wrap64 ((wrap64 (t931)) - 1)), .int .i64 t919.2.1], .int .i64 0]) (by simp [results, Tryd.results116, go_sem, hc947, hc948]) rfl ?_
                rw [← some_eq H]
                exact ⟨(by first | rfl | (simp [IntKind.wrap_u32]; done)), HS.out.sub (.cons _ .slnil)⟩
          · have H := if_no c922 H
            have c922b0 : (t919.2.2 == 0) = false := beq_eq_false_iff_ne.mpr c922
            have c922b1 : (t919.2.2 != 0) = true := bne_iff_ne.mpr c922
            clear c922
            have hc949 : w921.cell? ⟨g761, 0, none⟩ = some (.int .i64 0) := blk_cellv (HS.out.at0) 0 rfl
            have hz950 : w921.frozen? ⟨g761, 0, none⟩ = false := blk_fz (HS.out.at0) 0
            have hc951 : w921.cell? ⟨g761, 1, none⟩ = some (.int .i64 0) := blk_cellv (HS.out.at0) 1 rfl
            have hz952 : w921.frozen? ⟨g761, 1, none⟩ = false := blk_fz (HS.out.at0) 1
            go_wp2_with (first | ((with_reducible refine gate_store (t := 142) (p := 8) rfl ?_); refine store_event (w1 := (World.setCell (World.setCell w921 ⟨g761, 0, none⟩ (.int .i64 0)) ⟨g761, 1, none⟩ (.int .i64 0))) rfl (t := 142) (p := 8) rfl rfl ?hr ?_; (case hr => first | (go_simp; done) | (go_simp; rfl)); intro w953 hst; clear hc949 hz950 hc951 hz952; have hq0 : Sep (fps []) w [b10 g761 0 0] (World.setCell w921 ⟨g761, 0, none⟩ (.int .i64 0)) := (HS.out).set1 (l1 := []) (l2 := []) 0 (.int .i64 0); have hq1 : Sep (fps []) w [b10 g761 0 0] (World.setCell (World.setCell w921 ⟨g761, 0, none⟩ (.int .i64 0)) ⟨g761, 1, none⟩ (.int .i64 0)) := (hq0).set1 (l1 := []) (l2 := []) 1 (.int .i64 0); replace HS : Aside0 (Sep (fps []) w [b10 g761 0 0] w953) := ⟨by rw [hst]; exact hq1⟩; clear hq0 hq1; clear hst))
            have hc954 : w953.cell? ⟨g761, 0, none⟩ = some (.int .i64 0) := blk_cellv (HS.out.at0) 0 rfl
            have hc955 : w953.cell? ⟨g761, 1, none⟩ = some (.int .i64 0) := blk_cellv (HS.out.at0) 1 rfl
            refine bodyPost_ret (v := .tuple #[.agg #[.int .i64 0, .int .i64 0], .int .i64 t919.2.2]) (by simp [results, Tryd.results116, go_sem, hc954, hc955]) rfl ?_
            rw [← some_eq H]
            exact ⟨(by first | rfl | (simp [IntKind.wrap_u32]; done)), HS.out.sub (.cons _ .slnil)⟩
    · have H := if_no c872 H
      have c872b0 : a760 = false := by simpa using c872
      have c872b1 : (!a760) = true := by rw [c872b0]; rfl
      clear c872
      by_cases c956 : a759 < 0
      · have H := if_yes c956 H
        have c956b0 : decide (a759 < 0) = true := decide_eq_true c956
        clear c956
        have hc957 : w870.cell? ⟨g761, 0, none⟩ = some (.int .i64 0) := blk_cellv (HS.out.at0) 0 rfl
        have hz958 : w870.frozen? ⟨g761, 0, none⟩ = false := blk_fz (HS.out.at0) 0
        have hc959 : w870.cell? ⟨g761, 1, none⟩ = some (.int .i64 0) := blk_cellv (HS.out.at0) 1 rfl
        have hz960 : w870.frozen? ⟨g761, 1, none⟩ = false := blk_fz (HS.out.at0) 1
        go_wp2_with (first | ((with_reducible refine gate_store (t := 142) (p := 8) rfl ?_); refine store_event (w1 := (World.setCell (World.setCell w870 ⟨g761, 0, none⟩ (.int .i64 0)) ⟨g761, 1, none⟩ (.int .i64 0))) rfl (t := 142) (p := 8) rfl rfl ?hr ?_; (case hr => first | (go_simp; done) | (go_simp; rfl)); intro w961 hst; clear hc957 hz958 hc959 hz960; have hq0 : Sep (fps []) w [b10 g761 0 0] (World.setCell w870 ⟨g761, 0, none⟩ (.int .i64 0)) := (HS.out).set1 (l1 := []) (l2 := []) 0 (.int .i64 0); have hq1 : Sep (fps []) w [b10 g761 0 0] (World.setCell (World.setCell w870 ⟨g761, 0, none⟩ (.int .i64 0)) ⟨g761, 1, none⟩ (.int .i64 0)) := (hq0).set1 (l1 := []) (l2 := []) 1 (.int .i64 0); replace HS : Aside0 (Sep (fps []) w [b10 g761 0 0] w961) := ⟨by rw [hst]; exact hq1⟩; clear hq0 hq1; clear hst))
        have hc962 : w961.cell? ⟨g761, 0, none⟩ = some (.int .i64 0) := blk_cellv (HS.out.at0) 0 rfl
        have hc963 : w961.cell? ⟨g761, 1, none⟩ = some (.int .i64 0) := blk_cellv (HS.out.at0) 1 rfl
        refine bodyPost_ret (v := .tuple #[.agg #[.int .i64 0, .int .i64 0], .int .i64 7]) (by simp [results, Tryd.results116, go_sem, hc962, hc963]) rfl ?_
        rw [← some_eq H]
        exact ⟨(by first | rfl | (simp [IntKind.wrap_u32]; done)), HS.out.sub (.cons _ .slnil)⟩
      · have H := if_no c956 H
        have c956b0 : decide (a759 < 0) = false := decide_eq_false c956
        clear c956
        by_cases c964 : a759 ≥ t868.1
        · have H := if_yes c964 H
          have c964b0 : decide (t868.1 ≤ a759) = true := decide_eq_true c964
          clear c964
          have hc965 : w870.cell? ⟨g761, 0, none⟩ = some (.int .i64 0) := blk_cellv (HS.out.at0) 0 rfl
          have hz966 : w870.frozen? ⟨g761, 0, none⟩ = false := blk_fz (HS.out.at0) 0
          have hc967 : w870.cell? ⟨g761, 1, none⟩ = some (.int .i64 0) := blk_cellv (HS.out.at0) 1 rfl
          have hz968 : w870.frozen? ⟨g761, 1, none⟩ = false := blk_fz (HS.out.at0) 1
          go_wp2_with (first | ((with_reducible refine gate_store (t := 142) (p := 8) rfl ?_); refine store_event (w1 := (World.setCell (World.setCell w870 ⟨g761, 0, none⟩ (.int .i64 0)) ⟨g761, 1, none⟩ (.int .i64 0))) rfl (t := 142) (p := 8) rfl rfl ?hr ?_; (case hr => first | (go_simp; done) | (go_simp; rfl)); intro w969 hst; clear hc965 hz966 hc967 hz968; have hq0 : Sep (fps []) w [b10 g761 0 0] (World.setCell w870 ⟨g761, 0, none⟩ (.int .i64 0)) := (HS.out).set1 (l1 := []) (l2 := []) 0 (.int .i64 0); have hq1 : Sep (fps []) w [b10 g761 0 0] (World.setCell (World.setCell w870 ⟨g761, 0, none⟩ (.int .i64 0)) ⟨g761, 1, none⟩ (.int .i64 0)) := (hq0).set1 (l1 := []) (l2 := []) 1 (.int .i64 0); replace HS : Aside0 (Sep (fps []) w [b10 g761 0 0] w969) := ⟨by rw [hst]; exact hq1⟩; clear hq0 hq1; clear hst))
          have hc970 : w969.cell? ⟨g761, 0, none⟩ = some (.int .i64 0) := blk_cellv (HS.out.at0) 0 rfl
          have hc971 : w969.cell? ⟨g761, 1, none⟩ = some (.int .i64 0) := blk_cellv (HS.out.at0) 1 rfl
          refine bodyPost_ret (v := .tuple #[.agg #[.int .i64 0, .int .i64 0], .int .i64 7]) (by simp [results, Tryd.results116, go_sem, hc970, hc971]) rfl ?_
          rw [← some_eq H]
          exact ⟨(by first | rfl | (simp [IntKind.wrap_u32]; done)), HS.out.sub (.cons _ .slnil)⟩
        · have H := if_no c964 H
          have c964b0 : decide (t868.1 ≤ a759) = false := decide_eq_false c964
          clear c964
          go_wp2_with fail
          obtain ⟨t889, HA972, H⟩ := bind_some H
          refine (ground_Ground_Conf_nil.calls t889 _ ⟨HGl0.out.pass (l := []) HS.out⟩ ⟨Sep.start _⟩ HA972).mono ?_
          rintro e_ w973 ⟨rfl, hS⟩
          replace HS : Aside0 (Sep (fps []) w [b10 g761 0 0] w973) := ⟨HS.out.call hS⟩
          clear hS
          have fl974 : ∀ w, (Instr.field 30 (.agg #[.int .i64 t889.1, .int .i64 t889.2.1, .int .i64 t889.2.2.1, .int .i64 t889.2.2.2]) 1).run Tryd.prog w = .ok (.int .i64 t889.2.1) w := fun _ => by kernel_rfl
          go_wp2_with fail
          clear fl974
          obtain ⟨t919, HA975, H⟩ := bind_some H
          refine (shape_Place.calls _ t889.2.1 (wrap64 (t868.1 + t868.2.1)) (wrap64 (a759)) t919 _ ⟨HGl0.out.pass (l := []) HS.out⟩ ⟨Sep.start _⟩ HA975).mono ?_
          rintro e_ w976 ⟨rfl, hS⟩
          replace HS : Aside0 (Sep (fps []) w [b10 g761 0 0] w976) := ⟨HS.out.call hS⟩
          clear hS
          by_cases c977 : t919.2.2 = 0
          · have H := if_yes c977 H
            have c977b0 : (t919.2.2 == 0) = true := beq_iff_eq.mpr c977
            have c977b1 : (t919.2.2 != 0) = false := bne_eq_false_iff_eq.mpr c977
            clear c977
            by_cases c978 : t919.1 < 0
            · have H := if_yes c978 H
              have c978b0 : decide (t919.1 < 0) = true := decide_eq_true c978
              clear c978
              have hc979 : w976.cell? ⟨g761, 0, none⟩ = some (.int .i64 0) := blk_cellv (HS.out.at0) 0 rfl
              have hz980 : w976.frozen? ⟨g761, 0, none⟩ = false := blk_fz (HS.out.at0) 0
              have hc981 : w976.cell? ⟨g761, 1, none⟩ = some (.int .i64 0) := blk_cellv (HS.out.at0) 1 rfl
              have hz982 : w976.frozen? ⟨g761, 1, none⟩ = false := blk_fz (HS.out.at0) 1
              go_wp2_with (first | ((with_reducible refine gate_store (t := 142) (p := 8) rfl ?_); refine store_event (w1 := (World.setCell (World.setCell w976 ⟨g761, 0, none⟩ (.int .i64 (wrap64 (a758 - 1)))) ⟨g761, 1, none⟩ (.int .i64 t919.2.1))) rfl (t := 142) (p := 8) rfl rfl ?hr ?_; (case hr => first | (go_simp; done) | (go_simp; rfl)); intro w983 hst; clear hc979 hz980 hc981 hz982; have hq0 : Sep (fps []) w [b10 g761 (wrap64 (a758 - 1)) 0] (World.setCell w976 ⟨g761, 0, none⟩ (.int .i64 (wrap64 (a758 - 1)))) := (HS.out).set1 (l1 := []) (l2 := []) 0 (.int .i64 (wrap64 (a758 - 1))); have hq1 : Sep (fps []) w [b10 g761 (wrap64 (a758 - 1)) t919.2.1] (World.setCell (World.setCell w976 ⟨g761, 0, none⟩ (.int .i64 (wrap64 (a758 - 1)))) ⟨g761, 1, none⟩ (.int .i64 t919.2.1)) := (hq0).set1 (l1 := []) (l2 := []) 1 (.int .i64 t919.2.1); replace HS : Aside0 (Sep (fps []) w [b10 g761 (wrap64 (a758 - 1)) t919.2.1] w983) := ⟨by rw [hst]; exact hq1⟩; clear hq0 hq1; clear hst))
              have hc984 : w983.cell? ⟨g761, 0, none⟩ = some (.int .i64 (wrap64 (a758 - 1))) := blk_cellv (HS.out.at0) 0 rfl
              have hc985 : w983.cell? ⟨g761, 1, none⟩ = some (.int .i64 t919.2.1) := blk_cellv (HS.out.at0) 1 rfl
              refine bodyPost_ret (v := .tuple #[.agg #[.int .i64 (wrap64 (a758 - 1)), .int .i64 t919.2.1], .int .i64 0]) (by simp [results, Tryd.results116, go_sem, hc984, hc985]) rfl ?_
              rw [← some_eq H]
              exact ⟨(by first | rfl | (simp [IntKind.wrap_u32]; done)), HS.out.sub (.cons _ .slnil)⟩
            · have H := if_no c978 H
              have c978b0 : decide (t919.1 < 0) = false := decide_eq_false c978
              clear c978
              go_wp2_with fail
              obtain ⟨t931, HA986, H⟩ := bind_some H
              refine (ground_Ground_Word_nil.calls (wrap64 (a758 - 1)) (wrap64 (8 + t919.1)) t931 _ ⟨HGl0.out.pass (l := []) HS.out⟩ ⟨Sep.start _⟩ HA986).mono ?_
              rintro e_ w987 ⟨rfl, hS⟩
              replace HS : Aside0 (Sep (fps []) w [b10 g761 0 0] w987) := ⟨HS.out.call hS⟩
              clear hS
              by_cases c988 : (wrap64 (t931)) = 0
              · have H := if_yes c988 H
                have c988b0 : ((wrap64 (t931)) == 0) = true := beq_iff_eq.mpr c988
                have c988b1 : ((wrap64 (t931)) != 0) = false := bne_eq_false_iff_eq.mpr c988
                clear c988
                have hc989 : w987.cell? ⟨g761, 0, none⟩ = some (.int .i64 0) := blk_cellv (HS.out.at0) 0 rfl
                have hz990 : w987.frozen? ⟨g761, 0, none⟩ = false := blk_fz (HS.out.at0) 0
                have hc991 : w987.cell? ⟨g761, 1, none⟩ = some (.int .i64 0) := blk_cellv (HS.out.at0) 1 rfl
                have hz992 : w987.frozen? ⟨g761, 1, none⟩ = false := blk_fz (HS.out.at0) 1
                go_wp2_with (first | ((with_reducible refine gate_store (t := 142) (p := 8) rfl ?_); refine store_event (w1 := (World.setCell (World.setCell w987 ⟨g761, 0, none⟩ (.int .i64 0)) ⟨g761, 1, none⟩ (.int .i64 0))) rfl (t := 142) (p := 8) rfl rfl ?hr ?_; (case hr => first | (go_simp; done) | (go_simp; rfl)); intro w993 hst; clear hc989 hz990 hc991 hz992; have hq0 : Sep (fps []) w [b10 g761 0 0] (World.setCell w987 ⟨g761, 0, none⟩ (.int .i64 0)) := (HS.out).set1 (l1 := []) (l2 := []) 0 (.int .i64 0); have hq1 : Sep (fps []) w [b10 g761 0 0] (World.setCell (World.setCell w987 ⟨g761, 0, none⟩ (.int .i64 0)) ⟨g761, 1, none⟩ (.int .i64 0)) := (hq0).set1 (l1 := []) (l2 := []) 1 (.int .i64 0); replace HS : Aside0 (Sep (fps []) w [b10 g761 0 0] w993) := ⟨by rw [hst]; exact hq1⟩; clear hq0 hq1; clear hst))
                have hc994 : w993.cell? ⟨g761, 0, none⟩ = some (.int .i64 0) := blk_cellv (HS.out.at0) 0 rfl
                have hc995 : w993.cell? ⟨g761, 1, none⟩ = some (.int .i64 0) := blk_cellv (HS.out.at0) 1 rfl
                refine bodyPost_ret (v := .tuple #[.agg #[.int .i64 0, .int .i64 0], .int .i64 7]) (by simp [results, Tryd.results116, go_sem, hc994, hc995]) rfl ?_
                rw [← some_eq H]
                exact ⟨(by first | rfl | (simp [IntKind.wrap_u32]; done)), HS.out.sub (.cons _ .slnil)⟩
              · have H := if_no c988 H
                have c988b0 : ((wrap64 (t931)) == 0) = false := beq_eq_false_iff_ne.mpr c988
                have c988b1 : ((wrap64 (t931)) != 0) = true := bne_iff_ne.mpr c988
                clear c988
                have hc996 : w987.cell? ⟨g761, 0, none⟩ = some (.int .i64 0) := blk_cellv (HS.out.at0) 0 rfl
                have hz997 : w987.frozen? ⟨g761, 0, none⟩ = false := blk_fz (HS.out.at0) 0
                have hc998 : w987.cell? ⟨g761, 1, none⟩ = some (.int .i64 0) := blk_cellv (HS.out.at0) 1 rfl
                have hz999 : w987.frozen? ⟨g761, 1, none⟩ = false := blk_fz (HS.out.at0) 1
                go_wp2_with (first | ((with_reducible refine gate_store (t := 142) (p := 8) rfl ?_); refine store_event (w1 := (World.setCell (World.setCell w987 ⟨g761, 0, none⟩ (.int .i64 (wrap64 ((wrap64 (t931)) - 1)))) ⟨g761, 1, none⟩ (.int .i64 t919.2.1))) rfl (t := 142) (p := 8) rfl rfl ?hr ?_; (case hr => first | (go_simp; done) | (go_simp; rfl)); intro w1000 hst; clear hc996 hz997 hc998 hz999; have hq0 : Sep (fps []) w [b10 g761 (wrap64 ((wrap64 (t931)) - 1)) 0] (World.setCell w987 ⟨g761, 0, none⟩ (.int .i64 (wrap64 ((wrap64 (t931)) - 1)))) := (HS.out).set1 (l1 := []) (l2 := []) 0 (.int .i64 (wrap64 ((wrap64 (t931)) - 1))); have hq1 : Sep (fps []) w [b10 g761 (wrap64 ((wrap64 (t931)) - 1)) t919.2.1] (World.setCell (World.setCell w987 ⟨g761, 0, none⟩ (.int .i64 (wrap64 ((wrap64 (t931)) - 1)))) ⟨g761, 1, none⟩ (.int .i64 t919.2.1)) := (hq0).set1 (l1 := []) (l2 := []) 1 (.int .i64 t919.2.1); replace HS : Aside0 (Sep (fps []) w [b10 g761 (wrap64 ((wrap64 (t931)) - 1)) t919.2.1] w1000) := ⟨by rw [hst]; exact hq1⟩; clear hq0 hq1; clear hst))
                have hc1001 : w1000.cell? ⟨g761, 0, none⟩ = some (.int .i64 (wrap64 ((wrap64 (t931)) - 1))) := blk_cellv (HS.out.at0) 0 rfl
                have hc1002 : w1000.cell? ⟨g761, 1, none⟩ = some (.int .i64 t919.2.1) := blk_cellv (HS.out.at0) 1 rfl
                refine bodyPost_ret (v := .tuple #[.agg #[.int .i64 (wrap64 ((wrap64 (t931)) - 1)), .int .i64 t919.2.1], .int .i64 0]) (by simp [results, Tryd.results116, go_sem, hc1001, hc1002]) rfl ?_
                rw [← some_eq H]
                exact ⟨(by first | rfl | (simp [IntKind.wrap_u32]; done)), HS.out.sub (.cons _ .slnil)⟩
          · have H := if_no c977 H
            have c977b0 : (t919.2.2 == 0) = false := beq_eq_false_iff_ne.mpr c977
            have c977b1 : (t919.2.2 != 0) = true := bne_iff_ne.mpr c977
            clear c977
            have hc1003 : w976.cell? ⟨g761, 0, none⟩ = some (.int .i64 0) := blk_cellv (HS.out.at0) 0 rfl
            have hz1004 : w976.frozen? ⟨g761, 0, none⟩ = false := blk_fz (HS.out.at0) 0
            have hc1005 : w976.cell? ⟨g761, 1, none⟩ = some (.int .i64 0) := blk_cellv (HS.out.at0) 1 rfl
            have hz1006 : w976.frozen? ⟨g761, 1, none⟩ = false := blk_fz (HS.out.at0) 1
            go_wp2_with (first | ((with_reducible refine gate_store (t := 142) (p := 8) rfl ?_); refine store_event (w1 := (World.setCell (World.setCell w976 ⟨g761, 0, none⟩ (.int .i64 0)) ⟨g761, 1, none⟩ (.int .i64 0))) rfl (t := 142) (p := 8) rfl rfl ?hr ?_; (case hr => first | (go_simp; done) | (go_simp; rfl)); intro w1007 hst; clear hc1003 hz1004 hc1005 hz1006; have hq0 : Sep (fps []) w [b10 g761 0 0] (World.setCell w976 ⟨g761, 0, none⟩ (.int .i64 0)) := (HS.out).set1 (l1 := []) (l2 := []) 0 (.int .i64 0); have hq1 : Sep (fps []) w [b10 g761 0 0] (World.setCell (World.setCell w976 ⟨g761, 0, none⟩ (.int .i64 0)) ⟨g761, 1, none⟩ (.int .i64 0)) := (hq0).set1 (l1 := []) (l2 := []) 1 (.int .i64 0); replace HS : Aside0 (Sep (fps []) w [b10 g761 0 0] w1007) := ⟨by rw [hst]; exact hq1⟩; clear hq0 hq1; clear hst))
            have hc1008 : w1007.cell? ⟨g761, 0, none⟩ = some (.int .i64 0) := blk_cellv (HS.out.at0) 0 rfl
            have hc1009 : w1007.cell? ⟨g761, 1, none⟩ = some (.int .i64 0) := blk_cellv (HS.out.at0) 1 rfl
            refine bodyPost_ret (v := .tuple #[.agg #[.int .i64 0, .int .i64 0], .int .i64 t919.2.2]) (by simp [results, Tryd.results116, go_sem, hc1008, hc1009]) rfl ?_
            rw [← some_eq H]
            exact ⟨(by first | rfl | (simp [IntKind.wrap_u32]; done)), HS.out.sub (.cons _ .slnil)⟩
  · have H := if_no c871 H
    have c871b0 : (t868.2.2 == 0) = false := beq_eq_false_iff_ne.mpr c871
    have c871b1 : (t868.2.2 != 0) = true := bne_iff_ne.mpr c871
    clear c871
    have hc1010 : w870.cell? ⟨g761, 0, none⟩ = some (.int .i64 0) := blk_cellv (HS.out.at0) 0 rfl
    have hz1011 : w870.frozen? ⟨g761, 0, none⟩ = false := blk_fz (HS.out.at0) 0
    have hc1012 : w870.cell? ⟨g761, 1, none⟩ = some (.int .i64 0) := blk_cellv (HS.out.at0) 1 rfl
    have hz1013 : w870.frozen? ⟨g761, 1, none⟩ = false := blk_fz (HS.out.at0) 1
    go_wp2_with (first | ((with_reducible refine gate_store (t := 142) (p := 8) rfl ?_); refine store_event (w1 := (World.setCell (World.setCell w870 ⟨g761, 0, none⟩ (.int .i64 0)) ⟨g761, 1, none⟩ (.int .i64 0))) rfl (t := 142) (p := 8) rfl rfl ?hr ?_; (case hr => first | (go_simp; done) | (go_simp; rfl)); intro w1014 hst; clear hc1010 hz1011 hc1012 hz1013; have hq0 : Sep (fps []) w [b10 g761 0 0] (World.setCell w870 ⟨g761, 0, none⟩ (.int .i64 0)) := (HS.out).set1 (l1 := []) (l2 := []) 0 (.int .i64 0); have hq1 : Sep (fps []) w [b10 g761 0 0] (World.setCell (World.setCell w870 ⟨g761, 0, none⟩ (.int .i64 0)) ⟨g761, 1, none⟩ (.int .i64 0)) := (hq0).set1 (l1 := []) (l2 := []) 1 (.int .i64 0); replace HS : Aside0 (Sep (fps []) w [b10 g761 0 0] w1014) := ⟨by rw [hst]; exact hq1⟩; clear hq0 hq1; clear hst))
    have hc1015 : w1014.cell? ⟨g761, 0, none⟩ = some (.int .i64 0) := blk_cellv (HS.out.at0) 0 rfl
    have hc1016 : w1014.cell? ⟨g761, 1, none⟩ = some (.int .i64 0) := blk_cellv (HS.out.at0) 1 rfl
    refine bodyPost_ret (v := .tuple #[.agg #[.int .i64 0, .int .i64 0], .int .i64 t868.2.2]) (by simp [results, Tryd.results116, go_sem, hc1015, hc1016]) rfl ?_
    rw [← some_eq H]
    exact ⟨(by first | rfl | (simp [IntKind.wrap_u32]; done)), HS.out.sub (.cons _ .slnil)⟩

set_option maxHeartbeats 30000000 in
set_option maxRecDepth 100000 in
theorem obj_Ptr_nil.calls (k : Nat) (a756 : Int) (a757 : Int) (r : Int × Int) (w : World)  (HGl0 : Aside0 (Gl 0 #[.int .i64 0, .int .i64 0, .int .i64 0, .int .i64 0, .int .i64 0] (fps []) w)) (HS : Aside0 (Sep (fps []) w [] w)) (H : Aside0 (obj_Ptr_nil.f k a756 a757 = some r)) :
    Calls Tryd.prog 59 #[.pointer none, .int .i64 a756, .int .i64 a757] w fun e w' => e = .returned (.tuple #[.int .i64 r.1, .int .i64 r.2]) ∧ Sep (fps []) w [] w' := by
  unfold obj_Ptr_nil.f at H
  go_enter Tryd.func59, Tryd.ntmps59
  go_wp2_with fail
  obtain ⟨t1017, HA1018, H⟩ := bind_some H
  refine (obj_field_nil.calls _ a756 a757 false t1017 _ ⟨HGl0.out.pass (l := []) HS.out⟩ ⟨Sep.start _⟩ HA1018).mono ?_
  rintro e_ w1019 ⟨rfl, hS⟩
  replace HS : Aside0 (Sep (fps []) w [] w1019) := ⟨HS.out.call hS⟩
  clear hS
  by_cases c1028 : t1017.2.2 = 0
  · have H := if_yes c1028 H
    have c1028b0 : (t1017.2.2 == 0) = true := beq_iff_eq.mpr c1028
    have c1028b1 : (t1017.2.2 != 0) = false := bne_eq_false_iff_eq.mpr c1028
    clear c1028
    go_wp2_with (first | ((with_reducible refine gate_dst (N := 8) rfl ?_); refine box_on ?hg (N := 8) ?hd (cs := #[.int .i64 0, .int .i64 0]) (t := 142) ?hr ?_; (case hd => rfl); (case hg => rfl); (case hr => first | (go_simp; done) | (go_simp; rfl)); intro g1020 hg w1021 hbox hb; replace HS : Aside0 (Sep (fps []) w [b10 g1020 0 0] w1021) := ⟨HS.out.box hg hbox hb⟩; clear hg hbox hb; have hc1023 : w1021.cell? ⟨g1020, 0, none⟩ = some (.int .i64 0) := blk_cellv (HS.out.at0) 0 rfl; have hz1024 : w1021.frozen? ⟨g1020, 0, none⟩ = false := blk_fz (HS.out.at0) 0; have hc1025 : w1021.cell? ⟨g1020, 1, none⟩ = some (.int .i64 0) := blk_cellv (HS.out.at0) 1 rfl; have hz1026 : w1021.frozen? ⟨g1020, 1, none⟩ = false := blk_fz (HS.out.at0) 1) | ((with_reducible refine gate_store (t := 142) (p := 8) rfl ?_); refine store_event (w1 := (World.setCell (World.setCell w1021 ⟨g1020, 0, none⟩ (.int .i64 t1017.1)) ⟨g1020, 1, none⟩ (.int .i64 t1017.2.1))) rfl (t := 142) (p := 8) rfl rfl ?hr ?_; (case hr => first | (go_simp; done) | (go_simp; rfl)); intro w1027 hst; clear hc1023 hz1024 hc1025 hz1026; have hq0 : Sep (fps []) w [b10 g1020 t1017.1 0] (World.setCell w1021 ⟨g1020, 0, none⟩ (.int .i64 t1017.1)) := (HS.out).set1 (l1 := []) (l2 := []) 0 (.int .i64 t1017.1); have hq1 : Sep (fps []) w [b10 g1020 t1017.1 t1017.2.1] (World.setCell (World.setCell w1021 ⟨g1020, 0, none⟩ (.int .i64 t1017.1)) ⟨g1020, 1, none⟩ (.int .i64 t1017.2.1)) := (hq0).set1 (l1 := []) (l2 := []) 1 (.int .i64 t1017.2.1); replace HS : Aside0 (Sep (fps []) w [b10 g1020 t1017.1 t1017.2.1] w1027) := ⟨by rw [hst]; exact hq1⟩; clear hq0 hq1; clear hst; have hc1029 : w1027.cell? ⟨g1020, 0, none⟩ = some (.int .i64 t1017.1) := blk_cellv (HS.out.at0) 0 rfl; have hc1030 : w1027.cell? ⟨g1020, 1, none⟩ = some (.int .i64 t1017.2.1) := blk_cellv (HS.out.at0) 1 rfl))
    clear hc1029 hc1030
    obtain ⟨t1031, HA1032, H⟩ := bind_some H
    refine (ground_Ground_Word_nil.calls t1017.1 t1017.2.1 t1031 _ ⟨HGl0.out.pass (l := []) HS.out⟩ ⟨Sep.start _⟩ HA1032).mono ?_
    rintro e_ w1033 ⟨rfl, hS⟩
    replace HS : Aside0 (Sep (fps []) w [b10 g1020 t1017.1 t1017.2.1] w1033) := ⟨HS.out.call hS⟩
    clear hS
    replace HS : Aside0 (Sep (fps []) w [] w1033) := ⟨HS.out.sub (.cons _ .slnil)⟩
    go_wp2_with fail
    go_ret2
    rw [← some_eq H]
    exact ⟨(by first | rfl | (simp [IntKind.wrap_u32]; done)), HS.out⟩
  · have H := if_no c1028 H
    have c1028b0 : (t1017.2.2 == 0) = false := beq_eq_false_iff_ne.mpr c1028
    have c1028b1 : (t1017.2.2 != 0) = true := bne_iff_ne.mpr c1028
    clear c1028
    go_wp2_with (first | ((with_reducible refine gate_dst (N := 8) rfl ?_); refine box_on ?hg (N := 8) ?hd (cs := #[.int .i64 0, .int .i64 0]) (t := 142) ?hr ?_; (case hd => rfl); (case hg => rfl); (case hr => first | (go_simp; done) | (go_simp; rfl)); intro g1020 hg w1021 hbox hb; replace HS : Aside0 (Sep (fps []) w [b10 g1020 0 0] w1021) := ⟨HS.out.box hg hbox hb⟩; clear hg hbox hb; have hc1023 : w1021.cell? ⟨g1020, 0, none⟩ = some (.int .i64 0) := blk_cellv (HS.out.at0) 0 rfl; have hz1024 : w1021.frozen? ⟨g1020, 0, none⟩ = false := blk_fz (HS.out.at0) 0; have hc1025 : w1021.cell? ⟨g1020, 1, none⟩ = some (.int .i64 0) := blk_cellv (HS.out.at0) 1 rfl; have hz1026 : w1021.frozen? ⟨g1020, 1, none⟩ = false := blk_fz (HS.out.at0) 1) | ((with_reducible refine gate_store (t := 142) (p := 8) rfl ?_); refine store_event (w1 := (World.setCell (World.setCell w1021 ⟨g1020, 0, none⟩ (.int .i64 t1017.1)) ⟨g1020, 1, none⟩ (.int .i64 t1017.2.1))) rfl (t := 142) (p := 8) rfl rfl ?hr ?_; (case hr => first | (go_simp; done) | (go_simp; rfl)); intro w1027 hst; clear hc1023 hz1024 hc1025 hz1026; have hq0 : Sep (fps []) w [b10 g1020 t1017.1 0] (World.setCell w1021 ⟨g1020, 0, none⟩ (.int .i64 t1017.1)) := (HS.out).set1 (l1 := []) (l2 := []) 0 (.int .i64 t1017.1); have hq1 : Sep (fps []) w [b10 g1020 t1017.1 t1017.2.1] (World.setCell (World.setCell w1021 ⟨g1020, 0, none⟩ (.int .i64 t1017.1)) ⟨g1020, 1, none⟩ (.int .i64 t1017.2.1)) := (hq0).set1 (l1 := []) (l2 := []) 1 (.int .i64 t1017.2.1); replace HS : Aside0 (Sep (fps []) w [b10 g1020 t1017.1 t1017.2.1] w1027) := ⟨by rw [hst]; exact hq1⟩; clear hq0 hq1; clear hst; replace HS : Aside0 (Sep (fps []) w [] w1027) := ⟨HS.out.sub (.cons _ .slnil)⟩))
    go_ret2
    rw [← some_eq H]
    exact ⟨(by first | rfl | (simp [IntKind.wrap_u32]; done)), HS.out⟩

set_option maxHeartbeats 30000000 in
set_option maxRecDepth 100000 in
theorem obj_Data_nil.calls (k : Nat) (a1037 : Int) (a1038 : Int) (r : Int × Int) (w : World)  (HGl0 : Aside0 (Gl 0 #[.int .i64 0, .int .i64 0, .int .i64 0, .int .i64 0, .int .i64 0] (fps []) w)) (HS : Aside0 (Sep (fps []) w [] w)) (H : Aside0 (obj_Data_nil.f k a1037 a1038 = some r)) :
    Calls Tryd.prog 57 #[.pointer none, .int .i64 a1037, .int .i64 a1038] w fun e w' => e = .returned (.tuple #[.int .u32 r.1, .int .i64 r.2]) ∧ Sep (fps []) w [] w' := by
  unfold obj_Data_nil.f at H
  go_enter Tryd.func57, Tryd.ntmps57
  go_wp2_with fail
  obtain ⟨t1039, HA1040, H⟩ := bind_some H
  refine (obj_field_nil.calls _ a1037 a1038 true t1039 _ ⟨HGl0.out.pass (l := []) HS.out⟩ ⟨Sep.start _⟩ HA1040).mono ?_
  rintro e_ w1041 ⟨rfl, hS⟩
  replace HS : Aside0 (Sep (fps []) w [] w1041) := ⟨HS.out.call hS⟩
  clear hS
  by_cases c1050 : t1039.2.2 = 0
  · have H := if_yes c1050 H
    have c1050b0 : (t1039.2.2 == 0) = true := beq_iff_eq.mpr c1050
    have c1050b1 : (t1039.2.2 != 0) = false := bne_eq_false_iff_eq.mpr c1050
    clear c1050
    go_wp2_with (first | ((with_reducible refine gate_dst (N := 8) rfl ?_); refine box_on ?hg (N := 8) ?hd (cs := #[.int .i64 0, .int .i64 0]) (t := 142) ?hr ?_; (case hd => rfl); (case hg => rfl); (case hr => first | (go_simp; done) | (go_simp; rfl)); intro g1042 hg w1043 hbox hb; replace HS : Aside0 (Sep (fps []) w [b10 g1042 0 0] w1043) := ⟨HS.out.box hg hbox hb⟩; clear hg hbox hb; have hc1045 : w1043.cell? ⟨g1042, 0, none⟩ = some (.int .i64 0) := blk_cellv (HS.out.at0) 0 rfl; have hz1046 : w1043.frozen? ⟨g1042, 0, none⟩ = false := blk_fz (HS.out.at0) 0; have hc1047 : w1043.cell? ⟨g1042, 1, none⟩ = some (.int .i64 0) := blk_cellv (HS.out.at0) 1 rfl; have hz1048 : w1043.frozen? ⟨g1042, 1, none⟩ = false := blk_fz (HS.out.at0) 1) | ((with_reducible refine gate_store (t := 142) (p := 8) rfl ?_); refine store_event (w1 := (World.setCell (World.setCell w1043 ⟨g1042, 0, none⟩ (.int .i64 t1039.1)) ⟨g1042, 1, none⟩ (.int .i64 t1039.2.1))) rfl (t := 142) (p := 8) rfl rfl ?hr ?_; (case hr => first | (go_simp; done) | (go_simp; rfl)); intro w1049 hst; clear hc1045 hz1046 hc1047 hz1048; have hq0 : Sep (fps []) w [b10 g1042 t1039.1 0] (World.setCell w1043 ⟨g1042, 0, none⟩ (.int .i64 t1039.1)) := (HS.out).set1 (l1 := []) (l2 := []) 0 (.int .i64 t1039.1); have hq1 : Sep (fps []) w [b10 g1042 t1039.1 t1039.2.1] (World.setCell (World.setCell w1043 ⟨g1042, 0, none⟩ (.int .i64 t1039.1)) ⟨g1042, 1, none⟩ (.int .i64 t1039.2.1)) := (hq0).set1 (l1 := []) (l2 := []) 1 (.int .i64 t1039.2.1); replace HS : Aside0 (Sep (fps []) w [b10 g1042 t1039.1 t1039.2.1] w1049) := ⟨by rw [hst]; exact hq1⟩; clear hq0 hq1; clear hst; have hc1051 : w1049.cell? ⟨g1042, 0, none⟩ = some (.int .i64 t1039.1) := blk_cellv (HS.out.at0) 0 rfl; have hc1052 : w1049.cell? ⟨g1042, 1, none⟩ = some (.int .i64 t1039.2.1) := blk_cellv (HS.out.at0) 1 rfl))
    clear hc1051 hc1052
    obtain ⟨t1053, HA1054, H⟩ := bind_some H
    refine (ground_Ground_Word_nil.calls t1039.1 t1039.2.1 t1053 _ ⟨HGl0.out.pass (l := []) HS.out⟩ ⟨Sep.start _⟩ HA1054).mono ?_
    rintro e_ w1055 ⟨rfl, hS⟩
    replace HS : Aside0 (Sep (fps []) w [b10 g1042 t1039.1 t1039.2.1] w1055) := ⟨HS.out.call hS⟩
    clear hS
    replace HS : Aside0 (Sep (fps []) w [] w1055) := ⟨HS.out.sub (.cons _ .slnil)⟩
    go_wp2_with fail
    go_ret2
    rw [← some_eq H]
    exact ⟨(by first | rfl | (simp [IntKind.wrap_u32]; done)), HS.out⟩
  · have H := if_no c1050 H
    have c1050b0 : (t1039.2.2 == 0) = false := beq_eq_false_iff_ne.mpr c1050
    have c1050b1 : (t1039.2.2 != 0) = true := bne_iff_ne.mpr c1050
    clear c1050
    go_wp2_with (first | ((with_reducible refine gate_dst (N := 8) rfl ?_); refine box_on ?hg (N := 8) ?hd (cs := #[.int .i64 0, .int .i64 0]) (t := 142) ?hr ?_; (case hd => rfl); (case hg => rfl); (case hr => first | (go_simp; done) | (go_simp; rfl)); intro g1042 hg w1043 hbox hb; replace HS : Aside0 (Sep (fps []) w [b10 g1042 0 0] w1043) := ⟨HS.out.box hg hbox hb⟩; clear hg hbox hb; have hc1045 : w1043.cell? ⟨g1042, 0, none⟩ = some (.int .i64 0) := blk_cellv (HS.out.at0) 0 rfl; have hz1046 : w1043.frozen? ⟨g1042, 0, none⟩ = false := blk_fz (HS.out.at0) 0; have hc1047 : w1043.cell? ⟨g1042, 1, none⟩ = some (.int .i64 0) := blk_cellv (HS.out.at0) 1 rfl; have hz1048 : w1043.frozen? ⟨g1042, 1, none⟩ = false := blk_fz (HS.out.at0) 1) | ((with_reducible refine gate_store (t := 142) (p := 8) rfl ?_); refine store_event (w1 := (World.setCell (World.setCell w1043 ⟨g1042, 0, none⟩ (.int .i64 t1039.1)) ⟨g1042, 1, none⟩ (.int .i64 t1039.2.1))) rfl (t := 142) (p := 8) rfl rfl ?hr ?_; (case hr => first | (go_simp; done) | (go_simp; rfl)); intro w1049 hst; clear hc1045 hz1046 hc1047 hz1048; have hq0 : Sep (fps []) w [b10 g1042 t1039.1 0] (World.setCell w1043 ⟨g1042, 0, none⟩ (.int .i64 t1039.1)) := (HS.out).set1 (l1 := []) (l2 := []) 0 (.int .i64 t1039.1); have hq1 : Sep (fps []) w [b10 g1042 t1039.1 t1039.2.1] (World.setCell (World.setCell w1043 ⟨g1042, 0, none⟩ (.int .i64 t1039.1)) ⟨g1042, 1, none⟩ (.int .i64 t1039.2.1)) := (hq0).set1 (l1 := []) (l2 := []) 1 (.int .i64 t1039.2.1); replace HS : Aside0 (Sep (fps []) w [b10 g1042 t1039.1 t1039.2.1] w1049) := ⟨by rw [hst]; exact hq1⟩; clear hq0 hq1; clear hst; replace HS : Aside0 (Sep (fps []) w [] w1049) := ⟨HS.out.sub (.cons _ .slnil)⟩))
    go_ret2
    rw [← some_eq H]
    exact ⟨(by first | rfl | (simp [IntKind.wrap_u32]; done)), HS.out⟩

set_option maxHeartbeats 30000000 in
set_option maxRecDepth 100000 in
theorem store_Store_Peek_nil.calls (a1082 : Int) (r : Int) (w : World)  (HGl0 : Aside0 (Gl 0 #[.int .i64 0, .int .i64 0, .int .i64 0, .int .i64 0, .int .i64 0] (fps []) w)) (HS : Aside0 (Sep (fps []) w [] w)) (H : Aside0 (store_Store_Peek_nil.f a1082 = some r)) :
    Calls Tryd.prog 73 #[.pointer none, .int .i64 a1082] w fun e w' => e = .returned (.int .u32 r) ∧ Sep (fps []) w [] w' := by
  unfold store_Store_Peek_nil.f at H
  go_enter Tryd.func73, Tryd.ntmps73
  go_wp2_with fail
  obtain ⟨t1083, HA1084, H⟩ := bind_some H
  refine (store_Store_has_nil.calls a1082 t1083 _ ⟨HGl0.out.pass (l := []) HS.out⟩ ⟨Sep.start _⟩ HA1084).mono ?_
  rintro e_ w1085 ⟨rfl, hS⟩
  replace HS : Aside0 (Sep (fps []) w [] w1085) := ⟨HS.out.call hS⟩
  clear hS
  by_cases c1086 : t1083 = true
  · have H := if_yes c1086 H
    have c1086b0 : t1083 = true := c1086
    have c1086b1 : (!t1083) = false := by rw [c1086b0]; rfl
    try rw [c1086b1]
    clear c1086
    exact (none_no H).elim
  · have H := if_no c1086 H
    have c1086b0 : t1083 = false := by simpa using c1086
    have c1086b1 : (!t1083) = true := by rw [c1086b0]; rfl
    try rw [c1086b1]
    clear c1086
    go_wp2_with fail
    go_ret
    rw [← some_eq H]
    exact ⟨(by first | rfl | (simp [IntKind.wrap_u32]; done)), HS.out⟩

set_option maxHeartbeats 30000000 in
set_option maxRecDepth 100000 in
theorem ground_Ground_SeeWord_nil.calls (a1074 : Int) (a1075 : Int) (r : Int) (w : World)  (HGl0 : Aside0 (Gl 0 #[.int .i64 0, .int .i64 0, .int .i64 0, .int .i64 0, .int .i64 0] (fps []) w)) (HS : Aside0 (Sep (fps []) w [] w)) (H : Aside0 (ground_Ground_SeeWord_nil.f a1074 a1075 = some r)) :
    Calls Tryd.prog 18 #[.pointer none, .int .i64 a1074, .int .i64 a1075] w fun e w' => e = .returned (.int .u32 r) ∧ Sep (fps []) w [] w' := by
  unfold ground_Ground_SeeWord_nil.f at H
  go_enter Tryd.func18, Tryd.ntmps18
  go_wp2_with fail
  obtain ⟨t1076, HA1077, H⟩ := bind_some H
  refine (ground_Ground_all_nil.calls t1076 _ ⟨HGl0.out.pass (l := []) HS.out⟩ ⟨Sep.start _⟩ HA1077).mono ?_
  rintro e_ w1078 ⟨rfl, hS⟩
  replace HS : Aside0 (Sep (fps []) w [] w1078) := ⟨HS.out.call hS⟩
  clear hS
  go_wp2_with fail
  obtain ⟨t1079, HA1080, H⟩ := bind_some H
  refine (ground_Ground_word_nil.calls a1074 a1075 t1079 _ ⟨HGl0.out.pass (l := []) HS.out⟩ ⟨Sep.start _⟩ HA1080).mono ?_
  rintro e_ w1081 ⟨rfl, hS⟩
  replace HS : Aside0 (Sep (fps []) w [] w1081) := ⟨HS.out.call hS⟩
  clear hS
  go_wp2_with fail
  obtain ⟨t1087, HA1088, H⟩ := bind_some H
  refine (store_Store_Peek_nil.calls t1079 t1087 _ ⟨HGl0.out.pass (l := []) HS.out⟩ ⟨Sep.start _⟩ HA1088).mono ?_
  rintro e_ w1089 ⟨rfl, hS⟩
  replace HS : Aside0 (Sep (fps []) w [] w1089) := ⟨HS.out.call hS⟩
  clear hS
  go_wp2_with fail
  go_ret
  rw [← some_eq H]
  exact ⟨(by first | rfl | (simp [IntKind.wrap_u32]; done)), HS.out⟩

set_option maxHeartbeats 30000000 in
set_option maxRecDepth 100000 in
theorem obj_look_nil.calls (k : Nat) (a1131 : Int) (a1132 : Int) (a1133 : Int) (r : Int) (w : World)  (HGl0 : Aside0 (Gl 0 #[.int .i64 0, .int .i64 0, .int .i64 0, .int .i64 0, .int .i64 0] (fps []) w)) (HS : Aside0 (Sep (fps []) w [] w)) (H : Aside0 (obj_look_nil.f k a1131 a1132 a1133 = some r)) :
    Calls Tryd.prog 102 #[.pointer none, .int .i64 a1131, .int .i64 a1132, .int .i64 a1133] w fun e w' => e = .returned (.int .u32 r) ∧ Sep (fps []) w [] w' := by
  unfold obj_look_nil.f at H
  go_enter Tryd.func102, Tryd.ntmps102
  go_wp2_with fail
  obtain ⟨t1134, HA1135, H⟩ := bind_some H
  refine (ground_Ground_Conf_nil.calls t1134 _ ⟨HGl0.out.pass (l := []) HS.out⟩ ⟨Sep.start _⟩ HA1135).mono ?_
  rintro e_ w1136 ⟨rfl, hS⟩
  replace HS : Aside0 (Sep (fps []) w [] w1136) := ⟨HS.out.call hS⟩
  clear hS
  have fl1137 : ∀ w, (Instr.field 30 (.agg #[.int .i64 t1134.1, .int .i64 t1134.2.1, .int .i64 t1134.2.2.1, .int .i64 t1134.2.2.2]) 1).run Tryd.prog w = .ok (.int .i64 t1134.2.1) w := fun _ => by kernel_rfl
  go_wp2_with fail
  clear fl1137
  obtain ⟨t1138, HA1139, H⟩ := bind_some H
  refine (shape_Place.calls _ t1134.2.1 a1132 a1133 t1138 _ ⟨HGl0.out.pass (l := []) HS.out⟩ ⟨Sep.start _⟩ HA1139).mono ?_
  rintro e_ w1140 ⟨rfl, hS⟩
  replace HS : Aside0 (Sep (fps []) w [] w1140) := ⟨HS.out.call hS⟩
  clear hS
  by_cases c1141 : t1138.2.2 = 0
  · have H := if_yes c1141 H
    have c1141b0 : (t1138.2.2 == 0) = true := beq_iff_eq.mpr c1141
    have c1141b1 : (t1138.2.2 != 0) = false := bne_eq_false_iff_eq.mpr c1141
    clear c1141
    by_cases c1142 : t1138.1 < 0
    · have H := if_yes c1142 H
      have c1142b0 : decide (t1138.1 < 0) = true := decide_eq_true c1142
      clear c1142
      go_wp2_with fail
      obtain ⟨t1143, HA1144, H⟩ := bind_some H
      refine (ground_Ground_SeeWord_nil.calls (wrap64 (a1131 - 1)) t1138.2.1 t1143 _ ⟨HGl0.out.pass (l := []) HS.out⟩ ⟨Sep.start _⟩ HA1144).mono ?_
      rintro e_ w1145 ⟨rfl, hS⟩
      replace HS : Aside0 (Sep (fps []) w [] w1145) := ⟨HS.out.call hS⟩
      clear hS
      go_wp2_with fail
      go_ret
      rw [← some_eq H]
      exact ⟨(by first | rfl | (simp [IntKind.wrap_u32]; done)), HS.out⟩
    · have H := if_no c1142 H
      have c1142b0 : decide (t1138.1 < 0) = false := decide_eq_false c1142
      clear c1142
      go_wp2_with fail
      obtain ⟨t1146, HA1147, H⟩ := bind_some H
      refine (ground_Ground_SeeWord_nil.calls (wrap64 (a1131 - 1)) (wrap64 (8 + t1138.1)) t1146 _ ⟨HGl0.out.pass (l := []) HS.out⟩ ⟨Sep.start _⟩ HA1147).mono ?_
      rintro e_ w1148 ⟨rfl, hS⟩
      replace HS : Aside0 (Sep (fps []) w [] w1148) := ⟨HS.out.call hS⟩
      clear hS
      go_wp2_with fail
      obtain ⟨t1149, HA1150, H⟩ := bind_some H
      refine (ground_Ground_SeeWord_nil.calls (wrap64 ((wrap64 (t1146)) - 1)) t1138.2.1 t1149 _ ⟨HGl0.out.pass (l := []) HS.out⟩ ⟨Sep.start _⟩ HA1150).mono ?_
      rintro e_ w1151 ⟨rfl, hS⟩
      replace HS : Aside0 (Sep (fps []) w [] w1151) := ⟨HS.out.call hS⟩
      clear hS
      go_wp2_with fail
      go_ret
      rw [← some_eq H]
      exact ⟨(by first | rfl | (simp [IntKind.wrap_u32]; done)), HS.out⟩
  · have H := if_no c1141 H
    have c1141b0 : (t1138.2.2 == 0) = false := beq_eq_false_iff_ne.mpr c1141
    have c1141b1 : (t1138.2.2 != 0) = true := bne_iff_ne.mpr c1141
    clear c1141
    go_wp2_with fail
    go_ret
    rw [← some_eq H]
    exact ⟨(by first | rfl | (simp [IntKind.wrap_u32]; done)), HS.out⟩

set_option maxHeartbeats 30000000 in
set_option maxRecDepth 100000 in
theorem obj_See_nil.calls (k : Nat) (a1062 : Int) (r : Bool × List Int × List Int) (w : World)  (HGl0 : Aside0 (Gl 0 #[.int .i64 0, .int .i64 0, .int .i64 0, .int .i64 0, .int .i64 0] (fps []) w)) (HS : Aside0 (Sep (fps []) w [] w)) (H : Aside0 (obj_See_nil.f k a1062 = some r)) :
    Calls Tryd.prog 36 #[.pointer none, .int .i64 a1062] w fun e w' => ∃ (A1425 : Option Addr) (m1426 : Nat) (n1427 : Nat) (A1429 : Option Addr) (m1430 : Nat) (n1431 : Nat), e = .returned (.tuple #[.agg #[.slice A1425 m1426 n1427, .slice A1429 m1430 n1431], .bool r.1]) ∧ Sep (fps []) w [r13 A1425 m1426 n1427 r.2.1, r7 A1429 m1430 n1431 r.2.2] w' := by
  unfold obj_See_nil.f at H
  go_enter Tryd.func36, Tryd.ntmps36
  go_wp2_with (first | ((with_reducible refine gate_dst (N := 4) rfl ?_); refine box_on ?hg (N := 4) ?hd (cs := #[.slice none 0 0, .slice none 0 0]) (t := 71) ?hr ?_; (case hd => rfl); (case hg => rfl); (case hr => first | (go_simp; done) | (go_simp; rfl)); intro g1063 hg w1064 hbox hb; replace HS : Aside0 (Sep (fps []) w [b12 g1063] w1064) := ⟨HS.out.box hg hbox hb⟩; clear hg hbox hb; replace HS : Aside0 (Sep (fps []) w [r13 none 0 0 [], b14 g1063 none 0 0] w1064) := ⟨HS.out.nilrow 3 (Value.int .i64)⟩; replace HS : Aside0 (Sep (fps []) w [r7 none 0 0 [], r13 none 0 0 [], b15 g1063 none 0 0 none 0 0] w1064) := ⟨HS.out.nilrow 33 (Value.int .u32)⟩))
  obtain ⟨t1070, HA1071, H⟩ := bind_some H
  refine (obj_in_nil.calls a1062 t1070 _ ⟨HGl0.out.pass (l := []) HS.out⟩ ⟨Sep.start _⟩ HA1071).mono ?_
  rintro e_ w1072 ⟨rfl, hS⟩
  replace HS : Aside0 (Sep (fps []) w [r7 none 0 0 [], r13 none 0 0 [], b15 g1063 none 0 0 none 0 0] w1072) := ⟨HS.out.call hS⟩
  clear hS
  by_cases c1073 : t1070 = true
  · have H := if_yes c1073 H
    have c1073b0 : t1070 = true := c1073
    have c1073b1 : (!t1070) = false := by rw [c1073b0]; rfl
    try rw [c1073b1]
    clear c1073
    go_wp2_with fail
    obtain ⟨t1090, HA1091, H⟩ := bind_some H
    refine (ground_Ground_SeeWord_nil.calls (wrap64 (a1062 - 1)) 0 t1090 _ ⟨HGl0.out.pass (l := []) HS.out⟩ ⟨Sep.start _⟩ HA1091).mono ?_
    rintro e_ w1092 ⟨rfl, hS⟩
    replace HS : Aside0 (Sep (fps []) w [r7 none 0 0 [], r13 none 0 0 [], b15 g1063 none 0 0 none 0 0] w1092) := ⟨HS.out.call hS⟩
    clear hS
    go_wp2_with fail
    obtain ⟨t1093, HA1094, H⟩ := bind_some H
    refine (tag_Unpack.calls t1090 t1093 _ ⟨HGl0.out.pass (l := []) HS.out⟩ ⟨Sep.start _⟩ HA1094).mono ?_
    rintro e_ w1095 ⟨rfl, hS⟩
    replace HS : Aside0 (Sep (fps []) w [r7 none 0 0 [], r13 none 0 0 [], b15 g1063 none 0 0 none 0 0] w1095) := ⟨HS.out.call hS⟩
    clear hS
    have fl1096 : ∀ w, (Instr.field 32 (.agg #[.int .i64 t1093.1, .int .i64 t1093.2.1, .int .i64 t1093.2.2.1, .int .i64 t1093.2.2.2.1, .int .i64 t1093.2.2.2.2.1, .int .i64 t1093.2.2.2.2.2.1, .int .i64 t1093.2.2.2.2.2.2]) 0).run Tryd.prog w = .ok (.int .i64 t1093.1) w := fun _ => by kernel_rfl
    go_wp2_with fail
    clear fl1096
    obtain ⟨t1097, HA1098, H⟩ := bind_some H
    refine (obj_isHead.calls t1093.1 t1097 _ ⟨HGl0.out.pass (l := []) HS.out⟩ ⟨Sep.start _⟩ HA1098).mono ?_
    rintro e_ w1099 ⟨rfl, hS⟩
    replace HS : Aside0 (Sep (fps []) w [r7 none 0 0 [], r13 none 0 0 [], b15 g1063 none 0 0 none 0 0] w1099) := ⟨HS.out.call hS⟩
    clear hS
    by_cases c1100 : t1097 = true
    · have H := if_yes c1100 H
      have c1100b0 : t1097 = true := c1100
      have c1100b1 : (!t1097) = false := by rw [c1100b0]; rfl
      try rw [c1100b1]
      clear c1100
      go_wp2_with fail
      obtain ⟨t1101, HA1102, H⟩ := bind_some H
      refine (ground_Ground_SeeWord_nil.calls (wrap64 (a1062 - 1)) 1 t1101 _ ⟨HGl0.out.pass (l := []) HS.out⟩ ⟨Sep.start _⟩ HA1102).mono ?_
      rintro e_ w1103 ⟨rfl, hS⟩
      replace HS : Aside0 (Sep (fps []) w [r7 none 0 0 [], r13 none 0 0 [], b15 g1063 none 0 0 none 0 0] w1103) := ⟨HS.out.call hS⟩
      clear hS
      go_wp2_with fail
      obtain ⟨t1104, HA1105, H⟩ := bind_some H
      refine (ground_Ground_SeeWord_nil.calls (wrap64 (a1062 - 1)) 2 t1104 _ ⟨HGl0.out.pass (l := []) HS.out⟩ ⟨Sep.start _⟩ HA1105).mono ?_
      rintro e_ w1106 ⟨rfl, hS⟩
      replace HS : Aside0 (Sep (fps []) w [r7 none 0 0 [], r13 none 0 0 [], b15 g1063 none 0 0 none 0 0] w1106) := ⟨HS.out.call hS⟩
      clear hS
      go_wp2_with fail
      obtain ⟨t1107, HA1108, H⟩ := bind_some H
      refine (ground_Ground_Conf_nil.calls t1107 _ ⟨HGl0.out.pass (l := []) HS.out⟩ ⟨Sep.start _⟩ HA1108).mono ?_
      rintro e_ w1109 ⟨rfl, hS⟩
      replace HS : Aside0 (Sep (fps []) w [r7 none 0 0 [], r13 none 0 0 [], b15 g1063 none 0 0 none 0 0] w1109) := ⟨HS.out.call hS⟩
      clear hS
      have fl1110 : ∀ w, (Instr.field 30 (.agg #[.int .i64 t1107.1, .int .i64 t1107.2.1, .int .i64 t1107.2.2.1, .int .i64 t1107.2.2.2]) 1).run Tryd.prog w = .ok (.int .i64 t1107.2.1) w := fun _ => by kernel_rfl
      go_wp2_with fail
      clear fl1110
      obtain ⟨t1111, HA1112, H⟩ := bind_some H
      refine (shape_Blocks.calls _ t1107.2.1 (wrap64 (t1101)) (wrap64 (t1104)) t1111 _ ⟨HGl0.out.pass (l := []) HS.out⟩ ⟨Sep.start _⟩ HA1112).mono ?_
      rintro e_ w1113 ⟨rfl, hS⟩
      replace HS : Aside0 (Sep (fps []) w [r7 none 0 0 [], r13 none 0 0 [], b15 g1063 none 0 0 none 0 0] w1113) := ⟨HS.out.call hS⟩
      clear hS
      by_cases c1114 : t1111.2 = 0
      · have H := if_yes c1114 H
        have c1114b0 : (t1111.2 == 0) = true := beq_iff_eq.mpr c1114
        have c1114b1 : (t1111.2 != 0) = false := bne_eq_false_iff_eq.mpr c1114
        clear c1114
        go_wp2_with (first | ((with_reducible refine gate_dst (N := 10) rfl ?_); refine box_on ?hg (N := 10) ?hd (cs := #[.slice none 0 0, .slice none 0 0]) (t := 71) ?hr ?_; (case hd => rfl); (case hg => rfl); (case hr => first | (go_simp; done) | (go_simp; rfl)); intro g1115 hg w1116 hbox hb; replace HS : Aside0 (Sep (fps []) w [r7 none 0 0 [], r13 none 0 0 [], b15 g1063 none 0 0 none 0 0, b12 g1115] w1116) := ⟨HS.out.box hg hbox hb⟩; clear hg hbox hb; replace HS : Aside0 (Sep (fps []) w [r13 none 0 0 [], r7 none 0 0 [], r13 none 0 0 [], b15 g1063 none 0 0 none 0 0, b14 g1115 none 0 0] w1116) := ⟨HS.out.nilrow 3 (Value.int .i64)⟩; replace HS : Aside0 (Sep (fps []) w [r7 none 0 0 [], r13 none 0 0 [], r7 none 0 0 [], r13 none 0 0 [], b15 g1063 none 0 0 none 0 0, b15 g1115 none 0 0 none 0 0] w1116) := ⟨HS.out.nilrow 33 (Value.int .u32)⟩))
        obtain ⟨o1167, AL1168, H⟩ := bind_some H
        go_loopg [51] k (fun kq v51 wc => ∃ (x1171 : Int) (x1172 : List Int) (A1173 : Option Addr) (m1174 : Nat) (n1175 : Nat), v51 = .int .i64 x1171 ∧ Aside0 (obj_See_nil.lo0 kq a1062 t1101 t1104 x1171 x1172 = some o1167) ∧ Aside0 (Sep (fps []) w [r7 none 0 0 [], r13 A1173 m1174 n1175 x1172, r7 none 0 0 [], r13 none 0 0 [], b15 g1063 none 0 0 none 0 0, b15 g1115 A1173 m1174 n1175 none 0 0] wc))
        case atStart => exact ⟨(0), (([] : List Int)), (none), (0), (0), (by first | rfl | (simp [IntKind.wrap_u32]; done)), AL1168, ⟨HS.out⟩⟩
        case round =>
          clear AL1168 HS
          obtain ⟨x1171, x1172, A1173, m1174, n1175, rfl, AL1168, HS⟩ := hrel
          obtain ⟨w1169, rfl⟩ : ∃ x : World, x = wr := ⟨_, rfl⟩
          obtain rfl := (row_len (HS.out.at1)).symm
          cases gk with
          | zero => exact absurd AL1168.out (by simp [obj_See_nil.lo0])
          | succ k1170 =>
            have AL0 := AL1168.out
            rw [obj_See_nil.lo0] at AL0
            clear AL1168
            have AL1168 := Aside0.mk AL0
            clear AL0
            by_cases c1177 : x1171 < (wrap64 (t1101))
            · have AL1168 := if_yes c1177 AL1168
              have c1177b0 : decide (x1171 < (wrap64 (t1101))) = true := decide_eq_true c1177
              clear c1177
              go_wp2_with fail
              refine start_ (n := 14) (S := (fun w' => w'.cell? ⟨g1115, 0, none⟩ = some (.slice A1173 x1172.length n1175))) (ds := [13]) #[false, false, false, false, false, false, false, false, false, false, false, false, false, false] (by kernel_rfl) rfl rfl (blk_cellv ((HS.out.drew).at5) 0 rfl) (fun hHeld => ?_)
              have HS_ := Aside0.mk HS.out.drew
              clear HS
              generalize World.drew _ = w1179 at HS_ hHeld ⊢
              have HS := HS_
              clear HS_
              refine pure_ (i := 0) (N := some 54) (v := ?_) (a' := ?_) #[true, false, false, false, false, false, false, false, false, false, false, false, false, false] rfl rfl (by kernel_rfl) (fun _ _ _ h => h) (Or.inl ⟨by rfl, ?_⟩) ?_ ?_
              rotate_left
              · intro w'
                go_simp
                with_reducible rfl
              rotate_left
              · simp only [Act.put, List.setIfInBounds_toArray, List.set_cons_zero, List.set_cons_succ, i64_w, i32_w]
                rfl
              refine pure_ (i := 2) (N := some 56) (v := ?_) (a' := ?_) #[true, false, true, false, false, false, false, false, false, false, false, false, false, false] rfl rfl (by kernel_rfl) (fun _ _ _ h => h) (Or.inl ⟨by rfl, ?_⟩) ?_ ?_
              rotate_left
              · intro w'
                go_simp
                with_reducible rfl
              rotate_left
              · simp only [Act.put, List.setIfInBounds_toArray, List.set_cons_zero, List.set_cons_succ, i64_w, i32_w]
                rfl
              refine pure_ (i := 3) (N := some 57) (v := ?_) (a' := ?_) #[true, false, true, true, false, false, false, false, false, false, false, false, false, false] rfl rfl (by kernel_rfl) (fun _ _ _ h => h) (Or.inl ⟨by rfl, ?_⟩) ?_ ?_
              rotate_left
              · intro w'
                go_simp
                with_reducible rfl
              rotate_left
              · simp only [Act.put, List.setIfInBounds_toArray, List.set_cons_zero, List.set_cons_succ, i64_w, i32_w]
                rfl
              refine pure_ (i := 4) (N := some 58) (v := ?_) (a' := ?_) #[true, false, true, true, true, false, false, false, false, false, false, false, false, false] rfl rfl (by kernel_rfl) (fun _ _ _ h => h) (Or.inl ⟨by rfl, ?_⟩) ?_ ?_
              rotate_left
              · intro w'
                go_simp
                with_reducible rfl
              rotate_left
              · simp only [Act.put, List.setIfInBounds_toArray, List.set_cons_zero, List.set_cons_succ, i64_w, i32_w]
                rfl
              refine pure_ (i := 5) (N := some 59) (v := ?_) (a' := ?_) #[true, false, true, true, true, true, false, false, false, false, false, false, false, false] rfl rfl (by kernel_rfl) (fun _ _ _ h => h) (Or.inl ⟨by rfl, ?_⟩) ?_ ?_
              rotate_left
              · intro w'
                go_simp
                with_reducible rfl
              rotate_left
              · simp only [Act.put, List.setIfInBounds_toArray, List.set_cons_zero, List.set_cons_succ, i64_w, i32_w]
                rfl
              refine pure_ (i := 6) (N := some 60) (v := ?_) (a' := ?_) #[true, false, true, true, true, true, true, false, false, false, false, false, false, false] rfl rfl (by kernel_rfl) (fun _ _ _ h => h) (Or.inl ⟨by rfl, ?_⟩) ?_ ?_
              rotate_left
              · intro w'
                go_simp
                with_reducible rfl
              rotate_left
              · simp only [Act.put, List.setIfInBounds_toArray, List.set_cons_zero, List.set_cons_succ, i64_w, i32_w]
                rfl
              refine pure_ (i := 7) (N := some 61) (v := ?_) (a' := ?_) #[true, false, true, true, true, true, true, true, false, false, false, false, false, false] rfl rfl (by kernel_rfl) (fun _ _ _ h => h) (Or.inl ⟨by rfl, ?_⟩) ?_ ?_
              rotate_left
              · intro w'
                go_simp
                with_reducible rfl
              rotate_left
              · simp only [Act.put, List.setIfInBounds_toArray, List.set_cons_zero, List.set_cons_succ, i64_w, i32_w]
                rfl
              refine take_ (i := 1) (N := some 55) (v := ?_) (a' := ?_) #[true, true, true, true, true, true, true, true, false, false, false, false, false, false] rfl rfl (by kernel_rfl) (fun _ _ _ h => h) (Or.inl ⟨by rfl, ?_⟩) hHeld ?_ ?_
              rotate_left
              · rintro w' hS'
                have s0 := hS'
                go_simp
                with_reducible rfl
              rotate_left
              · simp only [Act.put, List.setIfInBounds_toArray, List.set_cons_zero, List.set_cons_succ, i64_w, i32_w]
                rfl
              refine one_ (i := 8) (N := some 62) #[true, true, true, true, true, true, true, true, true, false, false, false, false, false] rfl rfl (by kernel_rfl) (by decide) (fun K hK => ?_)
              obtain ⟨t1152, HA1180, AL1168⟩ := bind_some AL1168
              refine goes_ Tryd.func102 (by kernel_rfl) rfl #[.pointer none, .int .i64 a1062, .int .i64 (wrap64 ((wrap64 (t1101)) + (wrap64 (t1104)))), .int .i64 x1171] (by rfl) rfl rfl (by (try simp only [List.map_toArray, List.map_cons, List.map_nil]); first | done | rfl) ?_
              refine (obj_look_nil.calls _ a1062 (wrap64 ((wrap64 (t1101)) + (wrap64 (t1104)))) x1171 t1152 _ ⟨HGl0.out.pass (l := []) HS.out⟩ ⟨Sep.start _⟩ HA1180).mono ?_
              rintro e_ w1181 ⟨rfl, hS⟩
              replace HS : Aside0 (Sep (fps []) w [r7 none 0 0 [], r13 A1173 x1172.length n1175 x1172, r7 none 0 0 [], r13 none 0 0 [], b15 g1063 none 0 0 none 0 0, b15 g1115 A1173 x1172.length n1175 none 0 0] w1181) := ⟨HS.out.call hS⟩
              clear hS
              refine ⟨_, rfl, ?_⟩
              refine hK.out _ _ (blk_cellv (HS.out.at5) 0 rfl) (fun hHeld => ?_)
              clear hK K
              refine norm_ (a' := ?_) ?_ ?_
              rotate_left
              · show Act.put _ (some 62) _ = _
                simp only [Act.put, List.setIfInBounds_toArray, List.set_cons_zero, List.set_cons_succ, i64_w, i32_w]
                rfl
              refine pure_ (i := 9) (N := some 63) (v := ?_) (a' := ?_) #[true, true, true, true, true, true, true, true, true, true, false, false, false, false] rfl rfl (by kernel_rfl) (fun _ _ _ h => h) (Or.inl ⟨by rfl, ?_⟩) ?_ ?_
              rotate_left
              · intro w'
                go_simp
                with_reducible rfl
              rotate_left
              · simp only [Act.put, List.setIfInBounds_toArray, List.set_cons_zero, List.set_cons_succ, i64_w, i32_w]
                rfl
              refine one_ (i := 10) (N := some 64) #[true, true, true, true, true, true, true, true, true, true, true, false, false, false] rfl rfl (by kernel_rfl) (by decide) (fun K hK => ?_)
              refine slice_step (n := 1) (by rfl) (N := 64) rfl (cs := #[.int .i64 (wrap64 (t1152))]) (t := 3) ?hr ?_
              case hr => first | (go_simp; done) | (go_simp; rfl)
              intro g1182 hg w1183 hbox hb
              replace HS : Aside0 (Sep (fps []) w [r7 none 0 0 [], r13 A1173 x1172.length n1175 x1172, r7 none 0 0 [], r13 none 0 0 [], b15 g1063 none 0 0 none 0 0, b15 g1115 A1173 x1172.length n1175 none 0 0, b11 g1182 (wrap64 (t1152))] w1183) := ⟨HS.out.box hg hbox hb⟩
              clear hg hbox hb
              refine hK.out _ _ (blk_cellv (HS.out.at5) 0 rfl) (fun hHeld => ?_)
              clear hK K
              refine norm_ (a' := ?_) ?_ ?_
              rotate_left
              · show Act.put _ (some 64) _ = _
                simp only [Act.put, List.setIfInBounds_toArray, List.set_cons_zero, List.set_cons_succ, i64_w, i32_w]
                rfl
              refine one_ (i := 11) (N := some 65) #[true, true, true, true, true, true, true, true, true, true, true, true, false, false] rfl rfl (by kernel_rfl) (by decide) (fun K hK => ?_)
              by_cases c1185 : x1172.length < 17592186044416
              · have AL1168 := if_yes c1185 AL1168
                have c1185b0 : decide (x1172.length < 17592186044416) = true := decide_eq_true c1185
                clear c1185
                obtain ⟨y1161, HA1189, AL1168⟩ := bind_some AL1168
                refine append_step (l1 := [r7 none 0 0 []]) (l2 := [r7 none 0 0 [], r13 none 0 0 [], b15 g1063 none 0 0 none 0 0, b15 g1115 A1173 x1172.length n1175 none 0 0, b11 g1182 (wrap64 (t1152))]) (by rfl) (.tmp 55) (.tmp 64) 49 3 (.int .i64 0) 8 rfl Tryd.underlying49 (by kernel_rfl) rfl (by decide) (Value.int .i64) (fun _ => rfl) (.slice A1173 x1172.length n1175) (x1172 : List Int) [wrap64 (t1152)] ⟨g1182, 0, none⟩ 1 rfl rfl (blk_news (xs := [wrap64 (t1152)]) (HS.out.at6)) HS.out (by have := of_decide_eq_true c1185b0; simp only [List.length_cons, List.length_nil]; omega) HA1189 ?_
                intro A1186 n1187 w1188 HS1
                replace HS : Aside0 (Sep (fps []) w [r7 none 0 0 [], r13 A1186 y1161.length n1187 y1161, r7 none 0 0 [], r13 none 0 0 [], b15 g1063 none 0 0 none 0 0, b15 g1115 A1173 x1172.length n1175 none 0 0, b11 g1182 (wrap64 (t1152))] w1188) := ⟨HS1⟩
                clear HS1
                refine hK.out _ _ (blk_cellv (HS.out.at5) 0 rfl) (fun hHeld => ?_)
                clear hK K
                refine norm_ (a' := ?_) ?_ ?_
                rotate_left
                · show Act.put _ (some 65) _ = _
                  simp only [Act.put, List.setIfInBounds_toArray, List.set_cons_zero, List.set_cons_succ, i64_w, i32_w]
                  rfl
                refine pure_ (i := 12) (N := some 66) (v := ?_) (a' := ?_) #[true, true, true, true, true, true, true, true, true, true, true, true, true, false] rfl rfl (by kernel_rfl) (fun _ _ _ h => h) (Or.inl ⟨by rfl, ?_⟩) ?_ ?_
                rotate_left
                · intro w'
                  go_simp
                  with_reducible rfl
                rotate_left
                · simp only [Act.put, List.setIfInBounds_toArray, List.set_cons_zero, List.set_cons_succ, i64_w, i32_w]
                  rfl
                refine last_ (i := 13) (N := none) #[true, true, true, true, true, true, true, true, true, true, true, true, true, true] rfl rfl (by kernel_rfl) (by decide) (fun K hK => ?_)
                have hc1192 := blk_cellv (v := .slice A1173 x1172.length n1175) (HS.out.at5) 0 rfl
                have hz1193 := blk_fz (HS.out.at5) 0
                refine store_step (w1 := (World.setCell w1188 ⟨g1115, 0, none⟩ (.slice A1186 y1161.length n1187))) (by rfl) rfl ?hr ?_
                case hr => first | (go_simp; done) | (go_simp; rfl)
                clear hc1192 hz1193
                intro w1191 hst
                have hq0 : Sep (fps []) w [r7 none 0 0 [], r13 A1186 y1161.length n1187 y1161, r7 none 0 0 [], r13 none 0 0 [], b15 g1063 none 0 0 none 0 0, b15 g1115 A1186 y1161.length n1187 none 0 0, b11 g1182 (wrap64 (t1152))] (World.setCell w1188 ⟨g1115, 0, none⟩ (.slice A1186 y1161.length n1187)) := (HS.out).set1 (l1 := [r7 none 0 0 [], r13 A1186 y1161.length n1187 y1161, r7 none 0 0 [], r13 none 0 0 [], b15 g1063 none 0 0 none 0 0]) (l2 := [b11 g1182 (wrap64 (t1152))]) 0 (.slice A1186 y1161.length n1187)
                have HS_ : Aside0 (Sep (fps []) w [r7 none 0 0 [], r13 A1186 y1161.length n1187 y1161, r7 none 0 0 [], r13 none 0 0 [], b15 g1063 none 0 0 none 0 0, b15 g1115 A1186 y1161.length n1187 none 0 0, b11 g1182 (wrap64 (t1152))] w1191) := ⟨by rw [hst]; exact hq0⟩
                clear hq0
                clear HS hst
                have HS := HS_
                clear HS_
                refine hK.out _ _ ?_
                clear hK K
                refine done_ (by kernel_rfl) ?_
                replace HS : Aside0 (Sep (fps []) w [r7 none 0 0 [], r13 A1186 y1161.length n1187 y1161, r7 none 0 0 [], r13 none 0 0 [], b15 g1063 none 0 0 none 0 0, b15 g1115 A1186 y1161.length n1187 none 0 0] w1191) := ⟨HS.out.sub (.cons_cons _ (.cons_cons _ (.cons_cons _ (.cons_cons _ (.cons_cons _ (.cons_cons _ (.cons _ .slnil)))))))⟩
                go_wp2_with fail
                go_roundg k1170
                case measure => exact Nat.lt_succ_self _
                case rel => exact ⟨(wrap64 (x1171 + 1)), (y1161), (A1186), (y1161.length), (n1187), (by first | rfl | (simp [IntKind.wrap_u32]; done)), Aside0.mk AL1168.out, ⟨HS.out⟩⟩
              · have AL1168 := if_no c1185 AL1168
                have c1185b0 : decide (x1172.length < 17592186044416) = false := decide_eq_false c1185
                clear c1185
                exact (none_no AL1168).elim
            · have AL1168 := if_no c1177 AL1168
              have c1177b0 : decide (x1171 < (wrap64 (t1101))) = false := decide_eq_false c1177
              clear c1177
              have ho := some_eq AL1168
              subst ho
              clear AL1168
              go_wp2_with fail
              obtain ⟨o1218, AL1219, H⟩ := bind_some H
              go_loopg [69] k (fun kq v69 wc => ∃ (x1222 : Int) (x1223 : List Int) (A1224 : Option Addr) (m1225 : Nat) (n1226 : Nat), v69 = .int .i64 x1222 ∧ Aside0 (obj_See_nil.lo1 kq a1062 t1101 t1104 x1222 x1223 = some o1218) ∧ Aside0 (Sep (fps []) w [r7 A1224 m1225 n1226 x1223, r13 A1173 x1172.length n1175 x1172, r7 none 0 0 [], r13 none 0 0 [], b15 g1063 none 0 0 none 0 0, b15 g1115 A1173 x1172.length n1175 A1224 m1225 n1226] wc))
              case atStart => exact ⟨(0), (([] : List Int)), (none), (0), (0), (by first | rfl | (simp [IntKind.wrap_u32]; done)), AL1219, ⟨HS.out⟩⟩
              case round =>
                clear AL1219 HS
                obtain ⟨x1222, x1223, A1224, m1225, n1226, rfl, AL1219, HS⟩ := hrel
                obtain ⟨w1220, rfl⟩ : ∃ x : World, x = wr := ⟨_, rfl⟩
                obtain rfl := (row_len (HS.out.at0)).symm
                cases gk with
                | zero => exact absurd AL1219.out (by simp [obj_See_nil.lo1])
                | succ k1221 =>
                  have AL0 := AL1219.out
                  rw [obj_See_nil.lo1] at AL0
                  clear AL1219
                  have AL1219 := Aside0.mk AL0
                  clear AL0
                  by_cases c1228 : x1222 < (wrap64 (t1104))
                  · have AL1219 := if_yes c1228 AL1219
                    have c1228b0 : decide (x1222 < (wrap64 (t1104))) = true := decide_eq_true c1228
                    clear c1228
                    go_wp2_with fail
                    refine start_ (n := 15) (S := (fun w' => w'.cell? ⟨g1115, 1, none⟩ = some (.slice A1224 x1223.length n1226))) (ds := [14]) #[false, false, false, false, false, false, false, false, false, false, false, false, false, false, false] (by kernel_rfl) rfl rfl (blk_cellv ((HS.out.drew).at5) 1 rfl) (fun hHeld => ?_)
                    have HS_ := Aside0.mk HS.out.drew
                    clear HS
                    generalize World.drew _ = w1230 at HS_ hHeld ⊢
                    have HS := HS_
                    clear HS_
                    refine pure_ (i := 0) (N := some 72) (v := ?_) (a' := ?_) #[true, false, false, false, false, false, false, false, false, false, false, false, false, false, false] rfl rfl (by kernel_rfl) (fun _ _ _ h => h) (Or.inl ⟨by rfl, ?_⟩) ?_ ?_
                    rotate_left
                    · intro w'
                      go_simp
                      with_reducible rfl
                    rotate_left
                    · simp only [Act.put, List.setIfInBounds_toArray, List.set_cons_zero, List.set_cons_succ, i64_w, i32_w]
                      rfl
                    refine pure_ (i := 2) (N := some 74) (v := ?_) (a' := ?_) #[true, false, true, false, false, false, false, false, false, false, false, false, false, false, false] rfl rfl (by kernel_rfl) (fun _ _ _ h => h) (Or.inl ⟨by rfl, ?_⟩) ?_ ?_
                    rotate_left
                    · intro w'
                      go_simp
                      with_reducible rfl
                    rotate_left
                    · simp only [Act.put, List.setIfInBounds_toArray, List.set_cons_zero, List.set_cons_succ, i64_w, i32_w]
                      rfl
                    refine pure_ (i := 3) (N := some 75) (v := ?_) (a' := ?_) #[true, false, true, true, false, false, false, false, false, false, false, false, false, false, false] rfl rfl (by kernel_rfl) (fun _ _ _ h => h) (Or.inl ⟨by rfl, ?_⟩) ?_ ?_
                    rotate_left
                    · intro w'
                      go_simp
                      with_reducible rfl
                    rotate_left
                    · simp only [Act.put, List.setIfInBounds_toArray, List.set_cons_zero, List.set_cons_succ, i64_w, i32_w]
                      rfl
                    refine pure_ (i := 4) (N := some 76) (v := ?_) (a' := ?_) #[true, false, true, true, true, false, false, false, false, false, false, false, false, false, false] rfl rfl (by kernel_rfl) (fun _ _ _ h => h) (Or.inl ⟨by rfl, ?_⟩) ?_ ?_
                    rotate_left
                    · intro w'
                      go_simp
                      with_reducible rfl
                    rotate_left
                    · simp only [Act.put, List.setIfInBounds_toArray, List.set_cons_zero, List.set_cons_succ, i64_w, i32_w]
                      rfl
                    refine pure_ (i := 5) (N := some 77) (v := ?_) (a' := ?_) #[true, false, true, true, true, true, false, false, false, false, false, false, false, false, false] rfl rfl (by kernel_rfl) (fun _ _ _ h => h) (Or.inl ⟨by rfl, ?_⟩) ?_ ?_
                    rotate_left
                    · intro w'
                      go_simp
                      with_reducible rfl
                    rotate_left
                    · simp only [Act.put, List.setIfInBounds_toArray, List.set_cons_zero, List.set_cons_succ, i64_w, i32_w]
                      rfl
                    refine pure_ (i := 6) (N := some 78) (v := ?_) (a' := ?_) #[true, false, true, true, true, true, true, false, false, false, false, false, false, false, false] rfl rfl (by kernel_rfl) (fun _ _ _ h => h) (Or.inl ⟨by rfl, ?_⟩) ?_ ?_
                    rotate_left
                    · intro w'
                      go_simp
                      with_reducible rfl
                    rotate_left
                    · simp only [Act.put, List.setIfInBounds_toArray, List.set_cons_zero, List.set_cons_succ, i64_w, i32_w]
                      rfl
                    refine pure_ (i := 7) (N := some 79) (v := ?_) (a' := ?_) #[true, false, true, true, true, true, true, true, false, false, false, false, false, false, false] rfl rfl (by kernel_rfl) (fun _ _ _ h => h) (Or.inl ⟨by rfl, ?_⟩) ?_ ?_
                    rotate_left
                    · intro w'
                      go_simp
                      with_reducible rfl
                    rotate_left
                    · simp only [Act.put, List.setIfInBounds_toArray, List.set_cons_zero, List.set_cons_succ, i64_w, i32_w]
                      rfl
                    refine pure_ (i := 8) (N := some 80) (v := ?_) (a' := ?_) #[true, false, true, true, true, true, true, true, true, false, false, false, false, false, false] rfl rfl (by kernel_rfl) (fun _ _ _ h => h) (Or.inl ⟨by rfl, ?_⟩) ?_ ?_
                    rotate_left
                    · intro w'
                      go_simp
                      with_reducible rfl
                    rotate_left
                    · simp only [Act.put, List.setIfInBounds_toArray, List.set_cons_zero, List.set_cons_succ, i64_w, i32_w]
                      rfl
                    refine pure_ (i := 9) (N := some 81) (v := ?_) (a' := ?_) #[true, false, true, true, true, true, true, true, true, true, false, false, false, false, false] rfl rfl (by kernel_rfl) (fun _ _ _ h => h) (Or.inl ⟨by rfl, ?_⟩) ?_ ?_
                    rotate_left
                    · intro w'
                      go_simp
                      with_reducible rfl
                    rotate_left
                    · simp only [Act.put, List.setIfInBounds_toArray, List.set_cons_zero, List.set_cons_succ, i64_w, i32_w]
                      rfl
                    refine take_ (i := 1) (N := some 73) (v := ?_) (a' := ?_) #[true, true, true, true, true, true, true, true, true, true, false, false, false, false, false] rfl rfl (by kernel_rfl) (fun _ _ _ h => h) (Or.inl ⟨by rfl, ?_⟩) hHeld ?_ ?_
                    rotate_left
                    · rintro w' hS'
                      have s0 := hS'
                      go_simp
                      with_reducible rfl
                    rotate_left
                    · simp only [Act.put, List.setIfInBounds_toArray, List.set_cons_zero, List.set_cons_succ, i64_w, i32_w]
                      rfl
                    refine one_ (i := 10) (N := some 82) #[true, true, true, true, true, true, true, true, true, true, true, false, false, false, false] rfl rfl (by kernel_rfl) (by decide) (fun K hK => ?_)
                    obtain ⟨t1203, HA1231, AL1219⟩ := bind_some AL1219
                    refine goes_ Tryd.func102 (by kernel_rfl) rfl #[.pointer none, .int .i64 a1062, .int .i64 (wrap64 ((wrap64 (t1101)) + (wrap64 (t1104)))), .int .i64 (wrap64 ((wrap64 (t1101)) + x1222))] (by rfl) rfl rfl (by (try simp only [List.map_toArray, List.map_cons, List.map_nil]); first | done | rfl) ?_
                    refine (obj_look_nil.calls _ a1062 (wrap64 ((wrap64 (t1101)) + (wrap64 (t1104)))) (wrap64 ((wrap64 (t1101)) + x1222)) t1203 _ ⟨HGl0.out.pass (l := []) HS.out⟩ ⟨Sep.start _⟩ HA1231).mono ?_
                    rintro e_ w1232 ⟨rfl, hS⟩
                    replace HS : Aside0 (Sep (fps []) w [r7 A1224 x1223.length n1226 x1223, r13 A1173 x1172.length n1175 x1172, r7 none 0 0 [], r13 none 0 0 [], b15 g1063 none 0 0 none 0 0, b15 g1115 A1173 x1172.length n1175 A1224 x1223.length n1226] w1232) := ⟨HS.out.call hS⟩
                    clear hS
                    refine ⟨_, rfl, ?_⟩
                    refine hK.out _ _ (blk_cellv (HS.out.at5) 1 rfl) (fun hHeld => ?_)
                    clear hK K
                    refine norm_ (a' := ?_) ?_ ?_
                    rotate_left
                    · show Act.put _ (some 82) _ = _
                      simp only [Act.put, List.setIfInBounds_toArray, List.set_cons_zero, List.set_cons_succ, i64_w, i32_w]
                      rfl
                    refine one_ (i := 11) (N := some 83) #[true, true, true, true, true, true, true, true, true, true, true, true, false, false, false] rfl rfl (by kernel_rfl) (by decide) (fun K hK => ?_)
                    refine slice_step (n := 1) (by rfl) (N := 83) rfl (cs := #[.int .u32 t1203]) (t := 33) ?hr ?_
                    case hr => first | (go_simp; done) | (go_simp; rfl)
                    intro g1233 hg w1234 hbox hb
                    replace HS : Aside0 (Sep (fps []) w [r7 A1224 x1223.length n1226 x1223, r13 A1173 x1172.length n1175 x1172, r7 none 0 0 [], r13 none 0 0 [], b15 g1063 none 0 0 none 0 0, b15 g1115 A1173 x1172.length n1175 A1224 x1223.length n1226, b6 g1233 t1203] w1234) := ⟨HS.out.box hg hbox hb⟩
                    clear hg hbox hb
                    refine hK.out _ _ (blk_cellv (HS.out.at5) 1 rfl) (fun hHeld => ?_)
                    clear hK K
                    refine norm_ (a' := ?_) ?_ ?_
                    rotate_left
                    · show Act.put _ (some 83) _ = _
                      simp only [Act.put, List.setIfInBounds_toArray, List.set_cons_zero, List.set_cons_succ, i64_w, i32_w]
                      rfl
                    refine one_ (i := 12) (N := some 84) #[true, true, true, true, true, true, true, true, true, true, true, true, true, false, false] rfl rfl (by kernel_rfl) (by decide) (fun K hK => ?_)
                    by_cases c1236 : x1223.length < 35184372088832
                    · have AL1219 := if_yes c1236 AL1219
                      have c1236b0 : decide (x1223.length < 35184372088832) = true := decide_eq_true c1236
                      clear c1236
                      obtain ⟨y1212, HA1240, AL1219⟩ := bind_some AL1219
                      refine append_step (l1 := []) (l2 := [r13 A1173 x1172.length n1175 x1172, r7 none 0 0 [], r13 none 0 0 [], b15 g1063 none 0 0 none 0 0, b15 g1115 A1173 x1172.length n1175 A1224 x1223.length n1226, b6 g1233 t1203]) (by rfl) (.tmp 73) (.tmp 83) 69 33 (.int .u32 0) 4 rfl Tryd.underlying69 (by kernel_rfl) rfl (by decide) (Value.int .u32) (fun _ => rfl) (.slice A1224 x1223.length n1226) (x1223 : List Int) [t1203] ⟨g1233, 0, none⟩ 1 rfl rfl (blk_news (xs := [t1203]) (HS.out.at6)) HS.out (by have := of_decide_eq_true c1236b0; simp only [List.length_cons, List.length_nil]; omega) HA1240 ?_
                      intro A1237 n1238 w1239 HS1
                      replace HS : Aside0 (Sep (fps []) w [r7 A1237 y1212.length n1238 y1212, r13 A1173 x1172.length n1175 x1172, r7 none 0 0 [], r13 none 0 0 [], b15 g1063 none 0 0 none 0 0, b15 g1115 A1173 x1172.length n1175 A1224 x1223.length n1226, b6 g1233 t1203] w1239) := ⟨HS1⟩
                      clear HS1
                      refine hK.out _ _ (blk_cellv (HS.out.at5) 1 rfl) (fun hHeld => ?_)
                      clear hK K
                      refine norm_ (a' := ?_) ?_ ?_
                      rotate_left
                      · show Act.put _ (some 84) _ = _
                        simp only [Act.put, List.setIfInBounds_toArray, List.set_cons_zero, List.set_cons_succ, i64_w, i32_w]
                        rfl
                      refine pure_ (i := 13) (N := some 85) (v := ?_) (a' := ?_) #[true, true, true, true, true, true, true, true, true, true, true, true, true, true, false] rfl rfl (by kernel_rfl) (fun _ _ _ h => h) (Or.inl ⟨by rfl, ?_⟩) ?_ ?_
                      rotate_left
                      · intro w'
                        go_simp
                        with_reducible rfl
                      rotate_left
                      · simp only [Act.put, List.setIfInBounds_toArray, List.set_cons_zero, List.set_cons_succ, i64_w, i32_w]
                        rfl
                      refine last_ (i := 14) (N := none) #[true, true, true, true, true, true, true, true, true, true, true, true, true, true, true] rfl rfl (by kernel_rfl) (by decide) (fun K hK => ?_)
                      have hc1243 := blk_cellv (v := .slice A1224 x1223.length n1226) (HS.out.at5) 1 rfl
                      have hz1244 := blk_fz (HS.out.at5) 1
                      refine store_step (w1 := (World.setCell w1239 ⟨g1115, 1, none⟩ (.slice A1237 y1212.length n1238))) (by rfl) rfl ?hr ?_
                      case hr => first | (go_simp; done) | (go_simp; rfl)
                      clear hc1243 hz1244
                      intro w1242 hst
                      have hq0 : Sep (fps []) w [r7 A1237 y1212.length n1238 y1212, r13 A1173 x1172.length n1175 x1172, r7 none 0 0 [], r13 none 0 0 [], b15 g1063 none 0 0 none 0 0, b15 g1115 A1173 x1172.length n1175 A1237 y1212.length n1238, b6 g1233 t1203] (World.setCell w1239 ⟨g1115, 1, none⟩ (.slice A1237 y1212.length n1238)) := (HS.out).set1 (l1 := [r7 A1237 y1212.length n1238 y1212, r13 A1173 x1172.length n1175 x1172, r7 none 0 0 [], r13 none 0 0 [], b15 g1063 none 0 0 none 0 0]) (l2 := [b6 g1233 t1203]) 1 (.slice A1237 y1212.length n1238)
                      have HS_ : Aside0 (Sep (fps []) w [r7 A1237 y1212.length n1238 y1212, r13 A1173 x1172.length n1175 x1172, r7 none 0 0 [], r13 none 0 0 [], b15 g1063 none 0 0 none 0 0, b15 g1115 A1173 x1172.length n1175 A1237 y1212.length n1238, b6 g1233 t1203] w1242) := ⟨by rw [hst]; exact hq0⟩
                      clear hq0
                      clear HS hst
                      have HS := HS_
                      clear HS_
                      refine hK.out _ _ ?_
                      clear hK K
                      refine done_ (by kernel_rfl) ?_
                      replace HS : Aside0 (Sep (fps []) w [r7 A1237 y1212.length n1238 y1212, r13 A1173 x1172.length n1175 x1172, r7 none 0 0 [], r13 none 0 0 [], b15 g1063 none 0 0 none 0 0, b15 g1115 A1173 x1172.length n1175 A1237 y1212.length n1238] w1242) := ⟨HS.out.sub (.cons_cons _ (.cons_cons _ (.cons_cons _ (.cons_cons _ (.cons_cons _ (.cons_cons _ (.cons _ .slnil)))))))⟩
                      go_wp2_with fail
                      go_roundg k1221
                      case measure => exact Nat.lt_succ_self _
                      case rel => exact ⟨(wrap64 (x1222 + 1)), (y1212), (A1237), (y1212.length), (n1238), (by first | rfl | (simp [IntKind.wrap_u32]; done)), Aside0.mk AL1219.out, ⟨HS.out⟩⟩
                    · have AL1219 := if_no c1236 AL1219
                      have c1236b0 : decide (x1223.length < 35184372088832) = false := decide_eq_false c1236
                      clear c1236
                      exact (none_no AL1219).elim
                  · have AL1219 := if_no c1228 AL1219
                    have c1228b0 : decide (x1222 < (wrap64 (t1104))) = false := decide_eq_false c1228
                    clear c1228
                    have ho := some_eq AL1219
                    subst ho
                    clear AL1219
                    have hc1245 : w1220.cell? ⟨g1115, 0, none⟩ = some (.slice A1173 x1172.length n1175) := blk_cellv (HS.out.at5) 0 rfl
                    have hc1246 : w1220.cell? ⟨g1115, 1, none⟩ = some (.slice A1224 x1223.length n1226) := blk_cellv (HS.out.at5) 1 rfl
                    have hc1247 : w1220.cell? ⟨g1063, 0, none⟩ = some (.slice none 0 0) := blk_cellv (HS.out.at4) 0 rfl
                    have hz1248 : w1220.frozen? ⟨g1063, 0, none⟩ = false := blk_fz (HS.out.at4) 0
                    have hc1249 : w1220.cell? ⟨g1063, 1, none⟩ = some (.slice none 0 0) := blk_cellv (HS.out.at4) 1 rfl
                    have hz1250 : w1220.frozen? ⟨g1063, 1, none⟩ = false := blk_fz (HS.out.at4) 1
                    go_wp2_with (first | ((with_reducible refine gate_store (t := 71) (p := 4) rfl ?_); refine store_event (w1 := (World.setCell (World.setCell w1220 ⟨g1063, 0, none⟩ (.slice A1173 x1172.length n1175)) ⟨g1063, 1, none⟩ (.slice A1224 x1223.length n1226))) rfl (t := 71) (p := 4) rfl rfl ?hr ?_; (case hr => first | (go_simp; done) | (go_simp; rfl)); intro w1251 hst; clear hc1245 hc1246 hc1247 hz1248 hc1249 hz1250; have hq0 : Sep (fps []) w [r7 A1224 x1223.length n1226 x1223, r13 A1173 x1172.length n1175 x1172, r7 none 0 0 [], r13 none 0 0 [], b15 g1063 A1173 x1172.length n1175 none 0 0, b15 g1115 A1173 x1172.length n1175 A1224 x1223.length n1226] (World.setCell w1220 ⟨g1063, 0, none⟩ (.slice A1173 x1172.length n1175)) := (HS.out).set1 (l1 := [r7 A1224 x1223.length n1226 x1223, r13 A1173 x1172.length n1175 x1172, r7 none 0 0 [], r13 none 0 0 []]) (l2 := [b15 g1115 A1173 x1172.length n1175 A1224 x1223.length n1226]) 0 (.slice A1173 x1172.length n1175); have hq1 : Sep (fps []) w [r7 A1224 x1223.length n1226 x1223, r13 A1173 x1172.length n1175 x1172, r7 none 0 0 [], r13 none 0 0 [], b15 g1063 A1173 x1172.length n1175 A1224 x1223.length n1226, b15 g1115 A1173 x1172.length n1175 A1224 x1223.length n1226] (World.setCell (World.setCell w1220 ⟨g1063, 0, none⟩ (.slice A1173 x1172.length n1175)) ⟨g1063, 1, none⟩ (.slice A1224 x1223.length n1226)) := (hq0).set1 (l1 := [r7 A1224 x1223.length n1226 x1223, r13 A1173 x1172.length n1175 x1172, r7 none 0 0 [], r13 none 0 0 []]) (l2 := [b15 g1115 A1173 x1172.length n1175 A1224 x1223.length n1226]) 1 (.slice A1224 x1223.length n1226); replace HS : Aside0 (Sep (fps []) w [r7 A1224 x1223.length n1226 x1223, r13 A1173 x1172.length n1175 x1172, r7 none 0 0 [], r13 none 0 0 [], b15 g1063 A1173 x1172.length n1175 A1224 x1223.length n1226, b15 g1115 A1173 x1172.length n1175 A1224 x1223.length n1226] w1251) := ⟨by rw [hst]; exact hq1⟩; clear hq0 hq1; clear hst; replace HS : Aside0 (Sep (fps []) w [r7 A1224 x1223.length n1226 x1223, r13 A1173 x1172.length n1175 x1172, b15 g1063 A1173 x1172.length n1175 A1224 x1223.length n1226] w1251) := ⟨HS.out.sub (.cons_cons _ (.cons_cons _ (.cons _ (.cons _ (.cons_cons _ (.cons _ .slnil))))))⟩))
                    have hc1252 : w1251.cell? ⟨g1063, 0, none⟩ = some (.slice A1173 x1172.length n1175) := blk_cellv (HS.out.at2) 0 rfl
                    have hc1253 : w1251.cell? ⟨g1063, 1, none⟩ = some (.slice A1224 x1223.length n1226) := blk_cellv (HS.out.at2) 1 rfl
                    refine bodyPost_ret (v := .tuple #[.agg #[.slice A1173 x1172.length n1175, .slice A1224 x1223.length n1226], .bool true]) (by simp [results, Tryd.results36, go_sem, hc1252, hc1253]) rfl ?_
                    rw [← some_eq H]
                    exact ⟨A1173, x1172.length, n1175, A1224, x1223.length, n1226, (by first | rfl | (simp [IntKind.wrap_u32]; done)), ((HS.out).front 1 (by simp)).keep (l := [r13 A1173 x1172.length n1175 x1172, r7 A1224 x1223.length n1226 x1223]) (rest := [b15 g1063 A1173 x1172.length n1175 A1224 x1223.length n1226])⟩
      · have H := if_no c1114 H
        have c1114b0 : (t1111.2 == 0) = false := beq_eq_false_iff_ne.mpr c1114
        have c1114b1 : (t1111.2 != 0) = true := bne_iff_ne.mpr c1114
        clear c1114
        have hc1360 : w1113.cell? ⟨g1063, 0, none⟩ = some (.slice none 0 0) := blk_cellv (HS.out.at2) 0 rfl
        have hz1361 : w1113.frozen? ⟨g1063, 0, none⟩ = false := blk_fz (HS.out.at2) 0
        have hc1362 : w1113.cell? ⟨g1063, 1, none⟩ = some (.slice none 0 0) := blk_cellv (HS.out.at2) 1 rfl
        have hz1363 : w1113.frozen? ⟨g1063, 1, none⟩ = false := blk_fz (HS.out.at2) 1
        go_wp2_with (first | ((with_reducible refine gate_store (t := 71) (p := 4) rfl ?_); refine store_event (w1 := (World.setCell (World.setCell w1113 ⟨g1063, 0, none⟩ (.slice none 0 0)) ⟨g1063, 1, none⟩ (.slice none 0 0))) rfl (t := 71) (p := 4) rfl rfl ?hr ?_; (case hr => first | (go_simp; done) | (go_simp; rfl)); intro w1364 hst; clear hc1360 hz1361 hc1362 hz1363; have hq0 : Sep (fps []) w [r7 none 0 0 [], r13 none 0 0 [], b16 g1063 none 0 0] (World.setCell w1113 ⟨g1063, 0, none⟩ (.slice none 0 0)) := (HS.out).set1 (l1 := [r7 none 0 0 [], r13 none 0 0 []]) (l2 := []) 0 (.slice none 0 0); have hq1 : Sep (fps []) w [r7 none 0 0 [], r13 none 0 0 [], b12 g1063] (World.setCell (World.setCell w1113 ⟨g1063, 0, none⟩ (.slice none 0 0)) ⟨g1063, 1, none⟩ (.slice none 0 0)) := (hq0).set1 (l1 := [r7 none 0 0 [], r13 none 0 0 []]) (l2 := []) 1 (.slice none 0 0); replace HS : Aside0 (Sep (fps []) w [r7 none 0 0 [], r13 none 0 0 [], b12 g1063] w1364) := ⟨by rw [hst]; exact hq1⟩; clear hq0 hq1; clear hst; replace HS : Aside0 (Sep (fps []) w [r13 none 0 0 [], r7 none 0 0 [], r13 none 0 0 [], b14 g1063 none 0 0] w1364) := ⟨HS.out.nilrow 3 (Value.int .i64)⟩; replace HS : Aside0 (Sep (fps []) w [r7 none 0 0 [], r13 none 0 0 [], r7 none 0 0 [], r13 none 0 0 [], b15 g1063 none 0 0 none 0 0] w1364) := ⟨HS.out.nilrow 33 (Value.int .u32)⟩; replace HS : Aside0 (Sep (fps []) w [r7 none 0 0 [], r13 none 0 0 [], b15 g1063 none 0 0 none 0 0] w1364) := ⟨HS.out.sub (.cons_cons _ (.cons_cons _ (.cons _ (.cons _ (.cons_cons _ .slnil)))))⟩))
        have hc1369 : w1364.cell? ⟨g1063, 0, none⟩ = some (.slice none 0 0) := blk_cellv (HS.out.at2) 0 rfl
        have hc1370 : w1364.cell? ⟨g1063, 1, none⟩ = some (.slice none 0 0) := blk_cellv (HS.out.at2) 1 rfl
        refine bodyPost_ret (v := .tuple #[.agg #[.slice none 0 0, .slice none 0 0], .bool false]) (by simp [results, Tryd.results36, go_sem, hc1369, hc1370]) rfl ?_
        rw [← some_eq H]
        exact ⟨none, 0, 0, none, 0, 0, (by first | rfl | (simp [IntKind.wrap_u32]; done)), ((HS.out).front 1 (by simp)).keep (l := [r13 none 0 0 [], r7 none 0 0 []]) (rest := [b15 g1063 none 0 0 none 0 0])⟩
    · have H := if_no c1100 H
      have c1100b0 : t1097 = false := by simpa using c1100
      have c1100b1 : (!t1097) = true := by rw [c1100b0]; rfl
      try rw [c1100b1]
      clear c1100
      have hc1381 : w1099.cell? ⟨g1063, 0, none⟩ = some (.slice none 0 0) := blk_cellv (HS.out.at2) 0 rfl
      have hz1382 : w1099.frozen? ⟨g1063, 0, none⟩ = false := blk_fz (HS.out.at2) 0
      have hc1383 : w1099.cell? ⟨g1063, 1, none⟩ = some (.slice none 0 0) := blk_cellv (HS.out.at2) 1 rfl
      have hz1384 : w1099.frozen? ⟨g1063, 1, none⟩ = false := blk_fz (HS.out.at2) 1
      go_wp2_with (first | ((with_reducible refine gate_store (t := 71) (p := 4) rfl ?_); refine store_event (w1 := (World.setCell (World.setCell w1099 ⟨g1063, 0, none⟩ (.slice none 0 0)) ⟨g1063, 1, none⟩ (.slice none 0 0))) rfl (t := 71) (p := 4) rfl rfl ?hr ?_; (case hr => first | (go_simp; done) | (go_simp; rfl)); intro w1385 hst; clear hc1381 hz1382 hc1383 hz1384; have hq0 : Sep (fps []) w [r7 none 0 0 [], r13 none 0 0 [], b16 g1063 none 0 0] (World.setCell w1099 ⟨g1063, 0, none⟩ (.slice none 0 0)) := (HS.out).set1 (l1 := [r7 none 0 0 [], r13 none 0 0 []]) (l2 := []) 0 (.slice none 0 0); have hq1 : Sep (fps []) w [r7 none 0 0 [], r13 none 0 0 [], b12 g1063] (World.setCell (World.setCell w1099 ⟨g1063, 0, none⟩ (.slice none 0 0)) ⟨g1063, 1, none⟩ (.slice none 0 0)) := (hq0).set1 (l1 := [r7 none 0 0 [], r13 none 0 0 []]) (l2 := []) 1 (.slice none 0 0); replace HS : Aside0 (Sep (fps []) w [r7 none 0 0 [], r13 none 0 0 [], b12 g1063] w1385) := ⟨by rw [hst]; exact hq1⟩; clear hq0 hq1; clear hst; replace HS : Aside0 (Sep (fps []) w [r13 none 0 0 [], r7 none 0 0 [], r13 none 0 0 [], b14 g1063 none 0 0] w1385) := ⟨HS.out.nilrow 3 (Value.int .i64)⟩; replace HS : Aside0 (Sep (fps []) w [r7 none 0 0 [], r13 none 0 0 [], r7 none 0 0 [], r13 none 0 0 [], b15 g1063 none 0 0 none 0 0] w1385) := ⟨HS.out.nilrow 33 (Value.int .u32)⟩; replace HS : Aside0 (Sep (fps []) w [r7 none 0 0 [], r13 none 0 0 [], b15 g1063 none 0 0 none 0 0] w1385) := ⟨HS.out.sub (.cons_cons _ (.cons_cons _ (.cons _ (.cons _ (.cons_cons _ .slnil)))))⟩))
      have hc1390 : w1385.cell? ⟨g1063, 0, none⟩ = some (.slice none 0 0) := blk_cellv (HS.out.at2) 0 rfl
      have hc1391 : w1385.cell? ⟨g1063, 1, none⟩ = some (.slice none 0 0) := blk_cellv (HS.out.at2) 1 rfl
      refine bodyPost_ret (v := .tuple #[.agg #[.slice none 0 0, .slice none 0 0], .bool false]) (by simp [results, Tryd.results36, go_sem, hc1390, hc1391]) rfl ?_
      rw [← some_eq H]
      exact ⟨none, 0, 0, none, 0, 0, (by first | rfl | (simp [IntKind.wrap_u32]; done)), ((HS.out).front 1 (by simp)).keep (l := [r13 none 0 0 [], r7 none 0 0 []]) (rest := [b15 g1063 none 0 0 none 0 0])⟩
  · have H := if_no c1073 H
    have c1073b0 : t1070 = false := by simpa using c1073
    have c1073b1 : (!t1070) = true := by rw [c1073b0]; rfl
    try rw [c1073b1]
    clear c1073
    have hc1402 : w1072.cell? ⟨g1063, 0, none⟩ = some (.slice none 0 0) := blk_cellv (HS.out.at2) 0 rfl
    have hz1403 : w1072.frozen? ⟨g1063, 0, none⟩ = false := blk_fz (HS.out.at2) 0
    have hc1404 : w1072.cell? ⟨g1063, 1, none⟩ = some (.slice none 0 0) := blk_cellv (HS.out.at2) 1 rfl
    have hz1405 : w1072.frozen? ⟨g1063, 1, none⟩ = false := blk_fz (HS.out.at2) 1
    go_wp2_with (first | ((with_reducible refine gate_store (t := 71) (p := 4) rfl ?_); refine store_event (w1 := (World.setCell (World.setCell w1072 ⟨g1063, 0, none⟩ (.slice none 0 0)) ⟨g1063, 1, none⟩ (.slice none 0 0))) rfl (t := 71) (p := 4) rfl rfl ?hr ?_; (case hr => first | (go_simp; done) | (go_simp; rfl)); intro w1406 hst; clear hc1402 hz1403 hc1404 hz1405; have hq0 : Sep (fps []) w [r7 none 0 0 [], r13 none 0 0 [], b16 g1063 none 0 0] (World.setCell w1072 ⟨g1063, 0, none⟩ (.slice none 0 0)) := (HS.out).set1 (l1 := [r7 none 0 0 [], r13 none 0 0 []]) (l2 := []) 0 (.slice none 0 0); have hq1 : Sep (fps []) w [r7 none 0 0 [], r13 none 0 0 [], b12 g1063] (World.setCell (World.setCell w1072 ⟨g1063, 0, none⟩ (.slice none 0 0)) ⟨g1063, 1, none⟩ (.slice none 0 0)) := (hq0).set1 (l1 := [r7 none 0 0 [], r13 none 0 0 []]) (l2 := []) 1 (.slice none 0 0); replace HS : Aside0 (Sep (fps []) w [r7 none 0 0 [], r13 none 0 0 [], b12 g1063] w1406) := ⟨by rw [hst]; exact hq1⟩; clear hq0 hq1; clear hst; replace HS : Aside0 (Sep (fps []) w [r13 none 0 0 [], r7 none 0 0 [], r13 none 0 0 [], b14 g1063 none 0 0] w1406) := ⟨HS.out.nilrow 3 (Value.int .i64)⟩; replace HS : Aside0 (Sep (fps []) w [r7 none 0 0 [], r13 none 0 0 [], r7 none 0 0 [], r13 none 0 0 [], b15 g1063 none 0 0 none 0 0] w1406) := ⟨HS.out.nilrow 33 (Value.int .u32)⟩; replace HS : Aside0 (Sep (fps []) w [r7 none 0 0 [], r13 none 0 0 [], b15 g1063 none 0 0 none 0 0] w1406) := ⟨HS.out.sub (.cons_cons _ (.cons_cons _ (.cons _ (.cons _ (.cons_cons _ .slnil)))))⟩))
    have hc1411 : w1406.cell? ⟨g1063, 0, none⟩ = some (.slice none 0 0) := blk_cellv (HS.out.at2) 0 rfl
    have hc1412 : w1406.cell? ⟨g1063, 1, none⟩ = some (.slice none 0 0) := blk_cellv (HS.out.at2) 1 rfl
    refine bodyPost_ret (v := .tuple #[.agg #[.slice none 0 0, .slice none 0 0], .bool false]) (by simp [results, Tryd.results36, go_sem, hc1411, hc1412]) rfl ?_
    rw [← some_eq H]
    exact ⟨none, 0, 0, none, 0, 0, (by first | rfl | (simp [IntKind.wrap_u32]; done)), ((HS.out).front 1 (by simp)).keep (l := [r13 none 0 0 [], r7 none 0 0 []]) (rest := [b15 g1063 none 0 0 none 0 0])⟩

set_option maxHeartbeats 30000000 in
set_option maxRecDepth 100000 in
theorem obj_SetPtr_nil.calls (k : Nat) (a1466 : Int) (a1467 : Int) (a1468 : Int) (r : Int) (w : World)  (HGl0 : Aside0 (Gl 0 #[.int .i64 0, .int .i64 0, .int .i64 0, .int .i64 0, .int .i64 0] (fps []) w)) (HS : Aside0 (Sep (fps []) w [] w)) (H : Aside0 (obj_SetPtr_nil.f k a1466 a1467 a1468 = some r)) :
    Calls Tryd.prog 58 #[.pointer none, .int .i64 a1466, .int .i64 a1467, .int .i64 a1468] w fun e w' => e = .returned (.int .i64 r) ∧ Sep (fps []) w [] w' := by
  unfold obj_SetPtr_nil.f at H
  go_enter Tryd.func58, Tryd.ntmps58
  go_wp2_with fail
  obtain ⟨t1469, HA1470, H⟩ := bind_some H
  refine (obj_field_nil.calls _ a1466 a1467 false t1469 _ ⟨HGl0.out.pass (l := []) HS.out⟩ ⟨Sep.start _⟩ HA1470).mono ?_
  rintro e_ w1471 ⟨rfl, hS⟩
  replace HS : Aside0 (Sep (fps []) w [] w1471) := ⟨HS.out.call hS⟩
  clear hS
  by_cases c1480 : t1469.2.2 = 0
  · have H := if_yes c1480 H
    have c1480b0 : (t1469.2.2 == 0) = true := beq_iff_eq.mpr c1480
    have c1480b1 : (t1469.2.2 != 0) = false := bne_eq_false_iff_eq.mpr c1480
    clear c1480
    by_cases c1481 : a1468 < 0
    · have H := if_yes c1481 H
      have c1481b0 : decide (a1468 < 0) = true := decide_eq_true c1481
      clear c1481
      go_wp2_with (first | ((with_reducible refine gate_dst (N := 9) rfl ?_); refine box_on ?hg (N := 9) ?hd (cs := #[.int .i64 0, .int .i64 0]) (t := 142) ?hr ?_; (case hd => rfl); (case hg => rfl); (case hr => first | (go_simp; done) | (go_simp; rfl)); intro g1472 hg w1473 hbox hb; replace HS : Aside0 (Sep (fps []) w [b10 g1472 0 0] w1473) := ⟨HS.out.box hg hbox hb⟩; clear hg hbox hb; have hc1475 : w1473.cell? ⟨g1472, 0, none⟩ = some (.int .i64 0) := blk_cellv (HS.out.at0) 0 rfl; have hz1476 : w1473.frozen? ⟨g1472, 0, none⟩ = false := blk_fz (HS.out.at0) 0; have hc1477 : w1473.cell? ⟨g1472, 1, none⟩ = some (.int .i64 0) := blk_cellv (HS.out.at0) 1 rfl; have hz1478 : w1473.frozen? ⟨g1472, 1, none⟩ = false := blk_fz (HS.out.at0) 1) | ((with_reducible refine gate_store (t := 142) (p := 9) rfl ?_); refine store_event (w1 := (World.setCell (World.setCell w1473 ⟨g1472, 0, none⟩ (.int .i64 t1469.1)) ⟨g1472, 1, none⟩ (.int .i64 t1469.2.1))) rfl (t := 142) (p := 9) rfl rfl ?hr ?_; (case hr => first | (go_simp; done) | (go_simp; rfl)); intro w1479 hst; clear hc1475 hz1476 hc1477 hz1478; have hq0 : Sep (fps []) w [b10 g1472 t1469.1 0] (World.setCell w1473 ⟨g1472, 0, none⟩ (.int .i64 t1469.1)) := (HS.out).set1 (l1 := []) (l2 := []) 0 (.int .i64 t1469.1); have hq1 : Sep (fps []) w [b10 g1472 t1469.1 t1469.2.1] (World.setCell (World.setCell w1473 ⟨g1472, 0, none⟩ (.int .i64 t1469.1)) ⟨g1472, 1, none⟩ (.int .i64 t1469.2.1)) := (hq0).set1 (l1 := []) (l2 := []) 1 (.int .i64 t1469.2.1); replace HS : Aside0 (Sep (fps []) w [b10 g1472 t1469.1 t1469.2.1] w1479) := ⟨by rw [hst]; exact hq1⟩; clear hq0 hq1; clear hst; replace HS : Aside0 (Sep (fps []) w [] w1479) := ⟨HS.out.sub (.cons _ .slnil)⟩))
      go_ret
      rw [← some_eq H]
      exact ⟨(by first | rfl | (simp [IntKind.wrap_u32]; done)), HS.out⟩
    · have H := if_no c1481 H
      have c1481b0 : decide (a1468 < 0) = false := decide_eq_false c1481
      clear c1481
      go_wp2_with (first | ((with_reducible refine gate_dst (N := 9) rfl ?_); refine box_on ?hg (N := 9) ?hd (cs := #[.int .i64 0, .int .i64 0]) (t := 142) ?hr ?_; (case hd => rfl); (case hg => rfl); (case hr => first | (go_simp; done) | (go_simp; rfl)); intro g1472 hg w1473 hbox hb; replace HS : Aside0 (Sep (fps []) w [b10 g1472 0 0] w1473) := ⟨HS.out.box hg hbox hb⟩; clear hg hbox hb; have hc1475 : w1473.cell? ⟨g1472, 0, none⟩ = some (.int .i64 0) := blk_cellv (HS.out.at0) 0 rfl; have hz1476 : w1473.frozen? ⟨g1472, 0, none⟩ = false := blk_fz (HS.out.at0) 0; have hc1477 : w1473.cell? ⟨g1472, 1, none⟩ = some (.int .i64 0) := blk_cellv (HS.out.at0) 1 rfl; have hz1478 : w1473.frozen? ⟨g1472, 1, none⟩ = false := blk_fz (HS.out.at0) 1) | ((with_reducible refine gate_store (t := 142) (p := 9) rfl ?_); refine store_event (w1 := (World.setCell (World.setCell w1473 ⟨g1472, 0, none⟩ (.int .i64 t1469.1)) ⟨g1472, 1, none⟩ (.int .i64 t1469.2.1))) rfl (t := 142) (p := 9) rfl rfl ?hr ?_; (case hr => first | (go_simp; done) | (go_simp; rfl)); intro w1479 hst; clear hc1475 hz1476 hc1477 hz1478; have hq0 : Sep (fps []) w [b10 g1472 t1469.1 0] (World.setCell w1473 ⟨g1472, 0, none⟩ (.int .i64 t1469.1)) := (HS.out).set1 (l1 := []) (l2 := []) 0 (.int .i64 t1469.1); have hq1 : Sep (fps []) w [b10 g1472 t1469.1 t1469.2.1] (World.setCell (World.setCell w1473 ⟨g1472, 0, none⟩ (.int .i64 t1469.1)) ⟨g1472, 1, none⟩ (.int .i64 t1469.2.1)) := (hq0).set1 (l1 := []) (l2 := []) 1 (.int .i64 t1469.2.1); replace HS : Aside0 (Sep (fps []) w [b10 g1472 t1469.1 t1469.2.1] w1479) := ⟨by rw [hst]; exact hq1⟩; clear hq0 hq1; clear hst))
      obtain ⟨t1482, HA1483, H⟩ := bind_some H
      refine (ground_Ground_Conf_nil.calls t1482 _ ⟨HGl0.out.pass (l := []) HS.out⟩ ⟨Sep.start _⟩ HA1483).mono ?_
      rintro e_ w1484 ⟨rfl, hS⟩
      replace HS : Aside0 (Sep (fps []) w [b10 g1472 t1469.1 t1469.2.1] w1484) := ⟨HS.out.call hS⟩
      clear hS
      by_cases c1486 : a1468 > t1482.1
      · have H := if_yes c1486 H
        have c1486b0 : decide (t1482.1 < a1468) = true := decide_eq_true c1486
        clear c1486
        have fl1485 : ∀ w, (Instr.field 30 (.agg #[.int .i64 t1482.1, .int .i64 t1482.2.1, .int .i64 t1482.2.2.1, .int .i64 t1482.2.2.2]) 0).run Tryd.prog w = .ok (.int .i64 t1482.1) w := fun _ => by kernel_rfl
        replace HS : Aside0 (Sep (fps []) w [] w1484) := ⟨HS.out.sub (.cons _ .slnil)⟩
        go_wp2_with fail
        clear fl1485
        go_ret
        rw [← some_eq H]
        exact ⟨(by first | rfl | (simp [IntKind.wrap_u32]; done)), HS.out⟩
      · have H := if_no c1486 H
        have c1486b0 : decide (t1482.1 < a1468) = false := decide_eq_false c1486
        clear c1486
        have fl1485 : ∀ w, (Instr.field 30 (.agg #[.int .i64 t1482.1, .int .i64 t1482.2.1, .int .i64 t1482.2.2.1, .int .i64 t1482.2.2.2]) 0).run Tryd.prog w = .ok (.int .i64 t1482.1) w := fun _ => by kernel_rfl
        have hc1487 : w1484.cell? ⟨g1472, 0, none⟩ = some (.int .i64 t1469.1) := blk_cellv (HS.out.at0) 0 rfl
        have hc1488 : w1484.cell? ⟨g1472, 1, none⟩ = some (.int .i64 t1469.2.1) := blk_cellv (HS.out.at0) 1 rfl
        go_wp2_with fail
        clear fl1485 hc1487 hc1488
        obtain ⟨t1489, HA1490, H⟩ := bind_some H
        refine (ground_Ground_SetWord_nil.calls t1469.1 t1469.2.1 ((a1468) % 4294967296) t1489 _ ⟨HGl0.out.pass (l := []) HS.out⟩ ⟨Sep.start _⟩ HA1490).mono ?_
        rintro e_ w1491 ⟨rfl, hS⟩
        replace HS : Aside0 (Sep (fps []) w [b10 g1472 t1469.1 t1469.2.1] w1491) := ⟨HS.out.call hS⟩
        clear hS
        replace HS : Aside0 (Sep (fps []) w [] w1491) := ⟨HS.out.sub (.cons _ .slnil)⟩
        go_wp2_with fail
        go_ret
        rw [← some_eq H]
        exact ⟨(by first | rfl | (simp [IntKind.wrap_u32]; done)), HS.out⟩
  · have H := if_no c1480 H
    have c1480b0 : (t1469.2.2 == 0) = false := beq_eq_false_iff_ne.mpr c1480
    have c1480b1 : (t1469.2.2 != 0) = true := bne_iff_ne.mpr c1480
    clear c1480
    go_wp2_with (first | ((with_reducible refine gate_dst (N := 9) rfl ?_); refine box_on ?hg (N := 9) ?hd (cs := #[.int .i64 0, .int .i64 0]) (t := 142) ?hr ?_; (case hd => rfl); (case hg => rfl); (case hr => first | (go_simp; done) | (go_simp; rfl)); intro g1472 hg w1473 hbox hb; replace HS : Aside0 (Sep (fps []) w [b10 g1472 0 0] w1473) := ⟨HS.out.box hg hbox hb⟩; clear hg hbox hb; have hc1475 : w1473.cell? ⟨g1472, 0, none⟩ = some (.int .i64 0) := blk_cellv (HS.out.at0) 0 rfl; have hz1476 : w1473.frozen? ⟨g1472, 0, none⟩ = false := blk_fz (HS.out.at0) 0; have hc1477 : w1473.cell? ⟨g1472, 1, none⟩ = some (.int .i64 0) := blk_cellv (HS.out.at0) 1 rfl; have hz1478 : w1473.frozen? ⟨g1472, 1, none⟩ = false := blk_fz (HS.out.at0) 1) | ((with_reducible refine gate_store (t := 142) (p := 9) rfl ?_); refine store_event (w1 := (World.setCell (World.setCell w1473 ⟨g1472, 0, none⟩ (.int .i64 t1469.1)) ⟨g1472, 1, none⟩ (.int .i64 t1469.2.1))) rfl (t := 142) (p := 9) rfl rfl ?hr ?_; (case hr => first | (go_simp; done) | (go_simp; rfl)); intro w1479 hst; clear hc1475 hz1476 hc1477 hz1478; have hq0 : Sep (fps []) w [b10 g1472 t1469.1 0] (World.setCell w1473 ⟨g1472, 0, none⟩ (.int .i64 t1469.1)) := (HS.out).set1 (l1 := []) (l2 := []) 0 (.int .i64 t1469.1); have hq1 : Sep (fps []) w [b10 g1472 t1469.1 t1469.2.1] (World.setCell (World.setCell w1473 ⟨g1472, 0, none⟩ (.int .i64 t1469.1)) ⟨g1472, 1, none⟩ (.int .i64 t1469.2.1)) := (hq0).set1 (l1 := []) (l2 := []) 1 (.int .i64 t1469.2.1); replace HS : Aside0 (Sep (fps []) w [b10 g1472 t1469.1 t1469.2.1] w1479) := ⟨by rw [hst]; exact hq1⟩; clear hq0 hq1; clear hst; replace HS : Aside0 (Sep (fps []) w [] w1479) := ⟨HS.out.sub (.cons _ .slnil)⟩))
    go_ret
    rw [← some_eq H]
    exact ⟨(by first | rfl | (simp [IntKind.wrap_u32]; done)), HS.out⟩

set_option maxHeartbeats 30000000 in
set_option maxRecDepth 100000 in
theorem obj_SetData_nil.calls (k : Nat) (a1496 : Int) (a1497 : Int) (a1498 : Int) (r : Int) (w : World)  (HGl0 : Aside0 (Gl 0 #[.int .i64 0, .int .i64 0, .int .i64 0, .int .i64 0, .int .i64 0] (fps []) w)) (HS : Aside0 (Sep (fps []) w [] w)) (H : Aside0 (obj_SetData_nil.f k a1496 a1497 a1498 = some r)) :
    Calls Tryd.prog 56 #[.pointer none, .int .i64 a1496, .int .i64 a1497, .int .u32 a1498] w fun e w' => e = .returned (.int .i64 r) ∧ Sep (fps []) w [] w' := by
  unfold obj_SetData_nil.f at H
  go_enter Tryd.func56, Tryd.ntmps56
  go_wp2_with fail
  obtain ⟨t1499, HA1500, H⟩ := bind_some H
  refine (obj_field_nil.calls _ a1496 a1497 true t1499 _ ⟨HGl0.out.pass (l := []) HS.out⟩ ⟨Sep.start _⟩ HA1500).mono ?_
  rintro e_ w1501 ⟨rfl, hS⟩
  replace HS : Aside0 (Sep (fps []) w [] w1501) := ⟨HS.out.call hS⟩
  clear hS
  by_cases c1510 : t1499.2.2 = 0
  · have H := if_yes c1510 H
    have c1510b0 : (t1499.2.2 == 0) = true := beq_iff_eq.mpr c1510
    have c1510b1 : (t1499.2.2 != 0) = false := bne_eq_false_iff_eq.mpr c1510
    clear c1510
    go_wp2_with (first | ((with_reducible refine gate_dst (N := 9) rfl ?_); refine box_on ?hg (N := 9) ?hd (cs := #[.int .i64 0, .int .i64 0]) (t := 142) ?hr ?_; (case hd => rfl); (case hg => rfl); (case hr => first | (go_simp; done) | (go_simp; rfl)); intro g1502 hg w1503 hbox hb; replace HS : Aside0 (Sep (fps []) w [b10 g1502 0 0] w1503) := ⟨HS.out.box hg hbox hb⟩; clear hg hbox hb; have hc1505 : w1503.cell? ⟨g1502, 0, none⟩ = some (.int .i64 0) := blk_cellv (HS.out.at0) 0 rfl; have hz1506 : w1503.frozen? ⟨g1502, 0, none⟩ = false := blk_fz (HS.out.at0) 0; have hc1507 : w1503.cell? ⟨g1502, 1, none⟩ = some (.int .i64 0) := blk_cellv (HS.out.at0) 1 rfl; have hz1508 : w1503.frozen? ⟨g1502, 1, none⟩ = false := blk_fz (HS.out.at0) 1) | ((with_reducible refine gate_store (t := 142) (p := 9) rfl ?_); refine store_event (w1 := (World.setCell (World.setCell w1503 ⟨g1502, 0, none⟩ (.int .i64 t1499.1)) ⟨g1502, 1, none⟩ (.int .i64 t1499.2.1))) rfl (t := 142) (p := 9) rfl rfl ?hr ?_; (case hr => first | (go_simp; done) | (go_simp; rfl)); intro w1509 hst; clear hc1505 hz1506 hc1507 hz1508; have hq0 : Sep (fps []) w [b10 g1502 t1499.1 0] (World.setCell w1503 ⟨g1502, 0, none⟩ (.int .i64 t1499.1)) := (HS.out).set1 (l1 := []) (l2 := []) 0 (.int .i64 t1499.1); have hq1 : Sep (fps []) w [b10 g1502 t1499.1 t1499.2.1] (World.setCell (World.setCell w1503 ⟨g1502, 0, none⟩ (.int .i64 t1499.1)) ⟨g1502, 1, none⟩ (.int .i64 t1499.2.1)) := (hq0).set1 (l1 := []) (l2 := []) 1 (.int .i64 t1499.2.1); replace HS : Aside0 (Sep (fps []) w [b10 g1502 t1499.1 t1499.2.1] w1509) := ⟨by rw [hst]; exact hq1⟩; clear hq0 hq1; clear hst; have hc1511 : w1509.cell? ⟨g1502, 0, none⟩ = some (.int .i64 t1499.1) := blk_cellv (HS.out.at0) 0 rfl; have hc1512 : w1509.cell? ⟨g1502, 1, none⟩ = some (.int .i64 t1499.2.1) := blk_cellv (HS.out.at0) 1 rfl))
    clear hc1511 hc1512
    obtain ⟨t1513, HA1514, H⟩ := bind_some H
    refine (ground_Ground_SetWord_nil.calls t1499.1 t1499.2.1 a1498 t1513 _ ⟨HGl0.out.pass (l := []) HS.out⟩ ⟨Sep.start _⟩ HA1514).mono ?_
    rintro e_ w1515 ⟨rfl, hS⟩
    replace HS : Aside0 (Sep (fps []) w [b10 g1502 t1499.1 t1499.2.1] w1515) := ⟨HS.out.call hS⟩
    clear hS
    replace HS : Aside0 (Sep (fps []) w [] w1515) := ⟨HS.out.sub (.cons _ .slnil)⟩
    go_wp2_with fail
    go_ret
    rw [← some_eq H]
    exact ⟨(by first | rfl | (simp [IntKind.wrap_u32]; done)), HS.out⟩
  · have H := if_no c1510 H
    have c1510b0 : (t1499.2.2 == 0) = false := beq_eq_false_iff_ne.mpr c1510
    have c1510b1 : (t1499.2.2 != 0) = true := bne_iff_ne.mpr c1510
    clear c1510
    go_wp2_with (first | ((with_reducible refine gate_dst (N := 9) rfl ?_); refine box_on ?hg (N := 9) ?hd (cs := #[.int .i64 0, .int .i64 0]) (t := 142) ?hr ?_; (case hd => rfl); (case hg => rfl); (case hr => first | (go_simp; done) | (go_simp; rfl)); intro g1502 hg w1503 hbox hb; replace HS : Aside0 (Sep (fps []) w [b10 g1502 0 0] w1503) := ⟨HS.out.box hg hbox hb⟩; clear hg hbox hb; have hc1505 : w1503.cell? ⟨g1502, 0, none⟩ = some (.int .i64 0) := blk_cellv (HS.out.at0) 0 rfl; have hz1506 : w1503.frozen? ⟨g1502, 0, none⟩ = false := blk_fz (HS.out.at0) 0; have hc1507 : w1503.cell? ⟨g1502, 1, none⟩ = some (.int .i64 0) := blk_cellv (HS.out.at0) 1 rfl; have hz1508 : w1503.frozen? ⟨g1502, 1, none⟩ = false := blk_fz (HS.out.at0) 1) | ((with_reducible refine gate_store (t := 142) (p := 9) rfl ?_); refine store_event (w1 := (World.setCell (World.setCell w1503 ⟨g1502, 0, none⟩ (.int .i64 t1499.1)) ⟨g1502, 1, none⟩ (.int .i64 t1499.2.1))) rfl (t := 142) (p := 9) rfl rfl ?hr ?_; (case hr => first | (go_simp; done) | (go_simp; rfl)); intro w1509 hst; clear hc1505 hz1506 hc1507 hz1508; have hq0 : Sep (fps []) w [b10 g1502 t1499.1 0] (World.setCell w1503 ⟨g1502, 0, none⟩ (.int .i64 t1499.1)) := (HS.out).set1 (l1 := []) (l2 := []) 0 (.int .i64 t1499.1); have hq1 : Sep (fps []) w [b10 g1502 t1499.1 t1499.2.1] (World.setCell (World.setCell w1503 ⟨g1502, 0, none⟩ (.int .i64 t1499.1)) ⟨g1502, 1, none⟩ (.int .i64 t1499.2.1)) := (hq0).set1 (l1 := []) (l2 := []) 1 (.int .i64 t1499.2.1); replace HS : Aside0 (Sep (fps []) w [b10 g1502 t1499.1 t1499.2.1] w1509) := ⟨by rw [hst]; exact hq1⟩; clear hq0 hq1; clear hst; replace HS : Aside0 (Sep (fps []) w [] w1509) := ⟨HS.out.sub (.cons _ .slnil)⟩))
    go_ret
    rw [← some_eq H]
    exact ⟨(by first | rfl | (simp [IntKind.wrap_u32]; done)), HS.out⟩

set_option maxHeartbeats 30000000 in
set_option maxRecDepth 100000 in
theorem obj_Blocks_nil.calls (k : Nat) (a1524 : Int) (r : Int) (w : World)  (HGl0 : Aside0 (Gl 0 #[.int .i64 0, .int .i64 0, .int .i64 0, .int .i64 0, .int .i64 0] (fps []) w)) (HS : Aside0 (Sep (fps []) w [] w)) (H : Aside0 (obj_Blocks_nil.f k a1524 = some r)) :
    Calls Tryd.prog 45 #[.pointer none, .int .i64 a1524] w fun e w' => e = .returned (.int .i64 r) ∧ Sep (fps []) w [] w' := by
  unfold obj_Blocks_nil.f at H
  go_enter Tryd.func45, Tryd.ntmps45
  go_wp2_with fail
  obtain ⟨t1525, HA1526, H⟩ := bind_some H
  refine (obj_Lens_nil.calls a1524 t1525 _ ⟨HGl0.out.pass (l := []) HS.out⟩ ⟨Sep.start _⟩ HA1526).mono ?_
  rintro e_ w1527 ⟨rfl, hS⟩
  replace HS : Aside0 (Sep (fps []) w [] w1527) := ⟨HS.out.call hS⟩
  clear hS
  by_cases c1528 : t1525.2.2 = 0
  · have H := if_yes c1528 H
    have c1528b0 : (t1525.2.2 == 0) = true := beq_iff_eq.mpr c1528
    have c1528b1 : (t1525.2.2 != 0) = false := bne_eq_false_iff_eq.mpr c1528
    clear c1528
    go_wp2_with fail
    obtain ⟨t1529, HA1530, H⟩ := bind_some H
    refine (ground_Ground_Conf_nil.calls t1529 _ ⟨HGl0.out.pass (l := []) HS.out⟩ ⟨Sep.start _⟩ HA1530).mono ?_
    rintro e_ w1531 ⟨rfl, hS⟩
    replace HS : Aside0 (Sep (fps []) w [] w1531) := ⟨HS.out.call hS⟩
    clear hS
    have fl1532 : ∀ w, (Instr.field 30 (.agg #[.int .i64 t1529.1, .int .i64 t1529.2.1, .int .i64 t1529.2.2.1, .int .i64 t1529.2.2.2]) 1).run Tryd.prog w = .ok (.int .i64 t1529.2.1) w := fun _ => by kernel_rfl
    go_wp2_with fail
    clear fl1532
    obtain ⟨t1533, HA1534, H⟩ := bind_some H
    refine (shape_Blocks.calls _ t1529.2.1 t1525.1 t1525.2.1 t1533 _ ⟨HGl0.out.pass (l := []) HS.out⟩ ⟨Sep.start _⟩ HA1534).mono ?_
    rintro e_ w1535 ⟨rfl, hS⟩
    replace HS : Aside0 (Sep (fps []) w [] w1535) := ⟨HS.out.call hS⟩
    clear hS
    go_wp2_with fail
    go_ret
    rw [← some_eq H]
    exact ⟨(by first | rfl | (simp [IntKind.wrap_u32]; done)), HS.out⟩
  · have H := if_no c1528 H
    have c1528b0 : (t1525.2.2 == 0) = false := beq_eq_false_iff_ne.mpr c1528
    have c1528b1 : (t1525.2.2 != 0) = true := bne_iff_ne.mpr c1528
    clear c1528
    go_wp2_with fail
    go_ret
    rw [← some_eq H]
    exact ⟨(by first | rfl | (simp [IntKind.wrap_u32]; done)), HS.out⟩

set_option maxHeartbeats 30000000 in
set_option maxRecDepth 100000 in
theorem chain_Push_1.calls (a1610 : Int) (a1611 : Int) (a1612 : Int) (a1613 : Int) (a1614 : Int) (a1619 : Int) (g1616 : Nat) (g1618 : Nat) (r : Unit) (w : World)  (HGl0 : Aside0 (Gl 0 #[.int .i64 0, .int .i64 0, .int .i64 0, .int .i64 0, .int .i64 0] (fps [b17 g1616, b11 g1618 a1619]) w)) (HS : Aside0 (Sep (fps [b17 g1616, b11 g1618 a1619]) w [b17 g1616, b11 g1618 a1619] w)) (H : Aside0 (chain_Push_1.f a1610 a1611 a1612 a1613 a1614 a1619 = some r)) :
    Calls Tryd.prog 156 #[.agg #[.int .i64 a1610, .int .i64 a1611, .int .i64 a1612], .int .i64 a1613, .int .i64 a1614, .pointer (some ⟨g1616, 0, none⟩), .pointer (some ⟨g1618, 0, none⟩)] w fun e w' => e = .returned (.tuple #[]) ∧ Sep (fps [b17 g1616, b11 g1618 a1619]) w [b17 g1616, b11 g1618 a1619] w' := by
  generalize (fps [b17 g1616, b11 g1618 a1619]) = FF at HS HGl0 ⊢
  unfold chain_Push_1.f at H
  go_enter Tryd.func156, Tryd.ntmps156
  go_wp2_with (first | ((with_reducible refine gate_dst (N := 5) rfl ?_); refine box_on ?hg (N := 5) ?hd (cs := #[.int .i64 a1610, .int .i64 a1611, .int .i64 a1612]) (t := 166) ?hr ?_; (case hd => rfl); (case hg => rfl); (case hr => first | (go_simp; done) | (go_simp; rfl)); intro g1620 hg w1621 hbox hb; replace HS : Aside0 (Sep FF w [b17 g1616, b11 g1618 a1619, b3 g1620 a1610 a1611 a1612] w1621) := ⟨HS.out.box hg hbox hb⟩; clear hg hbox hb))
  refine start_ (n := 8) (S := (fun w' => w'.cell? ⟨g1616, 0, none⟩ = some (.pointer none) ∧ w'.cell? ⟨g1618, 0, none⟩ = some (.int .i64 a1619) ∧ w'.cell? ⟨g1620, 0, none⟩ = some (.int .i64 a1610))) (ds := []) #[false, false, false, false, false, false, false, false] (by kernel_rfl) rfl rfl (⟨blk_cellv ((HS.out.drew).at0) 0 rfl, blk_cellv ((HS.out.drew).at1) 0 rfl, blk_cellv ((HS.out.drew).at2) 0 rfl⟩) (fun hHeld => ?_)
  have HS_ := Aside0.mk HS.out.drew
  clear HS
  generalize World.drew _ = w1624 at HS_ hHeld ⊢
  have HS := HS_
  clear HS_
  refine pure_ (i := 3) (N := some 11) (v := ?_) (a' := ?_) #[false, false, false, true, false, false, false, false] rfl rfl (by kernel_rfl) (fun _ _ _ h => h) (Or.inl ⟨by rfl, ?_⟩) ?_ ?_
  rotate_left
  · intro w'
    go_simp
    with_reducible rfl
  rotate_left
  · simp only [Act.put, List.setIfInBounds_toArray, List.set_cons_zero, List.set_cons_succ, i64_w, i32_w]
    rfl
  refine take_ (i := 0) (N := some 8) (v := ?_) (a' := ?_) #[true, false, false, true, false, false, false, false] rfl rfl (by kernel_rfl) (fun _ _ _ h => h) (Or.inl ⟨by rfl, ?_⟩) hHeld ?_ ?_
  rotate_left
  · rintro w' hS'
    obtain ⟨s0, s1, s2⟩ := hS'
    go_simp
    with_reducible rfl
  rotate_left
  · simp only [Act.put, List.setIfInBounds_toArray, List.set_cons_zero, List.set_cons_succ, i64_w, i32_w]
    rfl
  refine take_ (i := 1) (N := some 9) (v := ?_) (a' := ?_) #[true, true, false, true, false, false, false, false] rfl rfl (by kernel_rfl) (fun _ _ _ h => h) (Or.inl ⟨by rfl, ?_⟩) hHeld ?_ ?_
  rotate_left
  · rintro w' hS'
    obtain ⟨s0, s1, s2⟩ := hS'
    go_simp
    with_reducible rfl
  rotate_left
  · simp only [Act.put, List.setIfInBounds_toArray, List.set_cons_zero, List.set_cons_succ, i64_w, i32_w]
    rfl
  refine take_ (i := 2) (N := some 10) (v := ?_) (a' := ?_) #[true, true, true, true, false, false, false, false] rfl rfl (by kernel_rfl) (fun _ _ _ h => h) (Or.inl ⟨by rfl, ?_⟩) hHeld ?_ ?_
  rotate_left
  · rintro w' hS'
    obtain ⟨s0, s1, s2⟩ := hS'
    go_simp
    with_reducible rfl
  rotate_left
  · simp only [Act.put, List.setIfInBounds_toArray, List.set_cons_zero, List.set_cons_succ, i64_w, i32_w]
    rfl
  refine take_ (i := 4) (N := some 12) (v := ?_) (a' := ?_) #[true, true, true, true, true, false, false, false] rfl rfl (by kernel_rfl) (fun _ _ _ h => h) (Or.inl ⟨by rfl, ?_⟩) hHeld ?_ ?_
  rotate_left
  · rintro w' hS'
    obtain ⟨s0, s1, s2⟩ := hS'
    go_simp
    with_reducible rfl
  rotate_left
  · simp only [Act.put, List.setIfInBounds_toArray, List.set_cons_zero, List.set_cons_succ, i64_w, i32_w]
    rfl
  refine one_ (i := 5) (N := some 13) #[true, true, true, true, true, true, false, false] rfl rfl (by kernel_rfl) (by decide) (fun K hK => ?_)
  obtain ⟨t1625, HA1626, H⟩ := bind_some H
  refine goes_ Tryd.func81 (by kernel_rfl) rfl #[.pointer none, .int .i64 a1610] (by rfl) rfl rfl (by (try simp only [List.map_toArray, List.map_cons, List.map_nil]); first | done | rfl) ?_
  refine (ground_Ground_Reg_nil.calls a1610 t1625 _ ⟨HGl0.out.pass (l := []) HS.out⟩ ⟨Sep.start _⟩ HA1626).mono ?_
  rintro e_ w1627 ⟨rfl, hS⟩
  replace HS : Aside0 (Sep FF w [b17 g1616, b11 g1618 a1619, b3 g1620 a1610 a1611 a1612] w1627) := ⟨HS.out.call hS⟩
  clear hS
  refine ⟨_, rfl, ?_⟩
  refine hK.out _ _ (⟨blk_cellv (HS.out.at0) 0 rfl, blk_cellv (HS.out.at1) 0 rfl, blk_cellv (HS.out.at2) 0 rfl⟩) (fun hHeld => ?_)
  clear hK K
  refine norm_ (a' := ?_) ?_ ?_
  rotate_left
  · show Act.put _ (some 13) _ = _
    simp only [Act.put, List.setIfInBounds_toArray, List.set_cons_zero, List.set_cons_succ, i64_w, i32_w]
    rfl
  refine pure_ (i := 6) (N := some 14) (v := ?_) (a' := ?_) #[true, true, true, true, true, true, true, false] rfl rfl (by kernel_rfl) (fun _ _ _ h => h) (Or.inl ⟨by rfl, ?_⟩) ?_ ?_
  rotate_left
  · intro w'
    go_simp
    with_reducible rfl
  rotate_left
  · simp only [Act.put, List.setIfInBounds_toArray, List.set_cons_zero, List.set_cons_succ, i64_w, i32_w]
    rfl
  refine one_ (i := 7) (N := some 15) #[true, true, true, true, true, true, true, true] rfl rfl (by kernel_rfl) (by decide) (fun K hK => ?_)
  obtain ⟨t1628, HA1629, H⟩ := bind_some H
  refine goes_ Tryd.func17 (by kernel_rfl) rfl #[.pointer none, .int .i64 a1619, .int .i64 5, .int .u32 ((t1625) % 4294967296)] (by rfl) rfl rfl (by (try simp only [List.map_toArray, List.map_cons, List.map_nil]); first | done | rfl) ?_
  refine (ground_Ground_SetWord_nil.calls a1619 5 ((t1625) % 4294967296) t1628 _ ⟨HGl0.out.pass (l := []) HS.out⟩ ⟨Sep.start _⟩ HA1629).mono ?_
  rintro e_ w1630 ⟨rfl, hS⟩
  replace HS : Aside0 (Sep FF w [b17 g1616, b11 g1618 a1619, b3 g1620 a1610 a1611 a1612] w1630) := ⟨HS.out.call hS⟩
  clear hS
  refine ⟨_, rfl, ?_⟩
  refine hK.out _ _ (⟨blk_cellv (HS.out.at0) 0 rfl, blk_cellv (HS.out.at1) 0 rfl, blk_cellv (HS.out.at2) 0 rfl⟩) (fun hHeld => ?_)
  clear hK K
  refine norm_ (a' := ?_) ?_ ?_
  rotate_left
  · show Act.put _ (some 15) _ = _
    simp only [Act.put, List.setIfInBounds_toArray, List.set_cons_zero, List.set_cons_succ, i64_w, i32_w]
    rfl
  refine done_ (by kernel_rfl) ?_
  have hc1631 : w1630.cell? ⟨g1616, 0, none⟩ = some (.pointer none) := blk_cellv (HS.out.at0) 0 rfl
  have hc1632 : w1630.cell? ⟨g1620, 0, none⟩ = some (.int .i64 a1610) := blk_cellv (HS.out.at2) 0 rfl
  go_wp2_with fail
  clear hc1631 hc1632
  obtain ⟨t1633, HA1634, H⟩ := bind_some H
  refine (ground_Ground_SetReg_nil.calls a1610 a1613 t1633 _ ⟨HGl0.out.pass (l := []) HS.out⟩ ⟨Sep.start _⟩ HA1634).mono ?_
  rintro e_ w1635 ⟨rfl, hS⟩
  replace HS : Aside0 (Sep FF w [b17 g1616, b11 g1618 a1619, b3 g1620 a1610 a1611 a1612] w1635) := ⟨HS.out.call hS⟩
  clear hS
  by_cases c1636 : a1614 = 0
  · have H := if_yes c1636 H
    have c1636b0 : (a1614 == 0) = true := beq_iff_eq.mpr c1636
    have c1636b1 : (a1614 != 0) = false := bne_eq_false_iff_eq.mpr c1636
    clear c1636
    have hc1637 : w1635.cell? ⟨g1616, 0, none⟩ = some (.pointer none) := blk_cellv (HS.out.at0) 0 rfl
    have hc1638 : w1635.cell? ⟨g1620, 1, none⟩ = some (.int .i64 a1611) := blk_cellv (HS.out.at2) 1 rfl
    go_wp2_with fail
    clear hc1637 hc1638
    obtain ⟨t1639, HA1640, H⟩ := bind_some H
    refine (ground_Ground_SetReg_nil.calls a1611 a1613 t1639 _ ⟨HGl0.out.pass (l := []) HS.out⟩ ⟨Sep.start _⟩ HA1640).mono ?_
    rintro e_ w1641 ⟨rfl, hS⟩
    replace HS : Aside0 (Sep FF w [b17 g1616, b11 g1618 a1619, b3 g1620 a1610 a1611 a1612] w1641) := ⟨HS.out.call hS⟩
    clear hS
    replace HS : Aside0 (Sep FF w [b17 g1616, b11 g1618 a1619] w1641) := ⟨HS.out.sub (.cons_cons _ (.cons_cons _ (.cons _ .slnil)))⟩
    go_wp2_with fail
    first | go_end0 | refine bodyPost_ret (results_none rfl _ _ _) rfl ?_
    clear H
    exact ⟨rfl, HS.out⟩
  · have H := if_no c1636 H
    have c1636b0 : (a1614 == 0) = false := beq_eq_false_iff_ne.mpr c1636
    have c1636b1 : (a1614 != 0) = true := bne_iff_ne.mpr c1636
    clear c1636
    go_wp2_with fail
    first | go_end0 | refine bodyPost_ret (results_none rfl _ _ _) rfl ?_
    clear H
    exact ⟨rfl, HS.out.sub (.cons_cons _ (.cons_cons _ (.cons _ .slnil)))⟩

set_option maxHeartbeats 30000000 in
set_option maxRecDepth 100000 in
theorem chain_put_nil_F156.calls (a1576 : Int) (a1577 : Int) (a1582 : Int) (g1579 : Nat) (g1581 : Nat) (r : Bool) (w : World)  (HGl0 : Aside0 (Gl 0 #[.int .i64 0, .int .i64 0, .int .i64 0, .int .i64 0, .int .i64 0] (fps [b17 g1579, b11 g1581 a1582]) w)) (HS : Aside0 (Sep (fps [b17 g1579, b11 g1581 a1582]) w [b17 g1579, b11 g1581 a1582] w)) (H : Aside0 (chain_put_nil_F156.f a1576 a1577 a1582 = some r)) :
    Calls Tryd.prog 142 #[.pointer none, .int .i64 a1576, .int .i64 a1577, .func (.func 156) #[] #[.pointer (some ⟨g1579, 0, none⟩), .pointer (some ⟨g1581, 0, none⟩)]] w fun e w' => e = .returned (.bool r) ∧ Sep (fps [b17 g1579, b11 g1581 a1582]) w [b17 g1579, b11 g1581 a1582] w' := by
  generalize (fps [b17 g1579, b11 g1581 a1582]) = FF at HS HGl0 ⊢
  unfold chain_put_nil_F156.f at H
  go_enter Tryd.func142, Tryd.ntmps142
  go_wp2_with fail
  obtain ⟨t1583, HA1584, H⟩ := bind_some H
  refine (chain_of_nil.calls a1576 t1583 _ ⟨HGl0.out.pass (l := []) HS.out⟩ ⟨Sep.start _⟩ HA1584).mono ?_
  rintro e_ w1585 ⟨rfl, hS⟩
  replace HS : Aside0 (Sep FF w [b17 g1579, b11 g1581 a1582] w1585) := ⟨HS.out.call hS⟩
  clear hS
  by_cases c1596 : t1583.2.2.2 = true
  · have H := if_yes c1596 H
    have c1596b0 : t1583.2.2.2 = true := c1596
    have c1596b1 : (!t1583.2.2.2) = false := by rw [c1596b0]; rfl
    try rw [c1596b1]
    clear c1596
    by_cases c1597 : a1577 < 0
    · have H := if_yes c1597 H
      have c1597b0 : decide (a1577 < 0) = true := decide_eq_true c1597
      clear c1597
      go_wp2_with (first | ((with_reducible refine gate_dst (N := 9) rfl ?_); refine box_on ?hg (N := 9) ?hd (cs := #[.int .i64 0, .int .i64 0, .int .i64 0]) (t := 166) ?hr ?_; (case hd => rfl); (case hg => rfl); (case hr => first | (go_simp; done) | (go_simp; rfl)); intro g1586 hg w1587 hbox hb; replace HS : Aside0 (Sep FF w [b17 g1579, b11 g1581 a1582, b3 g1586 0 0 0] w1587) := ⟨HS.out.box hg hbox hb⟩; clear hg hbox hb; have hc1589 : w1587.cell? ⟨g1586, 0, none⟩ = some (.int .i64 0) := blk_cellv (HS.out.at2) 0 rfl; have hz1590 : w1587.frozen? ⟨g1586, 0, none⟩ = false := blk_fz (HS.out.at2) 0; have hc1591 : w1587.cell? ⟨g1586, 1, none⟩ = some (.int .i64 0) := blk_cellv (HS.out.at2) 1 rfl; have hz1592 : w1587.frozen? ⟨g1586, 1, none⟩ = false := blk_fz (HS.out.at2) 1; have hc1593 : w1587.cell? ⟨g1586, 2, none⟩ = some (.int .i64 0) := blk_cellv (HS.out.at2) 2 rfl; have hz1594 : w1587.frozen? ⟨g1586, 2, none⟩ = false := blk_fz (HS.out.at2) 2) | ((with_reducible refine gate_store (t := 166) (p := 9) rfl ?_); refine store_event (w1 := (World.setCell (World.setCell (World.setCell w1587 ⟨g1586, 0, none⟩ (.int .i64 t1583.1)) ⟨g1586, 1, none⟩ (.int .i64 t1583.2.1)) ⟨g1586, 2, none⟩ (.int .i64 t1583.2.2.1))) rfl (t := 166) (p := 9) rfl rfl ?hr ?_; (case hr => first | (go_simp; done) | (go_simp; rfl)); intro w1595 hst; clear hc1589 hz1590 hc1591 hz1592 hc1593 hz1594; replace HS : Aside0 (Sep FF w [b17 g1579, b11 g1581 a1582, b3 g1586 t1583.1 t1583.2.1 t1583.2.2.1] w1595) := ⟨by rw [hst]; exact HS.out.setAll (l1 := [b17 g1579, b11 g1581 a1582]) (l2 := []) [.int .i64 t1583.1, .int .i64 t1583.2.1, .int .i64 t1583.2.2.1] rfl⟩; clear hst; replace HS : Aside0 (Sep FF w [b17 g1579, b11 g1581 a1582] w1595) := ⟨HS.out.sub (.cons_cons _ (.cons_cons _ (.cons _ .slnil)))⟩))
      go_ret
      rw [← some_eq H]
      exact ⟨(by first | rfl | (simp [IntKind.wrap_u32]; done)), HS.out⟩
    · have H := if_no c1597 H
      have c1597b0 : decide (a1577 < 0) = false := decide_eq_false c1597
      clear c1597
      go_wp2_with (first | ((with_reducible refine gate_dst (N := 9) rfl ?_); refine box_on ?hg (N := 9) ?hd (cs := #[.int .i64 0, .int .i64 0, .int .i64 0]) (t := 166) ?hr ?_; (case hd => rfl); (case hg => rfl); (case hr => first | (go_simp; done) | (go_simp; rfl)); intro g1586 hg w1587 hbox hb; replace HS : Aside0 (Sep FF w [b17 g1579, b11 g1581 a1582, b3 g1586 0 0 0] w1587) := ⟨HS.out.box hg hbox hb⟩; clear hg hbox hb; have hc1589 : w1587.cell? ⟨g1586, 0, none⟩ = some (.int .i64 0) := blk_cellv (HS.out.at2) 0 rfl; have hz1590 : w1587.frozen? ⟨g1586, 0, none⟩ = false := blk_fz (HS.out.at2) 0; have hc1591 : w1587.cell? ⟨g1586, 1, none⟩ = some (.int .i64 0) := blk_cellv (HS.out.at2) 1 rfl; have hz1592 : w1587.frozen? ⟨g1586, 1, none⟩ = false := blk_fz (HS.out.at2) 1; have hc1593 : w1587.cell? ⟨g1586, 2, none⟩ = some (.int .i64 0) := blk_cellv (HS.out.at2) 2 rfl; have hz1594 : w1587.frozen? ⟨g1586, 2, none⟩ = false := blk_fz (HS.out.at2) 2) | ((with_reducible refine gate_store (t := 166) (p := 9) rfl ?_); refine store_event (w1 := (World.setCell (World.setCell (World.setCell w1587 ⟨g1586, 0, none⟩ (.int .i64 t1583.1)) ⟨g1586, 1, none⟩ (.int .i64 t1583.2.1)) ⟨g1586, 2, none⟩ (.int .i64 t1583.2.2.1))) rfl (t := 166) (p := 9) rfl rfl ?hr ?_; (case hr => first | (go_simp; done) | (go_simp; rfl)); intro w1595 hst; clear hc1589 hz1590 hc1591 hz1592 hc1593 hz1594; replace HS : Aside0 (Sep FF w [b17 g1579, b11 g1581 a1582, b3 g1586 t1583.1 t1583.2.1 t1583.2.2.1] w1595) := ⟨by rw [hst]; exact HS.out.setAll (l1 := [b17 g1579, b11 g1581 a1582]) (l2 := []) [.int .i64 t1583.1, .int .i64 t1583.2.1, .int .i64 t1583.2.2.1] rfl⟩; clear hst))
      obtain ⟨t1598, HA1599, H⟩ := bind_some H
      refine (ground_Ground_Conf_nil.calls t1598 _ ⟨HGl0.out.pass (l := []) HS.out⟩ ⟨Sep.start _⟩ HA1599).mono ?_
      rintro e_ w1600 ⟨rfl, hS⟩
      replace HS : Aside0 (Sep FF w [b17 g1579, b11 g1581 a1582, b3 g1586 t1583.1 t1583.2.1 t1583.2.2.1] w1600) := ⟨HS.out.call hS⟩
      clear hS
      by_cases c1602 : a1577 ≥ t1598.1
      · have H := if_yes c1602 H
        have c1602b0 : decide (t1598.1 ≤ a1577) = true := decide_eq_true c1602
        clear c1602
        have fl1601 : ∀ w, (Instr.field 30 (.agg #[.int .i64 t1598.1, .int .i64 t1598.2.1, .int .i64 t1598.2.2.1, .int .i64 t1598.2.2.2]) 0).run Tryd.prog w = .ok (.int .i64 t1598.1) w := fun _ => by kernel_rfl
        replace HS : Aside0 (Sep FF w [b17 g1579, b11 g1581 a1582] w1600) := ⟨HS.out.sub (.cons_cons _ (.cons_cons _ (.cons _ .slnil)))⟩
        go_wp2_with fail
        clear fl1601
        go_ret
        rw [← some_eq H]
        exact ⟨(by first | rfl | (simp [IntKind.wrap_u32]; done)), HS.out⟩
      · have H := if_no c1602 H
        have c1602b0 : decide (t1598.1 ≤ a1577) = false := decide_eq_false c1602
        clear c1602
        have fl1601 : ∀ w, (Instr.field 30 (.agg #[.int .i64 t1598.1, .int .i64 t1598.2.1, .int .i64 t1598.2.2.1, .int .i64 t1598.2.2.2]) 0).run Tryd.prog w = .ok (.int .i64 t1598.1) w := fun _ => by kernel_rfl
        have hc1603 : w1600.cell? ⟨g1586, 2, none⟩ = some (.int .i64 t1583.2.2.1) := blk_cellv (HS.out.at2) 2 rfl
        go_wp2_with fail
        clear fl1601 hc1603
        obtain ⟨t1604, HA1605, H⟩ := bind_some H
        refine (ground_Ground_Reg_nil.calls t1583.2.2.1 t1604 _ ⟨HGl0.out.pass (l := []) HS.out⟩ ⟨Sep.start _⟩ HA1605).mono ?_
        rintro e_ w1606 ⟨rfl, hS⟩
        replace HS : Aside0 (Sep FF w [b17 g1579, b11 g1581 a1582, b3 g1586 t1583.1 t1583.2.1 t1583.2.2.1] w1606) := ⟨HS.out.call hS⟩
        clear hS
        have hc1607 : w1606.cell? ⟨g1586, 0, none⟩ = some (.int .i64 t1583.1) := blk_cellv (HS.out.at2) 0 rfl
        have hc1608 : w1606.cell? ⟨g1586, 1, none⟩ = some (.int .i64 t1583.2.1) := blk_cellv (HS.out.at2) 1 rfl
        have hc1609 : w1606.cell? ⟨g1586, 2, none⟩ = some (.int .i64 t1583.2.2.1) := blk_cellv (HS.out.at2) 2 rfl
        go_wp2_with fail
        clear hc1607 hc1608 hc1609
        obtain ⟨t1642, HA1643, H⟩ := bind_some H
        refine (chain_Push_1.calls t1583.1 t1583.2.1 t1583.2.2.1 (wrap64 (a1577 + 1)) t1604 a1582 g1579 g1581 t1642 _ ⟨HGl0.out.pass HS.out⟩ ⟨HS.out.begin⟩ HA1643).mono ?_
        rintro e_ w1644 ⟨rfl, hS⟩
        replace HS : Aside0 (Sep FF w [b17 g1579, b11 g1581 a1582, b3 g1586 t1583.1 t1583.2.1 t1583.2.2.1] w1644) := ⟨HS.out.call hS⟩
        clear hS
        have hc1645 : w1644.cell? ⟨g1586, 2, none⟩ = some (.int .i64 t1583.2.2.1) := blk_cellv (HS.out.at2) 2 rfl
        go_wp2_with fail
        clear hc1645
        obtain ⟨t1646, HA1647, H⟩ := bind_some H
        refine (ground_Ground_SetReg_nil.calls t1583.2.2.1 (wrap64 (t1604 + 1)) t1646 _ ⟨HGl0.out.pass (l := []) HS.out⟩ ⟨Sep.start _⟩ HA1647).mono ?_
        rintro e_ w1648 ⟨rfl, hS⟩
        replace HS : Aside0 (Sep FF w [b17 g1579, b11 g1581 a1582, b3 g1586 t1583.1 t1583.2.1 t1583.2.2.1] w1648) := ⟨HS.out.call hS⟩
        clear hS
        replace HS : Aside0 (Sep FF w [b17 g1579, b11 g1581 a1582] w1648) := ⟨HS.out.sub (.cons_cons _ (.cons_cons _ (.cons _ .slnil)))⟩
        go_wp2_with fail
        go_ret
        rw [← some_eq H]
        exact ⟨(by first | rfl | (simp [IntKind.wrap_u32]; done)), HS.out⟩
  · have H := if_no c1596 H
    have c1596b0 : t1583.2.2.2 = false := by simpa using c1596
    have c1596b1 : (!t1583.2.2.2) = true := by rw [c1596b0]; rfl
    try rw [c1596b1]
    clear c1596
    go_wp2_with (first | ((with_reducible refine gate_dst (N := 9) rfl ?_); refine box_on ?hg (N := 9) ?hd (cs := #[.int .i64 0, .int .i64 0, .int .i64 0]) (t := 166) ?hr ?_; (case hd => rfl); (case hg => rfl); (case hr => first | (go_simp; done) | (go_simp; rfl)); intro g1586 hg w1587 hbox hb; replace HS : Aside0 (Sep FF w [b17 g1579, b11 g1581 a1582, b3 g1586 0 0 0] w1587) := ⟨HS.out.box hg hbox hb⟩; clear hg hbox hb; have hc1589 : w1587.cell? ⟨g1586, 0, none⟩ = some (.int .i64 0) := blk_cellv (HS.out.at2) 0 rfl; have hz1590 : w1587.frozen? ⟨g1586, 0, none⟩ = false := blk_fz (HS.out.at2) 0; have hc1591 : w1587.cell? ⟨g1586, 1, none⟩ = some (.int .i64 0) := blk_cellv (HS.out.at2) 1 rfl; have hz1592 : w1587.frozen? ⟨g1586, 1, none⟩ = false := blk_fz (HS.out.at2) 1; have hc1593 : w1587.cell? ⟨g1586, 2, none⟩ = some (.int .i64 0) := blk_cellv (HS.out.at2) 2 rfl; have hz1594 : w1587.frozen? ⟨g1586, 2, none⟩ = false := blk_fz (HS.out.at2) 2) | ((with_reducible refine gate_store (t := 166) (p := 9) rfl ?_); refine store_event (w1 := (World.setCell (World.setCell (World.setCell w1587 ⟨g1586, 0, none⟩ (.int .i64 t1583.1)) ⟨g1586, 1, none⟩ (.int .i64 t1583.2.1)) ⟨g1586, 2, none⟩ (.int .i64 t1583.2.2.1))) rfl (t := 166) (p := 9) rfl rfl ?hr ?_; (case hr => first | (go_simp; done) | (go_simp; rfl)); intro w1595 hst; clear hc1589 hz1590 hc1591 hz1592 hc1593 hz1594; replace HS : Aside0 (Sep FF w [b17 g1579, b11 g1581 a1582, b3 g1586 t1583.1 t1583.2.1 t1583.2.2.1] w1595) := ⟨by rw [hst]; exact HS.out.setAll (l1 := [b17 g1579, b11 g1581 a1582]) (l2 := []) [.int .i64 t1583.1, .int .i64 t1583.2.1, .int .i64 t1583.2.2.1] rfl⟩; clear hst; replace HS : Aside0 (Sep FF w [b17 g1579, b11 g1581 a1582] w1595) := ⟨HS.out.sub (.cons_cons _ (.cons_cons _ (.cons _ .slnil)))⟩))
    go_ret
    rw [← some_eq H]
    exact ⟨(by first | rfl | (simp [IntKind.wrap_u32]; done)), HS.out⟩

set_option maxHeartbeats 30000000 in
set_option maxRecDepth 100000 in
theorem chain_Push_nil.calls (a1566 : Int) (a1567 : Int) (r : Bool) (w : World)  (HGl0 : Aside0 (Gl 0 #[.int .i64 0, .int .i64 0, .int .i64 0, .int .i64 0, .int .i64 0] (fps []) w)) (HS : Aside0 (Sep (fps []) w [] w)) (H : Aside0 (chain_Push_nil.f a1566 a1567 = some r)) :
    Calls Tryd.prog 140 #[.pointer none, .int .i64 a1566, .int .i64 a1567] w fun e w' => e = .returned (.bool r) ∧ Sep (fps []) w [] w' := by
  unfold chain_Push_nil.f at H
  go_enter Tryd.func140, Tryd.ntmps140
  go_wp2_with (first | ((with_reducible refine gate_dst (N := 3) rfl ?_); refine box_on ?hg (N := 3) ?hd (cs := #[.pointer none]) (t := 25) ?hr ?_; (case hd => rfl); (case hg => rfl); (case hr => first | (go_simp; done) | (go_simp; rfl)); intro g1568 hg w1569 hbox hb; replace HS : Aside0 (Sep (fps []) w [b17 g1568] w1569) := ⟨HS.out.box hg hbox hb⟩; clear hg hbox hb) | ((with_reducible refine gate_dst (N := 5) rfl ?_); refine box_on ?hg (N := 5) ?hd (cs := #[.int .i64 a1567]) (t := 3) ?hr ?_; (case hd => rfl); (case hg => rfl); (case hr => first | (go_simp; done) | (go_simp; rfl)); intro g1571 hg w1572 hbox hb; replace HS : Aside0 (Sep (fps []) w [b17 g1568, b11 g1571 a1567] w1572) := ⟨HS.out.box hg hbox hb⟩; clear hg hbox hb; have hc1574 : w1572.cell? ⟨g1568, 0, none⟩ = some (.pointer none) := blk_cellv (HS.out.at0) 0 rfl; have hc1575 : w1572.cell? ⟨g1571, 0, none⟩ = some (.int .i64 a1567) := blk_cellv (HS.out.at1) 0 rfl))
  clear hc1574 hc1575
  obtain ⟨t1649, HA1650, H⟩ := bind_some H
  refine (chain_put_nil_F156.calls a1566 a1567 a1567 g1568 g1571 t1649 _ ⟨HGl0.out.pass HS.out⟩ ⟨HS.out.begin⟩ HA1650).mono ?_
  rintro e_ w1651 ⟨rfl, hS⟩
  replace HS : Aside0 (Sep (fps []) w [b17 g1568, b11 g1571 a1567] w1651) := ⟨HS.out.call hS⟩
  clear hS
  replace HS : Aside0 (Sep (fps []) w [] w1651) := ⟨HS.out.sub (.cons _ (.cons _ .slnil))⟩
  go_wp2_with fail
  go_ret
  rw [← some_eq H]
  exact ⟨(by first | rfl | (simp [IntKind.wrap_u32]; done)), HS.out⟩

set_option maxHeartbeats 30000000 in
set_option maxRecDepth 100000 in
theorem pool_Give_nil.calls (a1554 : Int) (r : Bool) (w : World)  (HGl0 : Aside0 (Gl 0 #[.int .i64 0, .int .i64 0, .int .i64 0, .int .i64 0, .int .i64 0] (fps []) w)) (HS : Aside0 (Sep (fps []) w [] w)) (H : Aside0 (pool_Give_nil.f a1554 = some r)) :
    Calls Tryd.prog 106 #[.pointer none, .int .i64 a1554] w fun e w' => e = .returned (.bool r) ∧ Sep (fps []) w [] w' := by
  unfold pool_Give_nil.f at H
  go_enter Tryd.func106, Tryd.ntmps106
  go_wp2_with fail
  obtain ⟨t1555, HA1556, H⟩ := bind_some H
  refine (ground_Ground_Word_nil.calls a1554 0 t1555 _ ⟨HGl0.out.pass (l := []) HS.out⟩ ⟨Sep.start _⟩ HA1556).mono ?_
  rintro e_ w1557 ⟨rfl, hS⟩
  replace HS : Aside0 (Sep (fps []) w [] w1557) := ⟨HS.out.call hS⟩
  clear hS
  go_wp2_with fail
  obtain ⟨t1558, HA1559, H⟩ := bind_some H
  refine (tag_Unpack.calls t1555 t1558 _ ⟨HGl0.out.pass (l := []) HS.out⟩ ⟨Sep.start _⟩ HA1559).mono ?_
  rintro e_ w1560 ⟨rfl, hS⟩
  replace HS : Aside0 (Sep (fps []) w [] w1560) := ⟨HS.out.call hS⟩
  clear hS
  by_cases c1562 : t1558.1 = 0
  · have H := if_yes c1562 H
    have c1562b0 : (t1558.1 == 0) = true := beq_iff_eq.mpr c1562
    have c1562b1 : (t1558.1 != 0) = false := bne_eq_false_iff_eq.mpr c1562
    clear c1562
    have fl1561 : ∀ w, (Instr.field 32 (.agg #[.int .i64 t1558.1, .int .i64 t1558.2.1, .int .i64 t1558.2.2.1, .int .i64 t1558.2.2.2.1, .int .i64 t1558.2.2.2.2.1, .int .i64 t1558.2.2.2.2.2.1, .int .i64 t1558.2.2.2.2.2.2]) 0).run Tryd.prog w = .ok (.int .i64 t1558.1) w := fun _ => by kernel_rfl
    go_wp2_with fail
    clear fl1561
    go_ret
    rw [← some_eq H]
    exact ⟨(by first | rfl | (simp [IntKind.wrap_u32]; done)), HS.out⟩
  · have H := if_no c1562 H
    have c1562b0 : (t1558.1 == 0) = false := beq_eq_false_iff_ne.mpr c1562
    have c1562b1 : (t1558.1 != 0) = true := bne_iff_ne.mpr c1562
    clear c1562
    have fl1561 : ∀ w, (Instr.field 32 (.agg #[.int .i64 t1558.1, .int .i64 t1558.2.1, .int .i64 t1558.2.2.1, .int .i64 t1558.2.2.2.1, .int .i64 t1558.2.2.2.2.1, .int .i64 t1558.2.2.2.2.2.1, .int .i64 t1558.2.2.2.2.2.2]) 0).run Tryd.prog w = .ok (.int .i64 t1558.1) w := fun _ => by kernel_rfl
    go_wp2_with fail
    clear fl1561
    obtain ⟨t1563, HA1564, H⟩ := bind_some H
    refine (ground_Ground_SetWord_nil.calls a1554 0 0 t1563 _ ⟨HGl0.out.pass (l := []) HS.out⟩ ⟨Sep.start _⟩ HA1564).mono ?_
    rintro e_ w1565 ⟨rfl, hS⟩
    replace HS : Aside0 (Sep (fps []) w [] w1565) := ⟨HS.out.call hS⟩
    clear hS
    go_wp2_with fail
    obtain ⟨t1652, HA1653, H⟩ := bind_some H
    refine (chain_Push_nil.calls 0 a1554 t1652 _ ⟨HGl0.out.pass (l := []) HS.out⟩ ⟨Sep.start _⟩ HA1653).mono ?_
    rintro e_ w1654 ⟨rfl, hS⟩
    replace HS : Aside0 (Sep (fps []) w [] w1654) := ⟨HS.out.call hS⟩
    clear hS
    go_wp2_with fail
    go_ret
    rw [← some_eq H]
    exact ⟨(by first | rfl | (simp [IntKind.wrap_u32]; done)), HS.out⟩

set_option maxHeartbeats 30000000 in
set_option maxRecDepth 100000 in
theorem obj_Shed_nil.calls (k : Nat) (a1540 : Int) (a1541 : Int) (r : Bool) (w : World)  (HGl0 : Aside0 (Gl 0 #[.int .i64 0, .int .i64 0, .int .i64 0, .int .i64 0, .int .i64 0] (fps []) w)) (HS : Aside0 (Sep (fps []) w [] w)) (H : Aside0 (obj_Shed_nil.f k a1540 a1541 = some r)) :
    Calls Tryd.prog 46 #[.pointer none, .int .i64 a1540, .int .i64 a1541] w fun e w' => e = .returned (.bool r) ∧ Sep (fps []) w [] w' := by
  unfold obj_Shed_nil.f at H
  go_enter Tryd.func46, Tryd.ntmps46
  by_cases c1542 : a1541 < 0
  · have H := if_yes c1542 H
    have c1542b0 : decide (a1541 < 0) = true := decide_eq_true c1542
    clear c1542
    go_wp2_with fail
    go_ret
    rw [← some_eq H]
    exact ⟨(by first | rfl | (simp [IntKind.wrap_u32]; done)), HS.out⟩
  · have H := if_no c1542 H
    have c1542b0 : decide (a1541 < 0) = false := decide_eq_false c1542
    clear c1542
    go_wp2_with fail
    obtain ⟨t1543, HA1544, H⟩ := bind_some H
    refine (obj_Blocks_nil.calls _ a1540 t1543 _ ⟨HGl0.out.pass (l := []) HS.out⟩ ⟨Sep.start _⟩ HA1544).mono ?_
    rintro e_ w1545 ⟨rfl, hS⟩
    replace HS : Aside0 (Sep (fps []) w [] w1545) := ⟨HS.out.call hS⟩
    clear hS
    by_cases c1546 : a1541 ≥ (wrap64 (t1543 - 1))
    · have H := if_yes c1546 H
      have c1546b0 : decide ((wrap64 (t1543 - 1)) ≤ a1541) = true := decide_eq_true c1546
      clear c1546
      go_wp2_with fail
      go_ret
      rw [← some_eq H]
      exact ⟨(by first | rfl | (simp [IntKind.wrap_u32]; done)), HS.out⟩
    · have H := if_no c1546 H
      have c1546b0 : decide ((wrap64 (t1543 - 1)) ≤ a1541) = false := decide_eq_false c1546
      clear c1546
      go_wp2_with fail
      obtain ⟨t1547, HA1548, H⟩ := bind_some H
      refine (ground_Ground_Word_nil.calls (wrap64 (a1540 - 1)) (wrap64 (8 + a1541)) t1547 _ ⟨HGl0.out.pass (l := []) HS.out⟩ ⟨Sep.start _⟩ HA1548).mono ?_
      rintro e_ w1549 ⟨rfl, hS⟩
      replace HS : Aside0 (Sep (fps []) w [] w1549) := ⟨HS.out.call hS⟩
      clear hS
      by_cases c1550 : (wrap64 (t1547)) = 0
      · have H := if_yes c1550 H
        have c1550b0 : ((wrap64 (t1547)) == 0) = true := beq_iff_eq.mpr c1550
        have c1550b1 : ((wrap64 (t1547)) != 0) = false := bne_eq_false_iff_eq.mpr c1550
        clear c1550
        go_wp2_with fail
        go_ret
        rw [← some_eq H]
        exact ⟨(by first | rfl | (simp [IntKind.wrap_u32]; done)), HS.out⟩
      · have H := if_no c1550 H
        have c1550b0 : ((wrap64 (t1547)) == 0) = false := beq_eq_false_iff_ne.mpr c1550
        have c1550b1 : ((wrap64 (t1547)) != 0) = true := bne_iff_ne.mpr c1550
        clear c1550
        go_wp2_with fail
        obtain ⟨t1551, HA1552, H⟩ := bind_some H
        refine (ground_Ground_SetWord_nil.calls (wrap64 (a1540 - 1)) (wrap64 (8 + a1541)) 0 t1551 _ ⟨HGl0.out.pass (l := []) HS.out⟩ ⟨Sep.start _⟩ HA1552).mono ?_
        rintro e_ w1553 ⟨rfl, hS⟩
        replace HS : Aside0 (Sep (fps []) w [] w1553) := ⟨HS.out.call hS⟩
        clear hS
        go_wp2_with fail
        obtain ⟨t1655, HA1656, H⟩ := bind_some H
        refine (pool_Give_nil.calls (wrap64 ((wrap64 (t1547)) - 1)) t1655 _ ⟨HGl0.out.pass (l := []) HS.out⟩ ⟨Sep.start _⟩ HA1656).mono ?_
        rintro e_ w1657 ⟨rfl, hS⟩
        replace HS : Aside0 (Sep (fps []) w [] w1657) := ⟨HS.out.call hS⟩
        clear hS
        go_wp2_with fail
        go_ret
        rw [← some_eq H]
        exact ⟨(by first | rfl | (simp [IntKind.wrap_u32]; done)), HS.out⟩

set_option maxHeartbeats 30000000 in
set_option maxRecDepth 100000 in
theorem obj_End_nil.calls (a1662 : Int) (r : Bool) (w : World)  (HGl0 : Aside0 (Gl 0 #[.int .i64 0, .int .i64 0, .int .i64 0, .int .i64 0, .int .i64 0] (fps []) w)) (HS : Aside0 (Sep (fps []) w [] w)) (H : Aside0 (obj_End_nil.f a1662 = some r)) :
    Calls Tryd.prog 47 #[.pointer none, .int .i64 a1662] w fun e w' => e = .returned (.bool r) ∧ Sep (fps []) w [] w' := by
  unfold obj_End_nil.f at H
  go_enter Tryd.func47, Tryd.ntmps47
  go_wp2_with fail
  obtain ⟨t1663, HA1664, H⟩ := bind_some H
  refine (obj_Is_nil.calls a1662 t1663 _ ⟨HGl0.out.pass (l := []) HS.out⟩ ⟨Sep.start _⟩ HA1664).mono ?_
  rintro e_ w1665 ⟨rfl, hS⟩
  replace HS : Aside0 (Sep (fps []) w [] w1665) := ⟨HS.out.call hS⟩
  clear hS
  by_cases c1666 : t1663 = true
  · have H := if_yes c1666 H
    have c1666b0 : t1663 = true := c1666
    have c1666b1 : (!t1663) = false := by rw [c1666b0]; rfl
    clear c1666
    go_wp2_with fail
    obtain ⟨t1667, HA1668, H⟩ := bind_some H
    refine (pool_Give_nil.calls (wrap64 (a1662 - 1)) t1667 _ ⟨HGl0.out.pass (l := []) HS.out⟩ ⟨Sep.start _⟩ HA1668).mono ?_
    rintro e_ w1669 ⟨rfl, hS⟩
    replace HS : Aside0 (Sep (fps []) w [] w1669) := ⟨HS.out.call hS⟩
    clear hS
    go_wp2_with fail
    go_ret
    rw [← some_eq H]
    exact ⟨(by first | rfl | (simp [IntKind.wrap_u32]; done)), HS.out⟩
  · have H := if_no c1666 H
    have c1666b0 : t1663 = false := by simpa using c1666
    have c1666b1 : (!t1663) = true := by rw [c1666b0]; rfl
    clear c1666
    go_wp2_with fail
    go_ret
    rw [← some_eq H]
    exact ⟨(by first | rfl | (simp [IntKind.wrap_u32]; done)), HS.out⟩

set_option maxHeartbeats 30000000 in
set_option maxRecDepth 100000 in
theorem plan_within.calls (a1718 : Int) (a1719 : Int) (a1720 : Int) (r : Bool) (w : World)  (HGl0 : Aside0 (Gl 0 #[.int .i64 0, .int .i64 0, .int .i64 0, .int .i64 0, .int .i64 0] (fps []) w)) (HS : Aside0 (Sep (fps []) w [] w)) (H : Aside0 (plan_within.f a1718 a1719 a1720 = some r)) :
    Calls Tryd.prog 147 #[.int .i64 a1718, .int .i64 a1719, .int .i64 a1720] w fun e w' => e = .returned (.bool r) ∧ Sep (fps []) w [] w' := by
  unfold plan_within.f at H
  go_enter Tryd.func147, Tryd.ntmps147
  go_wp2_with fail
  obtain ⟨t1721, HA1722, H⟩ := bind_some H
  refine (ratio_Clamp.calls a1718 a1719 a1720 t1721 _ ⟨HGl0.out.pass (l := []) HS.out⟩ ⟨Sep.start _⟩ HA1722).mono ?_
  rintro e_ w1723 ⟨rfl, hS⟩
  replace HS : Aside0 (Sep (fps []) w [] w1723) := ⟨HS.out.call hS⟩
  clear hS
  go_wp2_with fail
  go_ret
  rw [← some_eq H]
  exact ⟨(by first | rfl | (simp [IntKind.wrap_u32]; done)), HS.out⟩

set_option maxHeartbeats 30000000 in
set_option maxRecDepth 100000 in
theorem plan_Check.calls (a1710 : Int) (a1711 : Int) (a1712 : Int) (a1713 : Int) (r : Int) (w : World)  (HGl0 : Aside0 (Gl 0 #[.int .i64 0, .int .i64 0, .int .i64 0, .int .i64 0, .int .i64 0] (fps []) w)) (HS : Aside0 (Sep (fps []) w [] w)) (H : Aside0 (plan_Check.f a1710 a1711 a1712 a1713 = some r)) :
    Calls Tryd.prog 121 #[.agg #[.int .i64 a1710, .int .i64 a1711, .int .i64 a1712, .int .i64 a1713]] w fun e w' => e = .returned (.int .i64 r) ∧ Sep (fps []) w [] w' := by
  unfold plan_Check.f at H
  go_enter Tryd.func121, Tryd.ntmps121
  go_wp2_with (first | ((with_reducible refine gate_dst (N := 1) rfl ?_); refine box_on ?hg (N := 1) ?hd (cs := #[.int .i64 a1710, .int .i64 a1711, .int .i64 a1712, .int .i64 a1713]) (t := 30) ?hr ?_; (case hd => rfl); (case hg => rfl); (case hr => first | (go_simp; done) | (go_simp; rfl)); intro g1714 hg w1715 hbox hb; replace HS : Aside0 (Sep (fps []) w [b1 g1714 a1710 a1711 a1712 a1713] w1715) := ⟨HS.out.box hg hbox hb⟩; clear hg hbox hb; have hc1717 : w1715.cell? ⟨g1714, 0, none⟩ = some (.int .i64 a1710) := blk_cellv (HS.out.at0) 0 rfl))
  clear hc1717
  obtain ⟨t1724, HA1725, H⟩ := bind_some H
  refine (plan_within.calls a1710 1 1048576 t1724 _ ⟨HGl0.out.pass (l := []) HS.out⟩ ⟨Sep.start _⟩ HA1725).mono ?_
  rintro e_ w1726 ⟨rfl, hS⟩
  replace HS : Aside0 (Sep (fps []) w [b1 g1714 a1710 a1711 a1712 a1713] w1726) := ⟨HS.out.call hS⟩
  clear hS
  by_cases c1727 : t1724 = true
  · have H := if_yes c1727 H
    have c1727b0 : t1724 = true := c1727
    have c1727b1 : (!t1724) = false := by rw [c1727b0]; rfl
    clear c1727
    have hc1728 : w1726.cell? ⟨g1714, 1, none⟩ = some (.int .i64 a1711) := blk_cellv (HS.out.at0) 1 rfl
    go_wp2_with fail
    clear hc1728
    obtain ⟨t1729, HA1730, H⟩ := bind_some H
    refine (plan_within.calls a1711 16 256 t1729 _ ⟨HGl0.out.pass (l := []) HS.out⟩ ⟨Sep.start _⟩ HA1730).mono ?_
    rintro e_ w1731 ⟨rfl, hS⟩
    replace HS : Aside0 (Sep (fps []) w [b1 g1714 a1710 a1711 a1712 a1713] w1731) := ⟨HS.out.call hS⟩
    clear hS
    by_cases c1732 : t1729 = true
    · have H := if_yes c1732 H
      have c1732b0 : t1729 = true := c1732
      have c1732b1 : (!t1729) = false := by rw [c1732b0]; rfl
      clear c1732
      have hc1733 : w1731.cell? ⟨g1714, 2, none⟩ = some (.int .i64 a1712) := blk_cellv (HS.out.at0) 2 rfl
      go_wp2_with fail
      clear hc1733
      obtain ⟨t1734, HA1735, H⟩ := bind_some H
      refine (plan_within.calls a1712 1 4096 t1734 _ ⟨HGl0.out.pass (l := []) HS.out⟩ ⟨Sep.start _⟩ HA1735).mono ?_
      rintro e_ w1736 ⟨rfl, hS⟩
      replace HS : Aside0 (Sep (fps []) w [b1 g1714 a1710 a1711 a1712 a1713] w1736) := ⟨HS.out.call hS⟩
      clear hS
      by_cases c1737 : t1734 = true
      · have H := if_yes c1737 H
        have c1737b0 : t1734 = true := c1737
        have c1737b1 : (!t1734) = false := by rw [c1737b0]; rfl
        clear c1737
        have hc1738 : w1736.cell? ⟨g1714, 3, none⟩ = some (.int .i64 a1713) := blk_cellv (HS.out.at0) 3 rfl
        go_wp2_with fail
        clear hc1738
        obtain ⟨t1739, HA1740, H⟩ := bind_some H
        refine (plan_within.calls a1713 1 65536 t1739 _ ⟨HGl0.out.pass (l := []) HS.out⟩ ⟨Sep.start _⟩ HA1740).mono ?_
        rintro e_ w1741 ⟨rfl, hS⟩
        replace HS : Aside0 (Sep (fps []) w [b1 g1714 a1710 a1711 a1712 a1713] w1741) := ⟨HS.out.call hS⟩
        clear hS
        by_cases c1742 : t1739 = true
        · have H := if_yes c1742 H
          have c1742b0 : t1739 = true := c1742
          have c1742b1 : (!t1739) = false := by rw [c1742b0]; rfl
          clear c1742
          by_cases c1745 : (wrap64 (a1710 * a1711)) ≤ 4194304
          · have H := if_yes c1745 H
            have c1745b0 : decide ((wrap64 (a1710 * a1711)) ≤ 4194304) = true := decide_eq_true c1745
            clear c1745
            have hc1743 : w1741.cell? ⟨g1714, 0, none⟩ = some (.int .i64 a1710) := blk_cellv (HS.out.at0) 0 rfl
            have hc1744 : w1741.cell? ⟨g1714, 1, none⟩ = some (.int .i64 a1711) := blk_cellv (HS.out.at0) 1 rfl
            replace HS : Aside0 (Sep (fps []) w [] w1741) := ⟨HS.out.sub (.cons _ .slnil)⟩
            go_wp2_with fail
            clear hc1743 hc1744
            go_ret
            rw [← some_eq H]
            exact ⟨(by first | rfl | (simp [IntKind.wrap_u32]; done)), HS.out⟩
          · have H := if_no c1745 H
            have c1745b0 : decide ((wrap64 (a1710 * a1711)) ≤ 4194304) = false := decide_eq_false c1745
            clear c1745
            have hc1743 : w1741.cell? ⟨g1714, 0, none⟩ = some (.int .i64 a1710) := blk_cellv (HS.out.at0) 0 rfl
            have hc1744 : w1741.cell? ⟨g1714, 1, none⟩ = some (.int .i64 a1711) := blk_cellv (HS.out.at0) 1 rfl
            replace HS : Aside0 (Sep (fps []) w [] w1741) := ⟨HS.out.sub (.cons _ .slnil)⟩
            go_wp2_with fail
            clear hc1743 hc1744
            go_ret
            rw [← some_eq H]
            exact ⟨(by first | rfl | (simp [IntKind.wrap_u32]; done)), HS.out⟩
        · have H := if_no c1742 H
          have c1742b0 : t1739 = false := by simpa using c1742
          have c1742b1 : (!t1739) = true := by rw [c1742b0]; rfl
          clear c1742
          replace HS : Aside0 (Sep (fps []) w [] w1741) := ⟨HS.out.sub (.cons _ .slnil)⟩
          go_wp2_with fail
          go_ret
          rw [← some_eq H]
          exact ⟨(by first | rfl | (simp [IntKind.wrap_u32]; done)), HS.out⟩
      · have H := if_no c1737 H
        have c1737b0 : t1734 = false := by simpa using c1737
        have c1737b1 : (!t1734) = true := by rw [c1737b0]; rfl
        clear c1737
        replace HS : Aside0 (Sep (fps []) w [] w1736) := ⟨HS.out.sub (.cons _ .slnil)⟩
        go_wp2_with fail
        go_ret
        rw [← some_eq H]
        exact ⟨(by first | rfl | (simp [IntKind.wrap_u32]; done)), HS.out⟩
    · have H := if_no c1732 H
      have c1732b0 : t1729 = false := by simpa using c1732
      have c1732b1 : (!t1729) = true := by rw [c1732b0]; rfl
      clear c1732
      replace HS : Aside0 (Sep (fps []) w [] w1731) := ⟨HS.out.sub (.cons _ .slnil)⟩
      go_wp2_with fail
      go_ret
      rw [← some_eq H]
      exact ⟨(by first | rfl | (simp [IntKind.wrap_u32]; done)), HS.out⟩
  · have H := if_no c1727 H
    have c1727b0 : t1724 = false := by simpa using c1727
    have c1727b1 : (!t1724) = true := by rw [c1727b0]; rfl
    clear c1727
    replace HS : Aside0 (Sep (fps []) w [] w1726) := ⟨HS.out.sub (.cons _ .slnil)⟩
    go_wp2_with fail
    go_ret
    rw [← some_eq H]
    exact ⟨(by first | rfl | (simp [IntKind.wrap_u32]; done)), HS.out⟩

set_option maxHeartbeats 30000000 in
set_option maxRecDepth 100000 in
theorem ratio_zero.calls (a1777 : Int) (r : Bool) (w : World)  (HGl0 : Aside0 (Gl 0 #[.int .i64 0, .int .i64 0, .int .i64 0, .int .i64 0, .int .i64 0] (fps []) w)) (HS : Aside0 (Sep (fps []) w [] w)) (H : Aside0 (ratio_zero.f a1777 = some r)) :
    Calls Tryd.prog 150 #[.int .i64 a1777] w fun e w' => e = .returned (.bool r) ∧ Sep (fps []) w [] w' := by
  unfold ratio_zero.f at H
  go_enter Tryd.func150, Tryd.ntmps150
  go_wp2_with fail
  obtain ⟨t1778, HA1779, H⟩ := bind_some H
  refine (ratio_counts.calls a1777 t1778 _ ⟨HGl0.out.pass (l := []) HS.out⟩ ⟨Sep.start _⟩ HA1779).mono ?_
  rintro e_ w1780 ⟨rfl, hS⟩
  replace HS : Aside0 (Sep (fps []) w [] w1780) := ⟨HS.out.call hS⟩
  clear hS
  go_wp2_with fail
  go_ret
  rw [← some_eq H]
  exact ⟨(by first | rfl | (simp [IntKind.wrap_u32]; done)), HS.out⟩

set_option maxHeartbeats 30000000 in
set_option maxRecDepth 100000 in
theorem slices_IndexFunc_int_int_F150.calls (k : Nat) (l1763 : List Int) (A1764 : Option Addr) (n1765 : Nat) (r : Int) (w : World) (HR1766 : Aside0 (Rd (Kd.int .i64) (fps []) w A1764 l1763.length l1763)) (HGl0 : Aside0 (Gl 0 #[.int .i64 0, .int .i64 0, .int .i64 0, .int .i64 0, .int .i64 0] (fps []) w)) (HS : Aside0 (Sep (fps []) w [] w)) (H : Aside0 (slices_IndexFunc_int_int_F150.f k l1763 = some r)) :
    Calls Tryd.prog 158 #[.slice A1764 l1763.length n1765, .func (.func 150) #[] #[]] w fun e w' => e = .returned (.int .i64 r) ∧ Sep (fps []) w [] w' := by
  unfold slices_IndexFunc_int_int_F150.f at H
  go_enter Tryd.func158, Tryd.ntmps158
  go_wp2_with fail
  obtain ⟨o1785, AL1786, H⟩ := bind_some H
  go_loopg [8] k (fun kq v8 wc => ∃ (x1789 : Int), v8 = .int .i64 x1789 ∧ Aside0 (slices_IndexFunc_int_int_F150.lo0 kq l1763 x1789 = some o1785) ∧ Aside0 (Sep (fps []) w [] wc))
  case atStart => exact ⟨(0), (by first | rfl | (simp [IntKind.wrap_u32]; done)), AL1786, ⟨HS.out⟩⟩
  case round =>
    clear AL1786 HS
    obtain ⟨x1789, rfl, AL1786, HS⟩ := hrel
    obtain ⟨w1787, rfl⟩ : ∃ x : World, x = wr := ⟨_, rfl⟩
    cases gk with
    | zero => exact absurd AL1786.out (by simp [slices_IndexFunc_int_int_F150.lo0])
    | succ k1788 =>
      have AL0 := AL1786.out
      rw [slices_IndexFunc_int_int_F150.lo0] at AL0
      clear AL1786
      have AL1786 := Aside0.mk AL0
      clear AL0
      by_cases c1790 : x1789 < (l1763.length : Int)
      · have AL1786 := if_yes c1790 AL1786
        have c1790b0 : decide (x1789 < (l1763.length : Int)) = true := decide_eq_true c1790
        clear c1790
        by_cases c1791 : 0 ≤ x1789
        · have AL1786 := if_yes c1791 AL1786
          have c1791b0 : decide (0 ≤ x1789) = true := decide_eq_true c1791
          have c1791p : (0 ≤ x1789) = True := eq_true c1791
          clear c1791
          have ip1792 : (x1789 < (l1763.length : Int)) = True := eq_true (of_decide_eq_true c1790b0)
          obtain ⟨hx1793a, hx1793e, hx1793⟩ := Kd.at_int (Rd.read (fun _ _ _ _ h => h) HR1766.out HS.out.fr) x1789 (of_decide_eq_true c1791b0) (of_decide_eq_true c1790b0); cases hx1793e
          go_wp2_with fail
          clear hx1793
          obtain ⟨t1781, HA1794, AL1786⟩ := bind_some AL1786
          refine (ratio_zero.calls (rd l1763 x1789) t1781 _ ⟨HGl0.out.pass (l := []) HS.out⟩ ⟨Sep.start _⟩ HA1794).mono ?_
          rintro e_ w1795 ⟨rfl, hS⟩
          replace HS : Aside0 (Sep (fps []) w [] w1795) := ⟨HS.out.call hS⟩
          clear hS
          by_cases c1796 : t1781 = true
          · have AL1786 := if_yes c1796 AL1786
            have c1796b0 : t1781 = true := c1796
            have c1796b1 : (!t1781) = false := by rw [c1796b0]; rfl
            clear c1796
            go_wp2_with fail
            have ho := some_eq AL1786
            subst ho
            have H := lp_ret H
            go_ret
            rw [← some_eq H]
            exact ⟨(by first | rfl | (simp [IntKind.wrap_u32]; done)), HS.out⟩
          · have AL1786 := if_no c1796 AL1786
            have c1796b0 : t1781 = false := by simpa using c1796
            have c1796b1 : (!t1781) = true := by rw [c1796b0]; rfl
            clear c1796
            go_wp2_with fail
            go_roundg k1788
            case measure => exact Nat.lt_succ_self _
            case rel => exact ⟨(wrap64 (x1789 + 1)), (by first | rfl | (simp [IntKind.wrap_u32]; done)), Aside0.mk AL1786.out, ⟨HS.out⟩⟩
        · have AL1786 := if_no c1791 AL1786
          have c1791b0 : decide (0 ≤ x1789) = false := decide_eq_false c1791
          clear c1791
          exact (none_no AL1786).elim
      · have AL1786 := if_no c1790 AL1786
        have c1790b0 : decide (x1789 < (l1763.length : Int)) = false := decide_eq_false c1790
        clear c1790
        have ho := some_eq AL1786
        subst ho
        clear AL1786
        have H := lp_out H
        go_wp2_with fail
        go_ret
        rw [← some_eq H]
        exact ⟨(by first | rfl | (simp [IntKind.wrap_u32]; done)), HS.out⟩

set_option maxHeartbeats 30000000 in
set_option maxRecDepth 100000 in
theorem slices_ContainsFunc_int_int_F150.calls (k : Nat) (l1759 : List Int) (A1760 : Option Addr) (n1761 : Nat) (r : Bool) (w : World) (HR1762 : Aside0 (Rd (Kd.int .i64) (fps []) w A1760 l1759.length l1759)) (HGl0 : Aside0 (Gl 0 #[.int .i64 0, .int .i64 0, .int .i64 0, .int .i64 0, .int .i64 0] (fps []) w)) (HS : Aside0 (Sep (fps []) w [] w)) (H : Aside0 (slices_ContainsFunc_int_int_F150.f k l1759 = some r)) :
    Calls Tryd.prog 149 #[.slice A1760 l1759.length n1761, .func (.func 150) #[] #[]] w fun e w' => e = .returned (.bool r) ∧ Sep (fps []) w [] w' := by
  unfold slices_ContainsFunc_int_int_F150.f at H
  go_enter Tryd.func149, Tryd.ntmps149
  go_wp2_with fail
  obtain ⟨t1798, HA1799, H⟩ := bind_some H
  refine (slices_IndexFunc_int_int_F150.calls _ l1759 A1760 n1761 t1798 _ ⟨Rd.pass (l := []) (by decide) (fun _ _ _ _ h => h) HR1762.out HS.out⟩ ⟨HGl0.out.pass (l := []) HS.out⟩ ⟨Sep.start _⟩ HA1799).mono ?_
  rintro e_ w1800 ⟨rfl, hS⟩
  replace HS : Aside0 (Sep (fps []) w [] w1800) := ⟨HS.out.call hS⟩
  clear hS
  go_wp2_with fail
  go_ret
  rw [← some_eq H]
  exact ⟨(by first | rfl | (simp [IntKind.wrap_u32]; done)), HS.out⟩

set_option maxHeartbeats 30000000 in
set_option maxRecDepth 100000 in
theorem ratio_Mul.calls (k : Nat) (l1755 : List Int) (A1756 : Option Addr) (n1757 : Nat) (r : Int) (w : World) (HR1758 : Aside0 (Rd (Kd.int .i64) (fps []) w A1756 l1755.length l1755)) (HGl0 : Aside0 (Gl 0 #[.int .i64 0, .int .i64 0, .int .i64 0, .int .i64 0, .int .i64 0] (fps []) w)) (HS : Aside0 (Sep (fps []) w [] w)) (H : Aside0 (ratio_Mul.f k l1755 = some r)) :
    Calls Tryd.prog 123 #[.slice A1756 l1755.length n1757] w fun e w' => e = .returned (.int .i64 r) ∧ Sep (fps []) w [] w' := by
  unfold ratio_Mul.f at H
  go_enter Tryd.func123, Tryd.ntmps123
  go_wp2_with fail
  obtain ⟨t1801, HA1802, H⟩ := bind_some H
  refine (slices_ContainsFunc_int_int_F150.calls _ l1755 A1756 n1757 t1801 _ ⟨Rd.pass (l := []) (by decide) (fun _ _ _ _ h => h) HR1758.out HS.out⟩ ⟨HGl0.out.pass (l := []) HS.out⟩ ⟨Sep.start _⟩ HA1802).mono ?_
  rintro e_ w1803 ⟨rfl, hS⟩
  replace HS : Aside0 (Sep (fps []) w [] w1803) := ⟨HS.out.call hS⟩
  clear hS
  by_cases c1804 : t1801 = true
  · have H := if_yes c1804 H
    have c1804b0 : t1801 = true := c1804
    have c1804b1 : (!t1801) = false := by rw [c1804b0]; rfl
    clear c1804
    go_wp2_with fail
    go_ret
    rw [← some_eq H]
    exact ⟨(by first | rfl | (simp [IntKind.wrap_u32]; done)), HS.out⟩
  · have H := if_no c1804 H
    have c1804b0 : t1801 = false := by simpa using c1804
    have c1804b1 : (!t1801) = true := by rw [c1804b0]; rfl
    clear c1804
    go_wp2_with fail
    obtain ⟨o1806, AL1807, H⟩ := bind_some H
    go_loopg [3, 11] k (fun kq v3 v11 wc => ∃ (x1810 : Int) (x1811 : Int), v3 = .int .i64 x1810 ∧ v11 = .int .i64 x1811 ∧ Aside0 (ratio_Mul.lo0 kq l1755 x1810 x1811 = some o1806) ∧ Aside0 (Sep (fps []) w [] wc))
    case atStart => exact ⟨(1), (0), (by first | rfl | (simp [IntKind.wrap_u32]; done)), (by first | rfl | (simp [IntKind.wrap_u32]; done)), AL1807, ⟨HS.out⟩⟩
    case round =>
      clear AL1807 HS
      obtain ⟨x1810, x1811, rfl, rfl, AL1807, HS⟩ := hrel
      obtain ⟨w1808, rfl⟩ : ∃ x : World, x = wr := ⟨_, rfl⟩
      cases gk with
      | zero => exact absurd AL1807.out (by simp [ratio_Mul.lo0])
      | succ k1809 =>
        have AL0 := AL1807.out
        rw [ratio_Mul.lo0] at AL0
        clear AL1807
        have AL1807 := Aside0.mk AL0
        clear AL0
        by_cases c1812 : x1811 < (l1755.length : Int)
        · have AL1807 := if_yes c1812 AL1807
          have c1812b0 : decide (x1811 < (l1755.length : Int)) = true := decide_eq_true c1812
          clear c1812
          by_cases c1813 : 0 ≤ x1811
          · have AL1807 := if_yes c1813 AL1807
            have c1813b0 : decide (0 ≤ x1811) = true := decide_eq_true c1813
            have c1813p : (0 ≤ x1811) = True := eq_true c1813
            clear c1813
            have ip1814 : (x1811 < (l1755.length : Int)) = True := eq_true (of_decide_eq_true c1812b0)
            obtain ⟨hx1815a, hx1815e, hx1815⟩ := Kd.at_int (Rd.read (fun _ _ _ _ h => h) HR1758.out HS.out.fr) x1811 (of_decide_eq_true c1813b0) (of_decide_eq_true c1812b0); cases hx1815e
            go_wp2_with fail
            clear hx1815
            obtain ⟨t1816, HA1817, AL1807⟩ := bind_some AL1807
            refine (ratio_counts.calls (rd l1755 x1811) t1816 _ ⟨HGl0.out.pass (l := []) HS.out⟩ ⟨Sep.start _⟩ HA1817).mono ?_
            rintro e_ w1818 ⟨rfl, hS⟩
            replace HS : Aside0 (Sep (fps []) w [] w1818) := ⟨HS.out.call hS⟩
            clear hS
            by_cases c1819 : t1816 = 0
            · have AL1807 := if_yes c1819 AL1807
              have c1819b0 : (t1816 == 0) = true := beq_iff_eq.mpr c1819
              have c1819b1 : (t1816 != 0) = false := bne_eq_false_iff_eq.mpr c1819
              exact (none_no AL1807).elim
            · have AL1807 := if_no c1819 AL1807
              have c1819b0 : (t1816 == 0) = false := beq_eq_false_iff_ne.mpr c1819
              have c1819b1 : (t1816 != 0) = true := bne_iff_ne.mpr c1819
              by_cases c1820 : x1810 ≤ (wrap64 (Int.tdiv (1125899906842624 : Int) t1816))
              · have AL1807 := if_yes c1820 AL1807
                have c1820b0 : decide (x1810 ≤ (wrap64 (Int.tdiv (1125899906842624 : Int) t1816))) = true := decide_eq_true c1820
                clear c1820
                skip
                go_wp2_with fail
                clear c1819
                go_roundg k1809
                case measure => exact Nat.lt_succ_self _
                case rel => exact ⟨(wrap64 (x1810 * t1816)), (wrap64 (x1811 + 1)), (by first | rfl | (simp [IntKind.wrap_u32]; done)), (by first | rfl | (simp [IntKind.wrap_u32]; done)), Aside0.mk AL1807.out, ⟨HS.out⟩⟩
              · have AL1807 := if_no c1820 AL1807
                have c1820b0 : decide (x1810 ≤ (wrap64 (Int.tdiv (1125899906842624 : Int) t1816))) = false := decide_eq_false c1820
                clear c1820
                skip
                go_wp2_with fail
                clear c1819
                go_roundg k1809
                case measure => exact Nat.lt_succ_self _
                case rel => exact ⟨(1125899906842624), (wrap64 (x1811 + 1)), (by first | rfl | (simp [IntKind.wrap_u32]; done)), (by first | rfl | (simp [IntKind.wrap_u32]; done)), Aside0.mk AL1807.out, ⟨HS.out⟩⟩
          · have AL1807 := if_no c1813 AL1807
            have c1813b0 : decide (0 ≤ x1811) = false := decide_eq_false c1813
            clear c1813
            exact (none_no AL1807).elim
        · have AL1807 := if_no c1812 AL1807
          have c1812b0 : decide (x1811 < (l1755.length : Int)) = false := decide_eq_false c1812
          clear c1812
          have ho := some_eq AL1807
          subst ho
          clear AL1807
          go_wp2_with fail
          go_ret
          rw [← some_eq H]
          exact ⟨(by first | rfl | (simp [IntKind.wrap_u32]; done)), HS.out⟩

set_option maxHeartbeats 30000000 in
set_option maxRecDepth 100000 in
theorem ratio_Add.calls (k : Nat) (l1828 : List Int) (A1829 : Option Addr) (n1830 : Nat) (r : Int) (w : World) (HR1831 : Aside0 (Rd (Kd.int .i64) (fps []) w A1829 l1828.length l1828)) (HGl0 : Aside0 (Gl 0 #[.int .i64 0, .int .i64 0, .int .i64 0, .int .i64 0, .int .i64 0] (fps []) w)) (HS : Aside0 (Sep (fps []) w [] w)) (H : Aside0 (ratio_Add.f k l1828 = some r)) :
    Calls Tryd.prog 122 #[.slice A1829 l1828.length n1830] w fun e w' => e = .returned (.int .i64 r) ∧ Sep (fps []) w [] w' := by
  unfold ratio_Add.f at H
  go_enter Tryd.func122, Tryd.ntmps122
  go_wp2_with fail
  obtain ⟨o1833, AL1834, H⟩ := bind_some H
  go_loopg [3, 8] k (fun kq v3 v8 wc => ∃ (x1837 : Int) (x1838 : Int), v3 = .int .i64 x1837 ∧ v8 = .int .i64 x1838 ∧ Aside0 (ratio_Add.lo0 kq l1828 x1837 x1838 = some o1833) ∧ Aside0 (Sep (fps []) w [] wc))
  case atStart => exact ⟨(0), (0), (by first | rfl | (simp [IntKind.wrap_u32]; done)), (by first | rfl | (simp [IntKind.wrap_u32]; done)), AL1834, ⟨HS.out⟩⟩
  case round =>
    clear AL1834 HS
    obtain ⟨x1837, x1838, rfl, rfl, AL1834, HS⟩ := hrel
    obtain ⟨w1835, rfl⟩ : ∃ x : World, x = wr := ⟨_, rfl⟩
    cases gk with
    | zero => exact absurd AL1834.out (by simp [ratio_Add.lo0])
    | succ k1836 =>
      have AL0 := AL1834.out
      rw [ratio_Add.lo0] at AL0
      clear AL1834
      have AL1834 := Aside0.mk AL0
      clear AL0
      by_cases c1839 : x1838 < (l1828.length : Int)
      · have AL1834 := if_yes c1839 AL1834
        have c1839b0 : decide (x1838 < (l1828.length : Int)) = true := decide_eq_true c1839
        clear c1839
        by_cases c1840 : 0 ≤ x1838
        · have AL1834 := if_yes c1840 AL1834
          have c1840b0 : decide (0 ≤ x1838) = true := decide_eq_true c1840
          have c1840p : (0 ≤ x1838) = True := eq_true c1840
          clear c1840
          have ip1841 : (x1838 < (l1828.length : Int)) = True := eq_true (of_decide_eq_true c1839b0)
          obtain ⟨hx1842a, hx1842e, hx1842⟩ := Kd.at_int (Rd.read (fun _ _ _ _ h => h) HR1831.out HS.out.fr) x1838 (of_decide_eq_true c1840b0) (of_decide_eq_true c1839b0); cases hx1842e
          go_wp2_with fail
          clear hx1842
          obtain ⟨t1843, HA1844, AL1834⟩ := bind_some AL1834
          refine (ratio_counts.calls (rd l1828 x1838) t1843 _ ⟨HGl0.out.pass (l := []) HS.out⟩ ⟨Sep.start _⟩ HA1844).mono ?_
          rintro e_ w1845 ⟨rfl, hS⟩
          replace HS : Aside0 (Sep (fps []) w [] w1845) := ⟨HS.out.call hS⟩
          clear hS
          by_cases c1846 : 1125899906842624 < (wrap64 (x1837 + t1843))
          · have AL1834 := if_yes c1846 AL1834
            have c1846b0 : decide (1125899906842624 < (wrap64 (x1837 + t1843))) = true := decide_eq_true c1846
            skip
            go_wp2_with fail
            clear c1846
            go_roundg k1836
            case measure => exact Nat.lt_succ_self _
            case rel => exact ⟨(1125899906842624), (wrap64 (x1838 + 1)), (by first | rfl | (simp [IntKind.wrap_u32]; done)), (by first | rfl | (simp [IntKind.wrap_u32]; done)), Aside0.mk AL1834.out, ⟨HS.out⟩⟩
          · have AL1834 := if_no c1846 AL1834
            have c1846b0 : decide (1125899906842624 < (wrap64 (x1837 + t1843))) = false := decide_eq_false c1846
            skip
            go_wp2_with fail
            clear c1846
            go_roundg k1836
            case measure => exact Nat.lt_succ_self _
            case rel => exact ⟨(wrap64 (x1837 + t1843)), (wrap64 (x1838 + 1)), (by first | rfl | (simp [IntKind.wrap_u32]; done)), (by first | rfl | (simp [IntKind.wrap_u32]; done)), Aside0.mk AL1834.out, ⟨HS.out⟩⟩
        · have AL1834 := if_no c1840 AL1834
          have c1840b0 : decide (0 ≤ x1838) = false := decide_eq_false c1840
          clear c1840
          exact (none_no AL1834).elim
      · have AL1834 := if_no c1839 AL1834
        have c1839b0 : decide (x1838 < (l1828.length : Int)) = false := decide_eq_false c1839
        clear c1839
        have ho := some_eq AL1834
        subst ho
        clear AL1834
        go_wp2_with fail
        go_ret
        rw [← some_eq H]
        exact ⟨(by first | rfl | (simp [IntKind.wrap_u32]; done)), HS.out⟩
end Go.Proofs.YtobeonkddamnoaaDoor.C

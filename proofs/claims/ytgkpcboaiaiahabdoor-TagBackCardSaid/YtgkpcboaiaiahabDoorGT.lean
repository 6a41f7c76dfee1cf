/- Each function of the group T does what its plain function says, and changes nothing that was there; proved by walking its code. No condition. -/
import Derived.Test.YtgkpcboaiaiahabDoorQw
import Derived.Test.YtgkpcboaiaiahabDoorMT
import Derived.Test.YtgkpcboaiaiahabDoorGT0
namespace Go.Proofs.YtgkpcboaiaiahabDoor.C
open Go.RowKit Go.Proofs.YtgkpcboaiaiahabDoorW.PrintWords Go.Proofs.YtgkpcboaiaiahabDoorW.PrintLast Go.Proofs.YtgkpcboaiaiahabDoorW.PrintMore Go.Proofs.YtgkpcboaiaiahabDoor.Q Go.Proofs.YtgkpcboaiaiahabDoor.M
set_option linter.unusedVariables false
set_option linter.unusedSimpArgs false
set_option maxHeartbeats 30000000 in
set_option maxRecDepth 100000 in
theorem quitrentlaw06_TagBack.calls (k : Nat) (a558 : Int) (a559 : Int) (a560 : Int) (a561 : Int) (a562 : Int) (a563 : Int) (a564 : Int) (a565 : Int) (r : Bool) (w : World)  (HGl0 : Aside0 (Gl 0 #[.int .i64 0, .int .i64 0, .int .i64 0, .int .i64 0, .int .i64 0] (fps []) w)) (HGl1 : Aside0 (Gl 1 #[.string (⟨#[102, 114, 101, 101]⟩), .string (⟨#[115, 109, 97, 108, 108]⟩), .string (⟨#[115, 112, 105, 110, 101]⟩), .string (⟨#[108, 101, 97, 102]⟩)] (fps []) w)) (HS : Aside0 (Sep (fps []) w [] w)) (H : Aside0 (quitrentlaw06_TagBack.f k a558 a559 a560 a561 a562 a563 a564 a565 = some r)) :
    Calls Tryd.prog 7 #[.agg #[.int .i64 a558, .int .i64 a559, .int .i64 a560, .int .i64 a561, .int .i64 a562, .int .i64 a563, .int .i64 a564], .int .u32 a565] w fun e w' => e = .returned (.bool r) ∧ Sep (fps []) w [] w' := by
  unfold quitrentlaw06_TagBack.f at H
  go_enter Tryd.func7, Tryd.ntmps7
  go_wp2_with (first | ((with_reducible refine gate_dst (N := 2) rfl ?_); refine box_on ?hg (N := 2) ?hd (cs := #[.int .i64 a558, .int .i64 a559, .int .i64 a560, .int .i64 a561, .int .i64 a562, .int .i64 a563, .int .i64 a564]) (t := 23) ?hr ?_; (case hd => rfl); (case hg => rfl); (case hr => first | (go_simp; done) | (go_simp; rfl)); intro g566 hg w567 hbox hb; replace HS : Aside0 (Sep (fps []) w [b1 g566 a558 a559 a560 a561 a562 a563 a564] w567) := ⟨HS.out.box hg hbox hb⟩; clear hg hbox hb; have hc569 : w567.cell? ⟨g566, 0, none⟩ = some (.int .i64 a558) := blk_cellv (HS.out.at0) 0 rfl; have hc570 : w567.cell? ⟨g566, 1, none⟩ = some (.int .i64 a559) := blk_cellv (HS.out.at0) 1 rfl; have hc571 : w567.cell? ⟨g566, 2, none⟩ = some (.int .i64 a560) := blk_cellv (HS.out.at0) 2 rfl; have hc572 : w567.cell? ⟨g566, 3, none⟩ = some (.int .i64 a561) := blk_cellv (HS.out.at0) 3 rfl; have hc573 : w567.cell? ⟨g566, 4, none⟩ = some (.int .i64 a562) := blk_cellv (HS.out.at0) 4 rfl; have hc574 : w567.cell? ⟨g566, 5, none⟩ = some (.int .i64 a563) := blk_cellv (HS.out.at0) 5 rfl; have hc575 : w567.cell? ⟨g566, 6, none⟩ = some (.int .i64 a564) := blk_cellv (HS.out.at0) 6 rfl))
  clear hc569 hc570 hc571 hc572 hc573 hc574 hc575
  obtain ⟨t576, HA577, H⟩ := bind_some H
  refine (tag_Pack.calls _ a558 a559 a560 a561 a562 a563 a564 t576 _ ⟨Gl.pass (l := []) (rest := [b1 g566 a558 a559 a560 a561 a562 a563 a564]) HGl0.out HS.out⟩ ⟨Gl.pass (l := []) (rest := [b1 g566 a558 a559 a560 a561 a562 a563 a564]) HGl1.out HS.out⟩ ⟨HS.out.begin (l := []) (rest := [b1 g566 a558 a559 a560 a561 a562 a563 a564])⟩ HA577).mono ?_
  rintro e_ w578 ⟨rfl, hS⟩
  replace HS : Aside0 (Sep (fps []) w [b1 g566 a558 a559 a560 a561 a562 a563 a564] w578) := ⟨HS.out.call (l := []) (rest := [b1 g566 a558 a559 a560 a561 a562 a563 a564]) hS⟩
  clear hS
  go_wp2_with fail
  refine start_ (n := 8) (S := (fun w' => w'.cell? ⟨g566, 0, none⟩ = some (.int .i64 a558) ∧ w'.cell? ⟨g566, 1, none⟩ = some (.int .i64 a559) ∧ w'.cell? ⟨g566, 2, none⟩ = some (.int .i64 a560) ∧ w'.cell? ⟨g566, 3, none⟩ = some (.int .i64 a561) ∧ w'.cell? ⟨g566, 4, none⟩ = some (.int .i64 a562) ∧ w'.cell? ⟨g566, 5, none⟩ = some (.int .i64 a563) ∧ w'.cell? ⟨g566, 6, none⟩ = some (.int .i64 a564))) (ds := []) #[false, false, false, false, false, false, false, false] (by kernel_rfl) rfl rfl (⟨blk_cellv ((HS.out.drew).at0) 0 rfl, blk_cellv ((HS.out.drew).at0) 1 rfl, blk_cellv ((HS.out.drew).at0) 2 rfl, blk_cellv ((HS.out.drew).at0) 3 rfl, blk_cellv ((HS.out.drew).at0) 4 rfl, blk_cellv ((HS.out.drew).at0) 5 rfl, blk_cellv ((HS.out.drew).at0) 6 rfl⟩) (fun hHeld => ?_)
  have HS_ := Aside0.mk HS.out.drew
  clear HS
  generalize World.drew _ = w580 at HS_ hHeld ⊢
  have HS := HS_
  clear HS_
  refine pure_ (i := 0) (N := some 15) (v := ?_) (a' := ?_) #[true, false, false, false, false, false, false, false] rfl rfl (by kernel_rfl) (fun _ _ _ h => h) (Or.inl ⟨by rfl, ?_⟩) ?_ ?_
  rotate_left
  · intro w'
    go_simp
    with_reducible rfl
  rotate_left
  · simp only [Act.put, List.setIfInBounds_toArray, List.set_cons_zero, List.set_cons_succ, i64_w, i32_w]
    rfl
  refine pure_ (i := 1) (N := some 16) (v := ?_) (a' := ?_) #[true, true, false, false, false, false, false, false] rfl rfl (by kernel_rfl) (fun _ _ _ h => h) (Or.inl ⟨by rfl, ?_⟩) ?_ ?_
  rotate_left
  · intro w'
    go_simp
    with_reducible rfl
  rotate_left
  · simp only [Act.put, List.setIfInBounds_toArray, List.set_cons_zero, List.set_cons_succ, i64_w, i32_w]
    rfl
  refine pure_ (i := 2) (N := some 17) (v := ?_) (a' := ?_) #[true, true, true, false, false, false, false, false] rfl rfl (by kernel_rfl) (fun _ _ _ h => h) (Or.inl ⟨by rfl, ?_⟩) ?_ ?_
  rotate_left
  · intro w'
    go_simp
    with_reducible rfl
  rotate_left
  · simp only [Act.put, List.setIfInBounds_toArray, List.set_cons_zero, List.set_cons_succ, i64_w, i32_w]
    rfl
  by_cases c581 : t576.2 = 0
  · have H := if_yes c581 H
    have c581b0 : (t576.2 == 0) = true := beq_iff_eq.mpr c581
    have c581b1 : (t576.2 != 0) = false := bne_eq_false_iff_eq.mpr c581
    clear c581
    try simp only [c581b0, Bool.not_true, Bool.not_false]
    refine pure_ (i := 3) (N := some 18) (v := ?_) (a' := ?_) #[true, true, true, true, false, false, false, false] rfl rfl (by kernel_rfl) (fun _ _ _ h => h) (Or.inl ⟨by rfl, ?_⟩) ?_ ?_
    rotate_left
    · intro w'
      go_simp
      with_reducible rfl
    rotate_left
    · simp only [Act.put, List.setIfInBounds_toArray, List.set_cons_zero, List.set_cons_succ, i64_w, i32_w]
      rfl
    try simp only [c581b0, Bool.not_true, Bool.not_false]
    refine take_ (i := 5) (N := some 20) (v := ?_) (a' := ?_) #[true, true, true, true, false, true, false, false] rfl rfl (by kernel_rfl) (fun _ _ _ h => h) (Or.inl ⟨by rfl, ?_⟩) hHeld ?_ ?_
    rotate_left
    · rintro w' hS'
      obtain ⟨s0, s1, s2, s3, s4, s5, s6⟩ := hS'
      go_simp
      with_reducible rfl
    rotate_left
    · simp only [Act.put, List.setIfInBounds_toArray, List.set_cons_zero, List.set_cons_succ, i64_w, i32_w]
      rfl
    try simp only [c581b0, Bool.not_true, Bool.not_false]
    refine one_ (i := 4) (N := some 19) #[true, true, true, true, true, true, false, false] rfl rfl (by kernel_rfl) (by decide) (fun K hK => ?_)
    obtain ⟨t652, HA653, H⟩ := bind_some H
    refine goes_ Tryd.func21 (by kernel_rfl) rfl #[.int .u32 t576.1] (by rfl) rfl rfl (by (try simp only [List.map_toArray, List.map_cons, List.map_nil]); first | done | rfl) ?_
    refine (tag_Unpack.calls t576.1 t652 _ ⟨Gl.pass (l := []) (rest := [b1 g566 a558 a559 a560 a561 a562 a563 a564]) HGl0.out HS.out⟩ ⟨Gl.pass (l := []) (rest := [b1 g566 a558 a559 a560 a561 a562 a563 a564]) HGl1.out HS.out⟩ ⟨HS.out.begin (l := []) (rest := [b1 g566 a558 a559 a560 a561 a562 a563 a564])⟩ HA653).mono ?_
    rintro e_ w654 ⟨rfl, hS⟩
    replace HS : Aside0 (Sep (fps []) w [b1 g566 a558 a559 a560 a561 a562 a563 a564] w654) := ⟨HS.out.call (l := []) (rest := [b1 g566 a558 a559 a560 a561 a562 a563 a564]) hS⟩
    clear hS
    refine ⟨_, rfl, ?_⟩
    refine hK.out _ _ (⟨blk_cellv (HS.out.at0) 0 rfl, blk_cellv (HS.out.at0) 1 rfl, blk_cellv (HS.out.at0) 2 rfl, blk_cellv (HS.out.at0) 3 rfl, blk_cellv (HS.out.at0) 4 rfl, blk_cellv (HS.out.at0) 5 rfl, blk_cellv (HS.out.at0) 6 rfl⟩) (fun hHeld => ?_)
    clear hK K
    refine norm_ (a' := ?_) ?_ ?_
    rotate_left
    · show Act.put _ (some 19) _ = _
      simp only [Act.put, List.setIfInBounds_toArray, List.set_cons_zero, List.set_cons_succ, i64_w, i32_w]
      rfl
    by_cases c655 : t652.1 = a558
    · have H := if_yes c655 H
      have c655b0 : (t652.1 == a558) = true := beq_iff_eq.mpr c655
      have c655b1 : (t652.1 != a558) = false := bne_eq_false_iff_eq.mpr c655
      clear c655
      by_cases c656 : t652.2.1 = a559
      · have H := if_yes c656 H
        have c656b0 : (t652.2.1 == a559) = true := beq_iff_eq.mpr c656
        have c656b1 : (t652.2.1 != a559) = false := bne_eq_false_iff_eq.mpr c656
        clear c656
        by_cases c657 : t652.2.2.1 = a560
        · have H := if_yes c657 H
          have c657b0 : (t652.2.2.1 == a560) = true := beq_iff_eq.mpr c657
          have c657b1 : (t652.2.2.1 != a560) = false := bne_eq_false_iff_eq.mpr c657
          clear c657
          by_cases c658 : t652.2.2.2.1 = a561
          · have H := if_yes c658 H
            have c658b0 : (t652.2.2.2.1 == a561) = true := beq_iff_eq.mpr c658
            have c658b1 : (t652.2.2.2.1 != a561) = false := bne_eq_false_iff_eq.mpr c658
            clear c658
            by_cases c659 : t652.2.2.2.2.1 = a562
            · have H := if_yes c659 H
              have c659b0 : (t652.2.2.2.2.1 == a562) = true := beq_iff_eq.mpr c659
              have c659b1 : (t652.2.2.2.2.1 != a562) = false := bne_eq_false_iff_eq.mpr c659
              clear c659
              by_cases c660 : t652.2.2.2.2.2.1 = a563
              · have H := if_yes c660 H
                have c660b0 : (t652.2.2.2.2.2.1 == a563) = true := beq_iff_eq.mpr c660
                have c660b1 : (t652.2.2.2.2.2.1 != a563) = false := bne_eq_false_iff_eq.mpr c660
                clear c660
                by_cases c661 : t652.2.2.2.2.2.2 = a564
                · have H := if_yes c661 H
                  have c661b0 : (t652.2.2.2.2.2.2 == a564) = true := beq_iff_eq.mpr c661
                  have c661b1 : (t652.2.2.2.2.2.2 != a564) = false := bne_eq_false_iff_eq.mpr c661
                  clear c661
                  try simp only [c581b0, Bool.not_true, Bool.not_false]
                  refine pure_ (i := 6) (N := some 21) (v := ?_) (a' := ?_) #[true, true, true, true, true, true, true, false] rfl rfl (by kernel_rfl) (fun _ _ _ h => h) (Or.inl ⟨by rfl, ?_⟩) ?_ ?_
                  rotate_left
                  · intro w'
                    go_simp
                    with_reducible rfl
                  rotate_left
                  · simp only [Act.put, List.setIfInBounds_toArray, List.set_cons_zero, List.set_cons_succ, i64_w, i32_w]
                    rfl
                  refine pure_ (i := 7) (N := some 22) (v := ?_) (a' := ?_) #[true, true, true, true, true, true, true, true] rfl rfl (by kernel_rfl) (fun _ _ _ h => h) (Or.inl ⟨by rfl, ?_⟩) ?_ ?_
                  rotate_left
                  · intro w'
                    go_simp
                    with_reducible rfl
                  rotate_left
                  · simp only [Act.put, List.setIfInBounds_toArray, List.set_cons_zero, List.set_cons_succ, i64_w, i32_w]
                    rfl
                  refine done_ (by kernel_rfl) ?_
                  replace HS : Aside0 (Sep (fps []) w [] w654) := ⟨HS.out.sub (.cons _ .slnil)⟩
                  go_wp2_with fail
                  obtain ⟨t662, HA663, H⟩ := bind_some H
                  refine (tag_Unpack.calls a565 t662 _ ⟨Gl.pass (l := []) (rest := []) HGl0.out HS.out⟩ ⟨Gl.pass (l := []) (rest := []) HGl1.out HS.out⟩ ⟨HS.out.begin (l := []) (rest := [])⟩ HA663).mono ?_
                  rintro e_ w664 ⟨rfl, hS⟩
                  replace HS : Aside0 (Sep (fps []) w [] w664) := ⟨HS.out.call (l := []) (rest := []) hS⟩
                  clear hS
                  go_wp2_with (first | ((with_reducible refine gate_dst (N := 7) rfl ?_); refine box_on ?hg (N := 7) ?hd (cs := #[.int .i64 0, .int .i64 0, .int .i64 0, .int .i64 0, .int .i64 0, .int .i64 0, .int .i64 0]) (t := 23) ?hr ?_; (case hd => rfl); (case hg => rfl); (case hr => first | (go_simp; done) | (go_simp; rfl)); intro g665 hg w666 hbox hb; replace HS : Aside0 (Sep (fps []) w [b1 g665 0 0 0 0 0 0 0] w666) := ⟨HS.out.box hg hbox hb⟩; clear hg hbox hb; have hc668 : w666.cell? ⟨g665, 0, none⟩ = some (.int .i64 0) := blk_cellv (HS.out.at0) 0 rfl; have hz669 : w666.frozen? ⟨g665, 0, none⟩ = false := blk_fz (HS.out.at0) 0; have hc670 : w666.cell? ⟨g665, 1, none⟩ = some (.int .i64 0) := blk_cellv (HS.out.at0) 1 rfl; have hz671 : w666.frozen? ⟨g665, 1, none⟩ = false := blk_fz (HS.out.at0) 1; have hc672 : w666.cell? ⟨g665, 2, none⟩ = some (.int .i64 0) := blk_cellv (HS.out.at0) 2 rfl; have hz673 : w666.frozen? ⟨g665, 2, none⟩ = false := blk_fz (HS.out.at0) 2; have hc674 : w666.cell? ⟨g665, 3, none⟩ = some (.int .i64 0) := blk_cellv (HS.out.at0) 3 rfl; have hz675 : w666.frozen? ⟨g665, 3, none⟩ = false := blk_fz (HS.out.at0) 3; have hc676 : w666.cell? ⟨g665, 4, none⟩ = some (.int .i64 0) := blk_cellv (HS.out.at0) 4 rfl; have hz677 : w666.frozen? ⟨g665, 4, none⟩ = false := blk_fz (HS.out.at0) 4; have hc678 : w666.cell? ⟨g665, 5, none⟩ = some (.int .i64 0) := blk_cellv (HS.out.at0) 5 rfl; have hz679 : w666.frozen? ⟨g665, 5, none⟩ = false := blk_fz (HS.out.at0) 5; have hc680 : w666.cell? ⟨g665, 6, none⟩ = some (.int .i64 0) := blk_cellv (HS.out.at0) 6 rfl; have hz681 : w666.frozen? ⟨g665, 6, none⟩ = false := blk_fz (HS.out.at0) 6) | ((with_reducible refine gate_store (t := 23) (p := 7) rfl ?_); refine store_event (w1 := (World.setCell (World.setCell (World.setCell (World.setCell (World.setCell (World.setCell (World.setCell w666 ⟨g665, 0, none⟩ (.int .i64 t662.1)) ⟨g665, 1, none⟩ (.int .i64 t662.2.1)) ⟨g665, 2, none⟩ (.int .i64 t662.2.2.1)) ⟨g665, 3, none⟩ (.int .i64 t662.2.2.2.1)) ⟨g665, 4, none⟩ (.int .i64 t662.2.2.2.2.1)) ⟨g665, 5, none⟩ (.int .i64 t662.2.2.2.2.2.1)) ⟨g665, 6, none⟩ (.int .i64 t662.2.2.2.2.2.2))) rfl (t := 23) (p := 7) rfl rfl ?hr ?_; (case hr => first | (go_simp; done) | (go_simp; rfl)); intro w682 hst; clear hc668 hz669 hc670 hz671 hc672 hz673 hc674 hz675 hc676 hz677 hc678 hz679 hc680 hz681; replace HS : Aside0 (Sep (fps []) w [b1 g665 t662.1 t662.2.1 t662.2.2.1 t662.2.2.2.1 t662.2.2.2.2.1 t662.2.2.2.2.2.1 t662.2.2.2.2.2.2] w682) := ⟨by rw [hst]; exact HS.out.setAll (l1 := []) (l2 := []) [.int .i64 t662.1, .int .i64 t662.2.1, .int .i64 t662.2.2.1, .int .i64 t662.2.2.2.1, .int .i64 t662.2.2.2.2.1, .int .i64 t662.2.2.2.2.2.1, .int .i64 t662.2.2.2.2.2.2] rfl⟩; clear hst; have hc683 : w682.cell? ⟨g665, 0, none⟩ = some (.int .i64 t662.1) := blk_cellv (HS.out.at0) 0 rfl; have hc684 : w682.cell? ⟨g665, 1, none⟩ = some (.int .i64 t662.2.1) := blk_cellv (HS.out.at0) 1 rfl; have hc685 : w682.cell? ⟨g665, 2, none⟩ = some (.int .i64 t662.2.2.1) := blk_cellv (HS.out.at0) 2 rfl; have hc686 : w682.cell? ⟨g665, 3, none⟩ = some (.int .i64 t662.2.2.2.1) := blk_cellv (HS.out.at0) 3 rfl; have hc687 : w682.cell? ⟨g665, 4, none⟩ = some (.int .i64 t662.2.2.2.2.1) := blk_cellv (HS.out.at0) 4 rfl; have hc688 : w682.cell? ⟨g665, 5, none⟩ = some (.int .i64 t662.2.2.2.2.2.1) := blk_cellv (HS.out.at0) 5 rfl; have hc689 : w682.cell? ⟨g665, 6, none⟩ = some (.int .i64 t662.2.2.2.2.2.2) := blk_cellv (HS.out.at0) 6 rfl))
                  clear hc683 hc684 hc685 hc686 hc687 hc688 hc689
                  obtain ⟨t690, HA691, H⟩ := bind_some H
                  refine (tag_Pack.calls _ t662.1 t662.2.1 t662.2.2.1 t662.2.2.2.1 t662.2.2.2.2.1 t662.2.2.2.2.2.1 t662.2.2.2.2.2.2 t690 _ ⟨Gl.pass (l := []) (rest := [b1 g665 t662.1 t662.2.1 t662.2.2.1 t662.2.2.2.1 t662.2.2.2.2.1 t662.2.2.2.2.2.1 t662.2.2.2.2.2.2]) HGl0.out HS.out⟩ ⟨Gl.pass (l := []) (rest := [b1 g665 t662.1 t662.2.1 t662.2.2.1 t662.2.2.2.1 t662.2.2.2.2.1 t662.2.2.2.2.2.1 t662.2.2.2.2.2.2]) HGl1.out HS.out⟩ ⟨HS.out.begin (l := []) (rest := [b1 g665 t662.1 t662.2.1 t662.2.2.1 t662.2.2.2.1 t662.2.2.2.2.1 t662.2.2.2.2.2.1 t662.2.2.2.2.2.2])⟩ HA691).mono ?_
                  rintro e_ w692 ⟨rfl, hS⟩
                  replace HS : Aside0 (Sep (fps []) w [b1 g665 t662.1 t662.2.1 t662.2.2.1 t662.2.2.2.1 t662.2.2.2.2.1 t662.2.2.2.2.2.1 t662.2.2.2.2.2.2] w692) := ⟨HS.out.call (l := []) (rest := [b1 g665 t662.1 t662.2.1 t662.2.2.1 t662.2.2.2.1 t662.2.2.2.2.1 t662.2.2.2.2.2.1 t662.2.2.2.2.2.2]) hS⟩
                  clear hS
                  have hc693 : w692.cell? ⟨g665, 0, none⟩ = some (.int .i64 t662.1) := blk_cellv (HS.out.at0) 0 rfl
                  have hc694 : w692.cell? ⟨g665, 1, none⟩ = some (.int .i64 t662.2.1) := blk_cellv (HS.out.at0) 1 rfl
                  have hc695 : w692.cell? ⟨g665, 2, none⟩ = some (.int .i64 t662.2.2.1) := blk_cellv (HS.out.at0) 2 rfl
                  have hc696 : w692.cell? ⟨g665, 3, none⟩ = some (.int .i64 t662.2.2.2.1) := blk_cellv (HS.out.at0) 3 rfl
                  have hc697 : w692.cell? ⟨g665, 4, none⟩ = some (.int .i64 t662.2.2.2.2.1) := blk_cellv (HS.out.at0) 4 rfl
                  have hc698 : w692.cell? ⟨g665, 5, none⟩ = some (.int .i64 t662.2.2.2.2.2.1) := blk_cellv (HS.out.at0) 5 rfl
                  have hc699 : w692.cell? ⟨g665, 6, none⟩ = some (.int .i64 t662.2.2.2.2.2.2) := blk_cellv (HS.out.at0) 6 rfl
                  go_wp2_with fail
                  clear hc693 hc694 hc695 hc696 hc697 hc698 hc699
                  obtain ⟨t700, HA701, H⟩ := bind_some H
                  refine (tag_Right.calls _ t662.1 t662.2.1 t662.2.2.1 t662.2.2.2.1 t662.2.2.2.2.1 t662.2.2.2.2.2.1 t662.2.2.2.2.2.2 t700 _ ⟨Gl.pass (l := []) (rest := [b1 g665 t662.1 t662.2.1 t662.2.2.1 t662.2.2.2.1 t662.2.2.2.2.1 t662.2.2.2.2.2.1 t662.2.2.2.2.2.2]) HGl0.out HS.out⟩ ⟨Gl.pass (l := []) (rest := [b1 g665 t662.1 t662.2.1 t662.2.2.1 t662.2.2.2.1 t662.2.2.2.2.1 t662.2.2.2.2.2.1 t662.2.2.2.2.2.2]) HGl1.out HS.out⟩ ⟨HS.out.begin (l := []) (rest := [b1 g665 t662.1 t662.2.1 t662.2.2.1 t662.2.2.2.1 t662.2.2.2.2.1 t662.2.2.2.2.2.1 t662.2.2.2.2.2.2])⟩ HA701).mono ?_
                  rintro e_ w702 ⟨rfl, hS⟩
                  replace HS : Aside0 (Sep (fps []) w [b1 g665 t662.1 t662.2.1 t662.2.2.1 t662.2.2.2.1 t662.2.2.2.2.1 t662.2.2.2.2.2.1 t662.2.2.2.2.2.2] w702) := ⟨HS.out.call (l := []) (rest := [b1 g665 t662.1 t662.2.1 t662.2.2.1 t662.2.2.2.1 t662.2.2.2.2.1 t662.2.2.2.2.2.1 t662.2.2.2.2.2.2]) hS⟩
                  clear hS
                  by_cases c703 : t700 = true
                  · have H := if_yes c703 H
                    have c703b0 : t700 = true := c703
                    have c703b1 : (!t700) = false := by rw [c703b0]; rfl
                    try rw [c703b1]
                    clear c703
                    by_cases c704 : t690.2 = 0
                    · have H := if_yes c704 H
                      have c704b0 : (t690.2 == 0) = true := beq_iff_eq.mpr c704
                      have c704b1 : (t690.2 != 0) = false := bne_eq_false_iff_eq.mpr c704
                      clear c704
                      by_cases c705 : t690.1 = (Go.bits .andNot .u32 a565 128)
                      · have H := if_yes c705 H
                        have c705b0 : (t690.1 == (Go.bits .andNot .u32 a565 128)) = true := beq_iff_eq.mpr c705
                        have c705b1 : (t690.1 != (Go.bits .andNot .u32 a565 128)) = false := bne_eq_false_iff_eq.mpr c705
                        clear c705
                        replace HS : Aside0 (Sep (fps []) w [] w702) := ⟨HS.out.sub (.cons _ .slnil)⟩
                        go_wp2_with fail
                        obtain ⟨t706, HA707, H⟩ := bind_some H
                        refine (quitrentlaw06_begun.calls _ t706 _ ⟨Gl.pass (l := []) (rest := []) HGl0.out HS.out⟩ ⟨Gl.pass (l := []) (rest := []) HGl1.out HS.out⟩ ⟨HS.out.begin (l := []) (rest := [])⟩ HA707).mono ?_
                        rintro e_ w708 ⟨rfl, hS⟩
                        replace HS : Aside0 (Sep (fps []) w [] w708) := ⟨HS.out.call (l := []) (rest := []) hS⟩
                        clear hS
                        go_wp2_with fail
                        go_ret
                        rw [← some_eq H]
                        exact ⟨(by first | rfl | (simp [IntKind.wrap_u32]; done)), (HS.out).keep (l := []) (rest := [])⟩
                      · have H := if_no c705 H
                        have c705b0 : (t690.1 == (Go.bits .andNot .u32 a565 128)) = false := beq_eq_false_iff_ne.mpr c705
                        have c705b1 : (t690.1 != (Go.bits .andNot .u32 a565 128)) = true := bne_iff_ne.mpr c705
                        clear c705
                        replace HS : Aside0 (Sep (fps []) w [] w702) := ⟨HS.out.sub (.cons _ .slnil)⟩
                        go_wp2_with fail
                        go_ret
                        rw [← some_eq H]
                        exact ⟨(by first | rfl | (simp [IntKind.wrap_u32]; done)), (HS.out).keep (l := []) (rest := [])⟩
                    · have H := if_no c704 H
                      have c704b0 : (t690.2 == 0) = false := beq_eq_false_iff_ne.mpr c704
                      have c704b1 : (t690.2 != 0) = true := bne_iff_ne.mpr c704
                      clear c704
                      replace HS : Aside0 (Sep (fps []) w [] w702) := ⟨HS.out.sub (.cons _ .slnil)⟩
                      go_wp2_with fail
                      go_ret
                      rw [← some_eq H]
                      exact ⟨(by first | rfl | (simp [IntKind.wrap_u32]; done)), (HS.out).keep (l := []) (rest := [])⟩
                  · have H := if_no c703 H
                    have c703b0 : t700 = false := by simpa using c703
                    have c703b1 : (!t700) = true := by rw [c703b0]; rfl
                    try rw [c703b1]
                    clear c703
                    by_cases c709 : t690.2 = 2
                    · have H := if_yes c709 H
                      have c709b0 : (t690.2 == 2) = true := beq_iff_eq.mpr c709
                      have c709b1 : (t690.2 != 2) = false := bne_eq_false_iff_eq.mpr c709
                      clear c709
                      replace HS : Aside0 (Sep (fps []) w [] w702) := ⟨HS.out.sub (.cons _ .slnil)⟩
                      go_wp2_with fail
                      obtain ⟨t710, HA711, H⟩ := bind_some H
                      refine (quitrentlaw06_begun.calls _ t710 _ ⟨Gl.pass (l := []) (rest := []) HGl0.out HS.out⟩ ⟨Gl.pass (l := []) (rest := []) HGl1.out HS.out⟩ ⟨HS.out.begin (l := []) (rest := [])⟩ HA711).mono ?_
                      rintro e_ w712 ⟨rfl, hS⟩
                      replace HS : Aside0 (Sep (fps []) w [] w712) := ⟨HS.out.call (l := []) (rest := []) hS⟩
                      clear hS
                      go_wp2_with fail
                      go_ret
                      rw [← some_eq H]
                      exact ⟨(by first | rfl | (simp [IntKind.wrap_u32]; done)), (HS.out).keep (l := []) (rest := [])⟩
                    · have H := if_no c709 H
                      have c709b0 : (t690.2 == 2) = false := beq_eq_false_iff_ne.mpr c709
                      have c709b1 : (t690.2 != 2) = true := bne_iff_ne.mpr c709
                      clear c709
                      replace HS : Aside0 (Sep (fps []) w [] w702) := ⟨HS.out.sub (.cons _ .slnil)⟩
                      go_wp2_with fail
                      go_ret
                      rw [← some_eq H]
                      exact ⟨(by first | rfl | (simp [IntKind.wrap_u32]; done)), (HS.out).keep (l := []) (rest := [])⟩
                · have H := if_no c661 H
                  have c661b0 : (t652.2.2.2.2.2.2 == a564) = false := beq_eq_false_iff_ne.mpr c661
                  have c661b1 : (t652.2.2.2.2.2.2 != a564) = true := bne_iff_ne.mpr c661
                  clear c661
                  try simp only [c581b0, Bool.not_true, Bool.not_false]
                  refine pure_ (i := 6) (N := some 21) (v := ?_) (a' := ?_) #[true, true, true, true, true, true, true, false] rfl rfl (by kernel_rfl) (fun _ _ _ h => h) (Or.inl ⟨by rfl, ?_⟩) ?_ ?_
                  rotate_left
                  · intro w'
                    go_simp
                    with_reducible rfl
                  rotate_left
                  · simp only [Act.put, List.setIfInBounds_toArray, List.set_cons_zero, List.set_cons_succ, i64_w, i32_w]
                    rfl
                  refine pure_ (i := 7) (N := some 22) (v := ?_) (a' := ?_) #[true, true, true, true, true, true, true, true] rfl rfl (by kernel_rfl) (fun _ _ _ h => h) (Or.inl ⟨by rfl, ?_⟩) ?_ ?_
                  rotate_left
                  · intro w'
                    go_simp
                    with_reducible rfl
                  rotate_left
                  · simp only [Act.put, List.setIfInBounds_toArray, List.set_cons_zero, List.set_cons_succ, i64_w, i32_w]
                    rfl
                  refine done_ (by kernel_rfl) ?_
                  replace HS : Aside0 (Sep (fps []) w [] w654) := ⟨HS.out.sub (.cons _ .slnil)⟩
                  go_wp2_with fail
                  go_ret
                  rw [← some_eq H]
                  exact ⟨(by first | rfl | (simp [IntKind.wrap_u32]; done)), (HS.out).keep (l := []) (rest := [])⟩
              · have H := if_no c660 H
                have c660b0 : (t652.2.2.2.2.2.1 == a563) = false := beq_eq_false_iff_ne.mpr c660
                have c660b1 : (t652.2.2.2.2.2.1 != a563) = true := bne_iff_ne.mpr c660
                clear c660
                try simp only [c581b0, Bool.not_true, Bool.not_false]
                refine pure_ (i := 6) (N := some 21) (v := ?_) (a' := ?_) #[true, true, true, true, true, true, true, false] rfl rfl (by kernel_rfl) (fun _ _ _ h => h) (Or.inl ⟨by rfl, ?_⟩) ?_ ?_
                rotate_left
                · intro w'
                  go_simp
                  with_reducible rfl
                rotate_left
                · simp only [Act.put, List.setIfInBounds_toArray, List.set_cons_zero, List.set_cons_succ, i64_w, i32_w]
                  rfl
                refine pure_ (i := 7) (N := some 22) (v := ?_) (a' := ?_) #[true, true, true, true, true, true, true, true] rfl rfl (by kernel_rfl) (fun _ _ _ h => h) (Or.inl ⟨by rfl, ?_⟩) ?_ ?_
                rotate_left
                · intro w'
                  go_simp
                  with_reducible rfl
                rotate_left
                · simp only [Act.put, List.setIfInBounds_toArray, List.set_cons_zero, List.set_cons_succ, i64_w, i32_w]
                  rfl
                refine done_ (by kernel_rfl) ?_
                replace HS : Aside0 (Sep (fps []) w [] w654) := ⟨HS.out.sub (.cons _ .slnil)⟩
                go_wp2_with fail
                go_ret
                rw [← some_eq H]
                exact ⟨(by first | rfl | (simp [IntKind.wrap_u32]; done)), (HS.out).keep (l := []) (rest := [])⟩
            · have H := if_no c659 H
              have c659b0 : (t652.2.2.2.2.1 == a562) = false := beq_eq_false_iff_ne.mpr c659
              have c659b1 : (t652.2.2.2.2.1 != a562) = true := bne_iff_ne.mpr c659
              clear c659
              try simp only [c581b0, Bool.not_true, Bool.not_false]
              refine pure_ (i := 6) (N := some 21) (v := ?_) (a' := ?_) #[true, true, true, true, true, true, true, false] rfl rfl (by kernel_rfl) (fun _ _ _ h => h) (Or.inl ⟨by rfl, ?_⟩) ?_ ?_
              rotate_left
              · intro w'
                go_simp
                with_reducible rfl
              rotate_left
              · simp only [Act.put, List.setIfInBounds_toArray, List.set_cons_zero, List.set_cons_succ, i64_w, i32_w]
                rfl
              refine pure_ (i := 7) (N := some 22) (v := ?_) (a' := ?_) #[true, true, true, true, true, true, true, true] rfl rfl (by kernel_rfl) (fun _ _ _ h => h) (Or.inl ⟨by rfl, ?_⟩) ?_ ?_
              rotate_left
              · intro w'
                go_simp
                with_reducible rfl
              rotate_left
              · simp only [Act.put, List.setIfInBounds_toArray, List.set_cons_zero, List.set_cons_succ, i64_w, i32_w]
                rfl
              refine done_ (by kernel_rfl) ?_
              replace HS : Aside0 (Sep (fps []) w [] w654) := ⟨HS.out.sub (.cons _ .slnil)⟩
              go_wp2_with fail
              go_ret
              rw [← some_eq H]
              exact ⟨(by first | rfl | (simp [IntKind.wrap_u32]; done)), (HS.out).keep (l := []) (rest := [])⟩
          · have H := if_no c658 H
            have c658b0 : (t652.2.2.2.1 == a561) = false := beq_eq_false_iff_ne.mpr c658
            have c658b1 : (t652.2.2.2.1 != a561) = true := bne_iff_ne.mpr c658
            clear c658
            try simp only [c581b0, Bool.not_true, Bool.not_false]
            refine pure_ (i := 6) (N := some 21) (v := ?_) (a' := ?_) #[true, true, true, true, true, true, true, false] rfl rfl (by kernel_rfl) (fun _ _ _ h => h) (Or.inl ⟨by rfl, ?_⟩) ?_ ?_
            rotate_left
            · intro w'
              go_simp
              with_reducible rfl
            rotate_left
            · simp only [Act.put, List.setIfInBounds_toArray, List.set_cons_zero, List.set_cons_succ, i64_w, i32_w]
              rfl
            refine pure_ (i := 7) (N := some 22) (v := ?_) (a' := ?_) #[true, true, true, true, true, true, true, true] rfl rfl (by kernel_rfl) (fun _ _ _ h => h) (Or.inl ⟨by rfl, ?_⟩) ?_ ?_
            rotate_left
            · intro w'
              go_simp
              with_reducible rfl
            rotate_left
            · simp only [Act.put, List.setIfInBounds_toArray, List.set_cons_zero, List.set_cons_succ, i64_w, i32_w]
              rfl
            refine done_ (by kernel_rfl) ?_
            replace HS : Aside0 (Sep (fps []) w [] w654) := ⟨HS.out.sub (.cons _ .slnil)⟩
            go_wp2_with fail
            go_ret
            rw [← some_eq H]
            exact ⟨(by first | rfl | (simp [IntKind.wrap_u32]; done)), (HS.out).keep (l := []) (rest := [])⟩
        · have H := if_no c657 H
          have c657b0 : (t652.2.2.1 == a560) = false := beq_eq_false_iff_ne.mpr c657
          have c657b1 : (t652.2.2.1 != a560) = true := bne_iff_ne.mpr c657
          clear c657
          try simp only [c581b0, Bool.not_true, Bool.not_false]
          refine pure_ (i := 6) (N := some 21) (v := ?_) (a' := ?_) #[true, true, true, true, true, true, true, false] rfl rfl (by kernel_rfl) (fun _ _ _ h => h) (Or.inl ⟨by rfl, ?_⟩) ?_ ?_
          rotate_left
          · intro w'
            go_simp
            with_reducible rfl
          rotate_left
          · simp only [Act.put, List.setIfInBounds_toArray, List.set_cons_zero, List.set_cons_succ, i64_w, i32_w]
            rfl
          refine pure_ (i := 7) (N := some 22) (v := ?_) (a' := ?_) #[true, true, true, true, true, true, true, true] rfl rfl (by kernel_rfl) (fun _ _ _ h => h) (Or.inl ⟨by rfl, ?_⟩) ?_ ?_
          rotate_left
          · intro w'
            go_simp
            with_reducible rfl
          rotate_left
          · simp only [Act.put, List.setIfInBounds_toArray, List.set_cons_zero, List.set_cons_succ, i64_w, i32_w]
            rfl
          refine done_ (by kernel_rfl) ?_
          replace HS : Aside0 (Sep (fps []) w [] w654) := ⟨HS.out.sub (.cons _ .slnil)⟩
          go_wp2_with fail
          go_ret
          rw [← some_eq H]
          exact ⟨(by first | rfl | (simp [IntKind.wrap_u32]; done)), (HS.out).keep (l := []) (rest := [])⟩
      · have H := if_no c656 H
        have c656b0 : (t652.2.1 == a559) = false := beq_eq_false_iff_ne.mpr c656
        have c656b1 : (t652.2.1 != a559) = true := bne_iff_ne.mpr c656
        clear c656
        try simp only [c581b0, Bool.not_true, Bool.not_false]
        refine pure_ (i := 6) (N := some 21) (v := ?_) (a' := ?_) #[true, true, true, true, true, true, true, false] rfl rfl (by kernel_rfl) (fun _ _ _ h => h) (Or.inl ⟨by rfl, ?_⟩) ?_ ?_
        rotate_left
        · intro w'
          go_simp
          with_reducible rfl
        rotate_left
        · simp only [Act.put, List.setIfInBounds_toArray, List.set_cons_zero, List.set_cons_succ, i64_w, i32_w]
          rfl
        refine pure_ (i := 7) (N := some 22) (v := ?_) (a' := ?_) #[true, true, true, true, true, true, true, true] rfl rfl (by kernel_rfl) (fun _ _ _ h => h) (Or.inl ⟨by rfl, ?_⟩) ?_ ?_
        rotate_left
        · intro w'
          go_simp
          with_reducible rfl
        rotate_left
        · simp only [Act.put, List.setIfInBounds_toArray, List.set_cons_zero, List.set_cons_succ, i64_w, i32_w]
          rfl
        refine done_ (by kernel_rfl) ?_
        replace HS : Aside0 (Sep (fps []) w [] w654) := ⟨HS.out.sub (.cons _ .slnil)⟩
        go_wp2_with fail
        go_ret
        rw [← some_eq H]
        exact ⟨(by first | rfl | (simp [IntKind.wrap_u32]; done)), (HS.out).keep (l := []) (rest := [])⟩
    · have H := if_no c655 H
      have c655b0 : (t652.1 == a558) = false := beq_eq_false_iff_ne.mpr c655
      have c655b1 : (t652.1 != a558) = true := bne_iff_ne.mpr c655
      clear c655
      try simp only [c581b0, Bool.not_true, Bool.not_false]
      refine pure_ (i := 6) (N := some 21) (v := ?_) (a' := ?_) #[true, true, true, true, true, true, true, false] rfl rfl (by kernel_rfl) (fun _ _ _ h => h) (Or.inl ⟨by rfl, ?_⟩) ?_ ?_
      rotate_left
      · intro w'
        go_simp
        with_reducible rfl
      rotate_left
      · simp only [Act.put, List.setIfInBounds_toArray, List.set_cons_zero, List.set_cons_succ, i64_w, i32_w]
        rfl
      refine pure_ (i := 7) (N := some 22) (v := ?_) (a' := ?_) #[true, true, true, true, true, true, true, true] rfl rfl (by kernel_rfl) (fun _ _ _ h => h) (Or.inl ⟨by rfl, ?_⟩) ?_ ?_
      rotate_left
      · intro w'
        go_simp
        with_reducible rfl
      rotate_left
      · simp only [Act.put, List.setIfInBounds_toArray, List.set_cons_zero, List.set_cons_succ, i64_w, i32_w]
        rfl
      refine done_ (by kernel_rfl) ?_
      replace HS : Aside0 (Sep (fps []) w [] w654) := ⟨HS.out.sub (.cons _ .slnil)⟩
      go_wp2_with fail
      go_ret
      rw [← some_eq H]
      exact ⟨(by first | rfl | (simp [IntKind.wrap_u32]; done)), (HS.out).keep (l := []) (rest := [])⟩
  · have H := if_no c581 H
    have c581b0 : (t576.2 == 0) = false := beq_eq_false_iff_ne.mpr c581
    have c581b1 : (t576.2 != 0) = true := bne_iff_ne.mpr c581
    clear c581
    try simp only [c581b0, Bool.not_true, Bool.not_false]
    refine pure_ (i := 3) (N := some 18) (v := undef) (a' := ?_) #[true, true, true, true, false, false, false, false] rfl rfl (by kernel_rfl) (fun _ _ _ h => h) (Or.inr ⟨by rfl, rfl⟩) ?_ ?_
    rotate_left
    · simp only [Act.put, List.setIfInBounds_toArray, List.set_cons_zero, List.set_cons_succ, i64_w, i32_w]
      rfl
    try simp only [c581b0, Bool.not_true, Bool.not_false]
    refine pure_ (i := 4) (N := some 19) (v := undef) (a' := ?_) #[true, true, true, true, true, false, false, false] rfl rfl (by kernel_rfl) (fun _ _ _ h => h) (Or.inr ⟨by rfl, rfl⟩) ?_ ?_
    rotate_left
    · simp only [Act.put, List.setIfInBounds_toArray, List.set_cons_zero, List.set_cons_succ, i64_w, i32_w]
      rfl
    try simp only [c581b0, Bool.not_true, Bool.not_false]
    refine pure_ (i := 5) (N := some 20) (v := undef) (a' := ?_) #[true, true, true, true, true, true, false, false] rfl rfl (by kernel_rfl) (fun _ _ _ h => h) (Or.inr ⟨by rfl, rfl⟩) ?_ ?_
    rotate_left
    · simp only [Act.put, List.setIfInBounds_toArray, List.set_cons_zero, List.set_cons_succ, i64_w, i32_w]
      rfl
    try simp only [c581b0, Bool.not_true, Bool.not_false]
    refine pure_ (i := 6) (N := some 21) (v := undef) (a' := ?_) #[true, true, true, true, true, true, true, false] rfl rfl (by kernel_rfl) (fun _ _ _ h => h) (Or.inr ⟨by rfl, rfl⟩) ?_ ?_
    rotate_left
    · simp only [Act.put, List.setIfInBounds_toArray, List.set_cons_zero, List.set_cons_succ, i64_w, i32_w]
      rfl
    refine pure_ (i := 7) (N := some 22) (v := ?_) (a' := ?_) #[true, true, true, true, true, true, true, true] rfl rfl (by kernel_rfl) (fun _ _ _ h => h) (Or.inl ⟨by rfl, ?_⟩) ?_ ?_
    rotate_left
    · intro w'
      go_simp
      with_reducible rfl
    rotate_left
    · simp only [Act.put, List.setIfInBounds_toArray, List.set_cons_zero, List.set_cons_succ, i64_w, i32_w]
      rfl
    refine done_ (by kernel_rfl) ?_
    replace HS : Aside0 (Sep (fps []) w [] w580) := ⟨HS.out.sub (.cons _ .slnil)⟩
    go_wp2_with fail
    obtain ⟨t662, HA713, H⟩ := bind_some H
    refine (tag_Unpack.calls a565 t662 _ ⟨Gl.pass (l := []) (rest := []) HGl0.out HS.out⟩ ⟨Gl.pass (l := []) (rest := []) HGl1.out HS.out⟩ ⟨HS.out.begin (l := []) (rest := [])⟩ HA713).mono ?_
    rintro e_ w714 ⟨rfl, hS⟩
    replace HS : Aside0 (Sep (fps []) w [] w714) := ⟨HS.out.call (l := []) (rest := []) hS⟩
    clear hS
    go_wp2_with (first | ((with_reducible refine gate_dst (N := 7) rfl ?_); refine box_on ?hg (N := 7) ?hd (cs := #[.int .i64 0, .int .i64 0, .int .i64 0, .int .i64 0, .int .i64 0, .int .i64 0, .int .i64 0]) (t := 23) ?hr ?_; (case hd => rfl); (case hg => rfl); (case hr => first | (go_simp; done) | (go_simp; rfl)); intro g715 hg w716 hbox hb; replace HS : Aside0 (Sep (fps []) w [b1 g715 0 0 0 0 0 0 0] w716) := ⟨HS.out.box hg hbox hb⟩; clear hg hbox hb; have hc718 : w716.cell? ⟨g715, 0, none⟩ = some (.int .i64 0) := blk_cellv (HS.out.at0) 0 rfl; have hz719 : w716.frozen? ⟨g715, 0, none⟩ = false := blk_fz (HS.out.at0) 0; have hc720 : w716.cell? ⟨g715, 1, none⟩ = some (.int .i64 0) := blk_cellv (HS.out.at0) 1 rfl; have hz721 : w716.frozen? ⟨g715, 1, none⟩ = false := blk_fz (HS.out.at0) 1; have hc722 : w716.cell? ⟨g715, 2, none⟩ = some (.int .i64 0) := blk_cellv (HS.out.at0) 2 rfl; have hz723 : w716.frozen? ⟨g715, 2, none⟩ = false := blk_fz (HS.out.at0) 2; have hc724 : w716.cell? ⟨g715, 3, none⟩ = some (.int .i64 0) := blk_cellv (HS.out.at0) 3 rfl; have hz725 : w716.frozen? ⟨g715, 3, none⟩ = false := blk_fz (HS.out.at0) 3; have hc726 : w716.cell? ⟨g715, 4, none⟩ = some (.int .i64 0) := blk_cellv (HS.out.at0) 4 rfl; have hz727 : w716.frozen? ⟨g715, 4, none⟩ = false := blk_fz (HS.out.at0) 4; have hc728 : w716.cell? ⟨g715, 5, none⟩ = some (.int .i64 0) := blk_cellv (HS.out.at0) 5 rfl; have hz729 : w716.frozen? ⟨g715, 5, none⟩ = false := blk_fz (HS.out.at0) 5; have hc730 : w716.cell? ⟨g715, 6, none⟩ = some (.int .i64 0) := blk_cellv (HS.out.at0) 6 rfl; have hz731 : w716.frozen? ⟨g715, 6, none⟩ = false := blk_fz (HS.out.at0) 6) | ((with_reducible refine gate_store (t := 23) (p := 7) rfl ?_); refine store_event (w1 := (World.setCell (World.setCell (World.setCell (World.setCell (World.setCell (World.setCell (World.setCell w716 ⟨g715, 0, none⟩ (.int .i64 t662.1)) ⟨g715, 1, none⟩ (.int .i64 t662.2.1)) ⟨g715, 2, none⟩ (.int .i64 t662.2.2.1)) ⟨g715, 3, none⟩ (.int .i64 t662.2.2.2.1)) ⟨g715, 4, none⟩ (.int .i64 t662.2.2.2.2.1)) ⟨g715, 5, none⟩ (.int .i64 t662.2.2.2.2.2.1)) ⟨g715, 6, none⟩ (.int .i64 t662.2.2.2.2.2.2))) rfl (t := 23) (p := 7) rfl rfl ?hr ?_; (case hr => first | (go_simp; done) | (go_simp; rfl)); intro w732 hst; clear hc718 hz719 hc720 hz721 hc722 hz723 hc724 hz725 hc726 hz727 hc728 hz729 hc730 hz731; replace HS : Aside0 (Sep (fps []) w [b1 g715 t662.1 t662.2.1 t662.2.2.1 t662.2.2.2.1 t662.2.2.2.2.1 t662.2.2.2.2.2.1 t662.2.2.2.2.2.2] w732) := ⟨by rw [hst]; exact HS.out.setAll (l1 := []) (l2 := []) [.int .i64 t662.1, .int .i64 t662.2.1, .int .i64 t662.2.2.1, .int .i64 t662.2.2.2.1, .int .i64 t662.2.2.2.2.1, .int .i64 t662.2.2.2.2.2.1, .int .i64 t662.2.2.2.2.2.2] rfl⟩; clear hst; have hc733 : w732.cell? ⟨g715, 0, none⟩ = some (.int .i64 t662.1) := blk_cellv (HS.out.at0) 0 rfl; have hc734 : w732.cell? ⟨g715, 1, none⟩ = some (.int .i64 t662.2.1) := blk_cellv (HS.out.at0) 1 rfl; have hc735 : w732.cell? ⟨g715, 2, none⟩ = some (.int .i64 t662.2.2.1) := blk_cellv (HS.out.at0) 2 rfl; have hc736 : w732.cell? ⟨g715, 3, none⟩ = some (.int .i64 t662.2.2.2.1) := blk_cellv (HS.out.at0) 3 rfl; have hc737 : w732.cell? ⟨g715, 4, none⟩ = some (.int .i64 t662.2.2.2.2.1) := blk_cellv (HS.out.at0) 4 rfl; have hc738 : w732.cell? ⟨g715, 5, none⟩ = some (.int .i64 t662.2.2.2.2.2.1) := blk_cellv (HS.out.at0) 5 rfl; have hc739 : w732.cell? ⟨g715, 6, none⟩ = some (.int .i64 t662.2.2.2.2.2.2) := blk_cellv (HS.out.at0) 6 rfl))
    clear hc733 hc734 hc735 hc736 hc737 hc738 hc739
    obtain ⟨t690, HA740, H⟩ := bind_some H
    refine (tag_Pack.calls _ t662.1 t662.2.1 t662.2.2.1 t662.2.2.2.1 t662.2.2.2.2.1 t662.2.2.2.2.2.1 t662.2.2.2.2.2.2 t690 _ ⟨Gl.pass (l := []) (rest := [b1 g715 t662.1 t662.2.1 t662.2.2.1 t662.2.2.2.1 t662.2.2.2.2.1 t662.2.2.2.2.2.1 t662.2.2.2.2.2.2]) HGl0.out HS.out⟩ ⟨Gl.pass (l := []) (rest := [b1 g715 t662.1 t662.2.1 t662.2.2.1 t662.2.2.2.1 t662.2.2.2.2.1 t662.2.2.2.2.2.1 t662.2.2.2.2.2.2]) HGl1.out HS.out⟩ ⟨HS.out.begin (l := []) (rest := [b1 g715 t662.1 t662.2.1 t662.2.2.1 t662.2.2.2.1 t662.2.2.2.2.1 t662.2.2.2.2.2.1 t662.2.2.2.2.2.2])⟩ HA740).mono ?_
    rintro e_ w741 ⟨rfl, hS⟩
    replace HS : Aside0 (Sep (fps []) w [b1 g715 t662.1 t662.2.1 t662.2.2.1 t662.2.2.2.1 t662.2.2.2.2.1 t662.2.2.2.2.2.1 t662.2.2.2.2.2.2] w741) := ⟨HS.out.call (l := []) (rest := [b1 g715 t662.1 t662.2.1 t662.2.2.1 t662.2.2.2.1 t662.2.2.2.2.1 t662.2.2.2.2.2.1 t662.2.2.2.2.2.2]) hS⟩
    clear hS
    have hc742 : w741.cell? ⟨g715, 0, none⟩ = some (.int .i64 t662.1) := blk_cellv (HS.out.at0) 0 rfl
    have hc743 : w741.cell? ⟨g715, 1, none⟩ = some (.int .i64 t662.2.1) := blk_cellv (HS.out.at0) 1 rfl
    have hc744 : w741.cell? ⟨g715, 2, none⟩ = some (.int .i64 t662.2.2.1) := blk_cellv (HS.out.at0) 2 rfl
    have hc745 : w741.cell? ⟨g715, 3, none⟩ = some (.int .i64 t662.2.2.2.1) := blk_cellv (HS.out.at0) 3 rfl
    have hc746 : w741.cell? ⟨g715, 4, none⟩ = some (.int .i64 t662.2.2.2.2.1) := blk_cellv (HS.out.at0) 4 rfl
    have hc747 : w741.cell? ⟨g715, 5, none⟩ = some (.int .i64 t662.2.2.2.2.2.1) := blk_cellv (HS.out.at0) 5 rfl
    have hc748 : w741.cell? ⟨g715, 6, none⟩ = some (.int .i64 t662.2.2.2.2.2.2) := blk_cellv (HS.out.at0) 6 rfl
    go_wp2_with fail
    clear hc742 hc743 hc744 hc745 hc746 hc747 hc748
    obtain ⟨t700, HA749, H⟩ := bind_some H
    refine (tag_Right.calls _ t662.1 t662.2.1 t662.2.2.1 t662.2.2.2.1 t662.2.2.2.2.1 t662.2.2.2.2.2.1 t662.2.2.2.2.2.2 t700 _ ⟨Gl.pass (l := []) (rest := [b1 g715 t662.1 t662.2.1 t662.2.2.1 t662.2.2.2.1 t662.2.2.2.2.1 t662.2.2.2.2.2.1 t662.2.2.2.2.2.2]) HGl0.out HS.out⟩ ⟨Gl.pass (l := []) (rest := [b1 g715 t662.1 t662.2.1 t662.2.2.1 t662.2.2.2.1 t662.2.2.2.2.1 t662.2.2.2.2.2.1 t662.2.2.2.2.2.2]) HGl1.out HS.out⟩ ⟨HS.out.begin (l := []) (rest := [b1 g715 t662.1 t662.2.1 t662.2.2.1 t662.2.2.2.1 t662.2.2.2.2.1 t662.2.2.2.2.2.1 t662.2.2.2.2.2.2])⟩ HA749).mono ?_
    rintro e_ w750 ⟨rfl, hS⟩
    replace HS : Aside0 (Sep (fps []) w [b1 g715 t662.1 t662.2.1 t662.2.2.1 t662.2.2.2.1 t662.2.2.2.2.1 t662.2.2.2.2.2.1 t662.2.2.2.2.2.2] w750) := ⟨HS.out.call (l := []) (rest := [b1 g715 t662.1 t662.2.1 t662.2.2.1 t662.2.2.2.1 t662.2.2.2.2.1 t662.2.2.2.2.2.1 t662.2.2.2.2.2.2]) hS⟩
    clear hS
    by_cases c751 : t700 = true
    · have H := if_yes c751 H
      have c751b0 : t700 = true := c751
      have c751b1 : (!t700) = false := by rw [c751b0]; rfl
      try rw [c751b1]
      clear c751
      by_cases c752 : t690.2 = 0
      · have H := if_yes c752 H
        have c752b0 : (t690.2 == 0) = true := beq_iff_eq.mpr c752
        have c752b1 : (t690.2 != 0) = false := bne_eq_false_iff_eq.mpr c752
        clear c752
        by_cases c753 : t690.1 = (Go.bits .andNot .u32 a565 128)
        · have H := if_yes c753 H
          have c753b0 : (t690.1 == (Go.bits .andNot .u32 a565 128)) = true := beq_iff_eq.mpr c753
          have c753b1 : (t690.1 != (Go.bits .andNot .u32 a565 128)) = false := bne_eq_false_iff_eq.mpr c753
          clear c753
          replace HS : Aside0 (Sep (fps []) w [] w750) := ⟨HS.out.sub (.cons _ .slnil)⟩
          go_wp2_with fail
          obtain ⟨t706, HA754, H⟩ := bind_some H
          refine (quitrentlaw06_begun.calls _ t706 _ ⟨Gl.pass (l := []) (rest := []) HGl0.out HS.out⟩ ⟨Gl.pass (l := []) (rest := []) HGl1.out HS.out⟩ ⟨HS.out.begin (l := []) (rest := [])⟩ HA754).mono ?_
          rintro e_ w755 ⟨rfl, hS⟩
          replace HS : Aside0 (Sep (fps []) w [] w755) := ⟨HS.out.call (l := []) (rest := []) hS⟩
          clear hS
          go_wp2_with fail
          go_ret
          rw [← some_eq H]
          exact ⟨(by first | rfl | (simp [IntKind.wrap_u32]; done)), (HS.out).keep (l := []) (rest := [])⟩
        · have H := if_no c753 H
          have c753b0 : (t690.1 == (Go.bits .andNot .u32 a565 128)) = false := beq_eq_false_iff_ne.mpr c753
          have c753b1 : (t690.1 != (Go.bits .andNot .u32 a565 128)) = true := bne_iff_ne.mpr c753
          clear c753
          replace HS : Aside0 (Sep (fps []) w [] w750) := ⟨HS.out.sub (.cons _ .slnil)⟩
          go_wp2_with fail
          go_ret
          rw [← some_eq H]
          exact ⟨(by first | rfl | (simp [IntKind.wrap_u32]; done)), (HS.out).keep (l := []) (rest := [])⟩
      · have H := if_no c752 H
        have c752b0 : (t690.2 == 0) = false := beq_eq_false_iff_ne.mpr c752
        have c752b1 : (t690.2 != 0) = true := bne_iff_ne.mpr c752
        clear c752
        replace HS : Aside0 (Sep (fps []) w [] w750) := ⟨HS.out.sub (.cons _ .slnil)⟩
        go_wp2_with fail
        go_ret
        rw [← some_eq H]
        exact ⟨(by first | rfl | (simp [IntKind.wrap_u32]; done)), (HS.out).keep (l := []) (rest := [])⟩
    · have H := if_no c751 H
      have c751b0 : t700 = false := by simpa using c751
      have c751b1 : (!t700) = true := by rw [c751b0]; rfl
      try rw [c751b1]
      clear c751
      by_cases c756 : t690.2 = 2
      · have H := if_yes c756 H
        have c756b0 : (t690.2 == 2) = true := beq_iff_eq.mpr c756
        have c756b1 : (t690.2 != 2) = false := bne_eq_false_iff_eq.mpr c756
        clear c756
        replace HS : Aside0 (Sep (fps []) w [] w750) := ⟨HS.out.sub (.cons _ .slnil)⟩
        go_wp2_with fail
        obtain ⟨t710, HA757, H⟩ := bind_some H
        refine (quitrentlaw06_begun.calls _ t710 _ ⟨Gl.pass (l := []) (rest := []) HGl0.out HS.out⟩ ⟨Gl.pass (l := []) (rest := []) HGl1.out HS.out⟩ ⟨HS.out.begin (l := []) (rest := [])⟩ HA757).mono ?_
        rintro e_ w758 ⟨rfl, hS⟩
        replace HS : Aside0 (Sep (fps []) w [] w758) := ⟨HS.out.call (l := []) (rest := []) hS⟩
        clear hS
        go_wp2_with fail
        go_ret
        rw [← some_eq H]
        exact ⟨(by first | rfl | (simp [IntKind.wrap_u32]; done)), (HS.out).keep (l := []) (rest := [])⟩
      · have H := if_no c756 H
        have c756b0 : (t690.2 == 2) = false := beq_eq_false_iff_ne.mpr c756
        have c756b1 : (t690.2 != 2) = true := bne_iff_ne.mpr c756
        clear c756
        replace HS : Aside0 (Sep (fps []) w [] w750) := ⟨HS.out.sub (.cons _ .slnil)⟩
        go_wp2_with fail
        go_ret
        rw [← some_eq H]
        exact ⟨(by first | rfl | (simp [IntKind.wrap_u32]; done)), (HS.out).keep (l := []) (rest := [])⟩

set_option maxHeartbeats 30000000 in
set_option maxRecDepth 100000 in
theorem quitrentref06_Unpack.calls (a767 : Int) (r : Int × Int × Int × Int × Int × Int × Int) (w : World)  (HGl0 : Aside0 (Gl 0 #[.int .i64 0, .int .i64 0, .int .i64 0, .int .i64 0, .int .i64 0] (fps []) w)) (HGl1 : Aside0 (Gl 1 #[.string (⟨#[102, 114, 101, 101]⟩), .string (⟨#[115, 109, 97, 108, 108]⟩), .string (⟨#[115, 112, 105, 110, 101]⟩), .string (⟨#[108, 101, 97, 102]⟩)] (fps []) w)) (HS : Aside0 (Sep (fps []) w [] w)) (H : Aside0 (quitrentref06_Unpack.f a767 = some r)) :
    Calls Tryd.prog 22 #[.int .u32 a767] w fun e w' => e = .returned (.agg #[.int .i64 r.1, .int .i64 r.2.1, .int .i64 r.2.2.1, .int .i64 r.2.2.2.1, .int .i64 r.2.2.2.2.1, .int .i64 r.2.2.2.2.2.1, .int .i64 r.2.2.2.2.2.2]) ∧ Sep (fps []) w [] w' := by
  unfold quitrentref06_Unpack.f at H
  go_enter Tryd.func22, Tryd.ntmps22
  go_wp2_with (first | ((with_reducible refine gate_dst (N := 2) rfl ?_); refine box_on ?hg (N := 2) ?hd (cs := #[.int .i64 0, .int .i64 0, .int .i64 0, .int .i64 0, .int .i64 0, .int .i64 0, .int .i64 0]) (t := 23) ?hr ?_; (case hd => rfl); (case hg => rfl); (case hr => first | (go_simp; done) | (go_simp; rfl)); intro g768 hg w769 hbox hb; replace HS : Aside0 (Sep (fps []) w [b1 g768 0 0 0 0 0 0 0] w769) := ⟨HS.out.box hg hbox hb⟩; clear hg hbox hb; have hc771 : w769.cell? ⟨g768, 0, none⟩ = some (.int .i64 0) := blk_cellv (HS.out.at0) 0 rfl; have hz772 : w769.frozen? ⟨g768, 0, none⟩ = false := blk_fz (HS.out.at0) 0; have hc773 : w769.cell? ⟨g768, 1, none⟩ = some (.int .i64 0) := blk_cellv (HS.out.at0) 1 rfl; have hz774 : w769.frozen? ⟨g768, 1, none⟩ = false := blk_fz (HS.out.at0) 1; have hc775 : w769.cell? ⟨g768, 2, none⟩ = some (.int .i64 0) := blk_cellv (HS.out.at0) 2 rfl; have hz776 : w769.frozen? ⟨g768, 2, none⟩ = false := blk_fz (HS.out.at0) 2; have hc777 : w769.cell? ⟨g768, 3, none⟩ = some (.int .i64 0) := blk_cellv (HS.out.at0) 3 rfl; have hz778 : w769.frozen? ⟨g768, 3, none⟩ = false := blk_fz (HS.out.at0) 3; have hc779 : w769.cell? ⟨g768, 4, none⟩ = some (.int .i64 0) := blk_cellv (HS.out.at0) 4 rfl; have hz780 : w769.frozen? ⟨g768, 4, none⟩ = false := blk_fz (HS.out.at0) 4; have hc781 : w769.cell? ⟨g768, 5, none⟩ = some (.int .i64 0) := blk_cellv (HS.out.at0) 5 rfl; have hz782 : w769.frozen? ⟨g768, 5, none⟩ = false := blk_fz (HS.out.at0) 5; have hc783 : w769.cell? ⟨g768, 6, none⟩ = some (.int .i64 0) := blk_cellv (HS.out.at0) 6 rfl; have hz784 : w769.frozen? ⟨g768, 6, none⟩ = false := blk_fz (HS.out.at0) 6) | ((with_reducible refine gate_store (t := 23) (p := 2) rfl ?_); refine store_event (w1 := (World.setCell (World.setCell (World.setCell (World.setCell (World.setCell (World.setCell (World.setCell w769 ⟨g768, 0, none⟩ (.int .i64 (Int.tmod (wrap64 (a767)) 4))) ⟨g768, 1, none⟩ (.int .i64 (Int.tmod (wrap64 (Int.tdiv (wrap64 (a767)) 4)) 2))) ⟨g768, 2, none⟩ (.int .i64 (Int.tmod (wrap64 (Int.tdiv (wrap64 (a767)) 8)) 2))) ⟨g768, 3, none⟩ (.int .i64 (Int.tmod (wrap64 (Int.tdiv (wrap64 (a767)) 16)) 2))) ⟨g768, 4, none⟩ (.int .i64 (Int.tmod (wrap64 (Int.tdiv (wrap64 (a767)) 32)) 2))) ⟨g768, 5, none⟩ (.int .i64 (Int.tmod (wrap64 (Int.tdiv (wrap64 (a767)) 64)) 2))) ⟨g768, 6, none⟩ (.int .i64 (wrap64 (Int.tdiv (wrap64 (a767)) 256))))) rfl (t := 23) (p := 2) rfl rfl ?hr ?_; (case hr => first | (go_simp; done) | (go_simp; rfl)); intro w785 hst; clear hc771 hz772 hc773 hz774 hc775 hz776 hc777 hz778 hc779 hz780 hc781 hz782 hc783 hz784; replace HS : Aside0 (Sep (fps []) w [b1 g768 (Int.tmod (wrap64 (a767)) 4) (Int.tmod (wrap64 (Int.tdiv (wrap64 (a767)) 4)) 2) (Int.tmod (wrap64 (Int.tdiv (wrap64 (a767)) 8)) 2) (Int.tmod (wrap64 (Int.tdiv (wrap64 (a767)) 16)) 2) (Int.tmod (wrap64 (Int.tdiv (wrap64 (a767)) 32)) 2) (Int.tmod (wrap64 (Int.tdiv (wrap64 (a767)) 64)) 2) (wrap64 (Int.tdiv (wrap64 (a767)) 256))] w785) := ⟨by rw [hst]; exact HS.out.setAll (l1 := []) (l2 := []) [.int .i64 (Int.tmod (wrap64 (a767)) 4), .int .i64 (Int.tmod (wrap64 (Int.tdiv (wrap64 (a767)) 4)) 2), .int .i64 (Int.tmod (wrap64 (Int.tdiv (wrap64 (a767)) 8)) 2), .int .i64 (Int.tmod (wrap64 (Int.tdiv (wrap64 (a767)) 16)) 2), .int .i64 (Int.tmod (wrap64 (Int.tdiv (wrap64 (a767)) 32)) 2), .int .i64 (Int.tmod (wrap64 (Int.tdiv (wrap64 (a767)) 64)) 2), .int .i64 (wrap64 (Int.tdiv (wrap64 (a767)) 256))] rfl⟩; clear hst))
  have hc786 : w785.cell? ⟨g768, 0, none⟩ = some (.int .i64 (Int.tmod (wrap64 (a767)) 4)) := blk_cellv (HS.out.at0) 0 rfl
  have hc787 : w785.cell? ⟨g768, 1, none⟩ = some (.int .i64 (Int.tmod (wrap64 (Int.tdiv (wrap64 (a767)) 4)) 2)) := blk_cellv (HS.out.at0) 1 rfl
  have hc788 : w785.cell? ⟨g768, 2, none⟩ = some (.int .i64 (Int.tmod (wrap64 (Int.tdiv (wrap64 (a767)) 8)) 2)) := blk_cellv (HS.out.at0) 2 rfl
  have hc789 : w785.cell? ⟨g768, 3, none⟩ = some (.int .i64 (Int.tmod (wrap64 (Int.tdiv (wrap64 (a767)) 16)) 2)) := blk_cellv (HS.out.at0) 3 rfl
  have hc790 : w785.cell? ⟨g768, 4, none⟩ = some (.int .i64 (Int.tmod (wrap64 (Int.tdiv (wrap64 (a767)) 32)) 2)) := blk_cellv (HS.out.at0) 4 rfl
  have hc791 : w785.cell? ⟨g768, 5, none⟩ = some (.int .i64 (Int.tmod (wrap64 (Int.tdiv (wrap64 (a767)) 64)) 2)) := blk_cellv (HS.out.at0) 5 rfl
  have hc792 : w785.cell? ⟨g768, 6, none⟩ = some (.int .i64 (wrap64 (Int.tdiv (wrap64 (a767)) 256))) := blk_cellv (HS.out.at0) 6 rfl
  refine bodyPost_ret (v := .agg #[.int .i64 (Int.tmod (wrap64 (a767)) 4), .int .i64 (Int.tmod (wrap64 (Int.tdiv (wrap64 (a767)) 4)) 2), .int .i64 (Int.tmod (wrap64 (Int.tdiv (wrap64 (a767)) 8)) 2), .int .i64 (Int.tmod (wrap64 (Int.tdiv (wrap64 (a767)) 16)) 2), .int .i64 (Int.tmod (wrap64 (Int.tdiv (wrap64 (a767)) 32)) 2), .int .i64 (Int.tmod (wrap64 (Int.tdiv (wrap64 (a767)) 64)) 2), .int .i64 (wrap64 (Int.tdiv (wrap64 (a767)) 256))]) (by simp [results, Tryd.results22, go_sem, hc786, hc787, hc788, hc789, hc790, hc791, hc792]) rfl ?_
  rw [← some_eq H]
  exact ⟨(by first | rfl | (simp [IntKind.wrap_u32]; done)), (HS.out).keep (l := []) (rest := [b1 g768 (Int.tmod (wrap64 (a767)) 4) (Int.tmod (wrap64 (Int.tdiv (wrap64 (a767)) 4)) 2) (Int.tmod (wrap64 (Int.tdiv (wrap64 (a767)) 8)) 2) (Int.tmod (wrap64 (Int.tdiv (wrap64 (a767)) 16)) 2) (Int.tmod (wrap64 (Int.tdiv (wrap64 (a767)) 32)) 2) (Int.tmod (wrap64 (Int.tdiv (wrap64 (a767)) 64)) 2) (wrap64 (Int.tdiv (wrap64 (a767)) 256))])⟩

set_option maxHeartbeats 30000000 in
set_option maxRecDepth 100000 in
theorem quitrentlaw06_TagUnpacks.calls (k : Nat) (a759 : Int) (r : Bool) (w : World)  (HGl0 : Aside0 (Gl 0 #[.int .i64 0, .int .i64 0, .int .i64 0, .int .i64 0, .int .i64 0] (fps []) w)) (HGl1 : Aside0 (Gl 1 #[.string (⟨#[102, 114, 101, 101]⟩), .string (⟨#[115, 109, 97, 108, 108]⟩), .string (⟨#[115, 112, 105, 110, 101]⟩), .string (⟨#[108, 101, 97, 102]⟩)] (fps []) w)) (HS : Aside0 (Sep (fps []) w [] w)) (H : Aside0 (quitrentlaw06_TagUnpacks.f k a759 = some r)) :
    Calls Tryd.prog 6 #[.int .u32 a759] w fun e w' => e = .returned (.bool r) ∧ Sep (fps []) w [] w' := by
  unfold quitrentlaw06_TagUnpacks.f at H
  go_enter Tryd.func6, Tryd.ntmps6
  go_wp2_with fail
  obtain ⟨t760, HA761, H⟩ := bind_some H
  refine (quitrentlaw06_begun.calls _ t760 _ ⟨Gl.pass (l := []) (rest := []) HGl0.out HS.out⟩ ⟨Gl.pass (l := []) (rest := []) HGl1.out HS.out⟩ ⟨HS.out.begin (l := []) (rest := [])⟩ HA761).mono ?_
  rintro e_ w762 ⟨rfl, hS⟩
  replace HS : Aside0 (Sep (fps []) w [] w762) := ⟨HS.out.call (l := []) (rest := []) hS⟩
  clear hS
  by_cases c763 : t760 = true
  · have H := if_yes c763 H
    have c763b0 : t760 = true := c763
    have c763b1 : (!t760) = false := by rw [c763b0]; rfl
    clear c763
    go_wp2_with fail
    obtain ⟨t764, HA765, H⟩ := bind_some H
    refine (tag_Unpack.calls a759 t764 _ ⟨Gl.pass (l := []) (rest := []) HGl0.out HS.out⟩ ⟨Gl.pass (l := []) (rest := []) HGl1.out HS.out⟩ ⟨HS.out.begin (l := []) (rest := [])⟩ HA765).mono ?_
    rintro e_ w766 ⟨rfl, hS⟩
    replace HS : Aside0 (Sep (fps []) w [] w766) := ⟨HS.out.call (l := []) (rest := []) hS⟩
    clear hS
    go_wp2_with fail
    obtain ⟨t793, HA794, H⟩ := bind_some H
    refine (quitrentref06_Unpack.calls a759 t793 _ ⟨Gl.pass (l := []) (rest := []) HGl0.out HS.out⟩ ⟨Gl.pass (l := []) (rest := []) HGl1.out HS.out⟩ ⟨HS.out.begin (l := []) (rest := [])⟩ HA794).mono ?_
    rintro e_ w795 ⟨rfl, hS⟩
    replace HS : Aside0 (Sep (fps []) w [] w795) := ⟨HS.out.call (l := []) (rest := []) hS⟩
    clear hS
    by_cases c796 : t764.1 = t793.1
    · have H := if_yes c796 H
      have c796b0 : (t764.1 == t793.1) = true := beq_iff_eq.mpr c796
      have c796b1 : (t764.1 != t793.1) = false := bne_eq_false_iff_eq.mpr c796
      clear c796
      by_cases c797 : t764.2.1 = t793.2.1
      · have H := if_yes c797 H
        have c797b0 : (t764.2.1 == t793.2.1) = true := beq_iff_eq.mpr c797
        have c797b1 : (t764.2.1 != t793.2.1) = false := bne_eq_false_iff_eq.mpr c797
        clear c797
        by_cases c798 : t764.2.2.1 = t793.2.2.1
        · have H := if_yes c798 H
          have c798b0 : (t764.2.2.1 == t793.2.2.1) = true := beq_iff_eq.mpr c798
          have c798b1 : (t764.2.2.1 != t793.2.2.1) = false := bne_eq_false_iff_eq.mpr c798
          clear c798
          by_cases c799 : t764.2.2.2.1 = t793.2.2.2.1
          · have H := if_yes c799 H
            have c799b0 : (t764.2.2.2.1 == t793.2.2.2.1) = true := beq_iff_eq.mpr c799
            have c799b1 : (t764.2.2.2.1 != t793.2.2.2.1) = false := bne_eq_false_iff_eq.mpr c799
            clear c799
            by_cases c800 : t764.2.2.2.2.1 = t793.2.2.2.2.1
            · have H := if_yes c800 H
              have c800b0 : (t764.2.2.2.2.1 == t793.2.2.2.2.1) = true := beq_iff_eq.mpr c800
              have c800b1 : (t764.2.2.2.2.1 != t793.2.2.2.2.1) = false := bne_eq_false_iff_eq.mpr c800
              clear c800
              by_cases c801 : t764.2.2.2.2.2.1 = t793.2.2.2.2.2.1
              · have H := if_yes c801 H
                have c801b0 : (t764.2.2.2.2.2.1 == t793.2.2.2.2.2.1) = true := beq_iff_eq.mpr c801
                have c801b1 : (t764.2.2.2.2.2.1 != t793.2.2.2.2.2.1) = false := bne_eq_false_iff_eq.mpr c801
                clear c801
                by_cases c802 : t764.2.2.2.2.2.2 = t793.2.2.2.2.2.2
                · have H := if_yes c802 H
                  have c802b0 : (t764.2.2.2.2.2.2 == t793.2.2.2.2.2.2) = true := beq_iff_eq.mpr c802
                  have c802b1 : (t764.2.2.2.2.2.2 != t793.2.2.2.2.2.2) = false := bne_eq_false_iff_eq.mpr c802
                  clear c802
                  go_wp2_with fail
                  go_ret
                  rw [← some_eq H]
                  exact ⟨(by first | rfl | (simp [IntKind.wrap_u32]; done)), (HS.out).keep (l := []) (rest := [])⟩
                · have H := if_no c802 H
                  have c802b0 : (t764.2.2.2.2.2.2 == t793.2.2.2.2.2.2) = false := beq_eq_false_iff_ne.mpr c802
                  have c802b1 : (t764.2.2.2.2.2.2 != t793.2.2.2.2.2.2) = true := bne_iff_ne.mpr c802
                  clear c802
                  go_wp2_with fail
                  go_ret
                  rw [← some_eq H]
                  exact ⟨(by first | rfl | (simp [IntKind.wrap_u32]; done)), (HS.out).keep (l := []) (rest := [])⟩
              · have H := if_no c801 H
                have c801b0 : (t764.2.2.2.2.2.1 == t793.2.2.2.2.2.1) = false := beq_eq_false_iff_ne.mpr c801
                have c801b1 : (t764.2.2.2.2.2.1 != t793.2.2.2.2.2.1) = true := bne_iff_ne.mpr c801
                clear c801
                go_wp2_with fail
                go_ret
                rw [← some_eq H]
                exact ⟨(by first | rfl | (simp [IntKind.wrap_u32]; done)), (HS.out).keep (l := []) (rest := [])⟩
            · have H := if_no c800 H
              have c800b0 : (t764.2.2.2.2.1 == t793.2.2.2.2.1) = false := beq_eq_false_iff_ne.mpr c800
              have c800b1 : (t764.2.2.2.2.1 != t793.2.2.2.2.1) = true := bne_iff_ne.mpr c800
              clear c800
              go_wp2_with fail
              go_ret
              rw [← some_eq H]
              exact ⟨(by first | rfl | (simp [IntKind.wrap_u32]; done)), (HS.out).keep (l := []) (rest := [])⟩
          · have H := if_no c799 H
            have c799b0 : (t764.2.2.2.1 == t793.2.2.2.1) = false := beq_eq_false_iff_ne.mpr c799
            have c799b1 : (t764.2.2.2.1 != t793.2.2.2.1) = true := bne_iff_ne.mpr c799
            clear c799
            go_wp2_with fail
            go_ret
            rw [← some_eq H]
            exact ⟨(by first | rfl | (simp [IntKind.wrap_u32]; done)), (HS.out).keep (l := []) (rest := [])⟩
        · have H := if_no c798 H
          have c798b0 : (t764.2.2.1 == t793.2.2.1) = false := beq_eq_false_iff_ne.mpr c798
          have c798b1 : (t764.2.2.1 != t793.2.2.1) = true := bne_iff_ne.mpr c798
          clear c798
          go_wp2_with fail
          go_ret
          rw [← some_eq H]
          exact ⟨(by first | rfl | (simp [IntKind.wrap_u32]; done)), (HS.out).keep (l := []) (rest := [])⟩
      · have H := if_no c797 H
        have c797b0 : (t764.2.1 == t793.2.1) = false := beq_eq_false_iff_ne.mpr c797
        have c797b1 : (t764.2.1 != t793.2.1) = true := bne_iff_ne.mpr c797
        clear c797
        go_wp2_with fail
        go_ret
        rw [← some_eq H]
        exact ⟨(by first | rfl | (simp [IntKind.wrap_u32]; done)), (HS.out).keep (l := []) (rest := [])⟩
    · have H := if_no c796 H
      have c796b0 : (t764.1 == t793.1) = false := beq_eq_false_iff_ne.mpr c796
      have c796b1 : (t764.1 != t793.1) = true := bne_iff_ne.mpr c796
      clear c796
      go_wp2_with fail
      go_ret
      rw [← some_eq H]
      exact ⟨(by first | rfl | (simp [IntKind.wrap_u32]; done)), (HS.out).keep (l := []) (rest := [])⟩
  · have H := if_no c763 H
    have c763b0 : t760 = false := by simpa using c763
    have c763b1 : (!t760) = true := by rw [c763b0]; rfl
    clear c763
    go_wp2_with fail
    go_ret
    rw [← some_eq H]
    exact ⟨(by first | rfl | (simp [IntKind.wrap_u32]; done)), (HS.out).keep (l := []) (rest := [])⟩
end Go.Proofs.YtgkpcboaiaiahabDoor.C

/- Each function of the group TN does what its plain function says, and changes nothing that was there; proved by walking its code. No condition. -/
import Derived.Test.YtobeonkddamnoaaGreatDoorQw
import Derived.Test.YtobeonkddamnoaaGreatDoorMTN
import Derived.Test.YtobeonkddamnoaaGreatDoorGTN0
import Derived.Test.YtobeonkddamnoaaGreatDoorGTN1
namespace Go.Proofs.YtobeonkddamnoaaGreatDoor.C
open Go.RowKit Go.Proofs.YtobeonkddamnoaaGreatDoorW.PrintWords Go.Proofs.YtobeonkddamnoaaGreatDoorW.PrintLast Go.Proofs.YtobeonkddamnoaaGreatDoor.Q Go.Proofs.YtobeonkddamnoaaGreatDoor.M
set_option linter.unusedVariables false
set_option linter.unusedSimpArgs false
set_option maxHeartbeats 30000000 in
set_option maxRecDepth 100000 in
theorem plan_Of.calls (k : Nat) (a1425 : Int) (a1426 : Int) (a1427 : Int) (a1428 : Int) (r : Int × Int × Int × Int × Int × Int × Int × Int × Int) (w : World)  (HGl0 : Aside0 (Gl 0 #[.int .i64 0, .int .i64 0, .int .i64 0, .int .i64 0, .int .i64 0] (fps []) w)) (HS : Aside0 (Sep (fps []) w [] w)) (H : Aside0 (plan_Of.f k a1425 a1426 a1427 a1428 = some r)) :
    Calls Tryz.prog 94 #[.agg #[.int .i64 a1425, .int .i64 a1426, .int .i64 a1427, .int .i64 a1428]] w fun e w' => e = .returned (.tuple #[.agg #[.int .i64 r.1, .int .i64 r.2.1, .int .i64 r.2.2.1, .int .i64 r.2.2.2.1, .int .i64 r.2.2.2.2.1, .int .i64 r.2.2.2.2.2.1, .int .i64 r.2.2.2.2.2.2.1, .int .i64 r.2.2.2.2.2.2.2.1], .int .i64 r.2.2.2.2.2.2.2.2]) ∧ Sep (fps []) w [] w' := by
  unfold plan_Of.f at H
  go_enter Tryz.func94, Tryz.ntmps94
  go_wp2_with (first | ((with_reducible refine gate_dst (N := 1) rfl ?_); refine box_on ?hg (N := 1) ?hd (cs := #[.int .i64 a1425, .int .i64 a1426, .int .i64 a1427, .int .i64 a1428]) (t := 29) ?hr ?_; (case hd => rfl); (case hg => rfl); (case hr => first | (go_simp; done) | (go_simp; rfl)); intro g1429 hg w1430 hbox hb; replace HS : Aside0 (Sep (fps []) w [b4 g1429 a1425 a1426 a1427 a1428] w1430) := ⟨HS.out.box hg hbox hb⟩; clear hg hbox hb) | ((with_reducible refine gate_dst (N := 2) rfl ?_); refine box_on ?hg (N := 2) ?hd (cs := #[.int .i64 0, .int .i64 0, .int .i64 0, .int .i64 0, .int .i64 0, .int .i64 0, .int .i64 0, .int .i64 0]) (t := 115) ?hr ?_; (case hd => rfl); (case hg => rfl); (case hr => first | (go_simp; done) | (go_simp; rfl)); intro g1432 hg w1433 hbox hb; replace HS : Aside0 (Sep (fps []) w [b4 g1429 a1425 a1426 a1427 a1428, b10 g1432 0 0 0 0 0 0 0 0] w1433) := ⟨HS.out.box hg hbox hb⟩; clear hg hbox hb; have hc1435 : w1433.cell? ⟨g1429, 0, none⟩ = some (.int .i64 a1425) := blk_cellv (HS.out.at0) 0 rfl; have hc1436 : w1433.cell? ⟨g1429, 1, none⟩ = some (.int .i64 a1426) := blk_cellv (HS.out.at0) 1 rfl; have hc1437 : w1433.cell? ⟨g1429, 2, none⟩ = some (.int .i64 a1427) := blk_cellv (HS.out.at0) 2 rfl; have hc1438 : w1433.cell? ⟨g1429, 3, none⟩ = some (.int .i64 a1428) := blk_cellv (HS.out.at0) 3 rfl))
  clear hc1435 hc1436 hc1437 hc1438
  obtain ⟨t1480, HA1481, H⟩ := bind_some H
  refine (plan_Check.calls a1425 a1426 a1427 a1428 t1480 _ ⟨HGl0.out.pass (l := []) HS.out⟩ ⟨Sep.start _⟩ HA1481).mono ?_
  rintro e_ w1482 ⟨rfl, hS⟩
  replace HS : Aside0 (Sep (fps []) w [b4 g1429 a1425 a1426 a1427 a1428, b10 g1432 0 0 0 0 0 0 0 0] w1482) := ⟨HS.out.call hS⟩
  clear hS
  by_cases c1483 : t1480 = 0
  · have H := if_yes c1483 H
    have c1483b0 : (t1480 == 0) = true := beq_iff_eq.mpr c1483
    have c1483b1 : (t1480 != 0) = false := bne_eq_false_iff_eq.mpr c1483
    clear c1483
    go_wp2_with fail
    obtain ⟨t1560, HA1561, H⟩ := bind_some H
    obtain ⟨t1586, HA1587, H⟩ := bind_some H
    go_cut [5] (fun v5 wc => ∃ (g1486 : Nat) (g1563 : Nat) (g1589 : Nat), v5 = .pointer (some ⟨g1589, 0, none⟩) ∧ Aside0 (Sep (fps []) w [b4 g1429 a1425 a1426 a1427 a1428, b10 g1432 0 0 0 0 0 0 0 0, b11 g1486 a1425 a1426, b12 g1563 24 a1427 t1560, b10 g1589 t1586 (wrap64 (a1426 - 8)) 0 0 0 0 0 0] wc))
    case first =>
      go_wp2_with fail
      refine start_ (n := 16) (S := (fun w' => w'.cell? ⟨g1429, 2, none⟩ = some (.int .i64 a1427) ∧ w'.cell? ⟨g1429, 0, none⟩ = some (.int .i64 a1425) ∧ w'.cell? ⟨g1429, 1, none⟩ = some (.int .i64 a1426))) (ds := []) #[false, false, false, false, false, false, false, false, false, false, false, false, false, false, false, false] (by kernel_rfl) rfl rfl (⟨blk_cellv ((HS.out.drew).at0) 2 rfl, blk_cellv ((HS.out.drew).at0) 0 rfl, blk_cellv ((HS.out.drew).at0) 1 rfl⟩) (fun hHeld => ?_)
      have HS_ := Aside0.mk HS.out.drew
      clear HS
      generalize World.drew _ = w1611 at HS_ hHeld ⊢
      have HS := HS_
      clear HS_
      refine pure_ (i := 0) (N := some 12) (v := ?_) (a' := ?_) #[true, false, false, false, false, false, false, false, false, false, false, false, false, false, false, false] rfl rfl (by kernel_rfl) (fun _ _ _ h => h) (Or.inl ⟨by rfl, ?_⟩) ?_ ?_
      rotate_left
      · intro w'
        go_simp
        with_reducible rfl
      rotate_left
      · simp only [Act.put, List.setIfInBounds_toArray, List.set_cons_zero, List.set_cons_succ, i64_w, i32_w]
        rfl
      refine pure_ (i := 2) (N := some 14) (v := ?_) (a' := ?_) #[true, false, true, false, false, false, false, false, false, false, false, false, false, false, false, false] rfl rfl (by kernel_rfl) (fun _ _ _ h => h) (Or.inl ⟨by rfl, ?_⟩) ?_ ?_
      rotate_left
      · intro w'
        go_simp
        with_reducible rfl
      rotate_left
      · simp only [Act.put, List.setIfInBounds_toArray, List.set_cons_zero, List.set_cons_succ, i64_w, i32_w]
        rfl
      refine pure_ (i := 4) (N := some 16) (v := ?_) (a' := ?_) #[true, false, true, false, true, false, false, false, false, false, false, false, false, false, false, false] rfl rfl (by kernel_rfl) (fun _ _ _ h => h) (Or.inl ⟨by rfl, ?_⟩) ?_ ?_
      rotate_left
      · intro w'
        go_simp
        with_reducible rfl
      rotate_left
      · simp only [Act.put, List.setIfInBounds_toArray, List.set_cons_zero, List.set_cons_succ, i64_w, i32_w]
        rfl
      refine pure_ (i := 10) (N := some 22) (v := ?_) (a' := ?_) #[true, false, true, false, true, false, false, false, false, false, true, false, false, false, false, false] rfl rfl (by kernel_rfl) (fun _ _ _ h => h) (Or.inl ⟨by rfl, ?_⟩) ?_ ?_
      rotate_left
      · intro w'
        go_simp
        with_reducible rfl
      rotate_left
      · simp only [Act.put, List.setIfInBounds_toArray, List.set_cons_zero, List.set_cons_succ, i64_w, i32_w]
        rfl
      refine take_ (i := 1) (N := some 13) (v := ?_) (a' := ?_) #[true, true, true, false, true, false, false, false, false, false, true, false, false, false, false, false] rfl rfl (by kernel_rfl) (fun _ _ _ h => h) (Or.inl ⟨by rfl, ?_⟩) hHeld ?_ ?_
      rotate_left
      · rintro w' hS'
        obtain ⟨s0, s1, s2⟩ := hS'
        go_simp
        with_reducible rfl
      rotate_left
      · simp only [Act.put, List.setIfInBounds_toArray, List.set_cons_zero, List.set_cons_succ, i64_w, i32_w]
        rfl
      refine take_ (i := 3) (N := some 15) (v := ?_) (a' := ?_) #[true, true, true, true, true, false, false, false, false, false, true, false, false, false, false, false] rfl rfl (by kernel_rfl) (fun _ _ _ h => h) (Or.inl ⟨by rfl, ?_⟩) hHeld ?_ ?_
      rotate_left
      · rintro w' hS'
        obtain ⟨s0, s1, s2⟩ := hS'
        go_simp
        with_reducible rfl
      rotate_left
      · simp only [Act.put, List.setIfInBounds_toArray, List.set_cons_zero, List.set_cons_succ, i64_w, i32_w]
        rfl
      refine take_ (i := 5) (N := some 17) (v := ?_) (a' := ?_) #[true, true, true, true, true, true, false, false, false, false, true, false, false, false, false, false] rfl rfl (by kernel_rfl) (fun _ _ _ h => h) (Or.inl ⟨by rfl, ?_⟩) hHeld ?_ ?_
      rotate_left
      · rintro w' hS'
        obtain ⟨s0, s1, s2⟩ := hS'
        go_simp
        with_reducible rfl
      rotate_left
      · simp only [Act.put, List.setIfInBounds_toArray, List.set_cons_zero, List.set_cons_succ, i64_w, i32_w]
        rfl
      refine take_ (i := 11) (N := some 23) (v := ?_) (a' := ?_) #[true, true, true, true, true, true, false, false, false, false, true, true, false, false, false, false] rfl rfl (by kernel_rfl) (fun _ _ _ h => h) (Or.inl ⟨by rfl, ?_⟩) hHeld ?_ ?_
      rotate_left
      · rintro w' hS'
        obtain ⟨s0, s1, s2⟩ := hS'
        go_simp
        with_reducible rfl
      rotate_left
      · simp only [Act.put, List.setIfInBounds_toArray, List.set_cons_zero, List.set_cons_succ, i64_w, i32_w]
        rfl
      refine pure_ (i := 12) (N := some 24) (v := ?_) (a' := ?_) #[true, true, true, true, true, true, false, false, false, false, true, true, true, false, false, false] rfl rfl (by kernel_rfl) (fun _ _ _ h => h) (Or.inl ⟨by rfl, ?_⟩) ?_ ?_
      rotate_left
      · intro w'
        go_simp
        with_reducible rfl
      rotate_left
      · simp only [Act.put, List.setIfInBounds_toArray, List.set_cons_zero, List.set_cons_succ, i64_w, i32_w]
        rfl
      refine two_ (i := 6) (j := 14) (Ni := some 18) (Nj := some 5) #[true, true, true, true, true, true, true, false, false, false, true, true, true, false, false, false] #[true, true, true, true, true, true, false, false, false, false, true, true, true, false, true, false] rfl rfl rfl rfl (by kernel_rfl) (by decide) (by decide) (fun K hK => ?_) (fun K hK => ?_)
      · refine slice_step (n := 2) (by rfl) (N := 18) rfl (cs := #[.int .i64 a1425, .int .i64 a1426]) (t := 3) ?hr ?_
        case hr => first | (go_simp; done) | (go_simp; rfl)
        intro g1612 hg w1613 hbox hb
        replace HS : Aside0 (Sep (fps []) w [b4 g1429 a1425 a1426 a1427 a1428, b10 g1432 0 0 0 0 0 0 0 0, b11 g1612 a1425 a1426] w1613) := ⟨HS.out.box hg hbox hb⟩
        clear hg hbox hb
        refine hK.out _ _ (⟨blk_cellv (HS.out.at0) 2 rfl, blk_cellv (HS.out.at0) 0 rfl, blk_cellv (HS.out.at0) 1 rfl⟩) (fun hHeld => ?_)
        clear hK K
        refine norm_ (a' := ?_) ?_ ?_
        rotate_left
        · show Act.put _ (some 18) _ = _
          simp only [Act.put, List.setIfInBounds_toArray, List.set_cons_zero, List.set_cons_succ, i64_w, i32_w]
          rfl
        refine two_ (i := 7) (j := 14) (Ni := some 19) (Nj := some 5) #[true, true, true, true, true, true, true, true, false, false, true, true, true, false, false, false] #[true, true, true, true, true, true, true, false, false, false, true, true, true, false, true, false] rfl rfl rfl rfl (by kernel_rfl) (by decide) (by decide) (fun K hK => ?_) (fun K hK => ?_)
        · refine goes_ Tryz.func140 (by kernel_rfl) rfl #[.slice (some ⟨g1612, 0, none⟩) 2 2] (by rfl) rfl rfl (by (try simp only [List.map_toArray, List.map_cons, List.map_nil]); first | done | rfl) ?_
          refine (ratio_Mul.calls _ [a1425, a1426] (some ⟨g1612, 0, none⟩) 2 t1560 _ ⟨Rd.lit (l := []) (xs := [a1425, a1426]) HS.out 2 rfl (by simp)⟩ ⟨HGl0.out.pass (l := []) HS.out⟩ ⟨Sep.start _⟩ HA1561).mono ?_
          rintro e_ w1616 ⟨rfl, hS⟩
          replace HS : Aside0 (Sep (fps []) w [b4 g1429 a1425 a1426 a1427 a1428, b10 g1432 0 0 0 0 0 0 0 0, b11 g1612 a1425 a1426] w1616) := ⟨HS.out.call hS⟩
          clear hS
          refine ⟨_, rfl, ?_⟩
          refine hK.out _ _ (⟨blk_cellv (HS.out.at0) 2 rfl, blk_cellv (HS.out.at0) 0 rfl, blk_cellv (HS.out.at0) 1 rfl⟩) (fun hHeld => ?_)
          clear hK K
          refine norm_ (a' := ?_) ?_ ?_
          rotate_left
          · show Act.put _ (some 19) _ = _
            simp only [Act.put, List.setIfInBounds_toArray, List.set_cons_zero, List.set_cons_succ, i64_w, i32_w]
            rfl
          refine two_ (i := 8) (j := 14) (Ni := some 20) (Nj := some 5) #[true, true, true, true, true, true, true, true, true, false, true, true, true, false, false, false] #[true, true, true, true, true, true, true, true, false, false, true, true, true, false, true, false] rfl rfl rfl rfl (by kernel_rfl) (by decide) (by decide) (fun K hK => ?_) (fun K hK => ?_)
          · refine slice_step (n := 3) (by rfl) (N := 20) rfl (cs := #[.int .i64 24, .int .i64 a1427, .int .i64 t1560]) (t := 3) ?hr ?_
            case hr => first | (go_simp; done) | (go_simp; rfl)
            intro g1617 hg w1618 hbox hb
            replace HS : Aside0 (Sep (fps []) w [b4 g1429 a1425 a1426 a1427 a1428, b10 g1432 0 0 0 0 0 0 0 0, b11 g1612 a1425 a1426, b12 g1617 24 a1427 t1560] w1618) := ⟨HS.out.box hg hbox hb⟩
            clear hg hbox hb
            refine hK.out _ _ (⟨blk_cellv (HS.out.at0) 2 rfl, blk_cellv (HS.out.at0) 0 rfl, blk_cellv (HS.out.at0) 1 rfl⟩) (fun hHeld => ?_)
            clear hK K
            refine norm_ (a' := ?_) ?_ ?_
            rotate_left
            · show Act.put _ (some 20) _ = _
              simp only [Act.put, List.setIfInBounds_toArray, List.set_cons_zero, List.set_cons_succ, i64_w, i32_w]
              rfl
            refine two_ (i := 9) (j := 14) (Ni := some 21) (Nj := some 5) #[true, true, true, true, true, true, true, true, true, true, true, true, true, false, false, false] #[true, true, true, true, true, true, true, true, true, false, true, true, true, false, true, false] rfl rfl rfl rfl (by kernel_rfl) (by decide) (by decide) (fun K hK => ?_) (fun K hK => ?_)
            · refine goes_ Tryz.func139 (by kernel_rfl) rfl #[.slice (some ⟨g1617, 0, none⟩) 3 3] (by rfl) rfl rfl (by (try simp only [List.map_toArray, List.map_cons, List.map_nil]); first | done | rfl) ?_
              refine (ratio_Add.calls _ [24, a1427, t1560] (some ⟨g1617, 0, none⟩) 3 t1586 _ ⟨Rd.lit (l := []) (xs := [24, a1427, t1560]) HS.out 3 rfl (by simp)⟩ ⟨HGl0.out.pass (l := []) HS.out⟩ ⟨Sep.start _⟩ HA1587).mono ?_
              rintro e_ w1621 ⟨rfl, hS⟩
              replace HS : Aside0 (Sep (fps []) w [b4 g1429 a1425 a1426 a1427 a1428, b10 g1432 0 0 0 0 0 0 0 0, b11 g1612 a1425 a1426, b12 g1617 24 a1427 t1560] w1621) := ⟨HS.out.call hS⟩
              clear hS
              refine ⟨_, rfl, ?_⟩
              refine hK.out _ _ (⟨blk_cellv (HS.out.at0) 2 rfl, blk_cellv (HS.out.at0) 0 rfl, blk_cellv (HS.out.at0) 1 rfl⟩) (fun hHeld => ?_)
              clear hK K
              refine norm_ (a' := ?_) ?_ ?_
              rotate_left
              · show Act.put _ (some 21) _ = _
                simp only [Act.put, List.setIfInBounds_toArray, List.set_cons_zero, List.set_cons_succ, i64_w, i32_w]
                rfl
              refine pure_ (i := 13) (N := some 25) (v := ?_) (a' := ?_) #[true, true, true, true, true, true, true, true, true, true, true, true, true, true, false, false] rfl rfl (by kernel_rfl) (fun _ _ _ h => h) (Or.inl ⟨by rfl, ?_⟩) ?_ ?_
              rotate_left
              · intro w'
                go_simp
                with_reducible rfl
              rotate_left
              · simp only [Act.put, List.setIfInBounds_toArray, List.set_cons_zero, List.set_cons_succ, i64_w, i32_w]
                rfl
              refine one_ (i := 14) (N := some 5) #[true, true, true, true, true, true, true, true, true, true, true, true, true, true, true, false] rfl rfl (by kernel_rfl) (by decide) (fun K hK => ?_)
              refine box_step (by rfl) (N := 5) rfl (cs := #[.int .i64 0, .int .i64 0, .int .i64 0, .int .i64 0, .int .i64 0, .int .i64 0, .int .i64 0, .int .i64 0]) (t := 115) ?hr ?_
              case hr => first | (go_simp; done) | (go_simp; rfl)
              intro g1622 hg w1623 hbox hb
              replace HS : Aside0 (Sep (fps []) w [b4 g1429 a1425 a1426 a1427 a1428, b10 g1432 0 0 0 0 0 0 0 0, b11 g1612 a1425 a1426, b12 g1617 24 a1427 t1560, b10 g1622 0 0 0 0 0 0 0 0] w1623) := ⟨HS.out.box hg hbox hb⟩
              clear hg hbox hb
              refine hK.out _ _ (⟨blk_cellv (HS.out.at0) 2 rfl, blk_cellv (HS.out.at0) 0 rfl, blk_cellv (HS.out.at0) 1 rfl⟩) (fun hHeld => ?_)
              clear hK K
              refine norm_ (a' := ?_) ?_ ?_
              rotate_left
              · show Act.put _ (some 5) _ = _
                simp only [Act.put, List.setIfInBounds_toArray, List.set_cons_zero, List.set_cons_succ, i64_w, i32_w]
                rfl
              refine one_ (i := 15) (N := none) #[true, true, true, true, true, true, true, true, true, true, true, true, true, true, true, true] rfl rfl (by kernel_rfl) (by decide) (fun K hK => ?_)
              have hc1626 := blk_cellv (v := .int .i64 0) (HS.out.at4) 0 rfl
              have hz1627 := blk_fz (HS.out.at4) 0
              have hc1628 := blk_cellv (v := .int .i64 0) (HS.out.at4) 1 rfl
              have hz1629 := blk_fz (HS.out.at4) 1
              have hc1630 := blk_cellv (v := .int .i64 0) (HS.out.at4) 2 rfl
              have hz1631 := blk_fz (HS.out.at4) 2
              have hc1632 := blk_cellv (v := .int .i64 0) (HS.out.at4) 3 rfl
              have hz1633 := blk_fz (HS.out.at4) 3
              have hc1634 := blk_cellv (v := .int .i64 0) (HS.out.at4) 4 rfl
              have hz1635 := blk_fz (HS.out.at4) 4
              have hc1636 := blk_cellv (v := .int .i64 0) (HS.out.at4) 5 rfl
              have hz1637 := blk_fz (HS.out.at4) 5
              have hc1638 := blk_cellv (v := .int .i64 0) (HS.out.at4) 6 rfl
              have hz1639 := blk_fz (HS.out.at4) 6
              have hc1640 := blk_cellv (v := .int .i64 0) (HS.out.at4) 7 rfl
              have hz1641 := blk_fz (HS.out.at4) 7
              refine store_step (w1 := (World.setCell (World.setCell (World.setCell (World.setCell (World.setCell (World.setCell (World.setCell (World.setCell w1623 ⟨g1622, 0, none⟩ (.int .i64 t1586)) ⟨g1622, 1, none⟩ (.int .i64 (wrap64 (a1426 - 8)))) ⟨g1622, 2, none⟩ (.int .i64 0)) ⟨g1622, 3, none⟩ (.int .i64 0)) ⟨g1622, 4, none⟩ (.int .i64 0)) ⟨g1622, 5, none⟩ (.int .i64 0)) ⟨g1622, 6, none⟩ (.int .i64 0)) ⟨g1622, 7, none⟩ (.int .i64 0))) (by rfl) rfl ?hr ?_
              case hr => first | (go_simp; done) | (go_simp; rfl)
              clear hc1626 hz1627 hc1628 hz1629 hc1630 hz1631 hc1632 hz1633 hc1634 hz1635 hc1636 hz1637 hc1638 hz1639 hc1640 hz1641
              intro w1625 hst
              replace HS : Aside0 (Sep (fps []) w [b4 g1429 a1425 a1426 a1427 a1428, b10 g1432 0 0 0 0 0 0 0 0, b11 g1612 a1425 a1426, b12 g1617 24 a1427 t1560, b10 g1622 t1586 (wrap64 (a1426 - 8)) 0 0 0 0 0 0] w1625) := ⟨by rw [hst]; exact HS.out.setAll (l1 := [b4 g1429 a1425 a1426 a1427 a1428, b10 g1432 0 0 0 0 0 0 0 0, b11 g1612 a1425 a1426, b12 g1617 24 a1427 t1560]) (l2 := []) [.int .i64 t1586, .int .i64 (wrap64 (a1426 - 8)), .int .i64 0, .int .i64 0, .int .i64 0, .int .i64 0, .int .i64 0, .int .i64 0] rfl⟩
              clear hst
              refine hK.out _ _ (⟨blk_cellv (HS.out.at0) 2 rfl, blk_cellv (HS.out.at0) 0 rfl, blk_cellv (HS.out.at0) 1 rfl⟩) (fun hHeld => ?_)
              clear hK K
              refine done_ (by kernel_rfl) ?_
              go_wp2_with fail
              go_meet
              case rel => exact ⟨g1612, g1617, g1622, (by first | rfl | (simp [IntKind.wrap_u32]; done)), ⟨(((((HS.out).front 4 (by simp)).front 4 (by simp)).front 4 (by simp)).front 4 (by simp)).front 4 (by simp)⟩⟩
            · refine box_step (by rfl) (N := 5) rfl (cs := #[.int .i64 0, .int .i64 0, .int .i64 0, .int .i64 0, .int .i64 0, .int .i64 0, .int .i64 0, .int .i64 0]) (t := 115) ?hr ?_
              case hr => first | (go_simp; done) | (go_simp; rfl)
              intro g1642 hg w1643 hbox hb
              replace HS : Aside0 (Sep (fps []) w [b4 g1429 a1425 a1426 a1427 a1428, b10 g1432 0 0 0 0 0 0 0 0, b11 g1612 a1425 a1426, b12 g1617 24 a1427 t1560, b10 g1642 0 0 0 0 0 0 0 0] w1643) := ⟨HS.out.box hg hbox hb⟩
              clear hg hbox hb
              refine hK.out _ _ (⟨blk_cellv (HS.out.at0) 2 rfl, blk_cellv (HS.out.at0) 0 rfl, blk_cellv (HS.out.at0) 1 rfl⟩) (fun hHeld => ?_)
              clear hK K
              refine norm_ (a' := ?_) ?_ ?_
              rotate_left
              · show Act.put _ (some 5) _ = _
                simp only [Act.put, List.setIfInBounds_toArray, List.set_cons_zero, List.set_cons_succ, i64_w, i32_w]
                rfl
              refine one_ (i := 9) (N := some 21) #[true, true, true, true, true, true, true, true, true, true, true, true, true, false, true, false] rfl rfl (by kernel_rfl) (by decide) (fun K hK => ?_)
              refine goes_ Tryz.func139 (by kernel_rfl) rfl #[.slice (some ⟨g1617, 0, none⟩) 3 3] (by rfl) rfl rfl (by (try simp only [List.map_toArray, List.map_cons, List.map_nil]); first | done | rfl) ?_
              refine (ratio_Add.calls _ [24, a1427, t1560] (some ⟨g1617, 0, none⟩) 3 t1586 _ ⟨Rd.lit (l := []) (xs := [24, a1427, t1560]) HS.out 3 rfl (by simp)⟩ ⟨HGl0.out.pass (l := []) HS.out⟩ ⟨Sep.start _⟩ HA1587).mono ?_
              rintro e_ w1646 ⟨rfl, hS⟩
              replace HS : Aside0 (Sep (fps []) w [b4 g1429 a1425 a1426 a1427 a1428, b10 g1432 0 0 0 0 0 0 0 0, b11 g1612 a1425 a1426, b12 g1617 24 a1427 t1560, b10 g1642 0 0 0 0 0 0 0 0] w1646) := ⟨HS.out.call hS⟩
              clear hS
              refine ⟨_, rfl, ?_⟩
              refine hK.out _ _ (⟨blk_cellv (HS.out.at0) 2 rfl, blk_cellv (HS.out.at0) 0 rfl, blk_cellv (HS.out.at0) 1 rfl⟩) (fun hHeld => ?_)
              clear hK K
              refine norm_ (a' := ?_) ?_ ?_
              rotate_left
              · show Act.put _ (some 21) _ = _
                simp only [Act.put, List.setIfInBounds_toArray, List.set_cons_zero, List.set_cons_succ, i64_w, i32_w]
                rfl
              refine pure_ (i := 13) (N := some 25) (v := ?_) (a' := ?_) #[true, true, true, true, true, true, true, true, true, true, true, true, true, true, true, false] rfl rfl (by kernel_rfl) (fun _ _ _ h => h) (Or.inl ⟨by rfl, ?_⟩) ?_ ?_
              rotate_left
              · intro w'
                go_simp
                with_reducible rfl
              rotate_left
              · simp only [Act.put, List.setIfInBounds_toArray, List.set_cons_zero, List.set_cons_succ, i64_w, i32_w]
                rfl
              refine one_ (i := 15) (N := none) #[true, true, true, true, true, true, true, true, true, true, true, true, true, true, true, true] rfl rfl (by kernel_rfl) (by decide) (fun K hK => ?_)
              have hc1648 := blk_cellv (v := .int .i64 0) (HS.out.at4) 0 rfl
              have hz1649 := blk_fz (HS.out.at4) 0
              have hc1650 := blk_cellv (v := .int .i64 0) (HS.out.at4) 1 rfl
              have hz1651 := blk_fz (HS.out.at4) 1
              have hc1652 := blk_cellv (v := .int .i64 0) (HS.out.at4) 2 rfl
              have hz1653 := blk_fz (HS.out.at4) 2
              have hc1654 := blk_cellv (v := .int .i64 0) (HS.out.at4) 3 rfl
              have hz1655 := blk_fz (HS.out.at4) 3
              have hc1656 := blk_cellv (v := .int .i64 0) (HS.out.at4) 4 rfl
              have hz1657 := blk_fz (HS.out.at4) 4
              have hc1658 := blk_cellv (v := .int .i64 0) (HS.out.at4) 5 rfl
              have hz1659 := blk_fz (HS.out.at4) 5
              have hc1660 := blk_cellv (v := .int .i64 0) (HS.out.at4) 6 rfl
              have hz1661 := blk_fz (HS.out.at4) 6
              have hc1662 := blk_cellv (v := .int .i64 0) (HS.out.at4) 7 rfl
              have hz1663 := blk_fz (HS.out.at4) 7
              refine store_step (w1 := (World.setCell (World.setCell (World.setCell (World.setCell (World.setCell (World.setCell (World.setCell (World.setCell w1646 ⟨g1642, 0, none⟩ (.int .i64 t1586)) ⟨g1642, 1, none⟩ (.int .i64 (wrap64 (a1426 - 8)))) ⟨g1642, 2, none⟩ (.int .i64 0)) ⟨g1642, 3, none⟩ (.int .i64 0)) ⟨g1642, 4, none⟩ (.int .i64 0)) ⟨g1642, 5, none⟩ (.int .i64 0)) ⟨g1642, 6, none⟩ (.int .i64 0)) ⟨g1642, 7, none⟩ (.int .i64 0))) (by rfl) rfl ?hr ?_
              case hr => first | (go_simp; done) | (go_simp; rfl)
              clear hc1648 hz1649 hc1650 hz1651 hc1652 hz1653 hc1654 hz1655 hc1656 hz1657 hc1658 hz1659 hc1660 hz1661 hc1662 hz1663
              intro w1647 hst
              replace HS : Aside0 (Sep (fps []) w [b4 g1429 a1425 a1426 a1427 a1428, b10 g1432 0 0 0 0 0 0 0 0, b11 g1612 a1425 a1426, b12 g1617 24 a1427 t1560, b10 g1642 t1586 (wrap64 (a1426 - 8)) 0 0 0 0 0 0] w1647) := ⟨by rw [hst]; exact HS.out.setAll (l1 := [b4 g1429 a1425 a1426 a1427 a1428, b10 g1432 0 0 0 0 0 0 0 0, b11 g1612 a1425 a1426, b12 g1617 24 a1427 t1560]) (l2 := []) [.int .i64 t1586, .int .i64 (wrap64 (a1426 - 8)), .int .i64 0, .int .i64 0, .int .i64 0, .int .i64 0, .int .i64 0, .int .i64 0] rfl⟩
              clear hst
              refine hK.out _ _ (⟨blk_cellv (HS.out.at0) 2 rfl, blk_cellv (HS.out.at0) 0 rfl, blk_cellv (HS.out.at0) 1 rfl⟩) (fun hHeld => ?_)
              clear hK K
              refine done_ (by kernel_rfl) ?_
              go_wp2_with fail
              go_meet
              case rel => exact ⟨g1612, g1617, g1642, (by first | rfl | (simp [IntKind.wrap_u32]; done)), ⟨(((((HS.out).front 4 (by simp)).front 4 (by simp)).front 4 (by simp)).front 4 (by simp)).front 4 (by simp)⟩⟩
          · refine box_step (by rfl) (N := 5) rfl (cs := #[.int .i64 0, .int .i64 0, .int .i64 0, .int .i64 0, .int .i64 0, .int .i64 0, .int .i64 0, .int .i64 0]) (t := 115) ?hr ?_
            case hr => first | (go_simp; done) | (go_simp; rfl)
            intro g1664 hg w1665 hbox hb
            replace HS : Aside0 (Sep (fps []) w [b4 g1429 a1425 a1426 a1427 a1428, b10 g1432 0 0 0 0 0 0 0 0, b11 g1612 a1425 a1426, b10 g1664 0 0 0 0 0 0 0 0] w1665) := ⟨HS.out.box hg hbox hb⟩
            clear hg hbox hb
            refine hK.out _ _ (⟨blk_cellv (HS.out.at0) 2 rfl, blk_cellv (HS.out.at0) 0 rfl, blk_cellv (HS.out.at0) 1 rfl⟩) (fun hHeld => ?_)
            clear hK K
            refine norm_ (a' := ?_) ?_ ?_
            rotate_left
            · show Act.put _ (some 5) _ = _
              simp only [Act.put, List.setIfInBounds_toArray, List.set_cons_zero, List.set_cons_succ, i64_w, i32_w]
              rfl
            refine one_ (i := 8) (N := some 20) #[true, true, true, true, true, true, true, true, true, false, true, true, true, false, true, false] rfl rfl (by kernel_rfl) (by decide) (fun K hK => ?_)
            refine slice_step (n := 3) (by rfl) (N := 20) rfl (cs := #[.int .i64 24, .int .i64 a1427, .int .i64 t1560]) (t := 3) ?hr ?_
            case hr => first | (go_simp; done) | (go_simp; rfl)
            intro g1667 hg w1668 hbox hb
            replace HS : Aside0 (Sep (fps []) w [b4 g1429 a1425 a1426 a1427 a1428, b10 g1432 0 0 0 0 0 0 0 0, b11 g1612 a1425 a1426, b10 g1664 0 0 0 0 0 0 0 0, b12 g1667 24 a1427 t1560] w1668) := ⟨HS.out.box hg hbox hb⟩
            clear hg hbox hb
            refine hK.out _ _ (⟨blk_cellv (HS.out.at0) 2 rfl, blk_cellv (HS.out.at0) 0 rfl, blk_cellv (HS.out.at0) 1 rfl⟩) (fun hHeld => ?_)
            clear hK K
            refine norm_ (a' := ?_) ?_ ?_
            rotate_left
            · show Act.put _ (some 20) _ = _
              simp only [Act.put, List.setIfInBounds_toArray, List.set_cons_zero, List.set_cons_succ, i64_w, i32_w]
              rfl
            refine one_ (i := 9) (N := some 21) #[true, true, true, true, true, true, true, true, true, true, true, true, true, false, true, false] rfl rfl (by kernel_rfl) (by decide) (fun K hK => ?_)
            refine goes_ Tryz.func139 (by kernel_rfl) rfl #[.slice (some ⟨g1667, 0, none⟩) 3 3] (by rfl) rfl rfl (by (try simp only [List.map_toArray, List.map_cons, List.map_nil]); first | done | rfl) ?_
            refine (ratio_Add.calls _ [24, a1427, t1560] (some ⟨g1667, 0, none⟩) 3 t1586 _ ⟨Rd.lit (l := []) (xs := [24, a1427, t1560]) HS.out 4 rfl (by simp)⟩ ⟨HGl0.out.pass (l := []) HS.out⟩ ⟨Sep.start _⟩ HA1587).mono ?_
            rintro e_ w1671 ⟨rfl, hS⟩
            replace HS : Aside0 (Sep (fps []) w [b4 g1429 a1425 a1426 a1427 a1428, b10 g1432 0 0 0 0 0 0 0 0, b11 g1612 a1425 a1426, b10 g1664 0 0 0 0 0 0 0 0, b12 g1667 24 a1427 t1560] w1671) := ⟨HS.out.call hS⟩
            clear hS
            refine ⟨_, rfl, ?_⟩
            refine hK.out _ _ (⟨blk_cellv (HS.out.at0) 2 rfl, blk_cellv (HS.out.at0) 0 rfl, blk_cellv (HS.out.at0) 1 rfl⟩) (fun hHeld => ?_)
            clear hK K
            refine norm_ (a' := ?_) ?_ ?_
            rotate_left
            · show Act.put _ (some 21) _ = _
              simp only [Act.put, List.setIfInBounds_toArray, List.set_cons_zero, List.set_cons_succ, i64_w, i32_w]
              rfl
            refine pure_ (i := 13) (N := some 25) (v := ?_) (a' := ?_) #[true, true, true, true, true, true, true, true, true, true, true, true, true, true, true, false] rfl rfl (by kernel_rfl) (fun _ _ _ h => h) (Or.inl ⟨by rfl, ?_⟩) ?_ ?_
            rotate_left
            · intro w'
              go_simp
              with_reducible rfl
            rotate_left
            · simp only [Act.put, List.setIfInBounds_toArray, List.set_cons_zero, List.set_cons_succ, i64_w, i32_w]
              rfl
            refine one_ (i := 15) (N := none) #[true, true, true, true, true, true, true, true, true, true, true, true, true, true, true, true] rfl rfl (by kernel_rfl) (by decide) (fun K hK => ?_)
            have hc1673 := blk_cellv (v := .int .i64 0) (HS.out.at3) 0 rfl
            have hz1674 := blk_fz (HS.out.at3) 0
            have hc1675 := blk_cellv (v := .int .i64 0) (HS.out.at3) 1 rfl
            have hz1676 := blk_fz (HS.out.at3) 1
            have hc1677 := blk_cellv (v := .int .i64 0) (HS.out.at3) 2 rfl
            have hz1678 := blk_fz (HS.out.at3) 2
            have hc1679 := blk_cellv (v := .int .i64 0) (HS.out.at3) 3 rfl
            have hz1680 := blk_fz (HS.out.at3) 3
            have hc1681 := blk_cellv (v := .int .i64 0) (HS.out.at3) 4 rfl
            have hz1682 := blk_fz (HS.out.at3) 4
            have hc1683 := blk_cellv (v := .int .i64 0) (HS.out.at3) 5 rfl
            have hz1684 := blk_fz (HS.out.at3) 5
            have hc1685 := blk_cellv (v := .int .i64 0) (HS.out.at3) 6 rfl
            have hz1686 := blk_fz (HS.out.at3) 6
            have hc1687 := blk_cellv (v := .int .i64 0) (HS.out.at3) 7 rfl
            have hz1688 := blk_fz (HS.out.at3) 7
            refine store_step (w1 := (World.setCell (World.setCell (World.setCell (World.setCell (World.setCell (World.setCell (World.setCell (World.setCell w1671 ⟨g1664, 0, none⟩ (.int .i64 t1586)) ⟨g1664, 1, none⟩ (.int .i64 (wrap64 (a1426 - 8)))) ⟨g1664, 2, none⟩ (.int .i64 0)) ⟨g1664, 3, none⟩ (.int .i64 0)) ⟨g1664, 4, none⟩ (.int .i64 0)) ⟨g1664, 5, none⟩ (.int .i64 0)) ⟨g1664, 6, none⟩ (.int .i64 0)) ⟨g1664, 7, none⟩ (.int .i64 0))) (by rfl) rfl ?hr ?_
            case hr => first | (go_simp; done) | (go_simp; rfl)
            clear hc1673 hz1674 hc1675 hz1676 hc1677 hz1678 hc1679 hz1680 hc1681 hz1682 hc1683 hz1684 hc1685 hz1686 hc1687 hz1688
            intro w1672 hst
            replace HS : Aside0 (Sep (fps []) w [b4 g1429 a1425 a1426 a1427 a1428, b10 g1432 0 0 0 0 0 0 0 0, b11 g1612 a1425 a1426, b10 g1664 t1586 (wrap64 (a1426 - 8)) 0 0 0 0 0 0, b12 g1667 24 a1427 t1560] w1672) := ⟨by rw [hst]; exact HS.out.setAll (l1 := [b4 g1429 a1425 a1426 a1427 a1428, b10 g1432 0 0 0 0 0 0 0 0, b11 g1612 a1425 a1426]) (l2 := [b12 g1667 24 a1427 t1560]) [.int .i64 t1586, .int .i64 (wrap64 (a1426 - 8)), .int .i64 0, .int .i64 0, .int .i64 0, .int .i64 0, .int .i64 0, .int .i64 0] rfl⟩
            clear hst
            refine hK.out _ _ (⟨blk_cellv (HS.out.at0) 2 rfl, blk_cellv (HS.out.at0) 0 rfl, blk_cellv (HS.out.at0) 1 rfl⟩) (fun hHeld => ?_)
            clear hK K
            refine done_ (by kernel_rfl) ?_
            go_wp2_with fail
            go_meet
            case rel => exact ⟨g1612, g1667, g1664, (by first | rfl | (simp [IntKind.wrap_u32]; done)), ⟨(((((HS.out).front 3 (by simp)).front 4 (by simp)).front 4 (by simp)).front 4 (by simp)).front 4 (by simp)⟩⟩
        · refine box_step (by rfl) (N := 5) rfl (cs := #[.int .i64 0, .int .i64 0, .int .i64 0, .int .i64 0, .int .i64 0, .int .i64 0, .int .i64 0, .int .i64 0]) (t := 115) ?hr ?_
          case hr => first | (go_simp; done) | (go_simp; rfl)
          intro g1689 hg w1690 hbox hb
          replace HS : Aside0 (Sep (fps []) w [b4 g1429 a1425 a1426 a1427 a1428, b10 g1432 0 0 0 0 0 0 0 0, b11 g1612 a1425 a1426, b10 g1689 0 0 0 0 0 0 0 0] w1690) := ⟨HS.out.box hg hbox hb⟩
          clear hg hbox hb
          refine hK.out _ _ (⟨blk_cellv (HS.out.at0) 2 rfl, blk_cellv (HS.out.at0) 0 rfl, blk_cellv (HS.out.at0) 1 rfl⟩) (fun hHeld => ?_)
          clear hK K
          refine norm_ (a' := ?_) ?_ ?_
          rotate_left
          · show Act.put _ (some 5) _ = _
            simp only [Act.put, List.setIfInBounds_toArray, List.set_cons_zero, List.set_cons_succ, i64_w, i32_w]
            rfl
          refine one_ (i := 7) (N := some 19) #[true, true, true, true, true, true, true, true, false, false, true, true, true, false, true, false] rfl rfl (by kernel_rfl) (by decide) (fun K hK => ?_)
          refine goes_ Tryz.func140 (by kernel_rfl) rfl #[.slice (some ⟨g1612, 0, none⟩) 2 2] (by rfl) rfl rfl (by (try simp only [List.map_toArray, List.map_cons, List.map_nil]); first | done | rfl) ?_
          refine (ratio_Mul.calls _ [a1425, a1426] (some ⟨g1612, 0, none⟩) 2 t1560 _ ⟨Rd.lit (l := []) (xs := [a1425, a1426]) HS.out 2 rfl (by simp)⟩ ⟨HGl0.out.pass (l := []) HS.out⟩ ⟨Sep.start _⟩ HA1561).mono ?_
          rintro e_ w1693 ⟨rfl, hS⟩
          replace HS : Aside0 (Sep (fps []) w [b4 g1429 a1425 a1426 a1427 a1428, b10 g1432 0 0 0 0 0 0 0 0, b11 g1612 a1425 a1426, b10 g1689 0 0 0 0 0 0 0 0] w1693) := ⟨HS.out.call hS⟩
          clear hS
          refine ⟨_, rfl, ?_⟩
          refine hK.out _ _ (⟨blk_cellv (HS.out.at0) 2 rfl, blk_cellv (HS.out.at0) 0 rfl, blk_cellv (HS.out.at0) 1 rfl⟩) (fun hHeld => ?_)
          clear hK K
          refine norm_ (a' := ?_) ?_ ?_
          rotate_left
          · show Act.put _ (some 19) _ = _
            simp only [Act.put, List.setIfInBounds_toArray, List.set_cons_zero, List.set_cons_succ, i64_w, i32_w]
            rfl
          refine one_ (i := 8) (N := some 20) #[true, true, true, true, true, true, true, true, true, false, true, true, true, false, true, false] rfl rfl (by kernel_rfl) (by decide) (fun K hK => ?_)
          refine slice_step (n := 3) (by rfl) (N := 20) rfl (cs := #[.int .i64 24, .int .i64 a1427, .int .i64 t1560]) (t := 3) ?hr ?_
          case hr => first | (go_simp; done) | (go_simp; rfl)
          intro g1694 hg w1695 hbox hb
          replace HS : Aside0 (Sep (fps []) w [b4 g1429 a1425 a1426 a1427 a1428, b10 g1432 0 0 0 0 0 0 0 0, b11 g1612 a1425 a1426, b10 g1689 0 0 0 0 0 0 0 0, b12 g1694 24 a1427 t1560] w1695) := ⟨HS.out.box hg hbox hb⟩
          clear hg hbox hb
          refine hK.out _ _ (⟨blk_cellv (HS.out.at0) 2 rfl, blk_cellv (HS.out.at0) 0 rfl, blk_cellv (HS.out.at0) 1 rfl⟩) (fun hHeld => ?_)
          clear hK K
          refine norm_ (a' := ?_) ?_ ?_
          rotate_left
          · show Act.put _ (some 20) _ = _
            simp only [Act.put, List.setIfInBounds_toArray, List.set_cons_zero, List.set_cons_succ, i64_w, i32_w]
            rfl
          refine one_ (i := 9) (N := some 21) #[true, true, true, true, true, true, true, true, true, true, true, true, true, false, true, false] rfl rfl (by kernel_rfl) (by decide) (fun K hK => ?_)
          refine goes_ Tryz.func139 (by kernel_rfl) rfl #[.slice (some ⟨g1694, 0, none⟩) 3 3] (by rfl) rfl rfl (by (try simp only [List.map_toArray, List.map_cons, List.map_nil]); first | done | rfl) ?_
          refine (ratio_Add.calls _ [24, a1427, t1560] (some ⟨g1694, 0, none⟩) 3 t1586 _ ⟨Rd.lit (l := []) (xs := [24, a1427, t1560]) HS.out 4 rfl (by simp)⟩ ⟨HGl0.out.pass (l := []) HS.out⟩ ⟨Sep.start _⟩ HA1587).mono ?_
          rintro e_ w1698 ⟨rfl, hS⟩
          replace HS : Aside0 (Sep (fps []) w [b4 g1429 a1425 a1426 a1427 a1428, b10 g1432 0 0 0 0 0 0 0 0, b11 g1612 a1425 a1426, b10 g1689 0 0 0 0 0 0 0 0, b12 g1694 24 a1427 t1560] w1698) := ⟨HS.out.call hS⟩
          clear hS
          refine ⟨_, rfl, ?_⟩
          refine hK.out _ _ (⟨blk_cellv (HS.out.at0) 2 rfl, blk_cellv (HS.out.at0) 0 rfl, blk_cellv (HS.out.at0) 1 rfl⟩) (fun hHeld => ?_)
          clear hK K
          refine norm_ (a' := ?_) ?_ ?_
          rotate_left
          · show Act.put _ (some 21) _ = _
            simp only [Act.put, List.setIfInBounds_toArray, List.set_cons_zero, List.set_cons_succ, i64_w, i32_w]
            rfl
          refine pure_ (i := 13) (N := some 25) (v := ?_) (a' := ?_) #[true, true, true, true, true, true, true, true, true, true, true, true, true, true, true, false] rfl rfl (by kernel_rfl) (fun _ _ _ h => h) (Or.inl ⟨by rfl, ?_⟩) ?_ ?_
          rotate_left
          · intro w'
            go_simp
            with_reducible rfl
          rotate_left
          · simp only [Act.put, List.setIfInBounds_toArray, List.set_cons_zero, List.set_cons_succ, i64_w, i32_w]
            rfl
          refine one_ (i := 15) (N := none) #[true, true, true, true, true, true, true, true, true, true, true, true, true, true, true, true] rfl rfl (by kernel_rfl) (by decide) (fun K hK => ?_)
          have hc1700 := blk_cellv (v := .int .i64 0) (HS.out.at3) 0 rfl
          have hz1701 := blk_fz (HS.out.at3) 0
          have hc1702 := blk_cellv (v := .int .i64 0) (HS.out.at3) 1 rfl
          have hz1703 := blk_fz (HS.out.at3) 1
          have hc1704 := blk_cellv (v := .int .i64 0) (HS.out.at3) 2 rfl
          have hz1705 := blk_fz (HS.out.at3) 2
          have hc1706 := blk_cellv (v := .int .i64 0) (HS.out.at3) 3 rfl
          have hz1707 := blk_fz (HS.out.at3) 3
          have hc1708 := blk_cellv (v := .int .i64 0) (HS.out.at3) 4 rfl
          have hz1709 := blk_fz (HS.out.at3) 4
          have hc1710 := blk_cellv (v := .int .i64 0) (HS.out.at3) 5 rfl
          have hz1711 := blk_fz (HS.out.at3) 5
          have hc1712 := blk_cellv (v := .int .i64 0) (HS.out.at3) 6 rfl
          have hz1713 := blk_fz (HS.out.at3) 6
          have hc1714 := blk_cellv (v := .int .i64 0) (HS.out.at3) 7 rfl
          have hz1715 := blk_fz (HS.out.at3) 7
          refine store_step (w1 := (World.setCell (World.setCell (World.setCell (World.setCell (World.setCell (World.setCell (World.setCell (World.setCell w1698 ⟨g1689, 0, none⟩ (.int .i64 t1586)) ⟨g1689, 1, none⟩ (.int .i64 (wrap64 (a1426 - 8)))) ⟨g1689, 2, none⟩ (.int .i64 0)) ⟨g1689, 3, none⟩ (.int .i64 0)) ⟨g1689, 4, none⟩ (.int .i64 0)) ⟨g1689, 5, none⟩ (.int .i64 0)) ⟨g1689, 6, none⟩ (.int .i64 0)) ⟨g1689, 7, none⟩ (.int .i64 0))) (by rfl) rfl ?hr ?_
          case hr => first | (go_simp; done) | (go_simp; rfl)
          clear hc1700 hz1701 hc1702 hz1703 hc1704 hz1705 hc1706 hz1707 hc1708 hz1709 hc1710 hz1711 hc1712 hz1713 hc1714 hz1715
          intro w1699 hst
          replace HS : Aside0 (Sep (fps []) w [b4 g1429 a1425 a1426 a1427 a1428, b10 g1432 0 0 0 0 0 0 0 0, b11 g1612 a1425 a1426, b10 g1689 t1586 (wrap64 (a1426 - 8)) 0 0 0 0 0 0, b12 g1694 24 a1427 t1560] w1699) := ⟨by rw [hst]; exact HS.out.setAll (l1 := [b4 g1429 a1425 a1426 a1427 a1428, b10 g1432 0 0 0 0 0 0 0 0, b11 g1612 a1425 a1426]) (l2 := [b12 g1694 24 a1427 t1560]) [.int .i64 t1586, .int .i64 (wrap64 (a1426 - 8)), .int .i64 0, .int .i64 0, .int .i64 0, .int .i64 0, .int .i64 0, .int .i64 0] rfl⟩
          clear hst
          refine hK.out _ _ (⟨blk_cellv (HS.out.at0) 2 rfl, blk_cellv (HS.out.at0) 0 rfl, blk_cellv (HS.out.at0) 1 rfl⟩) (fun hHeld => ?_)
          clear hK K
          refine done_ (by kernel_rfl) ?_
          go_wp2_with fail
          go_meet
          case rel => exact ⟨g1612, g1694, g1689, (by first | rfl | (simp [IntKind.wrap_u32]; done)), ⟨(((((HS.out).front 3 (by simp)).front 4 (by simp)).front 4 (by simp)).front 4 (by simp)).front 4 (by simp)⟩⟩
      · refine box_step (by rfl) (N := 5) rfl (cs := #[.int .i64 0, .int .i64 0, .int .i64 0, .int .i64 0, .int .i64 0, .int .i64 0, .int .i64 0, .int .i64 0]) (t := 115) ?hr ?_
        case hr => first | (go_simp; done) | (go_simp; rfl)
        intro g1716 hg w1717 hbox hb
        replace HS : Aside0 (Sep (fps []) w [b4 g1429 a1425 a1426 a1427 a1428, b10 g1432 0 0 0 0 0 0 0 0, b10 g1716 0 0 0 0 0 0 0 0] w1717) := ⟨HS.out.box hg hbox hb⟩
        clear hg hbox hb
        refine hK.out _ _ (⟨blk_cellv (HS.out.at0) 2 rfl, blk_cellv (HS.out.at0) 0 rfl, blk_cellv (HS.out.at0) 1 rfl⟩) (fun hHeld => ?_)
        clear hK K
        refine norm_ (a' := ?_) ?_ ?_
        rotate_left
        · show Act.put _ (some 5) _ = _
          simp only [Act.put, List.setIfInBounds_toArray, List.set_cons_zero, List.set_cons_succ, i64_w, i32_w]
          rfl
        refine one_ (i := 6) (N := some 18) #[true, true, true, true, true, true, true, false, false, false, true, true, true, false, true, false] rfl rfl (by kernel_rfl) (by decide) (fun K hK => ?_)
        refine slice_step (n := 2) (by rfl) (N := 18) rfl (cs := #[.int .i64 a1425, .int .i64 a1426]) (t := 3) ?hr ?_
        case hr => first | (go_simp; done) | (go_simp; rfl)
        intro g1719 hg w1720 hbox hb
        replace HS : Aside0 (Sep (fps []) w [b4 g1429 a1425 a1426 a1427 a1428, b10 g1432 0 0 0 0 0 0 0 0, b10 g1716 0 0 0 0 0 0 0 0, b11 g1719 a1425 a1426] w1720) := ⟨HS.out.box hg hbox hb⟩
        clear hg hbox hb
        refine hK.out _ _ (⟨blk_cellv (HS.out.at0) 2 rfl, blk_cellv (HS.out.at0) 0 rfl, blk_cellv (HS.out.at0) 1 rfl⟩) (fun hHeld => ?_)
        clear hK K
        refine norm_ (a' := ?_) ?_ ?_
        rotate_left
        · show Act.put _ (some 18) _ = _
          simp only [Act.put, List.setIfInBounds_toArray, List.set_cons_zero, List.set_cons_succ, i64_w, i32_w]
          rfl
        refine one_ (i := 7) (N := some 19) #[true, true, true, true, true, true, true, true, false, false, true, true, true, false, true, false] rfl rfl (by kernel_rfl) (by decide) (fun K hK => ?_)
        refine goes_ Tryz.func140 (by kernel_rfl) rfl #[.slice (some ⟨g1719, 0, none⟩) 2 2] (by rfl) rfl rfl (by (try simp only [List.map_toArray, List.map_cons, List.map_nil]); first | done | rfl) ?_
        refine (ratio_Mul.calls _ [a1425, a1426] (some ⟨g1719, 0, none⟩) 2 t1560 _ ⟨Rd.lit (l := []) (xs := [a1425, a1426]) HS.out 3 rfl (by simp)⟩ ⟨HGl0.out.pass (l := []) HS.out⟩ ⟨Sep.start _⟩ HA1561).mono ?_
        rintro e_ w1723 ⟨rfl, hS⟩
        replace HS : Aside0 (Sep (fps []) w [b4 g1429 a1425 a1426 a1427 a1428, b10 g1432 0 0 0 0 0 0 0 0, b10 g1716 0 0 0 0 0 0 0 0, b11 g1719 a1425 a1426] w1723) := ⟨HS.out.call hS⟩
        clear hS
        refine ⟨_, rfl, ?_⟩
        refine hK.out _ _ (⟨blk_cellv (HS.out.at0) 2 rfl, blk_cellv (HS.out.at0) 0 rfl, blk_cellv (HS.out.at0) 1 rfl⟩) (fun hHeld => ?_)
        clear hK K
        refine norm_ (a' := ?_) ?_ ?_
        rotate_left
        · show Act.put _ (some 19) _ = _
          simp only [Act.put, List.setIfInBounds_toArray, List.set_cons_zero, List.set_cons_succ, i64_w, i32_w]
          rfl
        refine one_ (i := 8) (N := some 20) #[true, true, true, true, true, true, true, true, true, false, true, true, true, false, true, false] rfl rfl (by kernel_rfl) (by decide) (fun K hK => ?_)
        refine slice_step (n := 3) (by rfl) (N := 20) rfl (cs := #[.int .i64 24, .int .i64 a1427, .int .i64 t1560]) (t := 3) ?hr ?_
        case hr => first | (go_simp; done) | (go_simp; rfl)
        intro g1724 hg w1725 hbox hb
        replace HS : Aside0 (Sep (fps []) w [b4 g1429 a1425 a1426 a1427 a1428, b10 g1432 0 0 0 0 0 0 0 0, b10 g1716 0 0 0 0 0 0 0 0, b11 g1719 a1425 a1426, b12 g1724 24 a1427 t1560] w1725) := ⟨HS.out.box hg hbox hb⟩
        clear hg hbox hb
        refine hK.out _ _ (⟨blk_cellv (HS.out.at0) 2 rfl, blk_cellv (HS.out.at0) 0 rfl, blk_cellv (HS.out.at0) 1 rfl⟩) (fun hHeld => ?_)
        clear hK K
        refine norm_ (a' := ?_) ?_ ?_
        rotate_left
        · show Act.put _ (some 20) _ = _
          simp only [Act.put, List.setIfInBounds_toArray, List.set_cons_zero, List.set_cons_succ, i64_w, i32_w]
          rfl
        refine one_ (i := 9) (N := some 21) #[true, true, true, true, true, true, true, true, true, true, true, true, true, false, true, false] rfl rfl (by kernel_rfl) (by decide) (fun K hK => ?_)
        refine goes_ Tryz.func139 (by kernel_rfl) rfl #[.slice (some ⟨g1724, 0, none⟩) 3 3] (by rfl) rfl rfl (by (try simp only [List.map_toArray, List.map_cons, List.map_nil]); first | done | rfl) ?_
        refine (ratio_Add.calls _ [24, a1427, t1560] (some ⟨g1724, 0, none⟩) 3 t1586 _ ⟨Rd.lit (l := []) (xs := [24, a1427, t1560]) HS.out 4 rfl (by simp)⟩ ⟨HGl0.out.pass (l := []) HS.out⟩ ⟨Sep.start _⟩ HA1587).mono ?_
        rintro e_ w1728 ⟨rfl, hS⟩
        replace HS : Aside0 (Sep (fps []) w [b4 g1429 a1425 a1426 a1427 a1428, b10 g1432 0 0 0 0 0 0 0 0, b10 g1716 0 0 0 0 0 0 0 0, b11 g1719 a1425 a1426, b12 g1724 24 a1427 t1560] w1728) := ⟨HS.out.call hS⟩
        clear hS
        refine ⟨_, rfl, ?_⟩
        refine hK.out _ _ (⟨blk_cellv (HS.out.at0) 2 rfl, blk_cellv (HS.out.at0) 0 rfl, blk_cellv (HS.out.at0) 1 rfl⟩) (fun hHeld => ?_)
        clear hK K
        refine norm_ (a' := ?_) ?_ ?_
        rotate_left
        · show Act.put _ (some 21) _ = _
          simp only [Act.put, List.setIfInBounds_toArray, List.set_cons_zero, List.set_cons_succ, i64_w, i32_w]
          rfl
        refine pure_ (i := 13) (N := some 25) (v := ?_) (a' := ?_) #[true, true, true, true, true, true, true, true, true, true, true, true, true, true, true, false] rfl rfl (by kernel_rfl) (fun _ _ _ h => h) (Or.inl ⟨by rfl, ?_⟩) ?_ ?_
        rotate_left
        · intro w'
          go_simp
          with_reducible rfl
        rotate_left
        · simp only [Act.put, List.setIfInBounds_toArray, List.set_cons_zero, List.set_cons_succ, i64_w, i32_w]
          rfl
        refine one_ (i := 15) (N := none) #[true, true, true, true, true, true, true, true, true, true, true, true, true, true, true, true] rfl rfl (by kernel_rfl) (by decide) (fun K hK => ?_)
        have hc1730 := blk_cellv (v := .int .i64 0) (HS.out.at2) 0 rfl
        have hz1731 := blk_fz (HS.out.at2) 0
        have hc1732 := blk_cellv (v := .int .i64 0) (HS.out.at2) 1 rfl
        have hz1733 := blk_fz (HS.out.at2) 1
        have hc1734 := blk_cellv (v := .int .i64 0) (HS.out.at2) 2 rfl
        have hz1735 := blk_fz (HS.out.at2) 2
        have hc1736 := blk_cellv (v := .int .i64 0) (HS.out.at2) 3 rfl
        have hz1737 := blk_fz (HS.out.at2) 3
        have hc1738 := blk_cellv (v := .int .i64 0) (HS.out.at2) 4 rfl
        have hz1739 := blk_fz (HS.out.at2) 4
        have hc1740 := blk_cellv (v := .int .i64 0) (HS.out.at2) 5 rfl
        have hz1741 := blk_fz (HS.out.at2) 5
        have hc1742 := blk_cellv (v := .int .i64 0) (HS.out.at2) 6 rfl
        have hz1743 := blk_fz (HS.out.at2) 6
        have hc1744 := blk_cellv (v := .int .i64 0) (HS.out.at2) 7 rfl
        have hz1745 := blk_fz (HS.out.at2) 7
        refine store_step (w1 := (World.setCell (World.setCell (World.setCell (World.setCell (World.setCell (World.setCell (World.setCell (World.setCell w1728 ⟨g1716, 0, none⟩ (.int .i64 t1586)) ⟨g1716, 1, none⟩ (.int .i64 (wrap64 (a1426 - 8)))) ⟨g1716, 2, none⟩ (.int .i64 0)) ⟨g1716, 3, none⟩ (.int .i64 0)) ⟨g1716, 4, none⟩ (.int .i64 0)) ⟨g1716, 5, none⟩ (.int .i64 0)) ⟨g1716, 6, none⟩ (.int .i64 0)) ⟨g1716, 7, none⟩ (.int .i64 0))) (by rfl) rfl ?hr ?_
        case hr => first | (go_simp; done) | (go_simp; rfl)
        clear hc1730 hz1731 hc1732 hz1733 hc1734 hz1735 hc1736 hz1737 hc1738 hz1739 hc1740 hz1741 hc1742 hz1743 hc1744 hz1745
        intro w1729 hst
        replace HS : Aside0 (Sep (fps []) w [b4 g1429 a1425 a1426 a1427 a1428, b10 g1432 0 0 0 0 0 0 0 0, b10 g1716 t1586 (wrap64 (a1426 - 8)) 0 0 0 0 0 0, b11 g1719 a1425 a1426, b12 g1724 24 a1427 t1560] w1729) := ⟨by rw [hst]; exact HS.out.setAll (l1 := [b4 g1429 a1425 a1426 a1427 a1428, b10 g1432 0 0 0 0 0 0 0 0]) (l2 := [b11 g1719 a1425 a1426, b12 g1724 24 a1427 t1560]) [.int .i64 t1586, .int .i64 (wrap64 (a1426 - 8)), .int .i64 0, .int .i64 0, .int .i64 0, .int .i64 0, .int .i64 0, .int .i64 0] rfl⟩
        clear hst
        refine hK.out _ _ (⟨blk_cellv (HS.out.at0) 2 rfl, blk_cellv (HS.out.at0) 0 rfl, blk_cellv (HS.out.at0) 1 rfl⟩) (fun hHeld => ?_)
        clear hK K
        refine done_ (by kernel_rfl) ?_
        go_wp2_with fail
        go_meet
        case rel => exact ⟨g1719, g1724, g1716, (by first | rfl | (simp [IntKind.wrap_u32]; done)), ⟨(((((HS.out).front 2 (by simp)).front 4 (by simp)).front 4 (by simp)).front 4 (by simp)).front 4 (by simp)⟩⟩
    case rest =>
      clear HS
      obtain ⟨g1486, g1563, g1589, rfl, HS⟩ := hcut
      obtain ⟨w1609, rfl⟩ : ∃ x : World, x = wc := ⟨_, rfl⟩
      replace HS : Aside0 (Sep (fps []) w [b4 g1429 a1425 a1426 a1427 a1428, b10 g1432 0 0 0 0 0 0 0 0, b10 g1589 t1586 (wrap64 (a1426 - 8)) 0 0 0 0 0 0] w1609) := ⟨HS.out.sub (.cons_cons _ (.cons_cons _ (.cons _ (.cons _ (.cons_cons _ .slnil)))))⟩
      have hc1746 : w1609.cell? ⟨g1589, 1, none⟩ = some (.int .i64 (wrap64 (a1426 - 8))) := blk_cellv (HS.out.at2) 1 rfl
      have hc1747 : w1609.cell? ⟨g1589, 2, none⟩ = some (.int .i64 0) := blk_cellv (HS.out.at2) 2 rfl
      have hz1748 : w1609.frozen? ⟨g1589, 2, none⟩ = false := blk_fz (HS.out.at2) 2
      go_wp2_with (first | ((with_reducible refine gate_store (t := 3) (p := 29) rfl ?_); refine store_event (w1 := (World.setCell w1609 ⟨g1589, 2, none⟩ (.int .i64 (wrap64 ((wrap64 (a1426 - 8)) + 1))))) rfl (t := 3) (p := 29) rfl rfl ?hr ?_; (case hr => first | (go_simp; done) | (go_simp; rfl)); intro w1749 hst; clear hc1746 hc1747 hz1748; have hq0 : Sep (fps []) w [b4 g1429 a1425 a1426 a1427 a1428, b10 g1432 0 0 0 0 0 0 0 0, b10 g1589 t1586 (wrap64 (a1426 - 8)) (wrap64 ((wrap64 (a1426 - 8)) + 1)) 0 0 0 0 0] (World.setCell w1609 ⟨g1589, 2, none⟩ (.int .i64 (wrap64 ((wrap64 (a1426 - 8)) + 1)))) := (HS.out).set1 (l1 := [b4 g1429 a1425 a1426 a1427 a1428, b10 g1432 0 0 0 0 0 0 0 0]) (l2 := []) 2 (.int .i64 (wrap64 ((wrap64 (a1426 - 8)) + 1))); replace HS : Aside0 (Sep (fps []) w [b4 g1429 a1425 a1426 a1427 a1428, b10 g1432 0 0 0 0 0 0 0 0, b10 g1589 t1586 (wrap64 (a1426 - 8)) (wrap64 ((wrap64 (a1426 - 8)) + 1)) 0 0 0 0 0] w1749) := ⟨by rw [hst]; exact hq0⟩; clear hq0; clear hst; have hc1750 : w1749.cell? ⟨g1589, 1, none⟩ = some (.int .i64 (wrap64 (a1426 - 8))) := blk_cellv (HS.out.at2) 1 rfl; have hc1751 : w1749.cell? ⟨g1429, 1, none⟩ = some (.int .i64 a1426) := blk_cellv (HS.out.at0) 1 rfl) | ((with_reducible refine gate_dst (N := 35) rfl ?_); refine slice_on (n := 2) ?hg (N := 35) ?hd (cs := #[.int .i64 (wrap64 (a1426 - 8)), .int .i64 (wrap64 (a1426 - 1))]) (t := 3) ?hr ?_; (case hd => rfl); (case hg => rfl); (case hr => first | (go_simp; done) | (go_simp; rfl)); intro g1752 hg w1753 hbox hb; clear hc1750 hc1751; replace HS : Aside0 (Sep (fps []) w [b4 g1429 a1425 a1426 a1427 a1428, b10 g1432 0 0 0 0 0 0 0 0, b10 g1589 t1586 (wrap64 (a1426 - 8)) (wrap64 ((wrap64 (a1426 - 8)) + 1)) 0 0 0 0 0, b11 g1752 (wrap64 (a1426 - 8)) (wrap64 (a1426 - 1))] w1753) := ⟨HS.out.box hg hbox hb⟩; clear hg hbox hb))
      obtain ⟨t1755, HA1756, H⟩ := bind_some H
      refine (ratio_Mul.calls _ [wrap64 (a1426 - 8), wrap64 (a1426 - 1)] (some ⟨g1752, 0, none⟩) 2 t1755 _ ⟨Rd.lit (l := []) (xs := [wrap64 (a1426 - 8), wrap64 (a1426 - 1)]) HS.out 3 rfl (by simp)⟩ ⟨HGl0.out.pass (l := []) HS.out⟩ ⟨Sep.start _⟩ HA1756).mono ?_
      rintro e_ w1757 ⟨rfl, hS⟩
      replace HS : Aside0 (Sep (fps []) w [b4 g1429 a1425 a1426 a1427 a1428, b10 g1432 0 0 0 0 0 0 0 0, b10 g1589 t1586 (wrap64 (a1426 - 8)) (wrap64 ((wrap64 (a1426 - 8)) + 1)) 0 0 0 0 0, b11 g1752 (wrap64 (a1426 - 8)) (wrap64 (a1426 - 1))] w1757) := ⟨HS.out.call hS⟩
      clear hS
      have hc1758 : w1757.cell? ⟨g1589, 3, none⟩ = some (.int .i64 0) := blk_cellv (HS.out.at2) 3 rfl
      have hz1759 : w1757.frozen? ⟨g1589, 3, none⟩ = false := blk_fz (HS.out.at2) 3
      go_wp2_with (first | ((with_reducible refine gate_store (t := 3) (p := 37) rfl ?_); refine store_event (w1 := (World.setCell w1757 ⟨g1589, 3, none⟩ (.int .i64 t1755))) rfl (t := 3) (p := 37) rfl rfl ?hr ?_; (case hr => first | (go_simp; done) | (go_simp; rfl)); intro w1760 hst; clear hc1758 hz1759; have hq0 : Sep (fps []) w [b4 g1429 a1425 a1426 a1427 a1428, b10 g1432 0 0 0 0 0 0 0 0, b10 g1589 t1586 (wrap64 (a1426 - 8)) (wrap64 ((wrap64 (a1426 - 8)) + 1)) t1755 0 0 0 0, b11 g1752 (wrap64 (a1426 - 8)) (wrap64 (a1426 - 1))] (World.setCell w1757 ⟨g1589, 3, none⟩ (.int .i64 t1755)) := (HS.out).set1 (l1 := [b4 g1429 a1425 a1426 a1427 a1428, b10 g1432 0 0 0 0 0 0 0 0]) (l2 := [b11 g1752 (wrap64 (a1426 - 8)) (wrap64 (a1426 - 1))]) 3 (.int .i64 t1755); replace HS : Aside0 (Sep (fps []) w [b4 g1429 a1425 a1426 a1427 a1428, b10 g1432 0 0 0 0 0 0 0 0, b10 g1589 t1586 (wrap64 (a1426 - 8)) (wrap64 ((wrap64 (a1426 - 8)) + 1)) t1755 0 0 0 0, b11 g1752 (wrap64 (a1426 - 8)) (wrap64 (a1426 - 1))] w1760) := ⟨by rw [hst]; exact hq0⟩; clear hq0; clear hst; replace HS : Aside0 (Sep (fps []) w [b4 g1429 a1425 a1426 a1427 a1428, b10 g1432 0 0 0 0 0 0 0 0, b10 g1589 t1586 (wrap64 (a1426 - 8)) (wrap64 ((wrap64 (a1426 - 8)) + 1)) t1755 0 0 0 0] w1760) := ⟨HS.out.sub (.cons_cons _ (.cons_cons _ (.cons_cons _ (.cons _ .slnil))))⟩; have hc1761 : w1760.cell? ⟨g1429, 0, none⟩ = some (.int .i64 a1425) := blk_cellv (HS.out.at0) 0 rfl; have hc1762 : w1760.cell? ⟨g1429, 1, none⟩ = some (.int .i64 a1426) := blk_cellv (HS.out.at0) 1 rfl) | ((with_reducible refine gate_dst (N := 43) rfl ?_); refine slice_on (n := 2) ?hg (N := 43) ?hd (cs := #[.int .i64 a1425, .int .i64 (wrap64 (a1426 + 1))]) (t := 3) ?hr ?_; (case hd => rfl); (case hg => rfl); (case hr => first | (go_simp; done) | (go_simp; rfl)); intro g1763 hg w1764 hbox hb; clear hc1761 hc1762; replace HS : Aside0 (Sep (fps []) w [b4 g1429 a1425 a1426 a1427 a1428, b10 g1432 0 0 0 0 0 0 0 0, b10 g1589 t1586 (wrap64 (a1426 - 8)) (wrap64 ((wrap64 (a1426 - 8)) + 1)) t1755 0 0 0 0, b11 g1763 a1425 (wrap64 (a1426 + 1))] w1764) := ⟨HS.out.box hg hbox hb⟩; clear hg hbox hb))
      obtain ⟨t1766, HA1767, H⟩ := bind_some H
      refine (ratio_Mul.calls _ [a1425, wrap64 (a1426 + 1)] (some ⟨g1763, 0, none⟩) 2 t1766 _ ⟨Rd.lit (l := []) (xs := [a1425, wrap64 (a1426 + 1)]) HS.out 3 rfl (by simp)⟩ ⟨HGl0.out.pass (l := []) HS.out⟩ ⟨Sep.start _⟩ HA1767).mono ?_
      rintro e_ w1768 ⟨rfl, hS⟩
      replace HS : Aside0 (Sep (fps []) w [b4 g1429 a1425 a1426 a1427 a1428, b10 g1432 0 0 0 0 0 0 0 0, b10 g1589 t1586 (wrap64 (a1426 - 8)) (wrap64 ((wrap64 (a1426 - 8)) + 1)) t1755 0 0 0 0, b11 g1763 a1425 (wrap64 (a1426 + 1))] w1768) := ⟨HS.out.call hS⟩
      clear hS
      have hc1769 : w1768.cell? ⟨g1589, 5, none⟩ = some (.int .i64 0) := blk_cellv (HS.out.at2) 5 rfl
      have hz1770 : w1768.frozen? ⟨g1589, 5, none⟩ = false := blk_fz (HS.out.at2) 5
      go_wp2_with (first | ((with_reducible refine gate_store (t := 3) (p := 45) rfl ?_); refine store_event (w1 := (World.setCell w1768 ⟨g1589, 5, none⟩ (.int .i64 t1766))) rfl (t := 3) (p := 45) rfl rfl ?hr ?_; (case hr => first | (go_simp; done) | (go_simp; rfl)); intro w1771 hst; clear hc1769 hz1770; have hq0 : Sep (fps []) w [b4 g1429 a1425 a1426 a1427 a1428, b10 g1432 0 0 0 0 0 0 0 0, b10 g1589 t1586 (wrap64 (a1426 - 8)) (wrap64 ((wrap64 (a1426 - 8)) + 1)) t1755 0 t1766 0 0, b11 g1763 a1425 (wrap64 (a1426 + 1))] (World.setCell w1768 ⟨g1589, 5, none⟩ (.int .i64 t1766)) := (HS.out).set1 (l1 := [b4 g1429 a1425 a1426 a1427 a1428, b10 g1432 0 0 0 0 0 0 0 0]) (l2 := [b11 g1763 a1425 (wrap64 (a1426 + 1))]) 5 (.int .i64 t1766); replace HS : Aside0 (Sep (fps []) w [b4 g1429 a1425 a1426 a1427 a1428, b10 g1432 0 0 0 0 0 0 0 0, b10 g1589 t1586 (wrap64 (a1426 - 8)) (wrap64 ((wrap64 (a1426 - 8)) + 1)) t1755 0 t1766 0 0, b11 g1763 a1425 (wrap64 (a1426 + 1))] w1771) := ⟨by rw [hst]; exact hq0⟩; clear hq0; clear hst; replace HS : Aside0 (Sep (fps []) w [b4 g1429 a1425 a1426 a1427 a1428, b10 g1432 0 0 0 0 0 0 0 0, b10 g1589 t1586 (wrap64 (a1426 - 8)) (wrap64 ((wrap64 (a1426 - 8)) + 1)) t1755 0 t1766 0 0] w1771) := ⟨HS.out.sub (.cons_cons _ (.cons_cons _ (.cons_cons _ (.cons _ .slnil))))⟩; have hc1772 : w1771.cell? ⟨g1589, 5, none⟩ = some (.int .i64 t1766) := blk_cellv (HS.out.at2) 5 rfl) | ((with_reducible refine gate_dst (N := 48) rfl ?_); refine slice_on (n := 2) ?hg (N := 48) ?hd (cs := #[.int .i64 3, .int .i64 t1766]) (t := 3) ?hr ?_; (case hd => rfl); (case hg => rfl); (case hr => first | (go_simp; done) | (go_simp; rfl)); intro g1773 hg w1774 hbox hb; clear hc1772; replace HS : Aside0 (Sep (fps []) w [b4 g1429 a1425 a1426 a1427 a1428, b10 g1432 0 0 0 0 0 0 0 0, b10 g1589 t1586 (wrap64 (a1426 - 8)) (wrap64 ((wrap64 (a1426 - 8)) + 1)) t1755 0 t1766 0 0, b11 g1773 3 t1766] w1774) := ⟨HS.out.box hg hbox hb⟩; clear hg hbox hb))
      obtain ⟨t1776, HA1777, H⟩ := bind_some H
      refine (ratio_Mul.calls _ [3, t1766] (some ⟨g1773, 0, none⟩) 2 t1776 _ ⟨Rd.lit (l := []) (xs := [3, t1766]) HS.out 3 rfl (by simp)⟩ ⟨HGl0.out.pass (l := []) HS.out⟩ ⟨Sep.start _⟩ HA1777).mono ?_
      rintro e_ w1778 ⟨rfl, hS⟩
      replace HS : Aside0 (Sep (fps []) w [b4 g1429 a1425 a1426 a1427 a1428, b10 g1432 0 0 0 0 0 0 0 0, b10 g1589 t1586 (wrap64 (a1426 - 8)) (wrap64 ((wrap64 (a1426 - 8)) + 1)) t1755 0 t1766 0 0, b11 g1773 3 t1766] w1778) := ⟨HS.out.call hS⟩
      clear hS
      go_wp2_with (first | ((with_reducible refine gate_dst (N := 50) rfl ?_); refine slice_on (n := 2) ?hg (N := 50) ?hd (cs := #[.int .i64 t1776, .int .i64 4]) (t := 3) ?hr ?_; (case hd => rfl); (case hg => rfl); (case hr => first | (go_simp; done) | (go_simp; rfl)); intro g1779 hg w1780 hbox hb; replace HS : Aside0 (Sep (fps []) w [b4 g1429 a1425 a1426 a1427 a1428, b10 g1432 0 0 0 0 0 0 0 0, b10 g1589 t1586 (wrap64 (a1426 - 8)) (wrap64 ((wrap64 (a1426 - 8)) + 1)) t1755 0 t1766 0 0, b11 g1773 3 t1766, b11 g1779 t1776 4] w1780) := ⟨HS.out.box hg hbox hb⟩; clear hg hbox hb))
      obtain ⟨t1782, HA1783, H⟩ := bind_some H
      refine (ratio_Add.calls _ [t1776, 4] (some ⟨g1779, 0, none⟩) 2 t1782 _ ⟨Rd.lit (l := []) (xs := [t1776, 4]) HS.out 4 rfl (by simp)⟩ ⟨HGl0.out.pass (l := []) HS.out⟩ ⟨Sep.start _⟩ HA1783).mono ?_
      rintro e_ w1784 ⟨rfl, hS⟩
      replace HS : Aside0 (Sep (fps []) w [b4 g1429 a1425 a1426 a1427 a1428, b10 g1432 0 0 0 0 0 0 0 0, b10 g1589 t1586 (wrap64 (a1426 - 8)) (wrap64 ((wrap64 (a1426 - 8)) + 1)) t1755 0 t1766 0 0, b11 g1773 3 t1766, b11 g1779 t1776 4] w1784) := ⟨HS.out.call hS⟩
      clear hS
      have hc1785 : w1784.cell? ⟨g1589, 4, none⟩ = some (.int .i64 0) := blk_cellv (HS.out.at2) 4 rfl
      have hz1786 : w1784.frozen? ⟨g1589, 4, none⟩ = false := blk_fz (HS.out.at2) 4
      go_wp2_with (first | ((with_reducible refine gate_store (t := 3) (p := 52) rfl ?_); refine store_event (w1 := (World.setCell w1784 ⟨g1589, 4, none⟩ (.int .i64 t1782))) rfl (t := 3) (p := 52) rfl rfl ?hr ?_; (case hr => first | (go_simp; done) | (go_simp; rfl)); intro w1787 hst; clear hc1785 hz1786; have hq0 : Sep (fps []) w [b4 g1429 a1425 a1426 a1427 a1428, b10 g1432 0 0 0 0 0 0 0 0, b10 g1589 t1586 (wrap64 (a1426 - 8)) (wrap64 ((wrap64 (a1426 - 8)) + 1)) t1755 t1782 t1766 0 0, b11 g1773 3 t1766, b11 g1779 t1776 4] (World.setCell w1784 ⟨g1589, 4, none⟩ (.int .i64 t1782)) := (HS.out).set1 (l1 := [b4 g1429 a1425 a1426 a1427 a1428, b10 g1432 0 0 0 0 0 0 0 0]) (l2 := [b11 g1773 3 t1766, b11 g1779 t1776 4]) 4 (.int .i64 t1782); replace HS : Aside0 (Sep (fps []) w [b4 g1429 a1425 a1426 a1427 a1428, b10 g1432 0 0 0 0 0 0 0 0, b10 g1589 t1586 (wrap64 (a1426 - 8)) (wrap64 ((wrap64 (a1426 - 8)) + 1)) t1755 t1782 t1766 0 0, b11 g1773 3 t1766, b11 g1779 t1776 4] w1787) := ⟨by rw [hst]; exact hq0⟩; clear hq0; clear hst; replace HS : Aside0 (Sep (fps []) w [b4 g1429 a1425 a1426 a1427 a1428, b10 g1432 0 0 0 0 0 0 0 0, b10 g1589 t1586 (wrap64 (a1426 - 8)) (wrap64 ((wrap64 (a1426 - 8)) + 1)) t1755 t1782 t1766 0 0] w1787) := ⟨HS.out.sub (.cons_cons _ (.cons_cons _ (.cons_cons _ (.cons _ (.cons _ .slnil)))))⟩))
      obtain ⟨t1807, HA1808, H⟩ := bind_some H
      obtain ⟨t1813, HA1814, H⟩ := bind_some H
      obtain ⟨t1819, HA1820, H⟩ := bind_some H
      obtain ⟨t1825, HA1826, H⟩ := bind_some H
      go_cut [] (fun wc => ∃ (g1810 : Nat) (g1816 : Nat) (g1822 : Nat), Aside0 (Sep (fps []) w [b4 g1429 a1425 a1426 a1427 a1428, b10 g1432 0 0 0 0 0 0 0 0, b10 g1589 t1586 (wrap64 (a1426 - 8)) (wrap64 ((wrap64 (a1426 - 8)) + 1)) t1755 t1782 t1766 t1825 0, b11 g1810 2 t1807, b11 g1816 2 (wrap64 ((wrap64 (a1426 - 8)) + 1)), b11 g1822 t1813 t1819] wc))
      case first =>
        go_wp2_with fail
        refine start_ (n := 15) (S := (fun w' => w'.cell? ⟨g1589, 4, none⟩ = some (.int .i64 t1782) ∧ w'.cell? ⟨g1429, 3, none⟩ = some (.int .i64 a1428) ∧ w'.cell? ⟨g1589, 2, none⟩ = some (.int .i64 (wrap64 ((wrap64 (a1426 - 8)) + 1))))) (ds := []) #[false, false, false, false, false, false, false, false, false, false, false, false, false, false, false] (by kernel_rfl) rfl rfl (⟨blk_cellv ((HS.out.drew).at2) 4 rfl, blk_cellv ((HS.out.drew).at0) 3 rfl, blk_cellv ((HS.out.drew).at2) 2 rfl⟩) (fun hHeld => ?_)
        have HS_ := Aside0.mk HS.out.drew
        clear HS
        generalize World.drew _ = w1833 at HS_ hHeld ⊢
        have HS := HS_
        clear HS_
        refine pure_ (i := 0) (N := some 53) (v := ?_) (a' := ?_) #[true, false, false, false, false, false, false, false, false, false, false, false, false, false, false] rfl rfl (by kernel_rfl) (fun _ _ _ h => h) (Or.inl ⟨by rfl, ?_⟩) ?_ ?_
        rotate_left
        · intro w'
          go_simp
          with_reducible rfl
        rotate_left
        · simp only [Act.put, List.setIfInBounds_toArray, List.set_cons_zero, List.set_cons_succ, i64_w, i32_w]
          rfl
        refine pure_ (i := 2) (N := some 55) (v := ?_) (a' := ?_) #[true, false, true, false, false, false, false, false, false, false, false, false, false, false, false] rfl rfl (by kernel_rfl) (fun _ _ _ h => h) (Or.inl ⟨by rfl, ?_⟩) ?_ ?_
        rotate_left
        · intro w'
          go_simp
          with_reducible rfl
        rotate_left
        · simp only [Act.put, List.setIfInBounds_toArray, List.set_cons_zero, List.set_cons_succ, i64_w, i32_w]
          rfl
        refine pure_ (i := 7) (N := some 60) (v := ?_) (a' := ?_) #[true, false, true, false, false, false, false, true, false, false, false, false, false, false, false] rfl rfl (by kernel_rfl) (fun _ _ _ h => h) (Or.inl ⟨by rfl, ?_⟩) ?_ ?_
        rotate_left
        · intro w'
          go_simp
          with_reducible rfl
        rotate_left
        · simp only [Act.put, List.setIfInBounds_toArray, List.set_cons_zero, List.set_cons_succ, i64_w, i32_w]
          rfl
        refine take_ (i := 1) (N := some 54) (v := ?_) (a' := ?_) #[true, true, true, false, false, false, false, true, false, false, false, false, false, false, false] rfl rfl (by kernel_rfl) (fun _ _ _ h => h) (Or.inl ⟨by rfl, ?_⟩) hHeld ?_ ?_
        rotate_left
        · rintro w' hS'
          obtain ⟨s0, s1, s2⟩ := hS'
          go_simp
          with_reducible rfl
        rotate_left
        · simp only [Act.put, List.setIfInBounds_toArray, List.set_cons_zero, List.set_cons_succ, i64_w, i32_w]
          rfl
        refine take_ (i := 3) (N := some 56) (v := ?_) (a' := ?_) #[true, true, true, true, false, false, false, true, false, false, false, false, false, false, false] rfl rfl (by kernel_rfl) (fun _ _ _ h => h) (Or.inl ⟨by rfl, ?_⟩) hHeld ?_ ?_
        rotate_left
        · rintro w' hS'
          obtain ⟨s0, s1, s2⟩ := hS'
          go_simp
          with_reducible rfl
        rotate_left
        · simp only [Act.put, List.setIfInBounds_toArray, List.set_cons_zero, List.set_cons_succ, i64_w, i32_w]
          rfl
        refine take_ (i := 8) (N := some 61) (v := ?_) (a' := ?_) #[true, true, true, true, false, false, false, true, true, false, false, false, false, false, false] rfl rfl (by kernel_rfl) (fun _ _ _ h => h) (Or.inl ⟨by rfl, ?_⟩) hHeld ?_ ?_
        rotate_left
        · rintro w' hS'
          obtain ⟨s0, s1, s2⟩ := hS'
          go_simp
          with_reducible rfl
        rotate_left
        · simp only [Act.put, List.setIfInBounds_toArray, List.set_cons_zero, List.set_cons_succ, i64_w, i32_w]
          rfl
        refine two_ (i := 4) (j := 9) (Ni := some 57) (Nj := some 62) #[true, true, true, true, true, false, false, true, true, false, false, false, false, false, false] #[true, true, true, true, false, false, false, true, true, true, false, false, false, false, false] rfl rfl rfl rfl (by kernel_rfl) (by decide) (by decide) (fun K hK => ?_) (fun K hK => ?_)
        · refine goes_ Tryz.func141 (by kernel_rfl) rfl #[.int .i64 t1782, .int .i64 a1428] (by rfl) rfl rfl (by (try simp only [List.map_toArray, List.map_cons, List.map_nil]); first | done | rfl) ?_
          refine (ratio_Up.calls t1782 a1428 t1807 _ ⟨HGl0.out.pass (l := []) HS.out⟩ ⟨Sep.start _⟩ HA1808).mono ?_
          rintro e_ w1835 ⟨rfl, hS⟩
          replace HS : Aside0 (Sep (fps []) w [b4 g1429 a1425 a1426 a1427 a1428, b10 g1432 0 0 0 0 0 0 0 0, b10 g1589 t1586 (wrap64 (a1426 - 8)) (wrap64 ((wrap64 (a1426 - 8)) + 1)) t1755 t1782 t1766 0 0] w1835) := ⟨HS.out.call hS⟩
          clear hS
          refine ⟨_, rfl, ?_⟩
          refine hK.out _ _ (⟨blk_cellv (HS.out.at2) 4 rfl, blk_cellv (HS.out.at0) 3 rfl, blk_cellv (HS.out.at2) 2 rfl⟩) (fun hHeld => ?_)
          clear hK K
          refine norm_ (a' := ?_) ?_ ?_
          rotate_left
          · show Act.put _ (some 57) _ = _
            simp only [Act.put, List.setIfInBounds_toArray, List.set_cons_zero, List.set_cons_succ, i64_w, i32_w]
            rfl
          refine two_ (i := 5) (j := 9) (Ni := some 58) (Nj := some 62) #[true, true, true, true, true, true, false, true, true, false, false, false, false, false, false] #[true, true, true, true, true, false, false, true, true, true, false, false, false, false, false] rfl rfl rfl rfl (by kernel_rfl) (by decide) (by decide) (fun K hK => ?_) (fun K hK => ?_)
          · refine slice_step (n := 2) (by rfl) (N := 58) rfl (cs := #[.int .i64 2, .int .i64 t1807]) (t := 3) ?hr ?_
            case hr => first | (go_simp; done) | (go_simp; rfl)
            intro g1836 hg w1837 hbox hb
            replace HS : Aside0 (Sep (fps []) w [b4 g1429 a1425 a1426 a1427 a1428, b10 g1432 0 0 0 0 0 0 0 0, b10 g1589 t1586 (wrap64 (a1426 - 8)) (wrap64 ((wrap64 (a1426 - 8)) + 1)) t1755 t1782 t1766 0 0, b11 g1836 2 t1807] w1837) := ⟨HS.out.box hg hbox hb⟩
            clear hg hbox hb
            refine hK.out _ _ (⟨blk_cellv (HS.out.at2) 4 rfl, blk_cellv (HS.out.at0) 3 rfl, blk_cellv (HS.out.at2) 2 rfl⟩) (fun hHeld => ?_)
            clear hK K
            refine norm_ (a' := ?_) ?_ ?_
            rotate_left
            · show Act.put _ (some 58) _ = _
              simp only [Act.put, List.setIfInBounds_toArray, List.set_cons_zero, List.set_cons_succ, i64_w, i32_w]
              rfl
            refine two_ (i := 6) (j := 9) (Ni := some 59) (Nj := some 62) #[true, true, true, true, true, true, true, true, true, false, false, false, false, false, false] #[true, true, true, true, true, true, false, true, true, true, false, false, false, false, false] rfl rfl rfl rfl (by kernel_rfl) (by decide) (by decide) (fun K hK => ?_) (fun K hK => ?_)
            · refine goes_ Tryz.func140 (by kernel_rfl) rfl #[.slice (some ⟨g1836, 0, none⟩) 2 2] (by rfl) rfl rfl (by (try simp only [List.map_toArray, List.map_cons, List.map_nil]); first | done | rfl) ?_
              refine (ratio_Mul.calls _ [2, t1807] (some ⟨g1836, 0, none⟩) 2 t1813 _ ⟨Rd.lit (l := []) (xs := [2, t1807]) HS.out 3 rfl (by simp)⟩ ⟨HGl0.out.pass (l := []) HS.out⟩ ⟨Sep.start _⟩ HA1814).mono ?_
              rintro e_ w1840 ⟨rfl, hS⟩
              replace HS : Aside0 (Sep (fps []) w [b4 g1429 a1425 a1426 a1427 a1428, b10 g1432 0 0 0 0 0 0 0 0, b10 g1589 t1586 (wrap64 (a1426 - 8)) (wrap64 ((wrap64 (a1426 - 8)) + 1)) t1755 t1782 t1766 0 0, b11 g1836 2 t1807] w1840) := ⟨HS.out.call hS⟩
              clear hS
              refine ⟨_, rfl, ?_⟩
              refine hK.out _ _ (⟨blk_cellv (HS.out.at2) 4 rfl, blk_cellv (HS.out.at0) 3 rfl, blk_cellv (HS.out.at2) 2 rfl⟩) (fun hHeld => ?_)
              clear hK K
              refine norm_ (a' := ?_) ?_ ?_
              rotate_left
              · show Act.put _ (some 59) _ = _
                simp only [Act.put, List.setIfInBounds_toArray, List.set_cons_zero, List.set_cons_succ, i64_w, i32_w]
                rfl
              refine one_ (i := 9) (N := some 62) #[true, true, true, true, true, true, true, true, true, true, false, false, false, false, false] rfl rfl (by kernel_rfl) (by decide) (fun K hK => ?_)
              refine slice_step (n := 2) (by rfl) (N := 62) rfl (cs := #[.int .i64 2, .int .i64 (wrap64 ((wrap64 (a1426 - 8)) + 1))]) (t := 3) ?hr ?_
              case hr => first | (go_simp; done) | (go_simp; rfl)
              intro g1841 hg w1842 hbox hb
              replace HS : Aside0 (Sep (fps []) w [b4 g1429 a1425 a1426 a1427 a1428, b10 g1432 0 0 0 0 0 0 0 0, b10 g1589 t1586 (wrap64 (a1426 - 8)) (wrap64 ((wrap64 (a1426 - 8)) + 1)) t1755 t1782 t1766 0 0, b11 g1836 2 t1807, b11 g1841 2 (wrap64 ((wrap64 (a1426 - 8)) + 1))] w1842) := ⟨HS.out.box hg hbox hb⟩
              clear hg hbox hb
              refine hK.out _ _ (⟨blk_cellv (HS.out.at2) 4 rfl, blk_cellv (HS.out.at0) 3 rfl, blk_cellv (HS.out.at2) 2 rfl⟩) (fun hHeld => ?_)
              clear hK K
              refine norm_ (a' := ?_) ?_ ?_
              rotate_left
              · show Act.put _ (some 62) _ = _
                simp only [Act.put, List.setIfInBounds_toArray, List.set_cons_zero, List.set_cons_succ, i64_w, i32_w]
                rfl
              refine one_ (i := 10) (N := some 63) #[true, true, true, true, true, true, true, true, true, true, true, false, false, false, false] rfl rfl (by kernel_rfl) (by decide) (fun K hK => ?_)
              refine goes_ Tryz.func140 (by kernel_rfl) rfl #[.slice (some ⟨g1841, 0, none⟩) 2 2] (by rfl) rfl rfl (by (try simp only [List.map_toArray, List.map_cons, List.map_nil]); first | done | rfl) ?_
              refine (ratio_Mul.calls _ [2, wrap64 ((wrap64 (a1426 - 8)) + 1)] (some ⟨g1841, 0, none⟩) 2 t1819 _ ⟨Rd.lit (l := []) (xs := [2, wrap64 ((wrap64 (a1426 - 8)) + 1)]) HS.out 4 rfl (by simp)⟩ ⟨HGl0.out.pass (l := []) HS.out⟩ ⟨Sep.start _⟩ HA1820).mono ?_
              rintro e_ w1845 ⟨rfl, hS⟩
              replace HS : Aside0 (Sep (fps []) w [b4 g1429 a1425 a1426 a1427 a1428, b10 g1432 0 0 0 0 0 0 0 0, b10 g1589 t1586 (wrap64 (a1426 - 8)) (wrap64 ((wrap64 (a1426 - 8)) + 1)) t1755 t1782 t1766 0 0, b11 g1836 2 t1807, b11 g1841 2 (wrap64 ((wrap64 (a1426 - 8)) + 1))] w1845) := ⟨HS.out.call hS⟩
              clear hS
              refine ⟨_, rfl, ?_⟩
              refine hK.out _ _ (⟨blk_cellv (HS.out.at2) 4 rfl, blk_cellv (HS.out.at0) 3 rfl, blk_cellv (HS.out.at2) 2 rfl⟩) (fun hHeld => ?_)
              clear hK K
              refine norm_ (a' := ?_) ?_ ?_
              rotate_left
              · show Act.put _ (some 63) _ = _
                simp only [Act.put, List.setIfInBounds_toArray, List.set_cons_zero, List.set_cons_succ, i64_w, i32_w]
                rfl
              refine one_ (i := 11) (N := some 64) #[true, true, true, true, true, true, true, true, true, true, true, true, false, false, false] rfl rfl (by kernel_rfl) (by decide) (fun K hK => ?_)
              refine slice_step (n := 2) (by rfl) (N := 64) rfl (cs := #[.int .i64 t1813, .int .i64 t1819]) (t := 3) ?hr ?_
              case hr => first | (go_simp; done) | (go_simp; rfl)
              intro g1846 hg w1847 hbox hb
              replace HS : Aside0 (Sep (fps []) w [b4 g1429 a1425 a1426 a1427 a1428, b10 g1432 0 0 0 0 0 0 0 0, b10 g1589 t1586 (wrap64 (a1426 - 8)) (wrap64 ((wrap64 (a1426 - 8)) + 1)) t1755 t1782 t1766 0 0, b11 g1836 2 t1807, b11 g1841 2 (wrap64 ((wrap64 (a1426 - 8)) + 1)), b11 g1846 t1813 t1819] w1847) := ⟨HS.out.box hg hbox hb⟩
              clear hg hbox hb
              refine hK.out _ _ (⟨blk_cellv (HS.out.at2) 4 rfl, blk_cellv (HS.out.at0) 3 rfl, blk_cellv (HS.out.at2) 2 rfl⟩) (fun hHeld => ?_)
              clear hK K
              refine norm_ (a' := ?_) ?_ ?_
              rotate_left
              · show Act.put _ (some 64) _ = _
                simp only [Act.put, List.setIfInBounds_toArray, List.set_cons_zero, List.set_cons_succ, i64_w, i32_w]
                rfl
              refine one_ (i := 12) (N := some 65) #[true, true, true, true, true, true, true, true, true, true, true, true, true, false, false] rfl rfl (by kernel_rfl) (by decide) (fun K hK => ?_)
              refine goes_ Tryz.func139 (by kernel_rfl) rfl #[.slice (some ⟨g1846, 0, none⟩) 2 2] (by rfl) rfl rfl (by (try simp only [List.map_toArray, List.map_cons, List.map_nil]); first | done | rfl) ?_
              refine (ratio_Add.calls _ [t1813, t1819] (some ⟨g1846, 0, none⟩) 2 t1825 _ ⟨Rd.lit (l := []) (xs := [t1813, t1819]) HS.out 5 rfl (by simp)⟩ ⟨HGl0.out.pass (l := []) HS.out⟩ ⟨Sep.start _⟩ HA1826).mono ?_
              rintro e_ w1850 ⟨rfl, hS⟩
              replace HS : Aside0 (Sep (fps []) w [b4 g1429 a1425 a1426 a1427 a1428, b10 g1432 0 0 0 0 0 0 0 0, b10 g1589 t1586 (wrap64 (a1426 - 8)) (wrap64 ((wrap64 (a1426 - 8)) + 1)) t1755 t1782 t1766 0 0, b11 g1836 2 t1807, b11 g1841 2 (wrap64 ((wrap64 (a1426 - 8)) + 1)), b11 g1846 t1813 t1819] w1850) := ⟨HS.out.call hS⟩
              clear hS
              refine ⟨_, rfl, ?_⟩
              refine hK.out _ _ (⟨blk_cellv (HS.out.at2) 4 rfl, blk_cellv (HS.out.at0) 3 rfl, blk_cellv (HS.out.at2) 2 rfl⟩) (fun hHeld => ?_)
              clear hK K
              refine norm_ (a' := ?_) ?_ ?_
              rotate_left
              · show Act.put _ (some 65) _ = _
                simp only [Act.put, List.setIfInBounds_toArray, List.set_cons_zero, List.set_cons_succ, i64_w, i32_w]
                rfl
              refine pure_ (i := 13) (N := some 66) (v := ?_) (a' := ?_) #[true, true, true, true, true, true, true, true, true, true, true, true, true, true, false] rfl rfl (by kernel_rfl) (fun _ _ _ h => h) (Or.inl ⟨by rfl, ?_⟩) ?_ ?_
              rotate_left
              · intro w'
                go_simp
                with_reducible rfl
              rotate_left
              · simp only [Act.put, List.setIfInBounds_toArray, List.set_cons_zero, List.set_cons_succ, i64_w, i32_w]
                rfl
              refine one_ (i := 14) (N := none) #[true, true, true, true, true, true, true, true, true, true, true, true, true, true, true] rfl rfl (by kernel_rfl) (by decide) (fun K hK => ?_)
              have hc1852 := blk_cellv (v := .int .i64 0) (HS.out.at2) 6 rfl
              have hz1853 := blk_fz (HS.out.at2) 6
              refine store_step (w1 := (World.setCell w1850 ⟨g1589, 6, none⟩ (.int .i64 t1825))) (by rfl) rfl ?hr ?_
              case hr => first | (go_simp; done) | (go_simp; rfl)
              clear hc1852 hz1853
              intro w1851 hst
              have hq0 : Sep (fps []) w [b4 g1429 a1425 a1426 a1427 a1428, b10 g1432 0 0 0 0 0 0 0 0, b10 g1589 t1586 (wrap64 (a1426 - 8)) (wrap64 ((wrap64 (a1426 - 8)) + 1)) t1755 t1782 t1766 t1825 0, b11 g1836 2 t1807, b11 g1841 2 (wrap64 ((wrap64 (a1426 - 8)) + 1)), b11 g1846 t1813 t1819] (World.setCell w1850 ⟨g1589, 6, none⟩ (.int .i64 t1825)) := (HS.out).set1 (l1 := [b4 g1429 a1425 a1426 a1427 a1428, b10 g1432 0 0 0 0 0 0 0 0]) (l2 := [b11 g1836 2 t1807, b11 g1841 2 (wrap64 ((wrap64 (a1426 - 8)) + 1)), b11 g1846 t1813 t1819]) 6 (.int .i64 t1825)
              have HS_ : Aside0 (Sep (fps []) w [b4 g1429 a1425 a1426 a1427 a1428, b10 g1432 0 0 0 0 0 0 0 0, b10 g1589 t1586 (wrap64 (a1426 - 8)) (wrap64 ((wrap64 (a1426 - 8)) + 1)) t1755 t1782 t1766 t1825 0, b11 g1836 2 t1807, b11 g1841 2 (wrap64 ((wrap64 (a1426 - 8)) + 1)), b11 g1846 t1813 t1819] w1851) := ⟨by rw [hst]; exact hq0⟩
              clear hq0
              clear HS hst
              have HS := HS_
              clear HS_
              refine hK.out _ _ (⟨blk_cellv (HS.out.at2) 4 rfl, blk_cellv (HS.out.at0) 3 rfl, blk_cellv (HS.out.at2) 2 rfl⟩) (fun hHeld => ?_)
              clear hK K
              refine done_ (by kernel_rfl) ?_
              go_wp2_with fail
              go_meet
              case rel => exact ⟨g1836, g1841, g1846, ⟨((((((HS.out).front 5 (by simp)).front 5 (by simp)).front 5 (by simp)).front 5 (by simp)).front 5 (by simp)).front 5 (by simp)⟩⟩
            · refine slice_step (n := 2) (by rfl) (N := 62) rfl (cs := #[.int .i64 2, .int .i64 (wrap64 ((wrap64 (a1426 - 8)) + 1))]) (t := 3) ?hr ?_
              case hr => first | (go_simp; done) | (go_simp; rfl)
              intro g1854 hg w1855 hbox hb
              replace HS : Aside0 (Sep (fps []) w [b4 g1429 a1425 a1426 a1427 a1428, b10 g1432 0 0 0 0 0 0 0 0, b10 g1589 t1586 (wrap64 (a1426 - 8)) (wrap64 ((wrap64 (a1426 - 8)) + 1)) t1755 t1782 t1766 0 0, b11 g1836 2 t1807, b11 g1854 2 (wrap64 ((wrap64 (a1426 - 8)) + 1))] w1855) := ⟨HS.out.box hg hbox hb⟩
              clear hg hbox hb
              refine hK.out _ _ (⟨blk_cellv (HS.out.at2) 4 rfl, blk_cellv (HS.out.at0) 3 rfl, blk_cellv (HS.out.at2) 2 rfl⟩) (fun hHeld => ?_)
              clear hK K
              refine norm_ (a' := ?_) ?_ ?_
              rotate_left
              · show Act.put _ (some 62) _ = _
                simp only [Act.put, List.setIfInBounds_toArray, List.set_cons_zero, List.set_cons_succ, i64_w, i32_w]
                rfl
              refine one_ (i := 6) (N := some 59) #[true, true, true, true, true, true, true, true, true, true, false, false, false, false, false] rfl rfl (by kernel_rfl) (by decide) (fun K hK => ?_)
              refine goes_ Tryz.func140 (by kernel_rfl) rfl #[.slice (some ⟨g1836, 0, none⟩) 2 2] (by rfl) rfl rfl (by (try simp only [List.map_toArray, List.map_cons, List.map_nil]); first | done | rfl) ?_
              refine (ratio_Mul.calls _ [2, t1807] (some ⟨g1836, 0, none⟩) 2 t1813 _ ⟨Rd.lit (l := []) (xs := [2, t1807]) HS.out 3 rfl (by simp)⟩ ⟨HGl0.out.pass (l := []) HS.out⟩ ⟨Sep.start _⟩ HA1814).mono ?_
              rintro e_ w1858 ⟨rfl, hS⟩
              replace HS : Aside0 (Sep (fps []) w [b4 g1429 a1425 a1426 a1427 a1428, b10 g1432 0 0 0 0 0 0 0 0, b10 g1589 t1586 (wrap64 (a1426 - 8)) (wrap64 ((wrap64 (a1426 - 8)) + 1)) t1755 t1782 t1766 0 0, b11 g1836 2 t1807, b11 g1854 2 (wrap64 ((wrap64 (a1426 - 8)) + 1))] w1858) := ⟨HS.out.call hS⟩
              clear hS
              refine ⟨_, rfl, ?_⟩
              refine hK.out _ _ (⟨blk_cellv (HS.out.at2) 4 rfl, blk_cellv (HS.out.at0) 3 rfl, blk_cellv (HS.out.at2) 2 rfl⟩) (fun hHeld => ?_)
              clear hK K
              refine norm_ (a' := ?_) ?_ ?_
              rotate_left
              · show Act.put _ (some 59) _ = _
                simp only [Act.put, List.setIfInBounds_toArray, List.set_cons_zero, List.set_cons_succ, i64_w, i32_w]
                rfl
              refine one_ (i := 10) (N := some 63) #[true, true, true, true, true, true, true, true, true, true, true, false, false, false, false] rfl rfl (by kernel_rfl) (by decide) (fun K hK => ?_)
              refine goes_ Tryz.func140 (by kernel_rfl) rfl #[.slice (some ⟨g1854, 0, none⟩) 2 2] (by rfl) rfl rfl (by (try simp only [List.map_toArray, List.map_cons, List.map_nil]); first | done | rfl) ?_
              refine (ratio_Mul.calls _ [2, wrap64 ((wrap64 (a1426 - 8)) + 1)] (some ⟨g1854, 0, none⟩) 2 t1819 _ ⟨Rd.lit (l := []) (xs := [2, wrap64 ((wrap64 (a1426 - 8)) + 1)]) HS.out 4 rfl (by simp)⟩ ⟨HGl0.out.pass (l := []) HS.out⟩ ⟨Sep.start _⟩ HA1820).mono ?_
              rintro e_ w1860 ⟨rfl, hS⟩
              replace HS : Aside0 (Sep (fps []) w [b4 g1429 a1425 a1426 a1427 a1428, b10 g1432 0 0 0 0 0 0 0 0, b10 g1589 t1586 (wrap64 (a1426 - 8)) (wrap64 ((wrap64 (a1426 - 8)) + 1)) t1755 t1782 t1766 0 0, b11 g1836 2 t1807, b11 g1854 2 (wrap64 ((wrap64 (a1426 - 8)) + 1))] w1860) := ⟨HS.out.call hS⟩
              clear hS
              refine ⟨_, rfl, ?_⟩
              refine hK.out _ _ (⟨blk_cellv (HS.out.at2) 4 rfl, blk_cellv (HS.out.at0) 3 rfl, blk_cellv (HS.out.at2) 2 rfl⟩) (fun hHeld => ?_)
              clear hK K
              refine norm_ (a' := ?_) ?_ ?_
              rotate_left
              · show Act.put _ (some 63) _ = _
                simp only [Act.put, List.setIfInBounds_toArray, List.set_cons_zero, List.set_cons_succ, i64_w, i32_w]
                rfl
              refine one_ (i := 11) (N := some 64) #[true, true, true, true, true, true, true, true, true, true, true, true, false, false, false] rfl rfl (by kernel_rfl) (by decide) (fun K hK => ?_)
              refine slice_step (n := 2) (by rfl) (N := 64) rfl (cs := #[.int .i64 t1813, .int .i64 t1819]) (t := 3) ?hr ?_
              case hr => first | (go_simp; done) | (go_simp; rfl)
              intro g1861 hg w1862 hbox hb
              replace HS : Aside0 (Sep (fps []) w [b4 g1429 a1425 a1426 a1427 a1428, b10 g1432 0 0 0 0 0 0 0 0, b10 g1589 t1586 (wrap64 (a1426 - 8)) (wrap64 ((wrap64 (a1426 - 8)) + 1)) t1755 t1782 t1766 0 0, b11 g1836 2 t1807, b11 g1854 2 (wrap64 ((wrap64 (a1426 - 8)) + 1)), b11 g1861 t1813 t1819] w1862) := ⟨HS.out.box hg hbox hb⟩
              clear hg hbox hb
              refine hK.out _ _ (⟨blk_cellv (HS.out.at2) 4 rfl, blk_cellv (HS.out.at0) 3 rfl, blk_cellv (HS.out.at2) 2 rfl⟩) (fun hHeld => ?_)
              clear hK K
              refine norm_ (a' := ?_) ?_ ?_
              rotate_left
              · show Act.put _ (some 64) _ = _
                simp only [Act.put, List.setIfInBounds_toArray, List.set_cons_zero, List.set_cons_succ, i64_w, i32_w]
                rfl
              refine one_ (i := 12) (N := some 65) #[true, true, true, true, true, true, true, true, true, true, true, true, true, false, false] rfl rfl (by kernel_rfl) (by decide) (fun K hK => ?_)
              refine goes_ Tryz.func139 (by kernel_rfl) rfl #[.slice (some ⟨g1861, 0, none⟩) 2 2] (by rfl) rfl rfl (by (try simp only [List.map_toArray, List.map_cons, List.map_nil]); first | done | rfl) ?_
              refine (ratio_Add.calls _ [t1813, t1819] (some ⟨g1861, 0, none⟩) 2 t1825 _ ⟨Rd.lit (l := []) (xs := [t1813, t1819]) HS.out 5 rfl (by simp)⟩ ⟨HGl0.out.pass (l := []) HS.out⟩ ⟨Sep.start _⟩ HA1826).mono ?_
              rintro e_ w1865 ⟨rfl, hS⟩
              replace HS : Aside0 (Sep (fps []) w [b4 g1429 a1425 a1426 a1427 a1428, b10 g1432 0 0 0 0 0 0 0 0, b10 g1589 t1586 (wrap64 (a1426 - 8)) (wrap64 ((wrap64 (a1426 - 8)) + 1)) t1755 t1782 t1766 0 0, b11 g1836 2 t1807, b11 g1854 2 (wrap64 ((wrap64 (a1426 - 8)) + 1)), b11 g1861 t1813 t1819] w1865) := ⟨HS.out.call hS⟩
              clear hS
              refine ⟨_, rfl, ?_⟩
              refine hK.out _ _ (⟨blk_cellv (HS.out.at2) 4 rfl, blk_cellv (HS.out.at0) 3 rfl, blk_cellv (HS.out.at2) 2 rfl⟩) (fun hHeld => ?_)
              clear hK K
              refine norm_ (a' := ?_) ?_ ?_
              rotate_left
              · show Act.put _ (some 65) _ = _
                simp only [Act.put, List.setIfInBounds_toArray, List.set_cons_zero, List.set_cons_succ, i64_w, i32_w]
                rfl
              refine pure_ (i := 13) (N := some 66) (v := ?_) (a' := ?_) #[true, true, true, true, true, true, true, true, true, true, true, true, true, true, false] rfl rfl (by kernel_rfl) (fun _ _ _ h => h) (Or.inl ⟨by rfl, ?_⟩) ?_ ?_
              rotate_left
              · intro w'
                go_simp
                with_reducible rfl
              rotate_left
              · simp only [Act.put, List.setIfInBounds_toArray, List.set_cons_zero, List.set_cons_succ, i64_w, i32_w]
                rfl
              refine one_ (i := 14) (N := none) #[true, true, true, true, true, true, true, true, true, true, true, true, true, true, true] rfl rfl (by kernel_rfl) (by decide) (fun K hK => ?_)
              have hc1867 := blk_cellv (v := .int .i64 0) (HS.out.at2) 6 rfl
              have hz1868 := blk_fz (HS.out.at2) 6
              refine store_step (w1 := (World.setCell w1865 ⟨g1589, 6, none⟩ (.int .i64 t1825))) (by rfl) rfl ?hr ?_
              case hr => first | (go_simp; done) | (go_simp; rfl)
              clear hc1867 hz1868
              intro w1866 hst
              have hq0 : Sep (fps []) w [b4 g1429 a1425 a1426 a1427 a1428, b10 g1432 0 0 0 0 0 0 0 0, b10 g1589 t1586 (wrap64 (a1426 - 8)) (wrap64 ((wrap64 (a1426 - 8)) + 1)) t1755 t1782 t1766 t1825 0, b11 g1836 2 t1807, b11 g1854 2 (wrap64 ((wrap64 (a1426 - 8)) + 1)), b11 g1861 t1813 t1819] (World.setCell w1865 ⟨g1589, 6, none⟩ (.int .i64 t1825)) := (HS.out).set1 (l1 := [b4 g1429 a1425 a1426 a1427 a1428, b10 g1432 0 0 0 0 0 0 0 0]) (l2 := [b11 g1836 2 t1807, b11 g1854 2 (wrap64 ((wrap64 (a1426 - 8)) + 1)), b11 g1861 t1813 t1819]) 6 (.int .i64 t1825)
              have HS_ : Aside0 (Sep (fps []) w [b4 g1429 a1425 a1426 a1427 a1428, b10 g1432 0 0 0 0 0 0 0 0, b10 g1589 t1586 (wrap64 (a1426 - 8)) (wrap64 ((wrap64 (a1426 - 8)) + 1)) t1755 t1782 t1766 t1825 0, b11 g1836 2 t1807, b11 g1854 2 (wrap64 ((wrap64 (a1426 - 8)) + 1)), b11 g1861 t1813 t1819] w1866) := ⟨by rw [hst]; exact hq0⟩
              clear hq0
              clear HS hst
              have HS := HS_
              clear HS_
              refine hK.out _ _ (⟨blk_cellv (HS.out.at2) 4 rfl, blk_cellv (HS.out.at0) 3 rfl, blk_cellv (HS.out.at2) 2 rfl⟩) (fun hHeld => ?_)
              clear hK K
              refine done_ (by kernel_rfl) ?_
              go_wp2_with fail
              go_meet
              case rel => exact ⟨g1836, g1854, g1861, ⟨((((((HS.out).front 5 (by simp)).front 5 (by simp)).front 5 (by simp)).front 5 (by simp)).front 5 (by simp)).front 5 (by simp)⟩⟩
          · refine slice_step (n := 2) (by rfl) (N := 62) rfl (cs := #[.int .i64 2, .int .i64 (wrap64 ((wrap64 (a1426 - 8)) + 1))]) (t := 3) ?hr ?_
            case hr => first | (go_simp; done) | (go_simp; rfl)
            intro g1869 hg w1870 hbox hb
            replace HS : Aside0 (Sep (fps []) w [b4 g1429 a1425 a1426 a1427 a1428, b10 g1432 0 0 0 0 0 0 0 0, b10 g1589 t1586 (wrap64 (a1426 - 8)) (wrap64 ((wrap64 (a1426 - 8)) + 1)) t1755 t1782 t1766 0 0, b11 g1869 2 (wrap64 ((wrap64 (a1426 - 8)) + 1))] w1870) := ⟨HS.out.box hg hbox hb⟩
            clear hg hbox hb
            refine hK.out _ _ (⟨blk_cellv (HS.out.at2) 4 rfl, blk_cellv (HS.out.at0) 3 rfl, blk_cellv (HS.out.at2) 2 rfl⟩) (fun hHeld => ?_)
            clear hK K
            refine norm_ (a' := ?_) ?_ ?_
            rotate_left
            · show Act.put _ (some 62) _ = _
              simp only [Act.put, List.setIfInBounds_toArray, List.set_cons_zero, List.set_cons_succ, i64_w, i32_w]
              rfl
            refine one_ (i := 5) (N := some 58) #[true, true, true, true, true, true, false, true, true, true, false, false, false, false, false] rfl rfl (by kernel_rfl) (by decide) (fun K hK => ?_)
            refine slice_step (n := 2) (by rfl) (N := 58) rfl (cs := #[.int .i64 2, .int .i64 t1807]) (t := 3) ?hr ?_
            case hr => first | (go_simp; done) | (go_simp; rfl)
            intro g1872 hg w1873 hbox hb
            replace HS : Aside0 (Sep (fps []) w [b4 g1429 a1425 a1426 a1427 a1428, b10 g1432 0 0 0 0 0 0 0 0, b10 g1589 t1586 (wrap64 (a1426 - 8)) (wrap64 ((wrap64 (a1426 - 8)) + 1)) t1755 t1782 t1766 0 0, b11 g1869 2 (wrap64 ((wrap64 (a1426 - 8)) + 1)), b11 g1872 2 t1807] w1873) := ⟨HS.out.box hg hbox hb⟩
            clear hg hbox hb
            refine hK.out _ _ (⟨blk_cellv (HS.out.at2) 4 rfl, blk_cellv (HS.out.at0) 3 rfl, blk_cellv (HS.out.at2) 2 rfl⟩) (fun hHeld => ?_)
            clear hK K
            refine norm_ (a' := ?_) ?_ ?_
            rotate_left
            · show Act.put _ (some 58) _ = _
              simp only [Act.put, List.setIfInBounds_toArray, List.set_cons_zero, List.set_cons_succ, i64_w, i32_w]
              rfl
            refine one_ (i := 6) (N := some 59) #[true, true, true, true, true, true, true, true, true, true, false, false, false, false, false] rfl rfl (by kernel_rfl) (by decide) (fun K hK => ?_)
            refine goes_ Tryz.func140 (by kernel_rfl) rfl #[.slice (some ⟨g1872, 0, none⟩) 2 2] (by rfl) rfl rfl (by (try simp only [List.map_toArray, List.map_cons, List.map_nil]); first | done | rfl) ?_
            refine (ratio_Mul.calls _ [2, t1807] (some ⟨g1872, 0, none⟩) 2 t1813 _ ⟨Rd.lit (l := []) (xs := [2, t1807]) HS.out 4 rfl (by simp)⟩ ⟨HGl0.out.pass (l := []) HS.out⟩ ⟨Sep.start _⟩ HA1814).mono ?_
            rintro e_ w1876 ⟨rfl, hS⟩
            replace HS : Aside0 (Sep (fps []) w [b4 g1429 a1425 a1426 a1427 a1428, b10 g1432 0 0 0 0 0 0 0 0, b10 g1589 t1586 (wrap64 (a1426 - 8)) (wrap64 ((wrap64 (a1426 - 8)) + 1)) t1755 t1782 t1766 0 0, b11 g1869 2 (wrap64 ((wrap64 (a1426 - 8)) + 1)), b11 g1872 2 t1807] w1876) := ⟨HS.out.call hS⟩
            clear hS
            refine ⟨_, rfl, ?_⟩
            refine hK.out _ _ (⟨blk_cellv (HS.out.at2) 4 rfl, blk_cellv (HS.out.at0) 3 rfl, blk_cellv (HS.out.at2) 2 rfl⟩) (fun hHeld => ?_)
            clear hK K
            refine norm_ (a' := ?_) ?_ ?_
            rotate_left
            · show Act.put _ (some 59) _ = _
              simp only [Act.put, List.setIfInBounds_toArray, List.set_cons_zero, List.set_cons_succ, i64_w, i32_w]
              rfl
            refine one_ (i := 10) (N := some 63) #[true, true, true, true, true, true, true, true, true, true, true, false, false, false, false] rfl rfl (by kernel_rfl) (by decide) (fun K hK => ?_)
            refine goes_ Tryz.func140 (by kernel_rfl) rfl #[.slice (some ⟨g1869, 0, none⟩) 2 2] (by rfl) rfl rfl (by (try simp only [List.map_toArray, List.map_cons, List.map_nil]); first | done | rfl) ?_
            refine (ratio_Mul.calls _ [2, wrap64 ((wrap64 (a1426 - 8)) + 1)] (some ⟨g1869, 0, none⟩) 2 t1819 _ ⟨Rd.lit (l := []) (xs := [2, wrap64 ((wrap64 (a1426 - 8)) + 1)]) HS.out 3 rfl (by simp)⟩ ⟨HGl0.out.pass (l := []) HS.out⟩ ⟨Sep.start _⟩ HA1820).mono ?_
            rintro e_ w1878 ⟨rfl, hS⟩
            replace HS : Aside0 (Sep (fps []) w [b4 g1429 a1425 a1426 a1427 a1428, b10 g1432 0 0 0 0 0 0 0 0, b10 g1589 t1586 (wrap64 (a1426 - 8)) (wrap64 ((wrap64 (a1426 - 8)) + 1)) t1755 t1782 t1766 0 0, b11 g1869 2 (wrap64 ((wrap64 (a1426 - 8)) + 1)), b11 g1872 2 t1807] w1878) := ⟨HS.out.call hS⟩
            clear hS
            refine ⟨_, rfl, ?_⟩
            refine hK.out _ _ (⟨blk_cellv (HS.out.at2) 4 rfl, blk_cellv (HS.out.at0) 3 rfl, blk_cellv (HS.out.at2) 2 rfl⟩) (fun hHeld => ?_)
            clear hK K
            refine norm_ (a' := ?_) ?_ ?_
            rotate_left
            · show Act.put _ (some 63) _ = _
              simp only [Act.put, List.setIfInBounds_toArray, List.set_cons_zero, List.set_cons_succ, i64_w, i32_w]
              rfl
            refine one_ (i := 11) (N := some 64) #[true, true, true, true, true, true, true, true, true, true, true, true, false, false, false] rfl rfl (by kernel_rfl) (by decide) (fun K hK => ?_)
            refine slice_step (n := 2) (by rfl) (N := 64) rfl (cs := #[.int .i64 t1813, .int .i64 t1819]) (t := 3) ?hr ?_
            case hr => first | (go_simp; done) | (go_simp; rfl)
            intro g1879 hg w1880 hbox hb
            replace HS : Aside0 (Sep (fps []) w [b4 g1429 a1425 a1426 a1427 a1428, b10 g1432 0 0 0 0 0 0 0 0, b10 g1589 t1586 (wrap64 (a1426 - 8)) (wrap64 ((wrap64 (a1426 - 8)) + 1)) t1755 t1782 t1766 0 0, b11 g1869 2 (wrap64 ((wrap64 (a1426 - 8)) + 1)), b11 g1872 2 t1807, b11 g1879 t1813 t1819] w1880) := ⟨HS.out.box hg hbox hb⟩
            clear hg hbox hb
            refine hK.out _ _ (⟨blk_cellv (HS.out.at2) 4 rfl, blk_cellv (HS.out.at0) 3 rfl, blk_cellv (HS.out.at2) 2 rfl⟩) (fun hHeld => ?_)
            clear hK K
            refine norm_ (a' := ?_) ?_ ?_
            rotate_left
            · show Act.put _ (some 64) _ = _
              simp only [Act.put, List.setIfInBounds_toArray, List.set_cons_zero, List.set_cons_succ, i64_w, i32_w]
              rfl
            refine one_ (i := 12) (N := some 65) #[true, true, true, true, true, true, true, true, true, true, true, true, true, false, false] rfl rfl (by kernel_rfl) (by decide) (fun K hK => ?_)
            refine goes_ Tryz.func139 (by kernel_rfl) rfl #[.slice (some ⟨g1879, 0, none⟩) 2 2] (by rfl) rfl rfl (by (try simp only [List.map_toArray, List.map_cons, List.map_nil]); first | done | rfl) ?_
            refine (ratio_Add.calls _ [t1813, t1819] (some ⟨g1879, 0, none⟩) 2 t1825 _ ⟨Rd.lit (l := []) (xs := [t1813, t1819]) HS.out 5 rfl (by simp)⟩ ⟨HGl0.out.pass (l := []) HS.out⟩ ⟨Sep.start _⟩ HA1826).mono ?_
            rintro e_ w1883 ⟨rfl, hS⟩
            replace HS : Aside0 (Sep (fps []) w [b4 g1429 a1425 a1426 a1427 a1428, b10 g1432 0 0 0 0 0 0 0 0, b10 g1589 t1586 (wrap64 (a1426 - 8)) (wrap64 ((wrap64 (a1426 - 8)) + 1)) t1755 t1782 t1766 0 0, b11 g1869 2 (wrap64 ((wrap64 (a1426 - 8)) + 1)), b11 g1872 2 t1807, b11 g1879 t1813 t1819] w1883) := ⟨HS.out.call hS⟩
            clear hS
            refine ⟨_, rfl, ?_⟩
            refine hK.out _ _ (⟨blk_cellv (HS.out.at2) 4 rfl, blk_cellv (HS.out.at0) 3 rfl, blk_cellv (HS.out.at2) 2 rfl⟩) (fun hHeld => ?_)
            clear hK K
            refine norm_ (a' := ?_) ?_ ?_
            rotate_left
            · show Act.put _ (some 65) _ = _
              simp only [Act.put, List.setIfInBounds_toArray, List.set_cons_zero, List.set_cons_succ, i64_w, i32_w]
              rfl
            refine pure_ (i := 13) (N := some 66) (v := ?_) (a' := ?_) #[true, true, true, true, true, true, true, true, true, true, true, true, true, true, false] rfl rfl (by kernel_rfl) (fun _ _ _ h => h) (Or.inl ⟨by rfl, ?_⟩) ?_ ?_
            rotate_left
            · intro w'
              go_simp
              with_reducible rfl
            rotate_left
            · simp only [Act.put, List.setIfInBounds_toArray, List.set_cons_zero, List.set_cons_succ, i64_w, i32_w]
              rfl
            refine one_ (i := 14) (N := none) #[true, true, true, true, true, true, true, true, true, true, true, true, true, true, true] rfl rfl (by kernel_rfl) (by decide) (fun K hK => ?_)
            have hc1885 := blk_cellv (v := .int .i64 0) (HS.out.at2) 6 rfl
            have hz1886 := blk_fz (HS.out.at2) 6
            refine store_step (w1 := (World.setCell w1883 ⟨g1589, 6, none⟩ (.int .i64 t1825))) (by rfl) rfl ?hr ?_
            case hr => first | (go_simp; done) | (go_simp; rfl)
            clear hc1885 hz1886
            intro w1884 hst
            have hq0 : Sep (fps []) w [b4 g1429 a1425 a1426 a1427 a1428, b10 g1432 0 0 0 0 0 0 0 0, b10 g1589 t1586 (wrap64 (a1426 - 8)) (wrap64 ((wrap64 (a1426 - 8)) + 1)) t1755 t1782 t1766 t1825 0, b11 g1869 2 (wrap64 ((wrap64 (a1426 - 8)) + 1)), b11 g1872 2 t1807, b11 g1879 t1813 t1819] (World.setCell w1883 ⟨g1589, 6, none⟩ (.int .i64 t1825)) := (HS.out).set1 (l1 := [b4 g1429 a1425 a1426 a1427 a1428, b10 g1432 0 0 0 0 0 0 0 0]) (l2 := [b11 g1869 2 (wrap64 ((wrap64 (a1426 - 8)) + 1)), b11 g1872 2 t1807, b11 g1879 t1813 t1819]) 6 (.int .i64 t1825)
            have HS_ : Aside0 (Sep (fps []) w [b4 g1429 a1425 a1426 a1427 a1428, b10 g1432 0 0 0 0 0 0 0 0, b10 g1589 t1586 (wrap64 (a1426 - 8)) (wrap64 ((wrap64 (a1426 - 8)) + 1)) t1755 t1782 t1766 t1825 0, b11 g1869 2 (wrap64 ((wrap64 (a1426 - 8)) + 1)), b11 g1872 2 t1807, b11 g1879 t1813 t1819] w1884) := ⟨by rw [hst]; exact hq0⟩
            clear hq0
            clear HS hst
            have HS := HS_
            clear HS_
            refine hK.out _ _ (⟨blk_cellv (HS.out.at2) 4 rfl, blk_cellv (HS.out.at0) 3 rfl, blk_cellv (HS.out.at2) 2 rfl⟩) (fun hHeld => ?_)
            clear hK K
            refine done_ (by kernel_rfl) ?_
            go_wp2_with fail
            go_meet
            case rel => exact ⟨g1872, g1869, g1879, ⟨((((((HS.out).front 5 (by simp)).front 4 (by simp)).front 5 (by simp)).front 5 (by simp)).front 5 (by simp)).front 5 (by simp)⟩⟩
        · refine slice_step (n := 2) (by rfl) (N := 62) rfl (cs := #[.int .i64 2, .int .i64 (wrap64 ((wrap64 (a1426 - 8)) + 1))]) (t := 3) ?hr ?_
          case hr => first | (go_simp; done) | (go_simp; rfl)
          intro g1887 hg w1888 hbox hb
          replace HS : Aside0 (Sep (fps []) w [b4 g1429 a1425 a1426 a1427 a1428, b10 g1432 0 0 0 0 0 0 0 0, b10 g1589 t1586 (wrap64 (a1426 - 8)) (wrap64 ((wrap64 (a1426 - 8)) + 1)) t1755 t1782 t1766 0 0, b11 g1887 2 (wrap64 ((wrap64 (a1426 - 8)) + 1))] w1888) := ⟨HS.out.box hg hbox hb⟩
          clear hg hbox hb
          refine hK.out _ _ (⟨blk_cellv (HS.out.at2) 4 rfl, blk_cellv (HS.out.at0) 3 rfl, blk_cellv (HS.out.at2) 2 rfl⟩) (fun hHeld => ?_)
          clear hK K
          refine norm_ (a' := ?_) ?_ ?_
          rotate_left
          · show Act.put _ (some 62) _ = _
            simp only [Act.put, List.setIfInBounds_toArray, List.set_cons_zero, List.set_cons_succ, i64_w, i32_w]
            rfl
          refine one_ (i := 4) (N := some 57) #[true, true, true, true, true, false, false, true, true, true, false, false, false, false, false] rfl rfl (by kernel_rfl) (by decide) (fun K hK => ?_)
          refine goes_ Tryz.func141 (by kernel_rfl) rfl #[.int .i64 t1782, .int .i64 a1428] (by rfl) rfl rfl (by (try simp only [List.map_toArray, List.map_cons, List.map_nil]); first | done | rfl) ?_
          refine (ratio_Up.calls t1782 a1428 t1807 _ ⟨HGl0.out.pass (l := []) HS.out⟩ ⟨Sep.start _⟩ HA1808).mono ?_
          rintro e_ w1891 ⟨rfl, hS⟩
          replace HS : Aside0 (Sep (fps []) w [b4 g1429 a1425 a1426 a1427 a1428, b10 g1432 0 0 0 0 0 0 0 0, b10 g1589 t1586 (wrap64 (a1426 - 8)) (wrap64 ((wrap64 (a1426 - 8)) + 1)) t1755 t1782 t1766 0 0, b11 g1887 2 (wrap64 ((wrap64 (a1426 - 8)) + 1))] w1891) := ⟨HS.out.call hS⟩
          clear hS
          refine ⟨_, rfl, ?_⟩
          refine hK.out _ _ (⟨blk_cellv (HS.out.at2) 4 rfl, blk_cellv (HS.out.at0) 3 rfl, blk_cellv (HS.out.at2) 2 rfl⟩) (fun hHeld => ?_)
          clear hK K
          refine norm_ (a' := ?_) ?_ ?_
          rotate_left
          · show Act.put _ (some 57) _ = _
            simp only [Act.put, List.setIfInBounds_toArray, List.set_cons_zero, List.set_cons_succ, i64_w, i32_w]
            rfl
          refine one_ (i := 5) (N := some 58) #[true, true, true, true, true, true, false, true, true, true, false, false, false, false, false] rfl rfl (by kernel_rfl) (by decide) (fun K hK => ?_)
          refine slice_step (n := 2) (by rfl) (N := 58) rfl (cs := #[.int .i64 2, .int .i64 t1807]) (t := 3) ?hr ?_
          case hr => first | (go_simp; done) | (go_simp; rfl)
          intro g1892 hg w1893 hbox hb
          replace HS : Aside0 (Sep (fps []) w [b4 g1429 a1425 a1426 a1427 a1428, b10 g1432 0 0 0 0 0 0 0 0, b10 g1589 t1586 (wrap64 (a1426 - 8)) (wrap64 ((wrap64 (a1426 - 8)) + 1)) t1755 t1782 t1766 0 0, b11 g1887 2 (wrap64 ((wrap64 (a1426 - 8)) + 1)), b11 g1892 2 t1807] w1893) := ⟨HS.out.box hg hbox hb⟩
          clear hg hbox hb
          refine hK.out _ _ (⟨blk_cellv (HS.out.at2) 4 rfl, blk_cellv (HS.out.at0) 3 rfl, blk_cellv (HS.out.at2) 2 rfl⟩) (fun hHeld => ?_)
          clear hK K
          refine norm_ (a' := ?_) ?_ ?_
          rotate_left
          · show Act.put _ (some 58) _ = _
            simp only [Act.put, List.setIfInBounds_toArray, List.set_cons_zero, List.set_cons_succ, i64_w, i32_w]
            rfl
          refine one_ (i := 6) (N := some 59) #[true, true, true, true, true, true, true, true, true, true, false, false, false, false, false] rfl rfl (by kernel_rfl) (by decide) (fun K hK => ?_)
          refine goes_ Tryz.func140 (by kernel_rfl) rfl #[.slice (some ⟨g1892, 0, none⟩) 2 2] (by rfl) rfl rfl (by (try simp only [List.map_toArray, List.map_cons, List.map_nil]); first | done | rfl) ?_
          refine (ratio_Mul.calls _ [2, t1807] (some ⟨g1892, 0, none⟩) 2 t1813 _ ⟨Rd.lit (l := []) (xs := [2, t1807]) HS.out 4 rfl (by simp)⟩ ⟨HGl0.out.pass (l := []) HS.out⟩ ⟨Sep.start _⟩ HA1814).mono ?_
          rintro e_ w1896 ⟨rfl, hS⟩
          replace HS : Aside0 (Sep (fps []) w [b4 g1429 a1425 a1426 a1427 a1428, b10 g1432 0 0 0 0 0 0 0 0, b10 g1589 t1586 (wrap64 (a1426 - 8)) (wrap64 ((wrap64 (a1426 - 8)) + 1)) t1755 t1782 t1766 0 0, b11 g1887 2 (wrap64 ((wrap64 (a1426 - 8)) + 1)), b11 g1892 2 t1807] w1896) := ⟨HS.out.call hS⟩
          clear hS
          refine ⟨_, rfl, ?_⟩
          refine hK.out _ _ (⟨blk_cellv (HS.out.at2) 4 rfl, blk_cellv (HS.out.at0) 3 rfl, blk_cellv (HS.out.at2) 2 rfl⟩) (fun hHeld => ?_)
          clear hK K
          refine norm_ (a' := ?_) ?_ ?_
          rotate_left
          · show Act.put _ (some 59) _ = _
            simp only [Act.put, List.setIfInBounds_toArray, List.set_cons_zero, List.set_cons_succ, i64_w, i32_w]
            rfl
          refine one_ (i := 10) (N := some 63) #[true, true, true, true, true, true, true, true, true, true, true, false, false, false, false] rfl rfl (by kernel_rfl) (by decide) (fun K hK => ?_)
          refine goes_ Tryz.func140 (by kernel_rfl) rfl #[.slice (some ⟨g1887, 0, none⟩) 2 2] (by rfl) rfl rfl (by (try simp only [List.map_toArray, List.map_cons, List.map_nil]); first | done | rfl) ?_
          refine (ratio_Mul.calls _ [2, wrap64 ((wrap64 (a1426 - 8)) + 1)] (some ⟨g1887, 0, none⟩) 2 t1819 _ ⟨Rd.lit (l := []) (xs := [2, wrap64 ((wrap64 (a1426 - 8)) + 1)]) HS.out 3 rfl (by simp)⟩ ⟨HGl0.out.pass (l := []) HS.out⟩ ⟨Sep.start _⟩ HA1820).mono ?_
          rintro e_ w1898 ⟨rfl, hS⟩
          replace HS : Aside0 (Sep (fps []) w [b4 g1429 a1425 a1426 a1427 a1428, b10 g1432 0 0 0 0 0 0 0 0, b10 g1589 t1586 (wrap64 (a1426 - 8)) (wrap64 ((wrap64 (a1426 - 8)) + 1)) t1755 t1782 t1766 0 0, b11 g1887 2 (wrap64 ((wrap64 (a1426 - 8)) + 1)), b11 g1892 2 t1807] w1898) := ⟨HS.out.call hS⟩
          clear hS
          refine ⟨_, rfl, ?_⟩
          refine hK.out _ _ (⟨blk_cellv (HS.out.at2) 4 rfl, blk_cellv (HS.out.at0) 3 rfl, blk_cellv (HS.out.at2) 2 rfl⟩) (fun hHeld => ?_)
          clear hK K
          refine norm_ (a' := ?_) ?_ ?_
          rotate_left
          · show Act.put _ (some 63) _ = _
            simp only [Act.put, List.setIfInBounds_toArray, List.set_cons_zero, List.set_cons_succ, i64_w, i32_w]
            rfl
          refine one_ (i := 11) (N := some 64) #[true, true, true, true, true, true, true, true, true, true, true, true, false, false, false] rfl rfl (by kernel_rfl) (by decide) (fun K hK => ?_)
          refine slice_step (n := 2) (by rfl) (N := 64) rfl (cs := #[.int .i64 t1813, .int .i64 t1819]) (t := 3) ?hr ?_
          case hr => first | (go_simp; done) | (go_simp; rfl)
          intro g1899 hg w1900 hbox hb
          replace HS : Aside0 (Sep (fps []) w [b4 g1429 a1425 a1426 a1427 a1428, b10 g1432 0 0 0 0 0 0 0 0, b10 g1589 t1586 (wrap64 (a1426 - 8)) (wrap64 ((wrap64 (a1426 - 8)) + 1)) t1755 t1782 t1766 0 0, b11 g1887 2 (wrap64 ((wrap64 (a1426 - 8)) + 1)), b11 g1892 2 t1807, b11 g1899 t1813 t1819] w1900) := ⟨HS.out.box hg hbox hb⟩
          clear hg hbox hb
          refine hK.out _ _ (⟨blk_cellv (HS.out.at2) 4 rfl, blk_cellv (HS.out.at0) 3 rfl, blk_cellv (HS.out.at2) 2 rfl⟩) (fun hHeld => ?_)
          clear hK K
          refine norm_ (a' := ?_) ?_ ?_
          rotate_left
          · show Act.put _ (some 64) _ = _
            simp only [Act.put, List.setIfInBounds_toArray, List.set_cons_zero, List.set_cons_succ, i64_w, i32_w]
            rfl
          refine one_ (i := 12) (N := some 65) #[true, true, true, true, true, true, true, true, true, true, true, true, true, false, false] rfl rfl (by kernel_rfl) (by decide) (fun K hK => ?_)
          refine goes_ Tryz.func139 (by kernel_rfl) rfl #[.slice (some ⟨g1899, 0, none⟩) 2 2] (by rfl) rfl rfl (by (try simp only [List.map_toArray, List.map_cons, List.map_nil]); first | done | rfl) ?_
          refine (ratio_Add.calls _ [t1813, t1819] (some ⟨g1899, 0, none⟩) 2 t1825 _ ⟨Rd.lit (l := []) (xs := [t1813, t1819]) HS.out 5 rfl (by simp)⟩ ⟨HGl0.out.pass (l := []) HS.out⟩ ⟨Sep.start _⟩ HA1826).mono ?_
          rintro e_ w1903 ⟨rfl, hS⟩
          replace HS : Aside0 (Sep (fps []) w [b4 g1429 a1425 a1426 a1427 a1428, b10 g1432 0 0 0 0 0 0 0 0, b10 g1589 t1586 (wrap64 (a1426 - 8)) (wrap64 ((wrap64 (a1426 - 8)) + 1)) t1755 t1782 t1766 0 0, b11 g1887 2 (wrap64 ((wrap64 (a1426 - 8)) + 1)), b11 g1892 2 t1807, b11 g1899 t1813 t1819] w1903) := ⟨HS.out.call hS⟩
          clear hS
          refine ⟨_, rfl, ?_⟩
          refine hK.out _ _ (⟨blk_cellv (HS.out.at2) 4 rfl, blk_cellv (HS.out.at0) 3 rfl, blk_cellv (HS.out.at2) 2 rfl⟩) (fun hHeld => ?_)
          clear hK K
          refine norm_ (a' := ?_) ?_ ?_
          rotate_left
          · show Act.put _ (some 65) _ = _
            simp only [Act.put, List.setIfInBounds_toArray, List.set_cons_zero, List.set_cons_succ, i64_w, i32_w]
            rfl
          refine pure_ (i := 13) (N := some 66) (v := ?_) (a' := ?_) #[true, true, true, true, true, true, true, true, true, true, true, true, true, true, false] rfl rfl (by kernel_rfl) (fun _ _ _ h => h) (Or.inl ⟨by rfl, ?_⟩) ?_ ?_
          rotate_left
          · intro w'
            go_simp
            with_reducible rfl
          rotate_left
          · simp only [Act.put, List.setIfInBounds_toArray, List.set_cons_zero, List.set_cons_succ, i64_w, i32_w]
            rfl
          refine one_ (i := 14) (N := none) #[true, true, true, true, true, true, true, true, true, true, true, true, true, true, true] rfl rfl (by kernel_rfl) (by decide) (fun K hK => ?_)
          have hc1905 := blk_cellv (v := .int .i64 0) (HS.out.at2) 6 rfl
          have hz1906 := blk_fz (HS.out.at2) 6
          refine store_step (w1 := (World.setCell w1903 ⟨g1589, 6, none⟩ (.int .i64 t1825))) (by rfl) rfl ?hr ?_
          case hr => first | (go_simp; done) | (go_simp; rfl)
          clear hc1905 hz1906
          intro w1904 hst
          have hq0 : Sep (fps []) w [b4 g1429 a1425 a1426 a1427 a1428, b10 g1432 0 0 0 0 0 0 0 0, b10 g1589 t1586 (wrap64 (a1426 - 8)) (wrap64 ((wrap64 (a1426 - 8)) + 1)) t1755 t1782 t1766 t1825 0, b11 g1887 2 (wrap64 ((wrap64 (a1426 - 8)) + 1)), b11 g1892 2 t1807, b11 g1899 t1813 t1819] (World.setCell w1903 ⟨g1589, 6, none⟩ (.int .i64 t1825)) := (HS.out).set1 (l1 := [b4 g1429 a1425 a1426 a1427 a1428, b10 g1432 0 0 0 0 0 0 0 0]) (l2 := [b11 g1887 2 (wrap64 ((wrap64 (a1426 - 8)) + 1)), b11 g1892 2 t1807, b11 g1899 t1813 t1819]) 6 (.int .i64 t1825)
          have HS_ : Aside0 (Sep (fps []) w [b4 g1429 a1425 a1426 a1427 a1428, b10 g1432 0 0 0 0 0 0 0 0, b10 g1589 t1586 (wrap64 (a1426 - 8)) (wrap64 ((wrap64 (a1426 - 8)) + 1)) t1755 t1782 t1766 t1825 0, b11 g1887 2 (wrap64 ((wrap64 (a1426 - 8)) + 1)), b11 g1892 2 t1807, b11 g1899 t1813 t1819] w1904) := ⟨by rw [hst]; exact hq0⟩
          clear hq0
          clear HS hst
          have HS := HS_
          clear HS_
          refine hK.out _ _ (⟨blk_cellv (HS.out.at2) 4 rfl, blk_cellv (HS.out.at0) 3 rfl, blk_cellv (HS.out.at2) 2 rfl⟩) (fun hHeld => ?_)
          clear hK K
          refine done_ (by kernel_rfl) ?_
          go_wp2_with fail
          go_meet
          case rel => exact ⟨g1892, g1887, g1899, ⟨((((((HS.out).front 5 (by simp)).front 4 (by simp)).front 5 (by simp)).front 5 (by simp)).front 5 (by simp)).front 5 (by simp)⟩⟩
      case rest =>
        clear HS
        obtain ⟨g1810, g1816, g1822, HS⟩ := hcut
        obtain ⟨w1831, rfl⟩ : ∃ x : World, x = wc := ⟨_, rfl⟩
        replace HS : Aside0 (Sep (fps []) w [b4 g1429 a1425 a1426 a1427 a1428, b10 g1432 0 0 0 0 0 0 0 0, b10 g1589 t1586 (wrap64 (a1426 - 8)) (wrap64 ((wrap64 (a1426 - 8)) + 1)) t1755 t1782 t1766 t1825 0] w1831) := ⟨HS.out.sub (.cons_cons _ (.cons_cons _ (.cons_cons _ (.cons _ (.cons _ (.cons _ .slnil))))))⟩
        go_wp2_with fail
        refine start_ (n := 15) (S := (fun w' => w'.cell? ⟨g1589, 4, none⟩ = some (.int .i64 t1782) ∧ w'.cell? ⟨g1589, 5, none⟩ = some (.int .i64 t1766) ∧ w'.cell? ⟨g1429, 3, none⟩ = some (.int .i64 a1428))) (ds := []) #[false, false, false, false, false, false, false, false, false, false, false, false, false, false, false] (by kernel_rfl) rfl rfl (⟨blk_cellv ((HS.out.drew).at2) 4 rfl, blk_cellv ((HS.out.drew).at2) 5 rfl, blk_cellv ((HS.out.drew).at0) 3 rfl⟩) (fun hHeld => ?_)
        have HS_ := Aside0.mk HS.out.drew
        clear HS
        generalize World.drew _ = w1908 at HS_ hHeld ⊢
        have HS := HS_
        clear HS_
        refine pure_ (i := 0) (N := some 67) (v := ?_) (a' := ?_) #[true, false, false, false, false, false, false, false, false, false, false, false, false, false, false] rfl rfl (by kernel_rfl) (fun _ _ _ h => h) (Or.inl ⟨by rfl, ?_⟩) ?_ ?_
        rotate_left
        · intro w'
          go_simp
          with_reducible rfl
        rotate_left
        · simp only [Act.put, List.setIfInBounds_toArray, List.set_cons_zero, List.set_cons_succ, i64_w, i32_w]
          rfl
        refine pure_ (i := 2) (N := some 69) (v := ?_) (a' := ?_) #[true, false, true, false, false, false, false, false, false, false, false, false, false, false, false] rfl rfl (by kernel_rfl) (fun _ _ _ h => h) (Or.inl ⟨by rfl, ?_⟩) ?_ ?_
        rotate_left
        · intro w'
          go_simp
          with_reducible rfl
        rotate_left
        · simp only [Act.put, List.setIfInBounds_toArray, List.set_cons_zero, List.set_cons_succ, i64_w, i32_w]
          rfl
        refine pure_ (i := 4) (N := some 71) (v := ?_) (a' := ?_) #[true, false, true, false, true, false, false, false, false, false, false, false, false, false, false] rfl rfl (by kernel_rfl) (fun _ _ _ h => h) (Or.inl ⟨by rfl, ?_⟩) ?_ ?_
        rotate_left
        · intro w'
          go_simp
          with_reducible rfl
        rotate_left
        · simp only [Act.put, List.setIfInBounds_toArray, List.set_cons_zero, List.set_cons_succ, i64_w, i32_w]
          rfl
        refine pure_ (i := 8) (N := some 75) (v := ?_) (a' := ?_) #[true, false, true, false, true, false, false, false, true, false, false, false, false, false, false] rfl rfl (by kernel_rfl) (fun _ _ _ h => h) (Or.inl ⟨by rfl, ?_⟩) ?_ ?_
        rotate_left
        · intro w'
          go_simp
          with_reducible rfl
        rotate_left
        · simp only [Act.put, List.setIfInBounds_toArray, List.set_cons_zero, List.set_cons_succ, i64_w, i32_w]
          rfl
        refine take_ (i := 1) (N := some 68) (v := ?_) (a' := ?_) #[true, true, true, false, true, false, false, false, true, false, false, false, false, false, false] rfl rfl (by kernel_rfl) (fun _ _ _ h => h) (Or.inl ⟨by rfl, ?_⟩) hHeld ?_ ?_
        rotate_left
        · rintro w' hS'
          obtain ⟨s0, s1, s2⟩ := hS'
          go_simp
          with_reducible rfl
        rotate_left
        · simp only [Act.put, List.setIfInBounds_toArray, List.set_cons_zero, List.set_cons_succ, i64_w, i32_w]
          rfl
        refine take_ (i := 3) (N := some 70) (v := ?_) (a' := ?_) #[true, true, true, true, true, false, false, false, true, false, false, false, false, false, false] rfl rfl (by kernel_rfl) (fun _ _ _ h => h) (Or.inl ⟨by rfl, ?_⟩) hHeld ?_ ?_
        rotate_left
        · rintro w' hS'
          obtain ⟨s0, s1, s2⟩ := hS'
          go_simp
          with_reducible rfl
        rotate_left
        · simp only [Act.put, List.setIfInBounds_toArray, List.set_cons_zero, List.set_cons_succ, i64_w, i32_w]
          rfl
        refine take_ (i := 5) (N := some 72) (v := ?_) (a' := ?_) #[true, true, true, true, true, true, false, false, true, false, false, false, false, false, false] rfl rfl (by kernel_rfl) (fun _ _ _ h => h) (Or.inl ⟨by rfl, ?_⟩) hHeld ?_ ?_
        rotate_left
        · rintro w' hS'
          obtain ⟨s0, s1, s2⟩ := hS'
          go_simp
          with_reducible rfl
        rotate_left
        · simp only [Act.put, List.setIfInBounds_toArray, List.set_cons_zero, List.set_cons_succ, i64_w, i32_w]
          rfl
        refine take_ (i := 9) (N := some 76) (v := ?_) (a' := ?_) #[true, true, true, true, true, true, false, false, true, true, false, false, false, false, false] rfl rfl (by kernel_rfl) (fun _ _ _ h => h) (Or.inl ⟨by rfl, ?_⟩) hHeld ?_ ?_
        rotate_left
        · rintro w' hS'
          obtain ⟨s0, s1, s2⟩ := hS'
          go_simp
          with_reducible rfl
        rotate_left
        · simp only [Act.put, List.setIfInBounds_toArray, List.set_cons_zero, List.set_cons_succ, i64_w, i32_w]
          rfl
        refine one_ (i := 6) (N := some 73) #[true, true, true, true, true, true, true, false, true, true, false, false, false, false, false] rfl rfl (by kernel_rfl) (by decide) (fun K hK => ?_)
        refine slice_step (n := 3) (by rfl) (N := 73) rfl (cs := #[.int .i64 t1782, .int .i64 t1782, .int .i64 t1766]) (t := 3) ?hr ?_
        case hr => first | (go_simp; done) | (go_simp; rfl)
        intro g1909 hg w1910 hbox hb
        replace HS : Aside0 (Sep (fps []) w [b4 g1429 a1425 a1426 a1427 a1428, b10 g1432 0 0 0 0 0 0 0 0, b10 g1589 t1586 (wrap64 (a1426 - 8)) (wrap64 ((wrap64 (a1426 - 8)) + 1)) t1755 t1782 t1766 t1825 0, b12 g1909 t1782 t1782 t1766] w1910) := ⟨HS.out.box hg hbox hb⟩
        clear hg hbox hb
        refine hK.out _ _ (⟨blk_cellv (HS.out.at2) 4 rfl, blk_cellv (HS.out.at2) 5 rfl, blk_cellv (HS.out.at0) 3 rfl⟩) (fun hHeld => ?_)
        clear hK K
        refine norm_ (a' := ?_) ?_ ?_
        rotate_left
        · show Act.put _ (some 73) _ = _
          simp only [Act.put, List.setIfInBounds_toArray, List.set_cons_zero, List.set_cons_succ, i64_w, i32_w]
          rfl
        refine one_ (i := 7) (N := some 74) #[true, true, true, true, true, true, true, true, true, true, false, false, false, false, false] rfl rfl (by kernel_rfl) (by decide) (fun K hK => ?_)
        obtain ⟨t1912, HA1913, H⟩ := bind_some H
        refine goes_ Tryz.func139 (by kernel_rfl) rfl #[.slice (some ⟨g1909, 0, none⟩) 3 3] (by rfl) rfl rfl (by (try simp only [List.map_toArray, List.map_cons, List.map_nil]); first | done | rfl) ?_
        refine (ratio_Add.calls _ [t1782, t1782, t1766] (some ⟨g1909, 0, none⟩) 3 t1912 _ ⟨Rd.lit (l := []) (xs := [t1782, t1782, t1766]) HS.out 3 rfl (by simp)⟩ ⟨HGl0.out.pass (l := []) HS.out⟩ ⟨Sep.start _⟩ HA1913).mono ?_
        rintro e_ w1914 ⟨rfl, hS⟩
        replace HS : Aside0 (Sep (fps []) w [b4 g1429 a1425 a1426 a1427 a1428, b10 g1432 0 0 0 0 0 0 0 0, b10 g1589 t1586 (wrap64 (a1426 - 8)) (wrap64 ((wrap64 (a1426 - 8)) + 1)) t1755 t1782 t1766 t1825 0, b12 g1909 t1782 t1782 t1766] w1914) := ⟨HS.out.call hS⟩
        clear hS
        refine ⟨_, rfl, ?_⟩
        refine hK.out _ _ (⟨blk_cellv (HS.out.at2) 4 rfl, blk_cellv (HS.out.at2) 5 rfl, blk_cellv (HS.out.at0) 3 rfl⟩) (fun hHeld => ?_)
        clear hK K
        refine norm_ (a' := ?_) ?_ ?_
        rotate_left
        · show Act.put _ (some 74) _ = _
          simp only [Act.put, List.setIfInBounds_toArray, List.set_cons_zero, List.set_cons_succ, i64_w, i32_w]
          rfl
        refine one_ (i := 10) (N := some 77) #[true, true, true, true, true, true, true, true, true, true, true, false, false, false, false] rfl rfl (by kernel_rfl) (by decide) (fun K hK => ?_)
        obtain ⟨t1915, HA1916, H⟩ := bind_some H
        refine goes_ Tryz.func141 (by kernel_rfl) rfl #[.int .i64 t1912, .int .i64 a1428] (by rfl) rfl rfl (by (try simp only [List.map_toArray, List.map_cons, List.map_nil]); first | done | rfl) ?_
        refine (ratio_Up.calls t1912 a1428 t1915 _ ⟨HGl0.out.pass (l := []) HS.out⟩ ⟨Sep.start _⟩ HA1916).mono ?_
        rintro e_ w1917 ⟨rfl, hS⟩
        replace HS : Aside0 (Sep (fps []) w [b4 g1429 a1425 a1426 a1427 a1428, b10 g1432 0 0 0 0 0 0 0 0, b10 g1589 t1586 (wrap64 (a1426 - 8)) (wrap64 ((wrap64 (a1426 - 8)) + 1)) t1755 t1782 t1766 t1825 0, b12 g1909 t1782 t1782 t1766] w1917) := ⟨HS.out.call hS⟩
        clear hS
        refine ⟨_, rfl, ?_⟩
        refine hK.out _ _ (⟨blk_cellv (HS.out.at2) 4 rfl, blk_cellv (HS.out.at2) 5 rfl, blk_cellv (HS.out.at0) 3 rfl⟩) (fun hHeld => ?_)
        clear hK K
        refine norm_ (a' := ?_) ?_ ?_
        rotate_left
        · show Act.put _ (some 77) _ = _
          simp only [Act.put, List.setIfInBounds_toArray, List.set_cons_zero, List.set_cons_succ, i64_w, i32_w]
          rfl
        refine one_ (i := 11) (N := some 78) #[true, true, true, true, true, true, true, true, true, true, true, true, false, false, false] rfl rfl (by kernel_rfl) (by decide) (fun K hK => ?_)
        refine slice_step (n := 2) (by rfl) (N := 78) rfl (cs := #[.int .i64 t1915, .int .i64 2]) (t := 3) ?hr ?_
        case hr => first | (go_simp; done) | (go_simp; rfl)
        intro g1918 hg w1919 hbox hb
        replace HS : Aside0 (Sep (fps []) w [b4 g1429 a1425 a1426 a1427 a1428, b10 g1432 0 0 0 0 0 0 0 0, b10 g1589 t1586 (wrap64 (a1426 - 8)) (wrap64 ((wrap64 (a1426 - 8)) + 1)) t1755 t1782 t1766 t1825 0, b12 g1909 t1782 t1782 t1766, b11 g1918 t1915 2] w1919) := ⟨HS.out.box hg hbox hb⟩
        clear hg hbox hb
        refine hK.out _ _ (⟨blk_cellv (HS.out.at2) 4 rfl, blk_cellv (HS.out.at2) 5 rfl, blk_cellv (HS.out.at0) 3 rfl⟩) (fun hHeld => ?_)
        clear hK K
        refine norm_ (a' := ?_) ?_ ?_
        rotate_left
        · show Act.put _ (some 78) _ = _
          simp only [Act.put, List.setIfInBounds_toArray, List.set_cons_zero, List.set_cons_succ, i64_w, i32_w]
          rfl
        refine one_ (i := 12) (N := some 79) #[true, true, true, true, true, true, true, true, true, true, true, true, true, false, false] rfl rfl (by kernel_rfl) (by decide) (fun K hK => ?_)
        obtain ⟨t1921, HA1922, H⟩ := bind_some H
        refine goes_ Tryz.func139 (by kernel_rfl) rfl #[.slice (some ⟨g1918, 0, none⟩) 2 2] (by rfl) rfl rfl (by (try simp only [List.map_toArray, List.map_cons, List.map_nil]); first | done | rfl) ?_
        refine (ratio_Add.calls _ [t1915, 2] (some ⟨g1918, 0, none⟩) 2 t1921 _ ⟨Rd.lit (l := []) (xs := [t1915, 2]) HS.out 4 rfl (by simp)⟩ ⟨HGl0.out.pass (l := []) HS.out⟩ ⟨Sep.start _⟩ HA1922).mono ?_
        rintro e_ w1923 ⟨rfl, hS⟩
        replace HS : Aside0 (Sep (fps []) w [b4 g1429 a1425 a1426 a1427 a1428, b10 g1432 0 0 0 0 0 0 0 0, b10 g1589 t1586 (wrap64 (a1426 - 8)) (wrap64 ((wrap64 (a1426 - 8)) + 1)) t1755 t1782 t1766 t1825 0, b12 g1909 t1782 t1782 t1766, b11 g1918 t1915 2] w1923) := ⟨HS.out.call hS⟩
        clear hS
        refine ⟨_, rfl, ?_⟩
        refine hK.out _ _ (⟨blk_cellv (HS.out.at2) 4 rfl, blk_cellv (HS.out.at2) 5 rfl, blk_cellv (HS.out.at0) 3 rfl⟩) (fun hHeld => ?_)
        clear hK K
        refine norm_ (a' := ?_) ?_ ?_
        rotate_left
        · show Act.put _ (some 79) _ = _
          simp only [Act.put, List.setIfInBounds_toArray, List.set_cons_zero, List.set_cons_succ, i64_w, i32_w]
          rfl
        refine pure_ (i := 13) (N := some 80) (v := ?_) (a' := ?_) #[true, true, true, true, true, true, true, true, true, true, true, true, true, true, false] rfl rfl (by kernel_rfl) (fun _ _ _ h => h) (Or.inl ⟨by rfl, ?_⟩) ?_ ?_
        rotate_left
        · intro w'
          go_simp
          with_reducible rfl
        rotate_left
        · simp only [Act.put, List.setIfInBounds_toArray, List.set_cons_zero, List.set_cons_succ, i64_w, i32_w]
          rfl
        refine one_ (i := 14) (N := none) #[true, true, true, true, true, true, true, true, true, true, true, true, true, true, true] rfl rfl (by kernel_rfl) (by decide) (fun K hK => ?_)
        have hc1925 := blk_cellv (v := .int .i64 0) (HS.out.at2) 7 rfl
        have hz1926 := blk_fz (HS.out.at2) 7
        refine store_step (w1 := (World.setCell w1923 ⟨g1589, 7, none⟩ (.int .i64 t1921))) (by rfl) rfl ?hr ?_
        case hr => first | (go_simp; done) | (go_simp; rfl)
        clear hc1925 hz1926
        intro w1924 hst
        have hq0 : Sep (fps []) w [b4 g1429 a1425 a1426 a1427 a1428, b10 g1432 0 0 0 0 0 0 0 0, b10 g1589 t1586 (wrap64 (a1426 - 8)) (wrap64 ((wrap64 (a1426 - 8)) + 1)) t1755 t1782 t1766 t1825 t1921, b12 g1909 t1782 t1782 t1766, b11 g1918 t1915 2] (World.setCell w1923 ⟨g1589, 7, none⟩ (.int .i64 t1921)) := (HS.out).set1 (l1 := [b4 g1429 a1425 a1426 a1427 a1428, b10 g1432 0 0 0 0 0 0 0 0]) (l2 := [b12 g1909 t1782 t1782 t1766, b11 g1918 t1915 2]) 7 (.int .i64 t1921)
        have HS_ : Aside0 (Sep (fps []) w [b4 g1429 a1425 a1426 a1427 a1428, b10 g1432 0 0 0 0 0 0 0 0, b10 g1589 t1586 (wrap64 (a1426 - 8)) (wrap64 ((wrap64 (a1426 - 8)) + 1)) t1755 t1782 t1766 t1825 t1921, b12 g1909 t1782 t1782 t1766, b11 g1918 t1915 2] w1924) := ⟨by rw [hst]; exact hq0⟩
        clear hq0
        clear HS hst
        have HS := HS_
        clear HS_
        refine hK.out _ _ (⟨blk_cellv (HS.out.at2) 4 rfl, blk_cellv (HS.out.at2) 5 rfl, blk_cellv (HS.out.at0) 3 rfl⟩) (fun hHeld => ?_)
        clear hK K
        refine done_ (by kernel_rfl) ?_
        replace HS : Aside0 (Sep (fps []) w [b10 g1432 0 0 0 0 0 0 0 0, b10 g1589 t1586 (wrap64 (a1426 - 8)) (wrap64 ((wrap64 (a1426 - 8)) + 1)) t1755 t1782 t1766 t1825 t1921] w1924) := ⟨HS.out.sub (.cons _ (.cons_cons _ (.cons_cons _ (.cons _ (.cons _ .slnil)))))⟩
        have hc1927 : w1924.cell? ⟨g1589, 0, none⟩ = some (.int .i64 t1586) := blk_cellv (HS.out.at1) 0 rfl
        have hc1928 : w1924.cell? ⟨g1589, 1, none⟩ = some (.int .i64 (wrap64 (a1426 - 8))) := blk_cellv (HS.out.at1) 1 rfl
        have hc1929 : w1924.cell? ⟨g1589, 2, none⟩ = some (.int .i64 (wrap64 ((wrap64 (a1426 - 8)) + 1))) := blk_cellv (HS.out.at1) 2 rfl
        have hc1930 : w1924.cell? ⟨g1589, 3, none⟩ = some (.int .i64 t1755) := blk_cellv (HS.out.at1) 3 rfl
        have hc1931 : w1924.cell? ⟨g1589, 4, none⟩ = some (.int .i64 t1782) := blk_cellv (HS.out.at1) 4 rfl
        have hc1932 : w1924.cell? ⟨g1589, 5, none⟩ = some (.int .i64 t1766) := blk_cellv (HS.out.at1) 5 rfl
        have hc1933 : w1924.cell? ⟨g1589, 6, none⟩ = some (.int .i64 t1825) := blk_cellv (HS.out.at1) 6 rfl
        have hc1934 : w1924.cell? ⟨g1589, 7, none⟩ = some (.int .i64 t1921) := blk_cellv (HS.out.at1) 7 rfl
        have hc1935 : w1924.cell? ⟨g1432, 0, none⟩ = some (.int .i64 0) := blk_cellv (HS.out.at0) 0 rfl
        have hz1936 : w1924.frozen? ⟨g1432, 0, none⟩ = false := blk_fz (HS.out.at0) 0
        have hc1937 : w1924.cell? ⟨g1432, 1, none⟩ = some (.int .i64 0) := blk_cellv (HS.out.at0) 1 rfl
        have hz1938 : w1924.frozen? ⟨g1432, 1, none⟩ = false := blk_fz (HS.out.at0) 1
        have hc1939 : w1924.cell? ⟨g1432, 2, none⟩ = some (.int .i64 0) := blk_cellv (HS.out.at0) 2 rfl
        have hz1940 : w1924.frozen? ⟨g1432, 2, none⟩ = false := blk_fz (HS.out.at0) 2
        have hc1941 : w1924.cell? ⟨g1432, 3, none⟩ = some (.int .i64 0) := blk_cellv (HS.out.at0) 3 rfl
        have hz1942 : w1924.frozen? ⟨g1432, 3, none⟩ = false := blk_fz (HS.out.at0) 3
        have hc1943 : w1924.cell? ⟨g1432, 4, none⟩ = some (.int .i64 0) := blk_cellv (HS.out.at0) 4 rfl
        have hz1944 : w1924.frozen? ⟨g1432, 4, none⟩ = false := blk_fz (HS.out.at0) 4
        have hc1945 : w1924.cell? ⟨g1432, 5, none⟩ = some (.int .i64 0) := blk_cellv (HS.out.at0) 5 rfl
        have hz1946 : w1924.frozen? ⟨g1432, 5, none⟩ = false := blk_fz (HS.out.at0) 5
        have hc1947 : w1924.cell? ⟨g1432, 6, none⟩ = some (.int .i64 0) := blk_cellv (HS.out.at0) 6 rfl
        have hz1948 : w1924.frozen? ⟨g1432, 6, none⟩ = false := blk_fz (HS.out.at0) 6
        have hc1949 : w1924.cell? ⟨g1432, 7, none⟩ = some (.int .i64 0) := blk_cellv (HS.out.at0) 7 rfl
        have hz1950 : w1924.frozen? ⟨g1432, 7, none⟩ = false := blk_fz (HS.out.at0) 7
        go_wp2_with (first | ((with_reducible refine gate_store (t := 115) (p := 2) rfl ?_); refine store_event (w1 := (World.setCell (World.setCell (World.setCell (World.setCell (World.setCell (World.setCell (World.setCell (World.setCell w1924 ⟨g1432, 0, none⟩ (.int .i64 t1586)) ⟨g1432, 1, none⟩ (.int .i64 (wrap64 (a1426 - 8)))) ⟨g1432, 2, none⟩ (.int .i64 (wrap64 ((wrap64 (a1426 - 8)) + 1)))) ⟨g1432, 3, none⟩ (.int .i64 t1755)) ⟨g1432, 4, none⟩ (.int .i64 t1782)) ⟨g1432, 5, none⟩ (.int .i64 t1766)) ⟨g1432, 6, none⟩ (.int .i64 t1825)) ⟨g1432, 7, none⟩ (.int .i64 t1921))) rfl (t := 115) (p := 2) rfl rfl ?hr ?_; (case hr => first | (go_simp; done) | (go_simp; rfl)); intro w1951 hst; clear hc1927 hc1928 hc1929 hc1930 hc1931 hc1932 hc1933 hc1934 hc1935 hz1936 hc1937 hz1938 hc1939 hz1940 hc1941 hz1942 hc1943 hz1944 hc1945 hz1946 hc1947 hz1948 hc1949 hz1950; replace HS : Aside0 (Sep (fps []) w [b10 g1432 t1586 (wrap64 (a1426 - 8)) (wrap64 ((wrap64 (a1426 - 8)) + 1)) t1755 t1782 t1766 t1825 t1921, b10 g1589 t1586 (wrap64 (a1426 - 8)) (wrap64 ((wrap64 (a1426 - 8)) + 1)) t1755 t1782 t1766 t1825 t1921] w1951) := ⟨by rw [hst]; exact HS.out.setAll (l1 := []) (l2 := [b10 g1589 t1586 (wrap64 (a1426 - 8)) (wrap64 ((wrap64 (a1426 - 8)) + 1)) t1755 t1782 t1766 t1825 t1921]) [.int .i64 t1586, .int .i64 (wrap64 (a1426 - 8)), .int .i64 (wrap64 ((wrap64 (a1426 - 8)) + 1)), .int .i64 t1755, .int .i64 t1782, .int .i64 t1766, .int .i64 t1825, .int .i64 t1921] rfl⟩; clear hst; replace HS : Aside0 (Sep (fps []) w [b10 g1432 t1586 (wrap64 (a1426 - 8)) (wrap64 ((wrap64 (a1426 - 8)) + 1)) t1755 t1782 t1766 t1825 t1921] w1951) := ⟨HS.out.sub (.cons_cons _ (.cons _ .slnil))⟩))
        have hc1952 : w1951.cell? ⟨g1432, 0, none⟩ = some (.int .i64 t1586) := blk_cellv (HS.out.at0) 0 rfl
        have hc1953 : w1951.cell? ⟨g1432, 1, none⟩ = some (.int .i64 (wrap64 (a1426 - 8))) := blk_cellv (HS.out.at0) 1 rfl
        have hc1954 : w1951.cell? ⟨g1432, 2, none⟩ = some (.int .i64 (wrap64 ((wrap64 (a1426 - 8)) + 1))) := blk_cellv (HS.out.at0) 2 rfl
        have hc1955 : w1951.cell? ⟨g1432, 3, none⟩ = some (.int .i64 t1755) := blk_cellv (HS.out.at0) 3 rfl
        have hc1956 : w1951.cell? ⟨g1432, 4, none⟩ = some (.int .i64 t1782) := blk_cellv (HS.out.at0) 4 rfl
        have hc1957 : w1951.cell? ⟨g1432, 5, none⟩ = some (.int .i64 t1766) := blk_cellv (HS.out.at0) 5 rfl
        have hc1958 : w1951.cell? ⟨g1432, 6, none⟩ = some (.int .i64 t1825) := blk_cellv (HS.out.at0) 6 rfl
        have hc1959 : w1951.cell? ⟨g1432, 7, none⟩ = some (.int .i64 t1921) := blk_cellv (HS.out.at0) 7 rfl
        refine bodyPost_ret (v := .tuple #[.agg #[.int .i64 t1586, .int .i64 (wrap64 (a1426 - 8)), .int .i64 (wrap64 ((wrap64 (a1426 - 8)) + 1)), .int .i64 t1755, .int .i64 t1782, .int .i64 t1766, .int .i64 t1825, .int .i64 t1921], .int .i64 0]) (by simp [results, Tryz.results94, go_sem, hc1952, hc1953, hc1954, hc1955, hc1956, hc1957, hc1958, hc1959]) rfl ?_
        rw [← some_eq H]
        exact ⟨(by first | rfl | (simp [IntKind.wrap_u32]; done)), HS.out.sub (.cons _ .slnil)⟩
  · have H := if_no c1483 H
    have c1483b0 : (t1480 == 0) = false := beq_eq_false_iff_ne.mpr c1483
    have c1483b1 : (t1480 != 0) = true := bne_iff_ne.mpr c1483
    clear c1483
    have hc1960 : w1482.cell? ⟨g1432, 0, none⟩ = some (.int .i64 0) := blk_cellv (HS.out.at1) 0 rfl
    have hz1961 : w1482.frozen? ⟨g1432, 0, none⟩ = false := blk_fz (HS.out.at1) 0
    have hc1962 : w1482.cell? ⟨g1432, 1, none⟩ = some (.int .i64 0) := blk_cellv (HS.out.at1) 1 rfl
    have hz1963 : w1482.frozen? ⟨g1432, 1, none⟩ = false := blk_fz (HS.out.at1) 1
    have hc1964 : w1482.cell? ⟨g1432, 2, none⟩ = some (.int .i64 0) := blk_cellv (HS.out.at1) 2 rfl
    have hz1965 : w1482.frozen? ⟨g1432, 2, none⟩ = false := blk_fz (HS.out.at1) 2
    have hc1966 : w1482.cell? ⟨g1432, 3, none⟩ = some (.int .i64 0) := blk_cellv (HS.out.at1) 3 rfl
    have hz1967 : w1482.frozen? ⟨g1432, 3, none⟩ = false := blk_fz (HS.out.at1) 3
    have hc1968 : w1482.cell? ⟨g1432, 4, none⟩ = some (.int .i64 0) := blk_cellv (HS.out.at1) 4 rfl
    have hz1969 : w1482.frozen? ⟨g1432, 4, none⟩ = false := blk_fz (HS.out.at1) 4
    have hc1970 : w1482.cell? ⟨g1432, 5, none⟩ = some (.int .i64 0) := blk_cellv (HS.out.at1) 5 rfl
    have hz1971 : w1482.frozen? ⟨g1432, 5, none⟩ = false := blk_fz (HS.out.at1) 5
    have hc1972 : w1482.cell? ⟨g1432, 6, none⟩ = some (.int .i64 0) := blk_cellv (HS.out.at1) 6 rfl
    have hz1973 : w1482.frozen? ⟨g1432, 6, none⟩ = false := blk_fz (HS.out.at1) 6
    have hc1974 : w1482.cell? ⟨g1432, 7, none⟩ = some (.int .i64 0) := blk_cellv (HS.out.at1) 7 rfl
    have hz1975 : w1482.frozen? ⟨g1432, 7, none⟩ = false := blk_fz (HS.out.at1) 7
    go_wp2_with (first | ((with_reducible refine gate_store (t := 115) (p := 2) rfl ?_); refine store_event (w1 := (World.setCell (World.setCell (World.setCell (World.setCell (World.setCell (World.setCell (World.setCell (World.setCell w1482 ⟨g1432, 0, none⟩ (.int .i64 0)) ⟨g1432, 1, none⟩ (.int .i64 0)) ⟨g1432, 2, none⟩ (.int .i64 0)) ⟨g1432, 3, none⟩ (.int .i64 0)) ⟨g1432, 4, none⟩ (.int .i64 0)) ⟨g1432, 5, none⟩ (.int .i64 0)) ⟨g1432, 6, none⟩ (.int .i64 0)) ⟨g1432, 7, none⟩ (.int .i64 0))) rfl (t := 115) (p := 2) rfl rfl ?hr ?_; (case hr => first | (go_simp; done) | (go_simp; rfl)); intro w1976 hst; clear hc1960 hz1961 hc1962 hz1963 hc1964 hz1965 hc1966 hz1967 hc1968 hz1969 hc1970 hz1971 hc1972 hz1973 hc1974 hz1975; replace HS : Aside0 (Sep (fps []) w [b4 g1429 a1425 a1426 a1427 a1428, b10 g1432 0 0 0 0 0 0 0 0] w1976) := ⟨by rw [hst]; exact HS.out.setAll (l1 := [b4 g1429 a1425 a1426 a1427 a1428]) (l2 := []) [.int .i64 0, .int .i64 0, .int .i64 0, .int .i64 0, .int .i64 0, .int .i64 0, .int .i64 0, .int .i64 0] rfl⟩; clear hst; replace HS : Aside0 (Sep (fps []) w [b10 g1432 0 0 0 0 0 0 0 0] w1976) := ⟨HS.out.sub (.cons _ (.cons_cons _ .slnil))⟩))
    have hc1977 : w1976.cell? ⟨g1432, 0, none⟩ = some (.int .i64 0) := blk_cellv (HS.out.at0) 0 rfl
    have hc1978 : w1976.cell? ⟨g1432, 1, none⟩ = some (.int .i64 0) := blk_cellv (HS.out.at0) 1 rfl
    have hc1979 : w1976.cell? ⟨g1432, 2, none⟩ = some (.int .i64 0) := blk_cellv (HS.out.at0) 2 rfl
    have hc1980 : w1976.cell? ⟨g1432, 3, none⟩ = some (.int .i64 0) := blk_cellv (HS.out.at0) 3 rfl
    have hc1981 : w1976.cell? ⟨g1432, 4, none⟩ = some (.int .i64 0) := blk_cellv (HS.out.at0) 4 rfl
    have hc1982 : w1976.cell? ⟨g1432, 5, none⟩ = some (.int .i64 0) := blk_cellv (HS.out.at0) 5 rfl
    have hc1983 : w1976.cell? ⟨g1432, 6, none⟩ = some (.int .i64 0) := blk_cellv (HS.out.at0) 6 rfl
    have hc1984 : w1976.cell? ⟨g1432, 7, none⟩ = some (.int .i64 0) := blk_cellv (HS.out.at0) 7 rfl
    refine bodyPost_ret (v := .tuple #[.agg #[.int .i64 0, .int .i64 0, .int .i64 0, .int .i64 0, .int .i64 0, .int .i64 0, .int .i64 0, .int .i64 0], .int .i64 t1480]) (by simp [results, Tryz.results94, go_sem, hc1977, hc1978, hc1979, hc1980, hc1981, hc1982, hc1983, hc1984]) rfl ?_
    rw [← some_eq H]
    exact ⟨(by first | rfl | (simp [IntKind.wrap_u32]; done)), HS.out.sub (.cons _ .slnil)⟩

set_option maxHeartbeats 30000000 in
set_option maxRecDepth 100000 in
theorem store_New.calls (a2010 : Int) (r : Unit ⊕ (List Int)) (w : World)  (HGl0 : Aside0 (Gl 0 #[.int .i64 0, .int .i64 0, .int .i64 0, .int .i64 0, .int .i64 0] (fps []) w)) (HS : Aside0 (Sep (fps []) w [] w)) (H : Aside0 (store_New.f a2010 = some r)) :
    Calls Tryz.prog 95 #[.int .i64 a2010] w fun e w' => Sum.elim (fun (r : Unit) => e = .returned (.tuple #[.pointer none, .int .i64 2]) ∧ Sep (fps []) w [] w') (fun (r : List Int) => ∃ (g2046 : Nat), e = .returned (.tuple #[.pointer (some ⟨g2046, 0, none⟩), .int .i64 0]) ∧ ∃ (A2047 : Option Addr) (m2048 : Nat) (n2049 : Nat), Sep (fps []) w [b13 g2046 A2047 m2048 n2049 0, r7 A2047 m2048 n2049 r] w') r := by
  unfold store_New.f at H
  go_enter Tryz.func95, Tryz.ntmps95
  by_cases c2024 : a2010 < 0
  · have H := if_yes c2024 H
    have c2024b0 : decide (a2010 < 0) = true := decide_eq_true c2024
    clear c2024
    go_wp2_with fail
    go_ret2
    rw [← some_eq H]
    exact ⟨(by first | rfl | (simp [IntKind.wrap_u32]; done)), HS.out⟩
  · have H := if_no c2024 H
    have c2024b0 : decide (a2010 < 0) = false := decide_eq_false c2024
    clear c2024
    by_cases c2025 : a2010 > 8388608
    · have H := if_yes c2025 H
      have c2025b0 : decide (8388608 < a2010) = true := decide_eq_true c2025
      clear c2025
      go_wp2_with fail
      go_ret2
      rw [← some_eq H]
      exact ⟨(by first | rfl | (simp [IntKind.wrap_u32]; done)), HS.out⟩
    · have H := if_no c2025 H
      have c2025b0 : decide (8388608 < a2010) = false := decide_eq_false c2025
      clear c2025
      obtain ⟨m2026, HA2027, H⟩ := bind_some H
      obtain ⟨hm2028, hn2029⟩ := mkLen_eq HA2027
      have hm2028H := Aside0.mk hm2028
      clear hm2028
      go_wp2_with (first | ((with_reducible refine gate_dst (N := 11) rfl ?_); refine make_event rfl (N := 11) rfl 134 57 (.tmp 10) (.tmp 10) rfl .i64 (.int .u32 0) 4 Tryz.underlying134 (by kernel_rfl) rfl (by decide) (Value.int .u32) 0 rfl m2026 (by show Value.int _ _ = _; rw [hm2028H.out]) (by show Value.int _ _ = _; rw [hm2028H.out]) (by omega) HS.out ?_; intro g2030 w2031 HS1; replace HS : Aside0 (Sep (fps []) w [r7 (some ⟨g2030, 0, none⟩) m2026 m2026 (List.replicate m2026 (0 : Int))] w2031) := ⟨HS1⟩; clear HS1) | ((with_reducible refine gate_dst (N := 13) rfl ?_); refine box_on ?hg (N := 13) ?hd (cs := #[.slice (some ⟨g2030, 0, none⟩) m2026 m2026, .int .u64 0]) (t := 141) ?hr ?_; (case hd => rfl); (case hg => rfl); (case hr => first | (go_simp; done) | (go_simp; rfl)); intro g2034 hg w2035 hbox hb; replace HS : Aside0 (Sep (fps []) w [r7 (some ⟨g2030, 0, none⟩) m2026 m2026 (List.replicate m2026 (0 : Int)), b13 g2034 (some ⟨g2030, 0, none⟩) m2026 m2026 0] w2035) := ⟨HS.out.box hg hbox hb⟩; clear hg hbox hb))
      go_ret2
      rw [← some_eq H]
      exact ⟨g2034, (by first | rfl | (simp [IntKind.wrap_u32]; done)), (some ⟨g2030, 0, none⟩), m2026, m2026, ((HS.out).front 1 (by simp)).keep (l := [b13 g2034 (some ⟨g2030, 0, none⟩) m2026 m2026 0, r7 (some ⟨g2030, 0, none⟩) m2026 m2026 (List.replicate m2026 (0 : Int))]) (rest := [])⟩

set_option maxHeartbeats 30000000 in
set_option maxRecDepth 100000 in
theorem ground_New.calls (k : Nat) (a1414 : Int) (a1415 : Int) (a1416 : Int) (a1417 : Int) (r : Unit ⊕ ((Int × Int × Int × Int × List Int) ⊕ Int)) (w : World)  (HGl0 : Aside0 (Gl 0 #[.int .i64 0, .int .i64 0, .int .i64 0, .int .i64 0, .int .i64 0] (fps []) w)) (HS : Aside0 (Sep (fps []) w [] w)) (H : Aside0 (ground_New.f k a1414 a1415 a1416 a1417 = some r)) :
    Calls Tryz.prog 40 #[.agg #[.int .i64 a1414, .int .i64 a1415, .int .i64 a1416, .int .i64 a1417]] w fun e w' => Sum.elim (fun (r : Unit) => e = .returned (.tuple #[.pointer none, .int .i64 2]) ∧ Sep (fps []) w [] w') (fun (r_ : (Int × Int × Int × Int × List Int) ⊕ Int) => Sum.elim (fun (r : Int × Int × Int × Int × List Int) => ∃ (g2196 : Nat), e = .returned (.tuple #[.pointer (some ⟨g2196, 0, none⟩), .int .i64 0]) ∧ ∃ (g2197 : Nat) (A2198 : Option Addr) (m2199 : Nat) (n2200 : Nat), Sep (fps []) w [b14 g2196 g2197 r.1 r.2.1 r.2.2.1 r.2.2.2.1, b13 g2197 A2198 m2199 n2200 0, r7 A2198 m2199 n2200 r.2.2.2.2] w') (fun (r : Int) => e = .returned (.tuple #[.pointer none, .int .i64 r]) ∧ Sep (fps []) w [] w') r_) r := by
  unfold ground_New.f at H
  go_enter Tryz.func40, Tryz.ntmps40
  go_wp2_with (first | ((with_reducible refine gate_dst (N := 1) rfl ?_); refine box_on ?hg (N := 1) ?hd (cs := #[.int .i64 a1414, .int .i64 a1415, .int .i64 a1416, .int .i64 a1417]) (t := 29) ?hr ?_; (case hd => rfl); (case hg => rfl); (case hr => first | (go_simp; done) | (go_simp; rfl)); intro g2132 hg w2133 hbox hb; replace HS : Aside0 (Sep (fps []) w [b4 g2132 a1414 a1415 a1416 a1417] w2133) := ⟨HS.out.box hg hbox hb⟩; clear hg hbox hb; have hc2135 : w2133.cell? ⟨g2132, 0, none⟩ = some (.int .i64 a1414) := blk_cellv (HS.out.at0) 0 rfl; have hc2136 : w2133.cell? ⟨g2132, 1, none⟩ = some (.int .i64 a1415) := blk_cellv (HS.out.at0) 1 rfl; have hc2137 : w2133.cell? ⟨g2132, 2, none⟩ = some (.int .i64 a1416) := blk_cellv (HS.out.at0) 2 rfl; have hc2138 : w2133.cell? ⟨g2132, 3, none⟩ = some (.int .i64 a1417) := blk_cellv (HS.out.at0) 3 rfl))
  clear hc2135 hc2136 hc2137 hc2138
  obtain ⟨t2139, HA2140, H⟩ := bind_some H
  refine (plan_Of.calls _ a1414 a1415 a1416 a1417 t2139 _ ⟨HGl0.out.pass (l := []) HS.out⟩ ⟨Sep.start _⟩ HA2140).mono ?_
  rintro e_ w2141 ⟨rfl, hS⟩
  replace HS : Aside0 (Sep (fps []) w [b4 g2132 a1414 a1415 a1416 a1417] w2141) := ⟨HS.out.call hS⟩
  clear hS
  by_cases c2162 : t2139.2.2.2.2.2.2.2.2 = 0
  · have H := if_yes c2162 H
    have c2162b0 : (t2139.2.2.2.2.2.2.2.2 == 0) = true := beq_iff_eq.mpr c2162
    have c2162b1 : (t2139.2.2.2.2.2.2.2.2 != 0) = false := bne_eq_false_iff_eq.mpr c2162
    clear c2162
    go_wp2_with (first | ((with_reducible refine gate_dst (N := 4) rfl ?_); refine box_on ?hg (N := 4) ?hd (cs := #[.int .i64 0, .int .i64 0, .int .i64 0, .int .i64 0, .int .i64 0, .int .i64 0, .int .i64 0, .int .i64 0]) (t := 115) ?hr ?_; (case hd => rfl); (case hg => rfl); (case hr => first | (go_simp; done) | (go_simp; rfl)); intro g2142 hg w2143 hbox hb; replace HS : Aside0 (Sep (fps []) w [b4 g2132 a1414 a1415 a1416 a1417, b10 g2142 0 0 0 0 0 0 0 0] w2143) := ⟨HS.out.box hg hbox hb⟩; clear hg hbox hb; have hc2145 : w2143.cell? ⟨g2142, 0, none⟩ = some (.int .i64 0) := blk_cellv (HS.out.at1) 0 rfl; have hz2146 : w2143.frozen? ⟨g2142, 0, none⟩ = false := blk_fz (HS.out.at1) 0; have hc2147 : w2143.cell? ⟨g2142, 1, none⟩ = some (.int .i64 0) := blk_cellv (HS.out.at1) 1 rfl; have hz2148 : w2143.frozen? ⟨g2142, 1, none⟩ = false := blk_fz (HS.out.at1) 1; have hc2149 : w2143.cell? ⟨g2142, 2, none⟩ = some (.int .i64 0) := blk_cellv (HS.out.at1) 2 rfl; have hz2150 : w2143.frozen? ⟨g2142, 2, none⟩ = false := blk_fz (HS.out.at1) 2; have hc2151 : w2143.cell? ⟨g2142, 3, none⟩ = some (.int .i64 0) := blk_cellv (HS.out.at1) 3 rfl; have hz2152 : w2143.frozen? ⟨g2142, 3, none⟩ = false := blk_fz (HS.out.at1) 3; have hc2153 : w2143.cell? ⟨g2142, 4, none⟩ = some (.int .i64 0) := blk_cellv (HS.out.at1) 4 rfl; have hz2154 : w2143.frozen? ⟨g2142, 4, none⟩ = false := blk_fz (HS.out.at1) 4; have hc2155 : w2143.cell? ⟨g2142, 5, none⟩ = some (.int .i64 0) := blk_cellv (HS.out.at1) 5 rfl; have hz2156 : w2143.frozen? ⟨g2142, 5, none⟩ = false := blk_fz (HS.out.at1) 5; have hc2157 : w2143.cell? ⟨g2142, 6, none⟩ = some (.int .i64 0) := blk_cellv (HS.out.at1) 6 rfl; have hz2158 : w2143.frozen? ⟨g2142, 6, none⟩ = false := blk_fz (HS.out.at1) 6; have hc2159 : w2143.cell? ⟨g2142, 7, none⟩ = some (.int .i64 0) := blk_cellv (HS.out.at1) 7 rfl; have hz2160 : w2143.frozen? ⟨g2142, 7, none⟩ = false := blk_fz (HS.out.at1) 7) | ((with_reducible refine gate_store (t := 115) (p := 4) rfl ?_); refine store_event (w1 := (World.setCell (World.setCell (World.setCell (World.setCell (World.setCell (World.setCell (World.setCell (World.setCell w2143 ⟨g2142, 0, none⟩ (.int .i64 t2139.1)) ⟨g2142, 1, none⟩ (.int .i64 t2139.2.1)) ⟨g2142, 2, none⟩ (.int .i64 t2139.2.2.1)) ⟨g2142, 3, none⟩ (.int .i64 t2139.2.2.2.1)) ⟨g2142, 4, none⟩ (.int .i64 t2139.2.2.2.2.1)) ⟨g2142, 5, none⟩ (.int .i64 t2139.2.2.2.2.2.1)) ⟨g2142, 6, none⟩ (.int .i64 t2139.2.2.2.2.2.2.1)) ⟨g2142, 7, none⟩ (.int .i64 t2139.2.2.2.2.2.2.2.1))) rfl (t := 115) (p := 4) rfl rfl ?hr ?_; (case hr => first | (go_simp; done) | (go_simp; rfl)); intro w2161 hst; clear hc2145 hz2146 hc2147 hz2148 hc2149 hz2150 hc2151 hz2152 hc2153 hz2154 hc2155 hz2156 hc2157 hz2158 hc2159 hz2160; replace HS : Aside0 (Sep (fps []) w [b4 g2132 a1414 a1415 a1416 a1417, b10 g2142 t2139.1 t2139.2.1 t2139.2.2.1 t2139.2.2.2.1 t2139.2.2.2.2.1 t2139.2.2.2.2.2.1 t2139.2.2.2.2.2.2.1 t2139.2.2.2.2.2.2.2.1] w2161) := ⟨by rw [hst]; exact HS.out.setAll (l1 := [b4 g2132 a1414 a1415 a1416 a1417]) (l2 := []) [.int .i64 t2139.1, .int .i64 t2139.2.1, .int .i64 t2139.2.2.1, .int .i64 t2139.2.2.2.1, .int .i64 t2139.2.2.2.2.1, .int .i64 t2139.2.2.2.2.2.1, .int .i64 t2139.2.2.2.2.2.2.1, .int .i64 t2139.2.2.2.2.2.2.2.1] rfl⟩; clear hst; have hc2163 : w2161.cell? ⟨g2142, 0, none⟩ = some (.int .i64 t2139.1) := blk_cellv (HS.out.at1) 0 rfl))
    clear hc2163
    obtain ⟨t2164, HA2165, H⟩ := bind_some H
    rcases t2164 with t2166 | t2167
    · have H := sum_l H
      refine (store_New.calls t2139.1 (.inl t2166) _ ⟨HGl0.out.pass (l := []) HS.out⟩ ⟨Sep.start _⟩ HA2165).mono ?_
      rintro e_ w2168 ⟨rfl, hS⟩
      replace HS : Aside0 (Sep (fps []) w [b4 g2132 a1414 a1415 a1416 a1417, b10 g2142 t2139.1 t2139.2.1 t2139.2.2.1 t2139.2.2.2.1 t2139.2.2.2.2.1 t2139.2.2.2.2.2.1 t2139.2.2.2.2.2.2.1 t2139.2.2.2.2.2.2.2.1] w2168) := ⟨HS.out.call hS⟩
      clear hS
      replace HS : Aside0 (Sep (fps []) w [b4 g2132 a1414 a1415 a1416 a1417] w2168) := ⟨HS.out.sub (.cons_cons _ (.cons _ .slnil))⟩
      replace HS : Aside0 (Sep (fps []) w [] w2168) := ⟨HS.out.sub (.cons _ .slnil)⟩
      go_wp2_with fail
      go_ret2
      rw [← some_eq H]
      exact ⟨(by first | rfl | (simp [IntKind.wrap_u32]; done)), HS.out⟩
    · have H := sum_r H
      refine (store_New.calls t2139.1 (.inr t2167) _ ⟨HGl0.out.pass (l := []) HS.out⟩ ⟨Sep.start _⟩ HA2165).mono ?_
      rintro e_ w2169 ⟨g2172, rfl, A2173, m2174, n2175, hS⟩
      replace HS : Aside0 (Sep (fps []) w [b13 g2172 A2173 m2174 n2175 0, r7 A2173 m2174 n2175 t2167, b4 g2132 a1414 a1415 a1416 a1417, b10 g2142 t2139.1 t2139.2.1 t2139.2.2.1 t2139.2.2.2.1 t2139.2.2.2.2.1 t2139.2.2.2.2.2.1 t2139.2.2.2.2.2.2.1 t2139.2.2.2.2.2.2.2.1] w2169) := ⟨HS.out.call hS⟩
      clear hS
      obtain rfl := (row_len (HS.out.at1)).symm
      replace HS : Aside0 (Sep (fps []) w [b13 g2172 A2173 t2167.length n2175 0, r7 A2173 t2167.length n2175 t2167, b4 g2132 a1414 a1415 a1416 a1417] w2169) := ⟨HS.out.sub (.cons_cons _ (.cons_cons _ (.cons_cons _ (.cons _ .slnil))))⟩
      have hc2177 : w2169.cell? ⟨g2132, 0, none⟩ = some (.int .i64 a1414) := blk_cellv (HS.out.at2) 0 rfl
      have hc2178 : w2169.cell? ⟨g2132, 1, none⟩ = some (.int .i64 a1415) := blk_cellv (HS.out.at2) 1 rfl
      have hc2179 : w2169.cell? ⟨g2132, 2, none⟩ = some (.int .i64 a1416) := blk_cellv (HS.out.at2) 2 rfl
      have hc2180 : w2169.cell? ⟨g2132, 3, none⟩ = some (.int .i64 a1417) := blk_cellv (HS.out.at2) 3 rfl
      go_wp2_with (first | ((with_reducible refine gate_dst (N := 28) rfl ?_); refine box_on ?hg (N := 28) ?hd (cs := #[.pointer (some ⟨g2172, 0, none⟩), .int .i64 a1414, .int .i64 a1415, .int .i64 a1416, .int .i64 a1417]) (t := 123) ?hr ?_; (case hd => rfl); (case hg => rfl); (case hr => first | (go_simp; done) | (go_simp; rfl)); intro g2181 hg w2182 hbox hb; clear hc2177 hc2178 hc2179 hc2180; replace HS : Aside0 (Sep (fps []) w [b13 g2172 A2173 t2167.length n2175 0, r7 A2173 t2167.length n2175 t2167, b4 g2132 a1414 a1415 a1416 a1417, b14 g2181 g2172 a1414 a1415 a1416 a1417] w2182) := ⟨HS.out.box hg hbox hb⟩; clear hg hbox hb; replace HS : Aside0 (Sep (fps []) w [b13 g2172 A2173 t2167.length n2175 0, r7 A2173 t2167.length n2175 t2167, b14 g2181 g2172 a1414 a1415 a1416 a1417] w2182) := ⟨HS.out.sub (.cons_cons _ (.cons_cons _ (.cons _ (.cons_cons _ .slnil))))⟩))
      go_ret2
      rw [← some_eq H]
      exact ⟨g2181, (by first | rfl | (simp [IntKind.wrap_u32]; done)), g2172, A2173, t2167.length, n2175, ((((HS.out).front 1 (by simp)).front 1 (by simp)).front 2 (by simp)).keep (l := [b14 g2181 g2172 a1414 a1415 a1416 a1417, b13 g2172 A2173 t2167.length n2175 0, r7 A2173 t2167.length n2175 t2167]) (rest := [])⟩
  · have H := if_no c2162 H
    have c2162b0 : (t2139.2.2.2.2.2.2.2.2 == 0) = false := beq_eq_false_iff_ne.mpr c2162
    have c2162b1 : (t2139.2.2.2.2.2.2.2.2 != 0) = true := bne_iff_ne.mpr c2162
    clear c2162
    go_wp2_with (first | ((with_reducible refine gate_dst (N := 4) rfl ?_); refine box_on ?hg (N := 4) ?hd (cs := #[.int .i64 0, .int .i64 0, .int .i64 0, .int .i64 0, .int .i64 0, .int .i64 0, .int .i64 0, .int .i64 0]) (t := 115) ?hr ?_; (case hd => rfl); (case hg => rfl); (case hr => first | (go_simp; done) | (go_simp; rfl)); intro g2142 hg w2143 hbox hb; replace HS : Aside0 (Sep (fps []) w [b4 g2132 a1414 a1415 a1416 a1417, b10 g2142 0 0 0 0 0 0 0 0] w2143) := ⟨HS.out.box hg hbox hb⟩; clear hg hbox hb; have hc2145 : w2143.cell? ⟨g2142, 0, none⟩ = some (.int .i64 0) := blk_cellv (HS.out.at1) 0 rfl; have hz2146 : w2143.frozen? ⟨g2142, 0, none⟩ = false := blk_fz (HS.out.at1) 0; have hc2147 : w2143.cell? ⟨g2142, 1, none⟩ = some (.int .i64 0) := blk_cellv (HS.out.at1) 1 rfl; have hz2148 : w2143.frozen? ⟨g2142, 1, none⟩ = false := blk_fz (HS.out.at1) 1; have hc2149 : w2143.cell? ⟨g2142, 2, none⟩ = some (.int .i64 0) := blk_cellv (HS.out.at1) 2 rfl; have hz2150 : w2143.frozen? ⟨g2142, 2, none⟩ = false := blk_fz (HS.out.at1) 2; have hc2151 : w2143.cell? ⟨g2142, 3, none⟩ = some (.int .i64 0) := blk_cellv (HS.out.at1) 3 rfl; have hz2152 : w2143.frozen? ⟨g2142, 3, none⟩ = false := blk_fz (HS.out.at1) 3; have hc2153 : w2143.cell? ⟨g2142, 4, none⟩ = some (.int .i64 0) := blk_cellv (HS.out.at1) 4 rfl; have hz2154 : w2143.frozen? ⟨g2142, 4, none⟩ = false := blk_fz (HS.out.at1) 4; have hc2155 : w2143.cell? ⟨g2142, 5, none⟩ = some (.int .i64 0) := blk_cellv (HS.out.at1) 5 rfl; have hz2156 : w2143.frozen? ⟨g2142, 5, none⟩ = false := blk_fz (HS.out.at1) 5; have hc2157 : w2143.cell? ⟨g2142, 6, none⟩ = some (.int .i64 0) := blk_cellv (HS.out.at1) 6 rfl; have hz2158 : w2143.frozen? ⟨g2142, 6, none⟩ = false := blk_fz (HS.out.at1) 6; have hc2159 : w2143.cell? ⟨g2142, 7, none⟩ = some (.int .i64 0) := blk_cellv (HS.out.at1) 7 rfl; have hz2160 : w2143.frozen? ⟨g2142, 7, none⟩ = false := blk_fz (HS.out.at1) 7) | ((with_reducible refine gate_store (t := 115) (p := 4) rfl ?_); refine store_event (w1 := (World.setCell (World.setCell (World.setCell (World.setCell (World.setCell (World.setCell (World.setCell (World.setCell w2143 ⟨g2142, 0, none⟩ (.int .i64 t2139.1)) ⟨g2142, 1, none⟩ (.int .i64 t2139.2.1)) ⟨g2142, 2, none⟩ (.int .i64 t2139.2.2.1)) ⟨g2142, 3, none⟩ (.int .i64 t2139.2.2.2.1)) ⟨g2142, 4, none⟩ (.int .i64 t2139.2.2.2.2.1)) ⟨g2142, 5, none⟩ (.int .i64 t2139.2.2.2.2.2.1)) ⟨g2142, 6, none⟩ (.int .i64 t2139.2.2.2.2.2.2.1)) ⟨g2142, 7, none⟩ (.int .i64 t2139.2.2.2.2.2.2.2.1))) rfl (t := 115) (p := 4) rfl rfl ?hr ?_; (case hr => first | (go_simp; done) | (go_simp; rfl)); intro w2161 hst; clear hc2145 hz2146 hc2147 hz2148 hc2149 hz2150 hc2151 hz2152 hc2153 hz2154 hc2155 hz2156 hc2157 hz2158 hc2159 hz2160; replace HS : Aside0 (Sep (fps []) w [b4 g2132 a1414 a1415 a1416 a1417, b10 g2142 t2139.1 t2139.2.1 t2139.2.2.1 t2139.2.2.2.1 t2139.2.2.2.2.1 t2139.2.2.2.2.2.1 t2139.2.2.2.2.2.2.1 t2139.2.2.2.2.2.2.2.1] w2161) := ⟨by rw [hst]; exact HS.out.setAll (l1 := [b4 g2132 a1414 a1415 a1416 a1417]) (l2 := []) [.int .i64 t2139.1, .int .i64 t2139.2.1, .int .i64 t2139.2.2.1, .int .i64 t2139.2.2.2.1, .int .i64 t2139.2.2.2.2.1, .int .i64 t2139.2.2.2.2.2.1, .int .i64 t2139.2.2.2.2.2.2.1, .int .i64 t2139.2.2.2.2.2.2.2.1] rfl⟩; clear hst; replace HS : Aside0 (Sep (fps []) w [] w2161) := ⟨HS.out.sub (.cons _ (.cons _ .slnil))⟩))
    go_ret2
    rw [← some_eq H]
    exact ⟨(by first | rfl | (simp [IntKind.wrap_u32]; done)), HS.out⟩

set_option maxHeartbeats 30000000 in
set_option maxRecDepth 100000 in
theorem chain_of.calls (l2254 : List Int) (a2259 : Int) (a2260 : Int) (a2261 : Int) (a2262 : Int) (a2263 : Int) (a2264 : Int) (g2250 : Nat) (g2252 : Nat) (A2255 : Option Addr) (m2256 : Nat) (n2257 : Nat) (r : Int × Int × Int × Bool) (w : World)  (HGl0 : Aside0 (Gl 0 #[.int .i64 0, .int .i64 0, .int .i64 0, .int .i64 0, .int .i64 0] (fps [b14 g2250 g2252 a2260 a2261 a2262 a2263, b13 g2252 A2255 m2256 n2257 a2259, r7 A2255 m2256 n2257 l2254]) w)) (HS : Aside0 (Sep (fps [b14 g2250 g2252 a2260 a2261 a2262 a2263, b13 g2252 A2255 m2256 n2257 a2259, r7 A2255 m2256 n2257 l2254]) w [b14 g2250 g2252 a2260 a2261 a2262 a2263, b13 g2252 A2255 m2256 n2257 a2259, r7 A2255 m2256 n2257 l2254] w)) (H : Aside0 (chain_of.f l2254 a2259 a2260 a2261 a2262 a2263 a2264 = some r)) :
    Calls Tryz.prog 142 #[.pointer (some ⟨g2250, 0, none⟩), .int .i64 a2264] w fun e w' => e = .returned (.tuple #[.agg #[.int .i64 r.1, .int .i64 r.2.1, .int .i64 r.2.2.1], .bool r.2.2.2]) ∧ Sep (fps [b14 g2250 g2252 a2260 a2261 a2262 a2263, b13 g2252 A2255 m2256 n2257 a2259, r7 A2255 m2256 n2257 l2254]) w [b14 g2250 g2252 a2260 a2261 a2262 a2263, b13 g2252 A2255 m2256 n2257 a2259, r7 A2255 m2256 n2257 l2254] w' := by
  generalize (fps [b14 g2250 g2252 a2260 a2261 a2262 a2263, b13 g2252 A2255 m2256 n2257 a2259, r7 A2255 m2256 n2257 l2254]) = FF at HS HGl0 ⊢
  obtain rfl := (row_len (HS.out.at2)).symm
  unfold chain_of.f at H
  go_enter Tryz.func142, Tryz.ntmps142
  by_cases c2268 : a2264 < 0
  · have H := if_yes c2268 H
    have c2268b0 : decide (a2264 < 0) = true := decide_eq_true c2268
    clear c2268
    go_wp2_with (first | ((with_reducible refine gate_dst (N := 4) rfl ?_); refine box_on ?hg (N := 4) ?hd (cs := #[.int .i64 0, .int .i64 0, .int .i64 0]) (t := 165) ?hr ?_; (case hd => rfl); (case hg => rfl); (case hr => first | (go_simp; done) | (go_simp; rfl)); intro g2265 hg w2266 hbox hb; replace HS : Aside0 (Sep FF w [b14 g2250 g2252 a2260 a2261 a2262 a2263, b13 g2252 A2255 l2254.length n2257 a2259, r7 A2255 l2254.length n2257 l2254, b15 g2265 0 0 0] w2266) := ⟨HS.out.box hg hbox hb⟩; clear hg hbox hb; have hc2269 : w2266.cell? ⟨g2265, 0, none⟩ = some (.int .i64 0) := blk_cellv (HS.out.at3) 0 rfl; have hz2270 : w2266.frozen? ⟨g2265, 0, none⟩ = false := blk_fz (HS.out.at3) 0; have hc2271 : w2266.cell? ⟨g2265, 1, none⟩ = some (.int .i64 0) := blk_cellv (HS.out.at3) 1 rfl; have hz2272 : w2266.frozen? ⟨g2265, 1, none⟩ = false := blk_fz (HS.out.at3) 1; have hc2273 : w2266.cell? ⟨g2265, 2, none⟩ = some (.int .i64 0) := blk_cellv (HS.out.at3) 2 rfl; have hz2274 : w2266.frozen? ⟨g2265, 2, none⟩ = false := blk_fz (HS.out.at3) 2) | ((with_reducible refine gate_store (t := 165) (p := 4) rfl ?_); refine store_event (w1 := (World.setCell (World.setCell (World.setCell w2266 ⟨g2265, 0, none⟩ (.int .i64 0)) ⟨g2265, 1, none⟩ (.int .i64 0)) ⟨g2265, 2, none⟩ (.int .i64 0))) rfl (t := 165) (p := 4) rfl rfl ?hr ?_; (case hr => first | (go_simp; done) | (go_simp; rfl)); intro w2275 hst; clear hc2269 hz2270 hc2271 hz2272 hc2273 hz2274; replace HS : Aside0 (Sep FF w [b14 g2250 g2252 a2260 a2261 a2262 a2263, b13 g2252 A2255 l2254.length n2257 a2259, r7 A2255 l2254.length n2257 l2254, b15 g2265 0 0 0] w2275) := ⟨by rw [hst]; exact HS.out.setAll (l1 := [b14 g2250 g2252 a2260 a2261 a2262 a2263, b13 g2252 A2255 l2254.length n2257 a2259, r7 A2255 l2254.length n2257 l2254]) (l2 := []) [.int .i64 0, .int .i64 0, .int .i64 0] rfl⟩; clear hst))
    have hc2276 : w2275.cell? ⟨g2265, 0, none⟩ = some (.int .i64 0) := blk_cellv (HS.out.at3) 0 rfl
    have hc2277 : w2275.cell? ⟨g2265, 1, none⟩ = some (.int .i64 0) := blk_cellv (HS.out.at3) 1 rfl
    have hc2278 : w2275.cell? ⟨g2265, 2, none⟩ = some (.int .i64 0) := blk_cellv (HS.out.at3) 2 rfl
    refine bodyPost_ret (v := .tuple #[.agg #[.int .i64 0, .int .i64 0, .int .i64 0], .bool false]) (by simp [results, Tryz.results142, go_sem, hc2276, hc2277, hc2278]) rfl ?_
    rw [← some_eq H]
    exact ⟨(by first | rfl | (simp [IntKind.wrap_u32]; done)), HS.out.sub (.cons_cons _ (.cons_cons _ (.cons_cons _ (.cons _ .slnil))))⟩
  · have H := if_no c2268 H
    have c2268b0 : decide (a2264 < 0) = false := decide_eq_false c2268
    clear c2268
    by_cases c2279 : a2264 > 1
    · have H := if_yes c2279 H
      have c2279b0 : decide (1 < a2264) = true := decide_eq_true c2279
      clear c2279
      go_wp2_with (first | ((with_reducible refine gate_dst (N := 4) rfl ?_); refine box_on ?hg (N := 4) ?hd (cs := #[.int .i64 0, .int .i64 0, .int .i64 0]) (t := 165) ?hr ?_; (case hd => rfl); (case hg => rfl); (case hr => first | (go_simp; done) | (go_simp; rfl)); intro g2265 hg w2266 hbox hb; replace HS : Aside0 (Sep FF w [b14 g2250 g2252 a2260 a2261 a2262 a2263, b13 g2252 A2255 l2254.length n2257 a2259, r7 A2255 l2254.length n2257 l2254, b15 g2265 0 0 0] w2266) := ⟨HS.out.box hg hbox hb⟩; clear hg hbox hb; have hc2280 : w2266.cell? ⟨g2265, 0, none⟩ = some (.int .i64 0) := blk_cellv (HS.out.at3) 0 rfl; have hz2281 : w2266.frozen? ⟨g2265, 0, none⟩ = false := blk_fz (HS.out.at3) 0; have hc2282 : w2266.cell? ⟨g2265, 1, none⟩ = some (.int .i64 0) := blk_cellv (HS.out.at3) 1 rfl; have hz2283 : w2266.frozen? ⟨g2265, 1, none⟩ = false := blk_fz (HS.out.at3) 1; have hc2284 : w2266.cell? ⟨g2265, 2, none⟩ = some (.int .i64 0) := blk_cellv (HS.out.at3) 2 rfl; have hz2285 : w2266.frozen? ⟨g2265, 2, none⟩ = false := blk_fz (HS.out.at3) 2) | ((with_reducible refine gate_store (t := 165) (p := 4) rfl ?_); refine store_event (w1 := (World.setCell (World.setCell (World.setCell w2266 ⟨g2265, 0, none⟩ (.int .i64 0)) ⟨g2265, 1, none⟩ (.int .i64 0)) ⟨g2265, 2, none⟩ (.int .i64 0))) rfl (t := 165) (p := 4) rfl rfl ?hr ?_; (case hr => first | (go_simp; done) | (go_simp; rfl)); intro w2286 hst; clear hc2280 hz2281 hc2282 hz2283 hc2284 hz2285; replace HS : Aside0 (Sep FF w [b14 g2250 g2252 a2260 a2261 a2262 a2263, b13 g2252 A2255 l2254.length n2257 a2259, r7 A2255 l2254.length n2257 l2254, b15 g2265 0 0 0] w2286) := ⟨by rw [hst]; exact HS.out.setAll (l1 := [b14 g2250 g2252 a2260 a2261 a2262 a2263, b13 g2252 A2255 l2254.length n2257 a2259, r7 A2255 l2254.length n2257 l2254]) (l2 := []) [.int .i64 0, .int .i64 0, .int .i64 0] rfl⟩; clear hst))
      have hc2287 : w2286.cell? ⟨g2265, 0, none⟩ = some (.int .i64 0) := blk_cellv (HS.out.at3) 0 rfl
      have hc2288 : w2286.cell? ⟨g2265, 1, none⟩ = some (.int .i64 0) := blk_cellv (HS.out.at3) 1 rfl
      have hc2289 : w2286.cell? ⟨g2265, 2, none⟩ = some (.int .i64 0) := blk_cellv (HS.out.at3) 2 rfl
      refine bodyPost_ret (v := .tuple #[.agg #[.int .i64 0, .int .i64 0, .int .i64 0], .bool false]) (by simp [results, Tryz.results142, go_sem, hc2287, hc2288, hc2289]) rfl ?_
      rw [← some_eq H]
      exact ⟨(by first | rfl | (simp [IntKind.wrap_u32]; done)), HS.out.sub (.cons_cons _ (.cons_cons _ (.cons_cons _ (.cons _ .slnil))))⟩
    · have H := if_no c2279 H
      have c2279b0 : decide (1 < a2264) = false := decide_eq_false c2279
      clear c2279
      go_wp2_with (first | ((with_reducible refine gate_dst (N := 4) rfl ?_); refine box_on ?hg (N := 4) ?hd (cs := #[.int .i64 0, .int .i64 0, .int .i64 0]) (t := 165) ?hr ?_; (case hd => rfl); (case hg => rfl); (case hr => first | (go_simp; done) | (go_simp; rfl)); intro g2265 hg w2266 hbox hb; replace HS : Aside0 (Sep FF w [b14 g2250 g2252 a2260 a2261 a2262 a2263, b13 g2252 A2255 l2254.length n2257 a2259, r7 A2255 l2254.length n2257 l2254, b15 g2265 0 0 0] w2266) := ⟨HS.out.box hg hbox hb⟩; clear hg hbox hb; have hc2290 : w2266.cell? ⟨g2265, 0, none⟩ = some (.int .i64 0) := blk_cellv (HS.out.at3) 0 rfl; have hz2291 : w2266.frozen? ⟨g2265, 0, none⟩ = false := blk_fz (HS.out.at3) 0; have hc2292 : w2266.cell? ⟨g2265, 1, none⟩ = some (.int .i64 0) := blk_cellv (HS.out.at3) 1 rfl; have hz2293 : w2266.frozen? ⟨g2265, 1, none⟩ = false := blk_fz (HS.out.at3) 1; have hc2294 : w2266.cell? ⟨g2265, 2, none⟩ = some (.int .i64 0) := blk_cellv (HS.out.at3) 2 rfl; have hz2295 : w2266.frozen? ⟨g2265, 2, none⟩ = false := blk_fz (HS.out.at3) 2) | ((with_reducible refine gate_store (t := 165) (p := 4) rfl ?_); refine store_event (w1 := (World.setCell (World.setCell (World.setCell w2266 ⟨g2265, 0, none⟩ (.int .i64 (wrap64 (3 * a2264)))) ⟨g2265, 1, none⟩ (.int .i64 (wrap64 ((wrap64 (3 * a2264)) + 1)))) ⟨g2265, 2, none⟩ (.int .i64 (wrap64 ((wrap64 (3 * a2264)) + 2))))) rfl (t := 165) (p := 4) rfl rfl ?hr ?_; (case hr => first | (go_simp; done) | (go_simp; rfl)); intro w2296 hst; clear hc2290 hz2291 hc2292 hz2293 hc2294 hz2295; replace HS : Aside0 (Sep FF w [b14 g2250 g2252 a2260 a2261 a2262 a2263, b13 g2252 A2255 l2254.length n2257 a2259, r7 A2255 l2254.length n2257 l2254, b15 g2265 (wrap64 (3 * a2264)) (wrap64 ((wrap64 (3 * a2264)) + 1)) (wrap64 ((wrap64 (3 * a2264)) + 2))] w2296) := ⟨by rw [hst]; exact HS.out.setAll (l1 := [b14 g2250 g2252 a2260 a2261 a2262 a2263, b13 g2252 A2255 l2254.length n2257 a2259, r7 A2255 l2254.length n2257 l2254]) (l2 := []) [.int .i64 (wrap64 (3 * a2264)), .int .i64 (wrap64 ((wrap64 (3 * a2264)) + 1)), .int .i64 (wrap64 ((wrap64 (3 * a2264)) + 2))] rfl⟩; clear hst))
      have hc2297 : w2296.cell? ⟨g2265, 0, none⟩ = some (.int .i64 (wrap64 (3 * a2264))) := blk_cellv (HS.out.at3) 0 rfl
      have hc2298 : w2296.cell? ⟨g2265, 1, none⟩ = some (.int .i64 (wrap64 ((wrap64 (3 * a2264)) + 1))) := blk_cellv (HS.out.at3) 1 rfl
      have hc2299 : w2296.cell? ⟨g2265, 2, none⟩ = some (.int .i64 (wrap64 ((wrap64 (3 * a2264)) + 2))) := blk_cellv (HS.out.at3) 2 rfl
      refine bodyPost_ret (v := .tuple #[.agg #[.int .i64 (wrap64 (3 * a2264)), .int .i64 (wrap64 ((wrap64 (3 * a2264)) + 1)), .int .i64 (wrap64 ((wrap64 (3 * a2264)) + 2))], .bool true]) (by simp [results, Tryz.results142, go_sem, hc2297, hc2298, hc2299]) rfl ?_
      rw [← some_eq H]
      exact ⟨(by first | rfl | (simp [IntKind.wrap_u32]; done)), HS.out.sub (.cons_cons _ (.cons_cons _ (.cons_cons _ (.cons _ .slnil))))⟩

set_option maxHeartbeats 30000000 in
set_option maxRecDepth 100000 in
theorem ground_Ground_all.calls (l2336 : List Int) (a2341 : Int) (a2342 : Int) (a2343 : Int) (a2344 : Int) (a2345 : Int) (g2332 : Nat) (g2334 : Nat) (A2337 : Option Addr) (m2338 : Nat) (n2339 : Nat) (r : Unit) (w : World)  (HGl0 : Aside0 (Gl 0 #[.int .i64 0, .int .i64 0, .int .i64 0, .int .i64 0, .int .i64 0] (fps [b14 g2332 g2334 a2342 a2343 a2344 a2345, b13 g2334 A2337 m2338 n2339 a2341, r7 A2337 m2338 n2339 l2336]) w)) (HS : Aside0 (Sep (fps [b14 g2332 g2334 a2342 a2343 a2344 a2345, b13 g2334 A2337 m2338 n2339 a2341, r7 A2337 m2338 n2339 l2336]) w [b14 g2332 g2334 a2342 a2343 a2344 a2345, b13 g2334 A2337 m2338 n2339 a2341, r7 A2337 m2338 n2339 l2336] w)) (H : Aside0 (ground_Ground_all.f l2336 a2341 a2342 a2343 a2344 a2345 = some r)) :
    Calls Tryz.prog 63 #[.pointer (some ⟨g2332, 0, none⟩)] w fun e w' => e = .returned (.pointer (some ⟨g2334, 0, none⟩)) ∧ Sep (fps [b14 g2332 g2334 a2342 a2343 a2344 a2345, b13 g2334 A2337 m2338 n2339 a2341, r7 A2337 m2338 n2339 l2336]) w [b14 g2332 g2334 a2342 a2343 a2344 a2345, b13 g2334 A2337 m2338 n2339 a2341, r7 A2337 m2338 n2339 l2336] w' := by
  generalize (fps [b14 g2332 g2334 a2342 a2343 a2344 a2345, b13 g2334 A2337 m2338 n2339 a2341, r7 A2337 m2338 n2339 l2336]) = FF at HS HGl0 ⊢
  obtain rfl := (row_len (HS.out.at2)).symm
  unfold ground_Ground_all.f at H
  go_enter Tryz.func63, Tryz.ntmps63
  have hc2346 : w.cell? ⟨g2332, 0, none⟩ = some (.pointer (some ⟨g2334, 0, none⟩)) := blk_cellv (HS.out.at0) 0 rfl
  go_wp2_with fail
  clear hc2346
  go_ret
  clear H
  exact ⟨(by first | rfl | (simp [IntKind.wrap_u32]; done)), HS.out⟩

set_option maxHeartbeats 30000000 in
set_option maxRecDepth 100000 in
theorem store_Store_has.calls (l2366 : List Int) (a2371 : Int) (a2372 : Int) (g2364 : Nat) (A2367 : Option Addr) (m2368 : Nat) (n2369 : Nat) (r : Bool) (w : World)  (HGl0 : Aside0 (Gl 0 #[.int .i64 0, .int .i64 0, .int .i64 0, .int .i64 0, .int .i64 0] (fps [b13 g2364 A2367 m2368 n2369 a2371, r7 A2367 m2368 n2369 l2366]) w)) (HS : Aside0 (Sep (fps [b13 g2364 A2367 m2368 n2369 a2371, r7 A2367 m2368 n2369 l2366]) w [b13 g2364 A2367 m2368 n2369 a2371, r7 A2367 m2368 n2369 l2366] w)) (H : Aside0 (store_Store_has.f l2366 a2371 a2372 = some r)) :
    Calls Tryz.prog 147 #[.pointer (some ⟨g2364, 0, none⟩), .int .i64 a2372] w fun e w' => e = .returned (.bool r) ∧ Sep (fps [b13 g2364 A2367 m2368 n2369 a2371, r7 A2367 m2368 n2369 l2366]) w [b13 g2364 A2367 m2368 n2369 a2371, r7 A2367 m2368 n2369 l2366] w' := by
  generalize (fps [b13 g2364 A2367 m2368 n2369 a2371, r7 A2367 m2368 n2369 l2366]) = FF at HS HGl0 ⊢
  obtain rfl := (row_len (HS.out.at1)).symm
  unfold store_Store_has.f at H
  go_enter Tryz.func147, Tryz.ntmps147
  by_cases c2373 : a2372 ≥ 0
  · have H := if_yes c2373 H
    have c2373b0 : decide (0 ≤ a2372) = true := decide_eq_true c2373
    clear c2373
    have hc2374 : w.cell? ⟨g2364, 0, none⟩ = some (.slice A2367 l2366.length n2369) := blk_cellv (HS.out.at0) 0 rfl
    go_wp2_with fail
    clear hc2374
    go_ret
    rw [← some_eq H]
    exact ⟨(by first | rfl | (simp [IntKind.wrap_u32]; done)), HS.out⟩
  · have H := if_no c2373 H
    have c2373b0 : decide (0 ≤ a2372) = false := decide_eq_false c2373
    clear c2373
    go_wp2_with fail
    go_ret
    rw [← some_eq H]
    exact ⟨(by first | rfl | (simp [IntKind.wrap_u32]; done)), HS.out⟩

set_option maxHeartbeats 30000000 in
set_option maxRecDepth 100000 in
theorem atomic_Uint64_Add.calls (l2382 : List Int) (a2387 : Int) (a2388 : Int) (g2380 : Nat) (A2383 : Option Addr) (m2384 : Nat) (n2385 : Nat) (r : Int × Int) (w : World)  (HGl0 : Aside0 (Gl 0 #[.int .i64 0, .int .i64 0, .int .i64 0, .int .i64 0, .int .i64 0] (fps [b13 g2380 A2383 m2384 n2385 a2387, r7 A2383 m2384 n2385 l2382]) w)) (HS : Aside0 (Sep (fps [b13 g2380 A2383 m2384 n2385 a2387, r7 A2383 m2384 n2385 l2382]) w [b13 g2380 A2383 m2384 n2385 a2387, r7 A2383 m2384 n2385 l2382] w)) (H : Aside0 (atomic_Uint64_Add.f l2382 a2387 a2388 = some r)) :
    Calls Tryz.prog 148 #[.pointer (some ⟨g2380, 1, none⟩), .int .u64 a2388] w fun e w' => e = .returned (.int .u64 r.1) ∧ Sep (fps [b13 g2380 A2383 m2384 n2385 a2387, r7 A2383 m2384 n2385 l2382]) w [b13 g2380 A2383 m2384 n2385 r.2, r7 A2383 m2384 n2385 l2382] w' := by
  generalize (fps [b13 g2380 A2383 m2384 n2385 a2387, r7 A2383 m2384 n2385 l2382]) = FF at HS HGl0 ⊢
  obtain rfl := (row_len (HS.out.at1)).symm
  unfold atomic_Uint64_Add.f at H
  go_enter Tryz.func148, Tryz.ntmps148
  obtain ⟨y2398, HA2399, H⟩ := bind_some H
  have hc2395 : w.cell? ⟨g2380, 1, none⟩ = some (.int .u64 a2387) := blk_cellv (HS.out.at0) 1 rfl
  have hz2397 : w.frozen? ⟨g2380, 1, none⟩ = false := blk_fz (HS.out.at0) 1
  have hn2396 : (callFunc 183 #[.pointer (some ⟨g2380, 1, none⟩), .int .u64 a2388]).run Tryz.prog w = .ok (.value (.int .u64 y2398)) ((World.setCell w ⟨g2380, 1, none⟩ (.int .u64 y2398))) := (some_eq HA2399) ▸ run_call_add Tryz.func183 (by kernel_rfl) (by kernel_rfl) (by kernel_rfl) .u64 (by kernel_rfl) hc2395 hz2397 (by rfl)
  go_wp2_with (first | ((with_reducible refine gate_dst (N := 9) rfl ?_); refine run_on2 (by rfl) (w1 := (World.setCell w ⟨g2380, 1, none⟩ (.int .u64 y2398))) (v := .int .u64 y2398) ?hr ?_; (case hr => first | (go_simp; done) | (go_simp; rfl)); intro w2400 hst; clear hc2395 hz2397; have hq0 : Sep FF w [b13 g2380 A2383 l2382.length n2385 y2398, r7 A2383 l2382.length n2385 l2382] (World.setCell w ⟨g2380, 1, none⟩ (.int .u64 y2398)) := (HS.out).set1 (l1 := []) (l2 := [r7 A2383 l2382.length n2385 l2382]) 1 (.int .u64 y2398); replace HS : Aside0 (Sep FF w [b13 g2380 A2383 l2382.length n2385 y2398, r7 A2383 l2382.length n2385 l2382] w2400) := ⟨by rw [hst]; exact hq0⟩; clear hst hn2396 hq0))
  go_ret
  rw [← some_eq H]
  exact ⟨(by first | rfl | (simp [IntKind.wrap_u32]; done)), HS.out⟩

set_option maxHeartbeats 30000000 in
set_option maxRecDepth 100000 in
theorem store_Store_Get.calls (l2356 : List Int) (a2361 : Int) (a2362 : Int) (g2354 : Nat) (A2357 : Option Addr) (m2358 : Nat) (n2359 : Nat) (r : Int × Int) (w : World)  (HGl0 : Aside0 (Gl 0 #[.int .i64 0, .int .i64 0, .int .i64 0, .int .i64 0, .int .i64 0] (fps [b13 g2354 A2357 m2358 n2359 a2361, r7 A2357 m2358 n2359 l2356]) w)) (HS : Aside0 (Sep (fps [b13 g2354 A2357 m2358 n2359 a2361, r7 A2357 m2358 n2359 l2356]) w [b13 g2354 A2357 m2358 n2359 a2361, r7 A2357 m2358 n2359 l2356] w)) (H : Aside0 (store_Store_Get.f l2356 a2361 a2362 = some r)) :
    Calls Tryz.prog 101 #[.pointer (some ⟨g2354, 0, none⟩), .int .i64 a2362] w fun e w' => e = .returned (.int .u32 r.1) ∧ Sep (fps [b13 g2354 A2357 m2358 n2359 a2361, r7 A2357 m2358 n2359 l2356]) w [b13 g2354 A2357 m2358 n2359 r.2, r7 A2357 m2358 n2359 l2356] w' := by
  generalize (fps [b13 g2354 A2357 m2358 n2359 a2361, r7 A2357 m2358 n2359 l2356]) = FF at HS HGl0 ⊢
  obtain rfl := (row_len (HS.out.at1)).symm
  unfold store_Store_Get.f at H
  go_enter Tryz.func101, Tryz.ntmps101
  go_wp2_with fail
  obtain ⟨t2410, HA2411, H⟩ := bind_some H
  refine (store_Store_has.calls l2356 a2361 a2362 g2354 A2357 l2356.length n2359 t2410 _ ⟨HGl0.out.pass HS.out⟩ ⟨HS.out.begin⟩ HA2411).mono ?_
  rintro e_ w2412 ⟨rfl, hS⟩
  replace HS : Aside0 (Sep FF w [b13 g2354 A2357 l2356.length n2359 a2361, r7 A2357 l2356.length n2359 l2356] w2412) := ⟨HS.out.call hS⟩
  clear hS
  by_cases c2413 : t2410 = true
  · have H := if_yes c2413 H
    have c2413b0 : t2410 = true := c2413
    have c2413b1 : (!t2410) = false := by rw [c2413b0]; rfl
    try rw [c2413b1]
    clear c2413
    go_wp2_with fail
    obtain ⟨t2414, HA2415, H⟩ := bind_some H
    refine (atomic_Uint64_Add.calls l2356 a2361 1 g2354 A2357 l2356.length n2359 t2414 _ ⟨HGl0.out.pass HS.out⟩ ⟨HS.out.begin⟩ HA2415).mono ?_
    rintro e_ w2416 ⟨rfl, hS⟩
    replace HS : Aside0 (Sep FF w [b13 g2354 A2357 l2356.length n2359 t2414.2, r7 A2357 l2356.length n2359 l2356] w2416) := ⟨HS.out.call hS⟩
    clear hS
    by_cases c2418 : 0 ≤ a2362
    · have H := if_yes c2418 H
      have c2418b0 : decide (0 ≤ a2362) = true := decide_eq_true c2418
      have c2418p : (0 ≤ a2362) = True := eq_true c2418
      clear c2418
      by_cases c2419 : a2362 < (l2356.length : Int)
      · have H := if_yes c2419 H
        have c2419b0 : decide (a2362 < (l2356.length : Int)) = true := decide_eq_true c2419
        have c2419p : (a2362 < (l2356.length : Int)) = True := eq_true c2419
        clear c2419
        have hc2417 : w2416.cell? ⟨g2354, 0, none⟩ = some (.slice A2357 l2356.length n2359) := blk_cellv (HS.out.at0) 0 rfl
        obtain ⟨g2420, ea⟩ := row_at (HS.out.at1) (by have := (of_decide_eq_true c2418b0); have := (of_decide_eq_true c2419b0); omega); cases ea
        have hx2421 := C_at_int (row_Ci (HS.out.at1)) a2362 (of_decide_eq_true c2418b0) (of_decide_eq_true c2419b0)
        have hx2422 : w2416.cell? ⟨g2420, (a2362).toNat, none⟩ = some (.int .u32 (rd l2356 a2362)) := (row_get 0 (HS.out.at1) a2362 (of_decide_eq_true c2418b0) (of_decide_eq_true c2419b0)).1
        go_wp2_with fail
        clear hc2417 hx2421 hx2422
        go_ret
        rw [← some_eq H]
        exact ⟨(by first | rfl | (simp [IntKind.wrap_u32]; done)), HS.out⟩
      · have H := if_no c2419 H
        have c2419b0 : decide (a2362 < (l2356.length : Int)) = false := decide_eq_false c2419
        clear c2419
        exact (none_no H).elim
    · have H := if_no c2418 H
      have c2418b0 : decide (0 ≤ a2362) = false := decide_eq_false c2418
      clear c2418
      exact (none_no H).elim
  · have H := if_no c2413 H
    have c2413b0 : t2410 = false := by simpa using c2413
    have c2413b1 : (!t2410) = true := by rw [c2413b0]; rfl
    try rw [c2413b1]
    clear c2413
    go_wp2_with fail
    go_ret
    rw [← some_eq H]
    exact ⟨(by first | rfl | (simp [IntKind.wrap_u32]; done)), HS.out⟩

set_option maxHeartbeats 30000000 in
set_option maxRecDepth 100000 in
theorem ground_Ground_Reg.calls (l2320 : List Int) (a2325 : Int) (a2326 : Int) (a2327 : Int) (a2328 : Int) (a2329 : Int) (a2330 : Int) (g2316 : Nat) (g2318 : Nat) (A2321 : Option Addr) (m2322 : Nat) (n2323 : Nat) (r : Int × Int) (w : World)  (HGl0 : Aside0 (Gl 0 #[.int .i64 0, .int .i64 0, .int .i64 0, .int .i64 0, .int .i64 0] (fps [b14 g2316 g2318 a2326 a2327 a2328 a2329, b13 g2318 A2321 m2322 n2323 a2325, r7 A2321 m2322 n2323 l2320]) w)) (HS : Aside0 (Sep (fps [b14 g2316 g2318 a2326 a2327 a2328 a2329, b13 g2318 A2321 m2322 n2323 a2325, r7 A2321 m2322 n2323 l2320]) w [b14 g2316 g2318 a2326 a2327 a2328 a2329, b13 g2318 A2321 m2322 n2323 a2325, r7 A2321 m2322 n2323 l2320] w)) (H : Aside0 (ground_Ground_Reg.f l2320 a2325 a2326 a2327 a2328 a2329 a2330 = some r)) :
    Calls Tryz.prog 44 #[.pointer (some ⟨g2316, 0, none⟩), .int .i64 a2330] w fun e w' => e = .returned (.int .i64 r.1) ∧ Sep (fps [b14 g2316 g2318 a2326 a2327 a2328 a2329, b13 g2318 A2321 m2322 n2323 a2325, r7 A2321 m2322 n2323 l2320]) w [b14 g2316 g2318 a2326 a2327 a2328 a2329, b13 g2318 A2321 m2322 n2323 r.2, r7 A2321 m2322 n2323 l2320] w' := by
  generalize (fps [b14 g2316 g2318 a2326 a2327 a2328 a2329, b13 g2318 A2321 m2322 n2323 a2325, r7 A2321 m2322 n2323 l2320]) = FF at HS HGl0 ⊢
  obtain rfl := (row_len (HS.out.at2)).symm
  unfold ground_Ground_Reg.f at H
  go_enter Tryz.func44, Tryz.ntmps44
  go_wp2_with fail
  obtain ⟨t2426, HA2427, H⟩ := bind_some H
  refine (ground_Ground_all.calls l2320 a2325 a2326 a2327 a2328 a2329 g2316 g2318 A2321 l2320.length n2323 t2426 _ ⟨HGl0.out.pass HS.out⟩ ⟨HS.out.begin⟩ HA2427).mono ?_
  rintro e_ w2428 ⟨rfl, hS⟩
  replace HS : Aside0 (Sep FF w [b14 g2316 g2318 a2326 a2327 a2328 a2329, b13 g2318 A2321 l2320.length n2323 a2325, r7 A2321 l2320.length n2323 l2320] w2428) := ⟨HS.out.call hS⟩
  clear hS
  go_wp2_with fail
  obtain ⟨t2429, HA2430, H⟩ := bind_some H
  refine (ground_reg.calls a2330 t2429 _ ⟨HGl0.out.pass (l := []) HS.out⟩ ⟨Sep.start _⟩ HA2430).mono ?_
  rintro e_ w2431 ⟨rfl, hS⟩
  replace HS : Aside0 (Sep FF w [b14 g2316 g2318 a2326 a2327 a2328 a2329, b13 g2318 A2321 l2320.length n2323 a2325, r7 A2321 l2320.length n2323 l2320] w2431) := ⟨HS.out.call hS⟩
  clear hS
  go_wp2_with fail
  replace HS : Aside0 (Sep FF w [r7 A2321 l2320.length n2323 l2320, b14 g2316 g2318 a2326 a2327 a2328 a2329, b13 g2318 A2321 l2320.length n2323 a2325] w2431) := ⟨HS.out.front 2 (by simp)⟩
  replace HS : Aside0 (Sep FF w [b13 g2318 A2321 l2320.length n2323 a2325, r7 A2321 l2320.length n2323 l2320, b14 g2316 g2318 a2326 a2327 a2328 a2329] w2431) := ⟨HS.out.front 2 (by simp)⟩
  obtain ⟨t2432, HA2433, H⟩ := bind_some H
  refine (store_Store_Get.calls l2320 a2325 t2429 g2318 A2321 l2320.length n2323 t2432 _ ⟨HGl0.out.pass HS.out⟩ ⟨HS.out.begin⟩ HA2433).mono ?_
  rintro e_ w2434 ⟨rfl, hS⟩
  replace HS : Aside0 (Sep FF w [b13 g2318 A2321 l2320.length n2323 t2432.2, r7 A2321 l2320.length n2323 l2320, b14 g2316 g2318 a2326 a2327 a2328 a2329] w2434) := ⟨HS.out.call hS⟩
  clear hS
  go_wp2_with fail
  go_ret
  rw [← some_eq H]
  exact ⟨(by first | rfl | (simp [IntKind.wrap_u32]; done)), ((((HS.out).front 1 (by simp)).front 1 (by simp)).front 2 (by simp)).keep (l := [b14 g2316 g2318 a2326 a2327 a2328 a2329, b13 g2318 A2321 l2320.length n2323 t2432.2, r7 A2321 l2320.length n2323 l2320]) (rest := [])⟩

set_option maxHeartbeats 30000000 in
set_option maxRecDepth 100000 in
theorem chain_Len.calls (l2238 : List Int) (a2243 : Int) (a2244 : Int) (a2245 : Int) (a2246 : Int) (a2247 : Int) (a2248 : Int) (g2234 : Nat) (g2236 : Nat) (A2239 : Option Addr) (m2240 : Nat) (n2241 : Nat) (r : Int × Int) (w : World)  (HGl0 : Aside0 (Gl 0 #[.int .i64 0, .int .i64 0, .int .i64 0, .int .i64 0, .int .i64 0] (fps [b14 g2234 g2236 a2244 a2245 a2246 a2247, b13 g2236 A2239 m2240 n2241 a2243, r7 A2239 m2240 n2241 l2238]) w)) (HS : Aside0 (Sep (fps [b14 g2234 g2236 a2244 a2245 a2246 a2247, b13 g2236 A2239 m2240 n2241 a2243, r7 A2239 m2240 n2241 l2238]) w [b14 g2234 g2236 a2244 a2245 a2246 a2247, b13 g2236 A2239 m2240 n2241 a2243, r7 A2239 m2240 n2241 l2238] w)) (H : Aside0 (chain_Len.f l2238 a2243 a2244 a2245 a2246 a2247 a2248 = some r)) :
    Calls Tryz.prog 96 #[.pointer (some ⟨g2234, 0, none⟩), .int .i64 a2248] w fun e w' => e = .returned (.int .i64 r.1) ∧ Sep (fps [b14 g2234 g2236 a2244 a2245 a2246 a2247, b13 g2236 A2239 m2240 n2241 a2243, r7 A2239 m2240 n2241 l2238]) w [b14 g2234 g2236 a2244 a2245 a2246 a2247, b13 g2236 A2239 m2240 n2241 r.2, r7 A2239 m2240 n2241 l2238] w' := by
  generalize (fps [b14 g2234 g2236 a2244 a2245 a2246 a2247, b13 g2236 A2239 m2240 n2241 a2243, r7 A2239 m2240 n2241 l2238]) = FF at HS HGl0 ⊢
  obtain rfl := (row_len (HS.out.at2)).symm
  unfold chain_Len.f at H
  go_enter Tryz.func96, Tryz.ntmps96
  go_wp2_with fail
  obtain ⟨t2438, HA2439, H⟩ := bind_some H
  refine (chain_of.calls l2238 a2243 a2244 a2245 a2246 a2247 a2248 g2234 g2236 A2239 l2238.length n2241 t2438 _ ⟨HGl0.out.pass HS.out⟩ ⟨HS.out.begin⟩ HA2439).mono ?_
  rintro e_ w2440 ⟨rfl, hS⟩
  replace HS : Aside0 (Sep FF w [b14 g2234 g2236 a2244 a2245 a2246 a2247, b13 g2236 A2239 l2238.length n2241 a2243, r7 A2239 l2238.length n2241 l2238] w2440) := ⟨HS.out.call hS⟩
  clear hS
  by_cases c2451 : t2438.2.2.2 = true
  · have H := if_yes c2451 H
    have c2451b0 : t2438.2.2.2 = true := c2451
    have c2451b1 : (!t2438.2.2.2) = false := by rw [c2451b0]; rfl
    try rw [c2451b1]
    clear c2451
    go_wp2_with (first | ((with_reducible refine gate_dst (N := 5) rfl ?_); refine box_on ?hg (N := 5) ?hd (cs := #[.int .i64 0, .int .i64 0, .int .i64 0]) (t := 165) ?hr ?_; (case hd => rfl); (case hg => rfl); (case hr => first | (go_simp; done) | (go_simp; rfl)); intro g2441 hg w2442 hbox hb; replace HS : Aside0 (Sep FF w [b14 g2234 g2236 a2244 a2245 a2246 a2247, b13 g2236 A2239 l2238.length n2241 a2243, r7 A2239 l2238.length n2241 l2238, b15 g2441 0 0 0] w2442) := ⟨HS.out.box hg hbox hb⟩; clear hg hbox hb; have hc2444 : w2442.cell? ⟨g2441, 0, none⟩ = some (.int .i64 0) := blk_cellv (HS.out.at3) 0 rfl; have hz2445 : w2442.frozen? ⟨g2441, 0, none⟩ = false := blk_fz (HS.out.at3) 0; have hc2446 : w2442.cell? ⟨g2441, 1, none⟩ = some (.int .i64 0) := blk_cellv (HS.out.at3) 1 rfl; have hz2447 : w2442.frozen? ⟨g2441, 1, none⟩ = false := blk_fz (HS.out.at3) 1; have hc2448 : w2442.cell? ⟨g2441, 2, none⟩ = some (.int .i64 0) := blk_cellv (HS.out.at3) 2 rfl; have hz2449 : w2442.frozen? ⟨g2441, 2, none⟩ = false := blk_fz (HS.out.at3) 2) | ((with_reducible refine gate_store (t := 165) (p := 5) rfl ?_); refine store_event (w1 := (World.setCell (World.setCell (World.setCell w2442 ⟨g2441, 0, none⟩ (.int .i64 t2438.1)) ⟨g2441, 1, none⟩ (.int .i64 t2438.2.1)) ⟨g2441, 2, none⟩ (.int .i64 t2438.2.2.1))) rfl (t := 165) (p := 5) rfl rfl ?hr ?_; (case hr => first | (go_simp; done) | (go_simp; rfl)); intro w2450 hst; clear hc2444 hz2445 hc2446 hz2447 hc2448 hz2449; replace HS : Aside0 (Sep FF w [b14 g2234 g2236 a2244 a2245 a2246 a2247, b13 g2236 A2239 l2238.length n2241 a2243, r7 A2239 l2238.length n2241 l2238, b15 g2441 t2438.1 t2438.2.1 t2438.2.2.1] w2450) := ⟨by rw [hst]; exact HS.out.setAll (l1 := [b14 g2234 g2236 a2244 a2245 a2246 a2247, b13 g2236 A2239 l2238.length n2241 a2243, r7 A2239 l2238.length n2241 l2238]) (l2 := []) [.int .i64 t2438.1, .int .i64 t2438.2.1, .int .i64 t2438.2.2.1] rfl⟩; clear hst; have hc2452 : w2450.cell? ⟨g2441, 2, none⟩ = some (.int .i64 t2438.2.2.1) := blk_cellv (HS.out.at3) 2 rfl))
    clear hc2452
    obtain ⟨t2453, HA2454, H⟩ := bind_some H
    refine (ground_Ground_Reg.calls l2238 a2243 a2244 a2245 a2246 a2247 t2438.2.2.1 g2234 g2236 A2239 l2238.length n2241 t2453 _ ⟨HGl0.out.pass HS.out⟩ ⟨HS.out.begin⟩ HA2454).mono ?_
    rintro e_ w2455 ⟨rfl, hS⟩
    replace HS : Aside0 (Sep FF w [b14 g2234 g2236 a2244 a2245 a2246 a2247, b13 g2236 A2239 l2238.length n2241 t2453.2, r7 A2239 l2238.length n2241 l2238, b15 g2441 t2438.1 t2438.2.1 t2438.2.2.1] w2455) := ⟨HS.out.call hS⟩
    clear hS
    replace HS : Aside0 (Sep FF w [b14 g2234 g2236 a2244 a2245 a2246 a2247, b13 g2236 A2239 l2238.length n2241 t2453.2, r7 A2239 l2238.length n2241 l2238] w2455) := ⟨HS.out.sub (.cons_cons _ (.cons_cons _ (.cons_cons _ (.cons _ .slnil))))⟩
    go_wp2_with fail
    go_ret
    rw [← some_eq H]
    exact ⟨(by first | rfl | (simp [IntKind.wrap_u32]; done)), HS.out⟩
  · have H := if_no c2451 H
    have c2451b0 : t2438.2.2.2 = false := by simpa using c2451
    have c2451b1 : (!t2438.2.2.2) = true := by rw [c2451b0]; rfl
    try rw [c2451b1]
    clear c2451
    go_wp2_with (first | ((with_reducible refine gate_dst (N := 5) rfl ?_); refine box_on ?hg (N := 5) ?hd (cs := #[.int .i64 0, .int .i64 0, .int .i64 0]) (t := 165) ?hr ?_; (case hd => rfl); (case hg => rfl); (case hr => first | (go_simp; done) | (go_simp; rfl)); intro g2441 hg w2442 hbox hb; replace HS : Aside0 (Sep FF w [b14 g2234 g2236 a2244 a2245 a2246 a2247, b13 g2236 A2239 l2238.length n2241 a2243, r7 A2239 l2238.length n2241 l2238, b15 g2441 0 0 0] w2442) := ⟨HS.out.box hg hbox hb⟩; clear hg hbox hb; have hc2444 : w2442.cell? ⟨g2441, 0, none⟩ = some (.int .i64 0) := blk_cellv (HS.out.at3) 0 rfl; have hz2445 : w2442.frozen? ⟨g2441, 0, none⟩ = false := blk_fz (HS.out.at3) 0; have hc2446 : w2442.cell? ⟨g2441, 1, none⟩ = some (.int .i64 0) := blk_cellv (HS.out.at3) 1 rfl; have hz2447 : w2442.frozen? ⟨g2441, 1, none⟩ = false := blk_fz (HS.out.at3) 1; have hc2448 : w2442.cell? ⟨g2441, 2, none⟩ = some (.int .i64 0) := blk_cellv (HS.out.at3) 2 rfl; have hz2449 : w2442.frozen? ⟨g2441, 2, none⟩ = false := blk_fz (HS.out.at3) 2) | ((with_reducible refine gate_store (t := 165) (p := 5) rfl ?_); refine store_event (w1 := (World.setCell (World.setCell (World.setCell w2442 ⟨g2441, 0, none⟩ (.int .i64 t2438.1)) ⟨g2441, 1, none⟩ (.int .i64 t2438.2.1)) ⟨g2441, 2, none⟩ (.int .i64 t2438.2.2.1))) rfl (t := 165) (p := 5) rfl rfl ?hr ?_; (case hr => first | (go_simp; done) | (go_simp; rfl)); intro w2450 hst; clear hc2444 hz2445 hc2446 hz2447 hc2448 hz2449; replace HS : Aside0 (Sep FF w [b14 g2234 g2236 a2244 a2245 a2246 a2247, b13 g2236 A2239 l2238.length n2241 a2243, r7 A2239 l2238.length n2241 l2238, b15 g2441 t2438.1 t2438.2.1 t2438.2.2.1] w2450) := ⟨by rw [hst]; exact HS.out.setAll (l1 := [b14 g2234 g2236 a2244 a2245 a2246 a2247, b13 g2236 A2239 l2238.length n2241 a2243, r7 A2239 l2238.length n2241 l2238]) (l2 := []) [.int .i64 t2438.1, .int .i64 t2438.2.1, .int .i64 t2438.2.2.1] rfl⟩; clear hst; replace HS : Aside0 (Sep FF w [b14 g2234 g2236 a2244 a2245 a2246 a2247, b13 g2236 A2239 l2238.length n2241 a2243, r7 A2239 l2238.length n2241 l2238] w2450) := ⟨HS.out.sub (.cons_cons _ (.cons_cons _ (.cons_cons _ (.cons _ .slnil))))⟩))
    go_ret
    rw [← some_eq H]
    exact ⟨(by first | rfl | (simp [IntKind.wrap_u32]; done)), HS.out⟩

set_option maxHeartbeats 30000000 in
set_option maxRecDepth 100000 in
theorem ground_Ground_Conf.calls (l2469 : List Int) (a2474 : Int) (a2475 : Int) (a2476 : Int) (a2477 : Int) (a2478 : Int) (g2465 : Nat) (g2467 : Nat) (A2470 : Option Addr) (m2471 : Nat) (n2472 : Nat) (r : Int × Int × Int × Int) (w : World)  (HGl0 : Aside0 (Gl 0 #[.int .i64 0, .int .i64 0, .int .i64 0, .int .i64 0, .int .i64 0] (fps [b14 g2465 g2467 a2475 a2476 a2477 a2478, b13 g2467 A2470 m2471 n2472 a2474, r7 A2470 m2471 n2472 l2469]) w)) (HS : Aside0 (Sep (fps [b14 g2465 g2467 a2475 a2476 a2477 a2478, b13 g2467 A2470 m2471 n2472 a2474, r7 A2470 m2471 n2472 l2469]) w [b14 g2465 g2467 a2475 a2476 a2477 a2478, b13 g2467 A2470 m2471 n2472 a2474, r7 A2470 m2471 n2472 l2469] w)) (H : Aside0 (ground_Ground_Conf.f l2469 a2474 a2475 a2476 a2477 a2478 = some r)) :
    Calls Tryz.prog 46 #[.pointer (some ⟨g2465, 0, none⟩)] w fun e w' => e = .returned (.agg #[.int .i64 r.1, .int .i64 r.2.1, .int .i64 r.2.2.1, .int .i64 r.2.2.2]) ∧ Sep (fps [b14 g2465 g2467 a2475 a2476 a2477 a2478, b13 g2467 A2470 m2471 n2472 a2474, r7 A2470 m2471 n2472 l2469]) w [b14 g2465 g2467 a2475 a2476 a2477 a2478, b13 g2467 A2470 m2471 n2472 a2474, r7 A2470 m2471 n2472 l2469] w' := by
  generalize (fps [b14 g2465 g2467 a2475 a2476 a2477 a2478, b13 g2467 A2470 m2471 n2472 a2474, r7 A2470 m2471 n2472 l2469]) = FF at HS HGl0 ⊢
  obtain rfl := (row_len (HS.out.at2)).symm
  unfold ground_Ground_Conf.f at H
  go_enter Tryz.func46, Tryz.ntmps46
  go_wp2_with (first | ((with_reducible refine gate_dst (N := 2) rfl ?_); refine box_on ?hg (N := 2) ?hd (cs := #[.int .i64 0, .int .i64 0, .int .i64 0, .int .i64 0]) (t := 29) ?hr ?_; (case hd => rfl); (case hg => rfl); (case hr => first | (go_simp; done) | (go_simp; rfl)); intro g2479 hg w2480 hbox hb; replace HS : Aside0 (Sep FF w [b14 g2465 g2467 a2475 a2476 a2477 a2478, b13 g2467 A2470 l2469.length n2472 a2474, r7 A2470 l2469.length n2472 l2469, b4 g2479 0 0 0 0] w2480) := ⟨HS.out.box hg hbox hb⟩; clear hg hbox hb; have hc2482 : w2480.cell? ⟨g2465, 1, none⟩ = some (.int .i64 a2475) := blk_cellv (HS.out.at0) 1 rfl; have hc2483 : w2480.cell? ⟨g2465, 2, none⟩ = some (.int .i64 a2476) := blk_cellv (HS.out.at0) 2 rfl; have hc2484 : w2480.cell? ⟨g2465, 3, none⟩ = some (.int .i64 a2477) := blk_cellv (HS.out.at0) 3 rfl; have hc2485 : w2480.cell? ⟨g2465, 4, none⟩ = some (.int .i64 a2478) := blk_cellv (HS.out.at0) 4 rfl; have hc2486 : w2480.cell? ⟨g2479, 0, none⟩ = some (.int .i64 0) := blk_cellv (HS.out.at3) 0 rfl; have hz2487 : w2480.frozen? ⟨g2479, 0, none⟩ = false := blk_fz (HS.out.at3) 0; have hc2488 : w2480.cell? ⟨g2479, 1, none⟩ = some (.int .i64 0) := blk_cellv (HS.out.at3) 1 rfl; have hz2489 : w2480.frozen? ⟨g2479, 1, none⟩ = false := blk_fz (HS.out.at3) 1; have hc2490 : w2480.cell? ⟨g2479, 2, none⟩ = some (.int .i64 0) := blk_cellv (HS.out.at3) 2 rfl; have hz2491 : w2480.frozen? ⟨g2479, 2, none⟩ = false := blk_fz (HS.out.at3) 2; have hc2492 : w2480.cell? ⟨g2479, 3, none⟩ = some (.int .i64 0) := blk_cellv (HS.out.at3) 3 rfl; have hz2493 : w2480.frozen? ⟨g2479, 3, none⟩ = false := blk_fz (HS.out.at3) 3) | ((with_reducible refine gate_store (t := 29) (p := 2) rfl ?_); refine store_event (w1 := (World.setCell (World.setCell (World.setCell (World.setCell w2480 ⟨g2479, 0, none⟩ (.int .i64 a2475)) ⟨g2479, 1, none⟩ (.int .i64 a2476)) ⟨g2479, 2, none⟩ (.int .i64 a2477)) ⟨g2479, 3, none⟩ (.int .i64 a2478))) rfl (t := 29) (p := 2) rfl rfl ?hr ?_; (case hr => first | (go_simp; done) | (go_simp; rfl)); intro w2494 hst; clear hc2482 hc2483 hc2484 hc2485 hc2486 hz2487 hc2488 hz2489 hc2490 hz2491 hc2492 hz2493; replace HS : Aside0 (Sep FF w [b14 g2465 g2467 a2475 a2476 a2477 a2478, b13 g2467 A2470 l2469.length n2472 a2474, r7 A2470 l2469.length n2472 l2469, b4 g2479 a2475 a2476 a2477 a2478] w2494) := ⟨by rw [hst]; exact HS.out.setAll (l1 := [b14 g2465 g2467 a2475 a2476 a2477 a2478, b13 g2467 A2470 l2469.length n2472 a2474, r7 A2470 l2469.length n2472 l2469]) (l2 := []) [.int .i64 a2475, .int .i64 a2476, .int .i64 a2477, .int .i64 a2478] rfl⟩; clear hst))
  have hc2495 : w2494.cell? ⟨g2479, 0, none⟩ = some (.int .i64 a2475) := blk_cellv (HS.out.at3) 0 rfl
  have hc2496 : w2494.cell? ⟨g2479, 1, none⟩ = some (.int .i64 a2476) := blk_cellv (HS.out.at3) 1 rfl
  have hc2497 : w2494.cell? ⟨g2479, 2, none⟩ = some (.int .i64 a2477) := blk_cellv (HS.out.at3) 2 rfl
  have hc2498 : w2494.cell? ⟨g2479, 3, none⟩ = some (.int .i64 a2478) := blk_cellv (HS.out.at3) 3 rfl
  refine bodyPost_ret (v := .agg #[.int .i64 a2475, .int .i64 a2476, .int .i64 a2477, .int .i64 a2478]) (by simp [results, Tryz.results46, go_sem, hc2495, hc2496, hc2497, hc2498]) rfl ?_
  rw [← some_eq H]
  exact ⟨(by first | rfl | (simp [IntKind.wrap_u32]; done)), HS.out.sub (.cons_cons _ (.cons_cons _ (.cons_cons _ (.cons _ .slnil))))⟩

set_option maxHeartbeats 30000000 in
set_option maxRecDepth 100000 in
theorem ground_Ground_word.calls (l2640 : List Int) (a2645 : Int) (a2646 : Int) (a2647 : Int) (a2648 : Int) (a2649 : Int) (a2650 : Int) (a2651 : Int) (g2636 : Nat) (g2638 : Nat) (A2641 : Option Addr) (m2642 : Nat) (n2643 : Nat) (r : Int) (w : World)  (HGl0 : Aside0 (Gl 0 #[.int .i64 0, .int .i64 0, .int .i64 0, .int .i64 0, .int .i64 0] (fps [b14 g2636 g2638 a2646 a2647 a2648 a2649, b13 g2638 A2641 m2642 n2643 a2645, r7 A2641 m2642 n2643 l2640]) w)) (HS : Aside0 (Sep (fps [b14 g2636 g2638 a2646 a2647 a2648 a2649, b13 g2638 A2641 m2642 n2643 a2645, r7 A2641 m2642 n2643 l2640]) w [b14 g2636 g2638 a2646 a2647 a2648 a2649, b13 g2638 A2641 m2642 n2643 a2645, r7 A2641 m2642 n2643 l2640] w)) (H : Aside0 (ground_Ground_word.f l2640 a2645 a2646 a2647 a2648 a2649 a2650 a2651 = some r)) :
    Calls Tryz.prog 108 #[.pointer (some ⟨g2636, 0, none⟩), .int .i64 a2650, .int .i64 a2651] w fun e w' => e = .returned (.int .i64 r) ∧ Sep (fps [b14 g2636 g2638 a2646 a2647 a2648 a2649, b13 g2638 A2641 m2642 n2643 a2645, r7 A2641 m2642 n2643 l2640]) w [b14 g2636 g2638 a2646 a2647 a2648 a2649, b13 g2638 A2641 m2642 n2643 a2645, r7 A2641 m2642 n2643 l2640] w' := by
  generalize (fps [b14 g2636 g2638 a2646 a2647 a2648 a2649, b13 g2638 A2641 m2642 n2643 a2645, r7 A2641 m2642 n2643 l2640]) = FF at HS HGl0 ⊢
  obtain rfl := (row_len (HS.out.at2)).symm
  unfold ground_Ground_word.f at H
  go_enter Tryz.func108, Tryz.ntmps108
  go_wp2_with fail
  obtain ⟨t2652, HA2653, H⟩ := bind_some H
  refine (ground_Ground_Conf.calls l2640 a2645 a2646 a2647 a2648 a2649 g2636 g2638 A2641 l2640.length n2643 t2652 _ ⟨HGl0.out.pass HS.out⟩ ⟨HS.out.begin⟩ HA2653).mono ?_
  rintro e_ w2654 ⟨rfl, hS⟩
  replace HS : Aside0 (Sep FF w [b14 g2636 g2638 a2646 a2647 a2648 a2649, b13 g2638 A2641 l2640.length n2643 a2645, r7 A2641 l2640.length n2643 l2640] w2654) := ⟨HS.out.call hS⟩
  clear hS
  go_wp2_with (first | ((with_reducible refine gate_dst (N := 7) rfl ?_); refine box_on ?hg (N := 7) ?hd (cs := #[.int .i64 0, .int .i64 0, .int .i64 0, .int .i64 0]) (t := 29) ?hr ?_; (case hd => rfl); (case hg => rfl); (case hr => first | (go_simp; done) | (go_simp; rfl)); intro g2655 hg w2656 hbox hb; replace HS : Aside0 (Sep FF w [b14 g2636 g2638 a2646 a2647 a2648 a2649, b13 g2638 A2641 l2640.length n2643 a2645, r7 A2641 l2640.length n2643 l2640, b4 g2655 0 0 0 0] w2656) := ⟨HS.out.box hg hbox hb⟩; clear hg hbox hb; have hc2658 : w2656.cell? ⟨g2655, 0, none⟩ = some (.int .i64 0) := blk_cellv (HS.out.at3) 0 rfl; have hz2659 : w2656.frozen? ⟨g2655, 0, none⟩ = false := blk_fz (HS.out.at3) 0; have hc2660 : w2656.cell? ⟨g2655, 1, none⟩ = some (.int .i64 0) := blk_cellv (HS.out.at3) 1 rfl; have hz2661 : w2656.frozen? ⟨g2655, 1, none⟩ = false := blk_fz (HS.out.at3) 1; have hc2662 : w2656.cell? ⟨g2655, 2, none⟩ = some (.int .i64 0) := blk_cellv (HS.out.at3) 2 rfl; have hz2663 : w2656.frozen? ⟨g2655, 2, none⟩ = false := blk_fz (HS.out.at3) 2; have hc2664 : w2656.cell? ⟨g2655, 3, none⟩ = some (.int .i64 0) := blk_cellv (HS.out.at3) 3 rfl; have hz2665 : w2656.frozen? ⟨g2655, 3, none⟩ = false := blk_fz (HS.out.at3) 3) | ((with_reducible refine gate_store (t := 29) (p := 7) rfl ?_); refine store_event (w1 := (World.setCell (World.setCell (World.setCell (World.setCell w2656 ⟨g2655, 0, none⟩ (.int .i64 t2652.1)) ⟨g2655, 1, none⟩ (.int .i64 t2652.2.1)) ⟨g2655, 2, none⟩ (.int .i64 t2652.2.2.1)) ⟨g2655, 3, none⟩ (.int .i64 t2652.2.2.2))) rfl (t := 29) (p := 7) rfl rfl ?hr ?_; (case hr => first | (go_simp; done) | (go_simp; rfl)); intro w2666 hst; clear hc2658 hz2659 hc2660 hz2661 hc2662 hz2663 hc2664 hz2665; replace HS : Aside0 (Sep FF w [b14 g2636 g2638 a2646 a2647 a2648 a2649, b13 g2638 A2641 l2640.length n2643 a2645, r7 A2641 l2640.length n2643 l2640, b4 g2655 t2652.1 t2652.2.1 t2652.2.2.1 t2652.2.2.2] w2666) := ⟨by rw [hst]; exact HS.out.setAll (l1 := [b14 g2636 g2638 a2646 a2647 a2648 a2649, b13 g2638 A2641 l2640.length n2643 a2645, r7 A2641 l2640.length n2643 l2640]) (l2 := []) [.int .i64 t2652.1, .int .i64 t2652.2.1, .int .i64 t2652.2.2.1, .int .i64 t2652.2.2.2] rfl⟩; clear hst; have hc2667 : w2666.cell? ⟨g2655, 0, none⟩ = some (.int .i64 t2652.1) := blk_cellv (HS.out.at3) 0 rfl))
  clear hc2667
  obtain ⟨t2668, HA2669, H⟩ := bind_some H
  refine (ground_within.calls a2650 t2652.1 0 t2668 _ ⟨HGl0.out.pass (l := []) HS.out⟩ ⟨Sep.start _⟩ HA2669).mono ?_
  rintro e_ w2670 ⟨rfl, hS⟩
  replace HS : Aside0 (Sep FF w [b14 g2636 g2638 a2646 a2647 a2648 a2649, b13 g2638 A2641 l2640.length n2643 a2645, r7 A2641 l2640.length n2643 l2640, b4 g2655 t2652.1 t2652.2.1 t2652.2.2.1 t2652.2.2.2] w2670) := ⟨HS.out.call hS⟩
  clear hS
  by_cases c2671 : t2668 = (-1)
  · have H := if_yes c2671 H
    have c2671b0 : (t2668 == (-1)) = true := beq_iff_eq.mpr c2671
    have c2671b1 : (t2668 != (-1)) = false := bne_eq_false_iff_eq.mpr c2671
    clear c2671
    replace HS : Aside0 (Sep FF w [b14 g2636 g2638 a2646 a2647 a2648 a2649, b13 g2638 A2641 l2640.length n2643 a2645, r7 A2641 l2640.length n2643 l2640] w2670) := ⟨HS.out.sub (.cons_cons _ (.cons_cons _ (.cons_cons _ (.cons _ .slnil))))⟩
    go_wp2_with fail
    go_ret
    rw [← some_eq H]
    exact ⟨(by first | rfl | (simp [IntKind.wrap_u32]; done)), HS.out⟩
  · have H := if_no c2671 H
    have c2671b0 : (t2668 == (-1)) = false := beq_eq_false_iff_ne.mpr c2671
    have c2671b1 : (t2668 != (-1)) = true := bne_iff_ne.mpr c2671
    clear c2671
    have hc2672 : w2670.cell? ⟨g2655, 1, none⟩ = some (.int .i64 t2652.2.1) := blk_cellv (HS.out.at3) 1 rfl
    have hc2673 : w2670.cell? ⟨g2655, 2, none⟩ = some (.int .i64 t2652.2.2.1) := blk_cellv (HS.out.at3) 2 rfl
    go_wp2_with fail
    clear hc2672 hc2673
    obtain ⟨t2674, HA2675, H⟩ := bind_some H
    refine (ground_within.calls a2651 t2652.2.1 (wrap64 ((wrap64 (24 + t2652.2.2.1)) + (wrap64 (a2650 * t2652.2.1)))) t2674 _ ⟨HGl0.out.pass (l := []) HS.out⟩ ⟨Sep.start _⟩ HA2675).mono ?_
    rintro e_ w2676 ⟨rfl, hS⟩
    replace HS : Aside0 (Sep FF w [b14 g2636 g2638 a2646 a2647 a2648 a2649, b13 g2638 A2641 l2640.length n2643 a2645, r7 A2641 l2640.length n2643 l2640, b4 g2655 t2652.1 t2652.2.1 t2652.2.2.1 t2652.2.2.2] w2676) := ⟨HS.out.call hS⟩
    clear hS
    replace HS : Aside0 (Sep FF w [b14 g2636 g2638 a2646 a2647 a2648 a2649, b13 g2638 A2641 l2640.length n2643 a2645, r7 A2641 l2640.length n2643 l2640] w2676) := ⟨HS.out.sub (.cons_cons _ (.cons_cons _ (.cons_cons _ (.cons _ .slnil))))⟩
    go_wp2_with fail
    go_ret
    rw [← some_eq H]
    exact ⟨(by first | rfl | (simp [IntKind.wrap_u32]; done)), HS.out⟩

set_option maxHeartbeats 30000000 in
set_option maxRecDepth 100000 in
theorem store_Store_Put.calls (l2683 : List Int) (a2688 : Int) (a2689 : Int) (a2690 : Int) (g2681 : Nat) (A2684 : Option Addr) (m2685 : Nat) (n2686 : Nat) (r : Bool × Int × List Int) (w : World)  (HGl0 : Aside0 (Gl 0 #[.int .i64 0, .int .i64 0, .int .i64 0, .int .i64 0, .int .i64 0] (fps [b13 g2681 A2684 m2685 n2686 a2688, r7 A2684 m2685 n2686 l2683]) w)) (HS : Aside0 (Sep (fps [b13 g2681 A2684 m2685 n2686 a2688, r7 A2684 m2685 n2686 l2683]) w [b13 g2681 A2684 m2685 n2686 a2688, r7 A2684 m2685 n2686 l2683] w)) (H : Aside0 (store_Store_Put.f l2683 a2688 a2689 a2690 = some r)) :
    Calls Tryz.prog 107 #[.pointer (some ⟨g2681, 0, none⟩), .int .i64 a2689, .int .u32 a2690] w fun e w' => e = .returned (.bool r.1) ∧ Sep (fps [b13 g2681 A2684 m2685 n2686 a2688, r7 A2684 m2685 n2686 l2683]) w [b13 g2681 A2684 m2685 n2686 r.2.1, r7 A2684 m2685 n2686 r.2.2] w' := by
  generalize (fps [b13 g2681 A2684 m2685 n2686 a2688, r7 A2684 m2685 n2686 l2683]) = FF at HS HGl0 ⊢
  obtain rfl := (row_len (HS.out.at1)).symm
  unfold store_Store_Put.f at H
  go_enter Tryz.func107, Tryz.ntmps107
  go_wp2_with fail
  obtain ⟨t2707, HA2708, H⟩ := bind_some H
  refine (store_Store_has.calls l2683 a2688 a2689 g2681 A2684 l2683.length n2686 t2707 _ ⟨HGl0.out.pass HS.out⟩ ⟨HS.out.begin⟩ HA2708).mono ?_
  rintro e_ w2709 ⟨rfl, hS⟩
  replace HS : Aside0 (Sep FF w [b13 g2681 A2684 l2683.length n2686 a2688, r7 A2684 l2683.length n2686 l2683] w2709) := ⟨HS.out.call hS⟩
  clear hS
  by_cases c2710 : t2707 = true
  · have H := if_yes c2710 H
    have c2710b0 : t2707 = true := c2710
    have c2710b1 : (!t2707) = false := by rw [c2710b0]; rfl
    try rw [c2710b1]
    clear c2710
    go_wp2_with fail
    obtain ⟨t2711, HA2712, H⟩ := bind_some H
    refine (atomic_Uint64_Add.calls l2683 a2688 1 g2681 A2684 l2683.length n2686 t2711 _ ⟨HGl0.out.pass HS.out⟩ ⟨HS.out.begin⟩ HA2712).mono ?_
    rintro e_ w2713 ⟨rfl, hS⟩
    replace HS : Aside0 (Sep FF w [b13 g2681 A2684 l2683.length n2686 t2711.2, r7 A2684 l2683.length n2686 l2683] w2713) := ⟨HS.out.call hS⟩
    clear hS
    by_cases c2715 : 0 ≤ a2689
    · have H := if_yes c2715 H
      have c2715b0 : decide (0 ≤ a2689) = true := decide_eq_true c2715
      have c2715p : (0 ≤ a2689) = True := eq_true c2715
      clear c2715
      by_cases c2716 : a2689 < (l2683.length : Int)
      · have H := if_yes c2716 H
        have c2716b0 : decide (a2689 < (l2683.length : Int)) = true := decide_eq_true c2716
        have c2716p : (a2689 < (l2683.length : Int)) = True := eq_true c2716
        clear c2716
        obtain ⟨y2719, HA2720, H⟩ := bind_some H
        have hc2714 : w2713.cell? ⟨g2681, 0, none⟩ = some (.slice A2684 l2683.length n2686) := blk_cellv (HS.out.at0) 0 rfl
        obtain ⟨g2717, ea⟩ := row_at (HS.out.at1) (by have := (of_decide_eq_true c2715b0); have := (of_decide_eq_true c2716b0); omega); cases ea
        have hx2721 := (row_get 0 (HS.out.at1) a2689 (of_decide_eq_true c2715b0) (of_decide_eq_true c2716b0)).1
        have hz2722 := (row_get 0 (HS.out.at1) a2689 (of_decide_eq_true c2715b0) (of_decide_eq_true c2716b0)).2
        go_wp2_with (first | ((with_reducible refine gate_store (t := 57) (p := 21) rfl ?_); refine store_event (w1 := World.setCell w2713 ⟨g2717, (a2689).toNat, none⟩ (.int .u32 a2690)) rfl (t := 57) (p := 21) rfl rfl ?hr ?_; (case hr => first | (go_simp; done) | (go_simp; rfl)); intro w2718 hst; clear hc2714 hx2721 hz2722; have hq := Sep.rowset (l1 := [b13 g2681 (some ⟨g2717, 0, none⟩) l2683.length n2686 t2711.2]) (l2 := []) HS.out a2689 a2690; rw [← hst, some_eq HA2720] at hq; replace HS : Aside0 (Sep FF w [b13 g2681 (some ⟨g2717, 0, none⟩) l2683.length n2686 t2711.2, r7 (some ⟨g2717, 0, none⟩) l2683.length n2686 y2719] w2718) := ⟨hq⟩; clear hst hq))
        go_ret
        rw [← some_eq H]
        exact ⟨(by first | rfl | (simp [IntKind.wrap_u32]; done)), HS.out⟩
      · have H := if_no c2716 H
        have c2716b0 : decide (a2689 < (l2683.length : Int)) = false := decide_eq_false c2716
        clear c2716
        exact (none_no H).elim
    · have H := if_no c2715 H
      have c2715b0 : decide (0 ≤ a2689) = false := decide_eq_false c2715
      clear c2715
      exact (none_no H).elim
  · have H := if_no c2710 H
    have c2710b0 : t2707 = false := by simpa using c2710
    have c2710b1 : (!t2707) = true := by rw [c2710b0]; rfl
    try rw [c2710b1]
    clear c2710
    go_wp2_with fail
    go_ret
    rw [← some_eq H]
    exact ⟨(by first | rfl | (simp [IntKind.wrap_u32]; done)), HS.out⟩

set_option maxHeartbeats 30000000 in
set_option maxRecDepth 100000 in
theorem ground_Ground_SetWord.calls (l2619 : List Int) (a2624 : Int) (a2625 : Int) (a2626 : Int) (a2627 : Int) (a2628 : Int) (a2629 : Int) (a2630 : Int) (a2631 : Int) (g2615 : Nat) (g2617 : Nat) (A2620 : Option Addr) (m2621 : Nat) (n2622 : Nat) (r : Bool × Int × List Int) (w : World)  (HGl0 : Aside0 (Gl 0 #[.int .i64 0, .int .i64 0, .int .i64 0, .int .i64 0, .int .i64 0] (fps [b14 g2615 g2617 a2625 a2626 a2627 a2628, b13 g2617 A2620 m2621 n2622 a2624, r7 A2620 m2621 n2622 l2619]) w)) (HS : Aside0 (Sep (fps [b14 g2615 g2617 a2625 a2626 a2627 a2628, b13 g2617 A2620 m2621 n2622 a2624, r7 A2620 m2621 n2622 l2619]) w [b14 g2615 g2617 a2625 a2626 a2627 a2628, b13 g2617 A2620 m2621 n2622 a2624, r7 A2620 m2621 n2622 l2619] w)) (H : Aside0 (ground_Ground_SetWord.f l2619 a2624 a2625 a2626 a2627 a2628 a2629 a2630 a2631 = some r)) :
    Calls Tryz.prog 50 #[.pointer (some ⟨g2615, 0, none⟩), .int .i64 a2629, .int .i64 a2630, .int .u32 a2631] w fun e w' => e = .returned (.bool r.1) ∧ Sep (fps [b14 g2615 g2617 a2625 a2626 a2627 a2628, b13 g2617 A2620 m2621 n2622 a2624, r7 A2620 m2621 n2622 l2619]) w [b14 g2615 g2617 a2625 a2626 a2627 a2628, b13 g2617 A2620 m2621 n2622 r.2.1, r7 A2620 m2621 n2622 r.2.2] w' := by
  generalize (fps [b14 g2615 g2617 a2625 a2626 a2627 a2628, b13 g2617 A2620 m2621 n2622 a2624, r7 A2620 m2621 n2622 l2619]) = FF at HS HGl0 ⊢
  obtain rfl := (row_len (HS.out.at2)).symm
  unfold ground_Ground_SetWord.f at H
  go_enter Tryz.func50, Tryz.ntmps50
  go_wp2_with fail
  obtain ⟨t2726, HA2727, H⟩ := bind_some H
  refine (ground_Ground_all.calls l2619 a2624 a2625 a2626 a2627 a2628 g2615 g2617 A2620 l2619.length n2622 t2726 _ ⟨HGl0.out.pass HS.out⟩ ⟨HS.out.begin⟩ HA2727).mono ?_
  rintro e_ w2728 ⟨rfl, hS⟩
  replace HS : Aside0 (Sep FF w [b14 g2615 g2617 a2625 a2626 a2627 a2628, b13 g2617 A2620 l2619.length n2622 a2624, r7 A2620 l2619.length n2622 l2619] w2728) := ⟨HS.out.call hS⟩
  clear hS
  go_wp2_with fail
  obtain ⟨t2729, HA2730, H⟩ := bind_some H
  refine (ground_Ground_word.calls l2619 a2624 a2625 a2626 a2627 a2628 a2629 a2630 g2615 g2617 A2620 l2619.length n2622 t2729 _ ⟨HGl0.out.pass HS.out⟩ ⟨HS.out.begin⟩ HA2730).mono ?_
  rintro e_ w2731 ⟨rfl, hS⟩
  replace HS : Aside0 (Sep FF w [b14 g2615 g2617 a2625 a2626 a2627 a2628, b13 g2617 A2620 l2619.length n2622 a2624, r7 A2620 l2619.length n2622 l2619] w2731) := ⟨HS.out.call hS⟩
  clear hS
  go_wp2_with fail
  replace HS : Aside0 (Sep FF w [r7 A2620 l2619.length n2622 l2619, b14 g2615 g2617 a2625 a2626 a2627 a2628, b13 g2617 A2620 l2619.length n2622 a2624] w2731) := ⟨HS.out.front 2 (by simp)⟩
  replace HS : Aside0 (Sep FF w [b13 g2617 A2620 l2619.length n2622 a2624, r7 A2620 l2619.length n2622 l2619, b14 g2615 g2617 a2625 a2626 a2627 a2628] w2731) := ⟨HS.out.front 2 (by simp)⟩
  obtain ⟨t2732, HA2733, H⟩ := bind_some H
  refine (store_Store_Put.calls l2619 a2624 t2729 a2631 g2617 A2620 l2619.length n2622 t2732 _ ⟨HGl0.out.pass HS.out⟩ ⟨HS.out.begin⟩ HA2733).mono ?_
  rintro e_ w2734 ⟨rfl, hS⟩
  replace HS : Aside0 (Sep FF w [b13 g2617 A2620 l2619.length n2622 t2732.2.1, r7 A2620 l2619.length n2622 t2732.2.2, b14 g2615 g2617 a2625 a2626 a2627 a2628] w2734) := ⟨HS.out.call hS⟩
  clear hS
  go_wp2_with fail
  go_ret
  rw [← some_eq H]
  exact ⟨(by first | rfl | (simp [IntKind.wrap_u32]; done)), ((((HS.out).front 1 (by simp)).front 1 (by simp)).front 2 (by simp)).keep (l := [b14 g2615 g2617 a2625 a2626 a2627 a2628, b13 g2617 A2620 l2619.length n2622 t2732.2.1, r7 A2620 l2619.length n2622 t2732.2.2]) (rest := [])⟩

set_option maxHeartbeats 30000000 in
set_option maxRecDepth 100000 in
theorem ground_Ground_set.calls (l2766 : List Int) (a2771 : Int) (a2772 : Int) (a2773 : Int) (a2774 : Int) (a2775 : Int) (a2776 : Int) (a2777 : Int) (g2762 : Nat) (g2764 : Nat) (A2767 : Option Addr) (m2768 : Nat) (n2769 : Nat) (r : Bool × Int × List Int) (w : World)  (HGl0 : Aside0 (Gl 0 #[.int .i64 0, .int .i64 0, .int .i64 0, .int .i64 0, .int .i64 0] (fps [b14 g2762 g2764 a2772 a2773 a2774 a2775, b13 g2764 A2767 m2768 n2769 a2771, r7 A2767 m2768 n2769 l2766]) w)) (HS : Aside0 (Sep (fps [b14 g2762 g2764 a2772 a2773 a2774 a2775, b13 g2764 A2767 m2768 n2769 a2771, r7 A2767 m2768 n2769 l2766]) w [b14 g2762 g2764 a2772 a2773 a2774 a2775, b13 g2764 A2767 m2768 n2769 a2771, r7 A2767 m2768 n2769 l2766] w)) (H : Aside0 (ground_Ground_set.f l2766 a2771 a2772 a2773 a2774 a2775 a2776 a2777 = some r)) :
    Calls Tryz.prog 99 #[.pointer (some ⟨g2762, 0, none⟩), .int .i64 a2776, .int .i64 a2777] w fun e w' => e = .returned (.bool r.1) ∧ Sep (fps [b14 g2762 g2764 a2772 a2773 a2774 a2775, b13 g2764 A2767 m2768 n2769 a2771, r7 A2767 m2768 n2769 l2766]) w [b14 g2762 g2764 a2772 a2773 a2774 a2775, b13 g2764 A2767 m2768 n2769 r.2.1, r7 A2767 m2768 n2769 r.2.2] w' := by
  generalize (fps [b14 g2762 g2764 a2772 a2773 a2774 a2775, b13 g2764 A2767 m2768 n2769 a2771, r7 A2767 m2768 n2769 l2766]) = FF at HS HGl0 ⊢
  obtain rfl := (row_len (HS.out.at2)).symm
  unfold ground_Ground_set.f at H
  go_enter Tryz.func99, Tryz.ntmps99
  by_cases c2786 : a2777 < 0
  · have H := if_yes c2786 H
    have c2786b0 : decide (a2777 < 0) = true := decide_eq_true c2786
    clear c2786
    go_wp2_with fail
    go_ret
    rw [← some_eq H]
    exact ⟨(by first | rfl | (simp [IntKind.wrap_u32]; done)), HS.out⟩
  · have H := if_no c2786 H
    have c2786b0 : decide (a2777 < 0) = false := decide_eq_false c2786
    clear c2786
    by_cases c2787 : a2777 > 4294967295
    · have H := if_yes c2787 H
      have c2787b0 : decide (4294967295 < a2777) = true := decide_eq_true c2787
      clear c2787
      go_wp2_with fail
      go_ret
      rw [← some_eq H]
      exact ⟨(by first | rfl | (simp [IntKind.wrap_u32]; done)), HS.out⟩
    · have H := if_no c2787 H
      have c2787b0 : decide (4294967295 < a2777) = false := decide_eq_false c2787
      clear c2787
      go_wp2_with fail
      obtain ⟨t2788, HA2789, H⟩ := bind_some H
      refine (ground_Ground_all.calls l2766 a2771 a2772 a2773 a2774 a2775 g2762 g2764 A2767 l2766.length n2769 t2788 _ ⟨HGl0.out.pass HS.out⟩ ⟨HS.out.begin⟩ HA2789).mono ?_
      rintro e_ w2790 ⟨rfl, hS⟩
      replace HS : Aside0 (Sep FF w [b14 g2762 g2764 a2772 a2773 a2774 a2775, b13 g2764 A2767 l2766.length n2769 a2771, r7 A2767 l2766.length n2769 l2766] w2790) := ⟨HS.out.call hS⟩
      clear hS
      go_wp2_with fail
      replace HS : Aside0 (Sep FF w [r7 A2767 l2766.length n2769 l2766, b14 g2762 g2764 a2772 a2773 a2774 a2775, b13 g2764 A2767 l2766.length n2769 a2771] w2790) := ⟨HS.out.front 2 (by simp)⟩
      replace HS : Aside0 (Sep FF w [b13 g2764 A2767 l2766.length n2769 a2771, r7 A2767 l2766.length n2769 l2766, b14 g2762 g2764 a2772 a2773 a2774 a2775] w2790) := ⟨HS.out.front 2 (by simp)⟩
      obtain ⟨t2791, HA2792, H⟩ := bind_some H
      refine (store_Store_Put.calls l2766 a2771 a2776 ((a2777) % 4294967296) g2764 A2767 l2766.length n2769 t2791 _ ⟨HGl0.out.pass HS.out⟩ ⟨HS.out.begin⟩ HA2792).mono ?_
      rintro e_ w2793 ⟨rfl, hS⟩
      replace HS : Aside0 (Sep FF w [b13 g2764 A2767 l2766.length n2769 t2791.2.1, r7 A2767 l2766.length n2769 t2791.2.2, b14 g2762 g2764 a2772 a2773 a2774 a2775] w2793) := ⟨HS.out.call hS⟩
      clear hS
      go_wp2_with fail
      go_ret
      rw [← some_eq H]
      exact ⟨(by first | rfl | (simp [IntKind.wrap_u32]; done)), ((((HS.out).front 1 (by simp)).front 1 (by simp)).front 2 (by simp)).keep (l := [b14 g2762 g2764 a2772 a2773 a2774 a2775, b13 g2764 A2767 l2766.length n2769 t2791.2.1, r7 A2767 l2766.length n2769 t2791.2.2]) (rest := [])⟩

set_option maxHeartbeats 30000000 in
set_option maxRecDepth 100000 in
theorem ground_Ground_SetReg.calls (l2746 : List Int) (a2751 : Int) (a2752 : Int) (a2753 : Int) (a2754 : Int) (a2755 : Int) (a2756 : Int) (a2757 : Int) (g2742 : Nat) (g2744 : Nat) (A2747 : Option Addr) (m2748 : Nat) (n2749 : Nat) (r : Bool × Int × List Int) (w : World)  (HGl0 : Aside0 (Gl 0 #[.int .i64 0, .int .i64 0, .int .i64 0, .int .i64 0, .int .i64 0] (fps [b14 g2742 g2744 a2752 a2753 a2754 a2755, b13 g2744 A2747 m2748 n2749 a2751, r7 A2747 m2748 n2749 l2746]) w)) (HS : Aside0 (Sep (fps [b14 g2742 g2744 a2752 a2753 a2754 a2755, b13 g2744 A2747 m2748 n2749 a2751, r7 A2747 m2748 n2749 l2746]) w [b14 g2742 g2744 a2752 a2753 a2754 a2755, b13 g2744 A2747 m2748 n2749 a2751, r7 A2747 m2748 n2749 l2746] w)) (H : Aside0 (ground_Ground_SetReg.f l2746 a2751 a2752 a2753 a2754 a2755 a2756 a2757 = some r)) :
    Calls Tryz.prog 43 #[.pointer (some ⟨g2742, 0, none⟩), .int .i64 a2756, .int .i64 a2757] w fun e w' => e = .returned (.bool r.1) ∧ Sep (fps [b14 g2742 g2744 a2752 a2753 a2754 a2755, b13 g2744 A2747 m2748 n2749 a2751, r7 A2747 m2748 n2749 l2746]) w [b14 g2742 g2744 a2752 a2753 a2754 a2755, b13 g2744 A2747 m2748 n2749 r.2.1, r7 A2747 m2748 n2749 r.2.2] w' := by
  generalize (fps [b14 g2742 g2744 a2752 a2753 a2754 a2755, b13 g2744 A2747 m2748 n2749 a2751, r7 A2747 m2748 n2749 l2746]) = FF at HS HGl0 ⊢
  obtain rfl := (row_len (HS.out.at2)).symm
  unfold ground_Ground_SetReg.f at H
  go_enter Tryz.func43, Tryz.ntmps43
  go_wp2_with fail
  obtain ⟨t2797, HA2798, H⟩ := bind_some H
  refine (ground_reg.calls a2756 t2797 _ ⟨HGl0.out.pass (l := []) HS.out⟩ ⟨Sep.start _⟩ HA2798).mono ?_
  rintro e_ w2799 ⟨rfl, hS⟩
  replace HS : Aside0 (Sep FF w [b14 g2742 g2744 a2752 a2753 a2754 a2755, b13 g2744 A2747 l2746.length n2749 a2751, r7 A2747 l2746.length n2749 l2746] w2799) := ⟨HS.out.call hS⟩
  clear hS
  go_wp2_with fail
  obtain ⟨t2800, HA2801, H⟩ := bind_some H
  refine (ground_Ground_set.calls l2746 a2751 a2752 a2753 a2754 a2755 t2797 a2757 g2742 g2744 A2747 l2746.length n2749 t2800 _ ⟨HGl0.out.pass HS.out⟩ ⟨HS.out.begin⟩ HA2801).mono ?_
  rintro e_ w2802 ⟨rfl, hS⟩
  replace HS : Aside0 (Sep FF w [b14 g2742 g2744 a2752 a2753 a2754 a2755, b13 g2744 A2747 l2746.length n2749 t2800.2.1, r7 A2747 l2746.length n2749 t2800.2.2] w2802) := ⟨HS.out.call hS⟩
  clear hS
  go_wp2_with fail
  go_ret
  rw [← some_eq H]
  exact ⟨(by first | rfl | (simp [IntKind.wrap_u32]; done)), HS.out⟩

set_option maxHeartbeats 30000000 in
set_option maxRecDepth 100000 in
theorem chain_Add_1.calls (a2584 : Int) (a2585 : Int) (a2586 : Int) (a2587 : Int) (a2588 : Int) (l2596 : List Int) (a2601 : Int) (a2602 : Int) (a2603 : Int) (a2604 : Int) (a2605 : Int) (a2608 : Int) (g2590 : Nat) (g2592 : Nat) (g2594 : Nat) (A2597 : Option Addr) (m2598 : Nat) (n2599 : Nat) (g2607 : Nat) (r : Int × List Int) (w : World)  (HGl0 : Aside0 (Gl 0 #[.int .i64 0, .int .i64 0, .int .i64 0, .int .i64 0, .int .i64 0] (fps [b16 g2590 g2592, b14 g2592 g2594 a2602 a2603 a2604 a2605, b13 g2594 A2597 m2598 n2599 a2601, r7 A2597 m2598 n2599 l2596, b2 g2607 a2608]) w)) (HS : Aside0 (Sep (fps [b16 g2590 g2592, b14 g2592 g2594 a2602 a2603 a2604 a2605, b13 g2594 A2597 m2598 n2599 a2601, r7 A2597 m2598 n2599 l2596, b2 g2607 a2608]) w [b16 g2590 g2592, b14 g2592 g2594 a2602 a2603 a2604 a2605, b13 g2594 A2597 m2598 n2599 a2601, r7 A2597 m2598 n2599 l2596, b2 g2607 a2608] w)) (H : Aside0 (chain_Add_1.f a2584 a2585 a2586 a2587 a2588 l2596 a2601 a2602 a2603 a2604 a2605 a2608 = some r)) :
    Calls Tryz.prog 144 #[.agg #[.int .i64 a2584, .int .i64 a2585, .int .i64 a2586], .int .i64 a2587, .int .i64 a2588, .pointer (some ⟨g2590, 0, none⟩), .pointer (some ⟨g2607, 0, none⟩)] w fun e w' => e = .returned (.tuple #[]) ∧ Sep (fps [b16 g2590 g2592, b14 g2592 g2594 a2602 a2603 a2604 a2605, b13 g2594 A2597 m2598 n2599 a2601, r7 A2597 m2598 n2599 l2596, b2 g2607 a2608]) w [b16 g2590 g2592, b14 g2592 g2594 a2602 a2603 a2604 a2605, b13 g2594 A2597 m2598 n2599 r.1, r7 A2597 m2598 n2599 r.2, b2 g2607 a2608] w' := by
  generalize (fps [b16 g2590 g2592, b14 g2592 g2594 a2602 a2603 a2604 a2605, b13 g2594 A2597 m2598 n2599 a2601, r7 A2597 m2598 n2599 l2596, b2 g2607 a2608]) = FF at HS HGl0 ⊢
  obtain rfl := (row_len (HS.out.at3)).symm
  unfold chain_Add_1.f at H
  go_enter Tryz.func144, Tryz.ntmps144
  go_wp2_with (first | ((with_reducible refine gate_dst (N := 5) rfl ?_); refine box_on ?hg (N := 5) ?hd (cs := #[.int .i64 a2584, .int .i64 a2585, .int .i64 a2586]) (t := 165) ?hr ?_; (case hd => rfl); (case hg => rfl); (case hr => first | (go_simp; done) | (go_simp; rfl)); intro g2811 hg w2812 hbox hb; replace HS : Aside0 (Sep FF w [b16 g2590 g2592, b14 g2592 g2594 a2602 a2603 a2604 a2605, b13 g2594 A2597 l2596.length n2599 a2601, r7 A2597 l2596.length n2599 l2596, b2 g2607 a2608, b15 g2811 a2584 a2585 a2586] w2812) := ⟨HS.out.box hg hbox hb⟩; clear hg hbox hb; have hc2814 : w2812.cell? ⟨g2590, 0, none⟩ = some (.pointer (some ⟨g2592, 0, none⟩)) := blk_cellv (HS.out.at0) 0 rfl; have hc2815 : w2812.cell? ⟨g2607, 0, none⟩ = some (.int .i64 a2608) := blk_cellv (HS.out.at4) 0 rfl))
  clear hc2814 hc2815
  replace HS : Aside0 (Sep FF w [r7 A2597 l2596.length n2599 l2596, b16 g2590 g2592, b14 g2592 g2594 a2602 a2603 a2604 a2605, b13 g2594 A2597 l2596.length n2599 a2601, b2 g2607 a2608, b15 g2811 a2584 a2585 a2586] w2812) := ⟨HS.out.front 3 (by simp)⟩
  replace HS : Aside0 (Sep FF w [b13 g2594 A2597 l2596.length n2599 a2601, r7 A2597 l2596.length n2599 l2596, b16 g2590 g2592, b14 g2592 g2594 a2602 a2603 a2604 a2605, b2 g2607 a2608, b15 g2811 a2584 a2585 a2586] w2812) := ⟨HS.out.front 3 (by simp)⟩
  replace HS : Aside0 (Sep FF w [b14 g2592 g2594 a2602 a2603 a2604 a2605, b13 g2594 A2597 l2596.length n2599 a2601, r7 A2597 l2596.length n2599 l2596, b16 g2590 g2592, b2 g2607 a2608, b15 g2811 a2584 a2585 a2586] w2812) := ⟨HS.out.front 3 (by simp)⟩
  obtain ⟨t2816, HA2817, H⟩ := bind_some H
  refine (ground_Ground_SetWord.calls l2596 a2601 a2602 a2603 a2604 a2605 a2608 5 0 g2592 g2594 A2597 l2596.length n2599 t2816 _ ⟨HGl0.out.pass HS.out⟩ ⟨HS.out.begin⟩ HA2817).mono ?_
  rintro e_ w2818 ⟨rfl, hS⟩
  replace HS : Aside0 (Sep FF w [b14 g2592 g2594 a2602 a2603 a2604 a2605, b13 g2594 A2597 l2596.length n2599 t2816.2.1, r7 A2597 l2596.length n2599 t2816.2.2, b16 g2590 g2592, b2 g2607 a2608, b15 g2811 a2584 a2585 a2586] w2818) := ⟨HS.out.call hS⟩
  clear hS
  by_cases c2819 : a2588 = 0
  · have H := if_yes c2819 H
    have c2819b0 : (a2588 == 0) = true := beq_iff_eq.mpr c2819
    have c2819b1 : (a2588 != 0) = false := bne_eq_false_iff_eq.mpr c2819
    clear c2819
    have hc2820 : w2818.cell? ⟨g2590, 0, none⟩ = some (.pointer (some ⟨g2592, 0, none⟩)) := blk_cellv (HS.out.at3) 0 rfl
    have hc2821 : w2818.cell? ⟨g2811, 0, none⟩ = some (.int .i64 a2584) := blk_cellv (HS.out.at5) 0 rfl
    go_wp2_with fail
    clear hc2820 hc2821
    obtain ⟨t2822, HA2823, H⟩ := bind_some H
    refine (ground_Ground_SetReg.calls t2816.2.2 t2816.2.1 a2602 a2603 a2604 a2605 a2584 a2587 g2592 g2594 A2597 l2596.length n2599 t2822 _ ⟨HGl0.out.pass HS.out⟩ ⟨HS.out.begin⟩ HA2823).mono ?_
    rintro e_ w2824 ⟨rfl, hS⟩
    replace HS : Aside0 (Sep FF w [b14 g2592 g2594 a2602 a2603 a2604 a2605, b13 g2594 A2597 l2596.length n2599 t2822.2.1, r7 A2597 l2596.length n2599 t2822.2.2, b16 g2590 g2592, b2 g2607 a2608, b15 g2811 a2584 a2585 a2586] w2824) := ⟨HS.out.call hS⟩
    clear hS
    have hc2825 : w2824.cell? ⟨g2590, 0, none⟩ = some (.pointer (some ⟨g2592, 0, none⟩)) := blk_cellv (HS.out.at3) 0 rfl
    have hc2826 : w2824.cell? ⟨g2811, 1, none⟩ = some (.int .i64 a2585) := blk_cellv (HS.out.at5) 1 rfl
    go_wp2_with fail
    clear hc2825 hc2826
    obtain ⟨t2827, HA2828, H⟩ := bind_some H
    refine (ground_Ground_SetReg.calls t2822.2.2 t2822.2.1 a2602 a2603 a2604 a2605 a2585 a2587 g2592 g2594 A2597 l2596.length n2599 t2827 _ ⟨HGl0.out.pass HS.out⟩ ⟨HS.out.begin⟩ HA2828).mono ?_
    rintro e_ w2829 ⟨rfl, hS⟩
    replace HS : Aside0 (Sep FF w [b14 g2592 g2594 a2602 a2603 a2604 a2605, b13 g2594 A2597 l2596.length n2599 t2827.2.1, r7 A2597 l2596.length n2599 t2827.2.2, b16 g2590 g2592, b2 g2607 a2608, b15 g2811 a2584 a2585 a2586] w2829) := ⟨HS.out.call hS⟩
    clear hS
    replace HS : Aside0 (Sep FF w [b14 g2592 g2594 a2602 a2603 a2604 a2605, b13 g2594 A2597 l2596.length n2599 t2827.2.1, r7 A2597 l2596.length n2599 t2827.2.2, b16 g2590 g2592, b2 g2607 a2608] w2829) := ⟨HS.out.sub (.cons_cons _ (.cons_cons _ (.cons_cons _ (.cons_cons _ (.cons_cons _ (.cons _ .slnil))))))⟩
    go_wp2_with fail
    first | go_end0 | refine bodyPost_ret (results_none rfl _ _ _) rfl ?_
    rw [← some_eq H]
    exact ⟨rfl, ((((((HS.out).front 4 (by simp)).front 3 (by simp)).front 3 (by simp)).front 3 (by simp)).front 4 (by simp)).keep (l := [b16 g2590 g2592, b14 g2592 g2594 a2602 a2603 a2604 a2605, b13 g2594 A2597 l2596.length n2599 t2827.2.1, r7 A2597 l2596.length n2599 t2827.2.2, b2 g2607 a2608]) (rest := [])⟩
  · have H := if_no c2819 H
    have c2819b0 : (a2588 == 0) = false := beq_eq_false_iff_ne.mpr c2819
    have c2819b1 : (a2588 != 0) = true := bne_iff_ne.mpr c2819
    clear c2819
    go_wp2_with fail
    refine start_ (n := 9) (S := (fun w' => w'.cell? ⟨g2590, 0, none⟩ = some (.pointer (some ⟨g2592, 0, none⟩)) ∧ w'.cell? ⟨g2811, 1, none⟩ = some (.int .i64 a2585))) (ds := []) #[false, false, false, false, false, false, false, false, false] (by kernel_rfl) rfl rfl (⟨blk_cellv ((HS.out.drew).at3) 0 rfl, blk_cellv ((HS.out.drew).at5) 1 rfl⟩) (fun hHeld => ?_)
    have HS_ := Aside0.mk HS.out.drew
    clear HS
    generalize World.drew _ = w2831 at HS_ hHeld ⊢
    have HS := HS_
    clear HS_
    refine pure_ (i := 2) (N := some 20) (v := ?_) (a' := ?_) #[false, false, true, false, false, false, false, false, false] rfl rfl (by kernel_rfl) (fun _ _ _ h => h) (Or.inl ⟨by rfl, ?_⟩) ?_ ?_
    rotate_left
    · intro w'
      go_simp
      with_reducible rfl
    rotate_left
    · simp only [Act.put, List.setIfInBounds_toArray, List.set_cons_zero, List.set_cons_succ, i64_w, i32_w]
      rfl
    refine pure_ (i := 6) (N := some 24) (v := ?_) (a' := ?_) #[false, false, true, false, false, false, true, false, false] rfl rfl (by kernel_rfl) (fun _ _ _ h => h) (Or.inl ⟨by rfl, ?_⟩) ?_ ?_
    rotate_left
    · intro w'
      go_simp
      with_reducible rfl
    rotate_left
    · simp only [Act.put, List.setIfInBounds_toArray, List.set_cons_zero, List.set_cons_succ, i64_w, i32_w]
      rfl
    refine pure_ (i := 7) (N := some 25) (v := ?_) (a' := ?_) #[false, false, true, false, false, false, true, true, false] rfl rfl (by kernel_rfl) (fun _ _ _ h => h) (Or.inl ⟨by rfl, ?_⟩) ?_ ?_
    rotate_left
    · intro w'
      go_simp
      with_reducible rfl
    rotate_left
    · simp only [Act.put, List.setIfInBounds_toArray, List.set_cons_zero, List.set_cons_succ, i64_w, i32_w]
      rfl
    refine take_ (i := 0) (N := some 18) (v := ?_) (a' := ?_) #[true, false, true, false, false, false, true, true, false] rfl rfl (by kernel_rfl) (fun _ _ _ h => h) (Or.inl ⟨by rfl, ?_⟩) hHeld ?_ ?_
    rotate_left
    · rintro w' hS'
      obtain ⟨s0, s1⟩ := hS'
      go_simp
      with_reducible rfl
    rotate_left
    · simp only [Act.put, List.setIfInBounds_toArray, List.set_cons_zero, List.set_cons_succ, i64_w, i32_w]
      rfl
    refine take_ (i := 1) (N := some 19) (v := ?_) (a' := ?_) #[true, true, true, false, false, false, true, true, false] rfl rfl (by kernel_rfl) (fun _ _ _ h => h) (Or.inl ⟨by rfl, ?_⟩) hHeld ?_ ?_
    rotate_left
    · rintro w' hS'
      obtain ⟨s0, s1⟩ := hS'
      go_simp
      with_reducible rfl
    rotate_left
    · simp only [Act.put, List.setIfInBounds_toArray, List.set_cons_zero, List.set_cons_succ, i64_w, i32_w]
      rfl
    refine take_ (i := 3) (N := some 21) (v := ?_) (a' := ?_) #[true, true, true, true, false, false, true, true, false] rfl rfl (by kernel_rfl) (fun _ _ _ h => h) (Or.inl ⟨by rfl, ?_⟩) hHeld ?_ ?_
    rotate_left
    · rintro w' hS'
      obtain ⟨s0, s1⟩ := hS'
      go_simp
      with_reducible rfl
    rotate_left
    · simp only [Act.put, List.setIfInBounds_toArray, List.set_cons_zero, List.set_cons_succ, i64_w, i32_w]
      rfl
    refine one_ (i := 4) (N := some 22) #[true, true, true, true, true, false, true, true, false] rfl rfl (by kernel_rfl) (by decide) (fun K hK => ?_)
    obtain ⟨t2832, HA2833, H⟩ := bind_some H
    refine goes_ Tryz.func44 (by kernel_rfl) rfl #[.pointer (some ⟨g2592, 0, none⟩), .int .i64 a2585] (by rfl) rfl rfl (by (try simp only [List.map_toArray, List.map_cons, List.map_nil]); first | done | rfl) ?_
    refine (ground_Ground_Reg.calls t2816.2.2 t2816.2.1 a2602 a2603 a2604 a2605 a2585 g2592 g2594 A2597 l2596.length n2599 t2832 _ ⟨HGl0.out.pass HS.out⟩ ⟨HS.out.begin⟩ HA2833).mono ?_
    rintro e_ w2834 ⟨rfl, hS⟩
    replace HS : Aside0 (Sep FF w [b14 g2592 g2594 a2602 a2603 a2604 a2605, b13 g2594 A2597 l2596.length n2599 t2832.2, r7 A2597 l2596.length n2599 t2816.2.2, b16 g2590 g2592, b2 g2607 a2608, b15 g2811 a2584 a2585 a2586] w2834) := ⟨HS.out.call hS⟩
    clear hS
    refine ⟨_, rfl, ?_⟩
    refine hK.out _ _ (⟨blk_cellv (HS.out.at3) 0 rfl, blk_cellv (HS.out.at5) 1 rfl⟩) (fun hHeld => ?_)
    clear hK K
    refine norm_ (a' := ?_) ?_ ?_
    rotate_left
    · show Act.put _ (some 22) _ = _
      simp only [Act.put, List.setIfInBounds_toArray, List.set_cons_zero, List.set_cons_succ, i64_w, i32_w]
      rfl
    refine pure_ (i := 5) (N := some 23) (v := ?_) (a' := ?_) #[true, true, true, true, true, true, true, true, false] rfl rfl (by kernel_rfl) (fun _ _ _ h => h) (Or.inl ⟨by rfl, ?_⟩) ?_ ?_
    rotate_left
    · intro w'
      go_simp
      with_reducible rfl
    rotate_left
    · simp only [Act.put, List.setIfInBounds_toArray, List.set_cons_zero, List.set_cons_succ, i64_w, i32_w]
      rfl
    refine one_ (i := 8) (N := some 26) #[true, true, true, true, true, true, true, true, true] rfl rfl (by kernel_rfl) (by decide) (fun K hK => ?_)
    obtain ⟨t2835, HA2836, H⟩ := bind_some H
    refine goes_ Tryz.func50 (by kernel_rfl) rfl #[.pointer (some ⟨g2592, 0, none⟩), .int .i64 (wrap64 (t2832.1 - 1)), .int .i64 5, .int .u32 ((a2587) % 4294967296)] (by rfl) rfl rfl (by (try simp only [List.map_toArray, List.map_cons, List.map_nil]); first | done | rfl) ?_
    refine (ground_Ground_SetWord.calls t2816.2.2 t2832.2 a2602 a2603 a2604 a2605 (wrap64 (t2832.1 - 1)) 5 ((a2587) % 4294967296) g2592 g2594 A2597 l2596.length n2599 t2835 _ ⟨HGl0.out.pass HS.out⟩ ⟨HS.out.begin⟩ HA2836).mono ?_
    rintro e_ w2837 ⟨rfl, hS⟩
    replace HS : Aside0 (Sep FF w [b14 g2592 g2594 a2602 a2603 a2604 a2605, b13 g2594 A2597 l2596.length n2599 t2835.2.1, r7 A2597 l2596.length n2599 t2835.2.2, b16 g2590 g2592, b2 g2607 a2608, b15 g2811 a2584 a2585 a2586] w2837) := ⟨HS.out.call hS⟩
    clear hS
    refine ⟨_, rfl, ?_⟩
    refine hK.out _ _ (⟨blk_cellv (HS.out.at3) 0 rfl, blk_cellv (HS.out.at5) 1 rfl⟩) (fun hHeld => ?_)
    clear hK K
    refine norm_ (a' := ?_) ?_ ?_
    rotate_left
    · show Act.put _ (some 26) _ = _
      simp only [Act.put, List.setIfInBounds_toArray, List.set_cons_zero, List.set_cons_succ, i64_w, i32_w]
      rfl
    refine done_ (by kernel_rfl) ?_
    have hc2838 : w2837.cell? ⟨g2590, 0, none⟩ = some (.pointer (some ⟨g2592, 0, none⟩)) := blk_cellv (HS.out.at3) 0 rfl
    have hc2839 : w2837.cell? ⟨g2811, 1, none⟩ = some (.int .i64 a2585) := blk_cellv (HS.out.at5) 1 rfl
    go_wp2_with fail
    clear hc2838 hc2839
    obtain ⟨t2827, HA2840, H⟩ := bind_some H
    refine (ground_Ground_SetReg.calls t2835.2.2 t2835.2.1 a2602 a2603 a2604 a2605 a2585 a2587 g2592 g2594 A2597 l2596.length n2599 t2827 _ ⟨HGl0.out.pass HS.out⟩ ⟨HS.out.begin⟩ HA2840).mono ?_
    rintro e_ w2841 ⟨rfl, hS⟩
    replace HS : Aside0 (Sep FF w [b14 g2592 g2594 a2602 a2603 a2604 a2605, b13 g2594 A2597 l2596.length n2599 t2827.2.1, r7 A2597 l2596.length n2599 t2827.2.2, b16 g2590 g2592, b2 g2607 a2608, b15 g2811 a2584 a2585 a2586] w2841) := ⟨HS.out.call hS⟩
    clear hS
    replace HS : Aside0 (Sep FF w [b14 g2592 g2594 a2602 a2603 a2604 a2605, b13 g2594 A2597 l2596.length n2599 t2827.2.1, r7 A2597 l2596.length n2599 t2827.2.2, b16 g2590 g2592, b2 g2607 a2608] w2841) := ⟨HS.out.sub (.cons_cons _ (.cons_cons _ (.cons_cons _ (.cons_cons _ (.cons_cons _ (.cons _ .slnil))))))⟩
    go_wp2_with fail
    first | go_end0 | refine bodyPost_ret (results_none rfl _ _ _) rfl ?_
    rw [← some_eq H]
    exact ⟨rfl, ((((((HS.out).front 4 (by simp)).front 3 (by simp)).front 3 (by simp)).front 3 (by simp)).front 4 (by simp)).keep (l := [b16 g2590 g2592, b14 g2592 g2594 a2602 a2603 a2604 a2605, b13 g2594 A2597 l2596.length n2599 t2827.2.1, r7 A2597 l2596.length n2599 t2827.2.2, b2 g2607 a2608]) (rest := [])⟩

set_option maxHeartbeats 30000000 in
set_option maxRecDepth 100000 in
theorem chain_put_F144.calls (l2540 : List Int) (a2545 : Int) (a2546 : Int) (a2547 : Int) (a2548 : Int) (a2549 : Int) (a2550 : Int) (a2551 : Int) (a2556 : Int) (g2536 : Nat) (g2538 : Nat) (A2541 : Option Addr) (m2542 : Nat) (n2543 : Nat) (g2553 : Nat) (g2555 : Nat) (r : Bool × Int × List Int) (w : World)  (HGl0 : Aside0 (Gl 0 #[.int .i64 0, .int .i64 0, .int .i64 0, .int .i64 0, .int .i64 0] (fps [b14 g2536 g2538 a2546 a2547 a2548 a2549, b13 g2538 A2541 m2542 n2543 a2545, r7 A2541 m2542 n2543 l2540, b16 g2553 g2536, b2 g2555 a2556]) w)) (HS : Aside0 (Sep (fps [b14 g2536 g2538 a2546 a2547 a2548 a2549, b13 g2538 A2541 m2542 n2543 a2545, r7 A2541 m2542 n2543 l2540, b16 g2553 g2536, b2 g2555 a2556]) w [b14 g2536 g2538 a2546 a2547 a2548 a2549, b13 g2538 A2541 m2542 n2543 a2545, r7 A2541 m2542 n2543 l2540, b16 g2553 g2536, b2 g2555 a2556] w)) (H : Aside0 (chain_put_F144.f l2540 a2545 a2546 a2547 a2548 a2549 a2550 a2551 a2556 = some r)) :
    Calls Tryz.prog 143 #[.pointer (some ⟨g2536, 0, none⟩), .int .i64 a2550, .int .i64 a2551, .func (.func 144) #[] #[.pointer (some ⟨g2553, 0, none⟩), .pointer (some ⟨g2555, 0, none⟩)]] w fun e w' => e = .returned (.bool r.1) ∧ Sep (fps [b14 g2536 g2538 a2546 a2547 a2548 a2549, b13 g2538 A2541 m2542 n2543 a2545, r7 A2541 m2542 n2543 l2540, b16 g2553 g2536, b2 g2555 a2556]) w [b14 g2536 g2538 a2546 a2547 a2548 a2549, b13 g2538 A2541 m2542 n2543 r.2.1, r7 A2541 m2542 n2543 r.2.2, b16 g2553 g2536, b2 g2555 a2556] w' := by
  generalize (fps [b14 g2536 g2538 a2546 a2547 a2548 a2549, b13 g2538 A2541 m2542 n2543 a2545, r7 A2541 m2542 n2543 l2540, b16 g2553 g2536, b2 g2555 a2556]) = FF at HS HGl0 ⊢
  obtain rfl := (row_len (HS.out.at2)).symm
  unfold chain_put_F144.f at H
  go_enter Tryz.func143, Tryz.ntmps143
  go_wp2_with fail
  obtain ⟨t2849, HA2850, H⟩ := bind_some H
  refine (chain_of.calls l2540 a2545 a2546 a2547 a2548 a2549 a2550 g2536 g2538 A2541 l2540.length n2543 t2849 _ ⟨HGl0.out.pass HS.out⟩ ⟨HS.out.begin⟩ HA2850).mono ?_
  rintro e_ w2851 ⟨rfl, hS⟩
  replace HS : Aside0 (Sep FF w [b14 g2536 g2538 a2546 a2547 a2548 a2549, b13 g2538 A2541 l2540.length n2543 a2545, r7 A2541 l2540.length n2543 l2540, b16 g2553 g2536, b2 g2555 a2556] w2851) := ⟨HS.out.call hS⟩
  clear hS
  by_cases c2862 : t2849.2.2.2 = true
  · have H := if_yes c2862 H
    have c2862b0 : t2849.2.2.2 = true := c2862
    have c2862b1 : (!t2849.2.2.2) = false := by rw [c2862b0]; rfl
    try rw [c2862b1]
    clear c2862
    by_cases c2863 : a2551 < 0
    · have H := if_yes c2863 H
      have c2863b0 : decide (a2551 < 0) = true := decide_eq_true c2863
      clear c2863
      go_wp2_with (first | ((with_reducible refine gate_dst (N := 9) rfl ?_); refine box_on ?hg (N := 9) ?hd (cs := #[.int .i64 0, .int .i64 0, .int .i64 0]) (t := 165) ?hr ?_; (case hd => rfl); (case hg => rfl); (case hr => first | (go_simp; done) | (go_simp; rfl)); intro g2852 hg w2853 hbox hb; replace HS : Aside0 (Sep FF w [b14 g2536 g2538 a2546 a2547 a2548 a2549, b13 g2538 A2541 l2540.length n2543 a2545, r7 A2541 l2540.length n2543 l2540, b16 g2553 g2536, b2 g2555 a2556, b15 g2852 0 0 0] w2853) := ⟨HS.out.box hg hbox hb⟩; clear hg hbox hb; have hc2855 : w2853.cell? ⟨g2852, 0, none⟩ = some (.int .i64 0) := blk_cellv (HS.out.at5) 0 rfl; have hz2856 : w2853.frozen? ⟨g2852, 0, none⟩ = false := blk_fz (HS.out.at5) 0; have hc2857 : w2853.cell? ⟨g2852, 1, none⟩ = some (.int .i64 0) := blk_cellv (HS.out.at5) 1 rfl; have hz2858 : w2853.frozen? ⟨g2852, 1, none⟩ = false := blk_fz (HS.out.at5) 1; have hc2859 : w2853.cell? ⟨g2852, 2, none⟩ = some (.int .i64 0) := blk_cellv (HS.out.at5) 2 rfl; have hz2860 : w2853.frozen? ⟨g2852, 2, none⟩ = false := blk_fz (HS.out.at5) 2) | ((with_reducible refine gate_store (t := 165) (p := 9) rfl ?_); refine store_event (w1 := (World.setCell (World.setCell (World.setCell w2853 ⟨g2852, 0, none⟩ (.int .i64 t2849.1)) ⟨g2852, 1, none⟩ (.int .i64 t2849.2.1)) ⟨g2852, 2, none⟩ (.int .i64 t2849.2.2.1))) rfl (t := 165) (p := 9) rfl rfl ?hr ?_; (case hr => first | (go_simp; done) | (go_simp; rfl)); intro w2861 hst; clear hc2855 hz2856 hc2857 hz2858 hc2859 hz2860; replace HS : Aside0 (Sep FF w [b14 g2536 g2538 a2546 a2547 a2548 a2549, b13 g2538 A2541 l2540.length n2543 a2545, r7 A2541 l2540.length n2543 l2540, b16 g2553 g2536, b2 g2555 a2556, b15 g2852 t2849.1 t2849.2.1 t2849.2.2.1] w2861) := ⟨by rw [hst]; exact HS.out.setAll (l1 := [b14 g2536 g2538 a2546 a2547 a2548 a2549, b13 g2538 A2541 l2540.length n2543 a2545, r7 A2541 l2540.length n2543 l2540, b16 g2553 g2536, b2 g2555 a2556]) (l2 := []) [.int .i64 t2849.1, .int .i64 t2849.2.1, .int .i64 t2849.2.2.1] rfl⟩; clear hst; replace HS : Aside0 (Sep FF w [b14 g2536 g2538 a2546 a2547 a2548 a2549, b13 g2538 A2541 l2540.length n2543 a2545, r7 A2541 l2540.length n2543 l2540, b16 g2553 g2536, b2 g2555 a2556] w2861) := ⟨HS.out.sub (.cons_cons _ (.cons_cons _ (.cons_cons _ (.cons_cons _ (.cons_cons _ (.cons _ .slnil))))))⟩))
      go_ret
      rw [← some_eq H]
      exact ⟨(by first | rfl | (simp [IntKind.wrap_u32]; done)), HS.out⟩
    · have H := if_no c2863 H
      have c2863b0 : decide (a2551 < 0) = false := decide_eq_false c2863
      clear c2863
      go_wp2_with (first | ((with_reducible refine gate_dst (N := 9) rfl ?_); refine box_on ?hg (N := 9) ?hd (cs := #[.int .i64 0, .int .i64 0, .int .i64 0]) (t := 165) ?hr ?_; (case hd => rfl); (case hg => rfl); (case hr => first | (go_simp; done) | (go_simp; rfl)); intro g2852 hg w2853 hbox hb; replace HS : Aside0 (Sep FF w [b14 g2536 g2538 a2546 a2547 a2548 a2549, b13 g2538 A2541 l2540.length n2543 a2545, r7 A2541 l2540.length n2543 l2540, b16 g2553 g2536, b2 g2555 a2556, b15 g2852 0 0 0] w2853) := ⟨HS.out.box hg hbox hb⟩; clear hg hbox hb; have hc2855 : w2853.cell? ⟨g2852, 0, none⟩ = some (.int .i64 0) := blk_cellv (HS.out.at5) 0 rfl; have hz2856 : w2853.frozen? ⟨g2852, 0, none⟩ = false := blk_fz (HS.out.at5) 0; have hc2857 : w2853.cell? ⟨g2852, 1, none⟩ = some (.int .i64 0) := blk_cellv (HS.out.at5) 1 rfl; have hz2858 : w2853.frozen? ⟨g2852, 1, none⟩ = false := blk_fz (HS.out.at5) 1; have hc2859 : w2853.cell? ⟨g2852, 2, none⟩ = some (.int .i64 0) := blk_cellv (HS.out.at5) 2 rfl; have hz2860 : w2853.frozen? ⟨g2852, 2, none⟩ = false := blk_fz (HS.out.at5) 2) | ((with_reducible refine gate_store (t := 165) (p := 9) rfl ?_); refine store_event (w1 := (World.setCell (World.setCell (World.setCell w2853 ⟨g2852, 0, none⟩ (.int .i64 t2849.1)) ⟨g2852, 1, none⟩ (.int .i64 t2849.2.1)) ⟨g2852, 2, none⟩ (.int .i64 t2849.2.2.1))) rfl (t := 165) (p := 9) rfl rfl ?hr ?_; (case hr => first | (go_simp; done) | (go_simp; rfl)); intro w2861 hst; clear hc2855 hz2856 hc2857 hz2858 hc2859 hz2860; replace HS : Aside0 (Sep FF w [b14 g2536 g2538 a2546 a2547 a2548 a2549, b13 g2538 A2541 l2540.length n2543 a2545, r7 A2541 l2540.length n2543 l2540, b16 g2553 g2536, b2 g2555 a2556, b15 g2852 t2849.1 t2849.2.1 t2849.2.2.1] w2861) := ⟨by rw [hst]; exact HS.out.setAll (l1 := [b14 g2536 g2538 a2546 a2547 a2548 a2549, b13 g2538 A2541 l2540.length n2543 a2545, r7 A2541 l2540.length n2543 l2540, b16 g2553 g2536, b2 g2555 a2556]) (l2 := []) [.int .i64 t2849.1, .int .i64 t2849.2.1, .int .i64 t2849.2.2.1] rfl⟩; clear hst))
      obtain ⟨t2864, HA2865, H⟩ := bind_some H
      refine (ground_Ground_Conf.calls l2540 a2545 a2546 a2547 a2548 a2549 g2536 g2538 A2541 l2540.length n2543 t2864 _ ⟨HGl0.out.pass HS.out⟩ ⟨HS.out.begin⟩ HA2865).mono ?_
      rintro e_ w2866 ⟨rfl, hS⟩
      replace HS : Aside0 (Sep FF w [b14 g2536 g2538 a2546 a2547 a2548 a2549, b13 g2538 A2541 l2540.length n2543 a2545, r7 A2541 l2540.length n2543 l2540, b16 g2553 g2536, b2 g2555 a2556, b15 g2852 t2849.1 t2849.2.1 t2849.2.2.1] w2866) := ⟨HS.out.call hS⟩
      clear hS
      by_cases c2868 : a2551 ≥ t2864.1
      · have H := if_yes c2868 H
        have c2868b0 : decide (t2864.1 ≤ a2551) = true := decide_eq_true c2868
        clear c2868
        have fl2867 : ∀ w, (Instr.field 29 (.agg #[.int .i64 t2864.1, .int .i64 t2864.2.1, .int .i64 t2864.2.2.1, .int .i64 t2864.2.2.2]) 0).run Tryz.prog w = .ok (.int .i64 t2864.1) w := fun _ => by kernel_rfl
        replace HS : Aside0 (Sep FF w [b14 g2536 g2538 a2546 a2547 a2548 a2549, b13 g2538 A2541 l2540.length n2543 a2545, r7 A2541 l2540.length n2543 l2540, b16 g2553 g2536, b2 g2555 a2556] w2866) := ⟨HS.out.sub (.cons_cons _ (.cons_cons _ (.cons_cons _ (.cons_cons _ (.cons_cons _ (.cons _ .slnil))))))⟩
        go_wp2_with fail
        clear fl2867
        go_ret
        rw [← some_eq H]
        exact ⟨(by first | rfl | (simp [IntKind.wrap_u32]; done)), HS.out⟩
      · have H := if_no c2868 H
        have c2868b0 : decide (t2864.1 ≤ a2551) = false := decide_eq_false c2868
        clear c2868
        have fl2867 : ∀ w, (Instr.field 29 (.agg #[.int .i64 t2864.1, .int .i64 t2864.2.1, .int .i64 t2864.2.2.1, .int .i64 t2864.2.2.2]) 0).run Tryz.prog w = .ok (.int .i64 t2864.1) w := fun _ => by kernel_rfl
        have hc2869 : w2866.cell? ⟨g2852, 2, none⟩ = some (.int .i64 t2849.2.2.1) := blk_cellv (HS.out.at5) 2 rfl
        go_wp2_with fail
        clear fl2867 hc2869
        obtain ⟨t2870, HA2871, H⟩ := bind_some H
        refine (ground_Ground_Reg.calls l2540 a2545 a2546 a2547 a2548 a2549 t2849.2.2.1 g2536 g2538 A2541 l2540.length n2543 t2870 _ ⟨HGl0.out.pass HS.out⟩ ⟨HS.out.begin⟩ HA2871).mono ?_
        rintro e_ w2872 ⟨rfl, hS⟩
        replace HS : Aside0 (Sep FF w [b14 g2536 g2538 a2546 a2547 a2548 a2549, b13 g2538 A2541 l2540.length n2543 t2870.2, r7 A2541 l2540.length n2543 l2540, b16 g2553 g2536, b2 g2555 a2556, b15 g2852 t2849.1 t2849.2.1 t2849.2.2.1] w2872) := ⟨HS.out.call hS⟩
        clear hS
        have hc2873 : w2872.cell? ⟨g2852, 0, none⟩ = some (.int .i64 t2849.1) := blk_cellv (HS.out.at5) 0 rfl
        have hc2874 : w2872.cell? ⟨g2852, 1, none⟩ = some (.int .i64 t2849.2.1) := blk_cellv (HS.out.at5) 1 rfl
        have hc2875 : w2872.cell? ⟨g2852, 2, none⟩ = some (.int .i64 t2849.2.2.1) := blk_cellv (HS.out.at5) 2 rfl
        go_wp2_with fail
        clear hc2873 hc2874 hc2875
        replace HS : Aside0 (Sep FF w [b2 g2555 a2556, b14 g2536 g2538 a2546 a2547 a2548 a2549, b13 g2538 A2541 l2540.length n2543 t2870.2, r7 A2541 l2540.length n2543 l2540, b16 g2553 g2536, b15 g2852 t2849.1 t2849.2.1 t2849.2.2.1] w2872) := ⟨HS.out.front 4 (by simp)⟩
        replace HS : Aside0 (Sep FF w [r7 A2541 l2540.length n2543 l2540, b2 g2555 a2556, b14 g2536 g2538 a2546 a2547 a2548 a2549, b13 g2538 A2541 l2540.length n2543 t2870.2, b16 g2553 g2536, b15 g2852 t2849.1 t2849.2.1 t2849.2.2.1] w2872) := ⟨HS.out.front 3 (by simp)⟩
        replace HS : Aside0 (Sep FF w [b13 g2538 A2541 l2540.length n2543 t2870.2, r7 A2541 l2540.length n2543 l2540, b2 g2555 a2556, b14 g2536 g2538 a2546 a2547 a2548 a2549, b16 g2553 g2536, b15 g2852 t2849.1 t2849.2.1 t2849.2.2.1] w2872) := ⟨HS.out.front 3 (by simp)⟩
        replace HS : Aside0 (Sep FF w [b14 g2536 g2538 a2546 a2547 a2548 a2549, b13 g2538 A2541 l2540.length n2543 t2870.2, r7 A2541 l2540.length n2543 l2540, b2 g2555 a2556, b16 g2553 g2536, b15 g2852 t2849.1 t2849.2.1 t2849.2.2.1] w2872) := ⟨HS.out.front 3 (by simp)⟩
        replace HS : Aside0 (Sep FF w [b16 g2553 g2536, b14 g2536 g2538 a2546 a2547 a2548 a2549, b13 g2538 A2541 l2540.length n2543 t2870.2, r7 A2541 l2540.length n2543 l2540, b2 g2555 a2556, b15 g2852 t2849.1 t2849.2.1 t2849.2.2.1] w2872) := ⟨HS.out.front 4 (by simp)⟩
        obtain ⟨t2876, HA2877, H⟩ := bind_some H
        refine (chain_Add_1.calls t2849.1 t2849.2.1 t2849.2.2.1 (wrap64 (a2551 + 1)) t2870.1 l2540 t2870.2 a2546 a2547 a2548 a2549 a2556 g2553 g2536 g2538 A2541 l2540.length n2543 g2555 t2876 _ ⟨HGl0.out.pass HS.out⟩ ⟨HS.out.begin⟩ HA2877).mono ?_
        rintro e_ w2878 ⟨rfl, hS⟩
        replace HS : Aside0 (Sep FF w [b16 g2553 g2536, b14 g2536 g2538 a2546 a2547 a2548 a2549, b13 g2538 A2541 l2540.length n2543 t2876.1, r7 A2541 l2540.length n2543 t2876.2, b2 g2555 a2556, b15 g2852 t2849.1 t2849.2.1 t2849.2.2.1] w2878) := ⟨HS.out.call hS⟩
        clear hS
        have hc2879 : w2878.cell? ⟨g2852, 2, none⟩ = some (.int .i64 t2849.2.2.1) := blk_cellv (HS.out.at5) 2 rfl
        go_wp2_with fail
        clear hc2879
        replace HS : Aside0 (Sep FF w [r7 A2541 l2540.length n2543 t2876.2, b16 g2553 g2536, b14 g2536 g2538 a2546 a2547 a2548 a2549, b13 g2538 A2541 l2540.length n2543 t2876.1, b2 g2555 a2556, b15 g2852 t2849.1 t2849.2.1 t2849.2.2.1] w2878) := ⟨HS.out.front 3 (by simp)⟩
        replace HS : Aside0 (Sep FF w [b13 g2538 A2541 l2540.length n2543 t2876.1, r7 A2541 l2540.length n2543 t2876.2, b16 g2553 g2536, b14 g2536 g2538 a2546 a2547 a2548 a2549, b2 g2555 a2556, b15 g2852 t2849.1 t2849.2.1 t2849.2.2.1] w2878) := ⟨HS.out.front 3 (by simp)⟩
        replace HS : Aside0 (Sep FF w [b14 g2536 g2538 a2546 a2547 a2548 a2549, b13 g2538 A2541 l2540.length n2543 t2876.1, r7 A2541 l2540.length n2543 t2876.2, b16 g2553 g2536, b2 g2555 a2556, b15 g2852 t2849.1 t2849.2.1 t2849.2.2.1] w2878) := ⟨HS.out.front 3 (by simp)⟩
        obtain ⟨t2880, HA2881, H⟩ := bind_some H
        refine (ground_Ground_SetReg.calls t2876.2 t2876.1 a2546 a2547 a2548 a2549 t2849.2.2.1 (wrap64 (t2870.1 + 1)) g2536 g2538 A2541 l2540.length n2543 t2880 _ ⟨HGl0.out.pass HS.out⟩ ⟨HS.out.begin⟩ HA2881).mono ?_
        rintro e_ w2882 ⟨rfl, hS⟩
        replace HS : Aside0 (Sep FF w [b14 g2536 g2538 a2546 a2547 a2548 a2549, b13 g2538 A2541 l2540.length n2543 t2880.2.1, r7 A2541 l2540.length n2543 t2880.2.2, b16 g2553 g2536, b2 g2555 a2556, b15 g2852 t2849.1 t2849.2.1 t2849.2.2.1] w2882) := ⟨HS.out.call hS⟩
        clear hS
        replace HS : Aside0 (Sep FF w [b14 g2536 g2538 a2546 a2547 a2548 a2549, b13 g2538 A2541 l2540.length n2543 t2880.2.1, r7 A2541 l2540.length n2543 t2880.2.2, b16 g2553 g2536, b2 g2555 a2556] w2882) := ⟨HS.out.sub (.cons_cons _ (.cons_cons _ (.cons_cons _ (.cons_cons _ (.cons_cons _ (.cons _ .slnil))))))⟩
        go_wp2_with fail
        go_ret
        rw [← some_eq H]
        exact ⟨(by first | rfl | (simp [IntKind.wrap_u32]; done)), HS.out⟩
  · have H := if_no c2862 H
    have c2862b0 : t2849.2.2.2 = false := by simpa using c2862
    have c2862b1 : (!t2849.2.2.2) = true := by rw [c2862b0]; rfl
    try rw [c2862b1]
    clear c2862
    go_wp2_with (first | ((with_reducible refine gate_dst (N := 9) rfl ?_); refine box_on ?hg (N := 9) ?hd (cs := #[.int .i64 0, .int .i64 0, .int .i64 0]) (t := 165) ?hr ?_; (case hd => rfl); (case hg => rfl); (case hr => first | (go_simp; done) | (go_simp; rfl)); intro g2852 hg w2853 hbox hb; replace HS : Aside0 (Sep FF w [b14 g2536 g2538 a2546 a2547 a2548 a2549, b13 g2538 A2541 l2540.length n2543 a2545, r7 A2541 l2540.length n2543 l2540, b16 g2553 g2536, b2 g2555 a2556, b15 g2852 0 0 0] w2853) := ⟨HS.out.box hg hbox hb⟩; clear hg hbox hb; have hc2855 : w2853.cell? ⟨g2852, 0, none⟩ = some (.int .i64 0) := blk_cellv (HS.out.at5) 0 rfl; have hz2856 : w2853.frozen? ⟨g2852, 0, none⟩ = false := blk_fz (HS.out.at5) 0; have hc2857 : w2853.cell? ⟨g2852, 1, none⟩ = some (.int .i64 0) := blk_cellv (HS.out.at5) 1 rfl; have hz2858 : w2853.frozen? ⟨g2852, 1, none⟩ = false := blk_fz (HS.out.at5) 1; have hc2859 : w2853.cell? ⟨g2852, 2, none⟩ = some (.int .i64 0) := blk_cellv (HS.out.at5) 2 rfl; have hz2860 : w2853.frozen? ⟨g2852, 2, none⟩ = false := blk_fz (HS.out.at5) 2) | ((with_reducible refine gate_store (t := 165) (p := 9) rfl ?_); refine store_event (w1 := (World.setCell (World.setCell (World.setCell w2853 ⟨g2852, 0, none⟩ (.int .i64 t2849.1)) ⟨g2852, 1, none⟩ (.int .i64 t2849.2.1)) ⟨g2852, 2, none⟩ (.int .i64 t2849.2.2.1))) rfl (t := 165) (p := 9) rfl rfl ?hr ?_; (case hr => first | (go_simp; done) | (go_simp; rfl)); intro w2861 hst; clear hc2855 hz2856 hc2857 hz2858 hc2859 hz2860; replace HS : Aside0 (Sep FF w [b14 g2536 g2538 a2546 a2547 a2548 a2549, b13 g2538 A2541 l2540.length n2543 a2545, r7 A2541 l2540.length n2543 l2540, b16 g2553 g2536, b2 g2555 a2556, b15 g2852 t2849.1 t2849.2.1 t2849.2.2.1] w2861) := ⟨by rw [hst]; exact HS.out.setAll (l1 := [b14 g2536 g2538 a2546 a2547 a2548 a2549, b13 g2538 A2541 l2540.length n2543 a2545, r7 A2541 l2540.length n2543 l2540, b16 g2553 g2536, b2 g2555 a2556]) (l2 := []) [.int .i64 t2849.1, .int .i64 t2849.2.1, .int .i64 t2849.2.2.1] rfl⟩; clear hst; replace HS : Aside0 (Sep FF w [b14 g2536 g2538 a2546 a2547 a2548 a2549, b13 g2538 A2541 l2540.length n2543 a2545, r7 A2541 l2540.length n2543 l2540, b16 g2553 g2536, b2 g2555 a2556] w2861) := ⟨HS.out.sub (.cons_cons _ (.cons_cons _ (.cons_cons _ (.cons_cons _ (.cons_cons _ (.cons _ .slnil))))))⟩))
    go_ret
    rw [← some_eq H]
    exact ⟨(by first | rfl | (simp [IntKind.wrap_u32]; done)), HS.out⟩

set_option maxHeartbeats 30000000 in
set_option maxRecDepth 100000 in
theorem chain_Add.calls (l2515 : List Int) (a2520 : Int) (a2521 : Int) (a2522 : Int) (a2523 : Int) (a2524 : Int) (a2525 : Int) (a2526 : Int) (g2511 : Nat) (g2513 : Nat) (A2516 : Option Addr) (m2517 : Nat) (n2518 : Nat) (r : Bool × Int × List Int) (w : World)  (HGl0 : Aside0 (Gl 0 #[.int .i64 0, .int .i64 0, .int .i64 0, .int .i64 0, .int .i64 0] (fps [b14 g2511 g2513 a2521 a2522 a2523 a2524, b13 g2513 A2516 m2517 n2518 a2520, r7 A2516 m2517 n2518 l2515]) w)) (HS : Aside0 (Sep (fps [b14 g2511 g2513 a2521 a2522 a2523 a2524, b13 g2513 A2516 m2517 n2518 a2520, r7 A2516 m2517 n2518 l2515]) w [b14 g2511 g2513 a2521 a2522 a2523 a2524, b13 g2513 A2516 m2517 n2518 a2520, r7 A2516 m2517 n2518 l2515] w)) (H : Aside0 (chain_Add.f l2515 a2520 a2521 a2522 a2523 a2524 a2525 a2526 = some r)) :
    Calls Tryz.prog 97 #[.pointer (some ⟨g2511, 0, none⟩), .int .i64 a2525, .int .i64 a2526] w fun e w' => e = .returned (.bool r.1) ∧ Sep (fps [b14 g2511 g2513 a2521 a2522 a2523 a2524, b13 g2513 A2516 m2517 n2518 a2520, r7 A2516 m2517 n2518 l2515]) w [b14 g2511 g2513 a2521 a2522 a2523 a2524, b13 g2513 A2516 m2517 n2518 r.2.1, r7 A2516 m2517 n2518 r.2.2] w' := by
  generalize (fps [b14 g2511 g2513 a2521 a2522 a2523 a2524, b13 g2513 A2516 m2517 n2518 a2520, r7 A2516 m2517 n2518 l2515]) = FF at HS HGl0 ⊢
  obtain rfl := (row_len (HS.out.at2)).symm
  unfold chain_Add.f at H
  go_enter Tryz.func97, Tryz.ntmps97
  go_wp2_with (first | ((with_reducible refine gate_dst (N := 3) rfl ?_); refine box_on ?hg (N := 3) ?hd (cs := #[.pointer (some ⟨g2511, 0, none⟩)]) (t := 24) ?hr ?_; (case hd => rfl); (case hg => rfl); (case hr => first | (go_simp; done) | (go_simp; rfl)); intro g2886 hg w2887 hbox hb; replace HS : Aside0 (Sep FF w [b14 g2511 g2513 a2521 a2522 a2523 a2524, b13 g2513 A2516 l2515.length n2518 a2520, r7 A2516 l2515.length n2518 l2515, b16 g2886 g2511] w2887) := ⟨HS.out.box hg hbox hb⟩; clear hg hbox hb) | ((with_reducible refine gate_dst (N := 5) rfl ?_); refine box_on ?hg (N := 5) ?hd (cs := #[.int .i64 a2526]) (t := 3) ?hr ?_; (case hd => rfl); (case hg => rfl); (case hr => first | (go_simp; done) | (go_simp; rfl)); intro g2889 hg w2890 hbox hb; replace HS : Aside0 (Sep FF w [b14 g2511 g2513 a2521 a2522 a2523 a2524, b13 g2513 A2516 l2515.length n2518 a2520, r7 A2516 l2515.length n2518 l2515, b16 g2886 g2511, b2 g2889 a2526] w2890) := ⟨HS.out.box hg hbox hb⟩; clear hg hbox hb; have hc2892 : w2890.cell? ⟨g2886, 0, none⟩ = some (.pointer (some ⟨g2511, 0, none⟩)) := blk_cellv (HS.out.at3) 0 rfl; have hc2893 : w2890.cell? ⟨g2889, 0, none⟩ = some (.int .i64 a2526) := blk_cellv (HS.out.at4) 0 rfl))
  clear hc2892 hc2893
  obtain ⟨t2894, HA2895, H⟩ := bind_some H
  refine (chain_put_F144.calls l2515 a2520 a2521 a2522 a2523 a2524 a2525 a2526 a2526 g2511 g2513 A2516 l2515.length n2518 g2886 g2889 t2894 _ ⟨HGl0.out.pass HS.out⟩ ⟨HS.out.begin⟩ HA2895).mono ?_
  rintro e_ w2896 ⟨rfl, hS⟩
  replace HS : Aside0 (Sep FF w [b14 g2511 g2513 a2521 a2522 a2523 a2524, b13 g2513 A2516 l2515.length n2518 t2894.2.1, r7 A2516 l2515.length n2518 t2894.2.2, b16 g2886 g2511, b2 g2889 a2526] w2896) := ⟨HS.out.call hS⟩
  clear hS
  replace HS : Aside0 (Sep FF w [b14 g2511 g2513 a2521 a2522 a2523 a2524, b13 g2513 A2516 l2515.length n2518 t2894.2.1, r7 A2516 l2515.length n2518 t2894.2.2] w2896) := ⟨HS.out.sub (.cons_cons _ (.cons_cons _ (.cons_cons _ (.cons _ (.cons _ .slnil)))))⟩
  go_wp2_with fail
  go_ret
  rw [← some_eq H]
  exact ⟨(by first | rfl | (simp [IntKind.wrap_u32]; done)), HS.out⟩

set_option maxHeartbeats 30000000 in
set_option maxRecDepth 100000 in
theorem pool_Open.calls (k : Nat) (l2223 : List Int) (a2228 : Int) (a2229 : Int) (a2230 : Int) (a2231 : Int) (a2232 : Int) (g2219 : Nat) (g2221 : Nat) (A2224 : Option Addr) (m2225 : Nat) (n2226 : Nat) (r : Bool × Int × List Int) (w : World)  (HGl0 : Aside0 (Gl 0 #[.int .i64 0, .int .i64 0, .int .i64 0, .int .i64 0, .int .i64 0] (fps [b14 g2219 g2221 a2229 a2230 a2231 a2232, b13 g2221 A2224 m2225 n2226 a2228, r7 A2224 m2225 n2226 l2223]) w)) (HS : Aside0 (Sep (fps [b14 g2219 g2221 a2229 a2230 a2231 a2232, b13 g2221 A2224 m2225 n2226 a2228, r7 A2224 m2225 n2226 l2223]) w [b14 g2219 g2221 a2229 a2230 a2231 a2232, b13 g2221 A2224 m2225 n2226 a2228, r7 A2224 m2225 n2226 l2223] w)) (H : Aside0 (pool_Open.f k l2223 a2228 a2229 a2230 a2231 a2232 = some r)) :
    Calls Tryz.prog 41 #[.pointer (some ⟨g2219, 0, none⟩)] w fun e w' => e = .returned (.bool r.1) ∧ Sep (fps [b14 g2219 g2221 a2229 a2230 a2231 a2232, b13 g2221 A2224 m2225 n2226 a2228, r7 A2224 m2225 n2226 l2223]) w [b14 g2219 g2221 a2229 a2230 a2231 a2232, b13 g2221 A2224 m2225 n2226 r.2.1, r7 A2224 m2225 n2226 r.2.2] w' := by
  generalize (fps [b14 g2219 g2221 a2229 a2230 a2231 a2232, b13 g2221 A2224 m2225 n2226 a2228, r7 A2224 m2225 n2226 l2223]) = FF at HS HGl0 ⊢
  obtain rfl := (row_len (HS.out.at2)).symm
  unfold pool_Open.f at H
  go_enter Tryz.func41, Tryz.ntmps41
  go_wp2_with fail
  obtain ⟨t2910, HA2911, H⟩ := bind_some H
  refine (chain_Len.calls l2223 a2228 a2229 a2230 a2231 a2232 0 g2219 g2221 A2224 l2223.length n2226 t2910 _ ⟨HGl0.out.pass HS.out⟩ ⟨HS.out.begin⟩ HA2911).mono ?_
  rintro e_ w2912 ⟨rfl, hS⟩
  replace HS : Aside0 (Sep FF w [b14 g2219 g2221 a2229 a2230 a2231 a2232, b13 g2221 A2224 l2223.length n2226 t2910.2, r7 A2224 l2223.length n2226 l2223] w2912) := ⟨HS.out.call hS⟩
  clear hS
  by_cases c2913 : t2910.1 > 0
  · have H := if_yes c2913 H
    have c2913b0 : decide (0 < t2910.1) = true := decide_eq_true c2913
    clear c2913
    go_wp2_with fail
    go_ret
    rw [← some_eq H]
    exact ⟨(by first | rfl | (simp [IntKind.wrap_u32]; done)), HS.out⟩
  · have H := if_no c2913 H
    have c2913b0 : decide (0 < t2910.1) = false := decide_eq_false c2913
    clear c2913
    go_wp2_with fail
    obtain ⟨t2914, HA2915, H⟩ := bind_some H
    refine (ground_Ground_Conf.calls l2223 t2910.2 a2229 a2230 a2231 a2232 g2219 g2221 A2224 l2223.length n2226 t2914 _ ⟨HGl0.out.pass HS.out⟩ ⟨HS.out.begin⟩ HA2915).mono ?_
    rintro e_ w2916 ⟨rfl, hS⟩
    replace HS : Aside0 (Sep FF w [b14 g2219 g2221 a2229 a2230 a2231 a2232, b13 g2221 A2224 l2223.length n2226 t2910.2, r7 A2224 l2223.length n2226 l2223] w2916) := ⟨HS.out.call hS⟩
    clear hS
    have fl2917 : ∀ w, (Instr.field 29 (.agg #[.int .i64 t2914.1, .int .i64 t2914.2.1, .int .i64 t2914.2.2.1, .int .i64 t2914.2.2.2]) 0).run Tryz.prog w = .ok (.int .i64 t2914.1) w := fun _ => by kernel_rfl
    go_wp2_with fail
    clear fl2917
    obtain ⟨o2928, AL2929, H⟩ := bind_some H
    go_loopg [14] k (fun kq v14 wc => ∃ (x2932 : Int) (x2933 : List Int) (x2934 : Int), v14 = .int .i64 x2932 ∧ Aside0 (pool_Open.lo0 kq a2229 a2230 a2231 a2232 t2914 x2932 x2933 x2934 = some o2928) ∧ Aside0 (Sep FF w [b14 g2219 g2221 a2229 a2230 a2231 a2232, b13 g2221 A2224 l2223.length n2226 x2934, r7 A2224 l2223.length n2226 x2933] wc))
    case atStart => exact ⟨(0), (l2223), (t2910.2), (by first | rfl | (simp [IntKind.wrap_u32]; done)), AL2929, ⟨HS.out⟩⟩
    case round =>
      clear AL2929 HS
      obtain ⟨x2932, x2933, x2934, rfl, AL2929, HS⟩ := hrel
      obtain ⟨w2930, rfl⟩ : ∃ x : World, x = wr := ⟨_, rfl⟩
      cases gk with
      | zero => exact absurd AL2929.out (by simp [pool_Open.lo0])
      | succ k2931 =>
        have AL0 := AL2929.out
        rw [pool_Open.lo0] at AL0
        clear AL2929
        have AL2929 := Aside0.mk AL0
        clear AL0
        by_cases c2935 : x2932 < t2914.1
        · have AL2929 := if_yes c2935 AL2929
          have c2935b0 : decide (x2932 < t2914.1) = true := decide_eq_true c2935
          clear c2935
          go_wp2_with fail
          obtain ⟨t2925, HA2936, AL2929⟩ := bind_some AL2929
          refine (chain_Add.calls x2933 x2934 a2229 a2230 a2231 a2232 0 x2932 g2219 g2221 A2224 l2223.length n2226 t2925 _ ⟨HGl0.out.pass HS.out⟩ ⟨HS.out.begin⟩ HA2936).mono ?_
          rintro e_ w2937 ⟨rfl, hS⟩
          replace HS : Aside0 (Sep FF w [b14 g2219 g2221 a2229 a2230 a2231 a2232, b13 g2221 A2224 l2223.length n2226 t2925.2.1, r7 A2224 l2223.length n2226 t2925.2.2] w2937) := ⟨HS.out.call hS⟩
          clear hS
          go_wp2_with fail
          go_roundg k2931
          case measure => exact Nat.lt_succ_self _
          case rel => exact ⟨(wrap64 (x2932 + 1)), (t2925.2.2), (t2925.2.1), (by first | rfl | (simp [IntKind.wrap_u32]; done)), Aside0.mk AL2929.out, ⟨HS.out⟩⟩
        · have AL2929 := if_no c2935 AL2929
          have c2935b0 : decide (x2932 < t2914.1) = false := decide_eq_false c2935
          clear c2935
          have ho := some_eq AL2929
          subst ho
          clear AL2929
          go_wp2_with fail
          go_ret
          rw [← some_eq H]
          exact ⟨(by first | rfl | (simp [IntKind.wrap_u32]; done)), HS.out⟩

set_option maxHeartbeats 30000000 in
set_option maxRecDepth 100000 in
theorem quitrentref10_Open.calls (k : Nat) (a2949 : Int) (r : List Int) (w : World)  (HGl0 : Aside0 (Gl 0 #[.int .i64 0, .int .i64 0, .int .i64 0, .int .i64 0, .int .i64 0] (fps []) w)) (HS : Aside0 (Sep (fps []) w [] w)) (H : Aside0 (quitrentref10_Open.f k a2949 = some r)) :
    Calls Tryz.prog 145 #[.int .i64 a2949] w fun e w' => ∃ (A2989 : Option Addr) (m2990 : Nat) (n2991 : Nat), e = .returned (.slice A2989 m2990 n2991) ∧ Sep (fps []) w [r17 A2989 m2990 n2991 r] w' := by
  unfold quitrentref10_Open.f at H
  go_enter Tryz.func145, Tryz.ntmps145
  go_wp2_with fail
  replace HS : Aside0 (Sep (fps []) w [r17 none 0 0 []] w) := ⟨HS.out.nilrow 3 (Value.int .i64)⟩
  obtain ⟨o2951, AL2952, H⟩ := bind_some H
  go_loopg [3, 4] k (fun kq v3 v4 wc => ∃ (x2957 : Int) (x2958 : List Int) (A2959 : Option Addr) (m2960 : Nat) (n2961 : Nat), v3 = .slice A2959 m2960 n2961 ∧ v4 = .int .i64 x2957 ∧ Aside0 (quitrentref10_Open.lo0 kq a2949 x2957 x2958 = some o2951) ∧ Aside0 (Sep (fps []) w [r17 A2959 m2960 n2961 x2958] wc))
  case atStart => exact ⟨(0), (([] : List Int)), (none), (0), (0), (by first | rfl | (simp [IntKind.wrap_u32]; done)), (by first | rfl | (simp [IntKind.wrap_u32]; done)), AL2952, ⟨HS.out⟩⟩
  case round =>
    clear AL2952 HS
    obtain ⟨x2957, x2958, A2959, m2960, n2961, rfl, rfl, AL2952, HS⟩ := hrel
    obtain ⟨w2953, rfl⟩ : ∃ x : World, x = wr := ⟨_, rfl⟩
    obtain rfl := (row_len (HS.out.at0)).symm
    cases gk with
    | zero => exact absurd AL2952.out (by simp [quitrentref10_Open.lo0])
    | succ k2954 =>
      have AL0 := AL2952.out
      rw [quitrentref10_Open.lo0] at AL0
      clear AL2952
      have AL2952 := Aside0.mk AL0
      clear AL0
      by_cases c2963 : x2957 < a2949
      · have AL2952 := if_yes c2963 AL2952
        have c2963b0 : decide (x2957 < a2949) = true := decide_eq_true c2963
        clear c2963
        by_cases c2967 : x2958.length < 17592186044416
        · have AL2952 := if_yes c2967 AL2952
          have c2967b0 : decide (x2958.length < 17592186044416) = true := decide_eq_true c2967
          clear c2967
          obtain ⟨y2971, HA2972, AL2952⟩ := bind_some AL2952
          go_wp2_with (first | ((with_reducible refine gate_dst (N := 12) rfl ?_); refine slice_on (n := 1) ?hg (N := 12) ?hd (cs := #[.int .i64 x2957]) (t := 3) ?hr ?_; (case hd => rfl); (case hg => rfl); (case hr => first | (go_simp; done) | (go_simp; rfl)); intro g2964 hg w2965 hbox hb; replace HS : Aside0 (Sep (fps []) w [r17 A2959 x2958.length n2961 x2958, b2 g2964 x2957] w2965) := ⟨HS.out.box hg hbox hb⟩; clear hg hbox hb) | ((with_reducible refine gate_dst (N := 13) rfl ?_); refine append_event (l1 := []) (l2 := [b2 g2964 x2957]) rfl (.tmp 10) (.tmp 12) 66 3 (.int .i64 0) 8 rfl Tryz.underlying66 (by kernel_rfl) rfl (by decide) (Value.int .i64) (fun _ => rfl) (.slice A2959 x2958.length n2961) (x2958 : List Int) [x2957] ⟨g2964, 0, none⟩ 1 rfl rfl (blk_news (xs := [x2957]) (HS.out.at1)) HS.out (by have := of_decide_eq_true c2967b0; simp only [List.length_cons, List.length_nil]; omega) HA2972 ?_; intro A2968 n2969 w2970 HS1; replace HS : Aside0 (Sep (fps []) w [r17 A2968 y2971.length n2969 y2971, b2 g2964 x2957] w2970) := ⟨HS1⟩; clear HS1; replace HS : Aside0 (Sep (fps []) w [r17 A2968 y2971.length n2969 y2971] w2970) := ⟨HS.out.sub (.cons_cons _ (.cons _ .slnil))⟩))
          go_roundg k2954
          case measure => exact Nat.lt_succ_self _
          case rel => exact ⟨(wrap64 (x2957 + 1)), (y2971), (A2968), (y2971.length), (n2969), (by first | rfl | (simp [IntKind.wrap_u32]; done)), (by first | rfl | (simp [IntKind.wrap_u32]; done)), Aside0.mk AL2952.out, ⟨HS.out⟩⟩
        · have AL2952 := if_no c2967 AL2952
          have c2967b0 : decide (x2958.length < 17592186044416) = false := decide_eq_false c2967
          clear c2967
          exact (none_no AL2952).elim
      · have AL2952 := if_no c2963 AL2952
        have c2963b0 : decide (x2957 < a2949) = false := decide_eq_false c2963
        clear c2963
        have ho := some_eq AL2952
        subst ho
        clear AL2952
        go_wp2_with fail
        go_ret
        rw [← some_eq H]
        exact ⟨A2959, x2958.length, n2961, (by first | rfl | (simp [IntKind.wrap_u32]; done)), HS.out⟩

set_option maxHeartbeats 30000000 in
set_option maxRecDepth 100000 in
theorem quitrentref11_New.calls (k : Nat) (a2947 : Int) (a2948 : Int) (r : Int × Int × List Int) (w : World)  (HGl0 : Aside0 (Gl 0 #[.int .i64 0, .int .i64 0, .int .i64 0, .int .i64 0, .int .i64 0] (fps []) w)) (HS : Aside0 (Sep (fps []) w [] w)) (H : Aside0 (quitrentref11_New.f k a2947 a2948 = some r)) :
    Calls Tryz.prog 98 #[.int .i64 a2947, .int .i64 a2948] w fun e w' => ∃ (g3013 : Nat), e = .returned (.pointer (some ⟨g3013, 0, none⟩)) ∧ ∃ (A3014 : Option Addr) (m3015 : Nat) (n3016 : Nat), Sep (fps []) w [b18 g3013 r.1 r.2.1 A3014 m3015 n3016, r17 A3014 m3015 n3016 r.2.2] w' := by
  unfold quitrentref11_New.f at H
  go_enter Tryz.func98, Tryz.ntmps98
  go_wp2_with fail
  obtain ⟨t2993, HA2994, H⟩ := bind_some H
  refine (quitrentref10_Open.calls _ a2947 t2993 _ ⟨HGl0.out.pass (l := []) HS.out⟩ ⟨Sep.start _⟩ HA2994).mono ?_
  rintro e_ w2995 ⟨A2997, m2998, n2999, rfl, hS⟩
  replace HS : Aside0 (Sep (fps []) w [r17 A2997 m2998 n2999 t2993] w2995) := ⟨HS.out.call hS⟩
  clear hS
  obtain rfl := (row_len (HS.out.at0)).symm
  go_wp2_with (first | ((with_reducible refine gate_dst (N := 10) rfl ?_); refine box_on ?hg (N := 10) ?hd (cs := #[.int .i64 a2947, .int .i64 a2948, .slice A2997 t2993.length n2999, .slice none 0 0]) (t := 150) ?hr ?_; (case hd => rfl); (case hg => rfl); (case hr => first | (go_simp; done) | (go_simp; rfl)); intro g3001 hg w3002 hbox hb; replace HS : Aside0 (Sep (fps []) w [r17 A2997 t2993.length n2999 t2993, b18 g3001 a2947 a2948 A2997 t2993.length n2999] w3002) := ⟨HS.out.box hg hbox hb⟩; clear hg hbox hb))
  go_ret
  rw [← some_eq H]
  exact ⟨g3001, (by first | rfl | (simp [IntKind.wrap_u32]; done)), A2997, t2993.length, n2999, ((HS.out).front 1 (by simp)).keep (l := [b18 g3001 a2947 a2948 A2997 t2993.length n2999, r17 A2997 t2993.length n2999 t2993]) (rest := [])⟩
end Go.Proofs.YtobeonkddamnoaaGreatDoor.C

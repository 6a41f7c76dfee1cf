/- Each function of the group Ch does what its plain function says, and changes nothing that was there; proved by walking its code. No condition. -/
import Derived.Test.YtobeonkddamnoaaQw
import Derived.Test.YtobeonkddamnoaaMCh
import Derived.Test.YtobeonkddamnoaaGCh0
namespace Go.Proofs.Ytobeonkddamnoaa.C
open Go.RowKit Go.Proofs.YtobeonkddamnoaaW.PrintWords Go.Proofs.YtobeonkddamnoaaW.PrintLast Go.Proofs.Ytobeonkddamnoaa.Q Go.Proofs.Ytobeonkddamnoaa.M
set_option linter.unusedVariables false
set_option linter.unusedSimpArgs false
set_option maxHeartbeats 30000000 in
set_option maxRecDepth 100000 in
theorem chain_Push_1.calls (a1493 : Int) (a1494 : Int) (a1495 : Int) (a1496 : Int) (a1497 : Int) (l1505 : List Int) (a1510 : Int) (a1511 : Int) (a1512 : Int) (a1513 : Int) (a1514 : Int) (a1517 : Int) (g1499 : Nat) (g1501 : Nat) (g1503 : Nat) (A1506 : Option Addr) (m1507 : Nat) (n1508 : Nat) (g1516 : Nat) (r : Int × List Int) (w : World)   (HS : Aside0 (Sep (fps [b8 g1499 g1501, b7 g1501 g1503 a1511 a1512 a1513 a1514, b6 g1503 A1506 m1507 n1508 a1510, r5 A1506 m1507 n1508 l1505, b9 g1516 a1517]) w [b8 g1499 g1501, b7 g1501 g1503 a1511 a1512 a1513 a1514, b6 g1503 A1506 m1507 n1508 a1510, r5 A1506 m1507 n1508 l1505, b9 g1516 a1517] w)) (H : Aside0 (chain_Push_1.f a1493 a1494 a1495 a1496 a1497 l1505 a1510 a1511 a1512 a1513 a1514 a1517 = some r)) :
    Calls Try.prog 90 #[.agg #[.int .i64 a1493, .int .i64 a1494, .int .i64 a1495], .int .i64 a1496, .int .i64 a1497, .pointer (some ⟨g1499, 0, none⟩), .pointer (some ⟨g1516, 0, none⟩)] w fun e w' => e = .returned (.tuple #[]) ∧ Sep (fps [b8 g1499 g1501, b7 g1501 g1503 a1511 a1512 a1513 a1514, b6 g1503 A1506 m1507 n1508 a1510, r5 A1506 m1507 n1508 l1505, b9 g1516 a1517]) w [b8 g1499 g1501, b7 g1501 g1503 a1511 a1512 a1513 a1514, b6 g1503 A1506 m1507 n1508 r.1, r5 A1506 m1507 n1508 r.2, b9 g1516 a1517] w' := by
  generalize (fps [b8 g1499 g1501, b7 g1501 g1503 a1511 a1512 a1513 a1514, b6 g1503 A1506 m1507 n1508 a1510, r5 A1506 m1507 n1508 l1505, b9 g1516 a1517]) = FF at HS ⊢
  obtain rfl := (row_len (HS.out.at3)).symm
  unfold chain_Push_1.f at H
  go_enter Try.func90, Try.ntmps90
  go_wp2_with (first | ((with_reducible refine gate_dst (N := 5) rfl ?_); refine box_on ?hg (N := 5) ?hd (cs := #[.int .i64 a1493, .int .i64 a1494, .int .i64 a1495]) (t := 134) ?hr ?_; (case hd => rfl); (case hg => rfl); (case hr => first | (go_simp; done) | (go_simp; rfl)); intro g1540 hg w1541 hbox hb; replace HS : Aside0 (Sep FF w [b8 g1499 g1501, b7 g1501 g1503 a1511 a1512 a1513 a1514, b6 g1503 A1506 l1505.length n1508 a1510, r5 A1506 l1505.length n1508 l1505, b9 g1516 a1517, b10 g1540 a1493 a1494 a1495] w1541) := ⟨HS.out.box hg hbox hb⟩; clear hg hbox hb))
  refine start_ (n := 8) (S := (fun w' => w'.cell? ⟨g1499, 0, none⟩ = some (.pointer (some ⟨g1501, 0, none⟩)) ∧ w'.cell? ⟨g1516, 0, none⟩ = some (.int .i64 a1517) ∧ w'.cell? ⟨g1540, 0, none⟩ = some (.int .i64 a1493))) (ds := []) #[false, false, false, false, false, false, false, false] (by kernel_rfl) rfl rfl (⟨blk_cellv ((HS.out.drew).at0) 0 rfl, blk_cellv ((HS.out.drew).at4) 0 rfl, blk_cellv ((HS.out.drew).at5) 0 rfl⟩) (fun hHeld => ?_)
  have HS_ := Aside0.mk HS.out.drew
  clear HS
  generalize World.drew _ = w1544 at HS_ hHeld ⊢
  have HS := HS_
  clear HS_
  refine pure_ (i := 3) (N := some 11) (v := ?_) (a' := ?_) #[false, false, false, true, false, false, false, false] rfl rfl (by kernel_rfl) (fun _ _ _ h => h) (Or.inl ⟨by rfl, ?_⟩) ?_ ?_
  rotate_left
  · intro w'
    go_simp
    with_reducible rfl
  rotate_left
  · simp only [Act.put, List.setIfInBounds_toArray, List.set_cons_zero, List.set_cons_succ, i64_w, i32_w]
    rfl
  refine take_ (i := 0) (N := some 8) (v := ?_) (a' := ?_) #[true, false, false, true, false, false, false, false] rfl rfl (by kernel_rfl) (fun _ _ _ h => h) (Or.inl ⟨by rfl, ?_⟩) hHeld ?_ ?_
  rotate_left
  · rintro w' hS'
    obtain ⟨s0, s1, s2⟩ := hS'
    go_simp
    with_reducible rfl
  rotate_left
  · simp only [Act.put, List.setIfInBounds_toArray, List.set_cons_zero, List.set_cons_succ, i64_w, i32_w]
    rfl
  refine take_ (i := 1) (N := some 9) (v := ?_) (a' := ?_) #[true, true, false, true, false, false, false, false] rfl rfl (by kernel_rfl) (fun _ _ _ h => h) (Or.inl ⟨by rfl, ?_⟩) hHeld ?_ ?_
  rotate_left
  · rintro w' hS'
    obtain ⟨s0, s1, s2⟩ := hS'
    go_simp
    with_reducible rfl
  rotate_left
  · simp only [Act.put, List.setIfInBounds_toArray, List.set_cons_zero, List.set_cons_succ, i64_w, i32_w]
    rfl
  refine take_ (i := 2) (N := some 10) (v := ?_) (a' := ?_) #[true, true, true, true, false, false, false, false] rfl rfl (by kernel_rfl) (fun _ _ _ h => h) (Or.inl ⟨by rfl, ?_⟩) hHeld ?_ ?_
  rotate_left
  · rintro w' hS'
    obtain ⟨s0, s1, s2⟩ := hS'
    go_simp
    with_reducible rfl
  rotate_left
  · simp only [Act.put, List.setIfInBounds_toArray, List.set_cons_zero, List.set_cons_succ, i64_w, i32_w]
    rfl
  refine take_ (i := 4) (N := some 12) (v := ?_) (a' := ?_) #[true, true, true, true, true, false, false, false] rfl rfl (by kernel_rfl) (fun _ _ _ h => h) (Or.inl ⟨by rfl, ?_⟩) hHeld ?_ ?_
  rotate_left
  · rintro w' hS'
    obtain ⟨s0, s1, s2⟩ := hS'
    go_simp
    with_reducible rfl
  rotate_left
  · simp only [Act.put, List.setIfInBounds_toArray, List.set_cons_zero, List.set_cons_succ, i64_w, i32_w]
    rfl
  refine one_ (i := 5) (N := some 13) #[true, true, true, true, true, true, false, false] rfl rfl (by kernel_rfl) (by decide) (fun K hK => ?_)
  replace HS : Aside0 (Sep FF w [r5 A1506 l1505.length n1508 l1505, b8 g1499 g1501, b7 g1501 g1503 a1511 a1512 a1513 a1514, b6 g1503 A1506 l1505.length n1508 a1510, b9 g1516 a1517, b10 g1540 a1493 a1494 a1495] w1544) := ⟨HS.out.front 3 (by simp)⟩
  replace HS : Aside0 (Sep FF w [b6 g1503 A1506 l1505.length n1508 a1510, r5 A1506 l1505.length n1508 l1505, b8 g1499 g1501, b7 g1501 g1503 a1511 a1512 a1513 a1514, b9 g1516 a1517, b10 g1540 a1493 a1494 a1495] w1544) := ⟨HS.out.front 3 (by simp)⟩
  replace HS : Aside0 (Sep FF w [b7 g1501 g1503 a1511 a1512 a1513 a1514, b6 g1503 A1506 l1505.length n1508 a1510, r5 A1506 l1505.length n1508 l1505, b8 g1499 g1501, b9 g1516 a1517, b10 g1540 a1493 a1494 a1495] w1544) := ⟨HS.out.front 3 (by simp)⟩
  obtain ⟨t1545, HA1546, H⟩ := bind_some H
  refine goes_ Try.func36 (by kernel_rfl) rfl #[.pointer (some ⟨g1501, 0, none⟩), .int .i64 a1493] (by rfl) rfl rfl (by (try simp only [List.map_toArray, List.map_cons, List.map_nil]); first | done | rfl) ?_
  refine (ground_Ground_Reg.calls l1505 a1510 a1511 a1512 a1513 a1514 a1493 g1501 g1503 A1506 l1505.length n1508 t1545 _ ⟨HS.out.begin⟩ HA1546).mono ?_
  rintro e_ w1547 ⟨rfl, hS⟩
  replace HS : Aside0 (Sep FF w [b7 g1501 g1503 a1511 a1512 a1513 a1514, b6 g1503 A1506 l1505.length n1508 t1545.2, r5 A1506 l1505.length n1508 l1505, b8 g1499 g1501, b9 g1516 a1517, b10 g1540 a1493 a1494 a1495] w1547) := ⟨HS.out.call hS⟩
  clear hS
  refine ⟨_, rfl, ?_⟩
  refine hK.out _ _ (⟨blk_cellv (HS.out.at3) 0 rfl, blk_cellv (HS.out.at4) 0 rfl, blk_cellv (HS.out.at5) 0 rfl⟩) (fun hHeld => ?_)
  clear hK K
  refine norm_ (a' := ?_) ?_ ?_
  rotate_left
  · show Act.put _ (some 13) _ = _
    simp only [Act.put, List.setIfInBounds_toArray, List.set_cons_zero, List.set_cons_succ, i64_w, i32_w]
    rfl
  refine pure_ (i := 6) (N := some 14) (v := ?_) (a' := ?_) #[true, true, true, true, true, true, true, false] rfl rfl (by kernel_rfl) (fun _ _ _ h => h) (Or.inl ⟨by rfl, ?_⟩) ?_ ?_
  rotate_left
  · intro w'
    go_simp
    with_reducible rfl
  rotate_left
  · simp only [Act.put, List.setIfInBounds_toArray, List.set_cons_zero, List.set_cons_succ, i64_w, i32_w]
    rfl
  refine one_ (i := 7) (N := some 15) #[true, true, true, true, true, true, true, true] rfl rfl (by kernel_rfl) (by decide) (fun K hK => ?_)
  obtain ⟨t1548, HA1549, H⟩ := bind_some H
  refine goes_ Try.func46 (by kernel_rfl) rfl #[.pointer (some ⟨g1501, 0, none⟩), .int .i64 a1517, .int .i64 5, .int .u32 ((t1545.1) % 4294967296)] (by rfl) rfl rfl (by (try simp only [List.map_toArray, List.map_cons, List.map_nil]); first | done | rfl) ?_
  refine (ground_Ground_SetWord.calls l1505 t1545.2 a1511 a1512 a1513 a1514 a1517 5 ((t1545.1) % 4294967296) g1501 g1503 A1506 l1505.length n1508 t1548 _ ⟨HS.out.begin⟩ HA1549).mono ?_
  rintro e_ w1550 ⟨rfl, hS⟩
  replace HS : Aside0 (Sep FF w [b7 g1501 g1503 a1511 a1512 a1513 a1514, b6 g1503 A1506 l1505.length n1508 t1548.2.1, r5 A1506 l1505.length n1508 t1548.2.2, b8 g1499 g1501, b9 g1516 a1517, b10 g1540 a1493 a1494 a1495] w1550) := ⟨HS.out.call hS⟩
  clear hS
  refine ⟨_, rfl, ?_⟩
  refine hK.out _ _ (⟨blk_cellv (HS.out.at3) 0 rfl, blk_cellv (HS.out.at4) 0 rfl, blk_cellv (HS.out.at5) 0 rfl⟩) (fun hHeld => ?_)
  clear hK K
  refine norm_ (a' := ?_) ?_ ?_
  rotate_left
  · show Act.put _ (some 15) _ = _
    simp only [Act.put, List.setIfInBounds_toArray, List.set_cons_zero, List.set_cons_succ, i64_w, i32_w]
    rfl
  refine done_ (by kernel_rfl) ?_
  have hc1551 : w1550.cell? ⟨g1499, 0, none⟩ = some (.pointer (some ⟨g1501, 0, none⟩)) := blk_cellv (HS.out.at3) 0 rfl
  have hc1552 : w1550.cell? ⟨g1540, 0, none⟩ = some (.int .i64 a1493) := blk_cellv (HS.out.at5) 0 rfl
  go_wp2_with fail
  clear hc1551 hc1552
  obtain ⟨t1553, HA1554, H⟩ := bind_some H
  refine (ground_Ground_SetReg.calls t1548.2.2 t1548.2.1 a1511 a1512 a1513 a1514 a1493 a1496 g1501 g1503 A1506 l1505.length n1508 t1553 _ ⟨HS.out.begin⟩ HA1554).mono ?_
  rintro e_ w1555 ⟨rfl, hS⟩
  replace HS : Aside0 (Sep FF w [b7 g1501 g1503 a1511 a1512 a1513 a1514, b6 g1503 A1506 l1505.length n1508 t1553.2.1, r5 A1506 l1505.length n1508 t1553.2.2, b8 g1499 g1501, b9 g1516 a1517, b10 g1540 a1493 a1494 a1495] w1555) := ⟨HS.out.call hS⟩
  clear hS
  by_cases c1556 : a1497 = 0
  · have H := if_yes c1556 H
    have c1556b0 : (a1497 == 0) = true := beq_iff_eq.mpr c1556
    have c1556b1 : (a1497 != 0) = false := bne_eq_false_iff_eq.mpr c1556
    clear c1556
    have hc1557 : w1555.cell? ⟨g1499, 0, none⟩ = some (.pointer (some ⟨g1501, 0, none⟩)) := blk_cellv (HS.out.at3) 0 rfl
    have hc1558 : w1555.cell? ⟨g1540, 1, none⟩ = some (.int .i64 a1494) := blk_cellv (HS.out.at5) 1 rfl
    go_wp2_with fail
    clear hc1557 hc1558
    obtain ⟨t1559, HA1560, H⟩ := bind_some H
    refine (ground_Ground_SetReg.calls t1553.2.2 t1553.2.1 a1511 a1512 a1513 a1514 a1494 a1496 g1501 g1503 A1506 l1505.length n1508 t1559 _ ⟨HS.out.begin⟩ HA1560).mono ?_
    rintro e_ w1561 ⟨rfl, hS⟩
    replace HS : Aside0 (Sep FF w [b7 g1501 g1503 a1511 a1512 a1513 a1514, b6 g1503 A1506 l1505.length n1508 t1559.2.1, r5 A1506 l1505.length n1508 t1559.2.2, b8 g1499 g1501, b9 g1516 a1517, b10 g1540 a1493 a1494 a1495] w1561) := ⟨HS.out.call hS⟩
    clear hS
    replace HS : Aside0 (Sep FF w [b7 g1501 g1503 a1511 a1512 a1513 a1514, b6 g1503 A1506 l1505.length n1508 t1559.2.1, r5 A1506 l1505.length n1508 t1559.2.2, b8 g1499 g1501, b9 g1516 a1517] w1561) := ⟨HS.out.sub (.cons_cons _ (.cons_cons _ (.cons_cons _ (.cons_cons _ (.cons_cons _ (.cons _ .slnil))))))⟩
    go_wp2_with fail
    first | go_end0 | refine bodyPost_ret (results_none rfl _ _ _) rfl ?_
    rw [← some_eq H]
    exact ⟨rfl, ((((((HS.out).front 4 (by simp)).front 3 (by simp)).front 3 (by simp)).front 3 (by simp)).front 4 (by simp)).keep (l := [b8 g1499 g1501, b7 g1501 g1503 a1511 a1512 a1513 a1514, b6 g1503 A1506 l1505.length n1508 t1559.2.1, r5 A1506 l1505.length n1508 t1559.2.2, b9 g1516 a1517]) (rest := [])⟩
  · have H := if_no c1556 H
    have c1556b0 : (a1497 == 0) = false := beq_eq_false_iff_ne.mpr c1556
    have c1556b1 : (a1497 != 0) = true := bne_iff_ne.mpr c1556
    clear c1556
    go_wp2_with fail
    first | go_end0 | refine bodyPost_ret (results_none rfl _ _ _) rfl ?_
    rw [← some_eq H]
    exact ⟨rfl, ((((((HS.out).front 4 (by simp)).front 3 (by simp)).front 3 (by simp)).front 3 (by simp)).front 4 (by simp)).keep (l := [b8 g1499 g1501, b7 g1501 g1503 a1511 a1512 a1513 a1514, b6 g1503 A1506 l1505.length n1508 t1553.2.1, r5 A1506 l1505.length n1508 t1553.2.2, b9 g1516 a1517]) (rest := [b10 g1540 a1493 a1494 a1495])⟩

set_option maxHeartbeats 30000000 in
set_option maxRecDepth 100000 in
theorem chain_put_F90.calls (l1449 : List Int) (a1454 : Int) (a1455 : Int) (a1456 : Int) (a1457 : Int) (a1458 : Int) (a1459 : Int) (a1460 : Int) (a1465 : Int) (g1445 : Nat) (g1447 : Nat) (A1450 : Option Addr) (m1451 : Nat) (n1452 : Nat) (g1462 : Nat) (g1464 : Nat) (r : Bool × Int × List Int) (w : World)   (HS : Aside0 (Sep (fps [b7 g1445 g1447 a1455 a1456 a1457 a1458, b6 g1447 A1450 m1451 n1452 a1454, r5 A1450 m1451 n1452 l1449, b8 g1462 g1445, b9 g1464 a1465]) w [b7 g1445 g1447 a1455 a1456 a1457 a1458, b6 g1447 A1450 m1451 n1452 a1454, r5 A1450 m1451 n1452 l1449, b8 g1462 g1445, b9 g1464 a1465] w)) (H : Aside0 (chain_put_F90.f l1449 a1454 a1455 a1456 a1457 a1458 a1459 a1460 a1465 = some r)) :
    Calls Try.prog 88 #[.pointer (some ⟨g1445, 0, none⟩), .int .i64 a1459, .int .i64 a1460, .func (.func 90) #[] #[.pointer (some ⟨g1462, 0, none⟩), .pointer (some ⟨g1464, 0, none⟩)]] w fun e w' => e = .returned (.bool r.1) ∧ Sep (fps [b7 g1445 g1447 a1455 a1456 a1457 a1458, b6 g1447 A1450 m1451 n1452 a1454, r5 A1450 m1451 n1452 l1449, b8 g1462 g1445, b9 g1464 a1465]) w [b7 g1445 g1447 a1455 a1456 a1457 a1458, b6 g1447 A1450 m1451 n1452 r.2.1, r5 A1450 m1451 n1452 r.2.2, b8 g1462 g1445, b9 g1464 a1465] w' := by
  generalize (fps [b7 g1445 g1447 a1455 a1456 a1457 a1458, b6 g1447 A1450 m1451 n1452 a1454, r5 A1450 m1451 n1452 l1449, b8 g1462 g1445, b9 g1464 a1465]) = FF at HS ⊢
  obtain rfl := (row_len (HS.out.at2)).symm
  unfold chain_put_F90.f at H
  go_enter Try.func88, Try.ntmps88
  go_wp2_with fail
  obtain ⟨t1569, HA1570, H⟩ := bind_some H
  refine (chain_of.calls l1449 a1454 a1455 a1456 a1457 a1458 a1459 g1445 g1447 A1450 l1449.length n1452 t1569 _ ⟨HS.out.begin⟩ HA1570).mono ?_
  rintro e_ w1571 ⟨rfl, hS⟩
  replace HS : Aside0 (Sep FF w [b7 g1445 g1447 a1455 a1456 a1457 a1458, b6 g1447 A1450 l1449.length n1452 a1454, r5 A1450 l1449.length n1452 l1449, b8 g1462 g1445, b9 g1464 a1465] w1571) := ⟨HS.out.call hS⟩
  clear hS
  by_cases c1582 : t1569.2.2.2 = true
  · have H := if_yes c1582 H
    have c1582b0 : t1569.2.2.2 = true := c1582
    have c1582b1 : (!t1569.2.2.2) = false := by rw [c1582b0]; rfl
    try rw [c1582b1]
    clear c1582
    by_cases c1583 : a1460 < 0
    · have H := if_yes c1583 H
      have c1583b0 : decide (a1460 < 0) = true := decide_eq_true c1583
      clear c1583
      go_wp2_with (first | ((with_reducible refine gate_dst (N := 9) rfl ?_); refine box_on ?hg (N := 9) ?hd (cs := #[.int .i64 0, .int .i64 0, .int .i64 0]) (t := 134) ?hr ?_; (case hd => rfl); (case hg => rfl); (case hr => first | (go_simp; done) | (go_simp; rfl)); intro g1572 hg w1573 hbox hb; replace HS : Aside0 (Sep FF w [b7 g1445 g1447 a1455 a1456 a1457 a1458, b6 g1447 A1450 l1449.length n1452 a1454, r5 A1450 l1449.length n1452 l1449, b8 g1462 g1445, b9 g1464 a1465, b10 g1572 0 0 0] w1573) := ⟨HS.out.box hg hbox hb⟩; clear hg hbox hb; have hc1575 : w1573.cell? ⟨g1572, 0, none⟩ = some (.int .i64 0) := blk_cellv (HS.out.at5) 0 rfl; have hz1576 : w1573.frozen? ⟨g1572, 0, none⟩ = false := blk_fz (HS.out.at5) 0; have hc1577 : w1573.cell? ⟨g1572, 1, none⟩ = some (.int .i64 0) := blk_cellv (HS.out.at5) 1 rfl; have hz1578 : w1573.frozen? ⟨g1572, 1, none⟩ = false := blk_fz (HS.out.at5) 1; have hc1579 : w1573.cell? ⟨g1572, 2, none⟩ = some (.int .i64 0) := blk_cellv (HS.out.at5) 2 rfl; have hz1580 : w1573.frozen? ⟨g1572, 2, none⟩ = false := blk_fz (HS.out.at5) 2) | ((with_reducible refine gate_store (t := 134) (p := 9) rfl ?_); refine store_event (w1 := (World.setCell (World.setCell (World.setCell w1573 ⟨g1572, 0, none⟩ (.int .i64 t1569.1)) ⟨g1572, 1, none⟩ (.int .i64 t1569.2.1)) ⟨g1572, 2, none⟩ (.int .i64 t1569.2.2.1))) rfl (t := 134) (p := 9) rfl rfl ?hr ?_; (case hr => first | (go_simp; done) | (go_simp; rfl)); intro w1581 hst; clear hc1575 hz1576 hc1577 hz1578 hc1579 hz1580; replace HS : Aside0 (Sep FF w [b7 g1445 g1447 a1455 a1456 a1457 a1458, b6 g1447 A1450 l1449.length n1452 a1454, r5 A1450 l1449.length n1452 l1449, b8 g1462 g1445, b9 g1464 a1465, b10 g1572 t1569.1 t1569.2.1 t1569.2.2.1] w1581) := ⟨by rw [hst]; exact HS.out.setAll (l1 := [b7 g1445 g1447 a1455 a1456 a1457 a1458, b6 g1447 A1450 l1449.length n1452 a1454, r5 A1450 l1449.length n1452 l1449, b8 g1462 g1445, b9 g1464 a1465]) (l2 := []) [.int .i64 t1569.1, .int .i64 t1569.2.1, .int .i64 t1569.2.2.1] rfl⟩; clear hst; replace HS : Aside0 (Sep FF w [b7 g1445 g1447 a1455 a1456 a1457 a1458, b6 g1447 A1450 l1449.length n1452 a1454, r5 A1450 l1449.length n1452 l1449, b8 g1462 g1445, b9 g1464 a1465] w1581) := ⟨HS.out.sub (.cons_cons _ (.cons_cons _ (.cons_cons _ (.cons_cons _ (.cons_cons _ (.cons _ .slnil))))))⟩))
      go_ret
      rw [← some_eq H]
      exact ⟨(by first | rfl | (simp [IntKind.wrap_u32]; done)), HS.out⟩
    · have H := if_no c1583 H
      have c1583b0 : decide (a1460 < 0) = false := decide_eq_false c1583
      clear c1583
      go_wp2_with (first | ((with_reducible refine gate_dst (N := 9) rfl ?_); refine box_on ?hg (N := 9) ?hd (cs := #[.int .i64 0, .int .i64 0, .int .i64 0]) (t := 134) ?hr ?_; (case hd => rfl); (case hg => rfl); (case hr => first | (go_simp; done) | (go_simp; rfl)); intro g1572 hg w1573 hbox hb; replace HS : Aside0 (Sep FF w [b7 g1445 g1447 a1455 a1456 a1457 a1458, b6 g1447 A1450 l1449.length n1452 a1454, r5 A1450 l1449.length n1452 l1449, b8 g1462 g1445, b9 g1464 a1465, b10 g1572 0 0 0] w1573) := ⟨HS.out.box hg hbox hb⟩; clear hg hbox hb; have hc1575 : w1573.cell? ⟨g1572, 0, none⟩ = some (.int .i64 0) := blk_cellv (HS.out.at5) 0 rfl; have hz1576 : w1573.frozen? ⟨g1572, 0, none⟩ = false := blk_fz (HS.out.at5) 0; have hc1577 : w1573.cell? ⟨g1572, 1, none⟩ = some (.int .i64 0) := blk_cellv (HS.out.at5) 1 rfl; have hz1578 : w1573.frozen? ⟨g1572, 1, none⟩ = false := blk_fz (HS.out.at5) 1; have hc1579 : w1573.cell? ⟨g1572, 2, none⟩ = some (.int .i64 0) := blk_cellv (HS.out.at5) 2 rfl; have hz1580 : w1573.frozen? ⟨g1572, 2, none⟩ = false := blk_fz (HS.out.at5) 2) | ((with_reducible refine gate_store (t := 134) (p := 9) rfl ?_); refine store_event (w1 := (World.setCell (World.setCell (World.setCell w1573 ⟨g1572, 0, none⟩ (.int .i64 t1569.1)) ⟨g1572, 1, none⟩ (.int .i64 t1569.2.1)) ⟨g1572, 2, none⟩ (.int .i64 t1569.2.2.1))) rfl (t := 134) (p := 9) rfl rfl ?hr ?_; (case hr => first | (go_simp; done) | (go_simp; rfl)); intro w1581 hst; clear hc1575 hz1576 hc1577 hz1578 hc1579 hz1580; replace HS : Aside0 (Sep FF w [b7 g1445 g1447 a1455 a1456 a1457 a1458, b6 g1447 A1450 l1449.length n1452 a1454, r5 A1450 l1449.length n1452 l1449, b8 g1462 g1445, b9 g1464 a1465, b10 g1572 t1569.1 t1569.2.1 t1569.2.2.1] w1581) := ⟨by rw [hst]; exact HS.out.setAll (l1 := [b7 g1445 g1447 a1455 a1456 a1457 a1458, b6 g1447 A1450 l1449.length n1452 a1454, r5 A1450 l1449.length n1452 l1449, b8 g1462 g1445, b9 g1464 a1465]) (l2 := []) [.int .i64 t1569.1, .int .i64 t1569.2.1, .int .i64 t1569.2.2.1] rfl⟩; clear hst))
      obtain ⟨t1584, HA1585, H⟩ := bind_some H
      refine (ground_Ground_Conf.calls l1449 a1454 a1455 a1456 a1457 a1458 g1445 g1447 A1450 l1449.length n1452 t1584 _ ⟨HS.out.begin⟩ HA1585).mono ?_
      rintro e_ w1586 ⟨rfl, hS⟩
      replace HS : Aside0 (Sep FF w [b7 g1445 g1447 a1455 a1456 a1457 a1458, b6 g1447 A1450 l1449.length n1452 a1454, r5 A1450 l1449.length n1452 l1449, b8 g1462 g1445, b9 g1464 a1465, b10 g1572 t1569.1 t1569.2.1 t1569.2.2.1] w1586) := ⟨HS.out.call hS⟩
      clear hS
      by_cases c1588 : a1460 ≥ t1584.1
      · have H := if_yes c1588 H
        have c1588b0 : decide (t1584.1 ≤ a1460) = true := decide_eq_true c1588
        clear c1588
        have fl1587 : ∀ w, (Instr.field 49 (.agg #[.int .i64 t1584.1, .int .i64 t1584.2.1, .int .i64 t1584.2.2.1, .int .i64 t1584.2.2.2]) 0).run Try.prog w = .ok (.int .i64 t1584.1) w := fun _ => by kernel_rfl
        replace HS : Aside0 (Sep FF w [b7 g1445 g1447 a1455 a1456 a1457 a1458, b6 g1447 A1450 l1449.length n1452 a1454, r5 A1450 l1449.length n1452 l1449, b8 g1462 g1445, b9 g1464 a1465] w1586) := ⟨HS.out.sub (.cons_cons _ (.cons_cons _ (.cons_cons _ (.cons_cons _ (.cons_cons _ (.cons _ .slnil))))))⟩
        go_wp2_with fail
        clear fl1587
        go_ret
        rw [← some_eq H]
        exact ⟨(by first | rfl | (simp [IntKind.wrap_u32]; done)), HS.out⟩
      · have H := if_no c1588 H
        have c1588b0 : decide (t1584.1 ≤ a1460) = false := decide_eq_false c1588
        clear c1588
        have fl1587 : ∀ w, (Instr.field 49 (.agg #[.int .i64 t1584.1, .int .i64 t1584.2.1, .int .i64 t1584.2.2.1, .int .i64 t1584.2.2.2]) 0).run Try.prog w = .ok (.int .i64 t1584.1) w := fun _ => by kernel_rfl
        have hc1589 : w1586.cell? ⟨g1572, 2, none⟩ = some (.int .i64 t1569.2.2.1) := blk_cellv (HS.out.at5) 2 rfl
        go_wp2_with fail
        clear fl1587 hc1589
        obtain ⟨t1590, HA1591, H⟩ := bind_some H
        refine (ground_Ground_Reg.calls l1449 a1454 a1455 a1456 a1457 a1458 t1569.2.2.1 g1445 g1447 A1450 l1449.length n1452 t1590 _ ⟨HS.out.begin⟩ HA1591).mono ?_
        rintro e_ w1592 ⟨rfl, hS⟩
        replace HS : Aside0 (Sep FF w [b7 g1445 g1447 a1455 a1456 a1457 a1458, b6 g1447 A1450 l1449.length n1452 t1590.2, r5 A1450 l1449.length n1452 l1449, b8 g1462 g1445, b9 g1464 a1465, b10 g1572 t1569.1 t1569.2.1 t1569.2.2.1] w1592) := ⟨HS.out.call hS⟩
        clear hS
        have hc1593 : w1592.cell? ⟨g1572, 0, none⟩ = some (.int .i64 t1569.1) := blk_cellv (HS.out.at5) 0 rfl
        have hc1594 : w1592.cell? ⟨g1572, 1, none⟩ = some (.int .i64 t1569.2.1) := blk_cellv (HS.out.at5) 1 rfl
        have hc1595 : w1592.cell? ⟨g1572, 2, none⟩ = some (.int .i64 t1569.2.2.1) := blk_cellv (HS.out.at5) 2 rfl
        go_wp2_with fail
        clear hc1593 hc1594 hc1595
        replace HS : Aside0 (Sep FF w [b9 g1464 a1465, b7 g1445 g1447 a1455 a1456 a1457 a1458, b6 g1447 A1450 l1449.length n1452 t1590.2, r5 A1450 l1449.length n1452 l1449, b8 g1462 g1445, b10 g1572 t1569.1 t1569.2.1 t1569.2.2.1] w1592) := ⟨HS.out.front 4 (by simp)⟩
        replace HS : Aside0 (Sep FF w [r5 A1450 l1449.length n1452 l1449, b9 g1464 a1465, b7 g1445 g1447 a1455 a1456 a1457 a1458, b6 g1447 A1450 l1449.length n1452 t1590.2, b8 g1462 g1445, b10 g1572 t1569.1 t1569.2.1 t1569.2.2.1] w1592) := ⟨HS.out.front 3 (by simp)⟩
        replace HS : Aside0 (Sep FF w [b6 g1447 A1450 l1449.length n1452 t1590.2, r5 A1450 l1449.length n1452 l1449, b9 g1464 a1465, b7 g1445 g1447 a1455 a1456 a1457 a1458, b8 g1462 g1445, b10 g1572 t1569.1 t1569.2.1 t1569.2.2.1] w1592) := ⟨HS.out.front 3 (by simp)⟩
        replace HS : Aside0 (Sep FF w [b7 g1445 g1447 a1455 a1456 a1457 a1458, b6 g1447 A1450 l1449.length n1452 t1590.2, r5 A1450 l1449.length n1452 l1449, b9 g1464 a1465, b8 g1462 g1445, b10 g1572 t1569.1 t1569.2.1 t1569.2.2.1] w1592) := ⟨HS.out.front 3 (by simp)⟩
        replace HS : Aside0 (Sep FF w [b8 g1462 g1445, b7 g1445 g1447 a1455 a1456 a1457 a1458, b6 g1447 A1450 l1449.length n1452 t1590.2, r5 A1450 l1449.length n1452 l1449, b9 g1464 a1465, b10 g1572 t1569.1 t1569.2.1 t1569.2.2.1] w1592) := ⟨HS.out.front 4 (by simp)⟩
        obtain ⟨t1596, HA1597, H⟩ := bind_some H
        refine (chain_Push_1.calls t1569.1 t1569.2.1 t1569.2.2.1 (wrap64 (a1460 + 1)) t1590.1 l1449 t1590.2 a1455 a1456 a1457 a1458 a1465 g1462 g1445 g1447 A1450 l1449.length n1452 g1464 t1596 _ ⟨HS.out.begin⟩ HA1597).mono ?_
        rintro e_ w1598 ⟨rfl, hS⟩
        replace HS : Aside0 (Sep FF w [b8 g1462 g1445, b7 g1445 g1447 a1455 a1456 a1457 a1458, b6 g1447 A1450 l1449.length n1452 t1596.1, r5 A1450 l1449.length n1452 t1596.2, b9 g1464 a1465, b10 g1572 t1569.1 t1569.2.1 t1569.2.2.1] w1598) := ⟨HS.out.call hS⟩
        clear hS
        have hc1599 : w1598.cell? ⟨g1572, 2, none⟩ = some (.int .i64 t1569.2.2.1) := blk_cellv (HS.out.at5) 2 rfl
        go_wp2_with fail
        clear hc1599
        replace HS : Aside0 (Sep FF w [r5 A1450 l1449.length n1452 t1596.2, b8 g1462 g1445, b7 g1445 g1447 a1455 a1456 a1457 a1458, b6 g1447 A1450 l1449.length n1452 t1596.1, b9 g1464 a1465, b10 g1572 t1569.1 t1569.2.1 t1569.2.2.1] w1598) := ⟨HS.out.front 3 (by simp)⟩
        replace HS : Aside0 (Sep FF w [b6 g1447 A1450 l1449.length n1452 t1596.1, r5 A1450 l1449.length n1452 t1596.2, b8 g1462 g1445, b7 g1445 g1447 a1455 a1456 a1457 a1458, b9 g1464 a1465, b10 g1572 t1569.1 t1569.2.1 t1569.2.2.1] w1598) := ⟨HS.out.front 3 (by simp)⟩
        replace HS : Aside0 (Sep FF w [b7 g1445 g1447 a1455 a1456 a1457 a1458, b6 g1447 A1450 l1449.length n1452 t1596.1, r5 A1450 l1449.length n1452 t1596.2, b8 g1462 g1445, b9 g1464 a1465, b10 g1572 t1569.1 t1569.2.1 t1569.2.2.1] w1598) := ⟨HS.out.front 3 (by simp)⟩
        obtain ⟨t1600, HA1601, H⟩ := bind_some H
        refine (ground_Ground_SetReg.calls t1596.2 t1596.1 a1455 a1456 a1457 a1458 t1569.2.2.1 (wrap64 (t1590.1 + 1)) g1445 g1447 A1450 l1449.length n1452 t1600 _ ⟨HS.out.begin⟩ HA1601).mono ?_
        rintro e_ w1602 ⟨rfl, hS⟩
        replace HS : Aside0 (Sep FF w [b7 g1445 g1447 a1455 a1456 a1457 a1458, b6 g1447 A1450 l1449.length n1452 t1600.2.1, r5 A1450 l1449.length n1452 t1600.2.2, b8 g1462 g1445, b9 g1464 a1465, b10 g1572 t1569.1 t1569.2.1 t1569.2.2.1] w1602) := ⟨HS.out.call hS⟩
        clear hS
        replace HS : Aside0 (Sep FF w [b7 g1445 g1447 a1455 a1456 a1457 a1458, b6 g1447 A1450 l1449.length n1452 t1600.2.1, r5 A1450 l1449.length n1452 t1600.2.2, b8 g1462 g1445, b9 g1464 a1465] w1602) := ⟨HS.out.sub (.cons_cons _ (.cons_cons _ (.cons_cons _ (.cons_cons _ (.cons_cons _ (.cons _ .slnil))))))⟩
        go_wp2_with fail
        go_ret
        rw [← some_eq H]
        exact ⟨(by first | rfl | (simp [IntKind.wrap_u32]; done)), HS.out⟩
  · have H := if_no c1582 H
    have c1582b0 : t1569.2.2.2 = false := by simpa using c1582
    have c1582b1 : (!t1569.2.2.2) = true := by rw [c1582b0]; rfl
    try rw [c1582b1]
    clear c1582
    go_wp2_with (first | ((with_reducible refine gate_dst (N := 9) rfl ?_); refine box_on ?hg (N := 9) ?hd (cs := #[.int .i64 0, .int .i64 0, .int .i64 0]) (t := 134) ?hr ?_; (case hd => rfl); (case hg => rfl); (case hr => first | (go_simp; done) | (go_simp; rfl)); intro g1572 hg w1573 hbox hb; replace HS : Aside0 (Sep FF w [b7 g1445 g1447 a1455 a1456 a1457 a1458, b6 g1447 A1450 l1449.length n1452 a1454, r5 A1450 l1449.length n1452 l1449, b8 g1462 g1445, b9 g1464 a1465, b10 g1572 0 0 0] w1573) := ⟨HS.out.box hg hbox hb⟩; clear hg hbox hb; have hc1575 : w1573.cell? ⟨g1572, 0, none⟩ = some (.int .i64 0) := blk_cellv (HS.out.at5) 0 rfl; have hz1576 : w1573.frozen? ⟨g1572, 0, none⟩ = false := blk_fz (HS.out.at5) 0; have hc1577 : w1573.cell? ⟨g1572, 1, none⟩ = some (.int .i64 0) := blk_cellv (HS.out.at5) 1 rfl; have hz1578 : w1573.frozen? ⟨g1572, 1, none⟩ = false := blk_fz (HS.out.at5) 1; have hc1579 : w1573.cell? ⟨g1572, 2, none⟩ = some (.int .i64 0) := blk_cellv (HS.out.at5) 2 rfl; have hz1580 : w1573.frozen? ⟨g1572, 2, none⟩ = false := blk_fz (HS.out.at5) 2) | ((with_reducible refine gate_store (t := 134) (p := 9) rfl ?_); refine store_event (w1 := (World.setCell (World.setCell (World.setCell w1573 ⟨g1572, 0, none⟩ (.int .i64 t1569.1)) ⟨g1572, 1, none⟩ (.int .i64 t1569.2.1)) ⟨g1572, 2, none⟩ (.int .i64 t1569.2.2.1))) rfl (t := 134) (p := 9) rfl rfl ?hr ?_; (case hr => first | (go_simp; done) | (go_simp; rfl)); intro w1581 hst; clear hc1575 hz1576 hc1577 hz1578 hc1579 hz1580; replace HS : Aside0 (Sep FF w [b7 g1445 g1447 a1455 a1456 a1457 a1458, b6 g1447 A1450 l1449.length n1452 a1454, r5 A1450 l1449.length n1452 l1449, b8 g1462 g1445, b9 g1464 a1465, b10 g1572 t1569.1 t1569.2.1 t1569.2.2.1] w1581) := ⟨by rw [hst]; exact HS.out.setAll (l1 := [b7 g1445 g1447 a1455 a1456 a1457 a1458, b6 g1447 A1450 l1449.length n1452 a1454, r5 A1450 l1449.length n1452 l1449, b8 g1462 g1445, b9 g1464 a1465]) (l2 := []) [.int .i64 t1569.1, .int .i64 t1569.2.1, .int .i64 t1569.2.2.1] rfl⟩; clear hst; replace HS : Aside0 (Sep FF w [b7 g1445 g1447 a1455 a1456 a1457 a1458, b6 g1447 A1450 l1449.length n1452 a1454, r5 A1450 l1449.length n1452 l1449, b8 g1462 g1445, b9 g1464 a1465] w1581) := ⟨HS.out.sub (.cons_cons _ (.cons_cons _ (.cons_cons _ (.cons_cons _ (.cons_cons _ (.cons _ .slnil))))))⟩))
    go_ret
    rw [← some_eq H]
    exact ⟨(by first | rfl | (simp [IntKind.wrap_u32]; done)), HS.out⟩

set_option maxHeartbeats 30000000 in
set_option maxRecDepth 100000 in
theorem chain_Push.calls (l1424 : List Int) (a1429 : Int) (a1430 : Int) (a1431 : Int) (a1432 : Int) (a1433 : Int) (a1434 : Int) (a1435 : Int) (g1420 : Nat) (g1422 : Nat) (A1425 : Option Addr) (m1426 : Nat) (n1427 : Nat) (r : Bool × Int × List Int) (w : World)   (HS : Aside0 (Sep (fps [b7 g1420 g1422 a1430 a1431 a1432 a1433, b6 g1422 A1425 m1426 n1427 a1429, r5 A1425 m1426 n1427 l1424]) w [b7 g1420 g1422 a1430 a1431 a1432 a1433, b6 g1422 A1425 m1426 n1427 a1429, r5 A1425 m1426 n1427 l1424] w)) (H : Aside0 (chain_Push.f l1424 a1429 a1430 a1431 a1432 a1433 a1434 a1435 = some r)) :
    Calls Try.prog 53 #[.pointer (some ⟨g1420, 0, none⟩), .int .i64 a1434, .int .i64 a1435] w fun e w' => e = .returned (.bool r.1) ∧ Sep (fps [b7 g1420 g1422 a1430 a1431 a1432 a1433, b6 g1422 A1425 m1426 n1427 a1429, r5 A1425 m1426 n1427 l1424]) w [b7 g1420 g1422 a1430 a1431 a1432 a1433, b6 g1422 A1425 m1426 n1427 r.2.1, r5 A1425 m1426 n1427 r.2.2] w' := by
  generalize (fps [b7 g1420 g1422 a1430 a1431 a1432 a1433, b6 g1422 A1425 m1426 n1427 a1429, r5 A1425 m1426 n1427 l1424]) = FF at HS ⊢
  obtain rfl := (row_len (HS.out.at2)).symm
  unfold chain_Push.f at H
  go_enter Try.func53, Try.ntmps53
  go_wp2_with (first | ((with_reducible refine gate_dst (N := 3) rfl ?_); refine box_on ?hg (N := 3) ?hd (cs := #[.pointer (some ⟨g1420, 0, none⟩)]) (t := 50) ?hr ?_; (case hd => rfl); (case hg => rfl); (case hr => first | (go_simp; done) | (go_simp; rfl)); intro g1606 hg w1607 hbox hb; replace HS : Aside0 (Sep FF w [b7 g1420 g1422 a1430 a1431 a1432 a1433, b6 g1422 A1425 l1424.length n1427 a1429, r5 A1425 l1424.length n1427 l1424, b8 g1606 g1420] w1607) := ⟨HS.out.box hg hbox hb⟩; clear hg hbox hb) | ((with_reducible refine gate_dst (N := 5) rfl ?_); refine box_on ?hg (N := 5) ?hd (cs := #[.int .i64 a1435]) (t := 3) ?hr ?_; (case hd => rfl); (case hg => rfl); (case hr => first | (go_simp; done) | (go_simp; rfl)); intro g1609 hg w1610 hbox hb; replace HS : Aside0 (Sep FF w [b7 g1420 g1422 a1430 a1431 a1432 a1433, b6 g1422 A1425 l1424.length n1427 a1429, r5 A1425 l1424.length n1427 l1424, b8 g1606 g1420, b9 g1609 a1435] w1610) := ⟨HS.out.box hg hbox hb⟩; clear hg hbox hb; have hc1612 : w1610.cell? ⟨g1606, 0, none⟩ = some (.pointer (some ⟨g1420, 0, none⟩)) := blk_cellv (HS.out.at3) 0 rfl; have hc1613 : w1610.cell? ⟨g1609, 0, none⟩ = some (.int .i64 a1435) := blk_cellv (HS.out.at4) 0 rfl))
  clear hc1612 hc1613
  obtain ⟨t1614, HA1615, H⟩ := bind_some H
  refine (chain_put_F90.calls l1424 a1429 a1430 a1431 a1432 a1433 a1434 a1435 a1435 g1420 g1422 A1425 l1424.length n1427 g1606 g1609 t1614 _ ⟨HS.out.begin⟩ HA1615).mono ?_
  rintro e_ w1616 ⟨rfl, hS⟩
  replace HS : Aside0 (Sep FF w [b7 g1420 g1422 a1430 a1431 a1432 a1433, b6 g1422 A1425 l1424.length n1427 t1614.2.1, r5 A1425 l1424.length n1427 t1614.2.2, b8 g1606 g1420, b9 g1609 a1435] w1616) := ⟨HS.out.call hS⟩
  clear hS
  replace HS : Aside0 (Sep FF w [b7 g1420 g1422 a1430 a1431 a1432 a1433, b6 g1422 A1425 l1424.length n1427 t1614.2.1, r5 A1425 l1424.length n1427 t1614.2.2] w1616) := ⟨HS.out.sub (.cons_cons _ (.cons_cons _ (.cons_cons _ (.cons _ (.cons _ .slnil)))))⟩
  go_wp2_with fail
  go_ret
  rw [← some_eq H]
  exact ⟨(by first | rfl | (simp [IntKind.wrap_u32]; done)), HS.out⟩

set_option maxHeartbeats 30000000 in
set_option maxRecDepth 100000 in
theorem store_Store_Peek.calls (l1677 : List Int) (a1682 : Int) (a1683 : Int) (g1675 : Nat) (A1678 : Option Addr) (m1679 : Nat) (n1680 : Nat) (r : Int) (w : World)   (HS : Aside0 (Sep (fps [b6 g1675 A1678 m1679 n1680 a1682, r5 A1678 m1679 n1680 l1677]) w [b6 g1675 A1678 m1679 n1680 a1682, r5 A1678 m1679 n1680 l1677] w)) (H : Aside0 (store_Store_Peek.f l1677 a1682 a1683 = some r)) :
    Calls Try.prog 20 #[.pointer (some ⟨g1675, 0, none⟩), .int .i64 a1683] w fun e w' => e = .returned (.int .u32 r) ∧ Sep (fps [b6 g1675 A1678 m1679 n1680 a1682, r5 A1678 m1679 n1680 l1677]) w [b6 g1675 A1678 m1679 n1680 a1682, r5 A1678 m1679 n1680 l1677] w' := by
  generalize (fps [b6 g1675 A1678 m1679 n1680 a1682, r5 A1678 m1679 n1680 l1677]) = FF at HS ⊢
  obtain rfl := (row_len (HS.out.at1)).symm
  unfold store_Store_Peek.f at H
  go_enter Try.func20, Try.ntmps20
  go_wp2_with fail
  obtain ⟨t1684, HA1685, H⟩ := bind_some H
  refine (store_Store_has.calls l1677 a1682 a1683 g1675 A1678 l1677.length n1680 t1684 _ ⟨HS.out.begin⟩ HA1685).mono ?_
  rintro e_ w1686 ⟨rfl, hS⟩
  replace HS : Aside0 (Sep FF w [b6 g1675 A1678 l1677.length n1680 a1682, r5 A1678 l1677.length n1680 l1677] w1686) := ⟨HS.out.call hS⟩
  clear hS
  by_cases c1687 : t1684 = true
  · have H := if_yes c1687 H
    have c1687b0 : t1684 = true := c1687
    have c1687b1 : (!t1684) = false := by rw [c1687b0]; rfl
    try rw [c1687b1]
    clear c1687
    by_cases c1689 : 0 ≤ a1683
    · have H := if_yes c1689 H
      have c1689b0 : decide (0 ≤ a1683) = true := decide_eq_true c1689
      have c1689p : (0 ≤ a1683) = True := eq_true c1689
      clear c1689
      by_cases c1690 : a1683 < (l1677.length : Int)
      · have H := if_yes c1690 H
        have c1690b0 : decide (a1683 < (l1677.length : Int)) = true := decide_eq_true c1690
        have c1690p : (a1683 < (l1677.length : Int)) = True := eq_true c1690
        clear c1690
        have hc1688 : w1686.cell? ⟨g1675, 0, none⟩ = some (.slice A1678 l1677.length n1680) := blk_cellv (HS.out.at0) 0 rfl
        obtain ⟨g1691, ea⟩ := row_at (HS.out.at1) (by have := (of_decide_eq_true c1689b0); have := (of_decide_eq_true c1690b0); omega); cases ea
        have hx1692 := C_at_int (row_Ci (HS.out.at1)) a1683 (of_decide_eq_true c1689b0) (of_decide_eq_true c1690b0)
        have hx1693 : w1686.cell? ⟨g1691, (a1683).toNat, none⟩ = some (.int .u32 (rd l1677 a1683)) := (row_get 0 (HS.out.at1) a1683 (of_decide_eq_true c1689b0) (of_decide_eq_true c1690b0)).1
        go_wp2_with fail
        clear hc1688 hx1692 hx1693
        go_ret
        rw [← some_eq H]
        exact ⟨(by first | rfl | (simp [IntKind.wrap_u32]; done)), HS.out⟩
      · have H := if_no c1690 H
        have c1690b0 : decide (a1683 < (l1677.length : Int)) = false := decide_eq_false c1690
        clear c1690
        exact (none_no H).elim
    · have H := if_no c1689 H
      have c1689b0 : decide (0 ≤ a1683) = false := decide_eq_false c1689
      clear c1689
      exact (none_no H).elim
  · have H := if_no c1687 H
    have c1687b0 : t1684 = false := by simpa using c1687
    have c1687b1 : (!t1684) = true := by rw [c1687b0]; rfl
    try rw [c1687b1]
    clear c1687
    go_wp2_with fail
    go_ret
    rw [← some_eq H]
    exact ⟨(by first | rfl | (simp [IntKind.wrap_u32]; done)), HS.out⟩

set_option maxHeartbeats 30000000 in
set_option maxRecDepth 100000 in
theorem ground_Ground_SeeReg.calls (l1657 : List Int) (a1662 : Int) (a1663 : Int) (a1664 : Int) (a1665 : Int) (a1666 : Int) (a1667 : Int) (g1653 : Nat) (g1655 : Nat) (A1658 : Option Addr) (m1659 : Nat) (n1660 : Nat) (r : Int) (w : World)   (HS : Aside0 (Sep (fps [b7 g1653 g1655 a1663 a1664 a1665 a1666, b6 g1655 A1658 m1659 n1660 a1662, r5 A1658 m1659 n1660 l1657]) w [b7 g1653 g1655 a1663 a1664 a1665 a1666, b6 g1655 A1658 m1659 n1660 a1662, r5 A1658 m1659 n1660 l1657] w)) (H : Aside0 (ground_Ground_SeeReg.f l1657 a1662 a1663 a1664 a1665 a1666 a1667 = some r)) :
    Calls Try.prog 48 #[.pointer (some ⟨g1653, 0, none⟩), .int .i64 a1667] w fun e w' => e = .returned (.int .i64 r) ∧ Sep (fps [b7 g1653 g1655 a1663 a1664 a1665 a1666, b6 g1655 A1658 m1659 n1660 a1662, r5 A1658 m1659 n1660 l1657]) w [b7 g1653 g1655 a1663 a1664 a1665 a1666, b6 g1655 A1658 m1659 n1660 a1662, r5 A1658 m1659 n1660 l1657] w' := by
  generalize (fps [b7 g1653 g1655 a1663 a1664 a1665 a1666, b6 g1655 A1658 m1659 n1660 a1662, r5 A1658 m1659 n1660 l1657]) = FF at HS ⊢
  obtain rfl := (row_len (HS.out.at2)).symm
  unfold ground_Ground_SeeReg.f at H
  go_enter Try.func48, Try.ntmps48
  go_wp2_with fail
  obtain ⟨t1668, HA1669, H⟩ := bind_some H
  refine (ground_Ground_all.calls l1657 a1662 a1663 a1664 a1665 a1666 g1653 g1655 A1658 l1657.length n1660 t1668 _ ⟨HS.out.begin⟩ HA1669).mono ?_
  rintro e_ w1670 ⟨rfl, hS⟩
  replace HS : Aside0 (Sep FF w [b7 g1653 g1655 a1663 a1664 a1665 a1666, b6 g1655 A1658 l1657.length n1660 a1662, r5 A1658 l1657.length n1660 l1657] w1670) := ⟨HS.out.call hS⟩
  clear hS
  go_wp2_with fail
  obtain ⟨t1671, HA1672, H⟩ := bind_some H
  refine (ground_reg.calls a1667 t1671 _ ⟨Sep.start _⟩ HA1672).mono ?_
  rintro e_ w1673 ⟨rfl, hS⟩
  replace HS : Aside0 (Sep FF w [b7 g1653 g1655 a1663 a1664 a1665 a1666, b6 g1655 A1658 l1657.length n1660 a1662, r5 A1658 l1657.length n1660 l1657] w1673) := ⟨HS.out.call hS⟩
  clear hS
  go_wp2_with fail
  replace HS : Aside0 (Sep FF w [r5 A1658 l1657.length n1660 l1657, b7 g1653 g1655 a1663 a1664 a1665 a1666, b6 g1655 A1658 l1657.length n1660 a1662] w1673) := ⟨HS.out.front 2 (by simp)⟩
  replace HS : Aside0 (Sep FF w [b6 g1655 A1658 l1657.length n1660 a1662, r5 A1658 l1657.length n1660 l1657, b7 g1653 g1655 a1663 a1664 a1665 a1666] w1673) := ⟨HS.out.front 2 (by simp)⟩
  obtain ⟨t1694, HA1695, H⟩ := bind_some H
  refine (store_Store_Peek.calls l1657 a1662 t1671 g1655 A1658 l1657.length n1660 t1694 _ ⟨HS.out.begin⟩ HA1695).mono ?_
  rintro e_ w1696 ⟨rfl, hS⟩
  replace HS : Aside0 (Sep FF w [b6 g1655 A1658 l1657.length n1660 a1662, r5 A1658 l1657.length n1660 l1657, b7 g1653 g1655 a1663 a1664 a1665 a1666] w1696) := ⟨HS.out.call hS⟩
  clear hS
  go_wp2_with fail
  go_ret
  rw [← some_eq H]
  exact ⟨(by first | rfl | (simp [IntKind.wrap_u32]; done)), ((((HS.out).front 1 (by simp)).front 1 (by simp)).front 2 (by simp)).keep (l := [b7 g1653 g1655 a1663 a1664 a1665 a1666, b6 g1655 A1658 l1657.length n1660 a1662, r5 A1658 l1657.length n1660 l1657]) (rest := [])⟩

set_option maxHeartbeats 30000000 in
set_option maxRecDepth 100000 in
theorem ground_Ground_SeeWord.calls (l1734 : List Int) (a1739 : Int) (a1740 : Int) (a1741 : Int) (a1742 : Int) (a1743 : Int) (a1744 : Int) (a1745 : Int) (g1730 : Nat) (g1732 : Nat) (A1735 : Option Addr) (m1736 : Nat) (n1737 : Nat) (r : Int) (w : World)   (HS : Aside0 (Sep (fps [b7 g1730 g1732 a1740 a1741 a1742 a1743, b6 g1732 A1735 m1736 n1737 a1739, r5 A1735 m1736 n1737 l1734]) w [b7 g1730 g1732 a1740 a1741 a1742 a1743, b6 g1732 A1735 m1736 n1737 a1739, r5 A1735 m1736 n1737 l1734] w)) (H : Aside0 (ground_Ground_SeeWord.f l1734 a1739 a1740 a1741 a1742 a1743 a1744 a1745 = some r)) :
    Calls Try.prog 50 #[.pointer (some ⟨g1730, 0, none⟩), .int .i64 a1744, .int .i64 a1745] w fun e w' => e = .returned (.int .u32 r) ∧ Sep (fps [b7 g1730 g1732 a1740 a1741 a1742 a1743, b6 g1732 A1735 m1736 n1737 a1739, r5 A1735 m1736 n1737 l1734]) w [b7 g1730 g1732 a1740 a1741 a1742 a1743, b6 g1732 A1735 m1736 n1737 a1739, r5 A1735 m1736 n1737 l1734] w' := by
  generalize (fps [b7 g1730 g1732 a1740 a1741 a1742 a1743, b6 g1732 A1735 m1736 n1737 a1739, r5 A1735 m1736 n1737 l1734]) = FF at HS ⊢
  obtain rfl := (row_len (HS.out.at2)).symm
  unfold ground_Ground_SeeWord.f at H
  go_enter Try.func50, Try.ntmps50
  go_wp2_with fail
  obtain ⟨t1746, HA1747, H⟩ := bind_some H
  refine (ground_Ground_all.calls l1734 a1739 a1740 a1741 a1742 a1743 g1730 g1732 A1735 l1734.length n1737 t1746 _ ⟨HS.out.begin⟩ HA1747).mono ?_
  rintro e_ w1748 ⟨rfl, hS⟩
  replace HS : Aside0 (Sep FF w [b7 g1730 g1732 a1740 a1741 a1742 a1743, b6 g1732 A1735 l1734.length n1737 a1739, r5 A1735 l1734.length n1737 l1734] w1748) := ⟨HS.out.call hS⟩
  clear hS
  go_wp2_with fail
  obtain ⟨t1749, HA1750, H⟩ := bind_some H
  refine (ground_Ground_word.calls l1734 a1739 a1740 a1741 a1742 a1743 a1744 a1745 g1730 g1732 A1735 l1734.length n1737 t1749 _ ⟨HS.out.begin⟩ HA1750).mono ?_
  rintro e_ w1751 ⟨rfl, hS⟩
  replace HS : Aside0 (Sep FF w [b7 g1730 g1732 a1740 a1741 a1742 a1743, b6 g1732 A1735 l1734.length n1737 a1739, r5 A1735 l1734.length n1737 l1734] w1751) := ⟨HS.out.call hS⟩
  clear hS
  go_wp2_with fail
  replace HS : Aside0 (Sep FF w [r5 A1735 l1734.length n1737 l1734, b7 g1730 g1732 a1740 a1741 a1742 a1743, b6 g1732 A1735 l1734.length n1737 a1739] w1751) := ⟨HS.out.front 2 (by simp)⟩
  replace HS : Aside0 (Sep FF w [b6 g1732 A1735 l1734.length n1737 a1739, r5 A1735 l1734.length n1737 l1734, b7 g1730 g1732 a1740 a1741 a1742 a1743] w1751) := ⟨HS.out.front 2 (by simp)⟩
  obtain ⟨t1752, HA1753, H⟩ := bind_some H
  refine (store_Store_Peek.calls l1734 a1739 t1749 g1732 A1735 l1734.length n1737 t1752 _ ⟨HS.out.begin⟩ HA1753).mono ?_
  rintro e_ w1754 ⟨rfl, hS⟩
  replace HS : Aside0 (Sep FF w [b6 g1732 A1735 l1734.length n1737 a1739, r5 A1735 l1734.length n1737 l1734, b7 g1730 g1732 a1740 a1741 a1742 a1743] w1754) := ⟨HS.out.call hS⟩
  clear hS
  go_wp2_with fail
  go_ret
  rw [← some_eq H]
  exact ⟨(by first | rfl | (simp [IntKind.wrap_u32]; done)), ((((HS.out).front 1 (by simp)).front 1 (by simp)).front 2 (by simp)).keep (l := [b7 g1730 g1732 a1740 a1741 a1742 a1743, b6 g1732 A1735 l1734.length n1737 a1739, r5 A1735 l1734.length n1737 l1734]) (rest := [])⟩

set_option maxHeartbeats 30000000 in
set_option maxRecDepth 100000 in
theorem chain_List.calls (k : Nat) (l1626 : List Int) (a1631 : Int) (a1632 : Int) (a1633 : Int) (a1634 : Int) (a1635 : Int) (a1636 : Int) (g1622 : Nat) (g1624 : Nat) (A1627 : Option Addr) (m1628 : Nat) (n1629 : Nat) (r : List Int) (w : World)   (HS : Aside0 (Sep (fps [b7 g1622 g1624 a1632 a1633 a1634 a1635, b6 g1624 A1627 m1628 n1629 a1631, r5 A1627 m1628 n1629 l1626]) w [b7 g1622 g1624 a1632 a1633 a1634 a1635, b6 g1624 A1627 m1628 n1629 a1631, r5 A1627 m1628 n1629 l1626] w)) (H : Aside0 (chain_List.f k l1626 a1631 a1632 a1633 a1634 a1635 a1636 = some r)) :
    Calls Try.prog 56 #[.pointer (some ⟨g1622, 0, none⟩), .int .i64 a1636] w fun e w' => ∃ (A1785 : Option Addr) (m1786 : Nat) (n1787 : Nat), e = .returned (.slice A1785 m1786 n1787) ∧ Sep (fps [b7 g1622 g1624 a1632 a1633 a1634 a1635, b6 g1624 A1627 m1628 n1629 a1631, r5 A1627 m1628 n1629 l1626]) w [b7 g1622 g1624 a1632 a1633 a1634 a1635, b6 g1624 A1627 m1628 n1629 a1631, r5 A1627 m1628 n1629 l1626, r11 A1785 m1786 n1787 r] w' := by
  generalize (fps [b7 g1622 g1624 a1632 a1633 a1634 a1635, b6 g1624 A1627 m1628 n1629 a1631, r5 A1627 m1628 n1629 l1626]) = FF at HS ⊢
  obtain rfl := (row_len (HS.out.at2)).symm
  unfold chain_List.f at H
  go_enter Try.func56, Try.ntmps56
  go_wp2_with fail
  obtain ⟨t1637, HA1638, H⟩ := bind_some H
  refine (chain_of.calls l1626 a1631 a1632 a1633 a1634 a1635 a1636 g1622 g1624 A1627 l1626.length n1629 t1637 _ ⟨HS.out.begin⟩ HA1638).mono ?_
  rintro e_ w1639 ⟨rfl, hS⟩
  replace HS : Aside0 (Sep FF w [b7 g1622 g1624 a1632 a1633 a1634 a1635, b6 g1624 A1627 l1626.length n1629 a1631, r5 A1627 l1626.length n1629 l1626] w1639) := ⟨HS.out.call hS⟩
  clear hS
  by_cases c1650 : t1637.2.2.2 = true
  · have H := if_yes c1650 H
    have c1650b0 : t1637.2.2.2 = true := c1650
    have c1650b1 : (!t1637.2.2.2) = false := by rw [c1650b0]; rfl
    try rw [c1650b1]
    clear c1650
    go_wp2_with (first | ((with_reducible refine gate_dst (N := 5) rfl ?_); refine box_on ?hg (N := 5) ?hd (cs := #[.int .i64 0, .int .i64 0, .int .i64 0]) (t := 134) ?hr ?_; (case hd => rfl); (case hg => rfl); (case hr => first | (go_simp; done) | (go_simp; rfl)); intro g1640 hg w1641 hbox hb; replace HS : Aside0 (Sep FF w [b7 g1622 g1624 a1632 a1633 a1634 a1635, b6 g1624 A1627 l1626.length n1629 a1631, r5 A1627 l1626.length n1629 l1626, b10 g1640 0 0 0] w1641) := ⟨HS.out.box hg hbox hb⟩; clear hg hbox hb; have hc1643 : w1641.cell? ⟨g1640, 0, none⟩ = some (.int .i64 0) := blk_cellv (HS.out.at3) 0 rfl; have hz1644 : w1641.frozen? ⟨g1640, 0, none⟩ = false := blk_fz (HS.out.at3) 0; have hc1645 : w1641.cell? ⟨g1640, 1, none⟩ = some (.int .i64 0) := blk_cellv (HS.out.at3) 1 rfl; have hz1646 : w1641.frozen? ⟨g1640, 1, none⟩ = false := blk_fz (HS.out.at3) 1; have hc1647 : w1641.cell? ⟨g1640, 2, none⟩ = some (.int .i64 0) := blk_cellv (HS.out.at3) 2 rfl; have hz1648 : w1641.frozen? ⟨g1640, 2, none⟩ = false := blk_fz (HS.out.at3) 2) | ((with_reducible refine gate_store (t := 134) (p := 5) rfl ?_); refine store_event (w1 := (World.setCell (World.setCell (World.setCell w1641 ⟨g1640, 0, none⟩ (.int .i64 t1637.1)) ⟨g1640, 1, none⟩ (.int .i64 t1637.2.1)) ⟨g1640, 2, none⟩ (.int .i64 t1637.2.2.1))) rfl (t := 134) (p := 5) rfl rfl ?hr ?_; (case hr => first | (go_simp; done) | (go_simp; rfl)); intro w1649 hst; clear hc1643 hz1644 hc1645 hz1646 hc1647 hz1648; replace HS : Aside0 (Sep FF w [b7 g1622 g1624 a1632 a1633 a1634 a1635, b6 g1624 A1627 l1626.length n1629 a1631, r5 A1627 l1626.length n1629 l1626, b10 g1640 t1637.1 t1637.2.1 t1637.2.2.1] w1649) := ⟨by rw [hst]; exact HS.out.setAll (l1 := [b7 g1622 g1624 a1632 a1633 a1634 a1635, b6 g1624 A1627 l1626.length n1629 a1631, r5 A1627 l1626.length n1629 l1626]) (l2 := []) [.int .i64 t1637.1, .int .i64 t1637.2.1, .int .i64 t1637.2.2.1] rfl⟩; clear hst; have hc1651 : w1649.cell? ⟨g1640, 0, none⟩ = some (.int .i64 t1637.1) := blk_cellv (HS.out.at3) 0 rfl))
    clear hc1651
    obtain ⟨t1697, HA1698, H⟩ := bind_some H
    refine (ground_Ground_SeeReg.calls l1626 a1631 a1632 a1633 a1634 a1635 t1637.1 g1622 g1624 A1627 l1626.length n1629 t1697 _ ⟨HS.out.begin⟩ HA1698).mono ?_
    rintro e_ w1699 ⟨rfl, hS⟩
    replace HS : Aside0 (Sep FF w [b7 g1622 g1624 a1632 a1633 a1634 a1635, b6 g1624 A1627 l1626.length n1629 a1631, r5 A1627 l1626.length n1629 l1626, b10 g1640 t1637.1 t1637.2.1 t1637.2.2.1] w1699) := ⟨HS.out.call hS⟩
    clear hS
    replace HS : Aside0 (Sep FF w [b7 g1622 g1624 a1632 a1633 a1634 a1635, b6 g1624 A1627 l1626.length n1629 a1631, r5 A1627 l1626.length n1629 l1626] w1699) := ⟨HS.out.sub (.cons_cons _ (.cons_cons _ (.cons_cons _ (.cons _ .slnil))))⟩
    go_wp2_with fail
    replace HS : Aside0 (Sep FF w [r11 none 0 0 [], b7 g1622 g1624 a1632 a1633 a1634 a1635, b6 g1624 A1627 l1626.length n1629 a1631, r5 A1627 l1626.length n1629 l1626] w1699) := ⟨HS.out.nilrow 3 (Value.int .i64)⟩
    obtain ⟨o1701, AL1702, H⟩ := bind_some H
    go_loopg [7, 8] k (fun kq v7 v8 wc => ∃ (x1707 : Int) (x1708 : List Int) (A1709 : Option Addr) (m1710 : Nat) (n1711 : Nat), v7 = .slice A1709 m1710 n1711 ∧ v8 = .int .i64 x1707 ∧ Aside0 (chain_List.lo0 kq l1626 a1631 a1632 a1633 a1634 a1635 x1707 x1708 = some o1701) ∧ Aside0 (Sep FF w [r11 A1709 m1710 n1711 x1708, b7 g1622 g1624 a1632 a1633 a1634 a1635, b6 g1624 A1627 l1626.length n1629 a1631, r5 A1627 l1626.length n1629 l1626] wc))
    case atStart => exact ⟨(t1697), (([] : List Int)), (none), (0), (0), (by first | rfl | (simp [IntKind.wrap_u32]; done)), (by first | rfl | (simp [IntKind.wrap_u32]; done)), AL1702, ⟨HS.out⟩⟩
    case round =>
      clear AL1702 HS
      obtain ⟨x1707, x1708, A1709, m1710, n1711, rfl, rfl, AL1702, HS⟩ := hrel
      obtain ⟨w1703, rfl⟩ : ∃ x : World, x = wr := ⟨_, rfl⟩
      obtain rfl := (row_len (HS.out.at0)).symm
      cases gk with
      | zero => exact absurd AL1702.out (by simp [chain_List.lo0])
      | succ k1704 =>
        have AL0 := AL1702.out
        rw [chain_List.lo0] at AL0
        clear AL1702
        have AL1702 := Aside0.mk AL0
        clear AL0
        by_cases c1713 : x1707 > 0
        · have AL1702 := if_yes c1713 AL1702
          have c1713b0 : decide (0 < x1707) = true := decide_eq_true c1713
          clear c1713
          go_wp2_with fail
          replace HS : Aside0 (Sep FF w [r5 A1627 l1626.length n1629 l1626, r11 A1709 x1708.length n1711 x1708, b7 g1622 g1624 a1632 a1633 a1634 a1635, b6 g1624 A1627 l1626.length n1629 a1631] w1703) := ⟨HS.out.front 3 (by simp)⟩
          replace HS : Aside0 (Sep FF w [b6 g1624 A1627 l1626.length n1629 a1631, r5 A1627 l1626.length n1629 l1626, r11 A1709 x1708.length n1711 x1708, b7 g1622 g1624 a1632 a1633 a1634 a1635] w1703) := ⟨HS.out.front 3 (by simp)⟩
          replace HS : Aside0 (Sep FF w [b7 g1622 g1624 a1632 a1633 a1634 a1635, b6 g1624 A1627 l1626.length n1629 a1631, r5 A1627 l1626.length n1629 l1626, r11 A1709 x1708.length n1711 x1708] w1703) := ⟨HS.out.front 3 (by simp)⟩
          obtain ⟨t1714, HA1715, AL1702⟩ := bind_some AL1702
          refine (ground_Ground_Conf.calls l1626 a1631 a1632 a1633 a1634 a1635 g1622 g1624 A1627 l1626.length n1629 t1714 _ ⟨HS.out.begin⟩ HA1715).mono ?_
          rintro e_ w1716 ⟨rfl, hS⟩
          replace HS : Aside0 (Sep FF w [b7 g1622 g1624 a1632 a1633 a1634 a1635, b6 g1624 A1627 l1626.length n1629 a1631, r5 A1627 l1626.length n1629 l1626, r11 A1709 x1708.length n1711 x1708] w1716) := ⟨HS.out.call hS⟩
          clear hS
          by_cases c1718 : (x1708.length : Int) < t1714.1
          · have AL1702 := if_yes c1718 AL1702
            have c1718b0 : decide ((x1708.length : Int) < t1714.1) = true := decide_eq_true c1718
            clear c1718
            by_cases c1722 : x1708.length < 17592186044416
            · have AL1702 := if_yes c1722 AL1702
              have c1722b0 : decide (x1708.length < 17592186044416) = true := decide_eq_true c1722
              clear c1722
              obtain ⟨y1726, HA1727, AL1702⟩ := bind_some AL1702
              have fl1717 : ∀ w, (Instr.field 49 (.agg #[.int .i64 t1714.1, .int .i64 t1714.2.1, .int .i64 t1714.2.2.1, .int .i64 t1714.2.2.2]) 0).run Try.prog w = .ok (.int .i64 t1714.1) w := fun _ => by kernel_rfl
              go_wp2_with (first | ((with_reducible refine gate_dst (N := 39) rfl ?_); refine slice_on (n := 1) ?hg (N := 39) ?hd (cs := #[.int .i64 (wrap64 (x1707 - 1))]) (t := 3) ?hr ?_; (case hd => rfl); (case hg => rfl); (case hr => first | (go_simp; done) | (go_simp; rfl)); intro g1719 hg w1720 hbox hb; clear fl1717; replace HS : Aside0 (Sep FF w [b7 g1622 g1624 a1632 a1633 a1634 a1635, b6 g1624 A1627 l1626.length n1629 a1631, r5 A1627 l1626.length n1629 l1626, r11 A1709 x1708.length n1711 x1708, b9 g1719 (wrap64 (x1707 - 1))] w1720) := ⟨HS.out.box hg hbox hb⟩; clear hg hbox hb) | ((with_reducible refine gate_dst (N := 40) rfl ?_); refine append_event (l1 := [b7 g1622 g1624 a1632 a1633 a1634 a1635, b6 g1624 A1627 l1626.length n1629 a1631, r5 A1627 l1626.length n1629 l1626]) (l2 := [b9 g1719 (wrap64 (x1707 - 1))]) rfl (.tmp 36) (.tmp 39) 78 3 (.int .i64 0) 8 rfl Try.underlying78 (by kernel_rfl) rfl (by decide) (Value.int .i64) (fun _ => rfl) (.slice A1709 x1708.length n1711) (x1708 : List Int) [wrap64 (x1707 - 1)] ⟨g1719, 0, none⟩ 1 rfl rfl (blk_news (xs := [wrap64 (x1707 - 1)]) (HS.out.at4)) HS.out (by have := of_decide_eq_true c1722b0; simp only [List.length_cons, List.length_nil]; omega) HA1727 ?_; intro A1723 n1724 w1725 HS1; replace HS : Aside0 (Sep FF w [b7 g1622 g1624 a1632 a1633 a1634 a1635, b6 g1624 A1627 l1626.length n1629 a1631, r5 A1627 l1626.length n1629 l1626, r11 A1723 y1726.length n1724 y1726, b9 g1719 (wrap64 (x1707 - 1))] w1725) := ⟨HS1⟩; clear HS1; replace HS : Aside0 (Sep FF w [b7 g1622 g1624 a1632 a1633 a1634 a1635, b6 g1624 A1627 l1626.length n1629 a1631, r5 A1627 l1626.length n1629 l1626, r11 A1723 y1726.length n1724 y1726] w1725) := ⟨HS.out.sub (.cons_cons _ (.cons_cons _ (.cons_cons _ (.cons_cons _ (.cons _ .slnil)))))⟩))
              obtain ⟨t1755, HA1756, AL1702⟩ := bind_some AL1702
              refine (ground_Ground_SeeWord.calls l1626 a1631 a1632 a1633 a1634 a1635 (wrap64 (x1707 - 1)) 5 g1622 g1624 A1627 l1626.length n1629 t1755 _ ⟨HS.out.begin⟩ HA1756).mono ?_
              rintro e_ w1757 ⟨rfl, hS⟩
              replace HS : Aside0 (Sep FF w [b7 g1622 g1624 a1632 a1633 a1634 a1635, b6 g1624 A1627 l1626.length n1629 a1631, r5 A1627 l1626.length n1629 l1626, r11 A1723 y1726.length n1724 y1726] w1757) := ⟨HS.out.call hS⟩
              clear hS
              go_wp2_with fail
              go_roundg k1704
              case measure => exact Nat.lt_succ_self _
              case rel => exact ⟨(wrap64 (t1755)), (y1726), (A1723), (y1726.length), (n1724), (by first | rfl | (simp [IntKind.wrap_u32]; done)), (by first | rfl | (simp [IntKind.wrap_u32]; done)), Aside0.mk AL1702.out, ⟨(((((HS.out).front 2 (by simp)).front 2 (by simp)).front 2 (by simp)).front 3 (by simp)).keep (l := [r11 A1723 y1726.length n1724 y1726, b7 g1622 g1624 a1632 a1633 a1634 a1635, b6 g1624 A1627 l1626.length n1629 a1631, r5 A1627 l1626.length n1629 l1626]) (rest := [])⟩⟩
            · have AL1702 := if_no c1722 AL1702
              have c1722b0 : decide (x1708.length < 17592186044416) = false := decide_eq_false c1722
              clear c1722
              exact (none_no AL1702).elim
          · have AL1702 := if_no c1718 AL1702
            have c1718b0 : decide ((x1708.length : Int) < t1714.1) = false := decide_eq_false c1718
            clear c1718
            have ho := some_eq AL1702
            subst ho
            clear AL1702
            have fl1717 : ∀ w, (Instr.field 49 (.agg #[.int .i64 t1714.1, .int .i64 t1714.2.1, .int .i64 t1714.2.2.1, .int .i64 t1714.2.2.2]) 0).run Try.prog w = .ok (.int .i64 t1714.1) w := fun _ => by kernel_rfl
            go_wp2_with fail
            clear fl1717
            go_ret
            rw [← some_eq H]
            exact ⟨A1709, x1708.length, n1711, (by first | rfl | (simp [IntKind.wrap_u32]; done)), HS.out⟩
        · have AL1702 := if_no c1713 AL1702
          have c1713b0 : decide (0 < x1707) = false := decide_eq_false c1713
          clear c1713
          have ho := some_eq AL1702
          subst ho
          clear AL1702
          go_wp2_with fail
          go_ret
          rw [← some_eq H]
          exact ⟨A1709, x1708.length, n1711, (by first | rfl | (simp [IntKind.wrap_u32]; done)), ((((HS.out).front 3 (by simp)).front 3 (by simp)).front 3 (by simp)).keep (l := [b7 g1622 g1624 a1632 a1633 a1634 a1635, b6 g1624 A1627 l1626.length n1629 a1631, r5 A1627 l1626.length n1629 l1626, r11 A1709 x1708.length n1711 x1708]) (rest := [])⟩
  · have H := if_no c1650 H
    have c1650b0 : t1637.2.2.2 = false := by simpa using c1650
    have c1650b1 : (!t1637.2.2.2) = true := by rw [c1650b0]; rfl
    try rw [c1650b1]
    clear c1650
    go_wp2_with (first | ((with_reducible refine gate_dst (N := 5) rfl ?_); refine box_on ?hg (N := 5) ?hd (cs := #[.int .i64 0, .int .i64 0, .int .i64 0]) (t := 134) ?hr ?_; (case hd => rfl); (case hg => rfl); (case hr => first | (go_simp; done) | (go_simp; rfl)); intro g1640 hg w1641 hbox hb; replace HS : Aside0 (Sep FF w [b7 g1622 g1624 a1632 a1633 a1634 a1635, b6 g1624 A1627 l1626.length n1629 a1631, r5 A1627 l1626.length n1629 l1626, b10 g1640 0 0 0] w1641) := ⟨HS.out.box hg hbox hb⟩; clear hg hbox hb; have hc1643 : w1641.cell? ⟨g1640, 0, none⟩ = some (.int .i64 0) := blk_cellv (HS.out.at3) 0 rfl; have hz1644 : w1641.frozen? ⟨g1640, 0, none⟩ = false := blk_fz (HS.out.at3) 0; have hc1645 : w1641.cell? ⟨g1640, 1, none⟩ = some (.int .i64 0) := blk_cellv (HS.out.at3) 1 rfl; have hz1646 : w1641.frozen? ⟨g1640, 1, none⟩ = false := blk_fz (HS.out.at3) 1; have hc1647 : w1641.cell? ⟨g1640, 2, none⟩ = some (.int .i64 0) := blk_cellv (HS.out.at3) 2 rfl; have hz1648 : w1641.frozen? ⟨g1640, 2, none⟩ = false := blk_fz (HS.out.at3) 2) | ((with_reducible refine gate_store (t := 134) (p := 5) rfl ?_); refine store_event (w1 := (World.setCell (World.setCell (World.setCell w1641 ⟨g1640, 0, none⟩ (.int .i64 t1637.1)) ⟨g1640, 1, none⟩ (.int .i64 t1637.2.1)) ⟨g1640, 2, none⟩ (.int .i64 t1637.2.2.1))) rfl (t := 134) (p := 5) rfl rfl ?hr ?_; (case hr => first | (go_simp; done) | (go_simp; rfl)); intro w1649 hst; clear hc1643 hz1644 hc1645 hz1646 hc1647 hz1648; replace HS : Aside0 (Sep FF w [b7 g1622 g1624 a1632 a1633 a1634 a1635, b6 g1624 A1627 l1626.length n1629 a1631, r5 A1627 l1626.length n1629 l1626, b10 g1640 t1637.1 t1637.2.1 t1637.2.2.1] w1649) := ⟨by rw [hst]; exact HS.out.setAll (l1 := [b7 g1622 g1624 a1632 a1633 a1634 a1635, b6 g1624 A1627 l1626.length n1629 a1631, r5 A1627 l1626.length n1629 l1626]) (l2 := []) [.int .i64 t1637.1, .int .i64 t1637.2.1, .int .i64 t1637.2.2.1] rfl⟩; clear hst; replace HS : Aside0 (Sep FF w [b7 g1622 g1624 a1632 a1633 a1634 a1635, b6 g1624 A1627 l1626.length n1629 a1631, r5 A1627 l1626.length n1629 l1626] w1649) := ⟨HS.out.sub (.cons_cons _ (.cons_cons _ (.cons_cons _ (.cons _ .slnil))))⟩))
    replace HS : Aside0 (Sep FF w [r11 none 0 0 [], b7 g1622 g1624 a1632 a1633 a1634 a1635, b6 g1624 A1627 l1626.length n1629 a1631, r5 A1627 l1626.length n1629 l1626] w1649) := ⟨HS.out.nilrow 3 (Value.int .i64)⟩
    go_ret
    rw [← some_eq H]
    exact ⟨none, 0, 0, (by first | rfl | (simp [IntKind.wrap_u32]; done)), ((((HS.out).front 3 (by simp)).front 3 (by simp)).front 3 (by simp)).keep (l := [b7 g1622 g1624 a1632 a1633 a1634 a1635, b6 g1624 A1627 l1626.length n1629 a1631, r5 A1627 l1626.length n1629 l1626, r11 none 0 0 []]) (rest := [])⟩

set_option maxHeartbeats 30000000 in
set_option maxRecDepth 100000 in
theorem quitrentref01_Ints.calls (k : Nat) (l1800 : List Int) (l1804 : List Int) (A1801 : Option Addr) (n1802 : Nat) (A1805 : Option Addr) (n1806 : Nat) (r : Bool) (w : World) (HR1803 : Aside0 (Rd (Kd.int .i64) (fps []) w A1801 l1800.length l1800)) (HR1807 : Aside0 (Rd (Kd.int .i64) (fps []) w A1805 l1804.length l1804))  (HS : Aside0 (Sep (fps []) w [] w)) (H : Aside0 (quitrentref01_Ints.f k l1800 l1804 = some r)) :
    Calls Try.prog 68 #[.slice A1801 l1800.length n1802, .slice A1805 l1804.length n1806] w fun e w' => e = .returned (.bool r) ∧ Sep (fps []) w [] w' := by
  unfold quitrentref01_Ints.f at H
  go_enter Try.func68, Try.ntmps68
  by_cases c1808 : (l1800.length : Int) = (l1804.length : Int)
  · have H := if_yes c1808 H
    have c1808b0 : ((l1800.length : Int) == (l1804.length : Int)) = true := beq_iff_eq.mpr c1808
    have c1808b1 : ((l1800.length : Int) != (l1804.length : Int)) = false := bne_eq_false_iff_eq.mpr c1808
    clear c1808
    go_wp2_with fail
    obtain ⟨o1824, AL1825, H⟩ := bind_some H
    go_loopg [5] k (fun kq v5 wc => ∃ (x1828 : Int), v5 = .int .i64 x1828 ∧ Aside0 (quitrentref01_Ints.lo0 kq l1800 l1804 x1828 = some o1824) ∧ Aside0 (Sep (fps []) w [] wc))
    case atStart => exact ⟨(0), (by first | rfl | (simp [IntKind.wrap_u32]; done)), AL1825, ⟨HS.out⟩⟩
    case round =>
      clear AL1825 HS
      obtain ⟨x1828, rfl, AL1825, HS⟩ := hrel
      obtain ⟨w1826, rfl⟩ : ∃ x : World, x = wr := ⟨_, rfl⟩
      cases gk with
      | zero => exact absurd AL1825.out (by simp [quitrentref01_Ints.lo0])
      | succ k1827 =>
        have AL0 := AL1825.out
        rw [quitrentref01_Ints.lo0] at AL0
        clear AL1825
        have AL1825 := Aside0.mk AL0
        clear AL0
        by_cases c1829 : x1828 < (l1800.length : Int)
        · have AL1825 := if_yes c1829 AL1825
          have c1829b0 : decide (x1828 < (l1800.length : Int)) = true := decide_eq_true c1829
          clear c1829
          go_wp2_with fail
          refine start_ (n := 9) (S := (fun w' => Kd.C (Kd.int .i64) w' A1801 l1800.length l1800 ∧ Kd.C (Kd.int .i64) w' A1805 l1804.length l1804)) (ds := []) #[false, false, false, false, false, false, false, false, false] (by kernel_rfl) rfl rfl (⟨Rd.read (fun _ _ _ _ h => h) HR1803.out (HS.out.drew).fr, Rd.read (fun _ _ _ _ h => h) HR1807.out (HS.out.drew).fr⟩) (fun hHeld => ?_)
          have HS_ := Aside0.mk HS.out.drew
          clear HS
          generalize World.drew _ = w1831 at HS_ hHeld ⊢
          have HS := HS_
          clear HS_
          refine pure_ (i := 0) (N := some 17) (v := ?_) (a' := ?_) #[true, false, false, false, false, false, false, false, false] rfl rfl (by kernel_rfl) (fun _ _ _ h => h) (Or.inl ⟨by rfl, ?_⟩) ?_ ?_
          rotate_left
          · intro w'
            go_simp
            with_reducible rfl
          rotate_left
          · simp only [Act.put, List.setIfInBounds_toArray, List.set_cons_zero, List.set_cons_succ, i64_w, i32_w]
            rfl
          refine pure_ (i := 1) (N := some 18) (v := ?_) (a' := ?_) #[true, true, false, false, false, false, false, false, false] rfl rfl (by kernel_rfl) (fun _ _ _ h => h) (Or.inl ⟨by rfl, ?_⟩) ?_ ?_
          rotate_left
          · intro w'
            go_simp
            with_reducible rfl
          rotate_left
          · simp only [Act.put, List.setIfInBounds_toArray, List.set_cons_zero, List.set_cons_succ, i64_w, i32_w]
            rfl
          by_cases c1832 : 0 ≤ x1828
          · have AL1825 := if_yes c1832 AL1825
            have c1832b0 : decide (0 ≤ x1828) = true := decide_eq_true c1832
            have c1832p : (0 ≤ x1828) = True := eq_true c1832
            clear c1832
            have ip1833 : (x1828 < (l1800.length : Int)) = True := eq_true (of_decide_eq_true c1829b0)
            obtain ⟨ad1834, ea, _⟩ := Kd.at_int (Rd.read (fun _ _ _ _ h => h) HR1803.out HS.out.fr) x1828 (of_decide_eq_true c1832b0) (of_decide_eq_true c1829b0)
            cases ea
            refine pure_ (i := 2) (N := some 19) (v := ?_) (a' := ?_) #[true, true, true, false, false, false, false, false, false] rfl rfl (by kernel_rfl) (fun _ _ _ h => h) (Or.inl ⟨by rfl, ?_⟩) ?_ ?_
            rotate_left
            · intro w'
              go_simp
              with_reducible rfl
            rotate_left
            · simp only [Act.put, List.setIfInBounds_toArray, List.set_cons_zero, List.set_cons_succ, i64_w, i32_w]
              rfl
            refine pure_ (i := 4) (N := some 21) (v := ?_) (a' := ?_) #[true, true, true, false, true, false, false, false, false] rfl rfl (by kernel_rfl) (fun _ _ _ h => h) (Or.inl ⟨by rfl, ?_⟩) ?_ ?_
            rotate_left
            · intro w'
              go_simp
              with_reducible rfl
            rotate_left
            · simp only [Act.put, List.setIfInBounds_toArray, List.set_cons_zero, List.set_cons_succ, i64_w, i32_w]
              rfl
            refine pure_ (i := 5) (N := some 22) (v := ?_) (a' := ?_) #[true, true, true, false, true, true, false, false, false] rfl rfl (by kernel_rfl) (fun _ _ _ h => h) (Or.inl ⟨by rfl, ?_⟩) ?_ ?_
            rotate_left
            · intro w'
              go_simp
              with_reducible rfl
            rotate_left
            · simp only [Act.put, List.setIfInBounds_toArray, List.set_cons_zero, List.set_cons_succ, i64_w, i32_w]
              rfl
            by_cases c1835 : x1828 < (l1804.length : Int)
            · have AL1825 := if_yes c1835 AL1825
              have c1835b0 : decide (x1828 < (l1804.length : Int)) = true := decide_eq_true c1835
              have c1835p : (x1828 < (l1804.length : Int)) = True := eq_true c1835
              clear c1835
              obtain ⟨ad1836, ea, _⟩ := Kd.at_int (Rd.read (fun _ _ _ _ h => h) HR1807.out HS.out.fr) x1828 (of_decide_eq_true c1832b0) (of_decide_eq_true c1835b0)
              cases ea
              refine pure_ (i := 6) (N := some 23) (v := ?_) (a' := ?_) #[true, true, true, false, true, true, true, false, false] rfl rfl (by kernel_rfl) (fun _ _ _ h => h) (Or.inl ⟨by rfl, ?_⟩) ?_ ?_
              rotate_left
              · intro w'
                go_simp
                with_reducible rfl
              rotate_left
              · simp only [Act.put, List.setIfInBounds_toArray, List.set_cons_zero, List.set_cons_succ, i64_w, i32_w]
                rfl
              refine take_ (i := 3) (N := some 20) (v := ?_) (a' := ?_) #[true, true, true, true, true, true, true, false, false] rfl rfl (by kernel_rfl) (fun _ _ _ h => h) (Or.inl ⟨by rfl, ?_⟩) hHeld ?_ ?_
              rotate_left
              · rintro w' hS'
                obtain ⟨s0, s1⟩ := hS'
                have hx := C_at_int s0 x1828 (of_decide_eq_true c1832b0) (of_decide_eq_true c1829b0)
                go_simp
                with_reducible rfl
              rotate_left
              · simp only [Act.put, List.setIfInBounds_toArray, List.set_cons_zero, List.set_cons_succ, i64_w, i32_w]
                rfl
              refine take_ (i := 7) (N := some 24) (v := ?_) (a' := ?_) #[true, true, true, true, true, true, true, true, false] rfl rfl (by kernel_rfl) (fun _ _ _ h => h) (Or.inl ⟨by rfl, ?_⟩) hHeld ?_ ?_
              rotate_left
              · rintro w' hS'
                obtain ⟨s0, s1⟩ := hS'
                have hx := C_at_int s1 x1828 (of_decide_eq_true c1832b0) (of_decide_eq_true c1835b0)
                go_simp
                with_reducible rfl
              rotate_left
              · simp only [Act.put, List.setIfInBounds_toArray, List.set_cons_zero, List.set_cons_succ, i64_w, i32_w]
                rfl
              refine pure_ (i := 8) (N := some 25) (v := ?_) (a' := ?_) #[true, true, true, true, true, true, true, true, true] rfl rfl (by kernel_rfl) (fun _ _ _ h => h) (Or.inl ⟨by rfl, ?_⟩) ?_ ?_
              rotate_left
              · intro w'
                go_simp
                with_reducible rfl
              rotate_left
              · simp only [Act.put, List.setIfInBounds_toArray, List.set_cons_zero, List.set_cons_succ, i64_w, i32_w]
                rfl
              refine done_ (by kernel_rfl) ?_
              by_cases c1837 : (rd l1800 x1828) = (rd l1804 x1828)
              · have AL1825 := if_yes c1837 AL1825
                have c1837b0 : ((rd l1800 x1828) == (rd l1804 x1828)) = true := beq_iff_eq.mpr c1837
                have c1837b1 : ((rd l1800 x1828) != (rd l1804 x1828)) = false := bne_eq_false_iff_eq.mpr c1837
                clear c1837
                go_wp2_with fail
                go_roundg k1827
                case measure => exact Nat.lt_succ_self _
                case rel => exact ⟨(wrap64 (x1828 + 1)), (by first | rfl | (simp [IntKind.wrap_u32]; done)), Aside0.mk AL1825.out, ⟨HS.out⟩⟩
              · have AL1825 := if_no c1837 AL1825
                have c1837b0 : ((rd l1800 x1828) == (rd l1804 x1828)) = false := beq_eq_false_iff_ne.mpr c1837
                have c1837b1 : ((rd l1800 x1828) != (rd l1804 x1828)) = true := bne_iff_ne.mpr c1837
                clear c1837
                go_wp2_with fail
                have ho := some_eq AL1825
                subst ho
                have H := lp_ret H
                go_ret
                rw [← some_eq H]
                exact ⟨(by first | rfl | (simp [IntKind.wrap_u32]; done)), HS.out⟩
            · have AL1825 := if_no c1835 AL1825
              have c1835b0 : decide (x1828 < (l1804.length : Int)) = false := decide_eq_false c1835
              clear c1835
              exact (none_no AL1825).elim
          · have AL1825 := if_no c1832 AL1825
            have c1832b0 : decide (0 ≤ x1828) = false := decide_eq_false c1832
            clear c1832
            exact (none_no AL1825).elim
        · have AL1825 := if_no c1829 AL1825
          have c1829b0 : decide (x1828 < (l1800.length : Int)) = false := decide_eq_false c1829
          clear c1829
          have ho := some_eq AL1825
          subst ho
          clear AL1825
          have H := lp_out H
          go_wp2_with fail
          go_ret
          rw [← some_eq H]
          exact ⟨(by first | rfl | (simp [IntKind.wrap_u32]; done)), HS.out⟩
  · have H := if_no c1808 H
    have c1808b0 : ((l1800.length : Int) == (l1804.length : Int)) = false := beq_eq_false_iff_ne.mpr c1808
    have c1808b1 : ((l1800.length : Int) != (l1804.length : Int)) = true := bne_iff_ne.mpr c1808
    clear c1808
    go_wp2_with fail
    go_ret
    rw [← some_eq H]
    exact ⟨(by first | rfl | (simp [IntKind.wrap_u32]; done)), HS.out⟩

set_option maxHeartbeats 30000000 in
set_option maxRecDepth 100000 in
theorem chain_of_nil.calls (a1873 : Int) (r : Int × Int × Int × Bool) (w : World)   (HS : Aside0 (Sep (fps []) w [] w)) (H : Aside0 (chain_of_nil.f a1873 = some r)) :
    Calls Try.prog 91 #[.pointer none, .int .i64 a1873] w fun e w' => e = .returned (.tuple #[.agg #[.int .i64 r.1, .int .i64 r.2.1, .int .i64 r.2.2.1], .bool r.2.2.2]) ∧ Sep (fps []) w [] w' := by
  unfold chain_of_nil.f at H
  go_enter Try.func91, Try.ntmps91
  go_wp2_with (first | ((with_reducible refine gate_dst (N := 4) rfl ?_); refine box_on ?hg (N := 4) ?hd (cs := #[.int .i64 0, .int .i64 0, .int .i64 0]) (t := 134) ?hr ?_; (case hd => rfl); (case hg => rfl); (case hr => first | (go_simp; done) | (go_simp; rfl)); intro g1874 hg w1875 hbox hb; replace HS : Aside0 (Sep (fps []) w [b10 g1874 0 0 0] w1875) := ⟨HS.out.box hg hbox hb⟩; clear hg hbox hb; have hc1877 : w1875.cell? ⟨g1874, 0, none⟩ = some (.int .i64 0) := blk_cellv (HS.out.at0) 0 rfl; have hz1878 : w1875.frozen? ⟨g1874, 0, none⟩ = false := blk_fz (HS.out.at0) 0; have hc1879 : w1875.cell? ⟨g1874, 1, none⟩ = some (.int .i64 0) := blk_cellv (HS.out.at0) 1 rfl; have hz1880 : w1875.frozen? ⟨g1874, 1, none⟩ = false := blk_fz (HS.out.at0) 1; have hc1881 : w1875.cell? ⟨g1874, 2, none⟩ = some (.int .i64 0) := blk_cellv (HS.out.at0) 2 rfl; have hz1882 : w1875.frozen? ⟨g1874, 2, none⟩ = false := blk_fz (HS.out.at0) 2) | ((with_reducible refine gate_store (t := 134) (p := 4) rfl ?_); refine store_event (w1 := (World.setCell (World.setCell (World.setCell w1875 ⟨g1874, 0, none⟩ (.int .i64 0)) ⟨g1874, 1, none⟩ (.int .i64 0)) ⟨g1874, 2, none⟩ (.int .i64 0))) rfl (t := 134) (p := 4) rfl rfl ?hr ?_; (case hr => first | (go_simp; done) | (go_simp; rfl)); intro w1883 hst; clear hc1877 hz1878 hc1879 hz1880 hc1881 hz1882; replace HS : Aside0 (Sep (fps []) w [b10 g1874 0 0 0] w1883) := ⟨by rw [hst]; exact HS.out.setAll (l1 := []) (l2 := []) [.int .i64 0, .int .i64 0, .int .i64 0] rfl⟩; clear hst))
  have hc1884 : w1883.cell? ⟨g1874, 0, none⟩ = some (.int .i64 0) := blk_cellv (HS.out.at0) 0 rfl
  have hc1885 : w1883.cell? ⟨g1874, 1, none⟩ = some (.int .i64 0) := blk_cellv (HS.out.at0) 1 rfl
  have hc1886 : w1883.cell? ⟨g1874, 2, none⟩ = some (.int .i64 0) := blk_cellv (HS.out.at0) 2 rfl
  refine bodyPost_ret (v := .tuple #[.agg #[.int .i64 0, .int .i64 0, .int .i64 0], .bool false]) (by simp [results, Try.results91, go_sem, hc1884, hc1885, hc1886]) rfl ?_
  rw [← some_eq H]
  exact ⟨(by first | rfl | (simp [IntKind.wrap_u32]; done)), HS.out.sub (.cons _ .slnil)⟩

set_option maxHeartbeats 30000000 in
set_option maxRecDepth 100000 in
theorem ground_Ground_Conf_nil.calls  (r : Int × Int × Int × Int) (w : World)   (HS : Aside0 (Sep (fps []) w [] w)) (H : Aside0 (ground_Ground_Conf_nil.f = some r)) :
    Calls Try.prog 39 #[.pointer none] w fun e w' => e = .returned (.agg #[.int .i64 r.1, .int .i64 r.2.1, .int .i64 r.2.2.1, .int .i64 r.2.2.2]) ∧ Sep (fps []) w [] w' := by
  unfold ground_Ground_Conf_nil.f at H
  go_enter Try.func39, Try.ntmps39
  go_wp2_with (first | ((with_reducible refine gate_dst (N := 2) rfl ?_); refine box_on ?hg (N := 2) ?hd (cs := #[.int .i64 0, .int .i64 0, .int .i64 0, .int .i64 0]) (t := 49) ?hr ?_; (case hd => rfl); (case hg => rfl); (case hr => first | (go_simp; done) | (go_simp; rfl)); intro g1902 hg w1903 hbox hb; replace HS : Aside0 (Sep (fps []) w [b1 g1902 0 0 0 0] w1903) := ⟨HS.out.box hg hbox hb⟩; clear hg hbox hb; have hc1905 : w1903.cell? ⟨g1902, 0, none⟩ = some (.int .i64 0) := blk_cellv (HS.out.at0) 0 rfl; have hz1906 : w1903.frozen? ⟨g1902, 0, none⟩ = false := blk_fz (HS.out.at0) 0; have hc1907 : w1903.cell? ⟨g1902, 1, none⟩ = some (.int .i64 0) := blk_cellv (HS.out.at0) 1 rfl; have hz1908 : w1903.frozen? ⟨g1902, 1, none⟩ = false := blk_fz (HS.out.at0) 1; have hc1909 : w1903.cell? ⟨g1902, 2, none⟩ = some (.int .i64 0) := blk_cellv (HS.out.at0) 2 rfl; have hz1910 : w1903.frozen? ⟨g1902, 2, none⟩ = false := blk_fz (HS.out.at0) 2; have hc1911 : w1903.cell? ⟨g1902, 3, none⟩ = some (.int .i64 0) := blk_cellv (HS.out.at0) 3 rfl; have hz1912 : w1903.frozen? ⟨g1902, 3, none⟩ = false := blk_fz (HS.out.at0) 3) | ((with_reducible refine gate_store (t := 49) (p := 2) rfl ?_); refine store_event (w1 := (World.setCell (World.setCell (World.setCell (World.setCell w1903 ⟨g1902, 0, none⟩ (.int .i64 0)) ⟨g1902, 1, none⟩ (.int .i64 0)) ⟨g1902, 2, none⟩ (.int .i64 0)) ⟨g1902, 3, none⟩ (.int .i64 0))) rfl (t := 49) (p := 2) rfl rfl ?hr ?_; (case hr => first | (go_simp; done) | (go_simp; rfl)); intro w1913 hst; clear hc1905 hz1906 hc1907 hz1908 hc1909 hz1910 hc1911 hz1912; replace HS : Aside0 (Sep (fps []) w [b1 g1902 0 0 0 0] w1913) := ⟨by rw [hst]; exact HS.out.setAll (l1 := []) (l2 := []) [.int .i64 0, .int .i64 0, .int .i64 0, .int .i64 0] rfl⟩; clear hst))
  have hc1914 : w1913.cell? ⟨g1902, 0, none⟩ = some (.int .i64 0) := blk_cellv (HS.out.at0) 0 rfl
  have hc1915 : w1913.cell? ⟨g1902, 1, none⟩ = some (.int .i64 0) := blk_cellv (HS.out.at0) 1 rfl
  have hc1916 : w1913.cell? ⟨g1902, 2, none⟩ = some (.int .i64 0) := blk_cellv (HS.out.at0) 2 rfl
  have hc1917 : w1913.cell? ⟨g1902, 3, none⟩ = some (.int .i64 0) := blk_cellv (HS.out.at0) 3 rfl
  refine bodyPost_ret (v := .agg #[.int .i64 0, .int .i64 0, .int .i64 0, .int .i64 0]) (by simp [results, Try.results39, go_sem, hc1914, hc1915, hc1916, hc1917]) rfl ?_
  rw [← some_eq H]
  exact ⟨(by first | rfl | (simp [IntKind.wrap_u32]; done)), HS.out.sub (.cons _ .slnil)⟩

set_option maxHeartbeats 30000000 in
set_option maxRecDepth 100000 in
theorem ground_Ground_all_nil.calls  (r : Unit) (w : World)   (HS : Aside0 (Sep (fps []) w [] w)) (H : Aside0 (ground_Ground_all_nil.f = some r)) :
    Calls Try.prog 77 #[.pointer none] w fun e w' => e = .returned (.pointer none) ∧ Sep (fps []) w [] w' := by
  unfold ground_Ground_all_nil.f at H
  go_enter Try.func77, Try.ntmps77
  go_wp2_with fail
  go_ret
  clear H
  exact ⟨(by first | rfl | (simp [IntKind.wrap_u32]; done)), HS.out⟩

set_option maxHeartbeats 30000000 in
set_option maxRecDepth 100000 in
theorem store_Store_has_nil.calls (a1932 : Int) (r : Bool) (w : World)   (HS : Aside0 (Sep (fps []) w [] w)) (H : Aside0 (store_Store_has_nil.f a1932 = some r)) :
    Calls Try.prog 69 #[.pointer none, .int .i64 a1932] w fun e w' => e = .returned (.bool r) ∧ Sep (fps []) w [] w' := by
  unfold store_Store_has_nil.f at H
  go_enter Try.func69, Try.ntmps69
  go_wp2_with fail
  go_ret
  rw [← some_eq H]
  exact ⟨(by first | rfl | (simp [IntKind.wrap_u32]; done)), HS.out⟩

set_option maxHeartbeats 30000000 in
set_option maxRecDepth 100000 in
theorem store_Store_Get_nil.calls (a1931 : Int) (r : Int) (w : World)   (HS : Aside0 (Sep (fps []) w [] w)) (H : Aside0 (store_Store_Get_nil.f a1931 = some r)) :
    Calls Try.prog 25 #[.pointer none, .int .i64 a1931] w fun e w' => e = .returned (.int .u32 r) ∧ Sep (fps []) w [] w' := by
  unfold store_Store_Get_nil.f at H
  go_enter Try.func25, Try.ntmps25
  go_wp2_with fail
  obtain ⟨t1933, HA1934, H⟩ := bind_some H
  refine (store_Store_has_nil.calls a1931 t1933 _ ⟨Sep.start _⟩ HA1934).mono ?_
  rintro e_ w1935 ⟨rfl, hS⟩
  replace HS : Aside0 (Sep (fps []) w [] w1935) := ⟨HS.out.call hS⟩
  clear hS
  by_cases c1936 : t1933 = true
  · have H := if_yes c1936 H
    have c1936b0 : t1933 = true := c1936
    have c1936b1 : (!t1933) = false := by rw [c1936b0]; rfl
    try rw [c1936b1]
    clear c1936
    exact (none_no H).elim
  · have H := if_no c1936 H
    have c1936b0 : t1933 = false := by simpa using c1936
    have c1936b1 : (!t1933) = true := by rw [c1936b0]; rfl
    try rw [c1936b1]
    clear c1936
    go_wp2_with fail
    go_ret
    rw [← some_eq H]
    exact ⟨(by first | rfl | (simp [IntKind.wrap_u32]; done)), HS.out⟩

set_option maxHeartbeats 30000000 in
set_option maxRecDepth 100000 in
theorem ground_Ground_Reg_nil.calls (a1924 : Int) (r : Int) (w : World)   (HS : Aside0 (Sep (fps []) w [] w)) (H : Aside0 (ground_Ground_Reg_nil.f a1924 = some r)) :
    Calls Try.prog 36 #[.pointer none, .int .i64 a1924] w fun e w' => e = .returned (.int .i64 r) ∧ Sep (fps []) w [] w' := by
  unfold ground_Ground_Reg_nil.f at H
  go_enter Try.func36, Try.ntmps36
  go_wp2_with fail
  obtain ⟨t1925, HA1926, H⟩ := bind_some H
  refine (ground_Ground_all_nil.calls t1925 _ ⟨Sep.start _⟩ HA1926).mono ?_
  rintro e_ w1927 ⟨rfl, hS⟩
  replace HS : Aside0 (Sep (fps []) w [] w1927) := ⟨HS.out.call hS⟩
  clear hS
  go_wp2_with fail
  obtain ⟨t1928, HA1929, H⟩ := bind_some H
  refine (ground_reg.calls a1924 t1928 _ ⟨Sep.start _⟩ HA1929).mono ?_
  rintro e_ w1930 ⟨rfl, hS⟩
  replace HS : Aside0 (Sep (fps []) w [] w1930) := ⟨HS.out.call hS⟩
  clear hS
  go_wp2_with fail
  obtain ⟨t1937, HA1938, H⟩ := bind_some H
  refine (store_Store_Get_nil.calls t1928 t1937 _ ⟨Sep.start _⟩ HA1938).mono ?_
  rintro e_ w1939 ⟨rfl, hS⟩
  replace HS : Aside0 (Sep (fps []) w [] w1939) := ⟨HS.out.call hS⟩
  clear hS
  go_wp2_with fail
  go_ret
  rw [← some_eq H]
  exact ⟨(by first | rfl | (simp [IntKind.wrap_u32]; done)), HS.out⟩

set_option maxHeartbeats 30000000 in
set_option maxRecDepth 100000 in
theorem ground_Ground_word_nil.calls (a1967 : Int) (a1968 : Int) (r : Int) (w : World)   (HS : Aside0 (Sep (fps []) w [] w)) (H : Aside0 (ground_Ground_word_nil.f a1967 a1968 = some r)) :
    Calls Try.prog 87 #[.pointer none, .int .i64 a1967, .int .i64 a1968] w fun e w' => e = .returned (.int .i64 r) ∧ Sep (fps []) w [] w' := by
  unfold ground_Ground_word_nil.f at H
  go_enter Try.func87, Try.ntmps87
  go_wp2_with fail
  obtain ⟨t1969, HA1970, H⟩ := bind_some H
  refine (ground_Ground_Conf_nil.calls t1969 _ ⟨Sep.start _⟩ HA1970).mono ?_
  rintro e_ w1971 ⟨rfl, hS⟩
  replace HS : Aside0 (Sep (fps []) w [] w1971) := ⟨HS.out.call hS⟩
  clear hS
  go_wp2_with (first | ((with_reducible refine gate_dst (N := 7) rfl ?_); refine box_on ?hg (N := 7) ?hd (cs := #[.int .i64 0, .int .i64 0, .int .i64 0, .int .i64 0]) (t := 49) ?hr ?_; (case hd => rfl); (case hg => rfl); (case hr => first | (go_simp; done) | (go_simp; rfl)); intro g1972 hg w1973 hbox hb; replace HS : Aside0 (Sep (fps []) w [b1 g1972 0 0 0 0] w1973) := ⟨HS.out.box hg hbox hb⟩; clear hg hbox hb; have hc1975 : w1973.cell? ⟨g1972, 0, none⟩ = some (.int .i64 0) := blk_cellv (HS.out.at0) 0 rfl; have hz1976 : w1973.frozen? ⟨g1972, 0, none⟩ = false := blk_fz (HS.out.at0) 0; have hc1977 : w1973.cell? ⟨g1972, 1, none⟩ = some (.int .i64 0) := blk_cellv (HS.out.at0) 1 rfl; have hz1978 : w1973.frozen? ⟨g1972, 1, none⟩ = false := blk_fz (HS.out.at0) 1; have hc1979 : w1973.cell? ⟨g1972, 2, none⟩ = some (.int .i64 0) := blk_cellv (HS.out.at0) 2 rfl; have hz1980 : w1973.frozen? ⟨g1972, 2, none⟩ = false := blk_fz (HS.out.at0) 2; have hc1981 : w1973.cell? ⟨g1972, 3, none⟩ = some (.int .i64 0) := blk_cellv (HS.out.at0) 3 rfl; have hz1982 : w1973.frozen? ⟨g1972, 3, none⟩ = false := blk_fz (HS.out.at0) 3) | ((with_reducible refine gate_store (t := 49) (p := 7) rfl ?_); refine store_event (w1 := (World.setCell (World.setCell (World.setCell (World.setCell w1973 ⟨g1972, 0, none⟩ (.int .i64 t1969.1)) ⟨g1972, 1, none⟩ (.int .i64 t1969.2.1)) ⟨g1972, 2, none⟩ (.int .i64 t1969.2.2.1)) ⟨g1972, 3, none⟩ (.int .i64 t1969.2.2.2))) rfl (t := 49) (p := 7) rfl rfl ?hr ?_; (case hr => first | (go_simp; done) | (go_simp; rfl)); intro w1983 hst; clear hc1975 hz1976 hc1977 hz1978 hc1979 hz1980 hc1981 hz1982; replace HS : Aside0 (Sep (fps []) w [b1 g1972 t1969.1 t1969.2.1 t1969.2.2.1 t1969.2.2.2] w1983) := ⟨by rw [hst]; exact HS.out.setAll (l1 := []) (l2 := []) [.int .i64 t1969.1, .int .i64 t1969.2.1, .int .i64 t1969.2.2.1, .int .i64 t1969.2.2.2] rfl⟩; clear hst; have hc1984 : w1983.cell? ⟨g1972, 0, none⟩ = some (.int .i64 t1969.1) := blk_cellv (HS.out.at0) 0 rfl))
  clear hc1984
  obtain ⟨t1985, HA1986, H⟩ := bind_some H
  refine (ground_within.calls a1967 t1969.1 0 t1985 _ ⟨Sep.start _⟩ HA1986).mono ?_
  rintro e_ w1987 ⟨rfl, hS⟩
  replace HS : Aside0 (Sep (fps []) w [b1 g1972 t1969.1 t1969.2.1 t1969.2.2.1 t1969.2.2.2] w1987) := ⟨HS.out.call hS⟩
  clear hS
  by_cases c1988 : t1985 = (-1)
  · have H := if_yes c1988 H
    have c1988b0 : (t1985 == (-1)) = true := beq_iff_eq.mpr c1988
    have c1988b1 : (t1985 != (-1)) = false := bne_eq_false_iff_eq.mpr c1988
    clear c1988
    replace HS : Aside0 (Sep (fps []) w [] w1987) := ⟨HS.out.sub (.cons _ .slnil)⟩
    go_wp2_with fail
    go_ret
    rw [← some_eq H]
    exact ⟨(by first | rfl | (simp [IntKind.wrap_u32]; done)), HS.out⟩
  · have H := if_no c1988 H
    have c1988b0 : (t1985 == (-1)) = false := beq_eq_false_iff_ne.mpr c1988
    have c1988b1 : (t1985 != (-1)) = true := bne_iff_ne.mpr c1988
    clear c1988
    have hc1989 : w1987.cell? ⟨g1972, 1, none⟩ = some (.int .i64 t1969.2.1) := blk_cellv (HS.out.at0) 1 rfl
    have hc1990 : w1987.cell? ⟨g1972, 2, none⟩ = some (.int .i64 t1969.2.2.1) := blk_cellv (HS.out.at0) 2 rfl
    go_wp2_with fail
    clear hc1989 hc1990
    obtain ⟨t1991, HA1992, H⟩ := bind_some H
    refine (ground_within.calls a1968 t1969.2.1 (wrap64 ((wrap64 (24 + t1969.2.2.1)) + (wrap64 (a1967 * t1969.2.1)))) t1991 _ ⟨Sep.start _⟩ HA1992).mono ?_
    rintro e_ w1993 ⟨rfl, hS⟩
    replace HS : Aside0 (Sep (fps []) w [b1 g1972 t1969.1 t1969.2.1 t1969.2.2.1 t1969.2.2.2] w1993) := ⟨HS.out.call hS⟩
    clear hS
    replace HS : Aside0 (Sep (fps []) w [] w1993) := ⟨HS.out.sub (.cons _ .slnil)⟩
    go_wp2_with fail
    go_ret
    rw [← some_eq H]
    exact ⟨(by first | rfl | (simp [IntKind.wrap_u32]; done)), HS.out⟩

set_option maxHeartbeats 30000000 in
set_option maxRecDepth 100000 in
theorem store_Store_Put_nil.calls (a1997 : Int) (a1998 : Int) (r : Bool) (w : World)   (HS : Aside0 (Sep (fps []) w [] w)) (H : Aside0 (store_Store_Put_nil.f a1997 a1998 = some r)) :
    Calls Try.prog 22 #[.pointer none, .int .i64 a1997, .int .u32 a1998] w fun e w' => e = .returned (.bool r) ∧ Sep (fps []) w [] w' := by
  unfold store_Store_Put_nil.f at H
  go_enter Try.func22, Try.ntmps22
  go_wp2_with fail
  obtain ⟨t1999, HA2000, H⟩ := bind_some H
  refine (store_Store_has_nil.calls a1997 t1999 _ ⟨Sep.start _⟩ HA2000).mono ?_
  rintro e_ w2001 ⟨rfl, hS⟩
  replace HS : Aside0 (Sep (fps []) w [] w2001) := ⟨HS.out.call hS⟩
  clear hS
  by_cases c2002 : t1999 = true
  · have H := if_yes c2002 H
    have c2002b0 : t1999 = true := c2002
    have c2002b1 : (!t1999) = false := by rw [c2002b0]; rfl
    try rw [c2002b1]
    clear c2002
    exact (none_no H).elim
  · have H := if_no c2002 H
    have c2002b0 : t1999 = false := by simpa using c2002
    have c2002b1 : (!t1999) = true := by rw [c2002b0]; rfl
    try rw [c2002b1]
    clear c2002
    go_wp2_with fail
    go_ret
    rw [← some_eq H]
    exact ⟨(by first | rfl | (simp [IntKind.wrap_u32]; done)), HS.out⟩

set_option maxHeartbeats 30000000 in
set_option maxRecDepth 100000 in
theorem ground_Ground_SetWord_nil.calls (a1961 : Int) (a1962 : Int) (a1963 : Int) (r : Bool) (w : World)   (HS : Aside0 (Sep (fps []) w [] w)) (H : Aside0 (ground_Ground_SetWord_nil.f a1961 a1962 a1963 = some r)) :
    Calls Try.prog 46 #[.pointer none, .int .i64 a1961, .int .i64 a1962, .int .u32 a1963] w fun e w' => e = .returned (.bool r) ∧ Sep (fps []) w [] w' := by
  unfold ground_Ground_SetWord_nil.f at H
  go_enter Try.func46, Try.ntmps46
  go_wp2_with fail
  obtain ⟨t1964, HA1965, H⟩ := bind_some H
  refine (ground_Ground_all_nil.calls t1964 _ ⟨Sep.start _⟩ HA1965).mono ?_
  rintro e_ w1966 ⟨rfl, hS⟩
  replace HS : Aside0 (Sep (fps []) w [] w1966) := ⟨HS.out.call hS⟩
  clear hS
  go_wp2_with fail
  obtain ⟨t1994, HA1995, H⟩ := bind_some H
  refine (ground_Ground_word_nil.calls a1961 a1962 t1994 _ ⟨Sep.start _⟩ HA1995).mono ?_
  rintro e_ w1996 ⟨rfl, hS⟩
  replace HS : Aside0 (Sep (fps []) w [] w1996) := ⟨HS.out.call hS⟩
  clear hS
  go_wp2_with fail
  obtain ⟨t2003, HA2004, H⟩ := bind_some H
  refine (store_Store_Put_nil.calls t1994 a1963 t2003 _ ⟨Sep.start _⟩ HA2004).mono ?_
  rintro e_ w2005 ⟨rfl, hS⟩
  replace HS : Aside0 (Sep (fps []) w [] w2005) := ⟨HS.out.call hS⟩
  clear hS
  go_wp2_with fail
  go_ret
  rw [← some_eq H]
  exact ⟨(by first | rfl | (simp [IntKind.wrap_u32]; done)), HS.out⟩

set_option maxHeartbeats 30000000 in
set_option maxRecDepth 100000 in
theorem ground_Ground_set_nil.calls (a2017 : Int) (a2018 : Int) (r : Bool) (w : World)   (HS : Aside0 (Sep (fps []) w [] w)) (H : Aside0 (ground_Ground_set_nil.f a2017 a2018 = some r)) :
    Calls Try.prog 85 #[.pointer none, .int .i64 a2017, .int .i64 a2018] w fun e w' => e = .returned (.bool r) ∧ Sep (fps []) w [] w' := by
  unfold ground_Ground_set_nil.f at H
  go_enter Try.func85, Try.ntmps85
  by_cases c2019 : a2018 < 0
  · have H := if_yes c2019 H
    have c2019b0 : decide (a2018 < 0) = true := decide_eq_true c2019
    clear c2019
    go_wp2_with fail
    go_ret
    rw [← some_eq H]
    exact ⟨(by first | rfl | (simp [IntKind.wrap_u32]; done)), HS.out⟩
  · have H := if_no c2019 H
    have c2019b0 : decide (a2018 < 0) = false := decide_eq_false c2019
    clear c2019
    by_cases c2020 : a2018 > 4294967295
    · have H := if_yes c2020 H
      have c2020b0 : decide (4294967295 < a2018) = true := decide_eq_true c2020
      clear c2020
      go_wp2_with fail
      go_ret
      rw [← some_eq H]
      exact ⟨(by first | rfl | (simp [IntKind.wrap_u32]; done)), HS.out⟩
    · have H := if_no c2020 H
      have c2020b0 : decide (4294967295 < a2018) = false := decide_eq_false c2020
      clear c2020
      go_wp2_with fail
      obtain ⟨t2021, HA2022, H⟩ := bind_some H
      refine (ground_Ground_all_nil.calls t2021 _ ⟨Sep.start _⟩ HA2022).mono ?_
      rintro e_ w2023 ⟨rfl, hS⟩
      replace HS : Aside0 (Sep (fps []) w [] w2023) := ⟨HS.out.call hS⟩
      clear hS
      go_wp2_with fail
      obtain ⟨t2024, HA2025, H⟩ := bind_some H
      refine (store_Store_Put_nil.calls a2017 ((a2018) % 4294967296) t2024 _ ⟨Sep.start _⟩ HA2025).mono ?_
      rintro e_ w2026 ⟨rfl, hS⟩
      replace HS : Aside0 (Sep (fps []) w [] w2026) := ⟨HS.out.call hS⟩
      clear hS
      go_wp2_with fail
      go_ret
      rw [← some_eq H]
      exact ⟨(by first | rfl | (simp [IntKind.wrap_u32]; done)), HS.out⟩

set_option maxHeartbeats 30000000 in
set_option maxRecDepth 100000 in
theorem ground_Ground_SetReg_nil.calls (a2012 : Int) (a2013 : Int) (r : Bool) (w : World)   (HS : Aside0 (Sep (fps []) w [] w)) (H : Aside0 (ground_Ground_SetReg_nil.f a2012 a2013 = some r)) :
    Calls Try.prog 42 #[.pointer none, .int .i64 a2012, .int .i64 a2013] w fun e w' => e = .returned (.bool r) ∧ Sep (fps []) w [] w' := by
  unfold ground_Ground_SetReg_nil.f at H
  go_enter Try.func42, Try.ntmps42
  go_wp2_with fail
  obtain ⟨t2014, HA2015, H⟩ := bind_some H
  refine (ground_reg.calls a2012 t2014 _ ⟨Sep.start _⟩ HA2015).mono ?_
  rintro e_ w2016 ⟨rfl, hS⟩
  replace HS : Aside0 (Sep (fps []) w [] w2016) := ⟨HS.out.call hS⟩
  clear hS
  go_wp2_with fail
  obtain ⟨t2027, HA2028, H⟩ := bind_some H
  refine (ground_Ground_set_nil.calls t2014 a2013 t2027 _ ⟨Sep.start _⟩ HA2028).mono ?_
  rintro e_ w2029 ⟨rfl, hS⟩
  replace HS : Aside0 (Sep (fps []) w [] w2029) := ⟨HS.out.call hS⟩
  clear hS
  go_wp2_with fail
  go_ret
  rw [← some_eq H]
  exact ⟨(by first | rfl | (simp [IntKind.wrap_u32]; done)), HS.out⟩

set_option maxHeartbeats 30000000 in
set_option maxRecDepth 100000 in
theorem chain_Add_1_1.calls (a1946 : Int) (a1947 : Int) (a1948 : Int) (a1949 : Int) (a1950 : Int) (a1955 : Int) (g1952 : Nat) (g1954 : Nat) (r : Unit) (w : World)   (HS : Aside0 (Sep (fps [b12 g1952, b9 g1954 a1955]) w [b12 g1952, b9 g1954 a1955] w)) (H : Aside0 (chain_Add_1_1.f a1946 a1947 a1948 a1949 a1950 a1955 = some r)) :
    Calls Try.prog 89 #[.agg #[.int .i64 a1946, .int .i64 a1947, .int .i64 a1948], .int .i64 a1949, .int .i64 a1950, .pointer (some ⟨g1952, 0, none⟩), .pointer (some ⟨g1954, 0, none⟩)] w fun e w' => e = .returned (.tuple #[]) ∧ Sep (fps [b12 g1952, b9 g1954 a1955]) w [b12 g1952, b9 g1954 a1955] w' := by
  generalize (fps [b12 g1952, b9 g1954 a1955]) = FF at HS ⊢
  unfold chain_Add_1_1.f at H
  go_enter Try.func89, Try.ntmps89
  go_wp2_with (first | ((with_reducible refine gate_dst (N := 5) rfl ?_); refine box_on ?hg (N := 5) ?hd (cs := #[.int .i64 a1946, .int .i64 a1947, .int .i64 a1948]) (t := 134) ?hr ?_; (case hd => rfl); (case hg => rfl); (case hr => first | (go_simp; done) | (go_simp; rfl)); intro g1956 hg w1957 hbox hb; replace HS : Aside0 (Sep FF w [b12 g1952, b9 g1954 a1955, b10 g1956 a1946 a1947 a1948] w1957) := ⟨HS.out.box hg hbox hb⟩; clear hg hbox hb; have hc1959 : w1957.cell? ⟨g1952, 0, none⟩ = some (.pointer none) := blk_cellv (HS.out.at0) 0 rfl; have hc1960 : w1957.cell? ⟨g1954, 0, none⟩ = some (.int .i64 a1955) := blk_cellv (HS.out.at1) 0 rfl))
  clear hc1959 hc1960
  obtain ⟨t2006, HA2007, H⟩ := bind_some H
  refine (ground_Ground_SetWord_nil.calls a1955 5 0 t2006 _ ⟨Sep.start _⟩ HA2007).mono ?_
  rintro e_ w2008 ⟨rfl, hS⟩
  replace HS : Aside0 (Sep FF w [b12 g1952, b9 g1954 a1955, b10 g1956 a1946 a1947 a1948] w2008) := ⟨HS.out.call hS⟩
  clear hS
  by_cases c2009 : a1950 = 0
  · have H := if_yes c2009 H
    have c2009b0 : (a1950 == 0) = true := beq_iff_eq.mpr c2009
    have c2009b1 : (a1950 != 0) = false := bne_eq_false_iff_eq.mpr c2009
    clear c2009
    have hc2010 : w2008.cell? ⟨g1952, 0, none⟩ = some (.pointer none) := blk_cellv (HS.out.at0) 0 rfl
    have hc2011 : w2008.cell? ⟨g1956, 0, none⟩ = some (.int .i64 a1946) := blk_cellv (HS.out.at2) 0 rfl
    go_wp2_with fail
    clear hc2010 hc2011
    obtain ⟨t2030, HA2031, H⟩ := bind_some H
    refine (ground_Ground_SetReg_nil.calls a1946 a1949 t2030 _ ⟨Sep.start _⟩ HA2031).mono ?_
    rintro e_ w2032 ⟨rfl, hS⟩
    replace HS : Aside0 (Sep FF w [b12 g1952, b9 g1954 a1955, b10 g1956 a1946 a1947 a1948] w2032) := ⟨HS.out.call hS⟩
    clear hS
    have hc2033 : w2032.cell? ⟨g1952, 0, none⟩ = some (.pointer none) := blk_cellv (HS.out.at0) 0 rfl
    have hc2034 : w2032.cell? ⟨g1956, 1, none⟩ = some (.int .i64 a1947) := blk_cellv (HS.out.at2) 1 rfl
    go_wp2_with fail
    clear hc2033 hc2034
    obtain ⟨t2035, HA2036, H⟩ := bind_some H
    refine (ground_Ground_SetReg_nil.calls a1947 a1949 t2035 _ ⟨Sep.start _⟩ HA2036).mono ?_
    rintro e_ w2037 ⟨rfl, hS⟩
    replace HS : Aside0 (Sep FF w [b12 g1952, b9 g1954 a1955, b10 g1956 a1946 a1947 a1948] w2037) := ⟨HS.out.call hS⟩
    clear hS
    replace HS : Aside0 (Sep FF w [b12 g1952, b9 g1954 a1955] w2037) := ⟨HS.out.sub (.cons_cons _ (.cons_cons _ (.cons _ .slnil)))⟩
    go_wp2_with fail
    first | go_end0 | refine bodyPost_ret (results_none rfl _ _ _) rfl ?_
    clear H
    exact ⟨rfl, HS.out⟩
  · have H := if_no c2009 H
    have c2009b0 : (a1950 == 0) = false := beq_eq_false_iff_ne.mpr c2009
    have c2009b1 : (a1950 != 0) = true := bne_iff_ne.mpr c2009
    clear c2009
    go_wp2_with fail
    refine start_ (n := 9) (S := (fun w' => w'.cell? ⟨g1952, 0, none⟩ = some (.pointer none) ∧ w'.cell? ⟨g1956, 1, none⟩ = some (.int .i64 a1947))) (ds := []) #[false, false, false, false, false, false, false, false, false] (by kernel_rfl) rfl rfl (⟨blk_cellv ((HS.out.drew).at0) 0 rfl, blk_cellv ((HS.out.drew).at2) 1 rfl⟩) (fun hHeld => ?_)
    have HS_ := Aside0.mk HS.out.drew
    clear HS
    generalize World.drew _ = w2039 at HS_ hHeld ⊢
    have HS := HS_
    clear HS_
    refine pure_ (i := 2) (N := some 20) (v := ?_) (a' := ?_) #[false, false, true, false, false, false, false, false, false] rfl rfl (by kernel_rfl) (fun _ _ _ h => h) (Or.inl ⟨by rfl, ?_⟩) ?_ ?_
    rotate_left
    · intro w'
      go_simp
      with_reducible rfl
    rotate_left
    · simp only [Act.put, List.setIfInBounds_toArray, List.set_cons_zero, List.set_cons_succ, i64_w, i32_w]
      rfl
    refine pure_ (i := 6) (N := some 24) (v := ?_) (a' := ?_) #[false, false, true, false, false, false, true, false, false] rfl rfl (by kernel_rfl) (fun _ _ _ h => h) (Or.inl ⟨by rfl, ?_⟩) ?_ ?_
    rotate_left
    · intro w'
      go_simp
      with_reducible rfl
    rotate_left
    · simp only [Act.put, List.setIfInBounds_toArray, List.set_cons_zero, List.set_cons_succ, i64_w, i32_w]
      rfl
    refine pure_ (i := 7) (N := some 25) (v := ?_) (a' := ?_) #[false, false, true, false, false, false, true, true, false] rfl rfl (by kernel_rfl) (fun _ _ _ h => h) (Or.inl ⟨by rfl, ?_⟩) ?_ ?_
    rotate_left
    · intro w'
      go_simp
      with_reducible rfl
    rotate_left
    · simp only [Act.put, List.setIfInBounds_toArray, List.set_cons_zero, List.set_cons_succ, i64_w, i32_w]
      rfl
    refine take_ (i := 0) (N := some 18) (v := ?_) (a' := ?_) #[true, false, true, false, false, false, true, true, false] rfl rfl (by kernel_rfl) (fun _ _ _ h => h) (Or.inl ⟨by rfl, ?_⟩) hHeld ?_ ?_
    rotate_left
    · rintro w' hS'
      obtain ⟨s0, s1⟩ := hS'
      go_simp
      with_reducible rfl
    rotate_left
    · simp only [Act.put, List.setIfInBounds_toArray, List.set_cons_zero, List.set_cons_succ, i64_w, i32_w]
      rfl
    refine take_ (i := 1) (N := some 19) (v := ?_) (a' := ?_) #[true, true, true, false, false, false, true, true, false] rfl rfl (by kernel_rfl) (fun _ _ _ h => h) (Or.inl ⟨by rfl, ?_⟩) hHeld ?_ ?_
    rotate_left
    · rintro w' hS'
      obtain ⟨s0, s1⟩ := hS'
      go_simp
      with_reducible rfl
    rotate_left
    · simp only [Act.put, List.setIfInBounds_toArray, List.set_cons_zero, List.set_cons_succ, i64_w, i32_w]
      rfl
    refine take_ (i := 3) (N := some 21) (v := ?_) (a' := ?_) #[true, true, true, true, false, false, true, true, false] rfl rfl (by kernel_rfl) (fun _ _ _ h => h) (Or.inl ⟨by rfl, ?_⟩) hHeld ?_ ?_
    rotate_left
    · rintro w' hS'
      obtain ⟨s0, s1⟩ := hS'
      go_simp
      with_reducible rfl
    rotate_left
    · simp only [Act.put, List.setIfInBounds_toArray, List.set_cons_zero, List.set_cons_succ, i64_w, i32_w]
      rfl
    refine one_ (i := 4) (N := some 22) #[true, true, true, true, true, false, true, true, false] rfl rfl (by kernel_rfl) (by decide) (fun K hK => ?_)
    obtain ⟨t2040, HA2041, H⟩ := bind_some H
    refine goes_ Try.func36 (by kernel_rfl) rfl #[.pointer none, .int .i64 a1947] (by rfl) rfl rfl (by (try simp only [List.map_toArray, List.map_cons, List.map_nil]); first | done | rfl) ?_
    refine (ground_Ground_Reg_nil.calls a1947 t2040 _ ⟨Sep.start _⟩ HA2041).mono ?_
    rintro e_ w2042 ⟨rfl, hS⟩
    replace HS : Aside0 (Sep FF w [b12 g1952, b9 g1954 a1955, b10 g1956 a1946 a1947 a1948] w2042) := ⟨HS.out.call hS⟩
    clear hS
    refine ⟨_, rfl, ?_⟩
    refine hK.out _ _ (⟨blk_cellv (HS.out.at0) 0 rfl, blk_cellv (HS.out.at2) 1 rfl⟩) (fun hHeld => ?_)
    clear hK K
    refine norm_ (a' := ?_) ?_ ?_
    rotate_left
    · show Act.put _ (some 22) _ = _
      simp only [Act.put, List.setIfInBounds_toArray, List.set_cons_zero, List.set_cons_succ, i64_w, i32_w]
      rfl
    refine pure_ (i := 5) (N := some 23) (v := ?_) (a' := ?_) #[true, true, true, true, true, true, true, true, false] rfl rfl (by kernel_rfl) (fun _ _ _ h => h) (Or.inl ⟨by rfl, ?_⟩) ?_ ?_
    rotate_left
    · intro w'
      go_simp
      with_reducible rfl
    rotate_left
    · simp only [Act.put, List.setIfInBounds_toArray, List.set_cons_zero, List.set_cons_succ, i64_w, i32_w]
      rfl
    refine one_ (i := 8) (N := some 26) #[true, true, true, true, true, true, true, true, true] rfl rfl (by kernel_rfl) (by decide) (fun K hK => ?_)
    obtain ⟨t2043, HA2044, H⟩ := bind_some H
    refine goes_ Try.func46 (by kernel_rfl) rfl #[.pointer none, .int .i64 (wrap64 (t2040 - 1)), .int .i64 5, .int .u32 ((a1949) % 4294967296)] (by rfl) rfl rfl (by (try simp only [List.map_toArray, List.map_cons, List.map_nil]); first | done | rfl) ?_
    refine (ground_Ground_SetWord_nil.calls (wrap64 (t2040 - 1)) 5 ((a1949) % 4294967296) t2043 _ ⟨Sep.start _⟩ HA2044).mono ?_
    rintro e_ w2045 ⟨rfl, hS⟩
    replace HS : Aside0 (Sep FF w [b12 g1952, b9 g1954 a1955, b10 g1956 a1946 a1947 a1948] w2045) := ⟨HS.out.call hS⟩
    clear hS
    refine ⟨_, rfl, ?_⟩
    refine hK.out _ _ (⟨blk_cellv (HS.out.at0) 0 rfl, blk_cellv (HS.out.at2) 1 rfl⟩) (fun hHeld => ?_)
    clear hK K
    refine norm_ (a' := ?_) ?_ ?_
    rotate_left
    · show Act.put _ (some 26) _ = _
      simp only [Act.put, List.setIfInBounds_toArray, List.set_cons_zero, List.set_cons_succ, i64_w, i32_w]
      rfl
    refine done_ (by kernel_rfl) ?_
    have hc2046 : w2045.cell? ⟨g1952, 0, none⟩ = some (.pointer none) := blk_cellv (HS.out.at0) 0 rfl
    have hc2047 : w2045.cell? ⟨g1956, 1, none⟩ = some (.int .i64 a1947) := blk_cellv (HS.out.at2) 1 rfl
    go_wp2_with fail
    clear hc2046 hc2047
    obtain ⟨t2035, HA2048, H⟩ := bind_some H
    refine (ground_Ground_SetReg_nil.calls a1947 a1949 t2035 _ ⟨Sep.start _⟩ HA2048).mono ?_
    rintro e_ w2049 ⟨rfl, hS⟩
    replace HS : Aside0 (Sep FF w [b12 g1952, b9 g1954 a1955, b10 g1956 a1946 a1947 a1948] w2049) := ⟨HS.out.call hS⟩
    clear hS
    replace HS : Aside0 (Sep FF w [b12 g1952, b9 g1954 a1955] w2049) := ⟨HS.out.sub (.cons_cons _ (.cons_cons _ (.cons _ .slnil)))⟩
    go_wp2_with fail
    first | go_end0 | refine bodyPost_ret (results_none rfl _ _ _) rfl ?_
    clear H
    exact ⟨rfl, HS.out⟩

set_option maxHeartbeats 30000000 in
set_option maxRecDepth 100000 in
theorem chain_put_nil_F89.calls (a1866 : Int) (a1867 : Int) (a1872 : Int) (g1869 : Nat) (g1871 : Nat) (r : Bool) (w : World)   (HS : Aside0 (Sep (fps [b12 g1869, b9 g1871 a1872]) w [b12 g1869, b9 g1871 a1872] w)) (H : Aside0 (chain_put_nil_F89.f a1866 a1867 a1872 = some r)) :
    Calls Try.prog 88 #[.pointer none, .int .i64 a1866, .int .i64 a1867, .func (.func 89) #[] #[.pointer (some ⟨g1869, 0, none⟩), .pointer (some ⟨g1871, 0, none⟩)]] w fun e w' => e = .returned (.bool r) ∧ Sep (fps [b12 g1869, b9 g1871 a1872]) w [b12 g1869, b9 g1871 a1872] w' := by
  generalize (fps [b12 g1869, b9 g1871 a1872]) = FF at HS ⊢
  unfold chain_put_nil_F89.f at H
  go_enter Try.func88, Try.ntmps88
  go_wp2_with fail
  obtain ⟨t1887, HA1888, H⟩ := bind_some H
  refine (chain_of_nil.calls a1866 t1887 _ ⟨Sep.start _⟩ HA1888).mono ?_
  rintro e_ w1889 ⟨rfl, hS⟩
  replace HS : Aside0 (Sep FF w [b12 g1869, b9 g1871 a1872] w1889) := ⟨HS.out.call hS⟩
  clear hS
  by_cases c1900 : t1887.2.2.2 = true
  · have H := if_yes c1900 H
    have c1900b0 : t1887.2.2.2 = true := c1900
    have c1900b1 : (!t1887.2.2.2) = false := by rw [c1900b0]; rfl
    try rw [c1900b1]
    clear c1900
    by_cases c1901 : a1867 < 0
    · have H := if_yes c1901 H
      have c1901b0 : decide (a1867 < 0) = true := decide_eq_true c1901
      clear c1901
      go_wp2_with (first | ((with_reducible refine gate_dst (N := 9) rfl ?_); refine box_on ?hg (N := 9) ?hd (cs := #[.int .i64 0, .int .i64 0, .int .i64 0]) (t := 134) ?hr ?_; (case hd => rfl); (case hg => rfl); (case hr => first | (go_simp; done) | (go_simp; rfl)); intro g1890 hg w1891 hbox hb; replace HS : Aside0 (Sep FF w [b12 g1869, b9 g1871 a1872, b10 g1890 0 0 0] w1891) := ⟨HS.out.box hg hbox hb⟩; clear hg hbox hb; have hc1893 : w1891.cell? ⟨g1890, 0, none⟩ = some (.int .i64 0) := blk_cellv (HS.out.at2) 0 rfl; have hz1894 : w1891.frozen? ⟨g1890, 0, none⟩ = false := blk_fz (HS.out.at2) 0; have hc1895 : w1891.cell? ⟨g1890, 1, none⟩ = some (.int .i64 0) := blk_cellv (HS.out.at2) 1 rfl; have hz1896 : w1891.frozen? ⟨g1890, 1, none⟩ = false := blk_fz (HS.out.at2) 1; have hc1897 : w1891.cell? ⟨g1890, 2, none⟩ = some (.int .i64 0) := blk_cellv (HS.out.at2) 2 rfl; have hz1898 : w1891.frozen? ⟨g1890, 2, none⟩ = false := blk_fz (HS.out.at2) 2) | ((with_reducible refine gate_store (t := 134) (p := 9) rfl ?_); refine store_event (w1 := (World.setCell (World.setCell (World.setCell w1891 ⟨g1890, 0, none⟩ (.int .i64 t1887.1)) ⟨g1890, 1, none⟩ (.int .i64 t1887.2.1)) ⟨g1890, 2, none⟩ (.int .i64 t1887.2.2.1))) rfl (t := 134) (p := 9) rfl rfl ?hr ?_; (case hr => first | (go_simp; done) | (go_simp; rfl)); intro w1899 hst; clear hc1893 hz1894 hc1895 hz1896 hc1897 hz1898; replace HS : Aside0 (Sep FF w [b12 g1869, b9 g1871 a1872, b10 g1890 t1887.1 t1887.2.1 t1887.2.2.1] w1899) := ⟨by rw [hst]; exact HS.out.setAll (l1 := [b12 g1869, b9 g1871 a1872]) (l2 := []) [.int .i64 t1887.1, .int .i64 t1887.2.1, .int .i64 t1887.2.2.1] rfl⟩; clear hst; replace HS : Aside0 (Sep FF w [b12 g1869, b9 g1871 a1872] w1899) := ⟨HS.out.sub (.cons_cons _ (.cons_cons _ (.cons _ .slnil)))⟩))
      go_ret
      rw [← some_eq H]
      exact ⟨(by first | rfl | (simp [IntKind.wrap_u32]; done)), HS.out⟩
    · have H := if_no c1901 H
      have c1901b0 : decide (a1867 < 0) = false := decide_eq_false c1901
      clear c1901
      go_wp2_with (first | ((with_reducible refine gate_dst (N := 9) rfl ?_); refine box_on ?hg (N := 9) ?hd (cs := #[.int .i64 0, .int .i64 0, .int .i64 0]) (t := 134) ?hr ?_; (case hd => rfl); (case hg => rfl); (case hr => first | (go_simp; done) | (go_simp; rfl)); intro g1890 hg w1891 hbox hb; replace HS : Aside0 (Sep FF w [b12 g1869, b9 g1871 a1872, b10 g1890 0 0 0] w1891) := ⟨HS.out.box hg hbox hb⟩; clear hg hbox hb; have hc1893 : w1891.cell? ⟨g1890, 0, none⟩ = some (.int .i64 0) := blk_cellv (HS.out.at2) 0 rfl; have hz1894 : w1891.frozen? ⟨g1890, 0, none⟩ = false := blk_fz (HS.out.at2) 0; have hc1895 : w1891.cell? ⟨g1890, 1, none⟩ = some (.int .i64 0) := blk_cellv (HS.out.at2) 1 rfl; have hz1896 : w1891.frozen? ⟨g1890, 1, none⟩ = false := blk_fz (HS.out.at2) 1; have hc1897 : w1891.cell? ⟨g1890, 2, none⟩ = some (.int .i64 0) := blk_cellv (HS.out.at2) 2 rfl; have hz1898 : w1891.frozen? ⟨g1890, 2, none⟩ = false := blk_fz (HS.out.at2) 2) | ((with_reducible refine gate_store (t := 134) (p := 9) rfl ?_); refine store_event (w1 := (World.setCell (World.setCell (World.setCell w1891 ⟨g1890, 0, none⟩ (.int .i64 t1887.1)) ⟨g1890, 1, none⟩ (.int .i64 t1887.2.1)) ⟨g1890, 2, none⟩ (.int .i64 t1887.2.2.1))) rfl (t := 134) (p := 9) rfl rfl ?hr ?_; (case hr => first | (go_simp; done) | (go_simp; rfl)); intro w1899 hst; clear hc1893 hz1894 hc1895 hz1896 hc1897 hz1898; replace HS : Aside0 (Sep FF w [b12 g1869, b9 g1871 a1872, b10 g1890 t1887.1 t1887.2.1 t1887.2.2.1] w1899) := ⟨by rw [hst]; exact HS.out.setAll (l1 := [b12 g1869, b9 g1871 a1872]) (l2 := []) [.int .i64 t1887.1, .int .i64 t1887.2.1, .int .i64 t1887.2.2.1] rfl⟩; clear hst))
      obtain ⟨t1918, HA1919, H⟩ := bind_some H
      refine (ground_Ground_Conf_nil.calls t1918 _ ⟨Sep.start _⟩ HA1919).mono ?_
      rintro e_ w1920 ⟨rfl, hS⟩
      replace HS : Aside0 (Sep FF w [b12 g1869, b9 g1871 a1872, b10 g1890 t1887.1 t1887.2.1 t1887.2.2.1] w1920) := ⟨HS.out.call hS⟩
      clear hS
      by_cases c1922 : a1867 ≥ t1918.1
      · have H := if_yes c1922 H
        have c1922b0 : decide (t1918.1 ≤ a1867) = true := decide_eq_true c1922
        clear c1922
        have fl1921 : ∀ w, (Instr.field 49 (.agg #[.int .i64 t1918.1, .int .i64 t1918.2.1, .int .i64 t1918.2.2.1, .int .i64 t1918.2.2.2]) 0).run Try.prog w = .ok (.int .i64 t1918.1) w := fun _ => by kernel_rfl
        replace HS : Aside0 (Sep FF w [b12 g1869, b9 g1871 a1872] w1920) := ⟨HS.out.sub (.cons_cons _ (.cons_cons _ (.cons _ .slnil)))⟩
        go_wp2_with fail
        clear fl1921
        go_ret
        rw [← some_eq H]
        exact ⟨(by first | rfl | (simp [IntKind.wrap_u32]; done)), HS.out⟩
      · have H := if_no c1922 H
        have c1922b0 : decide (t1918.1 ≤ a1867) = false := decide_eq_false c1922
        clear c1922
        have fl1921 : ∀ w, (Instr.field 49 (.agg #[.int .i64 t1918.1, .int .i64 t1918.2.1, .int .i64 t1918.2.2.1, .int .i64 t1918.2.2.2]) 0).run Try.prog w = .ok (.int .i64 t1918.1) w := fun _ => by kernel_rfl
        have hc1923 : w1920.cell? ⟨g1890, 2, none⟩ = some (.int .i64 t1887.2.2.1) := blk_cellv (HS.out.at2) 2 rfl
        go_wp2_with fail
        clear fl1921 hc1923
        obtain ⟨t1940, HA1941, H⟩ := bind_some H
        refine (ground_Ground_Reg_nil.calls t1887.2.2.1 t1940 _ ⟨Sep.start _⟩ HA1941).mono ?_
        rintro e_ w1942 ⟨rfl, hS⟩
        replace HS : Aside0 (Sep FF w [b12 g1869, b9 g1871 a1872, b10 g1890 t1887.1 t1887.2.1 t1887.2.2.1] w1942) := ⟨HS.out.call hS⟩
        clear hS
        have hc1943 : w1942.cell? ⟨g1890, 0, none⟩ = some (.int .i64 t1887.1) := blk_cellv (HS.out.at2) 0 rfl
        have hc1944 : w1942.cell? ⟨g1890, 1, none⟩ = some (.int .i64 t1887.2.1) := blk_cellv (HS.out.at2) 1 rfl
        have hc1945 : w1942.cell? ⟨g1890, 2, none⟩ = some (.int .i64 t1887.2.2.1) := blk_cellv (HS.out.at2) 2 rfl
        go_wp2_with fail
        clear hc1943 hc1944 hc1945
        obtain ⟨t2050, HA2051, H⟩ := bind_some H
        refine (chain_Add_1_1.calls t1887.1 t1887.2.1 t1887.2.2.1 (wrap64 (a1867 + 1)) t1940 a1872 g1869 g1871 t2050 _ ⟨HS.out.begin⟩ HA2051).mono ?_
        rintro e_ w2052 ⟨rfl, hS⟩
        replace HS : Aside0 (Sep FF w [b12 g1869, b9 g1871 a1872, b10 g1890 t1887.1 t1887.2.1 t1887.2.2.1] w2052) := ⟨HS.out.call hS⟩
        clear hS
        have hc2053 : w2052.cell? ⟨g1890, 2, none⟩ = some (.int .i64 t1887.2.2.1) := blk_cellv (HS.out.at2) 2 rfl
        go_wp2_with fail
        clear hc2053
        obtain ⟨t2054, HA2055, H⟩ := bind_some H
        refine (ground_Ground_SetReg_nil.calls t1887.2.2.1 (wrap64 (t1940 + 1)) t2054 _ ⟨Sep.start _⟩ HA2055).mono ?_
        rintro e_ w2056 ⟨rfl, hS⟩
        replace HS : Aside0 (Sep FF w [b12 g1869, b9 g1871 a1872, b10 g1890 t1887.1 t1887.2.1 t1887.2.2.1] w2056) := ⟨HS.out.call hS⟩
        clear hS
        replace HS : Aside0 (Sep FF w [b12 g1869, b9 g1871 a1872] w2056) := ⟨HS.out.sub (.cons_cons _ (.cons_cons _ (.cons _ .slnil)))⟩
        go_wp2_with fail
        go_ret
        rw [← some_eq H]
        exact ⟨(by first | rfl | (simp [IntKind.wrap_u32]; done)), HS.out⟩
  · have H := if_no c1900 H
    have c1900b0 : t1887.2.2.2 = false := by simpa using c1900
    have c1900b1 : (!t1887.2.2.2) = true := by rw [c1900b0]; rfl
    try rw [c1900b1]
    clear c1900
    go_wp2_with (first | ((with_reducible refine gate_dst (N := 9) rfl ?_); refine box_on ?hg (N := 9) ?hd (cs := #[.int .i64 0, .int .i64 0, .int .i64 0]) (t := 134) ?hr ?_; (case hd => rfl); (case hg => rfl); (case hr => first | (go_simp; done) | (go_simp; rfl)); intro g1890 hg w1891 hbox hb; replace HS : Aside0 (Sep FF w [b12 g1869, b9 g1871 a1872, b10 g1890 0 0 0] w1891) := ⟨HS.out.box hg hbox hb⟩; clear hg hbox hb; have hc1893 : w1891.cell? ⟨g1890, 0, none⟩ = some (.int .i64 0) := blk_cellv (HS.out.at2) 0 rfl; have hz1894 : w1891.frozen? ⟨g1890, 0, none⟩ = false := blk_fz (HS.out.at2) 0; have hc1895 : w1891.cell? ⟨g1890, 1, none⟩ = some (.int .i64 0) := blk_cellv (HS.out.at2) 1 rfl; have hz1896 : w1891.frozen? ⟨g1890, 1, none⟩ = false := blk_fz (HS.out.at2) 1; have hc1897 : w1891.cell? ⟨g1890, 2, none⟩ = some (.int .i64 0) := blk_cellv (HS.out.at2) 2 rfl; have hz1898 : w1891.frozen? ⟨g1890, 2, none⟩ = false := blk_fz (HS.out.at2) 2) | ((with_reducible refine gate_store (t := 134) (p := 9) rfl ?_); refine store_event (w1 := (World.setCell (World.setCell (World.setCell w1891 ⟨g1890, 0, none⟩ (.int .i64 t1887.1)) ⟨g1890, 1, none⟩ (.int .i64 t1887.2.1)) ⟨g1890, 2, none⟩ (.int .i64 t1887.2.2.1))) rfl (t := 134) (p := 9) rfl rfl ?hr ?_; (case hr => first | (go_simp; done) | (go_simp; rfl)); intro w1899 hst; clear hc1893 hz1894 hc1895 hz1896 hc1897 hz1898; replace HS : Aside0 (Sep FF w [b12 g1869, b9 g1871 a1872, b10 g1890 t1887.1 t1887.2.1 t1887.2.2.1] w1899) := ⟨by rw [hst]; exact HS.out.setAll (l1 := [b12 g1869, b9 g1871 a1872]) (l2 := []) [.int .i64 t1887.1, .int .i64 t1887.2.1, .int .i64 t1887.2.2.1] rfl⟩; clear hst; replace HS : Aside0 (Sep FF w [b12 g1869, b9 g1871 a1872] w1899) := ⟨HS.out.sub (.cons_cons _ (.cons_cons _ (.cons _ .slnil)))⟩))
    go_ret
    rw [← some_eq H]
    exact ⟨(by first | rfl | (simp [IntKind.wrap_u32]; done)), HS.out⟩

set_option maxHeartbeats 30000000 in
set_option maxRecDepth 100000 in
theorem chain_Add_nil.calls (a1856 : Int) (a1857 : Int) (r : Bool) (w : World)   (HS : Aside0 (Sep (fps []) w [] w)) (H : Aside0 (chain_Add_nil.f a1856 a1857 = some r)) :
    Calls Try.prog 52 #[.pointer none, .int .i64 a1856, .int .i64 a1857] w fun e w' => e = .returned (.bool r) ∧ Sep (fps []) w [] w' := by
  unfold chain_Add_nil.f at H
  go_enter Try.func52, Try.ntmps52
  go_wp2_with (first | ((with_reducible refine gate_dst (N := 3) rfl ?_); refine box_on ?hg (N := 3) ?hd (cs := #[.pointer none]) (t := 50) ?hr ?_; (case hd => rfl); (case hg => rfl); (case hr => first | (go_simp; done) | (go_simp; rfl)); intro g1858 hg w1859 hbox hb; replace HS : Aside0 (Sep (fps []) w [b12 g1858] w1859) := ⟨HS.out.box hg hbox hb⟩; clear hg hbox hb) | ((with_reducible refine gate_dst (N := 5) rfl ?_); refine box_on ?hg (N := 5) ?hd (cs := #[.int .i64 a1857]) (t := 3) ?hr ?_; (case hd => rfl); (case hg => rfl); (case hr => first | (go_simp; done) | (go_simp; rfl)); intro g1861 hg w1862 hbox hb; replace HS : Aside0 (Sep (fps []) w [b12 g1858, b9 g1861 a1857] w1862) := ⟨HS.out.box hg hbox hb⟩; clear hg hbox hb; have hc1864 : w1862.cell? ⟨g1858, 0, none⟩ = some (.pointer none) := blk_cellv (HS.out.at0) 0 rfl; have hc1865 : w1862.cell? ⟨g1861, 0, none⟩ = some (.int .i64 a1857) := blk_cellv (HS.out.at1) 0 rfl))
  clear hc1864 hc1865
  obtain ⟨t2057, HA2058, H⟩ := bind_some H
  refine (chain_put_nil_F89.calls a1856 a1857 a1857 g1858 g1861 t2057 _ ⟨HS.out.begin⟩ HA2058).mono ?_
  rintro e_ w2059 ⟨rfl, hS⟩
  replace HS : Aside0 (Sep (fps []) w [b12 g1858, b9 g1861 a1857] w2059) := ⟨HS.out.call hS⟩
  clear hS
  replace HS : Aside0 (Sep (fps []) w [] w2059) := ⟨HS.out.sub (.cons _ (.cons _ .slnil))⟩
  go_wp2_with fail
  go_ret
  rw [← some_eq H]
  exact ⟨(by first | rfl | (simp [IntKind.wrap_u32]; done)), HS.out⟩

set_option maxHeartbeats 30000000 in
set_option maxRecDepth 100000 in
theorem chain_Push_1_1.calls (a2110 : Int) (a2111 : Int) (a2112 : Int) (a2113 : Int) (a2114 : Int) (a2119 : Int) (g2116 : Nat) (g2118 : Nat) (r : Unit) (w : World)   (HS : Aside0 (Sep (fps [b12 g2116, b9 g2118 a2119]) w [b12 g2116, b9 g2118 a2119] w)) (H : Aside0 (chain_Push_1_1.f a2110 a2111 a2112 a2113 a2114 a2119 = some r)) :
    Calls Try.prog 90 #[.agg #[.int .i64 a2110, .int .i64 a2111, .int .i64 a2112], .int .i64 a2113, .int .i64 a2114, .pointer (some ⟨g2116, 0, none⟩), .pointer (some ⟨g2118, 0, none⟩)] w fun e w' => e = .returned (.tuple #[]) ∧ Sep (fps [b12 g2116, b9 g2118 a2119]) w [b12 g2116, b9 g2118 a2119] w' := by
  generalize (fps [b12 g2116, b9 g2118 a2119]) = FF at HS ⊢
  unfold chain_Push_1_1.f at H
  go_enter Try.func90, Try.ntmps90
  go_wp2_with (first | ((with_reducible refine gate_dst (N := 5) rfl ?_); refine box_on ?hg (N := 5) ?hd (cs := #[.int .i64 a2110, .int .i64 a2111, .int .i64 a2112]) (t := 134) ?hr ?_; (case hd => rfl); (case hg => rfl); (case hr => first | (go_simp; done) | (go_simp; rfl)); intro g2120 hg w2121 hbox hb; replace HS : Aside0 (Sep FF w [b12 g2116, b9 g2118 a2119, b10 g2120 a2110 a2111 a2112] w2121) := ⟨HS.out.box hg hbox hb⟩; clear hg hbox hb))
  refine start_ (n := 8) (S := (fun w' => w'.cell? ⟨g2116, 0, none⟩ = some (.pointer none) ∧ w'.cell? ⟨g2118, 0, none⟩ = some (.int .i64 a2119) ∧ w'.cell? ⟨g2120, 0, none⟩ = some (.int .i64 a2110))) (ds := []) #[false, false, false, false, false, false, false, false] (by kernel_rfl) rfl rfl (⟨blk_cellv ((HS.out.drew).at0) 0 rfl, blk_cellv ((HS.out.drew).at1) 0 rfl, blk_cellv ((HS.out.drew).at2) 0 rfl⟩) (fun hHeld => ?_)
  have HS_ := Aside0.mk HS.out.drew
  clear HS
  generalize World.drew _ = w2124 at HS_ hHeld ⊢
  have HS := HS_
  clear HS_
  refine pure_ (i := 3) (N := some 11) (v := ?_) (a' := ?_) #[false, false, false, true, false, false, false, false] rfl rfl (by kernel_rfl) (fun _ _ _ h => h) (Or.inl ⟨by rfl, ?_⟩) ?_ ?_
  rotate_left
  · intro w'
    go_simp
    with_reducible rfl
  rotate_left
  · simp only [Act.put, List.setIfInBounds_toArray, List.set_cons_zero, List.set_cons_succ, i64_w, i32_w]
    rfl
  refine take_ (i := 0) (N := some 8) (v := ?_) (a' := ?_) #[true, false, false, true, false, false, false, false] rfl rfl (by kernel_rfl) (fun _ _ _ h => h) (Or.inl ⟨by rfl, ?_⟩) hHeld ?_ ?_
  rotate_left
  · rintro w' hS'
    obtain ⟨s0, s1, s2⟩ := hS'
    go_simp
    with_reducible rfl
  rotate_left
  · simp only [Act.put, List.setIfInBounds_toArray, List.set_cons_zero, List.set_cons_succ, i64_w, i32_w]
    rfl
  refine take_ (i := 1) (N := some 9) (v := ?_) (a' := ?_) #[true, true, false, true, false, false, false, false] rfl rfl (by kernel_rfl) (fun _ _ _ h => h) (Or.inl ⟨by rfl, ?_⟩) hHeld ?_ ?_
  rotate_left
  · rintro w' hS'
    obtain ⟨s0, s1, s2⟩ := hS'
    go_simp
    with_reducible rfl
  rotate_left
  · simp only [Act.put, List.setIfInBounds_toArray, List.set_cons_zero, List.set_cons_succ, i64_w, i32_w]
    rfl
  refine take_ (i := 2) (N := some 10) (v := ?_) (a' := ?_) #[true, true, true, true, false, false, false, false] rfl rfl (by kernel_rfl) (fun _ _ _ h => h) (Or.inl ⟨by rfl, ?_⟩) hHeld ?_ ?_
  rotate_left
  · rintro w' hS'
    obtain ⟨s0, s1, s2⟩ := hS'
    go_simp
    with_reducible rfl
  rotate_left
  · simp only [Act.put, List.setIfInBounds_toArray, List.set_cons_zero, List.set_cons_succ, i64_w, i32_w]
    rfl
  refine take_ (i := 4) (N := some 12) (v := ?_) (a' := ?_) #[true, true, true, true, true, false, false, false] rfl rfl (by kernel_rfl) (fun _ _ _ h => h) (Or.inl ⟨by rfl, ?_⟩) hHeld ?_ ?_
  rotate_left
  · rintro w' hS'
    obtain ⟨s0, s1, s2⟩ := hS'
    go_simp
    with_reducible rfl
  rotate_left
  · simp only [Act.put, List.setIfInBounds_toArray, List.set_cons_zero, List.set_cons_succ, i64_w, i32_w]
    rfl
  refine one_ (i := 5) (N := some 13) #[true, true, true, true, true, true, false, false] rfl rfl (by kernel_rfl) (by decide) (fun K hK => ?_)
  obtain ⟨t2125, HA2126, H⟩ := bind_some H
  refine goes_ Try.func36 (by kernel_rfl) rfl #[.pointer none, .int .i64 a2110] (by rfl) rfl rfl (by (try simp only [List.map_toArray, List.map_cons, List.map_nil]); first | done | rfl) ?_
  refine (ground_Ground_Reg_nil.calls a2110 t2125 _ ⟨Sep.start _⟩ HA2126).mono ?_
  rintro e_ w2127 ⟨rfl, hS⟩
  replace HS : Aside0 (Sep FF w [b12 g2116, b9 g2118 a2119, b10 g2120 a2110 a2111 a2112] w2127) := ⟨HS.out.call hS⟩
  clear hS
  refine ⟨_, rfl, ?_⟩
  refine hK.out _ _ (⟨blk_cellv (HS.out.at0) 0 rfl, blk_cellv (HS.out.at1) 0 rfl, blk_cellv (HS.out.at2) 0 rfl⟩) (fun hHeld => ?_)
  clear hK K
  refine norm_ (a' := ?_) ?_ ?_
  rotate_left
  · show Act.put _ (some 13) _ = _
    simp only [Act.put, List.setIfInBounds_toArray, List.set_cons_zero, List.set_cons_succ, i64_w, i32_w]
    rfl
  refine pure_ (i := 6) (N := some 14) (v := ?_) (a' := ?_) #[true, true, true, true, true, true, true, false] rfl rfl (by kernel_rfl) (fun _ _ _ h => h) (Or.inl ⟨by rfl, ?_⟩) ?_ ?_
  rotate_left
  · intro w'
    go_simp
    with_reducible rfl
  rotate_left
  · simp only [Act.put, List.setIfInBounds_toArray, List.set_cons_zero, List.set_cons_succ, i64_w, i32_w]
    rfl
  refine one_ (i := 7) (N := some 15) #[true, true, true, true, true, true, true, true] rfl rfl (by kernel_rfl) (by decide) (fun K hK => ?_)
  obtain ⟨t2128, HA2129, H⟩ := bind_some H
  refine goes_ Try.func46 (by kernel_rfl) rfl #[.pointer none, .int .i64 a2119, .int .i64 5, .int .u32 ((t2125) % 4294967296)] (by rfl) rfl rfl (by (try simp only [List.map_toArray, List.map_cons, List.map_nil]); first | done | rfl) ?_
  refine (ground_Ground_SetWord_nil.calls a2119 5 ((t2125) % 4294967296) t2128 _ ⟨Sep.start _⟩ HA2129).mono ?_
  rintro e_ w2130 ⟨rfl, hS⟩
  replace HS : Aside0 (Sep FF w [b12 g2116, b9 g2118 a2119, b10 g2120 a2110 a2111 a2112] w2130) := ⟨HS.out.call hS⟩
  clear hS
  refine ⟨_, rfl, ?_⟩
  refine hK.out _ _ (⟨blk_cellv (HS.out.at0) 0 rfl, blk_cellv (HS.out.at1) 0 rfl, blk_cellv (HS.out.at2) 0 rfl⟩) (fun hHeld => ?_)
  clear hK K
  refine norm_ (a' := ?_) ?_ ?_
  rotate_left
  · show Act.put _ (some 15) _ = _
    simp only [Act.put, List.setIfInBounds_toArray, List.set_cons_zero, List.set_cons_succ, i64_w, i32_w]
    rfl
  refine done_ (by kernel_rfl) ?_
  have hc2131 : w2130.cell? ⟨g2116, 0, none⟩ = some (.pointer none) := blk_cellv (HS.out.at0) 0 rfl
  have hc2132 : w2130.cell? ⟨g2120, 0, none⟩ = some (.int .i64 a2110) := blk_cellv (HS.out.at2) 0 rfl
  go_wp2_with fail
  clear hc2131 hc2132
  obtain ⟨t2133, HA2134, H⟩ := bind_some H
  refine (ground_Ground_SetReg_nil.calls a2110 a2113 t2133 _ ⟨Sep.start _⟩ HA2134).mono ?_
  rintro e_ w2135 ⟨rfl, hS⟩
  replace HS : Aside0 (Sep FF w [b12 g2116, b9 g2118 a2119, b10 g2120 a2110 a2111 a2112] w2135) := ⟨HS.out.call hS⟩
  clear hS
  by_cases c2136 : a2114 = 0
  · have H := if_yes c2136 H
    have c2136b0 : (a2114 == 0) = true := beq_iff_eq.mpr c2136
    have c2136b1 : (a2114 != 0) = false := bne_eq_false_iff_eq.mpr c2136
    clear c2136
    have hc2137 : w2135.cell? ⟨g2116, 0, none⟩ = some (.pointer none) := blk_cellv (HS.out.at0) 0 rfl
    have hc2138 : w2135.cell? ⟨g2120, 1, none⟩ = some (.int .i64 a2111) := blk_cellv (HS.out.at2) 1 rfl
    go_wp2_with fail
    clear hc2137 hc2138
    obtain ⟨t2139, HA2140, H⟩ := bind_some H
    refine (ground_Ground_SetReg_nil.calls a2111 a2113 t2139 _ ⟨Sep.start _⟩ HA2140).mono ?_
    rintro e_ w2141 ⟨rfl, hS⟩
    replace HS : Aside0 (Sep FF w [b12 g2116, b9 g2118 a2119, b10 g2120 a2110 a2111 a2112] w2141) := ⟨HS.out.call hS⟩
    clear hS
    replace HS : Aside0 (Sep FF w [b12 g2116, b9 g2118 a2119] w2141) := ⟨HS.out.sub (.cons_cons _ (.cons_cons _ (.cons _ .slnil)))⟩
    go_wp2_with fail
    first | go_end0 | refine bodyPost_ret (results_none rfl _ _ _) rfl ?_
    clear H
    exact ⟨rfl, HS.out⟩
  · have H := if_no c2136 H
    have c2136b0 : (a2114 == 0) = false := beq_eq_false_iff_ne.mpr c2136
    have c2136b1 : (a2114 != 0) = true := bne_iff_ne.mpr c2136
    clear c2136
    go_wp2_with fail
    first | go_end0 | refine bodyPost_ret (results_none rfl _ _ _) rfl ?_
    clear H
    exact ⟨rfl, HS.out.sub (.cons_cons _ (.cons_cons _ (.cons _ .slnil)))⟩

set_option maxHeartbeats 30000000 in
set_option maxRecDepth 100000 in
theorem chain_put_nil_F90.calls (a2076 : Int) (a2077 : Int) (a2082 : Int) (g2079 : Nat) (g2081 : Nat) (r : Bool) (w : World)   (HS : Aside0 (Sep (fps [b12 g2079, b9 g2081 a2082]) w [b12 g2079, b9 g2081 a2082] w)) (H : Aside0 (chain_put_nil_F90.f a2076 a2077 a2082 = some r)) :
    Calls Try.prog 88 #[.pointer none, .int .i64 a2076, .int .i64 a2077, .func (.func 90) #[] #[.pointer (some ⟨g2079, 0, none⟩), .pointer (some ⟨g2081, 0, none⟩)]] w fun e w' => e = .returned (.bool r) ∧ Sep (fps [b12 g2079, b9 g2081 a2082]) w [b12 g2079, b9 g2081 a2082] w' := by
  generalize (fps [b12 g2079, b9 g2081 a2082]) = FF at HS ⊢
  unfold chain_put_nil_F90.f at H
  go_enter Try.func88, Try.ntmps88
  go_wp2_with fail
  obtain ⟨t2083, HA2084, H⟩ := bind_some H
  refine (chain_of_nil.calls a2076 t2083 _ ⟨Sep.start _⟩ HA2084).mono ?_
  rintro e_ w2085 ⟨rfl, hS⟩
  replace HS : Aside0 (Sep FF w [b12 g2079, b9 g2081 a2082] w2085) := ⟨HS.out.call hS⟩
  clear hS
  by_cases c2096 : t2083.2.2.2 = true
  · have H := if_yes c2096 H
    have c2096b0 : t2083.2.2.2 = true := c2096
    have c2096b1 : (!t2083.2.2.2) = false := by rw [c2096b0]; rfl
    try rw [c2096b1]
    clear c2096
    by_cases c2097 : a2077 < 0
    · have H := if_yes c2097 H
      have c2097b0 : decide (a2077 < 0) = true := decide_eq_true c2097
      clear c2097
      go_wp2_with (first | ((with_reducible refine gate_dst (N := 9) rfl ?_); refine box_on ?hg (N := 9) ?hd (cs := #[.int .i64 0, .int .i64 0, .int .i64 0]) (t := 134) ?hr ?_; (case hd => rfl); (case hg => rfl); (case hr => first | (go_simp; done) | (go_simp; rfl)); intro g2086 hg w2087 hbox hb; replace HS : Aside0 (Sep FF w [b12 g2079, b9 g2081 a2082, b10 g2086 0 0 0] w2087) := ⟨HS.out.box hg hbox hb⟩; clear hg hbox hb; have hc2089 : w2087.cell? ⟨g2086, 0, none⟩ = some (.int .i64 0) := blk_cellv (HS.out.at2) 0 rfl; have hz2090 : w2087.frozen? ⟨g2086, 0, none⟩ = false := blk_fz (HS.out.at2) 0; have hc2091 : w2087.cell? ⟨g2086, 1, none⟩ = some (.int .i64 0) := blk_cellv (HS.out.at2) 1 rfl; have hz2092 : w2087.frozen? ⟨g2086, 1, none⟩ = false := blk_fz (HS.out.at2) 1; have hc2093 : w2087.cell? ⟨g2086, 2, none⟩ = some (.int .i64 0) := blk_cellv (HS.out.at2) 2 rfl; have hz2094 : w2087.frozen? ⟨g2086, 2, none⟩ = false := blk_fz (HS.out.at2) 2) | ((with_reducible refine gate_store (t := 134) (p := 9) rfl ?_); refine store_event (w1 := (World.setCell (World.setCell (World.setCell w2087 ⟨g2086, 0, none⟩ (.int .i64 t2083.1)) ⟨g2086, 1, none⟩ (.int .i64 t2083.2.1)) ⟨g2086, 2, none⟩ (.int .i64 t2083.2.2.1))) rfl (t := 134) (p := 9) rfl rfl ?hr ?_; (case hr => first | (go_simp; done) | (go_simp; rfl)); intro w2095 hst; clear hc2089 hz2090 hc2091 hz2092 hc2093 hz2094; replace HS : Aside0 (Sep FF w [b12 g2079, b9 g2081 a2082, b10 g2086 t2083.1 t2083.2.1 t2083.2.2.1] w2095) := ⟨by rw [hst]; exact HS.out.setAll (l1 := [b12 g2079, b9 g2081 a2082]) (l2 := []) [.int .i64 t2083.1, .int .i64 t2083.2.1, .int .i64 t2083.2.2.1] rfl⟩; clear hst; replace HS : Aside0 (Sep FF w [b12 g2079, b9 g2081 a2082] w2095) := ⟨HS.out.sub (.cons_cons _ (.cons_cons _ (.cons _ .slnil)))⟩))
      go_ret
      rw [← some_eq H]
      exact ⟨(by first | rfl | (simp [IntKind.wrap_u32]; done)), HS.out⟩
    · have H := if_no c2097 H
      have c2097b0 : decide (a2077 < 0) = false := decide_eq_false c2097
      clear c2097
      go_wp2_with (first | ((with_reducible refine gate_dst (N := 9) rfl ?_); refine box_on ?hg (N := 9) ?hd (cs := #[.int .i64 0, .int .i64 0, .int .i64 0]) (t := 134) ?hr ?_; (case hd => rfl); (case hg => rfl); (case hr => first | (go_simp; done) | (go_simp; rfl)); intro g2086 hg w2087 hbox hb; replace HS : Aside0 (Sep FF w [b12 g2079, b9 g2081 a2082, b10 g2086 0 0 0] w2087) := ⟨HS.out.box hg hbox hb⟩; clear hg hbox hb; have hc2089 : w2087.cell? ⟨g2086, 0, none⟩ = some (.int .i64 0) := blk_cellv (HS.out.at2) 0 rfl; have hz2090 : w2087.frozen? ⟨g2086, 0, none⟩ = false := blk_fz (HS.out.at2) 0; have hc2091 : w2087.cell? ⟨g2086, 1, none⟩ = some (.int .i64 0) := blk_cellv (HS.out.at2) 1 rfl; have hz2092 : w2087.frozen? ⟨g2086, 1, none⟩ = false := blk_fz (HS.out.at2) 1; have hc2093 : w2087.cell? ⟨g2086, 2, none⟩ = some (.int .i64 0) := blk_cellv (HS.out.at2) 2 rfl; have hz2094 : w2087.frozen? ⟨g2086, 2, none⟩ = false := blk_fz (HS.out.at2) 2) | ((with_reducible refine gate_store (t := 134) (p := 9) rfl ?_); refine store_event (w1 := (World.setCell (World.setCell (World.setCell w2087 ⟨g2086, 0, none⟩ (.int .i64 t2083.1)) ⟨g2086, 1, none⟩ (.int .i64 t2083.2.1)) ⟨g2086, 2, none⟩ (.int .i64 t2083.2.2.1))) rfl (t := 134) (p := 9) rfl rfl ?hr ?_; (case hr => first | (go_simp; done) | (go_simp; rfl)); intro w2095 hst; clear hc2089 hz2090 hc2091 hz2092 hc2093 hz2094; replace HS : Aside0 (Sep FF w [b12 g2079, b9 g2081 a2082, b10 g2086 t2083.1 t2083.2.1 t2083.2.2.1] w2095) := ⟨by rw [hst]; exact HS.out.setAll (l1 := [b12 g2079, b9 g2081 a2082]) (l2 := []) [.int .i64 t2083.1, .int .i64 t2083.2.1, .int .i64 t2083.2.2.1] rfl⟩; clear hst))
      obtain ⟨t2098, HA2099, H⟩ := bind_some H
      refine (ground_Ground_Conf_nil.calls t2098 _ ⟨Sep.start _⟩ HA2099).mono ?_
      rintro e_ w2100 ⟨rfl, hS⟩
      replace HS : Aside0 (Sep FF w [b12 g2079, b9 g2081 a2082, b10 g2086 t2083.1 t2083.2.1 t2083.2.2.1] w2100) := ⟨HS.out.call hS⟩
      clear hS
      by_cases c2102 : a2077 ≥ t2098.1
      · have H := if_yes c2102 H
        have c2102b0 : decide (t2098.1 ≤ a2077) = true := decide_eq_true c2102
        clear c2102
        have fl2101 : ∀ w, (Instr.field 49 (.agg #[.int .i64 t2098.1, .int .i64 t2098.2.1, .int .i64 t2098.2.2.1, .int .i64 t2098.2.2.2]) 0).run Try.prog w = .ok (.int .i64 t2098.1) w := fun _ => by kernel_rfl
        replace HS : Aside0 (Sep FF w [b12 g2079, b9 g2081 a2082] w2100) := ⟨HS.out.sub (.cons_cons _ (.cons_cons _ (.cons _ .slnil)))⟩
        go_wp2_with fail
        clear fl2101
        go_ret
        rw [← some_eq H]
        exact ⟨(by first | rfl | (simp [IntKind.wrap_u32]; done)), HS.out⟩
      · have H := if_no c2102 H
        have c2102b0 : decide (t2098.1 ≤ a2077) = false := decide_eq_false c2102
        clear c2102
        have fl2101 : ∀ w, (Instr.field 49 (.agg #[.int .i64 t2098.1, .int .i64 t2098.2.1, .int .i64 t2098.2.2.1, .int .i64 t2098.2.2.2]) 0).run Try.prog w = .ok (.int .i64 t2098.1) w := fun _ => by kernel_rfl
        have hc2103 : w2100.cell? ⟨g2086, 2, none⟩ = some (.int .i64 t2083.2.2.1) := blk_cellv (HS.out.at2) 2 rfl
        go_wp2_with fail
        clear fl2101 hc2103
        obtain ⟨t2104, HA2105, H⟩ := bind_some H
        refine (ground_Ground_Reg_nil.calls t2083.2.2.1 t2104 _ ⟨Sep.start _⟩ HA2105).mono ?_
        rintro e_ w2106 ⟨rfl, hS⟩
        replace HS : Aside0 (Sep FF w [b12 g2079, b9 g2081 a2082, b10 g2086 t2083.1 t2083.2.1 t2083.2.2.1] w2106) := ⟨HS.out.call hS⟩
        clear hS
        have hc2107 : w2106.cell? ⟨g2086, 0, none⟩ = some (.int .i64 t2083.1) := blk_cellv (HS.out.at2) 0 rfl
        have hc2108 : w2106.cell? ⟨g2086, 1, none⟩ = some (.int .i64 t2083.2.1) := blk_cellv (HS.out.at2) 1 rfl
        have hc2109 : w2106.cell? ⟨g2086, 2, none⟩ = some (.int .i64 t2083.2.2.1) := blk_cellv (HS.out.at2) 2 rfl
        go_wp2_with fail
        clear hc2107 hc2108 hc2109
        obtain ⟨t2142, HA2143, H⟩ := bind_some H
        refine (chain_Push_1_1.calls t2083.1 t2083.2.1 t2083.2.2.1 (wrap64 (a2077 + 1)) t2104 a2082 g2079 g2081 t2142 _ ⟨HS.out.begin⟩ HA2143).mono ?_
        rintro e_ w2144 ⟨rfl, hS⟩
        replace HS : Aside0 (Sep FF w [b12 g2079, b9 g2081 a2082, b10 g2086 t2083.1 t2083.2.1 t2083.2.2.1] w2144) := ⟨HS.out.call hS⟩
        clear hS
        have hc2145 : w2144.cell? ⟨g2086, 2, none⟩ = some (.int .i64 t2083.2.2.1) := blk_cellv (HS.out.at2) 2 rfl
        go_wp2_with fail
        clear hc2145
        obtain ⟨t2146, HA2147, H⟩ := bind_some H
        refine (ground_Ground_SetReg_nil.calls t2083.2.2.1 (wrap64 (t2104 + 1)) t2146 _ ⟨Sep.start _⟩ HA2147).mono ?_
        rintro e_ w2148 ⟨rfl, hS⟩
        replace HS : Aside0 (Sep FF w [b12 g2079, b9 g2081 a2082, b10 g2086 t2083.1 t2083.2.1 t2083.2.2.1] w2148) := ⟨HS.out.call hS⟩
        clear hS
        replace HS : Aside0 (Sep FF w [b12 g2079, b9 g2081 a2082] w2148) := ⟨HS.out.sub (.cons_cons _ (.cons_cons _ (.cons _ .slnil)))⟩
        go_wp2_with fail
        go_ret
        rw [← some_eq H]
        exact ⟨(by first | rfl | (simp [IntKind.wrap_u32]; done)), HS.out⟩
  · have H := if_no c2096 H
    have c2096b0 : t2083.2.2.2 = false := by simpa using c2096
    have c2096b1 : (!t2083.2.2.2) = true := by rw [c2096b0]; rfl
    try rw [c2096b1]
    clear c2096
    go_wp2_with (first | ((with_reducible refine gate_dst (N := 9) rfl ?_); refine box_on ?hg (N := 9) ?hd (cs := #[.int .i64 0, .int .i64 0, .int .i64 0]) (t := 134) ?hr ?_; (case hd => rfl); (case hg => rfl); (case hr => first | (go_simp; done) | (go_simp; rfl)); intro g2086 hg w2087 hbox hb; replace HS : Aside0 (Sep FF w [b12 g2079, b9 g2081 a2082, b10 g2086 0 0 0] w2087) := ⟨HS.out.box hg hbox hb⟩; clear hg hbox hb; have hc2089 : w2087.cell? ⟨g2086, 0, none⟩ = some (.int .i64 0) := blk_cellv (HS.out.at2) 0 rfl; have hz2090 : w2087.frozen? ⟨g2086, 0, none⟩ = false := blk_fz (HS.out.at2) 0; have hc2091 : w2087.cell? ⟨g2086, 1, none⟩ = some (.int .i64 0) := blk_cellv (HS.out.at2) 1 rfl; have hz2092 : w2087.frozen? ⟨g2086, 1, none⟩ = false := blk_fz (HS.out.at2) 1; have hc2093 : w2087.cell? ⟨g2086, 2, none⟩ = some (.int .i64 0) := blk_cellv (HS.out.at2) 2 rfl; have hz2094 : w2087.frozen? ⟨g2086, 2, none⟩ = false := blk_fz (HS.out.at2) 2) | ((with_reducible refine gate_store (t := 134) (p := 9) rfl ?_); refine store_event (w1 := (World.setCell (World.setCell (World.setCell w2087 ⟨g2086, 0, none⟩ (.int .i64 t2083.1)) ⟨g2086, 1, none⟩ (.int .i64 t2083.2.1)) ⟨g2086, 2, none⟩ (.int .i64 t2083.2.2.1))) rfl (t := 134) (p := 9) rfl rfl ?hr ?_; (case hr => first | (go_simp; done) | (go_simp; rfl)); intro w2095 hst; clear hc2089 hz2090 hc2091 hz2092 hc2093 hz2094; replace HS : Aside0 (Sep FF w [b12 g2079, b9 g2081 a2082, b10 g2086 t2083.1 t2083.2.1 t2083.2.2.1] w2095) := ⟨by rw [hst]; exact HS.out.setAll (l1 := [b12 g2079, b9 g2081 a2082]) (l2 := []) [.int .i64 t2083.1, .int .i64 t2083.2.1, .int .i64 t2083.2.2.1] rfl⟩; clear hst; replace HS : Aside0 (Sep FF w [b12 g2079, b9 g2081 a2082] w2095) := ⟨HS.out.sub (.cons_cons _ (.cons_cons _ (.cons _ .slnil)))⟩))
    go_ret
    rw [← some_eq H]
    exact ⟨(by first | rfl | (simp [IntKind.wrap_u32]; done)), HS.out⟩

set_option maxHeartbeats 30000000 in
set_option maxRecDepth 100000 in
theorem chain_Push_nil.calls (a2066 : Int) (a2067 : Int) (r : Bool) (w : World)   (HS : Aside0 (Sep (fps []) w [] w)) (H : Aside0 (chain_Push_nil.f a2066 a2067 = some r)) :
    Calls Try.prog 53 #[.pointer none, .int .i64 a2066, .int .i64 a2067] w fun e w' => e = .returned (.bool r) ∧ Sep (fps []) w [] w' := by
  unfold chain_Push_nil.f at H
  go_enter Try.func53, Try.ntmps53
  go_wp2_with (first | ((with_reducible refine gate_dst (N := 3) rfl ?_); refine box_on ?hg (N := 3) ?hd (cs := #[.pointer none]) (t := 50) ?hr ?_; (case hd => rfl); (case hg => rfl); (case hr => first | (go_simp; done) | (go_simp; rfl)); intro g2068 hg w2069 hbox hb; replace HS : Aside0 (Sep (fps []) w [b12 g2068] w2069) := ⟨HS.out.box hg hbox hb⟩; clear hg hbox hb) | ((with_reducible refine gate_dst (N := 5) rfl ?_); refine box_on ?hg (N := 5) ?hd (cs := #[.int .i64 a2067]) (t := 3) ?hr ?_; (case hd => rfl); (case hg => rfl); (case hr => first | (go_simp; done) | (go_simp; rfl)); intro g2071 hg w2072 hbox hb; replace HS : Aside0 (Sep (fps []) w [b12 g2068, b9 g2071 a2067] w2072) := ⟨HS.out.box hg hbox hb⟩; clear hg hbox hb; have hc2074 : w2072.cell? ⟨g2068, 0, none⟩ = some (.pointer none) := blk_cellv (HS.out.at0) 0 rfl; have hc2075 : w2072.cell? ⟨g2071, 0, none⟩ = some (.int .i64 a2067) := blk_cellv (HS.out.at1) 0 rfl))
  clear hc2074 hc2075
  obtain ⟨t2149, HA2150, H⟩ := bind_some H
  refine (chain_put_nil_F90.calls a2066 a2067 a2067 g2068 g2071 t2149 _ ⟨HS.out.begin⟩ HA2150).mono ?_
  rintro e_ w2151 ⟨rfl, hS⟩
  replace HS : Aside0 (Sep (fps []) w [b12 g2068, b9 g2071 a2067] w2151) := ⟨HS.out.call hS⟩
  clear hS
  replace HS : Aside0 (Sep (fps []) w [] w2151) := ⟨HS.out.sub (.cons _ (.cons _ .slnil))⟩
  go_wp2_with fail
  go_ret
  rw [← some_eq H]
  exact ⟨(by first | rfl | (simp [IntKind.wrap_u32]; done)), HS.out⟩

set_option maxHeartbeats 30000000 in
set_option maxRecDepth 100000 in
theorem store_Store_Peek_nil.calls (a2178 : Int) (r : Int) (w : World)   (HS : Aside0 (Sep (fps []) w [] w)) (H : Aside0 (store_Store_Peek_nil.f a2178 = some r)) :
    Calls Try.prog 20 #[.pointer none, .int .i64 a2178] w fun e w' => e = .returned (.int .u32 r) ∧ Sep (fps []) w [] w' := by
  unfold store_Store_Peek_nil.f at H
  go_enter Try.func20, Try.ntmps20
  go_wp2_with fail
  obtain ⟨t2179, HA2180, H⟩ := bind_some H
  refine (store_Store_has_nil.calls a2178 t2179 _ ⟨Sep.start _⟩ HA2180).mono ?_
  rintro e_ w2181 ⟨rfl, hS⟩
  replace HS : Aside0 (Sep (fps []) w [] w2181) := ⟨HS.out.call hS⟩
  clear hS
  by_cases c2182 : t2179 = true
  · have H := if_yes c2182 H
    have c2182b0 : t2179 = true := c2182
    have c2182b1 : (!t2179) = false := by rw [c2182b0]; rfl
    try rw [c2182b1]
    clear c2182
    exact (none_no H).elim
  · have H := if_no c2182 H
    have c2182b0 : t2179 = false := by simpa using c2182
    have c2182b1 : (!t2179) = true := by rw [c2182b0]; rfl
    try rw [c2182b1]
    clear c2182
    go_wp2_with fail
    go_ret
    rw [← some_eq H]
    exact ⟨(by first | rfl | (simp [IntKind.wrap_u32]; done)), HS.out⟩

set_option maxHeartbeats 30000000 in
set_option maxRecDepth 100000 in
theorem ground_Ground_SeeReg_nil.calls (a2171 : Int) (r : Int) (w : World)   (HS : Aside0 (Sep (fps []) w [] w)) (H : Aside0 (ground_Ground_SeeReg_nil.f a2171 = some r)) :
    Calls Try.prog 48 #[.pointer none, .int .i64 a2171] w fun e w' => e = .returned (.int .i64 r) ∧ Sep (fps []) w [] w' := by
  unfold ground_Ground_SeeReg_nil.f at H
  go_enter Try.func48, Try.ntmps48
  go_wp2_with fail
  obtain ⟨t2172, HA2173, H⟩ := bind_some H
  refine (ground_Ground_all_nil.calls t2172 _ ⟨Sep.start _⟩ HA2173).mono ?_
  rintro e_ w2174 ⟨rfl, hS⟩
  replace HS : Aside0 (Sep (fps []) w [] w2174) := ⟨HS.out.call hS⟩
  clear hS
  go_wp2_with fail
  obtain ⟨t2175, HA2176, H⟩ := bind_some H
  refine (ground_reg.calls a2171 t2175 _ ⟨Sep.start _⟩ HA2176).mono ?_
  rintro e_ w2177 ⟨rfl, hS⟩
  replace HS : Aside0 (Sep (fps []) w [] w2177) := ⟨HS.out.call hS⟩
  clear hS
  go_wp2_with fail
  obtain ⟨t2183, HA2184, H⟩ := bind_some H
  refine (store_Store_Peek_nil.calls t2175 t2183 _ ⟨Sep.start _⟩ HA2184).mono ?_
  rintro e_ w2185 ⟨rfl, hS⟩
  replace HS : Aside0 (Sep (fps []) w [] w2185) := ⟨HS.out.call hS⟩
  clear hS
  go_wp2_with fail
  go_ret
  rw [← some_eq H]
  exact ⟨(by first | rfl | (simp [IntKind.wrap_u32]; done)), HS.out⟩

set_option maxHeartbeats 30000000 in
set_option maxRecDepth 100000 in
theorem ground_Ground_SeeWord_nil.calls (a2218 : Int) (a2219 : Int) (r : Int) (w : World)   (HS : Aside0 (Sep (fps []) w [] w)) (H : Aside0 (ground_Ground_SeeWord_nil.f a2218 a2219 = some r)) :
    Calls Try.prog 50 #[.pointer none, .int .i64 a2218, .int .i64 a2219] w fun e w' => e = .returned (.int .u32 r) ∧ Sep (fps []) w [] w' := by
  unfold ground_Ground_SeeWord_nil.f at H
  go_enter Try.func50, Try.ntmps50
  go_wp2_with fail
  obtain ⟨t2220, HA2221, H⟩ := bind_some H
  refine (ground_Ground_all_nil.calls t2220 _ ⟨Sep.start _⟩ HA2221).mono ?_
  rintro e_ w2222 ⟨rfl, hS⟩
  replace HS : Aside0 (Sep (fps []) w [] w2222) := ⟨HS.out.call hS⟩
  clear hS
  go_wp2_with fail
  obtain ⟨t2223, HA2224, H⟩ := bind_some H
  refine (ground_Ground_word_nil.calls a2218 a2219 t2223 _ ⟨Sep.start _⟩ HA2224).mono ?_
  rintro e_ w2225 ⟨rfl, hS⟩
  replace HS : Aside0 (Sep (fps []) w [] w2225) := ⟨HS.out.call hS⟩
  clear hS
  go_wp2_with fail
  obtain ⟨t2226, HA2227, H⟩ := bind_some H
  refine (store_Store_Peek_nil.calls t2223 t2226 _ ⟨Sep.start _⟩ HA2227).mono ?_
  rintro e_ w2228 ⟨rfl, hS⟩
  replace HS : Aside0 (Sep (fps []) w [] w2228) := ⟨HS.out.call hS⟩
  clear hS
  go_wp2_with fail
  go_ret
  rw [← some_eq H]
  exact ⟨(by first | rfl | (simp [IntKind.wrap_u32]; done)), HS.out⟩

set_option maxHeartbeats 30000000 in
set_option maxRecDepth 100000 in
theorem chain_List_nil.calls (k : Nat) (a2155 : Int) (r : List Int) (w : World)   (HS : Aside0 (Sep (fps []) w [] w)) (H : Aside0 (chain_List_nil.f k a2155 = some r)) :
    Calls Try.prog 56 #[.pointer none, .int .i64 a2155] w fun e w' => ∃ (A2259 : Option Addr) (m2260 : Nat) (n2261 : Nat), e = .returned (.slice A2259 m2260 n2261) ∧ Sep (fps []) w [r11 A2259 m2260 n2261 r] w' := by
  unfold chain_List_nil.f at H
  go_enter Try.func56, Try.ntmps56
  go_wp2_with fail
  obtain ⟨t2156, HA2157, H⟩ := bind_some H
  refine (chain_of_nil.calls a2155 t2156 _ ⟨Sep.start _⟩ HA2157).mono ?_
  rintro e_ w2158 ⟨rfl, hS⟩
  replace HS : Aside0 (Sep (fps []) w [] w2158) := ⟨HS.out.call hS⟩
  clear hS
  by_cases c2169 : t2156.2.2.2 = true
  · have H := if_yes c2169 H
    have c2169b0 : t2156.2.2.2 = true := c2169
    have c2169b1 : (!t2156.2.2.2) = false := by rw [c2169b0]; rfl
    try rw [c2169b1]
    clear c2169
    go_wp2_with (first | ((with_reducible refine gate_dst (N := 5) rfl ?_); refine box_on ?hg (N := 5) ?hd (cs := #[.int .i64 0, .int .i64 0, .int .i64 0]) (t := 134) ?hr ?_; (case hd => rfl); (case hg => rfl); (case hr => first | (go_simp; done) | (go_simp; rfl)); intro g2159 hg w2160 hbox hb; replace HS : Aside0 (Sep (fps []) w [b10 g2159 0 0 0] w2160) := ⟨HS.out.box hg hbox hb⟩; clear hg hbox hb; have hc2162 : w2160.cell? ⟨g2159, 0, none⟩ = some (.int .i64 0) := blk_cellv (HS.out.at0) 0 rfl; have hz2163 : w2160.frozen? ⟨g2159, 0, none⟩ = false := blk_fz (HS.out.at0) 0; have hc2164 : w2160.cell? ⟨g2159, 1, none⟩ = some (.int .i64 0) := blk_cellv (HS.out.at0) 1 rfl; have hz2165 : w2160.frozen? ⟨g2159, 1, none⟩ = false := blk_fz (HS.out.at0) 1; have hc2166 : w2160.cell? ⟨g2159, 2, none⟩ = some (.int .i64 0) := blk_cellv (HS.out.at0) 2 rfl; have hz2167 : w2160.frozen? ⟨g2159, 2, none⟩ = false := blk_fz (HS.out.at0) 2) | ((with_reducible refine gate_store (t := 134) (p := 5) rfl ?_); refine store_event (w1 := (World.setCell (World.setCell (World.setCell w2160 ⟨g2159, 0, none⟩ (.int .i64 t2156.1)) ⟨g2159, 1, none⟩ (.int .i64 t2156.2.1)) ⟨g2159, 2, none⟩ (.int .i64 t2156.2.2.1))) rfl (t := 134) (p := 5) rfl rfl ?hr ?_; (case hr => first | (go_simp; done) | (go_simp; rfl)); intro w2168 hst; clear hc2162 hz2163 hc2164 hz2165 hc2166 hz2167; replace HS : Aside0 (Sep (fps []) w [b10 g2159 t2156.1 t2156.2.1 t2156.2.2.1] w2168) := ⟨by rw [hst]; exact HS.out.setAll (l1 := []) (l2 := []) [.int .i64 t2156.1, .int .i64 t2156.2.1, .int .i64 t2156.2.2.1] rfl⟩; clear hst; have hc2170 : w2168.cell? ⟨g2159, 0, none⟩ = some (.int .i64 t2156.1) := blk_cellv (HS.out.at0) 0 rfl))
    clear hc2170
    obtain ⟨t2186, HA2187, H⟩ := bind_some H
    refine (ground_Ground_SeeReg_nil.calls t2156.1 t2186 _ ⟨Sep.start _⟩ HA2187).mono ?_
    rintro e_ w2188 ⟨rfl, hS⟩
    replace HS : Aside0 (Sep (fps []) w [b10 g2159 t2156.1 t2156.2.1 t2156.2.2.1] w2188) := ⟨HS.out.call hS⟩
    clear hS
    replace HS : Aside0 (Sep (fps []) w [] w2188) := ⟨HS.out.sub (.cons _ .slnil)⟩
    go_wp2_with fail
    replace HS : Aside0 (Sep (fps []) w [r11 none 0 0 []] w2188) := ⟨HS.out.nilrow 3 (Value.int .i64)⟩
    obtain ⟨o2190, AL2191, H⟩ := bind_some H
    go_loopg [7, 8] k (fun kq v7 v8 wc => ∃ (x2196 : Int) (x2197 : List Int) (A2198 : Option Addr) (m2199 : Nat) (n2200 : Nat), v7 = .slice A2198 m2199 n2200 ∧ v8 = .int .i64 x2196 ∧ Aside0 (chain_List_nil.lo0 kq x2196 x2197 = some o2190) ∧ Aside0 (Sep (fps []) w [r11 A2198 m2199 n2200 x2197] wc))
    case atStart => exact ⟨(t2186), (([] : List Int)), (none), (0), (0), (by first | rfl | (simp [IntKind.wrap_u32]; done)), (by first | rfl | (simp [IntKind.wrap_u32]; done)), AL2191, ⟨HS.out⟩⟩
    case round =>
      clear AL2191 HS
      obtain ⟨x2196, x2197, A2198, m2199, n2200, rfl, rfl, AL2191, HS⟩ := hrel
      obtain ⟨w2192, rfl⟩ : ∃ x : World, x = wr := ⟨_, rfl⟩
      obtain rfl := (row_len (HS.out.at0)).symm
      cases gk with
      | zero => exact absurd AL2191.out (by simp [chain_List_nil.lo0])
      | succ k2193 =>
        have AL0 := AL2191.out
        rw [chain_List_nil.lo0] at AL0
        clear AL2191
        have AL2191 := Aside0.mk AL0
        clear AL0
        by_cases c2202 : x2196 > 0
        · have AL2191 := if_yes c2202 AL2191
          have c2202b0 : decide (0 < x2196) = true := decide_eq_true c2202
          clear c2202
          go_wp2_with fail
          obtain ⟨t2203, HA2204, AL2191⟩ := bind_some AL2191
          refine (ground_Ground_Conf_nil.calls t2203 _ ⟨Sep.start _⟩ HA2204).mono ?_
          rintro e_ w2205 ⟨rfl, hS⟩
          replace HS : Aside0 (Sep (fps []) w [r11 A2198 x2197.length n2200 x2197] w2205) := ⟨HS.out.call hS⟩
          clear hS
          by_cases c2207 : (x2197.length : Int) < t2203.1
          · have AL2191 := if_yes c2207 AL2191
            have c2207b0 : decide ((x2197.length : Int) < t2203.1) = true := decide_eq_true c2207
            clear c2207
            by_cases c2211 : x2197.length < 17592186044416
            · have AL2191 := if_yes c2211 AL2191
              have c2211b0 : decide (x2197.length < 17592186044416) = true := decide_eq_true c2211
              clear c2211
              obtain ⟨y2215, HA2216, AL2191⟩ := bind_some AL2191
              have fl2206 : ∀ w, (Instr.field 49 (.agg #[.int .i64 t2203.1, .int .i64 t2203.2.1, .int .i64 t2203.2.2.1, .int .i64 t2203.2.2.2]) 0).run Try.prog w = .ok (.int .i64 t2203.1) w := fun _ => by kernel_rfl
              go_wp2_with (first | ((with_reducible refine gate_dst (N := 39) rfl ?_); refine slice_on (n := 1) ?hg (N := 39) ?hd (cs := #[.int .i64 (wrap64 (x2196 - 1))]) (t := 3) ?hr ?_; (case hd => rfl); (case hg => rfl); (case hr => first | (go_simp; done) | (go_simp; rfl)); intro g2208 hg w2209 hbox hb; clear fl2206; replace HS : Aside0 (Sep (fps []) w [r11 A2198 x2197.length n2200 x2197, b9 g2208 (wrap64 (x2196 - 1))] w2209) := ⟨HS.out.box hg hbox hb⟩; clear hg hbox hb) | ((with_reducible refine gate_dst (N := 40) rfl ?_); refine append_event (l1 := []) (l2 := [b9 g2208 (wrap64 (x2196 - 1))]) rfl (.tmp 36) (.tmp 39) 78 3 (.int .i64 0) 8 rfl Try.underlying78 (by kernel_rfl) rfl (by decide) (Value.int .i64) (fun _ => rfl) (.slice A2198 x2197.length n2200) (x2197 : List Int) [wrap64 (x2196 - 1)] ⟨g2208, 0, none⟩ 1 rfl rfl (blk_news (xs := [wrap64 (x2196 - 1)]) (HS.out.at1)) HS.out (by have := of_decide_eq_true c2211b0; simp only [List.length_cons, List.length_nil]; omega) HA2216 ?_; intro A2212 n2213 w2214 HS1; replace HS : Aside0 (Sep (fps []) w [r11 A2212 y2215.length n2213 y2215, b9 g2208 (wrap64 (x2196 - 1))] w2214) := ⟨HS1⟩; clear HS1; replace HS : Aside0 (Sep (fps []) w [r11 A2212 y2215.length n2213 y2215] w2214) := ⟨HS.out.sub (.cons_cons _ (.cons _ .slnil))⟩))
              obtain ⟨t2229, HA2230, AL2191⟩ := bind_some AL2191
              refine (ground_Ground_SeeWord_nil.calls (wrap64 (x2196 - 1)) 5 t2229 _ ⟨Sep.start _⟩ HA2230).mono ?_
              rintro e_ w2231 ⟨rfl, hS⟩
              replace HS : Aside0 (Sep (fps []) w [r11 A2212 y2215.length n2213 y2215] w2231) := ⟨HS.out.call hS⟩
              clear hS
              go_wp2_with fail
              go_roundg k2193
              case measure => exact Nat.lt_succ_self _
              case rel => exact ⟨(wrap64 (t2229)), (y2215), (A2212), (y2215.length), (n2213), (by first | rfl | (simp [IntKind.wrap_u32]; done)), (by first | rfl | (simp [IntKind.wrap_u32]; done)), Aside0.mk AL2191.out, ⟨HS.out⟩⟩
            · have AL2191 := if_no c2211 AL2191
              have c2211b0 : decide (x2197.length < 17592186044416) = false := decide_eq_false c2211
              clear c2211
              exact (none_no AL2191).elim
          · have AL2191 := if_no c2207 AL2191
            have c2207b0 : decide ((x2197.length : Int) < t2203.1) = false := decide_eq_false c2207
            clear c2207
            have ho := some_eq AL2191
            subst ho
            clear AL2191
            have fl2206 : ∀ w, (Instr.field 49 (.agg #[.int .i64 t2203.1, .int .i64 t2203.2.1, .int .i64 t2203.2.2.1, .int .i64 t2203.2.2.2]) 0).run Try.prog w = .ok (.int .i64 t2203.1) w := fun _ => by kernel_rfl
            go_wp2_with fail
            clear fl2206
            go_ret
            rw [← some_eq H]
            exact ⟨A2198, x2197.length, n2200, (by first | rfl | (simp [IntKind.wrap_u32]; done)), HS.out⟩
        · have AL2191 := if_no c2202 AL2191
          have c2202b0 : decide (0 < x2196) = false := decide_eq_false c2202
          clear c2202
          have ho := some_eq AL2191
          subst ho
          clear AL2191
          go_wp2_with fail
          go_ret
          rw [← some_eq H]
          exact ⟨A2198, x2197.length, n2200, (by first | rfl | (simp [IntKind.wrap_u32]; done)), HS.out⟩
  · have H := if_no c2169 H
    have c2169b0 : t2156.2.2.2 = false := by simpa using c2169
    have c2169b1 : (!t2156.2.2.2) = true := by rw [c2169b0]; rfl
    try rw [c2169b1]
    clear c2169
    go_wp2_with (first | ((with_reducible refine gate_dst (N := 5) rfl ?_); refine box_on ?hg (N := 5) ?hd (cs := #[.int .i64 0, .int .i64 0, .int .i64 0]) (t := 134) ?hr ?_; (case hd => rfl); (case hg => rfl); (case hr => first | (go_simp; done) | (go_simp; rfl)); intro g2159 hg w2160 hbox hb; replace HS : Aside0 (Sep (fps []) w [b10 g2159 0 0 0] w2160) := ⟨HS.out.box hg hbox hb⟩; clear hg hbox hb; have hc2162 : w2160.cell? ⟨g2159, 0, none⟩ = some (.int .i64 0) := blk_cellv (HS.out.at0) 0 rfl; have hz2163 : w2160.frozen? ⟨g2159, 0, none⟩ = false := blk_fz (HS.out.at0) 0; have hc2164 : w2160.cell? ⟨g2159, 1, none⟩ = some (.int .i64 0) := blk_cellv (HS.out.at0) 1 rfl; have hz2165 : w2160.frozen? ⟨g2159, 1, none⟩ = false := blk_fz (HS.out.at0) 1; have hc2166 : w2160.cell? ⟨g2159, 2, none⟩ = some (.int .i64 0) := blk_cellv (HS.out.at0) 2 rfl; have hz2167 : w2160.frozen? ⟨g2159, 2, none⟩ = false := blk_fz (HS.out.at0) 2) | ((with_reducible refine gate_store (t := 134) (p := 5) rfl ?_); refine store_event (w1 := (World.setCell (World.setCell (World.setCell w2160 ⟨g2159, 0, none⟩ (.int .i64 t2156.1)) ⟨g2159, 1, none⟩ (.int .i64 t2156.2.1)) ⟨g2159, 2, none⟩ (.int .i64 t2156.2.2.1))) rfl (t := 134) (p := 5) rfl rfl ?hr ?_; (case hr => first | (go_simp; done) | (go_simp; rfl)); intro w2168 hst; clear hc2162 hz2163 hc2164 hz2165 hc2166 hz2167; replace HS : Aside0 (Sep (fps []) w [b10 g2159 t2156.1 t2156.2.1 t2156.2.2.1] w2168) := ⟨by rw [hst]; exact HS.out.setAll (l1 := []) (l2 := []) [.int .i64 t2156.1, .int .i64 t2156.2.1, .int .i64 t2156.2.2.1] rfl⟩; clear hst; replace HS : Aside0 (Sep (fps []) w [] w2168) := ⟨HS.out.sub (.cons _ .slnil)⟩))
    replace HS : Aside0 (Sep (fps []) w [r11 none 0 0 []] w2168) := ⟨HS.out.nilrow 3 (Value.int .i64)⟩
    go_ret
    rw [← some_eq H]
    exact ⟨none, 0, 0, (by first | rfl | (simp [IntKind.wrap_u32]; done)), HS.out⟩

set_option maxHeartbeats 30000000 in
set_option maxRecDepth 100000 in
theorem quitrentlaw08_begun.calls (k : Nat)  (r : Bool) (w : World)   (HS : Aside0 (Sep (fps []) w [] w)) (H : Aside0 (quitrentlaw08_begun.f k = some r)) :
    Calls Try.prog 51 #[] w fun e w' => e = .returned (.bool r) ∧ Sep (fps []) w [] w' := by
  unfold quitrentlaw08_begun.f at H
  go_enter Try.func51, Try.ntmps51
  go_wp2_with fail
  obtain ⟨t793, HA794, H⟩ := bind_some H
  rcases t793 with t795 | (t796 | t797)
  · have H := sum_l H
    refine (ground_New.calls _ 9 16 1 1 (.inl t795) _ ⟨Sep.start _⟩ HA794).mono ?_
    rintro e_ w798 ⟨rfl, hS⟩
    replace HS : Aside0 (Sep (fps []) w [] w798) := ⟨HS.out.call hS⟩
    clear hS
    go_wp2_with fail
    go_ret
    rw [← some_eq H]
    exact ⟨(by first | rfl | (simp [IntKind.wrap_u32]; done)), HS.out⟩
  · have H := sum_r H
    have H := sum_l H
    refine (ground_New.calls _ 9 16 1 1 (.inr (.inl t796)) _ ⟨Sep.start _⟩ HA794).mono ?_
    rintro e_ w799 ⟨g803, rfl, g804, A805, m806, n807, hS⟩
    replace HS : Aside0 (Sep (fps []) w [b7 g803 g804 t796.1 t796.2.1 t796.2.2.1 t796.2.2.2.1, b6 g804 A805 m806 n807 0, r5 A805 m806 n807 t796.2.2.2.2] w799) := ⟨HS.out.call hS⟩
    clear hS
    obtain rfl := (row_len (HS.out.at2)).symm
    go_wp2_with fail
    obtain ⟨t1411, HA1412, H⟩ := bind_some H
    refine (chain_Add.calls t796.2.2.2.2 0 t796.1 t796.2.1 t796.2.2.1 t796.2.2.2.1 1 4 g803 g804 A805 ((t796.2.2.2.2).length) n807 t1411 _ ⟨HS.out.begin⟩ HA1412).mono ?_
    rintro e_ w1413 ⟨rfl, hS⟩
    replace HS : Aside0 (Sep (fps []) w [b7 g803 g804 t796.1 t796.2.1 t796.2.2.1 t796.2.2.2.1, b6 g804 A805 ((t796.2.2.2.2).length) n807 t1411.2.1, r5 A805 ((t796.2.2.2.2).length) n807 t1411.2.2] w1413) := ⟨HS.out.call hS⟩
    clear hS
    by_cases c1414 : t1411.1 = true
    · have H := if_yes c1414 H
      have c1414b0 : t1411.1 = true := c1414
      have c1414b1 : (!t1411.1) = false := by rw [c1414b0]; rfl
      try rw [c1414b1]
      clear c1414
      go_wp2_with fail
      obtain ⟨t1415, HA1416, H⟩ := bind_some H
      refine (chain_Add.calls t1411.2.2 t1411.2.1 t796.1 t796.2.1 t796.2.2.1 t796.2.2.2.1 1 2 g803 g804 A805 ((t796.2.2.2.2).length) n807 t1415 _ ⟨HS.out.begin⟩ HA1416).mono ?_
      rintro e_ w1417 ⟨rfl, hS⟩
      replace HS : Aside0 (Sep (fps []) w [b7 g803 g804 t796.1 t796.2.1 t796.2.2.1 t796.2.2.2.1, b6 g804 A805 ((t796.2.2.2.2).length) n807 t1415.2.1, r5 A805 ((t796.2.2.2.2).length) n807 t1415.2.2] w1417) := ⟨HS.out.call hS⟩
      clear hS
      by_cases c1418 : t1415.1 = true
      · have H := if_yes c1418 H
        have c1418b0 : t1415.1 = true := c1418
        have c1418b1 : (!t1415.1) = false := by rw [c1418b0]; rfl
        try rw [c1418b1]
        clear c1418
        go_wp2_with fail
        obtain ⟨t1617, HA1618, H⟩ := bind_some H
        refine (chain_Push.calls t1415.2.2 t1415.2.1 t796.1 t796.2.1 t796.2.2.1 t796.2.2.2.1 1 7 g803 g804 A805 ((t796.2.2.2.2).length) n807 t1617 _ ⟨HS.out.begin⟩ HA1618).mono ?_
        rintro e_ w1619 ⟨rfl, hS⟩
        replace HS : Aside0 (Sep (fps []) w [b7 g803 g804 t796.1 t796.2.1 t796.2.2.1 t796.2.2.2.1, b6 g804 A805 ((t796.2.2.2.2).length) n807 t1617.2.1, r5 A805 ((t796.2.2.2.2).length) n807 t1617.2.2] w1619) := ⟨HS.out.call hS⟩
        clear hS
        by_cases c1620 : t1617.1 = true
        · have H := if_yes c1620 H
          have c1620b0 : t1617.1 = true := c1620
          have c1620b1 : (!t1617.1) = false := by rw [c1620b0]; rfl
          try rw [c1620b1]
          clear c1620
          go_wp2_with fail
          obtain ⟨t1789, HA1790, H⟩ := bind_some H
          refine (chain_List.calls _ t1617.2.2 t1617.2.1 t796.1 t796.2.1 t796.2.2.1 t796.2.2.2.1 1 g803 g804 A805 ((t796.2.2.2.2).length) n807 t1789 _ ⟨HS.out.begin⟩ HA1790).mono ?_
          rintro e_ w1791 ⟨A1793, m1794, n1795, rfl, hS⟩
          replace HS : Aside0 (Sep (fps []) w [b7 g803 g804 t796.1 t796.2.1 t796.2.2.1 t796.2.2.2.1, b6 g804 A805 ((t796.2.2.2.2).length) n807 t1617.2.1, r5 A805 ((t796.2.2.2.2).length) n807 t1617.2.2, r11 A1793 m1794 n1795 t1789] w1791) := ⟨HS.out.call hS⟩
          clear hS
          obtain rfl := (row_len (HS.out.at3)).symm
          go_wp2_with (first | ((with_reducible refine gate_dst (N := 27) rfl ?_); refine slice_on (n := 3) ?hg (N := 27) ?hd (cs := #[.int .i64 7, .int .i64 4, .int .i64 2]) (t := 3) ?hr ?_; (case hd => rfl); (case hg => rfl); (case hr => first | (go_simp; done) | (go_simp; rfl)); intro g1797 hg w1798 hbox hb; replace HS : Aside0 (Sep (fps []) w [b7 g803 g804 t796.1 t796.2.1 t796.2.2.1 t796.2.2.2.1, b6 g804 A805 ((t796.2.2.2.2).length) n807 t1617.2.1, r5 A805 ((t796.2.2.2.2).length) n807 t1617.2.2, r11 A1793 t1789.length n1795 t1789, b4 g1797 7 4 2] w1798) := ⟨HS.out.box hg hbox hb⟩; clear hg hbox hb))
          obtain ⟨t1839, HA1840, H⟩ := bind_some H
          refine (quitrentref01_Ints.calls _ t1789 [7, 4, 2] A1793 n1795 (some ⟨g1797, 0, none⟩) 3 t1839 _ ⟨Rd.ownI (l := []) HS.out 3 rfl⟩ ⟨Rd.lit (l := []) (xs := [7, 4, 2]) HS.out 4 rfl (by simp)⟩ ⟨Sep.start _⟩ HA1840).mono ?_
          rintro e_ w1841 ⟨rfl, hS⟩
          replace HS : Aside0 (Sep (fps []) w [b7 g803 g804 t796.1 t796.2.1 t796.2.2.1 t796.2.2.2.1, b6 g804 A805 ((t796.2.2.2.2).length) n807 t1617.2.1, r5 A805 ((t796.2.2.2.2).length) n807 t1617.2.2, r11 A1793 t1789.length n1795 t1789, b4 g1797 7 4 2] w1841) := ⟨HS.out.call hS⟩
          clear hS
          by_cases c1842 : t1839 = true
          · have H := if_yes c1842 H
            have c1842b0 : t1839 = true := c1842
            have c1842b1 : (!t1839) = false := by rw [c1842b0]; rfl
            clear c1842
            go_wp2_with fail
            obtain ⟨t1843, HA1844, H⟩ := bind_some H
            refine (ground_Ground_SeeReg.calls t1617.2.2 t1617.2.1 t796.1 t796.2.1 t796.2.2.1 t796.2.2.2.1 3 g803 g804 A805 ((t796.2.2.2.2).length) n807 t1843 _ ⟨HS.out.begin⟩ HA1844).mono ?_
            rintro e_ w1845 ⟨rfl, hS⟩
            replace HS : Aside0 (Sep (fps []) w [b7 g803 g804 t796.1 t796.2.1 t796.2.2.1 t796.2.2.2.1, b6 g804 A805 ((t796.2.2.2.2).length) n807 t1617.2.1, r5 A805 ((t796.2.2.2.2).length) n807 t1617.2.2, r11 A1793 t1789.length n1795 t1789, b4 g1797 7 4 2] w1845) := ⟨HS.out.call hS⟩
            clear hS
            by_cases c1846 : t1843 = 8
            · have H := if_yes c1846 H
              have c1846b0 : (t1843 == 8) = true := beq_iff_eq.mpr c1846
              have c1846b1 : (t1843 != 8) = false := bne_eq_false_iff_eq.mpr c1846
              clear c1846
              go_wp2_with fail
              obtain ⟨t1847, HA1848, H⟩ := bind_some H
              refine (ground_Ground_SeeReg.calls t1617.2.2 t1617.2.1 t796.1 t796.2.1 t796.2.2.1 t796.2.2.2.1 4 g803 g804 A805 ((t796.2.2.2.2).length) n807 t1847 _ ⟨HS.out.begin⟩ HA1848).mono ?_
              rintro e_ w1849 ⟨rfl, hS⟩
              replace HS : Aside0 (Sep (fps []) w [b7 g803 g804 t796.1 t796.2.1 t796.2.2.1 t796.2.2.2.1, b6 g804 A805 ((t796.2.2.2.2).length) n807 t1617.2.1, r5 A805 ((t796.2.2.2.2).length) n807 t1617.2.2, r11 A1793 t1789.length n1795 t1789, b4 g1797 7 4 2] w1849) := ⟨HS.out.call hS⟩
              clear hS
              by_cases c1850 : t1847 = 3
              · have H := if_yes c1850 H
                have c1850b0 : (t1847 == 3) = true := beq_iff_eq.mpr c1850
                have c1850b1 : (t1847 != 3) = false := bne_eq_false_iff_eq.mpr c1850
                clear c1850
                go_wp2_with fail
                obtain ⟨t1851, HA1852, H⟩ := bind_some H
                refine (ground_Ground_SeeReg.calls t1617.2.2 t1617.2.1 t796.1 t796.2.1 t796.2.2.1 t796.2.2.2.1 5 g803 g804 A805 ((t796.2.2.2.2).length) n807 t1851 _ ⟨HS.out.begin⟩ HA1852).mono ?_
                rintro e_ w1853 ⟨rfl, hS⟩
                replace HS : Aside0 (Sep (fps []) w [b7 g803 g804 t796.1 t796.2.1 t796.2.2.1 t796.2.2.2.1, b6 g804 A805 ((t796.2.2.2.2).length) n807 t1617.2.1, r5 A805 ((t796.2.2.2.2).length) n807 t1617.2.2, r11 A1793 t1789.length n1795 t1789, b4 g1797 7 4 2] w1853) := ⟨HS.out.call hS⟩
                clear hS
                replace HS : Aside0 (Sep (fps []) w [] w1853) := ⟨HS.out.sub (.cons _ (.cons _ (.cons _ (.cons _ (.cons _ .slnil)))))⟩
                go_wp2_with fail
                go_ret
                rw [← some_eq H]
                exact ⟨(by first | rfl | (simp [IntKind.wrap_u32]; done)), HS.out⟩
              · have H := if_no c1850 H
                have c1850b0 : (t1847 == 3) = false := beq_eq_false_iff_ne.mpr c1850
                have c1850b1 : (t1847 != 3) = true := bne_iff_ne.mpr c1850
                clear c1850
                replace HS : Aside0 (Sep (fps []) w [] w1849) := ⟨HS.out.sub (.cons _ (.cons _ (.cons _ (.cons _ (.cons _ .slnil)))))⟩
                go_wp2_with fail
                go_ret
                rw [← some_eq H]
                exact ⟨(by first | rfl | (simp [IntKind.wrap_u32]; done)), HS.out⟩
            · have H := if_no c1846 H
              have c1846b0 : (t1843 == 8) = false := beq_eq_false_iff_ne.mpr c1846
              have c1846b1 : (t1843 != 8) = true := bne_iff_ne.mpr c1846
              clear c1846
              replace HS : Aside0 (Sep (fps []) w [] w1845) := ⟨HS.out.sub (.cons _ (.cons _ (.cons _ (.cons _ (.cons _ .slnil)))))⟩
              go_wp2_with fail
              go_ret
              rw [← some_eq H]
              exact ⟨(by first | rfl | (simp [IntKind.wrap_u32]; done)), HS.out⟩
          · have H := if_no c1842 H
            have c1842b0 : t1839 = false := by simpa using c1842
            have c1842b1 : (!t1839) = true := by rw [c1842b0]; rfl
            clear c1842
            replace HS : Aside0 (Sep (fps []) w [] w1841) := ⟨HS.out.sub (.cons _ (.cons _ (.cons _ (.cons _ (.cons _ .slnil)))))⟩
            go_wp2_with fail
            go_ret
            rw [← some_eq H]
            exact ⟨(by first | rfl | (simp [IntKind.wrap_u32]; done)), HS.out⟩
        · have H := if_no c1620 H
          have c1620b0 : t1617.1 = false := by simpa using c1620
          have c1620b1 : (!t1617.1) = true := by rw [c1620b0]; rfl
          try rw [c1620b1]
          clear c1620
          replace HS : Aside0 (Sep (fps []) w [] w1619) := ⟨HS.out.sub (.cons _ (.cons _ (.cons _ .slnil)))⟩
          go_wp2_with fail
          go_ret
          rw [← some_eq H]
          exact ⟨(by first | rfl | (simp [IntKind.wrap_u32]; done)), HS.out⟩
      · have H := if_no c1418 H
        have c1418b0 : t1415.1 = false := by simpa using c1418
        have c1418b1 : (!t1415.1) = true := by rw [c1418b0]; rfl
        try rw [c1418b1]
        clear c1418
        replace HS : Aside0 (Sep (fps []) w [] w1417) := ⟨HS.out.sub (.cons _ (.cons _ (.cons _ .slnil)))⟩
        go_wp2_with fail
        go_ret
        rw [← some_eq H]
        exact ⟨(by first | rfl | (simp [IntKind.wrap_u32]; done)), HS.out⟩
    · have H := if_no c1414 H
      have c1414b0 : t1411.1 = false := by simpa using c1414
      have c1414b1 : (!t1411.1) = true := by rw [c1414b0]; rfl
      try rw [c1414b1]
      clear c1414
      replace HS : Aside0 (Sep (fps []) w [] w1413) := ⟨HS.out.sub (.cons _ (.cons _ (.cons _ .slnil)))⟩
      go_wp2_with fail
      go_ret
      rw [← some_eq H]
      exact ⟨(by first | rfl | (simp [IntKind.wrap_u32]; done)), HS.out⟩
  · have H := sum_r H
    have H := sum_r H
    refine (ground_New.calls _ 9 16 1 1 (.inr (.inr t797)) _ ⟨Sep.start _⟩ HA794).mono ?_
    rintro e_ w1854 ⟨rfl, hS⟩
    replace HS : Aside0 (Sep (fps []) w [] w1854) := ⟨HS.out.call hS⟩
    clear hS
    by_cases c1855 : t797 = 0
    · have H := if_yes c1855 H
      have c1855b0 : (t797 == 0) = true := beq_iff_eq.mpr c1855
      have c1855b1 : (t797 != 0) = false := bne_eq_false_iff_eq.mpr c1855
      clear c1855
      go_wp2_with fail
      obtain ⟨t1411, HA2060, H⟩ := bind_some H
      refine (chain_Add_nil.calls 1 4 t1411 _ ⟨Sep.start _⟩ HA2060).mono ?_
      rintro e_ w2061 ⟨rfl, hS⟩
      replace HS : Aside0 (Sep (fps []) w [] w2061) := ⟨HS.out.call hS⟩
      clear hS
      by_cases c2062 : t1411 = true
      · have H := if_yes c2062 H
        have c2062b0 : t1411 = true := c2062
        have c2062b1 : (!t1411) = false := by rw [c2062b0]; rfl
        try rw [c2062b1]
        clear c2062
        go_wp2_with fail
        obtain ⟨t1415, HA2063, H⟩ := bind_some H
        refine (chain_Add_nil.calls 1 2 t1415 _ ⟨Sep.start _⟩ HA2063).mono ?_
        rintro e_ w2064 ⟨rfl, hS⟩
        replace HS : Aside0 (Sep (fps []) w [] w2064) := ⟨HS.out.call hS⟩
        clear hS
        by_cases c2065 : t1415 = true
        · have H := if_yes c2065 H
          have c2065b0 : t1415 = true := c2065
          have c2065b1 : (!t1415) = false := by rw [c2065b0]; rfl
          try rw [c2065b1]
          clear c2065
          go_wp2_with fail
          obtain ⟨t1617, HA2152, H⟩ := bind_some H
          refine (chain_Push_nil.calls 1 7 t1617 _ ⟨Sep.start _⟩ HA2152).mono ?_
          rintro e_ w2153 ⟨rfl, hS⟩
          replace HS : Aside0 (Sep (fps []) w [] w2153) := ⟨HS.out.call hS⟩
          clear hS
          by_cases c2154 : t1617 = true
          · have H := if_yes c2154 H
            have c2154b0 : t1617 = true := c2154
            have c2154b1 : (!t1617) = false := by rw [c2154b0]; rfl
            try rw [c2154b1]
            clear c2154
            go_wp2_with fail
            obtain ⟨t1789, HA2263, H⟩ := bind_some H
            refine (chain_List_nil.calls _ 1 t1789 _ ⟨Sep.start _⟩ HA2263).mono ?_
            rintro e_ w2264 ⟨A2266, m2267, n2268, rfl, hS⟩
            replace HS : Aside0 (Sep (fps []) w [r11 A2266 m2267 n2268 t1789] w2264) := ⟨HS.out.call hS⟩
            clear hS
            obtain rfl := (row_len (HS.out.at0)).symm
            go_wp2_with (first | ((with_reducible refine gate_dst (N := 27) rfl ?_); refine slice_on (n := 3) ?hg (N := 27) ?hd (cs := #[.int .i64 7, .int .i64 4, .int .i64 2]) (t := 3) ?hr ?_; (case hd => rfl); (case hg => rfl); (case hr => first | (go_simp; done) | (go_simp; rfl)); intro g2270 hg w2271 hbox hb; replace HS : Aside0 (Sep (fps []) w [r11 A2266 t1789.length n2268 t1789, b4 g2270 7 4 2] w2271) := ⟨HS.out.box hg hbox hb⟩; clear hg hbox hb))
            obtain ⟨t1839, HA2273, H⟩ := bind_some H
            refine (quitrentref01_Ints.calls _ t1789 [7, 4, 2] A2266 n2268 (some ⟨g2270, 0, none⟩) 3 t1839 _ ⟨Rd.ownI (l := []) HS.out 0 rfl⟩ ⟨Rd.lit (l := []) (xs := [7, 4, 2]) HS.out 1 rfl (by simp)⟩ ⟨Sep.start _⟩ HA2273).mono ?_
            rintro e_ w2274 ⟨rfl, hS⟩
            replace HS : Aside0 (Sep (fps []) w [r11 A2266 t1789.length n2268 t1789, b4 g2270 7 4 2] w2274) := ⟨HS.out.call hS⟩
            clear hS
            by_cases c2275 : t1839 = true
            · have H := if_yes c2275 H
              have c2275b0 : t1839 = true := c2275
              have c2275b1 : (!t1839) = false := by rw [c2275b0]; rfl
              clear c2275
              go_wp2_with fail
              obtain ⟨t1843, HA2276, H⟩ := bind_some H
              refine (ground_Ground_SeeReg_nil.calls 3 t1843 _ ⟨Sep.start _⟩ HA2276).mono ?_
              rintro e_ w2277 ⟨rfl, hS⟩
              replace HS : Aside0 (Sep (fps []) w [r11 A2266 t1789.length n2268 t1789, b4 g2270 7 4 2] w2277) := ⟨HS.out.call hS⟩
              clear hS
              by_cases c2278 : t1843 = 8
              · have H := if_yes c2278 H
                have c2278b0 : (t1843 == 8) = true := beq_iff_eq.mpr c2278
                have c2278b1 : (t1843 != 8) = false := bne_eq_false_iff_eq.mpr c2278
                clear c2278
                go_wp2_with fail
                obtain ⟨t1847, HA2279, H⟩ := bind_some H
                refine (ground_Ground_SeeReg_nil.calls 4 t1847 _ ⟨Sep.start _⟩ HA2279).mono ?_
                rintro e_ w2280 ⟨rfl, hS⟩
                replace HS : Aside0 (Sep (fps []) w [r11 A2266 t1789.length n2268 t1789, b4 g2270 7 4 2] w2280) := ⟨HS.out.call hS⟩
                clear hS
                by_cases c2281 : t1847 = 3
                · have H := if_yes c2281 H
                  have c2281b0 : (t1847 == 3) = true := beq_iff_eq.mpr c2281
                  have c2281b1 : (t1847 != 3) = false := bne_eq_false_iff_eq.mpr c2281
                  clear c2281
                  go_wp2_with fail
                  obtain ⟨t1851, HA2282, H⟩ := bind_some H
                  refine (ground_Ground_SeeReg_nil.calls 5 t1851 _ ⟨Sep.start _⟩ HA2282).mono ?_
                  rintro e_ w2283 ⟨rfl, hS⟩
                  replace HS : Aside0 (Sep (fps []) w [r11 A2266 t1789.length n2268 t1789, b4 g2270 7 4 2] w2283) := ⟨HS.out.call hS⟩
                  clear hS
                  replace HS : Aside0 (Sep (fps []) w [] w2283) := ⟨HS.out.sub (.cons _ (.cons _ .slnil))⟩
                  go_wp2_with fail
                  go_ret
                  rw [← some_eq H]
                  exact ⟨(by first | rfl | (simp [IntKind.wrap_u32]; done)), HS.out⟩
                · have H := if_no c2281 H
                  have c2281b0 : (t1847 == 3) = false := beq_eq_false_iff_ne.mpr c2281
                  have c2281b1 : (t1847 != 3) = true := bne_iff_ne.mpr c2281
                  clear c2281
                  replace HS : Aside0 (Sep (fps []) w [] w2280) := ⟨HS.out.sub (.cons _ (.cons _ .slnil))⟩
                  go_wp2_with fail
                  go_ret
                  rw [← some_eq H]
                  exact ⟨(by first | rfl | (simp [IntKind.wrap_u32]; done)), HS.out⟩
              · have H := if_no c2278 H
                have c2278b0 : (t1843 == 8) = false := beq_eq_false_iff_ne.mpr c2278
                have c2278b1 : (t1843 != 8) = true := bne_iff_ne.mpr c2278
                clear c2278
                replace HS : Aside0 (Sep (fps []) w [] w2277) := ⟨HS.out.sub (.cons _ (.cons _ .slnil))⟩
                go_wp2_with fail
                go_ret
                rw [← some_eq H]
                exact ⟨(by first | rfl | (simp [IntKind.wrap_u32]; done)), HS.out⟩
            · have H := if_no c2275 H
              have c2275b0 : t1839 = false := by simpa using c2275
              have c2275b1 : (!t1839) = true := by rw [c2275b0]; rfl
              clear c2275
              replace HS : Aside0 (Sep (fps []) w [] w2274) := ⟨HS.out.sub (.cons _ (.cons _ .slnil))⟩
              go_wp2_with fail
              go_ret
              rw [← some_eq H]
              exact ⟨(by first | rfl | (simp [IntKind.wrap_u32]; done)), HS.out⟩
          · have H := if_no c2154 H
            have c2154b0 : t1617 = false := by simpa using c2154
            have c2154b1 : (!t1617) = true := by rw [c2154b0]; rfl
            try rw [c2154b1]
            clear c2154
            go_wp2_with fail
            go_ret
            rw [← some_eq H]
            exact ⟨(by first | rfl | (simp [IntKind.wrap_u32]; done)), HS.out⟩
        · have H := if_no c2065 H
          have c2065b0 : t1415 = false := by simpa using c2065
          have c2065b1 : (!t1415) = true := by rw [c2065b0]; rfl
          try rw [c2065b1]
          clear c2065
          go_wp2_with fail
          go_ret
          rw [← some_eq H]
          exact ⟨(by first | rfl | (simp [IntKind.wrap_u32]; done)), HS.out⟩
      · have H := if_no c2062 H
        have c2062b0 : t1411 = false := by simpa using c2062
        have c2062b1 : (!t1411) = true := by rw [c2062b0]; rfl
        try rw [c2062b1]
        clear c2062
        go_wp2_with fail
        go_ret
        rw [← some_eq H]
        exact ⟨(by first | rfl | (simp [IntKind.wrap_u32]; done)), HS.out⟩
    · have H := if_no c1855 H
      have c1855b0 : (t797 == 0) = false := beq_eq_false_iff_ne.mpr c1855
      have c1855b1 : (t797 != 0) = true := bne_iff_ne.mpr c1855
      clear c1855
      go_wp2_with fail
      go_ret
      rw [← some_eq H]
      exact ⟨(by first | rfl | (simp [IntKind.wrap_u32]; done)), HS.out⟩

set_option maxHeartbeats 30000000 in
set_option maxRecDepth 100000 in
theorem ground_Ground_Word.calls (l2440 : List Int) (a2445 : Int) (a2446 : Int) (a2447 : Int) (a2448 : Int) (a2449 : Int) (a2450 : Int) (a2451 : Int) (g2436 : Nat) (g2438 : Nat) (A2441 : Option Addr) (m2442 : Nat) (n2443 : Nat) (r : Int × Int) (w : World)   (HS : Aside0 (Sep (fps [b7 g2436 g2438 a2446 a2447 a2448 a2449, b6 g2438 A2441 m2442 n2443 a2445, r5 A2441 m2442 n2443 l2440]) w [b7 g2436 g2438 a2446 a2447 a2448 a2449, b6 g2438 A2441 m2442 n2443 a2445, r5 A2441 m2442 n2443 l2440] w)) (H : Aside0 (ground_Ground_Word.f l2440 a2445 a2446 a2447 a2448 a2449 a2450 a2451 = some r)) :
    Calls Try.prog 45 #[.pointer (some ⟨g2436, 0, none⟩), .int .i64 a2450, .int .i64 a2451] w fun e w' => e = .returned (.int .u32 r.1) ∧ Sep (fps [b7 g2436 g2438 a2446 a2447 a2448 a2449, b6 g2438 A2441 m2442 n2443 a2445, r5 A2441 m2442 n2443 l2440]) w [b7 g2436 g2438 a2446 a2447 a2448 a2449, b6 g2438 A2441 m2442 n2443 r.2, r5 A2441 m2442 n2443 l2440] w' := by
  generalize (fps [b7 g2436 g2438 a2446 a2447 a2448 a2449, b6 g2438 A2441 m2442 n2443 a2445, r5 A2441 m2442 n2443 l2440]) = FF at HS ⊢
  obtain rfl := (row_len (HS.out.at2)).symm
  unfold ground_Ground_Word.f at H
  go_enter Try.func45, Try.ntmps45
  go_wp2_with fail
  obtain ⟨t2461, HA2462, H⟩ := bind_some H
  refine (ground_Ground_all.calls l2440 a2445 a2446 a2447 a2448 a2449 g2436 g2438 A2441 l2440.length n2443 t2461 _ ⟨HS.out.begin⟩ HA2462).mono ?_
  rintro e_ w2463 ⟨rfl, hS⟩
  replace HS : Aside0 (Sep FF w [b7 g2436 g2438 a2446 a2447 a2448 a2449, b6 g2438 A2441 l2440.length n2443 a2445, r5 A2441 l2440.length n2443 l2440] w2463) := ⟨HS.out.call hS⟩
  clear hS
  go_wp2_with fail
  obtain ⟨t2464, HA2465, H⟩ := bind_some H
  refine (ground_Ground_word.calls l2440 a2445 a2446 a2447 a2448 a2449 a2450 a2451 g2436 g2438 A2441 l2440.length n2443 t2464 _ ⟨HS.out.begin⟩ HA2465).mono ?_
  rintro e_ w2466 ⟨rfl, hS⟩
  replace HS : Aside0 (Sep FF w [b7 g2436 g2438 a2446 a2447 a2448 a2449, b6 g2438 A2441 l2440.length n2443 a2445, r5 A2441 l2440.length n2443 l2440] w2466) := ⟨HS.out.call hS⟩
  clear hS
  go_wp2_with fail
  replace HS : Aside0 (Sep FF w [r5 A2441 l2440.length n2443 l2440, b7 g2436 g2438 a2446 a2447 a2448 a2449, b6 g2438 A2441 l2440.length n2443 a2445] w2466) := ⟨HS.out.front 2 (by simp)⟩
  replace HS : Aside0 (Sep FF w [b6 g2438 A2441 l2440.length n2443 a2445, r5 A2441 l2440.length n2443 l2440, b7 g2436 g2438 a2446 a2447 a2448 a2449] w2466) := ⟨HS.out.front 2 (by simp)⟩
  obtain ⟨t2467, HA2468, H⟩ := bind_some H
  refine (store_Store_Get.calls l2440 a2445 t2464 g2438 A2441 l2440.length n2443 t2467 _ ⟨HS.out.begin⟩ HA2468).mono ?_
  rintro e_ w2469 ⟨rfl, hS⟩
  replace HS : Aside0 (Sep FF w [b6 g2438 A2441 l2440.length n2443 t2467.2, r5 A2441 l2440.length n2443 l2440, b7 g2436 g2438 a2446 a2447 a2448 a2449] w2469) := ⟨HS.out.call hS⟩
  clear hS
  go_wp2_with fail
  go_ret
  rw [← some_eq H]
  exact ⟨(by first | rfl | (simp [IntKind.wrap_u32]; done)), ((((HS.out).front 1 (by simp)).front 1 (by simp)).front 2 (by simp)).keep (l := [b7 g2436 g2438 a2446 a2447 a2448 a2449, b6 g2438 A2441 l2440.length n2443 t2467.2, r5 A2441 l2440.length n2443 l2440]) (rest := [])⟩

set_option maxHeartbeats 30000000 in
set_option maxRecDepth 100000 in
theorem chain_Take.calls (l2386 : List Int) (a2391 : Int) (a2392 : Int) (a2393 : Int) (a2394 : Int) (a2395 : Int) (a2396 : Int) (g2382 : Nat) (g2384 : Nat) (A2387 : Option Addr) (m2388 : Nat) (n2389 : Nat) (r : Int × Bool × Int × List Int) (w : World)   (HS : Aside0 (Sep (fps [b7 g2382 g2384 a2392 a2393 a2394 a2395, b6 g2384 A2387 m2388 n2389 a2391, r5 A2387 m2388 n2389 l2386]) w [b7 g2382 g2384 a2392 a2393 a2394 a2395, b6 g2384 A2387 m2388 n2389 a2391, r5 A2387 m2388 n2389 l2386] w)) (H : Aside0 (chain_Take.f l2386 a2391 a2392 a2393 a2394 a2395 a2396 = some r)) :
    Calls Try.prog 54 #[.pointer (some ⟨g2382, 0, none⟩), .int .i64 a2396] w fun e w' => e = .returned (.tuple #[.int .i64 r.1, .bool r.2.1]) ∧ Sep (fps [b7 g2382 g2384 a2392 a2393 a2394 a2395, b6 g2384 A2387 m2388 n2389 a2391, r5 A2387 m2388 n2389 l2386]) w [b7 g2382 g2384 a2392 a2393 a2394 a2395, b6 g2384 A2387 m2388 n2389 r.2.2.1, r5 A2387 m2388 n2389 r.2.2.2] w' := by
  generalize (fps [b7 g2382 g2384 a2392 a2393 a2394 a2395, b6 g2384 A2387 m2388 n2389 a2391, r5 A2387 m2388 n2389 l2386]) = FF at HS ⊢
  obtain rfl := (row_len (HS.out.at2)).symm
  unfold chain_Take.f at H
  go_enter Try.func54, Try.ntmps54
  go_wp2_with fail
  obtain ⟨t2493, HA2494, H⟩ := bind_some H
  refine (chain_of.calls l2386 a2391 a2392 a2393 a2394 a2395 a2396 g2382 g2384 A2387 l2386.length n2389 t2493 _ ⟨HS.out.begin⟩ HA2494).mono ?_
  rintro e_ w2495 ⟨rfl, hS⟩
  replace HS : Aside0 (Sep FF w [b7 g2382 g2384 a2392 a2393 a2394 a2395, b6 g2384 A2387 l2386.length n2389 a2391, r5 A2387 l2386.length n2389 l2386] w2495) := ⟨HS.out.call hS⟩
  clear hS
  by_cases c2506 : t2493.2.2.2 = true
  · have H := if_yes c2506 H
    have c2506b0 : t2493.2.2.2 = true := c2506
    have c2506b1 : (!t2493.2.2.2) = false := by rw [c2506b0]; rfl
    try rw [c2506b1]
    clear c2506
    go_wp2_with (first | ((with_reducible refine gate_dst (N := 6) rfl ?_); refine box_on ?hg (N := 6) ?hd (cs := #[.int .i64 0, .int .i64 0, .int .i64 0]) (t := 134) ?hr ?_; (case hd => rfl); (case hg => rfl); (case hr => first | (go_simp; done) | (go_simp; rfl)); intro g2496 hg w2497 hbox hb; replace HS : Aside0 (Sep FF w [b7 g2382 g2384 a2392 a2393 a2394 a2395, b6 g2384 A2387 l2386.length n2389 a2391, r5 A2387 l2386.length n2389 l2386, b10 g2496 0 0 0] w2497) := ⟨HS.out.box hg hbox hb⟩; clear hg hbox hb; have hc2499 : w2497.cell? ⟨g2496, 0, none⟩ = some (.int .i64 0) := blk_cellv (HS.out.at3) 0 rfl; have hz2500 : w2497.frozen? ⟨g2496, 0, none⟩ = false := blk_fz (HS.out.at3) 0; have hc2501 : w2497.cell? ⟨g2496, 1, none⟩ = some (.int .i64 0) := blk_cellv (HS.out.at3) 1 rfl; have hz2502 : w2497.frozen? ⟨g2496, 1, none⟩ = false := blk_fz (HS.out.at3) 1; have hc2503 : w2497.cell? ⟨g2496, 2, none⟩ = some (.int .i64 0) := blk_cellv (HS.out.at3) 2 rfl; have hz2504 : w2497.frozen? ⟨g2496, 2, none⟩ = false := blk_fz (HS.out.at3) 2) | ((with_reducible refine gate_store (t := 134) (p := 6) rfl ?_); refine store_event (w1 := (World.setCell (World.setCell (World.setCell w2497 ⟨g2496, 0, none⟩ (.int .i64 t2493.1)) ⟨g2496, 1, none⟩ (.int .i64 t2493.2.1)) ⟨g2496, 2, none⟩ (.int .i64 t2493.2.2.1))) rfl (t := 134) (p := 6) rfl rfl ?hr ?_; (case hr => first | (go_simp; done) | (go_simp; rfl)); intro w2505 hst; clear hc2499 hz2500 hc2501 hz2502 hc2503 hz2504; replace HS : Aside0 (Sep FF w [b7 g2382 g2384 a2392 a2393 a2394 a2395, b6 g2384 A2387 l2386.length n2389 a2391, r5 A2387 l2386.length n2389 l2386, b10 g2496 t2493.1 t2493.2.1 t2493.2.2.1] w2505) := ⟨by rw [hst]; exact HS.out.setAll (l1 := [b7 g2382 g2384 a2392 a2393 a2394 a2395, b6 g2384 A2387 l2386.length n2389 a2391, r5 A2387 l2386.length n2389 l2386]) (l2 := []) [.int .i64 t2493.1, .int .i64 t2493.2.1, .int .i64 t2493.2.2.1] rfl⟩; clear hst; have hc2507 : w2505.cell? ⟨g2496, 0, none⟩ = some (.int .i64 t2493.1) := blk_cellv (HS.out.at3) 0 rfl))
    clear hc2507
    obtain ⟨t2508, HA2509, H⟩ := bind_some H
    refine (ground_Ground_Reg.calls l2386 a2391 a2392 a2393 a2394 a2395 t2493.1 g2382 g2384 A2387 l2386.length n2389 t2508 _ ⟨HS.out.begin⟩ HA2509).mono ?_
    rintro e_ w2510 ⟨rfl, hS⟩
    replace HS : Aside0 (Sep FF w [b7 g2382 g2384 a2392 a2393 a2394 a2395, b6 g2384 A2387 l2386.length n2389 t2508.2, r5 A2387 l2386.length n2389 l2386, b10 g2496 t2493.1 t2493.2.1 t2493.2.2.1] w2510) := ⟨HS.out.call hS⟩
    clear hS
    by_cases c2511 : t2508.1 = 0
    · have H := if_yes c2511 H
      have c2511b0 : (t2508.1 == 0) = true := beq_iff_eq.mpr c2511
      have c2511b1 : (t2508.1 != 0) = false := bne_eq_false_iff_eq.mpr c2511
      clear c2511
      replace HS : Aside0 (Sep FF w [b7 g2382 g2384 a2392 a2393 a2394 a2395, b6 g2384 A2387 l2386.length n2389 t2508.2, r5 A2387 l2386.length n2389 l2386] w2510) := ⟨HS.out.sub (.cons_cons _ (.cons_cons _ (.cons_cons _ (.cons _ .slnil))))⟩
      go_wp2_with fail
      go_ret2
      rw [← some_eq H]
      exact ⟨(by first | rfl | (simp [IntKind.wrap_u32]; done)), HS.out⟩
    · have H := if_no c2511 H
      have c2511b0 : (t2508.1 == 0) = false := beq_eq_false_iff_ne.mpr c2511
      have c2511b1 : (t2508.1 != 0) = true := bne_iff_ne.mpr c2511
      clear c2511
      go_wp2_with fail
      obtain ⟨t2512, HA2513, H⟩ := bind_some H
      refine (ground_Ground_Word.calls l2386 t2508.2 a2392 a2393 a2394 a2395 (wrap64 (t2508.1 - 1)) 5 g2382 g2384 A2387 l2386.length n2389 t2512 _ ⟨HS.out.begin⟩ HA2513).mono ?_
      rintro e_ w2514 ⟨rfl, hS⟩
      replace HS : Aside0 (Sep FF w [b7 g2382 g2384 a2392 a2393 a2394 a2395, b6 g2384 A2387 l2386.length n2389 t2512.2, r5 A2387 l2386.length n2389 l2386, b10 g2496 t2493.1 t2493.2.1 t2493.2.2.1] w2514) := ⟨HS.out.call hS⟩
      clear hS
      go_wp2_with fail
      obtain ⟨t2515, HA2516, H⟩ := bind_some H
      refine (ground_Ground_SetWord.calls l2386 t2512.2 a2392 a2393 a2394 a2395 (wrap64 (t2508.1 - 1)) 5 0 g2382 g2384 A2387 l2386.length n2389 t2515 _ ⟨HS.out.begin⟩ HA2516).mono ?_
      rintro e_ w2517 ⟨rfl, hS⟩
      replace HS : Aside0 (Sep FF w [b7 g2382 g2384 a2392 a2393 a2394 a2395, b6 g2384 A2387 l2386.length n2389 t2515.2.1, r5 A2387 l2386.length n2389 t2515.2.2, b10 g2496 t2493.1 t2493.2.1 t2493.2.2.1] w2517) := ⟨HS.out.call hS⟩
      clear hS
      have hc2518 : w2517.cell? ⟨g2496, 0, none⟩ = some (.int .i64 t2493.1) := blk_cellv (HS.out.at3) 0 rfl
      go_wp2_with fail
      clear hc2518
      obtain ⟨t2519, HA2520, H⟩ := bind_some H
      refine (ground_Ground_SetReg.calls t2515.2.2 t2515.2.1 a2392 a2393 a2394 a2395 t2493.1 (wrap64 (t2512.1)) g2382 g2384 A2387 l2386.length n2389 t2519 _ ⟨HS.out.begin⟩ HA2520).mono ?_
      rintro e_ w2521 ⟨rfl, hS⟩
      replace HS : Aside0 (Sep FF w [b7 g2382 g2384 a2392 a2393 a2394 a2395, b6 g2384 A2387 l2386.length n2389 t2519.2.1, r5 A2387 l2386.length n2389 t2519.2.2, b10 g2496 t2493.1 t2493.2.1 t2493.2.2.1] w2521) := ⟨HS.out.call hS⟩
      clear hS
      by_cases c2522 : (wrap64 (t2512.1)) = 0
      · have H := if_yes c2522 H
        have c2522b0 : ((wrap64 (t2512.1)) == 0) = true := beq_iff_eq.mpr c2522
        have c2522b1 : ((wrap64 (t2512.1)) != 0) = false := bne_eq_false_iff_eq.mpr c2522
        clear c2522
        have hc2523 : w2521.cell? ⟨g2496, 1, none⟩ = some (.int .i64 t2493.2.1) := blk_cellv (HS.out.at3) 1 rfl
        go_wp2_with fail
        clear hc2523
        obtain ⟨t2524, HA2525, H⟩ := bind_some H
        refine (ground_Ground_SetReg.calls t2519.2.2 t2519.2.1 a2392 a2393 a2394 a2395 t2493.2.1 0 g2382 g2384 A2387 l2386.length n2389 t2524 _ ⟨HS.out.begin⟩ HA2525).mono ?_
        rintro e_ w2526 ⟨rfl, hS⟩
        replace HS : Aside0 (Sep FF w [b7 g2382 g2384 a2392 a2393 a2394 a2395, b6 g2384 A2387 l2386.length n2389 t2524.2.1, r5 A2387 l2386.length n2389 t2524.2.2, b10 g2496 t2493.1 t2493.2.1 t2493.2.2.1] w2526) := ⟨HS.out.call hS⟩
        clear hS
        go_wp2_with fail
        refine start_ (n := 9) (S := (fun w' => w'.cell? ⟨g2496, 2, none⟩ = some (.int .i64 t2493.2.2.1))) (ds := []) #[false, false, false, false, false, false, false, false, false] (by kernel_rfl) rfl rfl (blk_cellv ((HS.out.drew).at3) 2 rfl) (fun hHeld => ?_)
        have HS_ := Aside0.mk HS.out.drew
        clear HS
        generalize World.drew _ = w2528 at HS_ hHeld ⊢
        have HS := HS_
        clear HS_
        refine pure_ (i := 0) (N := some 44) (v := ?_) (a' := ?_) #[true, false, false, false, false, false, false, false, false] rfl rfl (by kernel_rfl) (fun _ _ _ h => h) (Or.inl ⟨by rfl, ?_⟩) ?_ ?_
        rotate_left
        · intro w'
          go_simp
          with_reducible rfl
        rotate_left
        · simp only [Act.put, List.setIfInBounds_toArray, List.set_cons_zero, List.set_cons_succ, i64_w, i32_w]
          rfl
        refine pure_ (i := 1) (N := some 45) (v := ?_) (a' := ?_) #[true, true, false, false, false, false, false, false, false] rfl rfl (by kernel_rfl) (fun _ _ _ h => h) (Or.inl ⟨by rfl, ?_⟩) ?_ ?_
        rotate_left
        · intro w'
          go_simp
          with_reducible rfl
        rotate_left
        · simp only [Act.put, List.setIfInBounds_toArray, List.set_cons_zero, List.set_cons_succ, i64_w, i32_w]
          rfl
        refine pure_ (i := 3) (N := some 47) (v := ?_) (a' := ?_) #[true, true, false, true, false, false, false, false, false] rfl rfl (by kernel_rfl) (fun _ _ _ h => h) (Or.inl ⟨by rfl, ?_⟩) ?_ ?_
        rotate_left
        · intro w'
          go_simp
          with_reducible rfl
        rotate_left
        · simp only [Act.put, List.setIfInBounds_toArray, List.set_cons_zero, List.set_cons_succ, i64_w, i32_w]
          rfl
        refine pure_ (i := 4) (N := some 48) (v := ?_) (a' := ?_) #[true, true, false, true, true, false, false, false, false] rfl rfl (by kernel_rfl) (fun _ _ _ h => h) (Or.inl ⟨by rfl, ?_⟩) ?_ ?_
        rotate_left
        · intro w'
          go_simp
          with_reducible rfl
        rotate_left
        · simp only [Act.put, List.setIfInBounds_toArray, List.set_cons_zero, List.set_cons_succ, i64_w, i32_w]
          rfl
        refine take_ (i := 2) (N := some 46) (v := ?_) (a' := ?_) #[true, true, true, true, true, false, false, false, false] rfl rfl (by kernel_rfl) (fun _ _ _ h => h) (Or.inl ⟨by rfl, ?_⟩) hHeld ?_ ?_
        rotate_left
        · rintro w' hS'
          have s0 := hS'
          go_simp
          with_reducible rfl
        rotate_left
        · simp only [Act.put, List.setIfInBounds_toArray, List.set_cons_zero, List.set_cons_succ, i64_w, i32_w]
          rfl
        refine take_ (i := 5) (N := some 49) (v := ?_) (a' := ?_) #[true, true, true, true, true, true, false, false, false] rfl rfl (by kernel_rfl) (fun _ _ _ h => h) (Or.inl ⟨by rfl, ?_⟩) hHeld ?_ ?_
        rotate_left
        · rintro w' hS'
          have s0 := hS'
          go_simp
          with_reducible rfl
        rotate_left
        · simp only [Act.put, List.setIfInBounds_toArray, List.set_cons_zero, List.set_cons_succ, i64_w, i32_w]
          rfl
        refine one_ (i := 6) (N := some 50) #[true, true, true, true, true, true, true, false, false] rfl rfl (by kernel_rfl) (by decide) (fun K hK => ?_)
        obtain ⟨t2529, HA2530, H⟩ := bind_some H
        refine goes_ Try.func36 (by kernel_rfl) rfl #[.pointer (some ⟨g2382, 0, none⟩), .int .i64 t2493.2.2.1] (by rfl) rfl rfl (by (try simp only [List.map_toArray, List.map_cons, List.map_nil]); first | done | rfl) ?_
        refine (ground_Ground_Reg.calls t2524.2.2 t2524.2.1 a2392 a2393 a2394 a2395 t2493.2.2.1 g2382 g2384 A2387 l2386.length n2389 t2529 _ ⟨HS.out.begin⟩ HA2530).mono ?_
        rintro e_ w2531 ⟨rfl, hS⟩
        replace HS : Aside0 (Sep FF w [b7 g2382 g2384 a2392 a2393 a2394 a2395, b6 g2384 A2387 l2386.length n2389 t2529.2, r5 A2387 l2386.length n2389 t2524.2.2, b10 g2496 t2493.1 t2493.2.1 t2493.2.2.1] w2531) := ⟨HS.out.call hS⟩
        clear hS
        refine ⟨_, rfl, ?_⟩
        refine hK.out _ _ (blk_cellv (HS.out.at3) 2 rfl) (fun hHeld => ?_)
        clear hK K
        refine norm_ (a' := ?_) ?_ ?_
        rotate_left
        · show Act.put _ (some 50) _ = _
          simp only [Act.put, List.setIfInBounds_toArray, List.set_cons_zero, List.set_cons_succ, i64_w, i32_w]
          rfl
        refine pure_ (i := 7) (N := some 51) (v := ?_) (a' := ?_) #[true, true, true, true, true, true, true, true, false] rfl rfl (by kernel_rfl) (fun _ _ _ h => h) (Or.inl ⟨by rfl, ?_⟩) ?_ ?_
        rotate_left
        · intro w'
          go_simp
          with_reducible rfl
        rotate_left
        · simp only [Act.put, List.setIfInBounds_toArray, List.set_cons_zero, List.set_cons_succ, i64_w, i32_w]
          rfl
        refine one_ (i := 8) (N := some 52) #[true, true, true, true, true, true, true, true, true] rfl rfl (by kernel_rfl) (by decide) (fun K hK => ?_)
        obtain ⟨t2532, HA2533, H⟩ := bind_some H
        refine goes_ Try.func42 (by kernel_rfl) rfl #[.pointer (some ⟨g2382, 0, none⟩), .int .i64 t2493.2.2.1, .int .i64 (wrap64 (t2529.1 - 1))] (by rfl) rfl rfl (by (try simp only [List.map_toArray, List.map_cons, List.map_nil]); first | done | rfl) ?_
        refine (ground_Ground_SetReg.calls t2524.2.2 t2529.2 a2392 a2393 a2394 a2395 t2493.2.2.1 (wrap64 (t2529.1 - 1)) g2382 g2384 A2387 l2386.length n2389 t2532 _ ⟨HS.out.begin⟩ HA2533).mono ?_
        rintro e_ w2534 ⟨rfl, hS⟩
        replace HS : Aside0 (Sep FF w [b7 g2382 g2384 a2392 a2393 a2394 a2395, b6 g2384 A2387 l2386.length n2389 t2532.2.1, r5 A2387 l2386.length n2389 t2532.2.2, b10 g2496 t2493.1 t2493.2.1 t2493.2.2.1] w2534) := ⟨HS.out.call hS⟩
        clear hS
        refine ⟨_, rfl, ?_⟩
        refine hK.out _ _ (blk_cellv (HS.out.at3) 2 rfl) (fun hHeld => ?_)
        clear hK K
        refine norm_ (a' := ?_) ?_ ?_
        rotate_left
        · show Act.put _ (some 52) _ = _
          simp only [Act.put, List.setIfInBounds_toArray, List.set_cons_zero, List.set_cons_succ, i64_w, i32_w]
          rfl
        refine done_ (by kernel_rfl) ?_
        replace HS : Aside0 (Sep FF w [b7 g2382 g2384 a2392 a2393 a2394 a2395, b6 g2384 A2387 l2386.length n2389 t2532.2.1, r5 A2387 l2386.length n2389 t2532.2.2] w2534) := ⟨HS.out.sub (.cons_cons _ (.cons_cons _ (.cons_cons _ (.cons _ .slnil))))⟩
        go_wp2_with fail
        go_ret2
        rw [← some_eq H]
        exact ⟨(by first | rfl | (simp [IntKind.wrap_u32]; done)), HS.out⟩
      · have H := if_no c2522 H
        have c2522b0 : ((wrap64 (t2512.1)) == 0) = false := beq_eq_false_iff_ne.mpr c2522
        have c2522b1 : ((wrap64 (t2512.1)) != 0) = true := bne_iff_ne.mpr c2522
        clear c2522
        go_wp2_with fail
        refine start_ (n := 9) (S := (fun w' => w'.cell? ⟨g2496, 2, none⟩ = some (.int .i64 t2493.2.2.1))) (ds := []) #[false, false, false, false, false, false, false, false, false] (by kernel_rfl) rfl rfl (blk_cellv ((HS.out.drew).at3) 2 rfl) (fun hHeld => ?_)
        have HS_ := Aside0.mk HS.out.drew
        clear HS
        generalize World.drew _ = w2536 at HS_ hHeld ⊢
        have HS := HS_
        clear HS_
        refine pure_ (i := 0) (N := some 44) (v := ?_) (a' := ?_) #[true, false, false, false, false, false, false, false, false] rfl rfl (by kernel_rfl) (fun _ _ _ h => h) (Or.inl ⟨by rfl, ?_⟩) ?_ ?_
        rotate_left
        · intro w'
          go_simp
          with_reducible rfl
        rotate_left
        · simp only [Act.put, List.setIfInBounds_toArray, List.set_cons_zero, List.set_cons_succ, i64_w, i32_w]
          rfl
        refine pure_ (i := 1) (N := some 45) (v := ?_) (a' := ?_) #[true, true, false, false, false, false, false, false, false] rfl rfl (by kernel_rfl) (fun _ _ _ h => h) (Or.inl ⟨by rfl, ?_⟩) ?_ ?_
        rotate_left
        · intro w'
          go_simp
          with_reducible rfl
        rotate_left
        · simp only [Act.put, List.setIfInBounds_toArray, List.set_cons_zero, List.set_cons_succ, i64_w, i32_w]
          rfl
        refine pure_ (i := 3) (N := some 47) (v := ?_) (a' := ?_) #[true, true, false, true, false, false, false, false, false] rfl rfl (by kernel_rfl) (fun _ _ _ h => h) (Or.inl ⟨by rfl, ?_⟩) ?_ ?_
        rotate_left
        · intro w'
          go_simp
          with_reducible rfl
        rotate_left
        · simp only [Act.put, List.setIfInBounds_toArray, List.set_cons_zero, List.set_cons_succ, i64_w, i32_w]
          rfl
        refine pure_ (i := 4) (N := some 48) (v := ?_) (a' := ?_) #[true, true, false, true, true, false, false, false, false] rfl rfl (by kernel_rfl) (fun _ _ _ h => h) (Or.inl ⟨by rfl, ?_⟩) ?_ ?_
        rotate_left
        · intro w'
          go_simp
          with_reducible rfl
        rotate_left
        · simp only [Act.put, List.setIfInBounds_toArray, List.set_cons_zero, List.set_cons_succ, i64_w, i32_w]
          rfl
        refine take_ (i := 2) (N := some 46) (v := ?_) (a' := ?_) #[true, true, true, true, true, false, false, false, false] rfl rfl (by kernel_rfl) (fun _ _ _ h => h) (Or.inl ⟨by rfl, ?_⟩) hHeld ?_ ?_
        rotate_left
        · rintro w' hS'
          have s0 := hS'
          go_simp
          with_reducible rfl
        rotate_left
        · simp only [Act.put, List.setIfInBounds_toArray, List.set_cons_zero, List.set_cons_succ, i64_w, i32_w]
          rfl
        refine take_ (i := 5) (N := some 49) (v := ?_) (a' := ?_) #[true, true, true, true, true, true, false, false, false] rfl rfl (by kernel_rfl) (fun _ _ _ h => h) (Or.inl ⟨by rfl, ?_⟩) hHeld ?_ ?_
        rotate_left
        · rintro w' hS'
          have s0 := hS'
          go_simp
          with_reducible rfl
        rotate_left
        · simp only [Act.put, List.setIfInBounds_toArray, List.set_cons_zero, List.set_cons_succ, i64_w, i32_w]
          rfl
        refine one_ (i := 6) (N := some 50) #[true, true, true, true, true, true, true, false, false] rfl rfl (by kernel_rfl) (by decide) (fun K hK => ?_)
        obtain ⟨t2529, HA2537, H⟩ := bind_some H
        refine goes_ Try.func36 (by kernel_rfl) rfl #[.pointer (some ⟨g2382, 0, none⟩), .int .i64 t2493.2.2.1] (by rfl) rfl rfl (by (try simp only [List.map_toArray, List.map_cons, List.map_nil]); first | done | rfl) ?_
        refine (ground_Ground_Reg.calls t2519.2.2 t2519.2.1 a2392 a2393 a2394 a2395 t2493.2.2.1 g2382 g2384 A2387 l2386.length n2389 t2529 _ ⟨HS.out.begin⟩ HA2537).mono ?_
        rintro e_ w2538 ⟨rfl, hS⟩
        replace HS : Aside0 (Sep FF w [b7 g2382 g2384 a2392 a2393 a2394 a2395, b6 g2384 A2387 l2386.length n2389 t2529.2, r5 A2387 l2386.length n2389 t2519.2.2, b10 g2496 t2493.1 t2493.2.1 t2493.2.2.1] w2538) := ⟨HS.out.call hS⟩
        clear hS
        refine ⟨_, rfl, ?_⟩
        refine hK.out _ _ (blk_cellv (HS.out.at3) 2 rfl) (fun hHeld => ?_)
        clear hK K
        refine norm_ (a' := ?_) ?_ ?_
        rotate_left
        · show Act.put _ (some 50) _ = _
          simp only [Act.put, List.setIfInBounds_toArray, List.set_cons_zero, List.set_cons_succ, i64_w, i32_w]
          rfl
        refine pure_ (i := 7) (N := some 51) (v := ?_) (a' := ?_) #[true, true, true, true, true, true, true, true, false] rfl rfl (by kernel_rfl) (fun _ _ _ h => h) (Or.inl ⟨by rfl, ?_⟩) ?_ ?_
        rotate_left
        · intro w'
          go_simp
          with_reducible rfl
        rotate_left
        · simp only [Act.put, List.setIfInBounds_toArray, List.set_cons_zero, List.set_cons_succ, i64_w, i32_w]
          rfl
        refine one_ (i := 8) (N := some 52) #[true, true, true, true, true, true, true, true, true] rfl rfl (by kernel_rfl) (by decide) (fun K hK => ?_)
        obtain ⟨t2532, HA2539, H⟩ := bind_some H
        refine goes_ Try.func42 (by kernel_rfl) rfl #[.pointer (some ⟨g2382, 0, none⟩), .int .i64 t2493.2.2.1, .int .i64 (wrap64 (t2529.1 - 1))] (by rfl) rfl rfl (by (try simp only [List.map_toArray, List.map_cons, List.map_nil]); first | done | rfl) ?_
        refine (ground_Ground_SetReg.calls t2519.2.2 t2529.2 a2392 a2393 a2394 a2395 t2493.2.2.1 (wrap64 (t2529.1 - 1)) g2382 g2384 A2387 l2386.length n2389 t2532 _ ⟨HS.out.begin⟩ HA2539).mono ?_
        rintro e_ w2540 ⟨rfl, hS⟩
        replace HS : Aside0 (Sep FF w [b7 g2382 g2384 a2392 a2393 a2394 a2395, b6 g2384 A2387 l2386.length n2389 t2532.2.1, r5 A2387 l2386.length n2389 t2532.2.2, b10 g2496 t2493.1 t2493.2.1 t2493.2.2.1] w2540) := ⟨HS.out.call hS⟩
        clear hS
        refine ⟨_, rfl, ?_⟩
        refine hK.out _ _ (blk_cellv (HS.out.at3) 2 rfl) (fun hHeld => ?_)
        clear hK K
        refine norm_ (a' := ?_) ?_ ?_
        rotate_left
        · show Act.put _ (some 52) _ = _
          simp only [Act.put, List.setIfInBounds_toArray, List.set_cons_zero, List.set_cons_succ, i64_w, i32_w]
          rfl
        refine done_ (by kernel_rfl) ?_
        replace HS : Aside0 (Sep FF w [b7 g2382 g2384 a2392 a2393 a2394 a2395, b6 g2384 A2387 l2386.length n2389 t2532.2.1, r5 A2387 l2386.length n2389 t2532.2.2] w2540) := ⟨HS.out.sub (.cons_cons _ (.cons_cons _ (.cons_cons _ (.cons _ .slnil))))⟩
        go_wp2_with fail
        go_ret2
        rw [← some_eq H]
        exact ⟨(by first | rfl | (simp [IntKind.wrap_u32]; done)), HS.out⟩
  · have H := if_no c2506 H
    have c2506b0 : t2493.2.2.2 = false := by simpa using c2506
    have c2506b1 : (!t2493.2.2.2) = true := by rw [c2506b0]; rfl
    try rw [c2506b1]
    clear c2506
    go_wp2_with (first | ((with_reducible refine gate_dst (N := 6) rfl ?_); refine box_on ?hg (N := 6) ?hd (cs := #[.int .i64 0, .int .i64 0, .int .i64 0]) (t := 134) ?hr ?_; (case hd => rfl); (case hg => rfl); (case hr => first | (go_simp; done) | (go_simp; rfl)); intro g2496 hg w2497 hbox hb; replace HS : Aside0 (Sep FF w [b7 g2382 g2384 a2392 a2393 a2394 a2395, b6 g2384 A2387 l2386.length n2389 a2391, r5 A2387 l2386.length n2389 l2386, b10 g2496 0 0 0] w2497) := ⟨HS.out.box hg hbox hb⟩; clear hg hbox hb; have hc2499 : w2497.cell? ⟨g2496, 0, none⟩ = some (.int .i64 0) := blk_cellv (HS.out.at3) 0 rfl; have hz2500 : w2497.frozen? ⟨g2496, 0, none⟩ = false := blk_fz (HS.out.at3) 0; have hc2501 : w2497.cell? ⟨g2496, 1, none⟩ = some (.int .i64 0) := blk_cellv (HS.out.at3) 1 rfl; have hz2502 : w2497.frozen? ⟨g2496, 1, none⟩ = false := blk_fz (HS.out.at3) 1; have hc2503 : w2497.cell? ⟨g2496, 2, none⟩ = some (.int .i64 0) := blk_cellv (HS.out.at3) 2 rfl; have hz2504 : w2497.frozen? ⟨g2496, 2, none⟩ = false := blk_fz (HS.out.at3) 2) | ((with_reducible refine gate_store (t := 134) (p := 6) rfl ?_); refine store_event (w1 := (World.setCell (World.setCell (World.setCell w2497 ⟨g2496, 0, none⟩ (.int .i64 t2493.1)) ⟨g2496, 1, none⟩ (.int .i64 t2493.2.1)) ⟨g2496, 2, none⟩ (.int .i64 t2493.2.2.1))) rfl (t := 134) (p := 6) rfl rfl ?hr ?_; (case hr => first | (go_simp; done) | (go_simp; rfl)); intro w2505 hst; clear hc2499 hz2500 hc2501 hz2502 hc2503 hz2504; replace HS : Aside0 (Sep FF w [b7 g2382 g2384 a2392 a2393 a2394 a2395, b6 g2384 A2387 l2386.length n2389 a2391, r5 A2387 l2386.length n2389 l2386, b10 g2496 t2493.1 t2493.2.1 t2493.2.2.1] w2505) := ⟨by rw [hst]; exact HS.out.setAll (l1 := [b7 g2382 g2384 a2392 a2393 a2394 a2395, b6 g2384 A2387 l2386.length n2389 a2391, r5 A2387 l2386.length n2389 l2386]) (l2 := []) [.int .i64 t2493.1, .int .i64 t2493.2.1, .int .i64 t2493.2.2.1] rfl⟩; clear hst; replace HS : Aside0 (Sep FF w [b7 g2382 g2384 a2392 a2393 a2394 a2395, b6 g2384 A2387 l2386.length n2389 a2391, r5 A2387 l2386.length n2389 l2386] w2505) := ⟨HS.out.sub (.cons_cons _ (.cons_cons _ (.cons_cons _ (.cons _ .slnil))))⟩))
    go_ret2
    rw [← some_eq H]
    exact ⟨(by first | rfl | (simp [IntKind.wrap_u32]; done)), HS.out⟩

set_option maxHeartbeats 30000000 in
set_option maxRecDepth 100000 in
theorem chain_Len.calls (l2555 : List Int) (a2560 : Int) (a2561 : Int) (a2562 : Int) (a2563 : Int) (a2564 : Int) (a2565 : Int) (g2551 : Nat) (g2553 : Nat) (A2556 : Option Addr) (m2557 : Nat) (n2558 : Nat) (r : Int × Int) (w : World)   (HS : Aside0 (Sep (fps [b7 g2551 g2553 a2561 a2562 a2563 a2564, b6 g2553 A2556 m2557 n2558 a2560, r5 A2556 m2557 n2558 l2555]) w [b7 g2551 g2553 a2561 a2562 a2563 a2564, b6 g2553 A2556 m2557 n2558 a2560, r5 A2556 m2557 n2558 l2555] w)) (H : Aside0 (chain_Len.f l2555 a2560 a2561 a2562 a2563 a2564 a2565 = some r)) :
    Calls Try.prog 55 #[.pointer (some ⟨g2551, 0, none⟩), .int .i64 a2565] w fun e w' => e = .returned (.int .i64 r.1) ∧ Sep (fps [b7 g2551 g2553 a2561 a2562 a2563 a2564, b6 g2553 A2556 m2557 n2558 a2560, r5 A2556 m2557 n2558 l2555]) w [b7 g2551 g2553 a2561 a2562 a2563 a2564, b6 g2553 A2556 m2557 n2558 r.2, r5 A2556 m2557 n2558 l2555] w' := by
  generalize (fps [b7 g2551 g2553 a2561 a2562 a2563 a2564, b6 g2553 A2556 m2557 n2558 a2560, r5 A2556 m2557 n2558 l2555]) = FF at HS ⊢
  obtain rfl := (row_len (HS.out.at2)).symm
  unfold chain_Len.f at H
  go_enter Try.func55, Try.ntmps55
  go_wp2_with fail
  obtain ⟨t2584, HA2585, H⟩ := bind_some H
  refine (chain_of.calls l2555 a2560 a2561 a2562 a2563 a2564 a2565 g2551 g2553 A2556 l2555.length n2558 t2584 _ ⟨HS.out.begin⟩ HA2585).mono ?_
  rintro e_ w2586 ⟨rfl, hS⟩
  replace HS : Aside0 (Sep FF w [b7 g2551 g2553 a2561 a2562 a2563 a2564, b6 g2553 A2556 l2555.length n2558 a2560, r5 A2556 l2555.length n2558 l2555] w2586) := ⟨HS.out.call hS⟩
  clear hS
  by_cases c2597 : t2584.2.2.2 = true
  · have H := if_yes c2597 H
    have c2597b0 : t2584.2.2.2 = true := c2597
    have c2597b1 : (!t2584.2.2.2) = false := by rw [c2597b0]; rfl
    try rw [c2597b1]
    clear c2597
    go_wp2_with (first | ((with_reducible refine gate_dst (N := 5) rfl ?_); refine box_on ?hg (N := 5) ?hd (cs := #[.int .i64 0, .int .i64 0, .int .i64 0]) (t := 134) ?hr ?_; (case hd => rfl); (case hg => rfl); (case hr => first | (go_simp; done) | (go_simp; rfl)); intro g2587 hg w2588 hbox hb; replace HS : Aside0 (Sep FF w [b7 g2551 g2553 a2561 a2562 a2563 a2564, b6 g2553 A2556 l2555.length n2558 a2560, r5 A2556 l2555.length n2558 l2555, b10 g2587 0 0 0] w2588) := ⟨HS.out.box hg hbox hb⟩; clear hg hbox hb; have hc2590 : w2588.cell? ⟨g2587, 0, none⟩ = some (.int .i64 0) := blk_cellv (HS.out.at3) 0 rfl; have hz2591 : w2588.frozen? ⟨g2587, 0, none⟩ = false := blk_fz (HS.out.at3) 0; have hc2592 : w2588.cell? ⟨g2587, 1, none⟩ = some (.int .i64 0) := blk_cellv (HS.out.at3) 1 rfl; have hz2593 : w2588.frozen? ⟨g2587, 1, none⟩ = false := blk_fz (HS.out.at3) 1; have hc2594 : w2588.cell? ⟨g2587, 2, none⟩ = some (.int .i64 0) := blk_cellv (HS.out.at3) 2 rfl; have hz2595 : w2588.frozen? ⟨g2587, 2, none⟩ = false := blk_fz (HS.out.at3) 2) | ((with_reducible refine gate_store (t := 134) (p := 5) rfl ?_); refine store_event (w1 := (World.setCell (World.setCell (World.setCell w2588 ⟨g2587, 0, none⟩ (.int .i64 t2584.1)) ⟨g2587, 1, none⟩ (.int .i64 t2584.2.1)) ⟨g2587, 2, none⟩ (.int .i64 t2584.2.2.1))) rfl (t := 134) (p := 5) rfl rfl ?hr ?_; (case hr => first | (go_simp; done) | (go_simp; rfl)); intro w2596 hst; clear hc2590 hz2591 hc2592 hz2593 hc2594 hz2595; replace HS : Aside0 (Sep FF w [b7 g2551 g2553 a2561 a2562 a2563 a2564, b6 g2553 A2556 l2555.length n2558 a2560, r5 A2556 l2555.length n2558 l2555, b10 g2587 t2584.1 t2584.2.1 t2584.2.2.1] w2596) := ⟨by rw [hst]; exact HS.out.setAll (l1 := [b7 g2551 g2553 a2561 a2562 a2563 a2564, b6 g2553 A2556 l2555.length n2558 a2560, r5 A2556 l2555.length n2558 l2555]) (l2 := []) [.int .i64 t2584.1, .int .i64 t2584.2.1, .int .i64 t2584.2.2.1] rfl⟩; clear hst; have hc2598 : w2596.cell? ⟨g2587, 2, none⟩ = some (.int .i64 t2584.2.2.1) := blk_cellv (HS.out.at3) 2 rfl))
    clear hc2598
    obtain ⟨t2599, HA2600, H⟩ := bind_some H
    refine (ground_Ground_Reg.calls l2555 a2560 a2561 a2562 a2563 a2564 t2584.2.2.1 g2551 g2553 A2556 l2555.length n2558 t2599 _ ⟨HS.out.begin⟩ HA2600).mono ?_
    rintro e_ w2601 ⟨rfl, hS⟩
    replace HS : Aside0 (Sep FF w [b7 g2551 g2553 a2561 a2562 a2563 a2564, b6 g2553 A2556 l2555.length n2558 t2599.2, r5 A2556 l2555.length n2558 l2555, b10 g2587 t2584.1 t2584.2.1 t2584.2.2.1] w2601) := ⟨HS.out.call hS⟩
    clear hS
    replace HS : Aside0 (Sep FF w [b7 g2551 g2553 a2561 a2562 a2563 a2564, b6 g2553 A2556 l2555.length n2558 t2599.2, r5 A2556 l2555.length n2558 l2555] w2601) := ⟨HS.out.sub (.cons_cons _ (.cons_cons _ (.cons_cons _ (.cons _ .slnil))))⟩
    go_wp2_with fail
    go_ret
    rw [← some_eq H]
    exact ⟨(by first | rfl | (simp [IntKind.wrap_u32]; done)), HS.out⟩
  · have H := if_no c2597 H
    have c2597b0 : t2584.2.2.2 = false := by simpa using c2597
    have c2597b1 : (!t2584.2.2.2) = true := by rw [c2597b0]; rfl
    try rw [c2597b1]
    clear c2597
    go_wp2_with (first | ((with_reducible refine gate_dst (N := 5) rfl ?_); refine box_on ?hg (N := 5) ?hd (cs := #[.int .i64 0, .int .i64 0, .int .i64 0]) (t := 134) ?hr ?_; (case hd => rfl); (case hg => rfl); (case hr => first | (go_simp; done) | (go_simp; rfl)); intro g2587 hg w2588 hbox hb; replace HS : Aside0 (Sep FF w [b7 g2551 g2553 a2561 a2562 a2563 a2564, b6 g2553 A2556 l2555.length n2558 a2560, r5 A2556 l2555.length n2558 l2555, b10 g2587 0 0 0] w2588) := ⟨HS.out.box hg hbox hb⟩; clear hg hbox hb; have hc2590 : w2588.cell? ⟨g2587, 0, none⟩ = some (.int .i64 0) := blk_cellv (HS.out.at3) 0 rfl; have hz2591 : w2588.frozen? ⟨g2587, 0, none⟩ = false := blk_fz (HS.out.at3) 0; have hc2592 : w2588.cell? ⟨g2587, 1, none⟩ = some (.int .i64 0) := blk_cellv (HS.out.at3) 1 rfl; have hz2593 : w2588.frozen? ⟨g2587, 1, none⟩ = false := blk_fz (HS.out.at3) 1; have hc2594 : w2588.cell? ⟨g2587, 2, none⟩ = some (.int .i64 0) := blk_cellv (HS.out.at3) 2 rfl; have hz2595 : w2588.frozen? ⟨g2587, 2, none⟩ = false := blk_fz (HS.out.at3) 2) | ((with_reducible refine gate_store (t := 134) (p := 5) rfl ?_); refine store_event (w1 := (World.setCell (World.setCell (World.setCell w2588 ⟨g2587, 0, none⟩ (.int .i64 t2584.1)) ⟨g2587, 1, none⟩ (.int .i64 t2584.2.1)) ⟨g2587, 2, none⟩ (.int .i64 t2584.2.2.1))) rfl (t := 134) (p := 5) rfl rfl ?hr ?_; (case hr => first | (go_simp; done) | (go_simp; rfl)); intro w2596 hst; clear hc2590 hz2591 hc2592 hz2593 hc2594 hz2595; replace HS : Aside0 (Sep FF w [b7 g2551 g2553 a2561 a2562 a2563 a2564, b6 g2553 A2556 l2555.length n2558 a2560, r5 A2556 l2555.length n2558 l2555, b10 g2587 t2584.1 t2584.2.1 t2584.2.2.1] w2596) := ⟨by rw [hst]; exact HS.out.setAll (l1 := [b7 g2551 g2553 a2561 a2562 a2563 a2564, b6 g2553 A2556 l2555.length n2558 a2560, r5 A2556 l2555.length n2558 l2555]) (l2 := []) [.int .i64 t2584.1, .int .i64 t2584.2.1, .int .i64 t2584.2.2.1] rfl⟩; clear hst; replace HS : Aside0 (Sep FF w [b7 g2551 g2553 a2561 a2562 a2563 a2564, b6 g2553 A2556 l2555.length n2558 a2560, r5 A2556 l2555.length n2558 l2555] w2596) := ⟨HS.out.sub (.cons_cons _ (.cons_cons _ (.cons_cons _ (.cons _ .slnil))))⟩))
    go_ret
    rw [← some_eq H]
    exact ⟨(by first | rfl | (simp [IntKind.wrap_u32]; done)), HS.out⟩

set_option maxHeartbeats 30000000 in
set_option maxRecDepth 100000 in
theorem ground_Ground_Word_nil.calls (a3209 : Int) (a3210 : Int) (r : Int) (w : World)   (HS : Aside0 (Sep (fps []) w [] w)) (H : Aside0 (ground_Ground_Word_nil.f a3209 a3210 = some r)) :
    Calls Try.prog 45 #[.pointer none, .int .i64 a3209, .int .i64 a3210] w fun e w' => e = .returned (.int .u32 r) ∧ Sep (fps []) w [] w' := by
  unfold ground_Ground_Word_nil.f at H
  go_enter Try.func45, Try.ntmps45
  go_wp2_with fail
  obtain ⟨t3211, HA3212, H⟩ := bind_some H
  refine (ground_Ground_all_nil.calls t3211 _ ⟨Sep.start _⟩ HA3212).mono ?_
  rintro e_ w3213 ⟨rfl, hS⟩
  replace HS : Aside0 (Sep (fps []) w [] w3213) := ⟨HS.out.call hS⟩
  clear hS
  go_wp2_with fail
  obtain ⟨t3214, HA3215, H⟩ := bind_some H
  refine (ground_Ground_word_nil.calls a3209 a3210 t3214 _ ⟨Sep.start _⟩ HA3215).mono ?_
  rintro e_ w3216 ⟨rfl, hS⟩
  replace HS : Aside0 (Sep (fps []) w [] w3216) := ⟨HS.out.call hS⟩
  clear hS
  go_wp2_with fail
  obtain ⟨t3217, HA3218, H⟩ := bind_some H
  refine (store_Store_Get_nil.calls t3214 t3217 _ ⟨Sep.start _⟩ HA3218).mono ?_
  rintro e_ w3219 ⟨rfl, hS⟩
  replace HS : Aside0 (Sep (fps []) w [] w3219) := ⟨HS.out.call hS⟩
  clear hS
  go_wp2_with fail
  go_ret
  rw [← some_eq H]
  exact ⟨(by first | rfl | (simp [IntKind.wrap_u32]; done)), HS.out⟩

set_option maxHeartbeats 30000000 in
set_option maxRecDepth 100000 in
theorem chain_Take_nil.calls (a3189 : Int) (r : Int × Bool) (w : World)   (HS : Aside0 (Sep (fps []) w [] w)) (H : Aside0 (chain_Take_nil.f a3189 = some r)) :
    Calls Try.prog 54 #[.pointer none, .int .i64 a3189] w fun e w' => e = .returned (.tuple #[.int .i64 r.1, .bool r.2]) ∧ Sep (fps []) w [] w' := by
  unfold chain_Take_nil.f at H
  go_enter Try.func54, Try.ntmps54
  go_wp2_with fail
  obtain ⟨t3190, HA3191, H⟩ := bind_some H
  refine (chain_of_nil.calls a3189 t3190 _ ⟨Sep.start _⟩ HA3191).mono ?_
  rintro e_ w3192 ⟨rfl, hS⟩
  replace HS : Aside0 (Sep (fps []) w [] w3192) := ⟨HS.out.call hS⟩
  clear hS
  by_cases c3203 : t3190.2.2.2 = true
  · have H := if_yes c3203 H
    have c3203b0 : t3190.2.2.2 = true := c3203
    have c3203b1 : (!t3190.2.2.2) = false := by rw [c3203b0]; rfl
    try rw [c3203b1]
    clear c3203
    go_wp2_with (first | ((with_reducible refine gate_dst (N := 6) rfl ?_); refine box_on ?hg (N := 6) ?hd (cs := #[.int .i64 0, .int .i64 0, .int .i64 0]) (t := 134) ?hr ?_; (case hd => rfl); (case hg => rfl); (case hr => first | (go_simp; done) | (go_simp; rfl)); intro g3193 hg w3194 hbox hb; replace HS : Aside0 (Sep (fps []) w [b10 g3193 0 0 0] w3194) := ⟨HS.out.box hg hbox hb⟩; clear hg hbox hb; have hc3196 : w3194.cell? ⟨g3193, 0, none⟩ = some (.int .i64 0) := blk_cellv (HS.out.at0) 0 rfl; have hz3197 : w3194.frozen? ⟨g3193, 0, none⟩ = false := blk_fz (HS.out.at0) 0; have hc3198 : w3194.cell? ⟨g3193, 1, none⟩ = some (.int .i64 0) := blk_cellv (HS.out.at0) 1 rfl; have hz3199 : w3194.frozen? ⟨g3193, 1, none⟩ = false := blk_fz (HS.out.at0) 1; have hc3200 : w3194.cell? ⟨g3193, 2, none⟩ = some (.int .i64 0) := blk_cellv (HS.out.at0) 2 rfl; have hz3201 : w3194.frozen? ⟨g3193, 2, none⟩ = false := blk_fz (HS.out.at0) 2) | ((with_reducible refine gate_store (t := 134) (p := 6) rfl ?_); refine store_event (w1 := (World.setCell (World.setCell (World.setCell w3194 ⟨g3193, 0, none⟩ (.int .i64 t3190.1)) ⟨g3193, 1, none⟩ (.int .i64 t3190.2.1)) ⟨g3193, 2, none⟩ (.int .i64 t3190.2.2.1))) rfl (t := 134) (p := 6) rfl rfl ?hr ?_; (case hr => first | (go_simp; done) | (go_simp; rfl)); intro w3202 hst; clear hc3196 hz3197 hc3198 hz3199 hc3200 hz3201; replace HS : Aside0 (Sep (fps []) w [b10 g3193 t3190.1 t3190.2.1 t3190.2.2.1] w3202) := ⟨by rw [hst]; exact HS.out.setAll (l1 := []) (l2 := []) [.int .i64 t3190.1, .int .i64 t3190.2.1, .int .i64 t3190.2.2.1] rfl⟩; clear hst; have hc3204 : w3202.cell? ⟨g3193, 0, none⟩ = some (.int .i64 t3190.1) := blk_cellv (HS.out.at0) 0 rfl))
    clear hc3204
    obtain ⟨t3205, HA3206, H⟩ := bind_some H
    refine (ground_Ground_Reg_nil.calls t3190.1 t3205 _ ⟨Sep.start _⟩ HA3206).mono ?_
    rintro e_ w3207 ⟨rfl, hS⟩
    replace HS : Aside0 (Sep (fps []) w [b10 g3193 t3190.1 t3190.2.1 t3190.2.2.1] w3207) := ⟨HS.out.call hS⟩
    clear hS
    by_cases c3208 : t3205 = 0
    · have H := if_yes c3208 H
      have c3208b0 : (t3205 == 0) = true := beq_iff_eq.mpr c3208
      have c3208b1 : (t3205 != 0) = false := bne_eq_false_iff_eq.mpr c3208
      clear c3208
      replace HS : Aside0 (Sep (fps []) w [] w3207) := ⟨HS.out.sub (.cons _ .slnil)⟩
      go_wp2_with fail
      go_ret2
      rw [← some_eq H]
      exact ⟨(by first | rfl | (simp [IntKind.wrap_u32]; done)), HS.out⟩
    · have H := if_no c3208 H
      have c3208b0 : (t3205 == 0) = false := beq_eq_false_iff_ne.mpr c3208
      have c3208b1 : (t3205 != 0) = true := bne_iff_ne.mpr c3208
      clear c3208
      go_wp2_with fail
      obtain ⟨t3220, HA3221, H⟩ := bind_some H
      refine (ground_Ground_Word_nil.calls (wrap64 (t3205 - 1)) 5 t3220 _ ⟨Sep.start _⟩ HA3221).mono ?_
      rintro e_ w3222 ⟨rfl, hS⟩
      replace HS : Aside0 (Sep (fps []) w [b10 g3193 t3190.1 t3190.2.1 t3190.2.2.1] w3222) := ⟨HS.out.call hS⟩
      clear hS
      go_wp2_with fail
      obtain ⟨t3223, HA3224, H⟩ := bind_some H
      refine (ground_Ground_SetWord_nil.calls (wrap64 (t3205 - 1)) 5 0 t3223 _ ⟨Sep.start _⟩ HA3224).mono ?_
      rintro e_ w3225 ⟨rfl, hS⟩
      replace HS : Aside0 (Sep (fps []) w [b10 g3193 t3190.1 t3190.2.1 t3190.2.2.1] w3225) := ⟨HS.out.call hS⟩
      clear hS
      have hc3226 : w3225.cell? ⟨g3193, 0, none⟩ = some (.int .i64 t3190.1) := blk_cellv (HS.out.at0) 0 rfl
      go_wp2_with fail
      clear hc3226
      obtain ⟨t3227, HA3228, H⟩ := bind_some H
      refine (ground_Ground_SetReg_nil.calls t3190.1 (wrap64 (t3220)) t3227 _ ⟨Sep.start _⟩ HA3228).mono ?_
      rintro e_ w3229 ⟨rfl, hS⟩
      replace HS : Aside0 (Sep (fps []) w [b10 g3193 t3190.1 t3190.2.1 t3190.2.2.1] w3229) := ⟨HS.out.call hS⟩
      clear hS
      by_cases c3230 : (wrap64 (t3220)) = 0
      · have H := if_yes c3230 H
        have c3230b0 : ((wrap64 (t3220)) == 0) = true := beq_iff_eq.mpr c3230
        have c3230b1 : ((wrap64 (t3220)) != 0) = false := bne_eq_false_iff_eq.mpr c3230
        clear c3230
        have hc3231 : w3229.cell? ⟨g3193, 1, none⟩ = some (.int .i64 t3190.2.1) := blk_cellv (HS.out.at0) 1 rfl
        go_wp2_with fail
        clear hc3231
        obtain ⟨t3232, HA3233, H⟩ := bind_some H
        refine (ground_Ground_SetReg_nil.calls t3190.2.1 0 t3232 _ ⟨Sep.start _⟩ HA3233).mono ?_
        rintro e_ w3234 ⟨rfl, hS⟩
        replace HS : Aside0 (Sep (fps []) w [b10 g3193 t3190.1 t3190.2.1 t3190.2.2.1] w3234) := ⟨HS.out.call hS⟩
        clear hS
        go_wp2_with fail
        refine start_ (n := 9) (S := (fun w' => w'.cell? ⟨g3193, 2, none⟩ = some (.int .i64 t3190.2.2.1))) (ds := []) #[false, false, false, false, false, false, false, false, false] (by kernel_rfl) rfl rfl (blk_cellv ((HS.out.drew).at0) 2 rfl) (fun hHeld => ?_)
        have HS_ := Aside0.mk HS.out.drew
        clear HS
        generalize World.drew _ = w3236 at HS_ hHeld ⊢
        have HS := HS_
        clear HS_
        refine pure_ (i := 0) (N := some 44) (v := ?_) (a' := ?_) #[true, false, false, false, false, false, false, false, false] rfl rfl (by kernel_rfl) (fun _ _ _ h => h) (Or.inl ⟨by rfl, ?_⟩) ?_ ?_
        rotate_left
        · intro w'
          go_simp
          with_reducible rfl
        rotate_left
        · simp only [Act.put, List.setIfInBounds_toArray, List.set_cons_zero, List.set_cons_succ, i64_w, i32_w]
          rfl
        refine pure_ (i := 1) (N := some 45) (v := ?_) (a' := ?_) #[true, true, false, false, false, false, false, false, false] rfl rfl (by kernel_rfl) (fun _ _ _ h => h) (Or.inl ⟨by rfl, ?_⟩) ?_ ?_
        rotate_left
        · intro w'
          go_simp
          with_reducible rfl
        rotate_left
        · simp only [Act.put, List.setIfInBounds_toArray, List.set_cons_zero, List.set_cons_succ, i64_w, i32_w]
          rfl
        refine pure_ (i := 3) (N := some 47) (v := ?_) (a' := ?_) #[true, true, false, true, false, false, false, false, false] rfl rfl (by kernel_rfl) (fun _ _ _ h => h) (Or.inl ⟨by rfl, ?_⟩) ?_ ?_
        rotate_left
        · intro w'
          go_simp
          with_reducible rfl
        rotate_left
        · simp only [Act.put, List.setIfInBounds_toArray, List.set_cons_zero, List.set_cons_succ, i64_w, i32_w]
          rfl
        refine pure_ (i := 4) (N := some 48) (v := ?_) (a' := ?_) #[true, true, false, true, true, false, false, false, false] rfl rfl (by kernel_rfl) (fun _ _ _ h => h) (Or.inl ⟨by rfl, ?_⟩) ?_ ?_
        rotate_left
        · intro w'
          go_simp
          with_reducible rfl
        rotate_left
        · simp only [Act.put, List.setIfInBounds_toArray, List.set_cons_zero, List.set_cons_succ, i64_w, i32_w]
          rfl
        refine take_ (i := 2) (N := some 46) (v := ?_) (a' := ?_) #[true, true, true, true, true, false, false, false, false] rfl rfl (by kernel_rfl) (fun _ _ _ h => h) (Or.inl ⟨by rfl, ?_⟩) hHeld ?_ ?_
        rotate_left
        · rintro w' hS'
          have s0 := hS'
          go_simp
          with_reducible rfl
        rotate_left
        · simp only [Act.put, List.setIfInBounds_toArray, List.set_cons_zero, List.set_cons_succ, i64_w, i32_w]
          rfl
        refine take_ (i := 5) (N := some 49) (v := ?_) (a' := ?_) #[true, true, true, true, true, true, false, false, false] rfl rfl (by kernel_rfl) (fun _ _ _ h => h) (Or.inl ⟨by rfl, ?_⟩) hHeld ?_ ?_
        rotate_left
        · rintro w' hS'
          have s0 := hS'
          go_simp
          with_reducible rfl
        rotate_left
        · simp only [Act.put, List.setIfInBounds_toArray, List.set_cons_zero, List.set_cons_succ, i64_w, i32_w]
          rfl
        refine one_ (i := 6) (N := some 50) #[true, true, true, true, true, true, true, false, false] rfl rfl (by kernel_rfl) (by decide) (fun K hK => ?_)
        obtain ⟨t3237, HA3238, H⟩ := bind_some H
        refine goes_ Try.func36 (by kernel_rfl) rfl #[.pointer none, .int .i64 t3190.2.2.1] (by rfl) rfl rfl (by (try simp only [List.map_toArray, List.map_cons, List.map_nil]); first | done | rfl) ?_
        refine (ground_Ground_Reg_nil.calls t3190.2.2.1 t3237 _ ⟨Sep.start _⟩ HA3238).mono ?_
        rintro e_ w3239 ⟨rfl, hS⟩
        replace HS : Aside0 (Sep (fps []) w [b10 g3193 t3190.1 t3190.2.1 t3190.2.2.1] w3239) := ⟨HS.out.call hS⟩
        clear hS
        refine ⟨_, rfl, ?_⟩
        refine hK.out _ _ (blk_cellv (HS.out.at0) 2 rfl) (fun hHeld => ?_)
        clear hK K
        refine norm_ (a' := ?_) ?_ ?_
        rotate_left
        · show Act.put _ (some 50) _ = _
          simp only [Act.put, List.setIfInBounds_toArray, List.set_cons_zero, List.set_cons_succ, i64_w, i32_w]
          rfl
        refine pure_ (i := 7) (N := some 51) (v := ?_) (a' := ?_) #[true, true, true, true, true, true, true, true, false] rfl rfl (by kernel_rfl) (fun _ _ _ h => h) (Or.inl ⟨by rfl, ?_⟩) ?_ ?_
        rotate_left
        · intro w'
          go_simp
          with_reducible rfl
        rotate_left
        · simp only [Act.put, List.setIfInBounds_toArray, List.set_cons_zero, List.set_cons_succ, i64_w, i32_w]
          rfl
        refine one_ (i := 8) (N := some 52) #[true, true, true, true, true, true, true, true, true] rfl rfl (by kernel_rfl) (by decide) (fun K hK => ?_)
        obtain ⟨t3240, HA3241, H⟩ := bind_some H
        refine goes_ Try.func42 (by kernel_rfl) rfl #[.pointer none, .int .i64 t3190.2.2.1, .int .i64 (wrap64 (t3237 - 1))] (by rfl) rfl rfl (by (try simp only [List.map_toArray, List.map_cons, List.map_nil]); first | done | rfl) ?_
        refine (ground_Ground_SetReg_nil.calls t3190.2.2.1 (wrap64 (t3237 - 1)) t3240 _ ⟨Sep.start _⟩ HA3241).mono ?_
        rintro e_ w3242 ⟨rfl, hS⟩
        replace HS : Aside0 (Sep (fps []) w [b10 g3193 t3190.1 t3190.2.1 t3190.2.2.1] w3242) := ⟨HS.out.call hS⟩
        clear hS
        refine ⟨_, rfl, ?_⟩
        refine hK.out _ _ (blk_cellv (HS.out.at0) 2 rfl) (fun hHeld => ?_)
        clear hK K
        refine norm_ (a' := ?_) ?_ ?_
        rotate_left
        · show Act.put _ (some 52) _ = _
          simp only [Act.put, List.setIfInBounds_toArray, List.set_cons_zero, List.set_cons_succ, i64_w, i32_w]
          rfl
        refine done_ (by kernel_rfl) ?_
        replace HS : Aside0 (Sep (fps []) w [] w3242) := ⟨HS.out.sub (.cons _ .slnil)⟩
        go_wp2_with fail
        go_ret2
        rw [← some_eq H]
        exact ⟨(by first | rfl | (simp [IntKind.wrap_u32]; done)), HS.out⟩
      · have H := if_no c3230 H
        have c3230b0 : ((wrap64 (t3220)) == 0) = false := beq_eq_false_iff_ne.mpr c3230
        have c3230b1 : ((wrap64 (t3220)) != 0) = true := bne_iff_ne.mpr c3230
        clear c3230
        go_wp2_with fail
        refine start_ (n := 9) (S := (fun w' => w'.cell? ⟨g3193, 2, none⟩ = some (.int .i64 t3190.2.2.1))) (ds := []) #[false, false, false, false, false, false, false, false, false] (by kernel_rfl) rfl rfl (blk_cellv ((HS.out.drew).at0) 2 rfl) (fun hHeld => ?_)
        have HS_ := Aside0.mk HS.out.drew
        clear HS
        generalize World.drew _ = w3244 at HS_ hHeld ⊢
        have HS := HS_
        clear HS_
        refine pure_ (i := 0) (N := some 44) (v := ?_) (a' := ?_) #[true, false, false, false, false, false, false, false, false] rfl rfl (by kernel_rfl) (fun _ _ _ h => h) (Or.inl ⟨by rfl, ?_⟩) ?_ ?_
        rotate_left
        · intro w'
          go_simp
          with_reducible rfl
        rotate_left
        · simp only [Act.put, List.setIfInBounds_toArray, List.set_cons_zero, List.set_cons_succ, i64_w, i32_w]
          rfl
        refine pure_ (i := 1) (N := some 45) (v := ?_) (a' := ?_) #[true, true, false, false, false, false, false, false, false] rfl rfl (by kernel_rfl) (fun _ _ _ h => h) (Or.inl ⟨by rfl, ?_⟩) ?_ ?_
        rotate_left
        · intro w'
          go_simp
          with_reducible rfl
        rotate_left
        · simp only [Act.put, List.setIfInBounds_toArray, List.set_cons_zero, List.set_cons_succ, i64_w, i32_w]
          rfl
        refine pure_ (i := 3) (N := some 47) (v := ?_) (a' := ?_) #[true, true, false, true, false, false, false, false, false] rfl rfl (by kernel_rfl) (fun _ _ _ h => h) (Or.inl ⟨by rfl, ?_⟩) ?_ ?_
        rotate_left
        · intro w'
          go_simp
          with_reducible rfl
        rotate_left
        · simp only [Act.put, List.setIfInBounds_toArray, List.set_cons_zero, List.set_cons_succ, i64_w, i32_w]
          rfl
        refine pure_ (i := 4) (N := some 48) (v := ?_) (a' := ?_) #[true, true, false, true, true, false, false, false, false] rfl rfl (by kernel_rfl) (fun _ _ _ h => h) (Or.inl ⟨by rfl, ?_⟩) ?_ ?_
        rotate_left
        · intro w'
          go_simp
          with_reducible rfl
        rotate_left
        · simp only [Act.put, List.setIfInBounds_toArray, List.set_cons_zero, List.set_cons_succ, i64_w, i32_w]
          rfl
        refine take_ (i := 2) (N := some 46) (v := ?_) (a' := ?_) #[true, true, true, true, true, false, false, false, false] rfl rfl (by kernel_rfl) (fun _ _ _ h => h) (Or.inl ⟨by rfl, ?_⟩) hHeld ?_ ?_
        rotate_left
        · rintro w' hS'
          have s0 := hS'
          go_simp
          with_reducible rfl
        rotate_left
        · simp only [Act.put, List.setIfInBounds_toArray, List.set_cons_zero, List.set_cons_succ, i64_w, i32_w]
          rfl
        refine take_ (i := 5) (N := some 49) (v := ?_) (a' := ?_) #[true, true, true, true, true, true, false, false, false] rfl rfl (by kernel_rfl) (fun _ _ _ h => h) (Or.inl ⟨by rfl, ?_⟩) hHeld ?_ ?_
        rotate_left
        · rintro w' hS'
          have s0 := hS'
          go_simp
          with_reducible rfl
        rotate_left
        · simp only [Act.put, List.setIfInBounds_toArray, List.set_cons_zero, List.set_cons_succ, i64_w, i32_w]
          rfl
        refine one_ (i := 6) (N := some 50) #[true, true, true, true, true, true, true, false, false] rfl rfl (by kernel_rfl) (by decide) (fun K hK => ?_)
        obtain ⟨t3237, HA3245, H⟩ := bind_some H
        refine goes_ Try.func36 (by kernel_rfl) rfl #[.pointer none, .int .i64 t3190.2.2.1] (by rfl) rfl rfl (by (try simp only [List.map_toArray, List.map_cons, List.map_nil]); first | done | rfl) ?_
        refine (ground_Ground_Reg_nil.calls t3190.2.2.1 t3237 _ ⟨Sep.start _⟩ HA3245).mono ?_
        rintro e_ w3246 ⟨rfl, hS⟩
        replace HS : Aside0 (Sep (fps []) w [b10 g3193 t3190.1 t3190.2.1 t3190.2.2.1] w3246) := ⟨HS.out.call hS⟩
        clear hS
        refine ⟨_, rfl, ?_⟩
        refine hK.out _ _ (blk_cellv (HS.out.at0) 2 rfl) (fun hHeld => ?_)
        clear hK K
        refine norm_ (a' := ?_) ?_ ?_
        rotate_left
        · show Act.put _ (some 50) _ = _
          simp only [Act.put, List.setIfInBounds_toArray, List.set_cons_zero, List.set_cons_succ, i64_w, i32_w]
          rfl
        refine pure_ (i := 7) (N := some 51) (v := ?_) (a' := ?_) #[true, true, true, true, true, true, true, true, false] rfl rfl (by kernel_rfl) (fun _ _ _ h => h) (Or.inl ⟨by rfl, ?_⟩) ?_ ?_
        rotate_left
        · intro w'
          go_simp
          with_reducible rfl
        rotate_left
        · simp only [Act.put, List.setIfInBounds_toArray, List.set_cons_zero, List.set_cons_succ, i64_w, i32_w]
          rfl
        refine one_ (i := 8) (N := some 52) #[true, true, true, true, true, true, true, true, true] rfl rfl (by kernel_rfl) (by decide) (fun K hK => ?_)
        obtain ⟨t3240, HA3247, H⟩ := bind_some H
        refine goes_ Try.func42 (by kernel_rfl) rfl #[.pointer none, .int .i64 t3190.2.2.1, .int .i64 (wrap64 (t3237 - 1))] (by rfl) rfl rfl (by (try simp only [List.map_toArray, List.map_cons, List.map_nil]); first | done | rfl) ?_
        refine (ground_Ground_SetReg_nil.calls t3190.2.2.1 (wrap64 (t3237 - 1)) t3240 _ ⟨Sep.start _⟩ HA3247).mono ?_
        rintro e_ w3248 ⟨rfl, hS⟩
        replace HS : Aside0 (Sep (fps []) w [b10 g3193 t3190.1 t3190.2.1 t3190.2.2.1] w3248) := ⟨HS.out.call hS⟩
        clear hS
        refine ⟨_, rfl, ?_⟩
        refine hK.out _ _ (blk_cellv (HS.out.at0) 2 rfl) (fun hHeld => ?_)
        clear hK K
        refine norm_ (a' := ?_) ?_ ?_
        rotate_left
        · show Act.put _ (some 52) _ = _
          simp only [Act.put, List.setIfInBounds_toArray, List.set_cons_zero, List.set_cons_succ, i64_w, i32_w]
          rfl
        refine done_ (by kernel_rfl) ?_
        replace HS : Aside0 (Sep (fps []) w [] w3248) := ⟨HS.out.sub (.cons _ .slnil)⟩
        go_wp2_with fail
        go_ret2
        rw [← some_eq H]
        exact ⟨(by first | rfl | (simp [IntKind.wrap_u32]; done)), HS.out⟩
  · have H := if_no c3203 H
    have c3203b0 : t3190.2.2.2 = false := by simpa using c3203
    have c3203b1 : (!t3190.2.2.2) = true := by rw [c3203b0]; rfl
    try rw [c3203b1]
    clear c3203
    go_wp2_with (first | ((with_reducible refine gate_dst (N := 6) rfl ?_); refine box_on ?hg (N := 6) ?hd (cs := #[.int .i64 0, .int .i64 0, .int .i64 0]) (t := 134) ?hr ?_; (case hd => rfl); (case hg => rfl); (case hr => first | (go_simp; done) | (go_simp; rfl)); intro g3193 hg w3194 hbox hb; replace HS : Aside0 (Sep (fps []) w [b10 g3193 0 0 0] w3194) := ⟨HS.out.box hg hbox hb⟩; clear hg hbox hb; have hc3196 : w3194.cell? ⟨g3193, 0, none⟩ = some (.int .i64 0) := blk_cellv (HS.out.at0) 0 rfl; have hz3197 : w3194.frozen? ⟨g3193, 0, none⟩ = false := blk_fz (HS.out.at0) 0; have hc3198 : w3194.cell? ⟨g3193, 1, none⟩ = some (.int .i64 0) := blk_cellv (HS.out.at0) 1 rfl; have hz3199 : w3194.frozen? ⟨g3193, 1, none⟩ = false := blk_fz (HS.out.at0) 1; have hc3200 : w3194.cell? ⟨g3193, 2, none⟩ = some (.int .i64 0) := blk_cellv (HS.out.at0) 2 rfl; have hz3201 : w3194.frozen? ⟨g3193, 2, none⟩ = false := blk_fz (HS.out.at0) 2) | ((with_reducible refine gate_store (t := 134) (p := 6) rfl ?_); refine store_event (w1 := (World.setCell (World.setCell (World.setCell w3194 ⟨g3193, 0, none⟩ (.int .i64 t3190.1)) ⟨g3193, 1, none⟩ (.int .i64 t3190.2.1)) ⟨g3193, 2, none⟩ (.int .i64 t3190.2.2.1))) rfl (t := 134) (p := 6) rfl rfl ?hr ?_; (case hr => first | (go_simp; done) | (go_simp; rfl)); intro w3202 hst; clear hc3196 hz3197 hc3198 hz3199 hc3200 hz3201; replace HS : Aside0 (Sep (fps []) w [b10 g3193 t3190.1 t3190.2.1 t3190.2.2.1] w3202) := ⟨by rw [hst]; exact HS.out.setAll (l1 := []) (l2 := []) [.int .i64 t3190.1, .int .i64 t3190.2.1, .int .i64 t3190.2.2.1] rfl⟩; clear hst; replace HS : Aside0 (Sep (fps []) w [] w3202) := ⟨HS.out.sub (.cons _ .slnil)⟩))
    go_ret2
    rw [← some_eq H]
    exact ⟨(by first | rfl | (simp [IntKind.wrap_u32]; done)), HS.out⟩

set_option maxHeartbeats 30000000 in
set_option maxRecDepth 100000 in
theorem chain_Len_nil.calls (a3256 : Int) (r : Int) (w : World)   (HS : Aside0 (Sep (fps []) w [] w)) (H : Aside0 (chain_Len_nil.f a3256 = some r)) :
    Calls Try.prog 55 #[.pointer none, .int .i64 a3256] w fun e w' => e = .returned (.int .i64 r) ∧ Sep (fps []) w [] w' := by
  unfold chain_Len_nil.f at H
  go_enter Try.func55, Try.ntmps55
  go_wp2_with fail
  obtain ⟨t3257, HA3258, H⟩ := bind_some H
  refine (chain_of_nil.calls a3256 t3257 _ ⟨Sep.start _⟩ HA3258).mono ?_
  rintro e_ w3259 ⟨rfl, hS⟩
  replace HS : Aside0 (Sep (fps []) w [] w3259) := ⟨HS.out.call hS⟩
  clear hS
  by_cases c3270 : t3257.2.2.2 = true
  · have H := if_yes c3270 H
    have c3270b0 : t3257.2.2.2 = true := c3270
    have c3270b1 : (!t3257.2.2.2) = false := by rw [c3270b0]; rfl
    try rw [c3270b1]
    clear c3270
    go_wp2_with (first | ((with_reducible refine gate_dst (N := 5) rfl ?_); refine box_on ?hg (N := 5) ?hd (cs := #[.int .i64 0, .int .i64 0, .int .i64 0]) (t := 134) ?hr ?_; (case hd => rfl); (case hg => rfl); (case hr => first | (go_simp; done) | (go_simp; rfl)); intro g3260 hg w3261 hbox hb; replace HS : Aside0 (Sep (fps []) w [b10 g3260 0 0 0] w3261) := ⟨HS.out.box hg hbox hb⟩; clear hg hbox hb; have hc3263 : w3261.cell? ⟨g3260, 0, none⟩ = some (.int .i64 0) := blk_cellv (HS.out.at0) 0 rfl; have hz3264 : w3261.frozen? ⟨g3260, 0, none⟩ = false := blk_fz (HS.out.at0) 0; have hc3265 : w3261.cell? ⟨g3260, 1, none⟩ = some (.int .i64 0) := blk_cellv (HS.out.at0) 1 rfl; have hz3266 : w3261.frozen? ⟨g3260, 1, none⟩ = false := blk_fz (HS.out.at0) 1; have hc3267 : w3261.cell? ⟨g3260, 2, none⟩ = some (.int .i64 0) := blk_cellv (HS.out.at0) 2 rfl; have hz3268 : w3261.frozen? ⟨g3260, 2, none⟩ = false := blk_fz (HS.out.at0) 2) | ((with_reducible refine gate_store (t := 134) (p := 5) rfl ?_); refine store_event (w1 := (World.setCell (World.setCell (World.setCell w3261 ⟨g3260, 0, none⟩ (.int .i64 t3257.1)) ⟨g3260, 1, none⟩ (.int .i64 t3257.2.1)) ⟨g3260, 2, none⟩ (.int .i64 t3257.2.2.1))) rfl (t := 134) (p := 5) rfl rfl ?hr ?_; (case hr => first | (go_simp; done) | (go_simp; rfl)); intro w3269 hst; clear hc3263 hz3264 hc3265 hz3266 hc3267 hz3268; replace HS : Aside0 (Sep (fps []) w [b10 g3260 t3257.1 t3257.2.1 t3257.2.2.1] w3269) := ⟨by rw [hst]; exact HS.out.setAll (l1 := []) (l2 := []) [.int .i64 t3257.1, .int .i64 t3257.2.1, .int .i64 t3257.2.2.1] rfl⟩; clear hst; have hc3271 : w3269.cell? ⟨g3260, 2, none⟩ = some (.int .i64 t3257.2.2.1) := blk_cellv (HS.out.at0) 2 rfl))
    clear hc3271
    obtain ⟨t3272, HA3273, H⟩ := bind_some H
    refine (ground_Ground_Reg_nil.calls t3257.2.2.1 t3272 _ ⟨Sep.start _⟩ HA3273).mono ?_
    rintro e_ w3274 ⟨rfl, hS⟩
    replace HS : Aside0 (Sep (fps []) w [b10 g3260 t3257.1 t3257.2.1 t3257.2.2.1] w3274) := ⟨HS.out.call hS⟩
    clear hS
    replace HS : Aside0 (Sep (fps []) w [] w3274) := ⟨HS.out.sub (.cons _ .slnil)⟩
    go_wp2_with fail
    go_ret
    rw [← some_eq H]
    exact ⟨(by first | rfl | (simp [IntKind.wrap_u32]; done)), HS.out⟩
  · have H := if_no c3270 H
    have c3270b0 : t3257.2.2.2 = false := by simpa using c3270
    have c3270b1 : (!t3257.2.2.2) = true := by rw [c3270b0]; rfl
    try rw [c3270b1]
    clear c3270
    go_wp2_with (first | ((with_reducible refine gate_dst (N := 5) rfl ?_); refine box_on ?hg (N := 5) ?hd (cs := #[.int .i64 0, .int .i64 0, .int .i64 0]) (t := 134) ?hr ?_; (case hd => rfl); (case hg => rfl); (case hr => first | (go_simp; done) | (go_simp; rfl)); intro g3260 hg w3261 hbox hb; replace HS : Aside0 (Sep (fps []) w [b10 g3260 0 0 0] w3261) := ⟨HS.out.box hg hbox hb⟩; clear hg hbox hb; have hc3263 : w3261.cell? ⟨g3260, 0, none⟩ = some (.int .i64 0) := blk_cellv (HS.out.at0) 0 rfl; have hz3264 : w3261.frozen? ⟨g3260, 0, none⟩ = false := blk_fz (HS.out.at0) 0; have hc3265 : w3261.cell? ⟨g3260, 1, none⟩ = some (.int .i64 0) := blk_cellv (HS.out.at0) 1 rfl; have hz3266 : w3261.frozen? ⟨g3260, 1, none⟩ = false := blk_fz (HS.out.at0) 1; have hc3267 : w3261.cell? ⟨g3260, 2, none⟩ = some (.int .i64 0) := blk_cellv (HS.out.at0) 2 rfl; have hz3268 : w3261.frozen? ⟨g3260, 2, none⟩ = false := blk_fz (HS.out.at0) 2) | ((with_reducible refine gate_store (t := 134) (p := 5) rfl ?_); refine store_event (w1 := (World.setCell (World.setCell (World.setCell w3261 ⟨g3260, 0, none⟩ (.int .i64 t3257.1)) ⟨g3260, 1, none⟩ (.int .i64 t3257.2.1)) ⟨g3260, 2, none⟩ (.int .i64 t3257.2.2.1))) rfl (t := 134) (p := 5) rfl rfl ?hr ?_; (case hr => first | (go_simp; done) | (go_simp; rfl)); intro w3269 hst; clear hc3263 hz3264 hc3265 hz3266 hc3267 hz3268; replace HS : Aside0 (Sep (fps []) w [b10 g3260 t3257.1 t3257.2.1 t3257.2.2.1] w3269) := ⟨by rw [hst]; exact HS.out.setAll (l1 := []) (l2 := []) [.int .i64 t3257.1, .int .i64 t3257.2.1, .int .i64 t3257.2.2.1] rfl⟩; clear hst; replace HS : Aside0 (Sep (fps []) w [] w3269) := ⟨HS.out.sub (.cons _ .slnil)⟩))
    go_ret
    rw [← some_eq H]
    exact ⟨(by first | rfl | (simp [IntKind.wrap_u32]; done)), HS.out⟩
end Go.Proofs.Ytobeonkddamnoaa.C

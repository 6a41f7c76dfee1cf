/- Each function of the group Gp does what its plain function says, and changes nothing that was there; proved by walking its code. No condition. -/
import Derived.Test.YtobeonkddamnoaaQw
import Derived.Test.YtobeonkddamnoaaMGp
import Derived.Test.YtobeonkddamnoaaGGp0
namespace Go.Proofs.Ytobeonkddamnoaa.C
open Go.RowKit Go.Proofs.YtobeonkddamnoaaW.PrintWords Go.Proofs.YtobeonkddamnoaaW.PrintLast Go.Proofs.Ytobeonkddamnoaa.Q Go.Proofs.Ytobeonkddamnoaa.M
set_option linter.unusedVariables false
set_option linter.unusedSimpArgs false
set_option maxHeartbeats 30000000 in
set_option maxRecDepth 100000 in
theorem quitrentref05_WordAt.calls (a1488 : Int) (a1489 : Int) (a1490 : Int) (a1491 : Int) (a1492 : Int) (a1493 : Int) (r : Int) (w : World)   (HS : Aside0 (Sep (fps []) w [] w)) (H : Aside0 (quitrentref05_WordAt.f a1488 a1489 a1490 a1491 a1492 a1493 = some r)) :
    Calls Try.prog 81 #[.agg #[.int .i64 a1488, .int .i64 a1489, .int .i64 a1490, .int .i64 a1491], .int .i64 a1492, .int .i64 a1493] w fun e w' => e = .returned (.int .i64 r) ∧ Sep (fps []) w [] w' := by
  unfold quitrentref05_WordAt.f at H
  go_enter Try.func81, Try.ntmps81
  by_cases c1497 : a1492 < 0
  · have H := if_yes c1497 H
    have c1497b0 : decide (a1492 < 0) = true := decide_eq_true c1497
    clear c1497
    go_wp2_with (first | ((with_reducible refine gate_dst (N := 3) rfl ?_); refine box_on ?hg (N := 3) ?hd (cs := #[.int .i64 a1488, .int .i64 a1489, .int .i64 a1490, .int .i64 a1491]) (t := 49) ?hr ?_; (case hd => rfl); (case hg => rfl); (case hr => first | (go_simp; done) | (go_simp; rfl)); intro g1494 hg w1495 hbox hb; replace HS : Aside0 (Sep (fps []) w [b1 g1494 a1488 a1489 a1490 a1491] w1495) := ⟨HS.out.box hg hbox hb⟩; clear hg hbox hb; replace HS : Aside0 (Sep (fps []) w [] w1495) := ⟨HS.out.sub (.cons _ .slnil)⟩))
    go_ret
    rw [← some_eq H]
    exact ⟨(by first | rfl | (simp [IntKind.wrap_u32]; done)), HS.out⟩
  · have H := if_no c1497 H
    have c1497b0 : decide (a1492 < 0) = false := decide_eq_false c1497
    clear c1497
    by_cases c1499 : a1492 ≥ a1488
    · have H := if_yes c1499 H
      have c1499b0 : decide (a1488 ≤ a1492) = true := decide_eq_true c1499
      clear c1499
      go_wp2_with (first | ((with_reducible refine gate_dst (N := 3) rfl ?_); refine box_on ?hg (N := 3) ?hd (cs := #[.int .i64 a1488, .int .i64 a1489, .int .i64 a1490, .int .i64 a1491]) (t := 49) ?hr ?_; (case hd => rfl); (case hg => rfl); (case hr => first | (go_simp; done) | (go_simp; rfl)); intro g1494 hg w1495 hbox hb; replace HS : Aside0 (Sep (fps []) w [b1 g1494 a1488 a1489 a1490 a1491] w1495) := ⟨HS.out.box hg hbox hb⟩; clear hg hbox hb; have hc1498 : w1495.cell? ⟨g1494, 0, none⟩ = some (.int .i64 a1488) := blk_cellv (HS.out.at0) 0 rfl; replace HS : Aside0 (Sep (fps []) w [] w1495) := ⟨HS.out.sub (.cons _ .slnil)⟩))
      clear hc1498
      go_ret
      rw [← some_eq H]
      exact ⟨(by first | rfl | (simp [IntKind.wrap_u32]; done)), HS.out⟩
    · have H := if_no c1499 H
      have c1499b0 : decide (a1488 ≤ a1492) = false := decide_eq_false c1499
      clear c1499
      by_cases c1500 : a1493 < 0
      · have H := if_yes c1500 H
        have c1500b0 : decide (a1493 < 0) = true := decide_eq_true c1500
        clear c1500
        go_wp2_with (first | ((with_reducible refine gate_dst (N := 3) rfl ?_); refine box_on ?hg (N := 3) ?hd (cs := #[.int .i64 a1488, .int .i64 a1489, .int .i64 a1490, .int .i64 a1491]) (t := 49) ?hr ?_; (case hd => rfl); (case hg => rfl); (case hr => first | (go_simp; done) | (go_simp; rfl)); intro g1494 hg w1495 hbox hb; replace HS : Aside0 (Sep (fps []) w [b1 g1494 a1488 a1489 a1490 a1491] w1495) := ⟨HS.out.box hg hbox hb⟩; clear hg hbox hb; have hc1498 : w1495.cell? ⟨g1494, 0, none⟩ = some (.int .i64 a1488) := blk_cellv (HS.out.at0) 0 rfl; replace HS : Aside0 (Sep (fps []) w [] w1495) := ⟨HS.out.sub (.cons _ .slnil)⟩))
        clear hc1498
        go_ret
        rw [← some_eq H]
        exact ⟨(by first | rfl | (simp [IntKind.wrap_u32]; done)), HS.out⟩
      · have H := if_no c1500 H
        have c1500b0 : decide (a1493 < 0) = false := decide_eq_false c1500
        clear c1500
        by_cases c1502 : a1493 ≥ a1489
        · have H := if_yes c1502 H
          have c1502b0 : decide (a1489 ≤ a1493) = true := decide_eq_true c1502
          clear c1502
          go_wp2_with (first | ((with_reducible refine gate_dst (N := 3) rfl ?_); refine box_on ?hg (N := 3) ?hd (cs := #[.int .i64 a1488, .int .i64 a1489, .int .i64 a1490, .int .i64 a1491]) (t := 49) ?hr ?_; (case hd => rfl); (case hg => rfl); (case hr => first | (go_simp; done) | (go_simp; rfl)); intro g1494 hg w1495 hbox hb; replace HS : Aside0 (Sep (fps []) w [b1 g1494 a1488 a1489 a1490 a1491] w1495) := ⟨HS.out.box hg hbox hb⟩; clear hg hbox hb; have hc1498 : w1495.cell? ⟨g1494, 0, none⟩ = some (.int .i64 a1488) := blk_cellv (HS.out.at0) 0 rfl; have hc1501 : w1495.cell? ⟨g1494, 1, none⟩ = some (.int .i64 a1489) := blk_cellv (HS.out.at0) 1 rfl; replace HS : Aside0 (Sep (fps []) w [] w1495) := ⟨HS.out.sub (.cons _ .slnil)⟩))
          clear hc1498 hc1501
          go_ret
          rw [← some_eq H]
          exact ⟨(by first | rfl | (simp [IntKind.wrap_u32]; done)), HS.out⟩
        · have H := if_no c1502 H
          have c1502b0 : decide (a1489 ≤ a1493) = false := decide_eq_false c1502
          clear c1502
          go_wp2_with (first | ((with_reducible refine gate_dst (N := 3) rfl ?_); refine box_on ?hg (N := 3) ?hd (cs := #[.int .i64 a1488, .int .i64 a1489, .int .i64 a1490, .int .i64 a1491]) (t := 49) ?hr ?_; (case hd => rfl); (case hg => rfl); (case hr => first | (go_simp; done) | (go_simp; rfl)); intro g1494 hg w1495 hbox hb; replace HS : Aside0 (Sep (fps []) w [b1 g1494 a1488 a1489 a1490 a1491] w1495) := ⟨HS.out.box hg hbox hb⟩; clear hg hbox hb; have hc1498 : w1495.cell? ⟨g1494, 0, none⟩ = some (.int .i64 a1488) := blk_cellv (HS.out.at0) 0 rfl; have hc1501 : w1495.cell? ⟨g1494, 1, none⟩ = some (.int .i64 a1489) := blk_cellv (HS.out.at0) 1 rfl; have hc1503 : w1495.cell? ⟨g1494, 2, none⟩ = some (.int .i64 a1490) := blk_cellv (HS.out.at0) 2 rfl; replace HS : Aside0 (Sep (fps []) w [] w1495) := ⟨HS.out.sub (.cons _ .slnil)⟩))
          clear hc1498 hc1501 hc1503
          go_ret
          rw [← some_eq H]
          exact ⟨(by first | rfl | (simp [IntKind.wrap_u32]; done)), HS.out⟩

set_option maxHeartbeats 30000000 in
set_option maxRecDepth 100000 in
theorem ground_reg.calls (a1530 : Int) (r : Int) (w : World)   (HS : Aside0 (Sep (fps []) w [] w)) (H : Aside0 (ground_reg.f a1530 = some r)) :
    Calls Try.prog 78 #[.int .i64 a1530] w fun e w' => e = .returned (.int .i64 r) ∧ Sep (fps []) w [] w' := by
  unfold ground_reg.f at H
  go_enter Try.func78, Try.ntmps78
  go_wp2_with fail
  obtain ⟨t1531, HA1532, H⟩ := bind_some H
  refine (ground_within.calls a1530 24 0 t1531 _ ⟨Sep.start _⟩ HA1532).mono ?_
  rintro e_ w1533 ⟨rfl, hS⟩
  replace HS : Aside0 (Sep (fps []) w [] w1533) := ⟨HS.out.call hS⟩
  clear hS
  go_wp2_with fail
  go_ret
  rw [← some_eq H]
  exact ⟨(by first | rfl | (simp [IntKind.wrap_u32]; done)), HS.out⟩

set_option maxHeartbeats 30000000 in
set_option maxRecDepth 100000 in
theorem store_Store_Get.calls (l1540 : List Int) (a1545 : Int) (a1546 : Int) (g1538 : Nat) (A1541 : Option Addr) (m1542 : Nat) (n1543 : Nat) (r : Int × Int) (w : World)   (HS : Aside0 (Sep (fps [b6 g1538 A1541 m1542 n1543 a1545, r5 A1541 m1542 n1543 l1540]) w [b6 g1538 A1541 m1542 n1543 a1545, r5 A1541 m1542 n1543 l1540] w)) (H : Aside0 (store_Store_Get.f l1540 a1545 a1546 = some r)) :
    Calls Try.prog 25 #[.pointer (some ⟨g1538, 0, none⟩), .int .i64 a1546] w fun e w' => e = .returned (.int .u32 r.1) ∧ Sep (fps [b6 g1538 A1541 m1542 n1543 a1545, r5 A1541 m1542 n1543 l1540]) w [b6 g1538 A1541 m1542 n1543 r.2, r5 A1541 m1542 n1543 l1540] w' := by
  generalize (fps [b6 g1538 A1541 m1542 n1543 a1545, r5 A1541 m1542 n1543 l1540]) = FF at HS ⊢
  obtain rfl := (row_len (HS.out.at1)).symm
  unfold store_Store_Get.f at H
  go_enter Try.func25, Try.ntmps25
  go_wp2_with fail
  obtain ⟨t1560, HA1561, H⟩ := bind_some H
  refine (store_Store_has.calls l1540 a1545 a1546 g1538 A1541 l1540.length n1543 t1560 _ ⟨HS.out.begin⟩ HA1561).mono ?_
  rintro e_ w1562 ⟨rfl, hS⟩
  replace HS : Aside0 (Sep FF w [b6 g1538 A1541 l1540.length n1543 a1545, r5 A1541 l1540.length n1543 l1540] w1562) := ⟨HS.out.call hS⟩
  clear hS
  by_cases c1563 : t1560 = true
  · have H := if_yes c1563 H
    have c1563b0 : t1560 = true := c1563
    have c1563b1 : (!t1560) = false := by rw [c1563b0]; rfl
    try rw [c1563b1]
    clear c1563
    go_wp2_with fail
    obtain ⟨t1564, HA1565, H⟩ := bind_some H
    refine (atomic_Uint64_Add.calls l1540 a1545 1 g1538 A1541 l1540.length n1543 t1564 _ ⟨HS.out.begin⟩ HA1565).mono ?_
    rintro e_ w1566 ⟨rfl, hS⟩
    replace HS : Aside0 (Sep FF w [b6 g1538 A1541 l1540.length n1543 t1564.2, r5 A1541 l1540.length n1543 l1540] w1566) := ⟨HS.out.call hS⟩
    clear hS
    by_cases c1568 : 0 ≤ a1546
    · have H := if_yes c1568 H
      have c1568b0 : decide (0 ≤ a1546) = true := decide_eq_true c1568
      have c1568p : (0 ≤ a1546) = True := eq_true c1568
      clear c1568
      by_cases c1569 : a1546 < (l1540.length : Int)
      · have H := if_yes c1569 H
        have c1569b0 : decide (a1546 < (l1540.length : Int)) = true := decide_eq_true c1569
        have c1569p : (a1546 < (l1540.length : Int)) = True := eq_true c1569
        clear c1569
        have hc1567 : w1566.cell? ⟨g1538, 0, none⟩ = some (.slice A1541 l1540.length n1543) := blk_cellv (HS.out.at0) 0 rfl
        obtain ⟨g1570, ea⟩ := row_at (HS.out.at1) (by have := (of_decide_eq_true c1568b0); have := (of_decide_eq_true c1569b0); omega); cases ea
        have hx1571 := C_at_int (row_Ci (HS.out.at1)) a1546 (of_decide_eq_true c1568b0) (of_decide_eq_true c1569b0)
        have hx1572 : w1566.cell? ⟨g1570, (a1546).toNat, none⟩ = some (.int .u32 (rd l1540 a1546)) := (row_get 0 (HS.out.at1) a1546 (of_decide_eq_true c1568b0) (of_decide_eq_true c1569b0)).1
        go_wp2_with fail
        clear hc1567 hx1571 hx1572
        go_ret
        rw [← some_eq H]
        exact ⟨(by first | rfl | (simp [IntKind.wrap_u32]; done)), HS.out⟩
      · have H := if_no c1569 H
        have c1569b0 : decide (a1546 < (l1540.length : Int)) = false := decide_eq_false c1569
        clear c1569
        exact (none_no H).elim
    · have H := if_no c1568 H
      have c1568b0 : decide (0 ≤ a1546) = false := decide_eq_false c1568
      clear c1568
      exact (none_no H).elim
  · have H := if_no c1563 H
    have c1563b0 : t1560 = false := by simpa using c1563
    have c1563b1 : (!t1560) = true := by rw [c1563b0]; rfl
    try rw [c1563b1]
    clear c1563
    go_wp2_with fail
    go_ret
    rw [← some_eq H]
    exact ⟨(by first | rfl | (simp [IntKind.wrap_u32]; done)), HS.out⟩

set_option maxHeartbeats 30000000 in
set_option maxRecDepth 100000 in
theorem ground_Ground_Reg.calls (l1516 : List Int) (a1521 : Int) (a1522 : Int) (a1523 : Int) (a1524 : Int) (a1525 : Int) (a1526 : Int) (g1512 : Nat) (g1514 : Nat) (A1517 : Option Addr) (m1518 : Nat) (n1519 : Nat) (r : Int × Int) (w : World)   (HS : Aside0 (Sep (fps [b7 g1512 g1514 a1522 a1523 a1524 a1525, b6 g1514 A1517 m1518 n1519 a1521, r5 A1517 m1518 n1519 l1516]) w [b7 g1512 g1514 a1522 a1523 a1524 a1525, b6 g1514 A1517 m1518 n1519 a1521, r5 A1517 m1518 n1519 l1516] w)) (H : Aside0 (ground_Ground_Reg.f l1516 a1521 a1522 a1523 a1524 a1525 a1526 = some r)) :
    Calls Try.prog 36 #[.pointer (some ⟨g1512, 0, none⟩), .int .i64 a1526] w fun e w' => e = .returned (.int .i64 r.1) ∧ Sep (fps [b7 g1512 g1514 a1522 a1523 a1524 a1525, b6 g1514 A1517 m1518 n1519 a1521, r5 A1517 m1518 n1519 l1516]) w [b7 g1512 g1514 a1522 a1523 a1524 a1525, b6 g1514 A1517 m1518 n1519 r.2, r5 A1517 m1518 n1519 l1516] w' := by
  generalize (fps [b7 g1512 g1514 a1522 a1523 a1524 a1525, b6 g1514 A1517 m1518 n1519 a1521, r5 A1517 m1518 n1519 l1516]) = FF at HS ⊢
  obtain rfl := (row_len (HS.out.at2)).symm
  unfold ground_Ground_Reg.f at H
  go_enter Try.func36, Try.ntmps36
  go_wp2_with fail
  obtain ⟨t1576, HA1577, H⟩ := bind_some H
  refine (ground_Ground_all.calls l1516 a1521 a1522 a1523 a1524 a1525 g1512 g1514 A1517 l1516.length n1519 t1576 _ ⟨HS.out.begin⟩ HA1577).mono ?_
  rintro e_ w1578 ⟨rfl, hS⟩
  replace HS : Aside0 (Sep FF w [b7 g1512 g1514 a1522 a1523 a1524 a1525, b6 g1514 A1517 l1516.length n1519 a1521, r5 A1517 l1516.length n1519 l1516] w1578) := ⟨HS.out.call hS⟩
  clear hS
  go_wp2_with fail
  obtain ⟨t1579, HA1580, H⟩ := bind_some H
  refine (ground_reg.calls a1526 t1579 _ ⟨Sep.start _⟩ HA1580).mono ?_
  rintro e_ w1581 ⟨rfl, hS⟩
  replace HS : Aside0 (Sep FF w [b7 g1512 g1514 a1522 a1523 a1524 a1525, b6 g1514 A1517 l1516.length n1519 a1521, r5 A1517 l1516.length n1519 l1516] w1581) := ⟨HS.out.call hS⟩
  clear hS
  go_wp2_with fail
  replace HS : Aside0 (Sep FF w [r5 A1517 l1516.length n1519 l1516, b7 g1512 g1514 a1522 a1523 a1524 a1525, b6 g1514 A1517 l1516.length n1519 a1521] w1581) := ⟨HS.out.front 2 (by simp)⟩
  replace HS : Aside0 (Sep FF w [b6 g1514 A1517 l1516.length n1519 a1521, r5 A1517 l1516.length n1519 l1516, b7 g1512 g1514 a1522 a1523 a1524 a1525] w1581) := ⟨HS.out.front 2 (by simp)⟩
  obtain ⟨t1582, HA1583, H⟩ := bind_some H
  refine (store_Store_Get.calls l1516 a1521 t1579 g1514 A1517 l1516.length n1519 t1582 _ ⟨HS.out.begin⟩ HA1583).mono ?_
  rintro e_ w1584 ⟨rfl, hS⟩
  replace HS : Aside0 (Sep FF w [b6 g1514 A1517 l1516.length n1519 t1582.2, r5 A1517 l1516.length n1519 l1516, b7 g1512 g1514 a1522 a1523 a1524 a1525] w1584) := ⟨HS.out.call hS⟩
  clear hS
  go_wp2_with fail
  go_ret
  rw [← some_eq H]
  exact ⟨(by first | rfl | (simp [IntKind.wrap_u32]; done)), ((((HS.out).front 1 (by simp)).front 1 (by simp)).front 2 (by simp)).keep (l := [b7 g1512 g1514 a1522 a1523 a1524 a1525, b6 g1514 A1517 l1516.length n1519 t1582.2, r5 A1517 l1516.length n1519 l1516]) (rest := [])⟩

set_option maxHeartbeats 30000000 in
set_option maxRecDepth 100000 in
theorem quitrentref04_Store_Has.calls (l1601 : List Int) (a1606 : Int) (a1607 : Int) (g1599 : Nat) (A1602 : Option Addr) (m1603 : Nat) (n1604 : Nat) (r : Bool) (w : World)   (HS : Aside0 (Sep (fps [b8 g1599 A1602 m1603 n1604 a1606, r5 A1602 m1603 n1604 l1601]) w [b8 g1599 A1602 m1603 n1604 a1606, r5 A1602 m1603 n1604 l1601] w)) (H : Aside0 (quitrentref04_Store_Has.f l1601 a1606 a1607 = some r)) :
    Calls Try.prog 75 #[.pointer (some ⟨g1599, 0, none⟩), .int .i64 a1607] w fun e w' => e = .returned (.bool r) ∧ Sep (fps [b8 g1599 A1602 m1603 n1604 a1606, r5 A1602 m1603 n1604 l1601]) w [b8 g1599 A1602 m1603 n1604 a1606, r5 A1602 m1603 n1604 l1601] w' := by
  generalize (fps [b8 g1599 A1602 m1603 n1604 a1606, r5 A1602 m1603 n1604 l1601]) = FF at HS ⊢
  obtain rfl := (row_len (HS.out.at1)).symm
  unfold quitrentref04_Store_Has.f at H
  go_enter Try.func75, Try.ntmps75
  by_cases c1608 : a1607 ≥ 0
  · have H := if_yes c1608 H
    have c1608b0 : decide (0 ≤ a1607) = true := decide_eq_true c1608
    clear c1608
    have hc1609 : w.cell? ⟨g1599, 0, none⟩ = some (.slice A1602 l1601.length n1604) := blk_cellv (HS.out.at0) 0 rfl
    go_wp2_with fail
    clear hc1609
    go_ret
    rw [← some_eq H]
    exact ⟨(by first | rfl | (simp [IntKind.wrap_u32]; done)), HS.out⟩
  · have H := if_no c1608 H
    have c1608b0 : decide (0 ≤ a1607) = false := decide_eq_false c1608
    clear c1608
    go_wp2_with fail
    go_ret
    rw [← some_eq H]
    exact ⟨(by first | rfl | (simp [IntKind.wrap_u32]; done)), HS.out⟩

set_option maxHeartbeats 30000000 in
set_option maxRecDepth 100000 in
theorem quitrentref04_Store_Get.calls (l1591 : List Int) (a1596 : Int) (a1597 : Int) (g1589 : Nat) (A1592 : Option Addr) (m1593 : Nat) (n1594 : Nat) (r : Int × Int) (w : World)   (HS : Aside0 (Sep (fps [b8 g1589 A1592 m1593 n1594 a1596, r5 A1592 m1593 n1594 l1591]) w [b8 g1589 A1592 m1593 n1594 a1596, r5 A1592 m1593 n1594 l1591] w)) (H : Aside0 (quitrentref04_Store_Get.f l1591 a1596 a1597 = some r)) :
    Calls Try.prog 73 #[.pointer (some ⟨g1589, 0, none⟩), .int .i64 a1597] w fun e w' => e = .returned (.int .u32 r.1) ∧ Sep (fps [b8 g1589 A1592 m1593 n1594 a1596, r5 A1592 m1593 n1594 l1591]) w [b8 g1589 A1592 m1593 n1594 r.2, r5 A1592 m1593 n1594 l1591] w' := by
  generalize (fps [b8 g1589 A1592 m1593 n1594 a1596, r5 A1592 m1593 n1594 l1591]) = FF at HS ⊢
  obtain rfl := (row_len (HS.out.at1)).symm
  unfold quitrentref04_Store_Get.f at H
  go_enter Try.func73, Try.ntmps73
  go_wp2_with fail
  obtain ⟨t1623, HA1624, H⟩ := bind_some H
  refine (quitrentref04_Store_Has.calls l1591 a1596 a1597 g1589 A1592 l1591.length n1594 t1623 _ ⟨HS.out.begin⟩ HA1624).mono ?_
  rintro e_ w1625 ⟨rfl, hS⟩
  replace HS : Aside0 (Sep FF w [b8 g1589 A1592 l1591.length n1594 a1596, r5 A1592 l1591.length n1594 l1591] w1625) := ⟨HS.out.call hS⟩
  clear hS
  by_cases c1626 : t1623 = true
  · have H := if_yes c1626 H
    have c1626b0 : t1623 = true := c1626
    have c1626b1 : (!t1623) = false := by rw [c1626b0]; rfl
    try rw [c1626b1]
    clear c1626
    by_cases c1631 : 0 ≤ a1597
    · have H := if_yes c1631 H
      have c1631b0 : decide (0 ≤ a1597) = true := decide_eq_true c1631
      have c1631p : (0 ≤ a1597) = True := eq_true c1631
      clear c1631
      by_cases c1632 : a1597 < (l1591.length : Int)
      · have H := if_yes c1632 H
        have c1632b0 : decide (a1597 < (l1591.length : Int)) = true := decide_eq_true c1632
        have c1632p : (a1597 < (l1591.length : Int)) = True := eq_true c1632
        clear c1632
        have hc1627 : w1625.cell? ⟨g1589, 1, none⟩ = some (.int .u64 a1596) := blk_cellv (HS.out.at0) 1 rfl
        have hz1628 : w1625.frozen? ⟨g1589, 1, none⟩ = false := blk_fz (HS.out.at0) 1
        go_wp2_with (first | ((with_reducible refine gate_store (t := 31) (p := 16) rfl ?_); refine store_event (w1 := (World.setCell w1625 ⟨g1589, 1, none⟩ (.int .u64 (IntKind.u64.wrap (a1596 + 1))))) rfl (t := 31) (p := 16) rfl rfl ?hr ?_; (case hr => first | (go_simp; done) | (go_simp; rfl)); intro w1629 hst; clear hc1627 hz1628; have hq0 : Sep FF w [b8 g1589 A1592 l1591.length n1594 (IntKind.u64.wrap (a1596 + 1)), r5 A1592 l1591.length n1594 l1591] (World.setCell w1625 ⟨g1589, 1, none⟩ (.int .u64 (IntKind.u64.wrap (a1596 + 1)))) := (HS.out).set1 (l1 := []) (l2 := [r5 A1592 l1591.length n1594 l1591]) 1 (.int .u64 (IntKind.u64.wrap (a1596 + 1))); replace HS : Aside0 (Sep FF w [b8 g1589 A1592 l1591.length n1594 (IntKind.u64.wrap (a1596 + 1)), r5 A1592 l1591.length n1594 l1591] w1629) := ⟨by rw [hst]; exact hq0⟩; clear hq0; clear hst; have hc1630 : w1629.cell? ⟨g1589, 0, none⟩ = some (.slice A1592 l1591.length n1594) := blk_cellv (HS.out.at0) 0 rfl; obtain ⟨g1633, ea⟩ := row_at (HS.out.at1) (by have := (of_decide_eq_true c1631b0); have := (of_decide_eq_true c1632b0); omega); cases ea; have hx1634 := C_at_int (row_Ci (HS.out.at1)) a1597 (of_decide_eq_true c1631b0) (of_decide_eq_true c1632b0); have hx1635 : w1629.cell? ⟨g1633, (a1597).toNat, none⟩ = some (.int .u32 (rd l1591 a1597)) := (row_get 0 (HS.out.at1) a1597 (of_decide_eq_true c1631b0) (of_decide_eq_true c1632b0)).1))
        clear hc1630 hx1634 hx1635
        go_ret
        rw [← some_eq H]
        exact ⟨(by first | rfl | (simp [IntKind.wrap_u32]; done)), HS.out⟩
      · have H := if_no c1632 H
        have c1632b0 : decide (a1597 < (l1591.length : Int)) = false := decide_eq_false c1632
        clear c1632
        exact (none_no H).elim
    · have H := if_no c1631 H
      have c1631b0 : decide (0 ≤ a1597) = false := decide_eq_false c1631
      clear c1631
      exact (none_no H).elim
  · have H := if_no c1626 H
    have c1626b0 : t1623 = false := by simpa using c1626
    have c1626b1 : (!t1623) = true := by rw [c1626b0]; rfl
    try rw [c1626b1]
    clear c1626
    go_wp2_with fail
    go_ret
    rw [← some_eq H]
    exact ⟨(by first | rfl | (simp [IntKind.wrap_u32]; done)), HS.out⟩

set_option maxHeartbeats 30000000 in
set_option maxRecDepth 100000 in
theorem ground_Ground_set.calls (l1691 : List Int) (a1696 : Int) (a1697 : Int) (a1698 : Int) (a1699 : Int) (a1700 : Int) (a1701 : Int) (a1702 : Int) (g1687 : Nat) (g1689 : Nat) (A1692 : Option Addr) (m1693 : Nat) (n1694 : Nat) (r : Bool × Int × List Int) (w : World)   (HS : Aside0 (Sep (fps [b7 g1687 g1689 a1697 a1698 a1699 a1700, b6 g1689 A1692 m1693 n1694 a1696, r5 A1692 m1693 n1694 l1691]) w [b7 g1687 g1689 a1697 a1698 a1699 a1700, b6 g1689 A1692 m1693 n1694 a1696, r5 A1692 m1693 n1694 l1691] w)) (H : Aside0 (ground_Ground_set.f l1691 a1696 a1697 a1698 a1699 a1700 a1701 a1702 = some r)) :
    Calls Try.prog 85 #[.pointer (some ⟨g1687, 0, none⟩), .int .i64 a1701, .int .i64 a1702] w fun e w' => e = .returned (.bool r.1) ∧ Sep (fps [b7 g1687 g1689 a1697 a1698 a1699 a1700, b6 g1689 A1692 m1693 n1694 a1696, r5 A1692 m1693 n1694 l1691]) w [b7 g1687 g1689 a1697 a1698 a1699 a1700, b6 g1689 A1692 m1693 n1694 r.2.1, r5 A1692 m1693 n1694 r.2.2] w' := by
  generalize (fps [b7 g1687 g1689 a1697 a1698 a1699 a1700, b6 g1689 A1692 m1693 n1694 a1696, r5 A1692 m1693 n1694 l1691]) = FF at HS ⊢
  obtain rfl := (row_len (HS.out.at2)).symm
  unfold ground_Ground_set.f at H
  go_enter Try.func85, Try.ntmps85
  by_cases c1711 : a1702 < 0
  · have H := if_yes c1711 H
    have c1711b0 : decide (a1702 < 0) = true := decide_eq_true c1711
    clear c1711
    go_wp2_with fail
    go_ret
    rw [← some_eq H]
    exact ⟨(by first | rfl | (simp [IntKind.wrap_u32]; done)), HS.out⟩
  · have H := if_no c1711 H
    have c1711b0 : decide (a1702 < 0) = false := decide_eq_false c1711
    clear c1711
    by_cases c1712 : a1702 > 4294967295
    · have H := if_yes c1712 H
      have c1712b0 : decide (4294967295 < a1702) = true := decide_eq_true c1712
      clear c1712
      go_wp2_with fail
      go_ret
      rw [← some_eq H]
      exact ⟨(by first | rfl | (simp [IntKind.wrap_u32]; done)), HS.out⟩
    · have H := if_no c1712 H
      have c1712b0 : decide (4294967295 < a1702) = false := decide_eq_false c1712
      clear c1712
      go_wp2_with fail
      obtain ⟨t1713, HA1714, H⟩ := bind_some H
      refine (ground_Ground_all.calls l1691 a1696 a1697 a1698 a1699 a1700 g1687 g1689 A1692 l1691.length n1694 t1713 _ ⟨HS.out.begin⟩ HA1714).mono ?_
      rintro e_ w1715 ⟨rfl, hS⟩
      replace HS : Aside0 (Sep FF w [b7 g1687 g1689 a1697 a1698 a1699 a1700, b6 g1689 A1692 l1691.length n1694 a1696, r5 A1692 l1691.length n1694 l1691] w1715) := ⟨HS.out.call hS⟩
      clear hS
      go_wp2_with fail
      replace HS : Aside0 (Sep FF w [r5 A1692 l1691.length n1694 l1691, b7 g1687 g1689 a1697 a1698 a1699 a1700, b6 g1689 A1692 l1691.length n1694 a1696] w1715) := ⟨HS.out.front 2 (by simp)⟩
      replace HS : Aside0 (Sep FF w [b6 g1689 A1692 l1691.length n1694 a1696, r5 A1692 l1691.length n1694 l1691, b7 g1687 g1689 a1697 a1698 a1699 a1700] w1715) := ⟨HS.out.front 2 (by simp)⟩
      obtain ⟨t1716, HA1717, H⟩ := bind_some H
      refine (store_Store_Put.calls l1691 a1696 a1701 ((a1702) % 4294967296) g1689 A1692 l1691.length n1694 t1716 _ ⟨HS.out.begin⟩ HA1717).mono ?_
      rintro e_ w1718 ⟨rfl, hS⟩
      replace HS : Aside0 (Sep FF w [b6 g1689 A1692 l1691.length n1694 t1716.2.1, r5 A1692 l1691.length n1694 t1716.2.2, b7 g1687 g1689 a1697 a1698 a1699 a1700] w1718) := ⟨HS.out.call hS⟩
      clear hS
      go_wp2_with fail
      go_ret
      rw [← some_eq H]
      exact ⟨(by first | rfl | (simp [IntKind.wrap_u32]; done)), ((((HS.out).front 1 (by simp)).front 1 (by simp)).front 2 (by simp)).keep (l := [b7 g1687 g1689 a1697 a1698 a1699 a1700, b6 g1689 A1692 l1691.length n1694 t1716.2.1, r5 A1692 l1691.length n1694 t1716.2.2]) (rest := [])⟩

set_option maxHeartbeats 30000000 in
set_option maxRecDepth 100000 in
theorem ground_Ground_SetReg.calls (l1671 : List Int) (a1676 : Int) (a1677 : Int) (a1678 : Int) (a1679 : Int) (a1680 : Int) (a1681 : Int) (a1682 : Int) (g1667 : Nat) (g1669 : Nat) (A1672 : Option Addr) (m1673 : Nat) (n1674 : Nat) (r : Bool × Int × List Int) (w : World)   (HS : Aside0 (Sep (fps [b7 g1667 g1669 a1677 a1678 a1679 a1680, b6 g1669 A1672 m1673 n1674 a1676, r5 A1672 m1673 n1674 l1671]) w [b7 g1667 g1669 a1677 a1678 a1679 a1680, b6 g1669 A1672 m1673 n1674 a1676, r5 A1672 m1673 n1674 l1671] w)) (H : Aside0 (ground_Ground_SetReg.f l1671 a1676 a1677 a1678 a1679 a1680 a1681 a1682 = some r)) :
    Calls Try.prog 42 #[.pointer (some ⟨g1667, 0, none⟩), .int .i64 a1681, .int .i64 a1682] w fun e w' => e = .returned (.bool r.1) ∧ Sep (fps [b7 g1667 g1669 a1677 a1678 a1679 a1680, b6 g1669 A1672 m1673 n1674 a1676, r5 A1672 m1673 n1674 l1671]) w [b7 g1667 g1669 a1677 a1678 a1679 a1680, b6 g1669 A1672 m1673 n1674 r.2.1, r5 A1672 m1673 n1674 r.2.2] w' := by
  generalize (fps [b7 g1667 g1669 a1677 a1678 a1679 a1680, b6 g1669 A1672 m1673 n1674 a1676, r5 A1672 m1673 n1674 l1671]) = FF at HS ⊢
  obtain rfl := (row_len (HS.out.at2)).symm
  unfold ground_Ground_SetReg.f at H
  go_enter Try.func42, Try.ntmps42
  go_wp2_with fail
  obtain ⟨t1722, HA1723, H⟩ := bind_some H
  refine (ground_reg.calls a1681 t1722 _ ⟨Sep.start _⟩ HA1723).mono ?_
  rintro e_ w1724 ⟨rfl, hS⟩
  replace HS : Aside0 (Sep FF w [b7 g1667 g1669 a1677 a1678 a1679 a1680, b6 g1669 A1672 l1671.length n1674 a1676, r5 A1672 l1671.length n1674 l1671] w1724) := ⟨HS.out.call hS⟩
  clear hS
  go_wp2_with fail
  obtain ⟨t1725, HA1726, H⟩ := bind_some H
  refine (ground_Ground_set.calls l1671 a1676 a1677 a1678 a1679 a1680 t1722 a1682 g1667 g1669 A1672 l1671.length n1674 t1725 _ ⟨HS.out.begin⟩ HA1726).mono ?_
  rintro e_ w1727 ⟨rfl, hS⟩
  replace HS : Aside0 (Sep FF w [b7 g1667 g1669 a1677 a1678 a1679 a1680, b6 g1669 A1672 l1671.length n1674 t1725.2.1, r5 A1672 l1671.length n1674 t1725.2.2] w1727) := ⟨HS.out.call hS⟩
  clear hS
  go_wp2_with fail
  go_ret
  rw [← some_eq H]
  exact ⟨(by first | rfl | (simp [IntKind.wrap_u32]; done)), HS.out⟩

set_option maxHeartbeats 30000000 in
set_option maxRecDepth 100000 in
theorem quitrentref04_Store_Put.calls (l1755 : List Int) (a1760 : Int) (a1761 : Int) (a1762 : Int) (g1753 : Nat) (A1756 : Option Addr) (m1757 : Nat) (n1758 : Nat) (r : Bool × Int × List Int) (w : World)   (HS : Aside0 (Sep (fps [b8 g1753 A1756 m1757 n1758 a1760, r5 A1756 m1757 n1758 l1755]) w [b8 g1753 A1756 m1757 n1758 a1760, r5 A1756 m1757 n1758 l1755] w)) (H : Aside0 (quitrentref04_Store_Put.f l1755 a1760 a1761 a1762 = some r)) :
    Calls Try.prog 74 #[.pointer (some ⟨g1753, 0, none⟩), .int .i64 a1761, .int .u32 a1762] w fun e w' => e = .returned (.bool r.1) ∧ Sep (fps [b8 g1753 A1756 m1757 n1758 a1760, r5 A1756 m1757 n1758 l1755]) w [b8 g1753 A1756 m1757 n1758 r.2.1, r5 A1756 m1757 n1758 r.2.2] w' := by
  generalize (fps [b8 g1753 A1756 m1757 n1758 a1760, r5 A1756 m1757 n1758 l1755]) = FF at HS ⊢
  obtain rfl := (row_len (HS.out.at1)).symm
  unfold quitrentref04_Store_Put.f at H
  go_enter Try.func74, Try.ntmps74
  go_wp2_with fail
  obtain ⟨t1779, HA1780, H⟩ := bind_some H
  refine (quitrentref04_Store_Has.calls l1755 a1760 a1761 g1753 A1756 l1755.length n1758 t1779 _ ⟨HS.out.begin⟩ HA1780).mono ?_
  rintro e_ w1781 ⟨rfl, hS⟩
  replace HS : Aside0 (Sep FF w [b8 g1753 A1756 l1755.length n1758 a1760, r5 A1756 l1755.length n1758 l1755] w1781) := ⟨HS.out.call hS⟩
  clear hS
  by_cases c1782 : t1779 = true
  · have H := if_yes c1782 H
    have c1782b0 : t1779 = true := c1782
    have c1782b1 : (!t1779) = false := by rw [c1782b0]; rfl
    try rw [c1782b1]
    clear c1782
    by_cases c1787 : 0 ≤ a1761
    · have H := if_yes c1787 H
      have c1787b0 : decide (0 ≤ a1761) = true := decide_eq_true c1787
      have c1787p : (0 ≤ a1761) = True := eq_true c1787
      clear c1787
      by_cases c1788 : a1761 < (l1755.length : Int)
      · have H := if_yes c1788 H
        have c1788b0 : decide (a1761 < (l1755.length : Int)) = true := decide_eq_true c1788
        have c1788p : (a1761 < (l1755.length : Int)) = True := eq_true c1788
        clear c1788
        obtain ⟨y1791, HA1792, H⟩ := bind_some H
        have hc1783 : w1781.cell? ⟨g1753, 1, none⟩ = some (.int .u64 a1760) := blk_cellv (HS.out.at0) 1 rfl
        have hz1784 : w1781.frozen? ⟨g1753, 1, none⟩ = false := blk_fz (HS.out.at0) 1
        go_wp2_with (first | ((with_reducible refine gate_store (t := 31) (p := 18) rfl ?_); refine store_event (w1 := (World.setCell w1781 ⟨g1753, 1, none⟩ (.int .u64 (IntKind.u64.wrap (a1760 + 1))))) rfl (t := 31) (p := 18) rfl rfl ?hr ?_; (case hr => first | (go_simp; done) | (go_simp; rfl)); intro w1785 hst; clear hc1783 hz1784; have hq0 : Sep FF w [b8 g1753 A1756 l1755.length n1758 (IntKind.u64.wrap (a1760 + 1)), r5 A1756 l1755.length n1758 l1755] (World.setCell w1781 ⟨g1753, 1, none⟩ (.int .u64 (IntKind.u64.wrap (a1760 + 1)))) := (HS.out).set1 (l1 := []) (l2 := [r5 A1756 l1755.length n1758 l1755]) 1 (.int .u64 (IntKind.u64.wrap (a1760 + 1))); replace HS : Aside0 (Sep FF w [b8 g1753 A1756 l1755.length n1758 (IntKind.u64.wrap (a1760 + 1)), r5 A1756 l1755.length n1758 l1755] w1785) := ⟨by rw [hst]; exact hq0⟩; clear hq0; clear hst; have hc1786 : w1785.cell? ⟨g1753, 0, none⟩ = some (.slice A1756 l1755.length n1758) := blk_cellv (HS.out.at0) 0 rfl; obtain ⟨g1789, ea⟩ := row_at (HS.out.at1) (by have := (of_decide_eq_true c1787b0); have := (of_decide_eq_true c1788b0); omega); cases ea; have hx1793 := (row_get 0 (HS.out.at1) a1761 (of_decide_eq_true c1787b0) (of_decide_eq_true c1788b0)).1; have hz1794 := (row_get 0 (HS.out.at1) a1761 (of_decide_eq_true c1787b0) (of_decide_eq_true c1788b0)).2) | ((with_reducible refine gate_store (t := 23) (p := 25) rfl ?_); refine store_event (w1 := World.setCell w1785 ⟨g1789, (a1761).toNat, none⟩ (.int .u32 a1762)) rfl (t := 23) (p := 25) rfl rfl ?hr ?_; (case hr => first | (go_simp; done) | (go_simp; rfl)); intro w1790 hst; clear hc1786 hx1793 hz1794; have hq := Sep.rowset (l1 := [b8 g1753 (some ⟨g1789, 0, none⟩) l1755.length n1758 (IntKind.u64.wrap (a1760 + 1))]) (l2 := []) HS.out a1761 a1762; rw [← hst, some_eq HA1792] at hq; replace HS : Aside0 (Sep FF w [b8 g1753 (some ⟨g1789, 0, none⟩) l1755.length n1758 (IntKind.u64.wrap (a1760 + 1)), r5 (some ⟨g1789, 0, none⟩) l1755.length n1758 y1791] w1790) := ⟨hq⟩; clear hst hq))
        go_ret
        rw [← some_eq H]
        exact ⟨(by first | rfl | (simp [IntKind.wrap_u32]; done)), HS.out⟩
      · have H := if_no c1788 H
        have c1788b0 : decide (a1761 < (l1755.length : Int)) = false := decide_eq_false c1788
        clear c1788
        exact (none_no H).elim
    · have H := if_no c1787 H
      have c1787b0 : decide (0 ≤ a1761) = false := decide_eq_false c1787
      clear c1787
      exact (none_no H).elim
  · have H := if_no c1782 H
    have c1782b0 : t1779 = false := by simpa using c1782
    have c1782b1 : (!t1779) = true := by rw [c1782b0]; rfl
    try rw [c1782b1]
    clear c1782
    go_wp2_with fail
    go_ret
    rw [← some_eq H]
    exact ⟨(by first | rfl | (simp [IntKind.wrap_u32]; done)), HS.out⟩

set_option maxHeartbeats 30000000 in
set_option maxRecDepth 100000 in
theorem quitrentref05_Ground_Set.calls (a1733 : Int) (a1734 : Int) (a1735 : Int) (a1736 : Int) (l1740 : List Int) (a1745 : Int) (a1746 : Int) (a1747 : Int) (g1732 : Nat) (g1738 : Nat) (A1741 : Option Addr) (m1742 : Nat) (n1743 : Nat) (r : Bool × Int × List Int) (w : World)   (HS : Aside0 (Sep (fps [b9 g1732 a1733 a1734 a1735 a1736 g1738, b8 g1738 A1741 m1742 n1743 a1745, r5 A1741 m1742 n1743 l1740]) w [b9 g1732 a1733 a1734 a1735 a1736 g1738, b8 g1738 A1741 m1742 n1743 a1745, r5 A1741 m1742 n1743 l1740] w)) (H : Aside0 (quitrentref05_Ground_Set.f a1733 a1734 a1735 a1736 l1740 a1745 a1746 a1747 = some r)) :
    Calls Try.prog 82 #[.pointer (some ⟨g1732, 0, none⟩), .int .i64 a1746, .int .i64 a1747] w fun e w' => e = .returned (.bool r.1) ∧ Sep (fps [b9 g1732 a1733 a1734 a1735 a1736 g1738, b8 g1738 A1741 m1742 n1743 a1745, r5 A1741 m1742 n1743 l1740]) w [b9 g1732 a1733 a1734 a1735 a1736 g1738, b8 g1738 A1741 m1742 n1743 r.2.1, r5 A1741 m1742 n1743 r.2.2] w' := by
  generalize (fps [b9 g1732 a1733 a1734 a1735 a1736 g1738, b8 g1738 A1741 m1742 n1743 a1745, r5 A1741 m1742 n1743 l1740]) = FF at HS ⊢
  obtain rfl := (row_len (HS.out.at2)).symm
  unfold quitrentref05_Ground_Set.f at H
  go_enter Try.func82, Try.ntmps82
  by_cases c1798 : a1746 < 0
  · have H := if_yes c1798 H
    have c1798b0 : decide (a1746 < 0) = true := decide_eq_true c1798
    clear c1798
    go_wp2_with fail
    go_ret
    rw [← some_eq H]
    exact ⟨(by first | rfl | (simp [IntKind.wrap_u32]; done)), HS.out⟩
  · have H := if_no c1798 H
    have c1798b0 : decide (a1746 < 0) = false := decide_eq_false c1798
    clear c1798
    by_cases c1799 : a1747 < 0
    · have H := if_yes c1799 H
      have c1799b0 : decide (a1747 < 0) = true := decide_eq_true c1799
      clear c1799
      go_wp2_with fail
      go_ret
      rw [← some_eq H]
      exact ⟨(by first | rfl | (simp [IntKind.wrap_u32]; done)), HS.out⟩
    · have H := if_no c1799 H
      have c1799b0 : decide (a1747 < 0) = false := decide_eq_false c1799
      clear c1799
      by_cases c1800 : a1747 > 4294967295
      · have H := if_yes c1800 H
        have c1800b0 : decide (4294967295 < a1747) = true := decide_eq_true c1800
        clear c1800
        go_wp2_with fail
        go_ret
        rw [← some_eq H]
        exact ⟨(by first | rfl | (simp [IntKind.wrap_u32]; done)), HS.out⟩
      · have H := if_no c1800 H
        have c1800b0 : decide (4294967295 < a1747) = false := decide_eq_false c1800
        clear c1800
        have hc1801 : w.cell? ⟨g1732, 4, none⟩ = some (.pointer (some ⟨g1738, 0, none⟩)) := blk_cellv (HS.out.at0) 4 rfl
        go_wp2_with fail
        clear hc1801
        replace HS : Aside0 (Sep FF w [r5 A1741 l1740.length n1743 l1740, b9 g1732 a1733 a1734 a1735 a1736 g1738, b8 g1738 A1741 l1740.length n1743 a1745] w) := ⟨HS.out.front 2 (by simp)⟩
        replace HS : Aside0 (Sep FF w [b8 g1738 A1741 l1740.length n1743 a1745, r5 A1741 l1740.length n1743 l1740, b9 g1732 a1733 a1734 a1735 a1736 g1738] w) := ⟨HS.out.front 2 (by simp)⟩
        obtain ⟨t1802, HA1803, H⟩ := bind_some H
        refine (quitrentref04_Store_Put.calls l1740 a1745 a1746 ((a1747) % 4294967296) g1738 A1741 l1740.length n1743 t1802 _ ⟨HS.out.begin⟩ HA1803).mono ?_
        rintro e_ w1804 ⟨rfl, hS⟩
        replace HS : Aside0 (Sep FF w [b8 g1738 A1741 l1740.length n1743 t1802.2.1, r5 A1741 l1740.length n1743 t1802.2.2, b9 g1732 a1733 a1734 a1735 a1736 g1738] w1804) := ⟨HS.out.call hS⟩
        clear hS
        go_wp2_with fail
        go_ret
        rw [← some_eq H]
        exact ⟨(by first | rfl | (simp [IntKind.wrap_u32]; done)), ((((HS.out).front 1 (by simp)).front 1 (by simp)).front 2 (by simp)).keep (l := [b9 g1732 a1733 a1734 a1735 a1736 g1738, b8 g1738 A1741 l1740.length n1743 t1802.2.1, r5 A1741 l1740.length n1743 t1802.2.2]) (rest := [])⟩

set_option maxHeartbeats 30000000 in
set_option maxRecDepth 100000 in
theorem ground_Ground_root.calls (l1873 : List Int) (a1878 : Int) (a1879 : Int) (a1880 : Int) (a1881 : Int) (a1882 : Int) (a1883 : Int) (g1869 : Nat) (g1871 : Nat) (A1874 : Option Addr) (m1875 : Nat) (n1876 : Nat) (r : Int) (w : World)   (HS : Aside0 (Sep (fps [b7 g1869 g1871 a1879 a1880 a1881 a1882, b6 g1871 A1874 m1875 n1876 a1878, r5 A1874 m1875 n1876 l1873]) w [b7 g1869 g1871 a1879 a1880 a1881 a1882, b6 g1871 A1874 m1875 n1876 a1878, r5 A1874 m1875 n1876 l1873] w)) (H : Aside0 (ground_Ground_root.f l1873 a1878 a1879 a1880 a1881 a1882 a1883 = some r)) :
    Calls Try.prog 86 #[.pointer (some ⟨g1869, 0, none⟩), .int .i64 a1883] w fun e w' => e = .returned (.int .i64 r) ∧ Sep (fps [b7 g1869 g1871 a1879 a1880 a1881 a1882, b6 g1871 A1874 m1875 n1876 a1878, r5 A1874 m1875 n1876 l1873]) w [b7 g1869 g1871 a1879 a1880 a1881 a1882, b6 g1871 A1874 m1875 n1876 a1878, r5 A1874 m1875 n1876 l1873] w' := by
  generalize (fps [b7 g1869 g1871 a1879 a1880 a1881 a1882, b6 g1871 A1874 m1875 n1876 a1878, r5 A1874 m1875 n1876 l1873]) = FF at HS ⊢
  obtain rfl := (row_len (HS.out.at2)).symm
  unfold ground_Ground_root.f at H
  go_enter Try.func86, Try.ntmps86
  go_wp2_with fail
  obtain ⟨t1884, HA1885, H⟩ := bind_some H
  refine (ground_Ground_Conf.calls l1873 a1878 a1879 a1880 a1881 a1882 g1869 g1871 A1874 l1873.length n1876 t1884 _ ⟨HS.out.begin⟩ HA1885).mono ?_
  rintro e_ w1886 ⟨rfl, hS⟩
  replace HS : Aside0 (Sep FF w [b7 g1869 g1871 a1879 a1880 a1881 a1882, b6 g1871 A1874 l1873.length n1876 a1878, r5 A1874 l1873.length n1876 l1873] w1886) := ⟨HS.out.call hS⟩
  clear hS
  have fl1887 : ∀ w, (Instr.field 49 (.agg #[.int .i64 t1884.1, .int .i64 t1884.2.1, .int .i64 t1884.2.2.1, .int .i64 t1884.2.2.2]) 2).run Try.prog w = .ok (.int .i64 t1884.2.2.1) w := fun _ => by kernel_rfl
  go_wp2_with fail
  clear fl1887
  obtain ⟨t1888, HA1889, H⟩ := bind_some H
  refine (ground_within.calls a1883 t1884.2.2.1 24 t1888 _ ⟨Sep.start _⟩ HA1889).mono ?_
  rintro e_ w1890 ⟨rfl, hS⟩
  replace HS : Aside0 (Sep FF w [b7 g1869 g1871 a1879 a1880 a1881 a1882, b6 g1871 A1874 l1873.length n1876 a1878, r5 A1874 l1873.length n1876 l1873] w1890) := ⟨HS.out.call hS⟩
  clear hS
  go_wp2_with fail
  go_ret
  rw [← some_eq H]
  exact ⟨(by first | rfl | (simp [IntKind.wrap_u32]; done)), HS.out⟩

set_option maxHeartbeats 30000000 in
set_option maxRecDepth 100000 in
theorem ground_Ground_Root.calls (l1854 : List Int) (a1859 : Int) (a1860 : Int) (a1861 : Int) (a1862 : Int) (a1863 : Int) (a1864 : Int) (g1850 : Nat) (g1852 : Nat) (A1855 : Option Addr) (m1856 : Nat) (n1857 : Nat) (r : Int × Int) (w : World)   (HS : Aside0 (Sep (fps [b7 g1850 g1852 a1860 a1861 a1862 a1863, b6 g1852 A1855 m1856 n1857 a1859, r5 A1855 m1856 n1857 l1854]) w [b7 g1850 g1852 a1860 a1861 a1862 a1863, b6 g1852 A1855 m1856 n1857 a1859, r5 A1855 m1856 n1857 l1854] w)) (H : Aside0 (ground_Ground_Root.f l1854 a1859 a1860 a1861 a1862 a1863 a1864 = some r)) :
    Calls Try.prog 43 #[.pointer (some ⟨g1850, 0, none⟩), .int .i64 a1864] w fun e w' => e = .returned (.int .i64 r.1) ∧ Sep (fps [b7 g1850 g1852 a1860 a1861 a1862 a1863, b6 g1852 A1855 m1856 n1857 a1859, r5 A1855 m1856 n1857 l1854]) w [b7 g1850 g1852 a1860 a1861 a1862 a1863, b6 g1852 A1855 m1856 n1857 r.2, r5 A1855 m1856 n1857 l1854] w' := by
  generalize (fps [b7 g1850 g1852 a1860 a1861 a1862 a1863, b6 g1852 A1855 m1856 n1857 a1859, r5 A1855 m1856 n1857 l1854]) = FF at HS ⊢
  obtain rfl := (row_len (HS.out.at2)).symm
  unfold ground_Ground_Root.f at H
  go_enter Try.func43, Try.ntmps43
  go_wp2_with fail
  obtain ⟨t1897, HA1898, H⟩ := bind_some H
  refine (ground_Ground_all.calls l1854 a1859 a1860 a1861 a1862 a1863 g1850 g1852 A1855 l1854.length n1857 t1897 _ ⟨HS.out.begin⟩ HA1898).mono ?_
  rintro e_ w1899 ⟨rfl, hS⟩
  replace HS : Aside0 (Sep FF w [b7 g1850 g1852 a1860 a1861 a1862 a1863, b6 g1852 A1855 l1854.length n1857 a1859, r5 A1855 l1854.length n1857 l1854] w1899) := ⟨HS.out.call hS⟩
  clear hS
  go_wp2_with fail
  obtain ⟨t1900, HA1901, H⟩ := bind_some H
  refine (ground_Ground_root.calls l1854 a1859 a1860 a1861 a1862 a1863 a1864 g1850 g1852 A1855 l1854.length n1857 t1900 _ ⟨HS.out.begin⟩ HA1901).mono ?_
  rintro e_ w1902 ⟨rfl, hS⟩
  replace HS : Aside0 (Sep FF w [b7 g1850 g1852 a1860 a1861 a1862 a1863, b6 g1852 A1855 l1854.length n1857 a1859, r5 A1855 l1854.length n1857 l1854] w1902) := ⟨HS.out.call hS⟩
  clear hS
  go_wp2_with fail
  replace HS : Aside0 (Sep FF w [r5 A1855 l1854.length n1857 l1854, b7 g1850 g1852 a1860 a1861 a1862 a1863, b6 g1852 A1855 l1854.length n1857 a1859] w1902) := ⟨HS.out.front 2 (by simp)⟩
  replace HS : Aside0 (Sep FF w [b6 g1852 A1855 l1854.length n1857 a1859, r5 A1855 l1854.length n1857 l1854, b7 g1850 g1852 a1860 a1861 a1862 a1863] w1902) := ⟨HS.out.front 2 (by simp)⟩
  obtain ⟨t1903, HA1904, H⟩ := bind_some H
  refine (store_Store_Get.calls l1854 a1859 t1900 g1852 A1855 l1854.length n1857 t1903 _ ⟨HS.out.begin⟩ HA1904).mono ?_
  rintro e_ w1905 ⟨rfl, hS⟩
  replace HS : Aside0 (Sep FF w [b6 g1852 A1855 l1854.length n1857 t1903.2, r5 A1855 l1854.length n1857 l1854, b7 g1850 g1852 a1860 a1861 a1862 a1863] w1905) := ⟨HS.out.call hS⟩
  clear hS
  go_wp2_with fail
  go_ret
  rw [← some_eq H]
  exact ⟨(by first | rfl | (simp [IntKind.wrap_u32]; done)), ((((HS.out).front 1 (by simp)).front 1 (by simp)).front 2 (by simp)).keep (l := [b7 g1850 g1852 a1860 a1861 a1862 a1863, b6 g1852 A1855 l1854.length n1857 t1903.2, r5 A1855 l1854.length n1857 l1854]) (rest := [])⟩

set_option maxHeartbeats 30000000 in
set_option maxRecDepth 100000 in
theorem ground_Ground_SetRoot.calls (l1920 : List Int) (a1925 : Int) (a1926 : Int) (a1927 : Int) (a1928 : Int) (a1929 : Int) (a1930 : Int) (a1931 : Int) (g1916 : Nat) (g1918 : Nat) (A1921 : Option Addr) (m1922 : Nat) (n1923 : Nat) (r : Bool × Int × List Int) (w : World)   (HS : Aside0 (Sep (fps [b7 g1916 g1918 a1926 a1927 a1928 a1929, b6 g1918 A1921 m1922 n1923 a1925, r5 A1921 m1922 n1923 l1920]) w [b7 g1916 g1918 a1926 a1927 a1928 a1929, b6 g1918 A1921 m1922 n1923 a1925, r5 A1921 m1922 n1923 l1920] w)) (H : Aside0 (ground_Ground_SetRoot.f l1920 a1925 a1926 a1927 a1928 a1929 a1930 a1931 = some r)) :
    Calls Try.prog 44 #[.pointer (some ⟨g1916, 0, none⟩), .int .i64 a1930, .int .i64 a1931] w fun e w' => e = .returned (.bool r.1) ∧ Sep (fps [b7 g1916 g1918 a1926 a1927 a1928 a1929, b6 g1918 A1921 m1922 n1923 a1925, r5 A1921 m1922 n1923 l1920]) w [b7 g1916 g1918 a1926 a1927 a1928 a1929, b6 g1918 A1921 m1922 n1923 r.2.1, r5 A1921 m1922 n1923 r.2.2] w' := by
  generalize (fps [b7 g1916 g1918 a1926 a1927 a1928 a1929, b6 g1918 A1921 m1922 n1923 a1925, r5 A1921 m1922 n1923 l1920]) = FF at HS ⊢
  obtain rfl := (row_len (HS.out.at2)).symm
  unfold ground_Ground_SetRoot.f at H
  go_enter Try.func44, Try.ntmps44
  go_wp2_with fail
  obtain ⟨t1938, HA1939, H⟩ := bind_some H
  refine (ground_Ground_root.calls l1920 a1925 a1926 a1927 a1928 a1929 a1930 g1916 g1918 A1921 l1920.length n1923 t1938 _ ⟨HS.out.begin⟩ HA1939).mono ?_
  rintro e_ w1940 ⟨rfl, hS⟩
  replace HS : Aside0 (Sep FF w [b7 g1916 g1918 a1926 a1927 a1928 a1929, b6 g1918 A1921 l1920.length n1923 a1925, r5 A1921 l1920.length n1923 l1920] w1940) := ⟨HS.out.call hS⟩
  clear hS
  go_wp2_with fail
  obtain ⟨t1941, HA1942, H⟩ := bind_some H
  refine (ground_Ground_set.calls l1920 a1925 a1926 a1927 a1928 a1929 t1938 a1931 g1916 g1918 A1921 l1920.length n1923 t1941 _ ⟨HS.out.begin⟩ HA1942).mono ?_
  rintro e_ w1943 ⟨rfl, hS⟩
  replace HS : Aside0 (Sep FF w [b7 g1916 g1918 a1926 a1927 a1928 a1929, b6 g1918 A1921 l1920.length n1923 t1941.2.1, r5 A1921 l1920.length n1923 t1941.2.2] w1943) := ⟨HS.out.call hS⟩
  clear hS
  go_wp2_with fail
  go_ret
  rw [← some_eq H]
  exact ⟨(by first | rfl | (simp [IntKind.wrap_u32]; done)), HS.out⟩

set_option maxHeartbeats 30000000 in
set_option maxRecDepth 100000 in
theorem ground_Ground_Word.calls (l1961 : List Int) (a1966 : Int) (a1967 : Int) (a1968 : Int) (a1969 : Int) (a1970 : Int) (a1971 : Int) (a1972 : Int) (g1957 : Nat) (g1959 : Nat) (A1962 : Option Addr) (m1963 : Nat) (n1964 : Nat) (r : Int × Int) (w : World)   (HS : Aside0 (Sep (fps [b7 g1957 g1959 a1967 a1968 a1969 a1970, b6 g1959 A1962 m1963 n1964 a1966, r5 A1962 m1963 n1964 l1961]) w [b7 g1957 g1959 a1967 a1968 a1969 a1970, b6 g1959 A1962 m1963 n1964 a1966, r5 A1962 m1963 n1964 l1961] w)) (H : Aside0 (ground_Ground_Word.f l1961 a1966 a1967 a1968 a1969 a1970 a1971 a1972 = some r)) :
    Calls Try.prog 45 #[.pointer (some ⟨g1957, 0, none⟩), .int .i64 a1971, .int .i64 a1972] w fun e w' => e = .returned (.int .u32 r.1) ∧ Sep (fps [b7 g1957 g1959 a1967 a1968 a1969 a1970, b6 g1959 A1962 m1963 n1964 a1966, r5 A1962 m1963 n1964 l1961]) w [b7 g1957 g1959 a1967 a1968 a1969 a1970, b6 g1959 A1962 m1963 n1964 r.2, r5 A1962 m1963 n1964 l1961] w' := by
  generalize (fps [b7 g1957 g1959 a1967 a1968 a1969 a1970, b6 g1959 A1962 m1963 n1964 a1966, r5 A1962 m1963 n1964 l1961]) = FF at HS ⊢
  obtain rfl := (row_len (HS.out.at2)).symm
  unfold ground_Ground_Word.f at H
  go_enter Try.func45, Try.ntmps45
  go_wp2_with fail
  obtain ⟨t1982, HA1983, H⟩ := bind_some H
  refine (ground_Ground_all.calls l1961 a1966 a1967 a1968 a1969 a1970 g1957 g1959 A1962 l1961.length n1964 t1982 _ ⟨HS.out.begin⟩ HA1983).mono ?_
  rintro e_ w1984 ⟨rfl, hS⟩
  replace HS : Aside0 (Sep FF w [b7 g1957 g1959 a1967 a1968 a1969 a1970, b6 g1959 A1962 l1961.length n1964 a1966, r5 A1962 l1961.length n1964 l1961] w1984) := ⟨HS.out.call hS⟩
  clear hS
  go_wp2_with fail
  obtain ⟨t1985, HA1986, H⟩ := bind_some H
  refine (ground_Ground_word.calls l1961 a1966 a1967 a1968 a1969 a1970 a1971 a1972 g1957 g1959 A1962 l1961.length n1964 t1985 _ ⟨HS.out.begin⟩ HA1986).mono ?_
  rintro e_ w1987 ⟨rfl, hS⟩
  replace HS : Aside0 (Sep FF w [b7 g1957 g1959 a1967 a1968 a1969 a1970, b6 g1959 A1962 l1961.length n1964 a1966, r5 A1962 l1961.length n1964 l1961] w1987) := ⟨HS.out.call hS⟩
  clear hS
  go_wp2_with fail
  replace HS : Aside0 (Sep FF w [r5 A1962 l1961.length n1964 l1961, b7 g1957 g1959 a1967 a1968 a1969 a1970, b6 g1959 A1962 l1961.length n1964 a1966] w1987) := ⟨HS.out.front 2 (by simp)⟩
  replace HS : Aside0 (Sep FF w [b6 g1959 A1962 l1961.length n1964 a1966, r5 A1962 l1961.length n1964 l1961, b7 g1957 g1959 a1967 a1968 a1969 a1970] w1987) := ⟨HS.out.front 2 (by simp)⟩
  obtain ⟨t1988, HA1989, H⟩ := bind_some H
  refine (store_Store_Get.calls l1961 a1966 t1985 g1959 A1962 l1961.length n1964 t1988 _ ⟨HS.out.begin⟩ HA1989).mono ?_
  rintro e_ w1990 ⟨rfl, hS⟩
  replace HS : Aside0 (Sep FF w [b6 g1959 A1962 l1961.length n1964 t1988.2, r5 A1962 l1961.length n1964 l1961, b7 g1957 g1959 a1967 a1968 a1969 a1970] w1990) := ⟨HS.out.call hS⟩
  clear hS
  go_wp2_with fail
  go_ret
  rw [← some_eq H]
  exact ⟨(by first | rfl | (simp [IntKind.wrap_u32]; done)), ((((HS.out).front 1 (by simp)).front 1 (by simp)).front 2 (by simp)).keep (l := [b7 g1957 g1959 a1967 a1968 a1969 a1970, b6 g1959 A1962 l1961.length n1964 t1988.2, r5 A1962 l1961.length n1964 l1961]) (rest := [])⟩

set_option maxHeartbeats 30000000 in
set_option maxRecDepth 100000 in
theorem ground_Ground_Wipe.calls (k : Nat) (l2018 : List Int) (a2023 : Int) (a2024 : Int) (a2025 : Int) (a2026 : Int) (a2027 : Int) (a2028 : Int) (g2014 : Nat) (g2016 : Nat) (A2019 : Option Addr) (m2020 : Nat) (n2021 : Nat) (r : Int × Int × List Int) (w : World)   (HS : Aside0 (Sep (fps [b7 g2014 g2016 a2024 a2025 a2026 a2027, b6 g2016 A2019 m2020 n2021 a2023, r5 A2019 m2020 n2021 l2018]) w [b7 g2014 g2016 a2024 a2025 a2026 a2027, b6 g2016 A2019 m2020 n2021 a2023, r5 A2019 m2020 n2021 l2018] w)) (H : Aside0 (ground_Ground_Wipe.f k l2018 a2023 a2024 a2025 a2026 a2027 a2028 = some r)) :
    Calls Try.prog 47 #[.pointer (some ⟨g2014, 0, none⟩), .int .i64 a2028] w fun e w' => e = .returned (.int .i64 r.1) ∧ Sep (fps [b7 g2014 g2016 a2024 a2025 a2026 a2027, b6 g2016 A2019 m2020 n2021 a2023, r5 A2019 m2020 n2021 l2018]) w [b7 g2014 g2016 a2024 a2025 a2026 a2027, b6 g2016 A2019 m2020 n2021 r.2.1, r5 A2019 m2020 n2021 r.2.2] w' := by
  generalize (fps [b7 g2014 g2016 a2024 a2025 a2026 a2027, b6 g2016 A2019 m2020 n2021 a2023, r5 A2019 m2020 n2021 l2018]) = FF at HS ⊢
  obtain rfl := (row_len (HS.out.at2)).symm
  unfold ground_Ground_Wipe.f at H
  go_enter Try.func47, Try.ntmps47
  go_wp2_with fail
  obtain ⟨t2057, HA2058, H⟩ := bind_some H
  refine (ground_Ground_Conf.calls l2018 a2023 a2024 a2025 a2026 a2027 g2014 g2016 A2019 l2018.length n2021 t2057 _ ⟨HS.out.begin⟩ HA2058).mono ?_
  rintro e_ w2059 ⟨rfl, hS⟩
  replace HS : Aside0 (Sep FF w [b7 g2014 g2016 a2024 a2025 a2026 a2027, b6 g2016 A2019 l2018.length n2021 a2023, r5 A2019 l2018.length n2021 l2018] w2059) := ⟨HS.out.call hS⟩
  clear hS
  have fl2060 : ∀ w, (Instr.field 49 (.agg #[.int .i64 t2057.1, .int .i64 t2057.2.1, .int .i64 t2057.2.2.1, .int .i64 t2057.2.2.2]) 1).run Try.prog w = .ok (.int .i64 t2057.2.1) w := fun _ => by kernel_rfl
  go_wp2_with fail
  clear fl2060
  obtain ⟨o2073, AL2074, H⟩ := bind_some H
  go_loopg [5, 10] k (fun kq v5 v10 wc => ∃ (x2077 : Int) (x2078 : Int) (x2079 : List Int) (x2080 : Int), v5 = .int .i64 x2077 ∧ v10 = .int .i64 x2078 ∧ Aside0 (ground_Ground_Wipe.lo0 kq a2024 a2025 a2026 a2027 a2028 t2057 x2077 x2078 x2079 x2080 = some o2073) ∧ Aside0 (Sep FF w [b7 g2014 g2016 a2024 a2025 a2026 a2027, b6 g2016 A2019 l2018.length n2021 x2080, r5 A2019 l2018.length n2021 x2079] wc))
  case atStart => exact ⟨(0), (0), (l2018), (a2023), (by first | rfl | (simp [IntKind.wrap_u32]; done)), (by first | rfl | (simp [IntKind.wrap_u32]; done)), AL2074, ⟨HS.out⟩⟩
  case round =>
    clear AL2074 HS
    obtain ⟨x2077, x2078, x2079, x2080, rfl, rfl, AL2074, HS⟩ := hrel
    obtain ⟨w2075, rfl⟩ : ∃ x : World, x = wr := ⟨_, rfl⟩
    cases gk with
    | zero => exact absurd AL2074.out (by simp [ground_Ground_Wipe.lo0])
    | succ k2076 =>
      have AL0 := AL2074.out
      rw [ground_Ground_Wipe.lo0] at AL0
      clear AL2074
      have AL2074 := Aside0.mk AL0
      clear AL0
      by_cases c2081 : x2078 < t2057.2.1
      · have AL2074 := if_yes c2081 AL2074
        have c2081b0 : decide (x2078 < t2057.2.1) = true := decide_eq_true c2081
        clear c2081
        go_wp2_with fail
        obtain ⟨t2069, HA2082, AL2074⟩ := bind_some AL2074
        refine (ground_Ground_SetWord.calls x2079 x2080 a2024 a2025 a2026 a2027 a2028 x2078 0 g2014 g2016 A2019 l2018.length n2021 t2069 _ ⟨HS.out.begin⟩ HA2082).mono ?_
        rintro e_ w2083 ⟨rfl, hS⟩
        replace HS : Aside0 (Sep FF w [b7 g2014 g2016 a2024 a2025 a2026 a2027, b6 g2016 A2019 l2018.length n2021 t2069.2.1, r5 A2019 l2018.length n2021 t2069.2.2] w2083) := ⟨HS.out.call hS⟩
        clear hS
        by_cases c2084 : t2069.1 = true
        · have AL2074 := if_yes c2084 AL2074
          have c2084b0 : t2069.1 = true := c2084
          have c2084b1 : (!t2069.1) = false := by rw [c2084b0]; rfl
          clear c2084
          go_wp2_with fail
          go_roundg k2076
          case measure => exact Nat.lt_succ_self _
          case rel => exact ⟨(wrap64 (x2077 + 1)), (wrap64 (x2078 + 1)), (t2069.2.2), (t2069.2.1), (by first | rfl | (simp [IntKind.wrap_u32]; done)), (by first | rfl | (simp [IntKind.wrap_u32]; done)), Aside0.mk AL2074.out, ⟨HS.out⟩⟩
        · have AL2074 := if_no c2084 AL2074
          have c2084b0 : t2069.1 = false := by simpa using c2084
          have c2084b1 : (!t2069.1) = true := by rw [c2084b0]; rfl
          clear c2084
          go_wp2_with fail
          go_roundg k2076
          case measure => exact Nat.lt_succ_self _
          case rel => exact ⟨(x2077), (wrap64 (x2078 + 1)), (t2069.2.2), (t2069.2.1), (by first | rfl | (simp [IntKind.wrap_u32]; done)), (by first | rfl | (simp [IntKind.wrap_u32]; done)), Aside0.mk AL2074.out, ⟨HS.out⟩⟩
      · have AL2074 := if_no c2081 AL2074
        have c2081b0 : decide (x2078 < t2057.2.1) = false := decide_eq_false c2081
        clear c2081
        have ho := some_eq AL2074
        subst ho
        clear AL2074
        go_wp2_with fail
        go_ret
        rw [← some_eq H]
        exact ⟨(by first | rfl | (simp [IntKind.wrap_u32]; done)), HS.out⟩

set_option maxHeartbeats 30000000 in
set_option maxRecDepth 100000 in
theorem quitrentref05_Ground_Wipe.calls (k : Nat) (a2091 : Int) (a2092 : Int) (a2093 : Int) (a2094 : Int) (l2098 : List Int) (a2103 : Int) (a2104 : Int) (g2090 : Nat) (g2096 : Nat) (A2099 : Option Addr) (m2100 : Nat) (n2101 : Nat) (r : Int × Int × List Int) (w : World)   (HS : Aside0 (Sep (fps [b9 g2090 a2091 a2092 a2093 a2094 g2096, b8 g2096 A2099 m2100 n2101 a2103, r5 A2099 m2100 n2101 l2098]) w [b9 g2090 a2091 a2092 a2093 a2094 g2096, b8 g2096 A2099 m2100 n2101 a2103, r5 A2099 m2100 n2101 l2098] w)) (H : Aside0 (quitrentref05_Ground_Wipe.f k a2091 a2092 a2093 a2094 l2098 a2103 a2104 = some r)) :
    Calls Try.prog 83 #[.pointer (some ⟨g2090, 0, none⟩), .int .i64 a2104] w fun e w' => e = .returned (.int .i64 r.1) ∧ Sep (fps [b9 g2090 a2091 a2092 a2093 a2094 g2096, b8 g2096 A2099 m2100 n2101 a2103, r5 A2099 m2100 n2101 l2098]) w [b9 g2090 a2091 a2092 a2093 a2094 g2096, b8 g2096 A2099 m2100 n2101 r.2.1, r5 A2099 m2100 n2101 r.2.2] w' := by
  generalize (fps [b9 g2090 a2091 a2092 a2093 a2094 g2096, b8 g2096 A2099 m2100 n2101 a2103, r5 A2099 m2100 n2101 l2098]) = FF at HS ⊢
  obtain rfl := (row_len (HS.out.at2)).symm
  unfold quitrentref05_Ground_Wipe.f at H
  go_enter Try.func83, Try.ntmps83
  have hc2144 : w.cell? ⟨g2090, 0, none⟩ = some (.int .i64 a2091) := blk_cellv (HS.out.at0) 0 rfl
  have hc2145 : w.cell? ⟨g2090, 1, none⟩ = some (.int .i64 a2092) := blk_cellv (HS.out.at0) 1 rfl
  have hc2146 : w.cell? ⟨g2090, 2, none⟩ = some (.int .i64 a2093) := blk_cellv (HS.out.at0) 2 rfl
  have hc2147 : w.cell? ⟨g2090, 3, none⟩ = some (.int .i64 a2094) := blk_cellv (HS.out.at0) 3 rfl
  go_wp2_with fail
  clear hc2144 hc2145 hc2146 hc2147
  obtain ⟨t2148, HA2149, H⟩ := bind_some H
  refine (quitrentref05_WordAt.calls a2091 a2092 a2093 a2094 a2104 0 t2148 _ ⟨Sep.start _⟩ HA2149).mono ?_
  rintro e_ w2150 ⟨rfl, hS⟩
  replace HS : Aside0 (Sep FF w [b9 g2090 a2091 a2092 a2093 a2094 g2096, b8 g2096 A2099 l2098.length n2101 a2103, r5 A2099 l2098.length n2101 l2098] w2150) := ⟨HS.out.call hS⟩
  clear hS
  by_cases c2151 : t2148 < 0
  · have H := if_yes c2151 H
    have c2151b0 : decide (t2148 < 0) = true := decide_eq_true c2151
    clear c2151
    go_wp2_with fail
    go_ret
    rw [← some_eq H]
    exact ⟨(by first | rfl | (simp [IntKind.wrap_u32]; done)), HS.out⟩
  · have H := if_no c2151 H
    have c2151b0 : decide (t2148 < 0) = false := decide_eq_false c2151
    clear c2151
    go_wp2_with fail
    obtain ⟨o2168, AL2169, H⟩ := bind_some H
    go_loopg [5] k (fun kq v5 wc => ∃ (x2172 : Int) (x2173 : List Int) (x2174 : Int), v5 = .int .i64 x2172 ∧ Aside0 (quitrentref05_Ground_Wipe.lo0 kq a2091 a2092 a2093 a2094 a2104 x2172 x2173 x2174 = some o2168) ∧ Aside0 (Sep FF w [b9 g2090 a2091 a2092 a2093 a2094 g2096, b8 g2096 A2099 l2098.length n2101 x2174, r5 A2099 l2098.length n2101 x2173] wc))
    case atStart => exact ⟨(0), (l2098), (a2103), (by first | rfl | (simp [IntKind.wrap_u32]; done)), AL2169, ⟨HS.out⟩⟩
    case round =>
      clear AL2169 HS
      obtain ⟨x2172, x2173, x2174, rfl, AL2169, HS⟩ := hrel
      obtain ⟨w2170, rfl⟩ : ∃ x : World, x = wr := ⟨_, rfl⟩
      cases gk with
      | zero => exact absurd AL2169.out (by simp [quitrentref05_Ground_Wipe.lo0])
      | succ k2171 =>
        have AL0 := AL2169.out
        rw [quitrentref05_Ground_Wipe.lo0] at AL0
        clear AL2169
        have AL2169 := Aside0.mk AL0
        clear AL0
        by_cases c2176 : x2172 < a2092
        · have AL2169 := if_yes c2176 AL2169
          have c2176b0 : decide (x2172 < a2092) = true := decide_eq_true c2176
          clear c2176
          have hc2175 : w2170.cell? ⟨g2090, 1, none⟩ = some (.int .i64 a2092) := blk_cellv (HS.out.at0) 1 rfl
          go_wp2_with fail
          clear hc2175
          refine start_ (n := 12) (S := (fun w' => w'.cell? ⟨g2090, 4, none⟩ = some (.pointer (some ⟨g2096, 0, none⟩)) ∧ w'.cell? ⟨g2090, 0, none⟩ = some (.int .i64 a2091) ∧ w'.cell? ⟨g2090, 1, none⟩ = some (.int .i64 a2092) ∧ w'.cell? ⟨g2090, 2, none⟩ = some (.int .i64 a2093) ∧ w'.cell? ⟨g2090, 3, none⟩ = some (.int .i64 a2094))) (ds := []) #[false, false, false, false, false, false, false, false, false, false, false, false] (by kernel_rfl) rfl rfl (⟨blk_cellv ((HS.out.drew).at0) 4 rfl, blk_cellv ((HS.out.drew).at0) 0 rfl, blk_cellv ((HS.out.drew).at0) 1 rfl, blk_cellv ((HS.out.drew).at0) 2 rfl, blk_cellv ((HS.out.drew).at0) 3 rfl⟩) (fun hHeld => ?_)
          have HS_ := Aside0.mk HS.out.drew
          clear HS
          generalize World.drew _ = w2178 at HS_ hHeld ⊢
          have HS := HS_
          clear HS_
          refine pure_ (i := 0) (N := some 22) (v := ?_) (a' := ?_) #[true, false, false, false, false, false, false, false, false, false, false, false] rfl rfl (by kernel_rfl) (fun _ _ _ h => h) (Or.inl ⟨by rfl, ?_⟩) ?_ ?_
          rotate_left
          · intro w'
            go_simp
            with_reducible rfl
          rotate_left
          · simp only [Act.put, List.setIfInBounds_toArray, List.set_cons_zero, List.set_cons_succ, i64_w, i32_w]
            rfl
          refine pure_ (i := 1) (N := some 23) (v := ?_) (a' := ?_) #[true, true, false, false, false, false, false, false, false, false, false, false] rfl rfl (by kernel_rfl) (fun _ _ _ h => h) (Or.inl ⟨by rfl, ?_⟩) ?_ ?_
          rotate_left
          · intro w'
            go_simp
            with_reducible rfl
          rotate_left
          · simp only [Act.put, List.setIfInBounds_toArray, List.set_cons_zero, List.set_cons_succ, i64_w, i32_w]
            rfl
          refine pure_ (i := 2) (N := some 24) (v := ?_) (a' := ?_) #[true, true, true, false, false, false, false, false, false, false, false, false] rfl rfl (by kernel_rfl) (fun _ _ _ h => h) (Or.inl ⟨by rfl, ?_⟩) ?_ ?_
          rotate_left
          · intro w'
            go_simp
            with_reducible rfl
          rotate_left
          · simp only [Act.put, List.setIfInBounds_toArray, List.set_cons_zero, List.set_cons_succ, i64_w, i32_w]
            rfl
          refine pure_ (i := 4) (N := some 26) (v := ?_) (a' := ?_) #[true, true, true, false, true, false, false, false, false, false, false, false] rfl rfl (by kernel_rfl) (fun _ _ _ h => h) (Or.inl ⟨by rfl, ?_⟩) ?_ ?_
          rotate_left
          · intro w'
            go_simp
            with_reducible rfl
          rotate_left
          · simp only [Act.put, List.setIfInBounds_toArray, List.set_cons_zero, List.set_cons_succ, i64_w, i32_w]
            rfl
          refine pure_ (i := 5) (N := some 27) (v := ?_) (a' := ?_) #[true, true, true, false, true, true, false, false, false, false, false, false] rfl rfl (by kernel_rfl) (fun _ _ _ h => h) (Or.inl ⟨by rfl, ?_⟩) ?_ ?_
          rotate_left
          · intro w'
            go_simp
            with_reducible rfl
          rotate_left
          · simp only [Act.put, List.setIfInBounds_toArray, List.set_cons_zero, List.set_cons_succ, i64_w, i32_w]
            rfl
          refine pure_ (i := 6) (N := some 28) (v := ?_) (a' := ?_) #[true, true, true, false, true, true, true, false, false, false, false, false] rfl rfl (by kernel_rfl) (fun _ _ _ h => h) (Or.inl ⟨by rfl, ?_⟩) ?_ ?_
          rotate_left
          · intro w'
            go_simp
            with_reducible rfl
          rotate_left
          · simp only [Act.put, List.setIfInBounds_toArray, List.set_cons_zero, List.set_cons_succ, i64_w, i32_w]
            rfl
          refine pure_ (i := 8) (N := some 30) (v := ?_) (a' := ?_) #[true, true, true, false, true, true, true, false, true, false, false, false] rfl rfl (by kernel_rfl) (fun _ _ _ h => h) (Or.inl ⟨by rfl, ?_⟩) ?_ ?_
          rotate_left
          · intro w'
            go_simp
            with_reducible rfl
          rotate_left
          · simp only [Act.put, List.setIfInBounds_toArray, List.set_cons_zero, List.set_cons_succ, i64_w, i32_w]
            rfl
          refine pure_ (i := 9) (N := some 31) (v := ?_) (a' := ?_) #[true, true, true, false, true, true, true, false, true, true, false, false] rfl rfl (by kernel_rfl) (fun _ _ _ h => h) (Or.inl ⟨by rfl, ?_⟩) ?_ ?_
          rotate_left
          · intro w'
            go_simp
            with_reducible rfl
          rotate_left
          · simp only [Act.put, List.setIfInBounds_toArray, List.set_cons_zero, List.set_cons_succ, i64_w, i32_w]
            rfl
          refine take_ (i := 3) (N := some 25) (v := ?_) (a' := ?_) #[true, true, true, true, true, true, true, false, true, true, false, false] rfl rfl (by kernel_rfl) (fun _ _ _ h => h) (Or.inl ⟨by rfl, ?_⟩) hHeld ?_ ?_
          rotate_left
          · rintro w' hS'
            obtain ⟨s0, s1, s2, s3, s4⟩ := hS'
            go_simp
            with_reducible rfl
          rotate_left
          · simp only [Act.put, List.setIfInBounds_toArray, List.set_cons_zero, List.set_cons_succ, i64_w, i32_w]
            rfl
          refine take_ (i := 7) (N := some 29) (v := ?_) (a' := ?_) #[true, true, true, true, true, true, true, true, true, true, false, false] rfl rfl (by kernel_rfl) (fun _ _ _ h => h) (Or.inl ⟨by rfl, ?_⟩) hHeld ?_ ?_
          rotate_left
          · rintro w' hS'
            obtain ⟨s0, s1, s2, s3, s4⟩ := hS'
            go_simp
            with_reducible rfl
          rotate_left
          · simp only [Act.put, List.setIfInBounds_toArray, List.set_cons_zero, List.set_cons_succ, i64_w, i32_w]
            rfl
          refine one_ (i := 10) (N := some 32) #[true, true, true, true, true, true, true, true, true, true, true, false] rfl rfl (by kernel_rfl) (by decide) (fun K hK => ?_)
          obtain ⟨t2162, HA2179, AL2169⟩ := bind_some AL2169
          refine goes_ Try.func81 (by kernel_rfl) rfl #[.agg #[.int .i64 a2091, .int .i64 a2092, .int .i64 a2093, .int .i64 a2094], .int .i64 a2104, .int .i64 x2172] (by rfl) rfl rfl (by (try simp only [List.map_toArray, List.map_cons, List.map_nil]); first | done | rfl) ?_
          refine (quitrentref05_WordAt.calls a2091 a2092 a2093 a2094 a2104 x2172 t2162 _ ⟨Sep.start _⟩ HA2179).mono ?_
          rintro e_ w2180 ⟨rfl, hS⟩
          replace HS : Aside0 (Sep FF w [b9 g2090 a2091 a2092 a2093 a2094 g2096, b8 g2096 A2099 l2098.length n2101 x2174, r5 A2099 l2098.length n2101 x2173] w2180) := ⟨HS.out.call hS⟩
          clear hS
          refine ⟨_, rfl, ?_⟩
          refine hK.out _ _ (⟨blk_cellv (HS.out.at0) 4 rfl, blk_cellv (HS.out.at0) 0 rfl, blk_cellv (HS.out.at0) 1 rfl, blk_cellv (HS.out.at0) 2 rfl, blk_cellv (HS.out.at0) 3 rfl⟩) (fun hHeld => ?_)
          clear hK K
          refine norm_ (a' := ?_) ?_ ?_
          rotate_left
          · show Act.put _ (some 32) _ = _
            simp only [Act.put, List.setIfInBounds_toArray, List.set_cons_zero, List.set_cons_succ, i64_w, i32_w]
            rfl
          refine one_ (i := 11) (N := some 33) #[true, true, true, true, true, true, true, true, true, true, true, true] rfl rfl (by kernel_rfl) (by decide) (fun K hK => ?_)
          replace HS : Aside0 (Sep FF w [r5 A2099 l2098.length n2101 x2173, b9 g2090 a2091 a2092 a2093 a2094 g2096, b8 g2096 A2099 l2098.length n2101 x2174] w2180) := ⟨HS.out.front 2 (by simp)⟩
          replace HS : Aside0 (Sep FF w [b8 g2096 A2099 l2098.length n2101 x2174, r5 A2099 l2098.length n2101 x2173, b9 g2090 a2091 a2092 a2093 a2094 g2096] w2180) := ⟨HS.out.front 2 (by simp)⟩
          obtain ⟨t2165, HA2181, AL2169⟩ := bind_some AL2169
          refine goes_ Try.func74 (by kernel_rfl) rfl #[.pointer (some ⟨g2096, 0, none⟩), .int .i64 t2162, .int .u32 0] (by rfl) rfl rfl (by (try simp only [List.map_toArray, List.map_cons, List.map_nil]); first | done | rfl) ?_
          refine (quitrentref04_Store_Put.calls x2173 x2174 t2162 0 g2096 A2099 l2098.length n2101 t2165 _ ⟨HS.out.begin⟩ HA2181).mono ?_
          rintro e_ w2182 ⟨rfl, hS⟩
          replace HS : Aside0 (Sep FF w [b8 g2096 A2099 l2098.length n2101 t2165.2.1, r5 A2099 l2098.length n2101 t2165.2.2, b9 g2090 a2091 a2092 a2093 a2094 g2096] w2182) := ⟨HS.out.call hS⟩
          clear hS
          refine ⟨_, rfl, ?_⟩
          refine hK.out _ _ (⟨blk_cellv (HS.out.at2) 4 rfl, blk_cellv (HS.out.at2) 0 rfl, blk_cellv (HS.out.at2) 1 rfl, blk_cellv (HS.out.at2) 2 rfl, blk_cellv (HS.out.at2) 3 rfl⟩) (fun hHeld => ?_)
          clear hK K
          refine norm_ (a' := ?_) ?_ ?_
          rotate_left
          · show Act.put _ (some 33) _ = _
            simp only [Act.put, List.setIfInBounds_toArray, List.set_cons_zero, List.set_cons_succ, i64_w, i32_w]
            rfl
          refine done_ (by kernel_rfl) ?_
          go_wp2_with fail
          go_roundg k2171
          case measure => exact Nat.lt_succ_self _
          case rel => exact ⟨(wrap64 (x2172 + 1)), (t2165.2.2), (t2165.2.1), (by first | rfl | (simp [IntKind.wrap_u32]; done)), Aside0.mk AL2169.out, ⟨((((HS.out).front 1 (by simp)).front 1 (by simp)).front 2 (by simp)).keep (l := [b9 g2090 a2091 a2092 a2093 a2094 g2096, b8 g2096 A2099 l2098.length n2101 t2165.2.1, r5 A2099 l2098.length n2101 t2165.2.2]) (rest := [])⟩⟩
        · have AL2169 := if_no c2176 AL2169
          have c2176b0 : decide (x2172 < a2092) = false := decide_eq_false c2176
          clear c2176
          have ho := some_eq AL2169
          subst ho
          clear AL2169
          have hc2175 : w2170.cell? ⟨g2090, 1, none⟩ = some (.int .i64 a2092) := blk_cellv (HS.out.at0) 1 rfl
          go_wp2_with fail
          clear hc2175
          go_ret
          rw [← some_eq H]
          exact ⟨(by first | rfl | (simp [IntKind.wrap_u32]; done)), HS.out⟩

set_option maxHeartbeats 30000000 in
set_option maxRecDepth 100000 in
theorem ground_Ground_SeeReg.calls (l2194 : List Int) (a2199 : Int) (a2200 : Int) (a2201 : Int) (a2202 : Int) (a2203 : Int) (a2204 : Int) (g2190 : Nat) (g2192 : Nat) (A2195 : Option Addr) (m2196 : Nat) (n2197 : Nat) (r : Int) (w : World)   (HS : Aside0 (Sep (fps [b7 g2190 g2192 a2200 a2201 a2202 a2203, b6 g2192 A2195 m2196 n2197 a2199, r5 A2195 m2196 n2197 l2194]) w [b7 g2190 g2192 a2200 a2201 a2202 a2203, b6 g2192 A2195 m2196 n2197 a2199, r5 A2195 m2196 n2197 l2194] w)) (H : Aside0 (ground_Ground_SeeReg.f l2194 a2199 a2200 a2201 a2202 a2203 a2204 = some r)) :
    Calls Try.prog 48 #[.pointer (some ⟨g2190, 0, none⟩), .int .i64 a2204] w fun e w' => e = .returned (.int .i64 r) ∧ Sep (fps [b7 g2190 g2192 a2200 a2201 a2202 a2203, b6 g2192 A2195 m2196 n2197 a2199, r5 A2195 m2196 n2197 l2194]) w [b7 g2190 g2192 a2200 a2201 a2202 a2203, b6 g2192 A2195 m2196 n2197 a2199, r5 A2195 m2196 n2197 l2194] w' := by
  generalize (fps [b7 g2190 g2192 a2200 a2201 a2202 a2203, b6 g2192 A2195 m2196 n2197 a2199, r5 A2195 m2196 n2197 l2194]) = FF at HS ⊢
  obtain rfl := (row_len (HS.out.at2)).symm
  unfold ground_Ground_SeeReg.f at H
  go_enter Try.func48, Try.ntmps48
  go_wp2_with fail
  obtain ⟨t2205, HA2206, H⟩ := bind_some H
  refine (ground_Ground_all.calls l2194 a2199 a2200 a2201 a2202 a2203 g2190 g2192 A2195 l2194.length n2197 t2205 _ ⟨HS.out.begin⟩ HA2206).mono ?_
  rintro e_ w2207 ⟨rfl, hS⟩
  replace HS : Aside0 (Sep FF w [b7 g2190 g2192 a2200 a2201 a2202 a2203, b6 g2192 A2195 l2194.length n2197 a2199, r5 A2195 l2194.length n2197 l2194] w2207) := ⟨HS.out.call hS⟩
  clear hS
  go_wp2_with fail
  obtain ⟨t2208, HA2209, H⟩ := bind_some H
  refine (ground_reg.calls a2204 t2208 _ ⟨Sep.start _⟩ HA2209).mono ?_
  rintro e_ w2210 ⟨rfl, hS⟩
  replace HS : Aside0 (Sep FF w [b7 g2190 g2192 a2200 a2201 a2202 a2203, b6 g2192 A2195 l2194.length n2197 a2199, r5 A2195 l2194.length n2197 l2194] w2210) := ⟨HS.out.call hS⟩
  clear hS
  go_wp2_with fail
  replace HS : Aside0 (Sep FF w [r5 A2195 l2194.length n2197 l2194, b7 g2190 g2192 a2200 a2201 a2202 a2203, b6 g2192 A2195 l2194.length n2197 a2199] w2210) := ⟨HS.out.front 2 (by simp)⟩
  replace HS : Aside0 (Sep FF w [b6 g2192 A2195 l2194.length n2197 a2199, r5 A2195 l2194.length n2197 l2194, b7 g2190 g2192 a2200 a2201 a2202 a2203] w2210) := ⟨HS.out.front 2 (by simp)⟩
  obtain ⟨t2211, HA2212, H⟩ := bind_some H
  refine (store_Store_Peek.calls l2194 a2199 t2208 g2192 A2195 l2194.length n2197 t2211 _ ⟨HS.out.begin⟩ HA2212).mono ?_
  rintro e_ w2213 ⟨rfl, hS⟩
  replace HS : Aside0 (Sep FF w [b6 g2192 A2195 l2194.length n2197 a2199, r5 A2195 l2194.length n2197 l2194, b7 g2190 g2192 a2200 a2201 a2202 a2203] w2213) := ⟨HS.out.call hS⟩
  clear hS
  go_wp2_with fail
  go_ret
  rw [← some_eq H]
  exact ⟨(by first | rfl | (simp [IntKind.wrap_u32]; done)), ((((HS.out).front 1 (by simp)).front 1 (by simp)).front 2 (by simp)).keep (l := [b7 g2190 g2192 a2200 a2201 a2202 a2203, b6 g2192 A2195 l2194.length n2197 a2199, r5 A2195 l2194.length n2197 l2194]) (rest := [])⟩

set_option maxHeartbeats 30000000 in
set_option maxRecDepth 100000 in
theorem quitrentref05_Ground_See.calls (a2219 : Int) (a2220 : Int) (a2221 : Int) (a2222 : Int) (l2226 : List Int) (a2231 : Int) (a2232 : Int) (g2218 : Nat) (g2224 : Nat) (A2227 : Option Addr) (m2228 : Nat) (n2229 : Nat) (r : Int) (w : World)   (HS : Aside0 (Sep (fps [b9 g2218 a2219 a2220 a2221 a2222 g2224, b8 g2224 A2227 m2228 n2229 a2231, r5 A2227 m2228 n2229 l2226]) w [b9 g2218 a2219 a2220 a2221 a2222 g2224, b8 g2224 A2227 m2228 n2229 a2231, r5 A2227 m2228 n2229 l2226] w)) (H : Aside0 (quitrentref05_Ground_See.f a2219 a2220 a2221 a2222 l2226 a2231 a2232 = some r)) :
    Calls Try.prog 84 #[.pointer (some ⟨g2218, 0, none⟩), .int .i64 a2232] w fun e w' => e = .returned (.int .i64 r) ∧ Sep (fps [b9 g2218 a2219 a2220 a2221 a2222 g2224, b8 g2224 A2227 m2228 n2229 a2231, r5 A2227 m2228 n2229 l2226]) w [b9 g2218 a2219 a2220 a2221 a2222 g2224, b8 g2224 A2227 m2228 n2229 a2231, r5 A2227 m2228 n2229 l2226] w' := by
  generalize (fps [b9 g2218 a2219 a2220 a2221 a2222 g2224, b8 g2224 A2227 m2228 n2229 a2231, r5 A2227 m2228 n2229 l2226]) = FF at HS ⊢
  obtain rfl := (row_len (HS.out.at2)).symm
  unfold quitrentref05_Ground_See.f at H
  go_enter Try.func84, Try.ntmps84
  by_cases c2233 : a2232 < 0
  · have H := if_yes c2233 H
    have c2233b0 : decide (a2232 < 0) = true := decide_eq_true c2233
    clear c2233
    go_wp2_with fail
    go_ret
    rw [← some_eq H]
    exact ⟨(by first | rfl | (simp [IntKind.wrap_u32]; done)), HS.out⟩
  · have H := if_no c2233 H
    have c2233b0 : decide (a2232 < 0) = false := decide_eq_false c2233
    clear c2233
    by_cases c2236 : 0 ≤ a2232
    · have H := if_yes c2236 H
      have c2236b0 : decide (0 ≤ a2232) = true := decide_eq_true c2236
      have c2236p : (0 ≤ a2232) = True := eq_true c2236
      clear c2236
      by_cases c2237 : a2232 < (l2226.length : Int)
      · have H := if_yes c2237 H
        have c2237b0 : decide (a2232 < (l2226.length : Int)) = true := decide_eq_true c2237
        have c2237p : (a2232 < (l2226.length : Int)) = True := eq_true c2237
        clear c2237
        have hc2234 : w.cell? ⟨g2218, 4, none⟩ = some (.pointer (some ⟨g2224, 0, none⟩)) := blk_cellv (HS.out.at0) 4 rfl
        have hc2235 : w.cell? ⟨g2224, 0, none⟩ = some (.slice A2227 l2226.length n2229) := blk_cellv (HS.out.at1) 0 rfl
        obtain ⟨g2238, ea⟩ := row_at (HS.out.at2) (by have := (of_decide_eq_true c2236b0); have := (of_decide_eq_true c2237b0); omega); cases ea
        have hx2239 := C_at_int (row_Ci (HS.out.at2)) a2232 (of_decide_eq_true c2236b0) (of_decide_eq_true c2237b0)
        have hx2240 : w.cell? ⟨g2238, (a2232).toNat, none⟩ = some (.int .u32 (rd l2226 a2232)) := (row_get 0 (HS.out.at2) a2232 (of_decide_eq_true c2236b0) (of_decide_eq_true c2237b0)).1
        go_wp2_with fail
        clear hc2234 hc2235 hx2239 hx2240
        go_ret
        rw [← some_eq H]
        exact ⟨(by first | rfl | (simp [IntKind.wrap_u32]; done)), HS.out⟩
      · have H := if_no c2237 H
        have c2237b0 : decide (a2232 < (l2226.length : Int)) = false := decide_eq_false c2237
        clear c2237
        exact (none_no H).elim
    · have H := if_no c2236 H
      have c2236b0 : decide (0 ≤ a2232) = false := decide_eq_false c2236
      clear c2236
      exact (none_no H).elim

set_option maxHeartbeats 30000000 in
set_option maxRecDepth 100000 in
theorem ground_Ground_SeeRoot.calls (l2251 : List Int) (a2256 : Int) (a2257 : Int) (a2258 : Int) (a2259 : Int) (a2260 : Int) (a2261 : Int) (g2247 : Nat) (g2249 : Nat) (A2252 : Option Addr) (m2253 : Nat) (n2254 : Nat) (r : Int) (w : World)   (HS : Aside0 (Sep (fps [b7 g2247 g2249 a2257 a2258 a2259 a2260, b6 g2249 A2252 m2253 n2254 a2256, r5 A2252 m2253 n2254 l2251]) w [b7 g2247 g2249 a2257 a2258 a2259 a2260, b6 g2249 A2252 m2253 n2254 a2256, r5 A2252 m2253 n2254 l2251] w)) (H : Aside0 (ground_Ground_SeeRoot.f l2251 a2256 a2257 a2258 a2259 a2260 a2261 = some r)) :
    Calls Try.prog 49 #[.pointer (some ⟨g2247, 0, none⟩), .int .i64 a2261] w fun e w' => e = .returned (.int .i64 r) ∧ Sep (fps [b7 g2247 g2249 a2257 a2258 a2259 a2260, b6 g2249 A2252 m2253 n2254 a2256, r5 A2252 m2253 n2254 l2251]) w [b7 g2247 g2249 a2257 a2258 a2259 a2260, b6 g2249 A2252 m2253 n2254 a2256, r5 A2252 m2253 n2254 l2251] w' := by
  generalize (fps [b7 g2247 g2249 a2257 a2258 a2259 a2260, b6 g2249 A2252 m2253 n2254 a2256, r5 A2252 m2253 n2254 l2251]) = FF at HS ⊢
  obtain rfl := (row_len (HS.out.at2)).symm
  unfold ground_Ground_SeeRoot.f at H
  go_enter Try.func49, Try.ntmps49
  go_wp2_with fail
  obtain ⟨t2262, HA2263, H⟩ := bind_some H
  refine (ground_Ground_all.calls l2251 a2256 a2257 a2258 a2259 a2260 g2247 g2249 A2252 l2251.length n2254 t2262 _ ⟨HS.out.begin⟩ HA2263).mono ?_
  rintro e_ w2264 ⟨rfl, hS⟩
  replace HS : Aside0 (Sep FF w [b7 g2247 g2249 a2257 a2258 a2259 a2260, b6 g2249 A2252 l2251.length n2254 a2256, r5 A2252 l2251.length n2254 l2251] w2264) := ⟨HS.out.call hS⟩
  clear hS
  go_wp2_with fail
  obtain ⟨t2265, HA2266, H⟩ := bind_some H
  refine (ground_Ground_root.calls l2251 a2256 a2257 a2258 a2259 a2260 a2261 g2247 g2249 A2252 l2251.length n2254 t2265 _ ⟨HS.out.begin⟩ HA2266).mono ?_
  rintro e_ w2267 ⟨rfl, hS⟩
  replace HS : Aside0 (Sep FF w [b7 g2247 g2249 a2257 a2258 a2259 a2260, b6 g2249 A2252 l2251.length n2254 a2256, r5 A2252 l2251.length n2254 l2251] w2267) := ⟨HS.out.call hS⟩
  clear hS
  go_wp2_with fail
  replace HS : Aside0 (Sep FF w [r5 A2252 l2251.length n2254 l2251, b7 g2247 g2249 a2257 a2258 a2259 a2260, b6 g2249 A2252 l2251.length n2254 a2256] w2267) := ⟨HS.out.front 2 (by simp)⟩
  replace HS : Aside0 (Sep FF w [b6 g2249 A2252 l2251.length n2254 a2256, r5 A2252 l2251.length n2254 l2251, b7 g2247 g2249 a2257 a2258 a2259 a2260] w2267) := ⟨HS.out.front 2 (by simp)⟩
  obtain ⟨t2268, HA2269, H⟩ := bind_some H
  refine (store_Store_Peek.calls l2251 a2256 t2265 g2249 A2252 l2251.length n2254 t2268 _ ⟨HS.out.begin⟩ HA2269).mono ?_
  rintro e_ w2270 ⟨rfl, hS⟩
  replace HS : Aside0 (Sep FF w [b6 g2249 A2252 l2251.length n2254 a2256, r5 A2252 l2251.length n2254 l2251, b7 g2247 g2249 a2257 a2258 a2259 a2260] w2270) := ⟨HS.out.call hS⟩
  clear hS
  go_wp2_with fail
  go_ret
  rw [← some_eq H]
  exact ⟨(by first | rfl | (simp [IntKind.wrap_u32]; done)), ((((HS.out).front 1 (by simp)).front 1 (by simp)).front 2 (by simp)).keep (l := [b7 g2247 g2249 a2257 a2258 a2259 a2260, b6 g2249 A2252 l2251.length n2254 a2256, r5 A2252 l2251.length n2254 l2251]) (rest := [])⟩

set_option maxHeartbeats 30000000 in
set_option maxRecDepth 100000 in
theorem quitrentlaw05_do.calls (k : Nat) (l1434 : List Int) (a1439 : Int) (a1440 : Int) (a1441 : Int) (a1442 : Int) (a1443 : Int) (a1446 : Int) (a1447 : Int) (a1448 : Int) (a1449 : Int) (l1453 : List Int) (a1458 : Int) (a1459 : Int) (a1460 : Int) (a1461 : Int) (a1462 : Int) (g1430 : Nat) (g1432 : Nat) (A1435 : Option Addr) (m1436 : Nat) (n1437 : Nat) (g1445 : Nat) (g1451 : Nat) (A1454 : Option Addr) (m1455 : Nat) (n1456 : Nat) (r : Bool × Int × List Int × Int × List Int) (w : World)   (HS : Aside0 (Sep (fps [b7 g1430 g1432 a1440 a1441 a1442 a1443, b6 g1432 A1435 m1436 n1437 a1439, r5 A1435 m1436 n1437 l1434, b9 g1445 a1446 a1447 a1448 a1449 g1451, b8 g1451 A1454 m1455 n1456 a1458, r5 A1454 m1455 n1456 l1453]) w [b7 g1430 g1432 a1440 a1441 a1442 a1443, b6 g1432 A1435 m1436 n1437 a1439, r5 A1435 m1436 n1437 l1434, b9 g1445 a1446 a1447 a1448 a1449 g1451, b8 g1451 A1454 m1455 n1456 a1458, r5 A1454 m1455 n1456 l1453] w)) (H : Aside0 (quitrentlaw05_do.f k l1434 a1439 a1440 a1441 a1442 a1443 a1446 a1447 a1448 a1449 l1453 a1458 a1459 a1460 a1461 a1462 = some r)) :
    Calls Try.prog 41 #[.pointer (some ⟨g1430, 0, none⟩), .pointer (some ⟨g1445, 0, none⟩), .agg #[.int .u8 a1459, .int .i64 a1460, .int .i64 a1461, .int .i64 a1462]] w fun e w' => e = .returned (.bool r.1) ∧ Sep (fps [b7 g1430 g1432 a1440 a1441 a1442 a1443, b6 g1432 A1435 m1436 n1437 a1439, r5 A1435 m1436 n1437 l1434, b9 g1445 a1446 a1447 a1448 a1449 g1451, b8 g1451 A1454 m1455 n1456 a1458, r5 A1454 m1455 n1456 l1453]) w [b7 g1430 g1432 a1440 a1441 a1442 a1443, b6 g1432 A1435 m1436 n1437 r.2.1, r5 A1435 m1436 n1437 r.2.2.1, b9 g1445 a1446 a1447 a1448 a1449 g1451, b8 g1451 A1454 m1455 n1456 r.2.2.2.1, r5 A1454 m1455 n1456 r.2.2.2.2] w' := by
  generalize (fps [b7 g1430 g1432 a1440 a1441 a1442 a1443, b6 g1432 A1435 m1436 n1437 a1439, r5 A1435 m1436 n1437 l1434, b9 g1445 a1446 a1447 a1448 a1449 g1451, b8 g1451 A1454 m1455 n1456 a1458, r5 A1454 m1455 n1456 l1453]) = FF at HS ⊢
  obtain rfl := (row_len (HS.out.at2)).symm
  obtain rfl := (row_len (HS.out.at5)).symm
  unfold quitrentlaw05_do.f at H
  go_enter Try.func41, Try.ntmps41
  go_wp2_with (first | ((with_reducible refine gate_dst (N := 5) rfl ?_); refine box_on ?hg (N := 5) ?hd (cs := #[.int .u8 a1459, .int .i64 a1460, .int .i64 a1461, .int .i64 a1462]) (t := 66) ?hr ?_; (case hd => rfl); (case hg => rfl); (case hr => first | (go_simp; done) | (go_simp; rfl)); intro g1810 hg w1811 hbox hb; replace HS : Aside0 (Sep FF w [b7 g1430 g1432 a1440 a1441 a1442 a1443, b6 g1432 A1435 l1434.length n1437 a1439, r5 A1435 l1434.length n1437 l1434, b9 g1445 a1446 a1447 a1448 a1449 g1451, b8 g1451 A1454 l1453.length n1456 a1458, r5 A1454 l1453.length n1456 l1453, b11 g1810 a1459 a1460 a1461 a1462] w1811) := ⟨HS.out.box hg hbox hb⟩; clear hg hbox hb))
  refine start_ (n := 22) (S := (fun w' => w'.cell? ⟨g1810, 1, none⟩ = some (.int .i64 a1460) ∧ w'.cell? ⟨g1445, 0, none⟩ = some (.int .i64 a1446) ∧ w'.cell? ⟨g1445, 1, none⟩ = some (.int .i64 a1447) ∧ w'.cell? ⟨g1445, 2, none⟩ = some (.int .i64 a1448) ∧ w'.cell? ⟨g1445, 3, none⟩ = some (.int .i64 a1449) ∧ w'.cell? ⟨g1810, 2, none⟩ = some (.int .i64 a1461))) (ds := []) #[false, false, false, false, false, false, false, false, false, false, false, false, false, false, false, false, false, false, false, false, false, false] (by kernel_rfl) rfl rfl (⟨blk_cellv ((HS.out.drew).at6) 1 rfl, blk_cellv ((HS.out.drew).at3) 0 rfl, blk_cellv ((HS.out.drew).at3) 1 rfl, blk_cellv ((HS.out.drew).at3) 2 rfl, blk_cellv ((HS.out.drew).at3) 3 rfl, blk_cellv ((HS.out.drew).at6) 2 rfl⟩) (fun hHeld => ?_)
  have HS_ := Aside0.mk HS.out.drew
  clear HS
  generalize World.drew _ = w1814 at HS_ hHeld ⊢
  have HS := HS_
  clear HS_
  refine pure_ (i := 0) (N := some 11) (v := ?_) (a' := ?_) #[true, false, false, false, false, false, false, false, false, false, false, false, false, false, false, false, false, false, false, false, false, false] rfl rfl (by kernel_rfl) (fun _ _ _ h => h) (Or.inl ⟨by rfl, ?_⟩) ?_ ?_
  rotate_left
  · intro w'
    go_simp
    with_reducible rfl
  rotate_left
  · simp only [Act.put, List.setIfInBounds_toArray, List.set_cons_zero, List.set_cons_succ, i64_w, i32_w]
    rfl
  refine pure_ (i := 3) (N := some 14) (v := ?_) (a' := ?_) #[true, false, false, true, false, false, false, false, false, false, false, false, false, false, false, false, false, false, false, false, false, false] rfl rfl (by kernel_rfl) (fun _ _ _ h => h) (Or.inl ⟨by rfl, ?_⟩) ?_ ?_
  rotate_left
  · intro w'
    go_simp
    with_reducible rfl
  rotate_left
  · simp only [Act.put, List.setIfInBounds_toArray, List.set_cons_zero, List.set_cons_succ, i64_w, i32_w]
    rfl
  refine pure_ (i := 4) (N := some 15) (v := ?_) (a' := ?_) #[true, false, false, true, true, false, false, false, false, false, false, false, false, false, false, false, false, false, false, false, false, false] rfl rfl (by kernel_rfl) (fun _ _ _ h => h) (Or.inl ⟨by rfl, ?_⟩) ?_ ?_
  rotate_left
  · intro w'
    go_simp
    with_reducible rfl
  rotate_left
  · simp only [Act.put, List.setIfInBounds_toArray, List.set_cons_zero, List.set_cons_succ, i64_w, i32_w]
    rfl
  refine pure_ (i := 5) (N := some 16) (v := ?_) (a' := ?_) #[true, false, false, true, true, true, false, false, false, false, false, false, false, false, false, false, false, false, false, false, false, false] rfl rfl (by kernel_rfl) (fun _ _ _ h => h) (Or.inl ⟨by rfl, ?_⟩) ?_ ?_
  rotate_left
  · intro w'
    go_simp
    with_reducible rfl
  rotate_left
  · simp only [Act.put, List.setIfInBounds_toArray, List.set_cons_zero, List.set_cons_succ, i64_w, i32_w]
    rfl
  refine pure_ (i := 7) (N := some 18) (v := ?_) (a' := ?_) #[true, false, false, true, true, true, false, true, false, false, false, false, false, false, false, false, false, false, false, false, false, false] rfl rfl (by kernel_rfl) (fun _ _ _ h => h) (Or.inl ⟨by rfl, ?_⟩) ?_ ?_
  rotate_left
  · intro w'
    go_simp
    with_reducible rfl
  rotate_left
  · simp only [Act.put, List.setIfInBounds_toArray, List.set_cons_zero, List.set_cons_succ, i64_w, i32_w]
    rfl
  refine pure_ (i := 10) (N := some 21) (v := ?_) (a' := ?_) #[true, false, false, true, true, true, false, true, false, false, true, false, false, false, false, false, false, false, false, false, false, false] rfl rfl (by kernel_rfl) (fun _ _ _ h => h) (Or.inl ⟨by rfl, ?_⟩) ?_ ?_
  rotate_left
  · intro w'
    go_simp
    with_reducible rfl
  rotate_left
  · simp only [Act.put, List.setIfInBounds_toArray, List.set_cons_zero, List.set_cons_succ, i64_w, i32_w]
    rfl
  refine pure_ (i := 11) (N := some 22) (v := ?_) (a' := ?_) #[true, false, false, true, true, true, false, true, false, false, true, true, false, false, false, false, false, false, false, false, false, false] rfl rfl (by kernel_rfl) (fun _ _ _ h => h) (Or.inl ⟨by rfl, ?_⟩) ?_ ?_
  rotate_left
  · intro w'
    go_simp
    with_reducible rfl
  rotate_left
  · simp only [Act.put, List.setIfInBounds_toArray, List.set_cons_zero, List.set_cons_succ, i64_w, i32_w]
    rfl
  refine pure_ (i := 12) (N := some 23) (v := ?_) (a' := ?_) #[true, false, false, true, true, true, false, true, false, false, true, true, true, false, false, false, false, false, false, false, false, false] rfl rfl (by kernel_rfl) (fun _ _ _ h => h) (Or.inl ⟨by rfl, ?_⟩) ?_ ?_
  rotate_left
  · intro w'
    go_simp
    with_reducible rfl
  rotate_left
  · simp only [Act.put, List.setIfInBounds_toArray, List.set_cons_zero, List.set_cons_succ, i64_w, i32_w]
    rfl
  refine pure_ (i := 14) (N := some 25) (v := ?_) (a' := ?_) #[true, false, false, true, true, true, false, true, false, false, true, true, true, false, true, false, false, false, false, false, false, false] rfl rfl (by kernel_rfl) (fun _ _ _ h => h) (Or.inl ⟨by rfl, ?_⟩) ?_ ?_
  rotate_left
  · intro w'
    go_simp
    with_reducible rfl
  rotate_left
  · simp only [Act.put, List.setIfInBounds_toArray, List.set_cons_zero, List.set_cons_succ, i64_w, i32_w]
    rfl
  refine pure_ (i := 16) (N := some 27) (v := ?_) (a' := ?_) #[true, false, false, true, true, true, false, true, false, false, true, true, true, false, true, false, true, false, false, false, false, false] rfl rfl (by kernel_rfl) (fun _ _ _ h => h) (Or.inl ⟨by rfl, ?_⟩) ?_ ?_
  rotate_left
  · intro w'
    go_simp
    with_reducible rfl
  rotate_left
  · simp only [Act.put, List.setIfInBounds_toArray, List.set_cons_zero, List.set_cons_succ, i64_w, i32_w]
    rfl
  refine take_ (i := 1) (N := some 12) (v := ?_) (a' := ?_) #[true, true, false, true, true, true, false, true, false, false, true, true, true, false, true, false, true, false, false, false, false, false] rfl rfl (by kernel_rfl) (fun _ _ _ h => h) (Or.inl ⟨by rfl, ?_⟩) hHeld ?_ ?_
  rotate_left
  · rintro w' hS'
    obtain ⟨s0, s1, s2, s3, s4, s5⟩ := hS'
    go_simp
    with_reducible rfl
  rotate_left
  · simp only [Act.put, List.setIfInBounds_toArray, List.set_cons_zero, List.set_cons_succ, i64_w, i32_w]
    rfl
  refine take_ (i := 6) (N := some 17) (v := ?_) (a' := ?_) #[true, true, false, true, true, true, true, true, false, false, true, true, true, false, true, false, true, false, false, false, false, false] rfl rfl (by kernel_rfl) (fun _ _ _ h => h) (Or.inl ⟨by rfl, ?_⟩) hHeld ?_ ?_
  rotate_left
  · rintro w' hS'
    obtain ⟨s0, s1, s2, s3, s4, s5⟩ := hS'
    go_simp
    with_reducible rfl
  rotate_left
  · simp only [Act.put, List.setIfInBounds_toArray, List.set_cons_zero, List.set_cons_succ, i64_w, i32_w]
    rfl
  refine take_ (i := 8) (N := some 19) (v := ?_) (a' := ?_) #[true, true, false, true, true, true, true, true, true, false, true, true, true, false, true, false, true, false, false, false, false, false] rfl rfl (by kernel_rfl) (fun _ _ _ h => h) (Or.inl ⟨by rfl, ?_⟩) hHeld ?_ ?_
  rotate_left
  · rintro w' hS'
    obtain ⟨s0, s1, s2, s3, s4, s5⟩ := hS'
    go_simp
    with_reducible rfl
  rotate_left
  · simp only [Act.put, List.setIfInBounds_toArray, List.set_cons_zero, List.set_cons_succ, i64_w, i32_w]
    rfl
  refine take_ (i := 13) (N := some 24) (v := ?_) (a' := ?_) #[true, true, false, true, true, true, true, true, true, false, true, true, true, true, true, false, true, false, false, false, false, false] rfl rfl (by kernel_rfl) (fun _ _ _ h => h) (Or.inl ⟨by rfl, ?_⟩) hHeld ?_ ?_
  rotate_left
  · rintro w' hS'
    obtain ⟨s0, s1, s2, s3, s4, s5⟩ := hS'
    go_simp
    with_reducible rfl
  rotate_left
  · simp only [Act.put, List.setIfInBounds_toArray, List.set_cons_zero, List.set_cons_succ, i64_w, i32_w]
    rfl
  refine take_ (i := 15) (N := some 26) (v := ?_) (a' := ?_) #[true, true, false, true, true, true, true, true, true, false, true, true, true, true, true, true, true, false, false, false, false, false] rfl rfl (by kernel_rfl) (fun _ _ _ h => h) (Or.inl ⟨by rfl, ?_⟩) hHeld ?_ ?_
  rotate_left
  · rintro w' hS'
    obtain ⟨s0, s1, s2, s3, s4, s5⟩ := hS'
    go_simp
    with_reducible rfl
  rotate_left
  · simp only [Act.put, List.setIfInBounds_toArray, List.set_cons_zero, List.set_cons_succ, i64_w, i32_w]
    rfl
  refine take_ (i := 17) (N := some 28) (v := ?_) (a' := ?_) #[true, true, false, true, true, true, true, true, true, false, true, true, true, true, true, true, true, true, false, false, false, false] rfl rfl (by kernel_rfl) (fun _ _ _ h => h) (Or.inl ⟨by rfl, ?_⟩) hHeld ?_ ?_
  rotate_left
  · rintro w' hS'
    obtain ⟨s0, s1, s2, s3, s4, s5⟩ := hS'
    go_simp
    with_reducible rfl
  rotate_left
  · simp only [Act.put, List.setIfInBounds_toArray, List.set_cons_zero, List.set_cons_succ, i64_w, i32_w]
    rfl
  refine one_ (i := 2) (N := some 13) #[true, true, true, true, true, true, true, true, true, false, true, true, true, true, true, true, true, true, false, false, false, false] rfl rfl (by kernel_rfl) (by decide) (fun K hK => ?_)
  obtain ⟨t1815, HA1816, H⟩ := bind_some H
  refine goes_ Try.func79 (by kernel_rfl) rfl #[.int .i64 a1460] (by rfl) rfl rfl (by (try simp only [List.map_toArray, List.map_cons, List.map_nil]); first | done | rfl) ?_
  refine (quitrentref05_RegAt.calls a1460 t1815 _ ⟨Sep.start _⟩ HA1816).mono ?_
  rintro e_ w1817 ⟨rfl, hS⟩
  replace HS : Aside0 (Sep FF w [b7 g1430 g1432 a1440 a1441 a1442 a1443, b6 g1432 A1435 l1434.length n1437 a1439, r5 A1435 l1434.length n1437 l1434, b9 g1445 a1446 a1447 a1448 a1449 g1451, b8 g1451 A1454 l1453.length n1456 a1458, r5 A1454 l1453.length n1456 l1453, b11 g1810 a1459 a1460 a1461 a1462] w1817) := ⟨HS.out.call hS⟩
  clear hS
  refine ⟨_, rfl, ?_⟩
  refine hK.out _ _ (⟨blk_cellv (HS.out.at6) 1 rfl, blk_cellv (HS.out.at3) 0 rfl, blk_cellv (HS.out.at3) 1 rfl, blk_cellv (HS.out.at3) 2 rfl, blk_cellv (HS.out.at3) 3 rfl, blk_cellv (HS.out.at6) 2 rfl⟩) (fun hHeld => ?_)
  clear hK K
  refine norm_ (a' := ?_) ?_ ?_
  rotate_left
  · show Act.put _ (some 13) _ = _
    simp only [Act.put, List.setIfInBounds_toArray, List.set_cons_zero, List.set_cons_succ, i64_w, i32_w]
    rfl
  refine one_ (i := 9) (N := some 20) #[true, true, true, true, true, true, true, true, true, true, true, true, true, true, true, true, true, true, false, false, false, false] rfl rfl (by kernel_rfl) (by decide) (fun K hK => ?_)
  obtain ⟨t1818, HA1819, H⟩ := bind_some H
  refine goes_ Try.func80 (by kernel_rfl) rfl #[.agg #[.int .i64 a1446, .int .i64 a1447, .int .i64 a1448, .int .i64 a1449], .int .i64 a1460] (by rfl) rfl rfl (by (try simp only [List.map_toArray, List.map_cons, List.map_nil]); first | done | rfl) ?_
  refine (quitrentref05_RootAt.calls a1446 a1447 a1448 a1449 a1460 t1818 _ ⟨Sep.start _⟩ HA1819).mono ?_
  rintro e_ w1820 ⟨rfl, hS⟩
  replace HS : Aside0 (Sep FF w [b7 g1430 g1432 a1440 a1441 a1442 a1443, b6 g1432 A1435 l1434.length n1437 a1439, r5 A1435 l1434.length n1437 l1434, b9 g1445 a1446 a1447 a1448 a1449 g1451, b8 g1451 A1454 l1453.length n1456 a1458, r5 A1454 l1453.length n1456 l1453, b11 g1810 a1459 a1460 a1461 a1462] w1820) := ⟨HS.out.call hS⟩
  clear hS
  refine ⟨_, rfl, ?_⟩
  refine hK.out _ _ (⟨blk_cellv (HS.out.at6) 1 rfl, blk_cellv (HS.out.at3) 0 rfl, blk_cellv (HS.out.at3) 1 rfl, blk_cellv (HS.out.at3) 2 rfl, blk_cellv (HS.out.at3) 3 rfl, blk_cellv (HS.out.at6) 2 rfl⟩) (fun hHeld => ?_)
  clear hK K
  refine norm_ (a' := ?_) ?_ ?_
  rotate_left
  · show Act.put _ (some 20) _ = _
    simp only [Act.put, List.setIfInBounds_toArray, List.set_cons_zero, List.set_cons_succ, i64_w, i32_w]
    rfl
  refine one_ (i := 18) (N := some 29) #[true, true, true, true, true, true, true, true, true, true, true, true, true, true, true, true, true, true, true, false, false, false] rfl rfl (by kernel_rfl) (by decide) (fun K hK => ?_)
  obtain ⟨t1821, HA1822, H⟩ := bind_some H
  refine goes_ Try.func81 (by kernel_rfl) rfl #[.agg #[.int .i64 a1446, .int .i64 a1447, .int .i64 a1448, .int .i64 a1449], .int .i64 a1460, .int .i64 a1461] (by rfl) rfl rfl (by (try simp only [List.map_toArray, List.map_cons, List.map_nil]); first | done | rfl) ?_
  refine (quitrentref05_WordAt.calls a1446 a1447 a1448 a1449 a1460 a1461 t1821 _ ⟨Sep.start _⟩ HA1822).mono ?_
  rintro e_ w1823 ⟨rfl, hS⟩
  replace HS : Aside0 (Sep FF w [b7 g1430 g1432 a1440 a1441 a1442 a1443, b6 g1432 A1435 l1434.length n1437 a1439, r5 A1435 l1434.length n1437 l1434, b9 g1445 a1446 a1447 a1448 a1449 g1451, b8 g1451 A1454 l1453.length n1456 a1458, r5 A1454 l1453.length n1456 l1453, b11 g1810 a1459 a1460 a1461 a1462] w1823) := ⟨HS.out.call hS⟩
  clear hS
  refine ⟨_, rfl, ?_⟩
  refine hK.out _ _ (⟨blk_cellv (HS.out.at6) 1 rfl, blk_cellv (HS.out.at3) 0 rfl, blk_cellv (HS.out.at3) 1 rfl, blk_cellv (HS.out.at3) 2 rfl, blk_cellv (HS.out.at3) 3 rfl, blk_cellv (HS.out.at6) 2 rfl⟩) (fun hHeld => ?_)
  clear hK K
  refine norm_ (a' := ?_) ?_ ?_
  rotate_left
  · show Act.put _ (some 29) _ = _
    simp only [Act.put, List.setIfInBounds_toArray, List.set_cons_zero, List.set_cons_succ, i64_w, i32_w]
    rfl
  refine pure_ (i := 19) (N := some 7) (v := ?_) (a' := ?_) #[true, true, true, true, true, true, true, true, true, true, true, true, true, true, true, true, true, true, true, true, false, false] rfl rfl (by kernel_rfl) (fun _ _ _ h => h) (Or.inl ⟨by rfl, ?_⟩) ?_ ?_
  rotate_left
  · intro w'
    go_simp
    with_reducible rfl
  rotate_left
  · simp only [Act.put, List.setIfInBounds_toArray, List.set_cons_zero, List.set_cons_succ, i64_w, i32_w]
    rfl
  refine pure_ (i := 20) (N := some 8) (v := ?_) (a' := ?_) #[true, true, true, true, true, true, true, true, true, true, true, true, true, true, true, true, true, true, true, true, true, false] rfl rfl (by kernel_rfl) (fun _ _ _ h => h) (Or.inl ⟨by rfl, ?_⟩) ?_ ?_
  rotate_left
  · intro w'
    go_simp
    with_reducible rfl
  rotate_left
  · simp only [Act.put, List.setIfInBounds_toArray, List.set_cons_zero, List.set_cons_succ, i64_w, i32_w]
    rfl
  refine pure_ (i := 21) (N := some 9) (v := ?_) (a' := ?_) #[true, true, true, true, true, true, true, true, true, true, true, true, true, true, true, true, true, true, true, true, true, true] rfl rfl (by kernel_rfl) (fun _ _ _ h => h) (Or.inl ⟨by rfl, ?_⟩) ?_ ?_
  rotate_left
  · intro w'
    go_simp
    with_reducible rfl
  rotate_left
  · simp only [Act.put, List.setIfInBounds_toArray, List.set_cons_zero, List.set_cons_succ, i64_w, i32_w]
    rfl
  refine done_ (by kernel_rfl) ?_
  by_cases c1825 : a1459 = 0
  · have H := if_yes c1825 H
    have c1825b0 : (a1459 == 0) = true := beq_iff_eq.mpr c1825
    have c1825b1 : (a1459 != 0) = false := bne_eq_false_iff_eq.mpr c1825
    clear c1825
    have hc1824 : w1823.cell? ⟨g1810, 0, none⟩ = some (.int .u8 a1459) := blk_cellv (HS.out.at6) 0 rfl
    go_wp2_with fail
    clear hc1824
    refine start_ (n := 13) (S := (fun w' => w'.cell? ⟨g1810, 1, none⟩ = some (.int .i64 a1460) ∧ w'.cell? ⟨g1445, 4, none⟩ = some (.pointer (some ⟨g1451, 0, none⟩)))) (ds := []) #[false, false, false, false, false, false, false, false, false, false, false, false, false] (by kernel_rfl) rfl rfl (⟨blk_cellv ((HS.out.drew).at6) 1 rfl, blk_cellv ((HS.out.drew).at3) 4 rfl⟩) (fun hHeld => ?_)
    have HS_ := Aside0.mk HS.out.drew
    clear HS
    generalize World.drew _ = w1827 at HS_ hHeld ⊢
    have HS := HS_
    clear HS_
    refine pure_ (i := 0) (N := some 34) (v := ?_) (a' := ?_) #[true, false, false, false, false, false, false, false, false, false, false, false, false] rfl rfl (by kernel_rfl) (fun _ _ _ h => h) (Or.inl ⟨by rfl, ?_⟩) ?_ ?_
    rotate_left
    · intro w'
      go_simp
      with_reducible rfl
    rotate_left
    · simp only [Act.put, List.setIfInBounds_toArray, List.set_cons_zero, List.set_cons_succ, i64_w, i32_w]
      rfl
    refine pure_ (i := 1) (N := some 35) (v := ?_) (a' := ?_) #[true, true, false, false, false, false, false, false, false, false, false, false, false] rfl rfl (by kernel_rfl) (fun _ _ _ h => h) (Or.inl ⟨by rfl, ?_⟩) ?_ ?_
    rotate_left
    · intro w'
      go_simp
      with_reducible rfl
    rotate_left
    · simp only [Act.put, List.setIfInBounds_toArray, List.set_cons_zero, List.set_cons_succ, i64_w, i32_w]
      rfl
    refine pure_ (i := 4) (N := some 38) (v := ?_) (a' := ?_) #[true, true, false, false, true, false, false, false, false, false, false, false, false] rfl rfl (by kernel_rfl) (fun _ _ _ h => h) (Or.inl ⟨by rfl, ?_⟩) ?_ ?_
    rotate_left
    · intro w'
      go_simp
      with_reducible rfl
    rotate_left
    · simp only [Act.put, List.setIfInBounds_toArray, List.set_cons_zero, List.set_cons_succ, i64_w, i32_w]
      rfl
    refine pure_ (i := 5) (N := some 39) (v := ?_) (a' := ?_) #[true, true, false, false, true, true, false, false, false, false, false, false, false] rfl rfl (by kernel_rfl) (fun _ _ _ h => h) (Or.inl ⟨by rfl, ?_⟩) ?_ ?_
    rotate_left
    · intro w'
      go_simp
      with_reducible rfl
    rotate_left
    · simp only [Act.put, List.setIfInBounds_toArray, List.set_cons_zero, List.set_cons_succ, i64_w, i32_w]
      rfl
    refine pure_ (i := 6) (N := some 40) (v := ?_) (a' := ?_) #[true, true, false, false, true, true, true, false, false, false, false, false, false] rfl rfl (by kernel_rfl) (fun _ _ _ h => h) (Or.inl ⟨by rfl, ?_⟩) ?_ ?_
    rotate_left
    · intro w'
      go_simp
      with_reducible rfl
    rotate_left
    · simp only [Act.put, List.setIfInBounds_toArray, List.set_cons_zero, List.set_cons_succ, i64_w, i32_w]
      rfl
    refine pure_ (i := 8) (N := some 42) (v := ?_) (a' := ?_) #[true, true, false, false, true, true, true, false, true, false, false, false, false] rfl rfl (by kernel_rfl) (fun _ _ _ h => h) (Or.inl ⟨by rfl, ?_⟩) ?_ ?_
    rotate_left
    · intro w'
      go_simp
      with_reducible rfl
    rotate_left
    · simp only [Act.put, List.setIfInBounds_toArray, List.set_cons_zero, List.set_cons_succ, i64_w, i32_w]
      rfl
    refine take_ (i := 2) (N := some 36) (v := ?_) (a' := ?_) #[true, true, true, false, true, true, true, false, true, false, false, false, false] rfl rfl (by kernel_rfl) (fun _ _ _ h => h) (Or.inl ⟨by rfl, ?_⟩) hHeld ?_ ?_
    rotate_left
    · rintro w' hS'
      obtain ⟨s0, s1⟩ := hS'
      go_simp
      with_reducible rfl
    rotate_left
    · simp only [Act.put, List.setIfInBounds_toArray, List.set_cons_zero, List.set_cons_succ, i64_w, i32_w]
      rfl
    refine take_ (i := 7) (N := some 41) (v := ?_) (a' := ?_) #[true, true, true, false, true, true, true, true, true, false, false, false, false] rfl rfl (by kernel_rfl) (fun _ _ _ h => h) (Or.inl ⟨by rfl, ?_⟩) hHeld ?_ ?_
    rotate_left
    · rintro w' hS'
      obtain ⟨s0, s1⟩ := hS'
      go_simp
      with_reducible rfl
    rotate_left
    · simp only [Act.put, List.setIfInBounds_toArray, List.set_cons_zero, List.set_cons_succ, i64_w, i32_w]
      rfl
    refine one_ (i := 3) (N := some 37) #[true, true, true, true, true, true, true, true, true, false, false, false, false] rfl rfl (by kernel_rfl) (by decide) (fun K hK => ?_)
    obtain ⟨t1828, HA1829, H⟩ := bind_some H
    refine goes_ Try.func36 (by kernel_rfl) rfl #[.pointer (some ⟨g1430, 0, none⟩), .int .i64 a1460] (by rfl) rfl rfl (by (try simp only [List.map_toArray, List.map_cons, List.map_nil]); first | done | rfl) ?_
    refine (ground_Ground_Reg.calls l1434 a1439 a1440 a1441 a1442 a1443 a1460 g1430 g1432 A1435 l1434.length n1437 t1828 _ ⟨HS.out.begin⟩ HA1829).mono ?_
    rintro e_ w1830 ⟨rfl, hS⟩
    replace HS : Aside0 (Sep FF w [b7 g1430 g1432 a1440 a1441 a1442 a1443, b6 g1432 A1435 l1434.length n1437 t1828.2, r5 A1435 l1434.length n1437 l1434, b9 g1445 a1446 a1447 a1448 a1449 g1451, b8 g1451 A1454 l1453.length n1456 a1458, r5 A1454 l1453.length n1456 l1453, b11 g1810 a1459 a1460 a1461 a1462] w1830) := ⟨HS.out.call hS⟩
    clear hS
    refine ⟨_, rfl, ?_⟩
    refine hK.out _ _ (⟨blk_cellv (HS.out.at6) 1 rfl, blk_cellv (HS.out.at3) 4 rfl⟩) (fun hHeld => ?_)
    clear hK K
    refine norm_ (a' := ?_) ?_ ?_
    rotate_left
    · show Act.put _ (some 37) _ = _
      simp only [Act.put, List.setIfInBounds_toArray, List.set_cons_zero, List.set_cons_succ, i64_w, i32_w]
      rfl
    refine one_ (i := 9) (N := some 43) #[true, true, true, true, true, true, true, true, true, true, false, false, false] rfl rfl (by kernel_rfl) (by decide) (fun K hK => ?_)
    replace HS : Aside0 (Sep FF w [r5 A1454 l1453.length n1456 l1453, b7 g1430 g1432 a1440 a1441 a1442 a1443, b6 g1432 A1435 l1434.length n1437 t1828.2, r5 A1435 l1434.length n1437 l1434, b9 g1445 a1446 a1447 a1448 a1449 g1451, b8 g1451 A1454 l1453.length n1456 a1458, b11 g1810 a1459 a1460 a1461 a1462] w1830) := ⟨HS.out.front 5 (by simp)⟩
    replace HS : Aside0 (Sep FF w [b8 g1451 A1454 l1453.length n1456 a1458, r5 A1454 l1453.length n1456 l1453, b7 g1430 g1432 a1440 a1441 a1442 a1443, b6 g1432 A1435 l1434.length n1437 t1828.2, r5 A1435 l1434.length n1437 l1434, b9 g1445 a1446 a1447 a1448 a1449 g1451, b11 g1810 a1459 a1460 a1461 a1462] w1830) := ⟨HS.out.front 5 (by simp)⟩
    obtain ⟨t1831, HA1832, H⟩ := bind_some H
    refine goes_ Try.func73 (by kernel_rfl) rfl #[.pointer (some ⟨g1451, 0, none⟩), .int .i64 t1815] (by rfl) rfl rfl (by (try simp only [List.map_toArray, List.map_cons, List.map_nil]); first | done | rfl) ?_
    refine (quitrentref04_Store_Get.calls l1453 a1458 t1815 g1451 A1454 l1453.length n1456 t1831 _ ⟨HS.out.begin⟩ HA1832).mono ?_
    rintro e_ w1833 ⟨rfl, hS⟩
    replace HS : Aside0 (Sep FF w [b8 g1451 A1454 l1453.length n1456 t1831.2, r5 A1454 l1453.length n1456 l1453, b7 g1430 g1432 a1440 a1441 a1442 a1443, b6 g1432 A1435 l1434.length n1437 t1828.2, r5 A1435 l1434.length n1437 l1434, b9 g1445 a1446 a1447 a1448 a1449 g1451, b11 g1810 a1459 a1460 a1461 a1462] w1833) := ⟨HS.out.call hS⟩
    clear hS
    refine ⟨_, rfl, ?_⟩
    refine hK.out _ _ (⟨blk_cellv (HS.out.at6) 1 rfl, blk_cellv (HS.out.at5) 4 rfl⟩) (fun hHeld => ?_)
    clear hK K
    refine norm_ (a' := ?_) ?_ ?_
    rotate_left
    · show Act.put _ (some 43) _ = _
      simp only [Act.put, List.setIfInBounds_toArray, List.set_cons_zero, List.set_cons_succ, i64_w, i32_w]
      rfl
    refine pure_ (i := 10) (N := some 44) (v := ?_) (a' := ?_) #[true, true, true, true, true, true, true, true, true, true, true, false, false] rfl rfl (by kernel_rfl) (fun _ _ _ h => h) (Or.inl ⟨by rfl, ?_⟩) ?_ ?_
    rotate_left
    · intro w'
      go_simp
      with_reducible rfl
    rotate_left
    · simp only [Act.put, List.setIfInBounds_toArray, List.set_cons_zero, List.set_cons_succ, i64_w, i32_w]
      rfl
    refine pure_ (i := 11) (N := some 45) (v := ?_) (a' := ?_) #[true, true, true, true, true, true, true, true, true, true, true, true, false] rfl rfl (by kernel_rfl) (fun _ _ _ h => h) (Or.inl ⟨by rfl, ?_⟩) ?_ ?_
    rotate_left
    · intro w'
      go_simp
      with_reducible rfl
    rotate_left
    · simp only [Act.put, List.setIfInBounds_toArray, List.set_cons_zero, List.set_cons_succ, i64_w, i32_w]
      rfl
    refine pure_ (i := 12) (N := some 6) (v := ?_) (a' := ?_) #[true, true, true, true, true, true, true, true, true, true, true, true, true] rfl rfl (by kernel_rfl) (fun _ _ _ h => h) (Or.inl ⟨by rfl, ?_⟩) ?_ ?_
    rotate_left
    · intro w'
      go_simp
      with_reducible rfl
    rotate_left
    · simp only [Act.put, List.setIfInBounds_toArray, List.set_cons_zero, List.set_cons_succ, i64_w, i32_w]
      rfl
    refine done_ (by kernel_rfl) ?_
    replace HS : Aside0 (Sep FF w [b8 g1451 A1454 l1453.length n1456 t1831.2, r5 A1454 l1453.length n1456 l1453, b7 g1430 g1432 a1440 a1441 a1442 a1443, b6 g1432 A1435 l1434.length n1437 t1828.2, r5 A1435 l1434.length n1437 l1434, b9 g1445 a1446 a1447 a1448 a1449 g1451] w1833) := ⟨HS.out.sub (.cons_cons _ (.cons_cons _ (.cons_cons _ (.cons_cons _ (.cons_cons _ (.cons_cons _ (.cons _ .slnil)))))))⟩
    go_wp2_with fail
    go_ret
    rw [← some_eq H]
    exact ⟨(by first | rfl | (simp [IntKind.wrap_u32]; done)), (((((((HS.out).front 1 (by simp)).front 1 (by simp)).front 5 (by simp)).front 5 (by simp)).front 5 (by simp)).front 5 (by simp)).keep (l := [b7 g1430 g1432 a1440 a1441 a1442 a1443, b6 g1432 A1435 l1434.length n1437 t1828.2, r5 A1435 l1434.length n1437 l1434, b9 g1445 a1446 a1447 a1448 a1449 g1451, b8 g1451 A1454 l1453.length n1456 t1831.2, r5 A1454 l1453.length n1456 l1453]) (rest := [])⟩
  · have H := if_no c1825 H
    have c1825b0 : (a1459 == 0) = false := beq_eq_false_iff_ne.mpr c1825
    have c1825b1 : (a1459 != 0) = true := bne_iff_ne.mpr c1825
    clear c1825
    by_cases c1834 : a1459 = 1
    · have H := if_yes c1834 H
      have c1834b0 : (a1459 == 1) = true := beq_iff_eq.mpr c1834
      have c1834b1 : (a1459 != 1) = false := bne_eq_false_iff_eq.mpr c1834
      clear c1834
      have hc1824 : w1823.cell? ⟨g1810, 0, none⟩ = some (.int .u8 a1459) := blk_cellv (HS.out.at6) 0 rfl
      go_wp2_with fail
      clear hc1824
      refine start_ (n := 13) (S := (fun w' => w'.cell? ⟨g1810, 1, none⟩ = some (.int .i64 a1460) ∧ w'.cell? ⟨g1810, 3, none⟩ = some (.int .i64 a1462))) (ds := []) #[false, false, false, false, false, false, false, false, false, false, false, false, false] (by kernel_rfl) rfl rfl (⟨blk_cellv ((HS.out.drew).at6) 1 rfl, blk_cellv ((HS.out.drew).at6) 3 rfl⟩) (fun hHeld => ?_)
      have HS_ := Aside0.mk HS.out.drew
      clear HS
      generalize World.drew _ = w1836 at HS_ hHeld ⊢
      have HS := HS_
      clear HS_
      refine pure_ (i := 0) (N := some 48) (v := ?_) (a' := ?_) #[true, false, false, false, false, false, false, false, false, false, false, false, false] rfl rfl (by kernel_rfl) (fun _ _ _ h => h) (Or.inl ⟨by rfl, ?_⟩) ?_ ?_
      rotate_left
      · intro w'
        go_simp
        with_reducible rfl
      rotate_left
      · simp only [Act.put, List.setIfInBounds_toArray, List.set_cons_zero, List.set_cons_succ, i64_w, i32_w]
        rfl
      refine pure_ (i := 1) (N := some 49) (v := ?_) (a' := ?_) #[true, true, false, false, false, false, false, false, false, false, false, false, false] rfl rfl (by kernel_rfl) (fun _ _ _ h => h) (Or.inl ⟨by rfl, ?_⟩) ?_ ?_
      rotate_left
      · intro w'
        go_simp
        with_reducible rfl
      rotate_left
      · simp only [Act.put, List.setIfInBounds_toArray, List.set_cons_zero, List.set_cons_succ, i64_w, i32_w]
        rfl
      refine pure_ (i := 3) (N := some 51) (v := ?_) (a' := ?_) #[true, true, false, true, false, false, false, false, false, false, false, false, false] rfl rfl (by kernel_rfl) (fun _ _ _ h => h) (Or.inl ⟨by rfl, ?_⟩) ?_ ?_
      rotate_left
      · intro w'
        go_simp
        with_reducible rfl
      rotate_left
      · simp only [Act.put, List.setIfInBounds_toArray, List.set_cons_zero, List.set_cons_succ, i64_w, i32_w]
        rfl
      refine pure_ (i := 6) (N := some 54) (v := ?_) (a' := ?_) #[true, true, false, true, false, false, true, false, false, false, false, false, false] rfl rfl (by kernel_rfl) (fun _ _ _ h => h) (Or.inl ⟨by rfl, ?_⟩) ?_ ?_
      rotate_left
      · intro w'
        go_simp
        with_reducible rfl
      rotate_left
      · simp only [Act.put, List.setIfInBounds_toArray, List.set_cons_zero, List.set_cons_succ, i64_w, i32_w]
        rfl
      refine pure_ (i := 7) (N := some 55) (v := ?_) (a' := ?_) #[true, true, false, true, false, false, true, true, false, false, false, false, false] rfl rfl (by kernel_rfl) (fun _ _ _ h => h) (Or.inl ⟨by rfl, ?_⟩) ?_ ?_
      rotate_left
      · intro w'
        go_simp
        with_reducible rfl
      rotate_left
      · simp only [Act.put, List.setIfInBounds_toArray, List.set_cons_zero, List.set_cons_succ, i64_w, i32_w]
        rfl
      refine pure_ (i := 8) (N := some 56) (v := ?_) (a' := ?_) #[true, true, false, true, false, false, true, true, true, false, false, false, false] rfl rfl (by kernel_rfl) (fun _ _ _ h => h) (Or.inl ⟨by rfl, ?_⟩) ?_ ?_
      rotate_left
      · intro w'
        go_simp
        with_reducible rfl
      rotate_left
      · simp only [Act.put, List.setIfInBounds_toArray, List.set_cons_zero, List.set_cons_succ, i64_w, i32_w]
        rfl
      refine take_ (i := 2) (N := some 50) (v := ?_) (a' := ?_) #[true, true, true, true, false, false, true, true, true, false, false, false, false] rfl rfl (by kernel_rfl) (fun _ _ _ h => h) (Or.inl ⟨by rfl, ?_⟩) hHeld ?_ ?_
      rotate_left
      · rintro w' hS'
        obtain ⟨s0, s1⟩ := hS'
        go_simp
        with_reducible rfl
      rotate_left
      · simp only [Act.put, List.setIfInBounds_toArray, List.set_cons_zero, List.set_cons_succ, i64_w, i32_w]
        rfl
      refine take_ (i := 4) (N := some 52) (v := ?_) (a' := ?_) #[true, true, true, true, true, false, true, true, true, false, false, false, false] rfl rfl (by kernel_rfl) (fun _ _ _ h => h) (Or.inl ⟨by rfl, ?_⟩) hHeld ?_ ?_
      rotate_left
      · rintro w' hS'
        obtain ⟨s0, s1⟩ := hS'
        go_simp
        with_reducible rfl
      rotate_left
      · simp only [Act.put, List.setIfInBounds_toArray, List.set_cons_zero, List.set_cons_succ, i64_w, i32_w]
        rfl
      refine take_ (i := 9) (N := some 57) (v := ?_) (a' := ?_) #[true, true, true, true, true, false, true, true, true, true, false, false, false] rfl rfl (by kernel_rfl) (fun _ _ _ h => h) (Or.inl ⟨by rfl, ?_⟩) hHeld ?_ ?_
      rotate_left
      · rintro w' hS'
        obtain ⟨s0, s1⟩ := hS'
        go_simp
        with_reducible rfl
      rotate_left
      · simp only [Act.put, List.setIfInBounds_toArray, List.set_cons_zero, List.set_cons_succ, i64_w, i32_w]
        rfl
      refine one_ (i := 5) (N := some 53) #[true, true, true, true, true, true, true, true, true, true, false, false, false] rfl rfl (by kernel_rfl) (by decide) (fun K hK => ?_)
      obtain ⟨t1837, HA1838, H⟩ := bind_some H
      refine goes_ Try.func42 (by kernel_rfl) rfl #[.pointer (some ⟨g1430, 0, none⟩), .int .i64 a1460, .int .i64 a1462] (by rfl) rfl rfl (by (try simp only [List.map_toArray, List.map_cons, List.map_nil]); first | done | rfl) ?_
      refine (ground_Ground_SetReg.calls l1434 a1439 a1440 a1441 a1442 a1443 a1460 a1462 g1430 g1432 A1435 l1434.length n1437 t1837 _ ⟨HS.out.begin⟩ HA1838).mono ?_
      rintro e_ w1839 ⟨rfl, hS⟩
      replace HS : Aside0 (Sep FF w [b7 g1430 g1432 a1440 a1441 a1442 a1443, b6 g1432 A1435 l1434.length n1437 t1837.2.1, r5 A1435 l1434.length n1437 t1837.2.2, b9 g1445 a1446 a1447 a1448 a1449 g1451, b8 g1451 A1454 l1453.length n1456 a1458, r5 A1454 l1453.length n1456 l1453, b11 g1810 a1459 a1460 a1461 a1462] w1839) := ⟨HS.out.call hS⟩
      clear hS
      refine ⟨_, rfl, ?_⟩
      refine hK.out _ _ (⟨blk_cellv (HS.out.at6) 1 rfl, blk_cellv (HS.out.at6) 3 rfl⟩) (fun hHeld => ?_)
      clear hK K
      refine norm_ (a' := ?_) ?_ ?_
      rotate_left
      · show Act.put _ (some 53) _ = _
        simp only [Act.put, List.setIfInBounds_toArray, List.set_cons_zero, List.set_cons_succ, i64_w, i32_w]
        rfl
      refine one_ (i := 10) (N := some 58) #[true, true, true, true, true, true, true, true, true, true, true, false, false] rfl rfl (by kernel_rfl) (by decide) (fun K hK => ?_)
      replace HS : Aside0 (Sep FF w [r5 A1454 l1453.length n1456 l1453, b7 g1430 g1432 a1440 a1441 a1442 a1443, b6 g1432 A1435 l1434.length n1437 t1837.2.1, r5 A1435 l1434.length n1437 t1837.2.2, b9 g1445 a1446 a1447 a1448 a1449 g1451, b8 g1451 A1454 l1453.length n1456 a1458, b11 g1810 a1459 a1460 a1461 a1462] w1839) := ⟨HS.out.front 5 (by simp)⟩
      replace HS : Aside0 (Sep FF w [b8 g1451 A1454 l1453.length n1456 a1458, r5 A1454 l1453.length n1456 l1453, b7 g1430 g1432 a1440 a1441 a1442 a1443, b6 g1432 A1435 l1434.length n1437 t1837.2.1, r5 A1435 l1434.length n1437 t1837.2.2, b9 g1445 a1446 a1447 a1448 a1449 g1451, b11 g1810 a1459 a1460 a1461 a1462] w1839) := ⟨HS.out.front 5 (by simp)⟩
      replace HS : Aside0 (Sep FF w [b9 g1445 a1446 a1447 a1448 a1449 g1451, b8 g1451 A1454 l1453.length n1456 a1458, r5 A1454 l1453.length n1456 l1453, b7 g1430 g1432 a1440 a1441 a1442 a1443, b6 g1432 A1435 l1434.length n1437 t1837.2.1, r5 A1435 l1434.length n1437 t1837.2.2, b11 g1810 a1459 a1460 a1461 a1462] w1839) := ⟨HS.out.front 5 (by simp)⟩
      obtain ⟨t1840, HA1841, H⟩ := bind_some H
      refine goes_ Try.func82 (by kernel_rfl) rfl #[.pointer (some ⟨g1445, 0, none⟩), .int .i64 t1815, .int .i64 a1462] (by rfl) rfl rfl (by (try simp only [List.map_toArray, List.map_cons, List.map_nil]); first | done | rfl) ?_
      refine (quitrentref05_Ground_Set.calls a1446 a1447 a1448 a1449 l1453 a1458 t1815 a1462 g1445 g1451 A1454 l1453.length n1456 t1840 _ ⟨HS.out.begin⟩ HA1841).mono ?_
      rintro e_ w1842 ⟨rfl, hS⟩
      replace HS : Aside0 (Sep FF w [b9 g1445 a1446 a1447 a1448 a1449 g1451, b8 g1451 A1454 l1453.length n1456 t1840.2.1, r5 A1454 l1453.length n1456 t1840.2.2, b7 g1430 g1432 a1440 a1441 a1442 a1443, b6 g1432 A1435 l1434.length n1437 t1837.2.1, r5 A1435 l1434.length n1437 t1837.2.2, b11 g1810 a1459 a1460 a1461 a1462] w1842) := ⟨HS.out.call hS⟩
      clear hS
      refine ⟨_, rfl, ?_⟩
      refine hK.out _ _ (⟨blk_cellv (HS.out.at6) 1 rfl, blk_cellv (HS.out.at6) 3 rfl⟩) (fun hHeld => ?_)
      clear hK K
      refine norm_ (a' := ?_) ?_ ?_
      rotate_left
      · show Act.put _ (some 58) _ = _
        simp only [Act.put, List.setIfInBounds_toArray, List.set_cons_zero, List.set_cons_succ, i64_w, i32_w]
        rfl
      by_cases c1843 : t1837.1 = true
      · have H := if_yes c1843 H
        have c1843b0 : t1837.1 = true := c1843
        have c1843b1 : (!t1837.1) = false := by rw [c1843b0]; rfl
        clear c1843
        by_cases c1844 : t1840.1 = true
        · have H := if_yes c1844 H
          have c1844b0 : t1840.1 = true := c1844
          have c1844b1 : (!t1840.1) = false := by rw [c1844b0]; rfl
          clear c1844
          refine pure_ (i := 11) (N := some 59) (v := ?_) (a' := ?_) #[true, true, true, true, true, true, true, true, true, true, true, true, false] rfl rfl (by kernel_rfl) (fun _ _ _ h => h) (Or.inl ⟨by rfl, ?_⟩) ?_ ?_
          rotate_left
          · intro w'
            go_simp
            with_reducible rfl
          rotate_left
          · simp only [Act.put, List.setIfInBounds_toArray, List.set_cons_zero, List.set_cons_succ, i64_w, i32_w]
            rfl
          refine pure_ (i := 12) (N := some 6) (v := ?_) (a' := ?_) #[true, true, true, true, true, true, true, true, true, true, true, true, true] rfl rfl (by kernel_rfl) (fun _ _ _ h => h) (Or.inl ⟨by rfl, ?_⟩) ?_ ?_
          rotate_left
          · intro w'
            go_simp
            with_reducible rfl
          rotate_left
          · simp only [Act.put, List.setIfInBounds_toArray, List.set_cons_zero, List.set_cons_succ, i64_w, i32_w]
            rfl
          refine done_ (by kernel_rfl) ?_
          replace HS : Aside0 (Sep FF w [b9 g1445 a1446 a1447 a1448 a1449 g1451, b8 g1451 A1454 l1453.length n1456 t1840.2.1, r5 A1454 l1453.length n1456 t1840.2.2, b7 g1430 g1432 a1440 a1441 a1442 a1443, b6 g1432 A1435 l1434.length n1437 t1837.2.1, r5 A1435 l1434.length n1437 t1837.2.2] w1842) := ⟨HS.out.sub (.cons_cons _ (.cons_cons _ (.cons_cons _ (.cons_cons _ (.cons_cons _ (.cons_cons _ (.cons _ .slnil)))))))⟩
          go_wp2_with fail
          go_ret
          rw [← some_eq H]
          exact ⟨(by first | rfl | (simp [IntKind.wrap_u32]; done)), (((((((HS.out).front 2 (by simp)).front 2 (by simp)).front 2 (by simp)).front 5 (by simp)).front 5 (by simp)).front 5 (by simp)).keep (l := [b7 g1430 g1432 a1440 a1441 a1442 a1443, b6 g1432 A1435 l1434.length n1437 t1837.2.1, r5 A1435 l1434.length n1437 t1837.2.2, b9 g1445 a1446 a1447 a1448 a1449 g1451, b8 g1451 A1454 l1453.length n1456 t1840.2.1, r5 A1454 l1453.length n1456 t1840.2.2]) (rest := [])⟩
        · have H := if_no c1844 H
          have c1844b0 : t1840.1 = false := by simpa using c1844
          have c1844b1 : (!t1840.1) = true := by rw [c1844b0]; rfl
          clear c1844
          refine pure_ (i := 11) (N := some 59) (v := ?_) (a' := ?_) #[true, true, true, true, true, true, true, true, true, true, true, true, false] rfl rfl (by kernel_rfl) (fun _ _ _ h => h) (Or.inl ⟨by rfl, ?_⟩) ?_ ?_
          rotate_left
          · intro w'
            go_simp
            with_reducible rfl
          rotate_left
          · simp only [Act.put, List.setIfInBounds_toArray, List.set_cons_zero, List.set_cons_succ, i64_w, i32_w]
            rfl
          refine pure_ (i := 12) (N := some 6) (v := ?_) (a' := ?_) #[true, true, true, true, true, true, true, true, true, true, true, true, true] rfl rfl (by kernel_rfl) (fun _ _ _ h => h) (Or.inl ⟨by rfl, ?_⟩) ?_ ?_
          rotate_left
          · intro w'
            go_simp
            with_reducible rfl
          rotate_left
          · simp only [Act.put, List.setIfInBounds_toArray, List.set_cons_zero, List.set_cons_succ, i64_w, i32_w]
            rfl
          refine done_ (by kernel_rfl) ?_
          replace HS : Aside0 (Sep FF w [b9 g1445 a1446 a1447 a1448 a1449 g1451, b8 g1451 A1454 l1453.length n1456 t1840.2.1, r5 A1454 l1453.length n1456 t1840.2.2, b7 g1430 g1432 a1440 a1441 a1442 a1443, b6 g1432 A1435 l1434.length n1437 t1837.2.1, r5 A1435 l1434.length n1437 t1837.2.2] w1842) := ⟨HS.out.sub (.cons_cons _ (.cons_cons _ (.cons_cons _ (.cons_cons _ (.cons_cons _ (.cons_cons _ (.cons _ .slnil)))))))⟩
          go_wp2_with fail
          go_ret
          rw [← some_eq H]
          exact ⟨(by first | rfl | (simp [IntKind.wrap_u32]; done)), (((((((HS.out).front 2 (by simp)).front 2 (by simp)).front 2 (by simp)).front 5 (by simp)).front 5 (by simp)).front 5 (by simp)).keep (l := [b7 g1430 g1432 a1440 a1441 a1442 a1443, b6 g1432 A1435 l1434.length n1437 t1837.2.1, r5 A1435 l1434.length n1437 t1837.2.2, b9 g1445 a1446 a1447 a1448 a1449 g1451, b8 g1451 A1454 l1453.length n1456 t1840.2.1, r5 A1454 l1453.length n1456 t1840.2.2]) (rest := [])⟩
      · have H := if_no c1843 H
        have c1843b0 : t1837.1 = false := by simpa using c1843
        have c1843b1 : (!t1837.1) = true := by rw [c1843b0]; rfl
        clear c1843
        by_cases c1845 : t1840.1 = true
        · have H := if_yes c1845 H
          have c1845b0 : t1840.1 = true := c1845
          have c1845b1 : (!t1840.1) = false := by rw [c1845b0]; rfl
          clear c1845
          refine pure_ (i := 11) (N := some 59) (v := ?_) (a' := ?_) #[true, true, true, true, true, true, true, true, true, true, true, true, false] rfl rfl (by kernel_rfl) (fun _ _ _ h => h) (Or.inl ⟨by rfl, ?_⟩) ?_ ?_
          rotate_left
          · intro w'
            go_simp
            with_reducible rfl
          rotate_left
          · simp only [Act.put, List.setIfInBounds_toArray, List.set_cons_zero, List.set_cons_succ, i64_w, i32_w]
            rfl
          refine pure_ (i := 12) (N := some 6) (v := ?_) (a' := ?_) #[true, true, true, true, true, true, true, true, true, true, true, true, true] rfl rfl (by kernel_rfl) (fun _ _ _ h => h) (Or.inl ⟨by rfl, ?_⟩) ?_ ?_
          rotate_left
          · intro w'
            go_simp
            with_reducible rfl
          rotate_left
          · simp only [Act.put, List.setIfInBounds_toArray, List.set_cons_zero, List.set_cons_succ, i64_w, i32_w]
            rfl
          refine done_ (by kernel_rfl) ?_
          replace HS : Aside0 (Sep FF w [b9 g1445 a1446 a1447 a1448 a1449 g1451, b8 g1451 A1454 l1453.length n1456 t1840.2.1, r5 A1454 l1453.length n1456 t1840.2.2, b7 g1430 g1432 a1440 a1441 a1442 a1443, b6 g1432 A1435 l1434.length n1437 t1837.2.1, r5 A1435 l1434.length n1437 t1837.2.2] w1842) := ⟨HS.out.sub (.cons_cons _ (.cons_cons _ (.cons_cons _ (.cons_cons _ (.cons_cons _ (.cons_cons _ (.cons _ .slnil)))))))⟩
          go_wp2_with fail
          go_ret
          rw [← some_eq H]
          exact ⟨(by first | rfl | (simp [IntKind.wrap_u32]; done)), (((((((HS.out).front 2 (by simp)).front 2 (by simp)).front 2 (by simp)).front 5 (by simp)).front 5 (by simp)).front 5 (by simp)).keep (l := [b7 g1430 g1432 a1440 a1441 a1442 a1443, b6 g1432 A1435 l1434.length n1437 t1837.2.1, r5 A1435 l1434.length n1437 t1837.2.2, b9 g1445 a1446 a1447 a1448 a1449 g1451, b8 g1451 A1454 l1453.length n1456 t1840.2.1, r5 A1454 l1453.length n1456 t1840.2.2]) (rest := [])⟩
        · have H := if_no c1845 H
          have c1845b0 : t1840.1 = false := by simpa using c1845
          have c1845b1 : (!t1840.1) = true := by rw [c1845b0]; rfl
          clear c1845
          refine pure_ (i := 11) (N := some 59) (v := ?_) (a' := ?_) #[true, true, true, true, true, true, true, true, true, true, true, true, false] rfl rfl (by kernel_rfl) (fun _ _ _ h => h) (Or.inl ⟨by rfl, ?_⟩) ?_ ?_
          rotate_left
          · intro w'
            go_simp
            with_reducible rfl
          rotate_left
          · simp only [Act.put, List.setIfInBounds_toArray, List.set_cons_zero, List.set_cons_succ, i64_w, i32_w]
            rfl
          refine pure_ (i := 12) (N := some 6) (v := ?_) (a' := ?_) #[true, true, true, true, true, true, true, true, true, true, true, true, true] rfl rfl (by kernel_rfl) (fun _ _ _ h => h) (Or.inl ⟨by rfl, ?_⟩) ?_ ?_
          rotate_left
          · intro w'
            go_simp
            with_reducible rfl
          rotate_left
          · simp only [Act.put, List.setIfInBounds_toArray, List.set_cons_zero, List.set_cons_succ, i64_w, i32_w]
            rfl
          refine done_ (by kernel_rfl) ?_
          replace HS : Aside0 (Sep FF w [b9 g1445 a1446 a1447 a1448 a1449 g1451, b8 g1451 A1454 l1453.length n1456 t1840.2.1, r5 A1454 l1453.length n1456 t1840.2.2, b7 g1430 g1432 a1440 a1441 a1442 a1443, b6 g1432 A1435 l1434.length n1437 t1837.2.1, r5 A1435 l1434.length n1437 t1837.2.2] w1842) := ⟨HS.out.sub (.cons_cons _ (.cons_cons _ (.cons_cons _ (.cons_cons _ (.cons_cons _ (.cons_cons _ (.cons _ .slnil)))))))⟩
          go_wp2_with fail
          go_ret
          rw [← some_eq H]
          exact ⟨(by first | rfl | (simp [IntKind.wrap_u32]; done)), (((((((HS.out).front 2 (by simp)).front 2 (by simp)).front 2 (by simp)).front 5 (by simp)).front 5 (by simp)).front 5 (by simp)).keep (l := [b7 g1430 g1432 a1440 a1441 a1442 a1443, b6 g1432 A1435 l1434.length n1437 t1837.2.1, r5 A1435 l1434.length n1437 t1837.2.2, b9 g1445 a1446 a1447 a1448 a1449 g1451, b8 g1451 A1454 l1453.length n1456 t1840.2.1, r5 A1454 l1453.length n1456 t1840.2.2]) (rest := [])⟩
    · have H := if_no c1834 H
      have c1834b0 : (a1459 == 1) = false := beq_eq_false_iff_ne.mpr c1834
      have c1834b1 : (a1459 != 1) = true := bne_iff_ne.mpr c1834
      clear c1834
      by_cases c1846 : a1459 = 2
      · have H := if_yes c1846 H
        have c1846b0 : (a1459 == 2) = true := beq_iff_eq.mpr c1846
        have c1846b1 : (a1459 != 2) = false := bne_eq_false_iff_eq.mpr c1846
        clear c1846
        have hc1824 : w1823.cell? ⟨g1810, 0, none⟩ = some (.int .u8 a1459) := blk_cellv (HS.out.at6) 0 rfl
        go_wp2_with fail
        clear hc1824
        refine start_ (n := 13) (S := (fun w' => w'.cell? ⟨g1810, 1, none⟩ = some (.int .i64 a1460) ∧ w'.cell? ⟨g1445, 4, none⟩ = some (.pointer (some ⟨g1451, 0, none⟩)))) (ds := []) #[false, false, false, false, false, false, false, false, false, false, false, false, false] (by kernel_rfl) rfl rfl (⟨blk_cellv ((HS.out.drew).at6) 1 rfl, blk_cellv ((HS.out.drew).at3) 4 rfl⟩) (fun hHeld => ?_)
        have HS_ := Aside0.mk HS.out.drew
        clear HS
        generalize World.drew _ = w1848 at HS_ hHeld ⊢
        have HS := HS_
        clear HS_
        refine pure_ (i := 0) (N := some 62) (v := ?_) (a' := ?_) #[true, false, false, false, false, false, false, false, false, false, false, false, false] rfl rfl (by kernel_rfl) (fun _ _ _ h => h) (Or.inl ⟨by rfl, ?_⟩) ?_ ?_
        rotate_left
        · intro w'
          go_simp
          with_reducible rfl
        rotate_left
        · simp only [Act.put, List.setIfInBounds_toArray, List.set_cons_zero, List.set_cons_succ, i64_w, i32_w]
          rfl
        refine pure_ (i := 1) (N := some 63) (v := ?_) (a' := ?_) #[true, true, false, false, false, false, false, false, false, false, false, false, false] rfl rfl (by kernel_rfl) (fun _ _ _ h => h) (Or.inl ⟨by rfl, ?_⟩) ?_ ?_
        rotate_left
        · intro w'
          go_simp
          with_reducible rfl
        rotate_left
        · simp only [Act.put, List.setIfInBounds_toArray, List.set_cons_zero, List.set_cons_succ, i64_w, i32_w]
          rfl
        refine pure_ (i := 4) (N := some 66) (v := ?_) (a' := ?_) #[true, true, false, false, true, false, false, false, false, false, false, false, false] rfl rfl (by kernel_rfl) (fun _ _ _ h => h) (Or.inl ⟨by rfl, ?_⟩) ?_ ?_
        rotate_left
        · intro w'
          go_simp
          with_reducible rfl
        rotate_left
        · simp only [Act.put, List.setIfInBounds_toArray, List.set_cons_zero, List.set_cons_succ, i64_w, i32_w]
          rfl
        refine pure_ (i := 5) (N := some 67) (v := ?_) (a' := ?_) #[true, true, false, false, true, true, false, false, false, false, false, false, false] rfl rfl (by kernel_rfl) (fun _ _ _ h => h) (Or.inl ⟨by rfl, ?_⟩) ?_ ?_
        rotate_left
        · intro w'
          go_simp
          with_reducible rfl
        rotate_left
        · simp only [Act.put, List.setIfInBounds_toArray, List.set_cons_zero, List.set_cons_succ, i64_w, i32_w]
          rfl
        refine pure_ (i := 6) (N := some 68) (v := ?_) (a' := ?_) #[true, true, false, false, true, true, true, false, false, false, false, false, false] rfl rfl (by kernel_rfl) (fun _ _ _ h => h) (Or.inl ⟨by rfl, ?_⟩) ?_ ?_
        rotate_left
        · intro w'
          go_simp
          with_reducible rfl
        rotate_left
        · simp only [Act.put, List.setIfInBounds_toArray, List.set_cons_zero, List.set_cons_succ, i64_w, i32_w]
          rfl
        refine pure_ (i := 8) (N := some 70) (v := ?_) (a' := ?_) #[true, true, false, false, true, true, true, false, true, false, false, false, false] rfl rfl (by kernel_rfl) (fun _ _ _ h => h) (Or.inl ⟨by rfl, ?_⟩) ?_ ?_
        rotate_left
        · intro w'
          go_simp
          with_reducible rfl
        rotate_left
        · simp only [Act.put, List.setIfInBounds_toArray, List.set_cons_zero, List.set_cons_succ, i64_w, i32_w]
          rfl
        refine take_ (i := 2) (N := some 64) (v := ?_) (a' := ?_) #[true, true, true, false, true, true, true, false, true, false, false, false, false] rfl rfl (by kernel_rfl) (fun _ _ _ h => h) (Or.inl ⟨by rfl, ?_⟩) hHeld ?_ ?_
        rotate_left
        · rintro w' hS'
          obtain ⟨s0, s1⟩ := hS'
          go_simp
          with_reducible rfl
        rotate_left
        · simp only [Act.put, List.setIfInBounds_toArray, List.set_cons_zero, List.set_cons_succ, i64_w, i32_w]
          rfl
        refine take_ (i := 7) (N := some 69) (v := ?_) (a' := ?_) #[true, true, true, false, true, true, true, true, true, false, false, false, false] rfl rfl (by kernel_rfl) (fun _ _ _ h => h) (Or.inl ⟨by rfl, ?_⟩) hHeld ?_ ?_
        rotate_left
        · rintro w' hS'
          obtain ⟨s0, s1⟩ := hS'
          go_simp
          with_reducible rfl
        rotate_left
        · simp only [Act.put, List.setIfInBounds_toArray, List.set_cons_zero, List.set_cons_succ, i64_w, i32_w]
          rfl
        refine one_ (i := 3) (N := some 65) #[true, true, true, true, true, true, true, true, true, false, false, false, false] rfl rfl (by kernel_rfl) (by decide) (fun K hK => ?_)
        obtain ⟨t1906, HA1907, H⟩ := bind_some H
        refine goes_ Try.func43 (by kernel_rfl) rfl #[.pointer (some ⟨g1430, 0, none⟩), .int .i64 a1460] (by rfl) rfl rfl (by (try simp only [List.map_toArray, List.map_cons, List.map_nil]); first | done | rfl) ?_
        refine (ground_Ground_Root.calls l1434 a1439 a1440 a1441 a1442 a1443 a1460 g1430 g1432 A1435 l1434.length n1437 t1906 _ ⟨HS.out.begin⟩ HA1907).mono ?_
        rintro e_ w1908 ⟨rfl, hS⟩
        replace HS : Aside0 (Sep FF w [b7 g1430 g1432 a1440 a1441 a1442 a1443, b6 g1432 A1435 l1434.length n1437 t1906.2, r5 A1435 l1434.length n1437 l1434, b9 g1445 a1446 a1447 a1448 a1449 g1451, b8 g1451 A1454 l1453.length n1456 a1458, r5 A1454 l1453.length n1456 l1453, b11 g1810 a1459 a1460 a1461 a1462] w1908) := ⟨HS.out.call hS⟩
        clear hS
        refine ⟨_, rfl, ?_⟩
        refine hK.out _ _ (⟨blk_cellv (HS.out.at6) 1 rfl, blk_cellv (HS.out.at3) 4 rfl⟩) (fun hHeld => ?_)
        clear hK K
        refine norm_ (a' := ?_) ?_ ?_
        rotate_left
        · show Act.put _ (some 65) _ = _
          simp only [Act.put, List.setIfInBounds_toArray, List.set_cons_zero, List.set_cons_succ, i64_w, i32_w]
          rfl
        refine one_ (i := 9) (N := some 71) #[true, true, true, true, true, true, true, true, true, true, false, false, false] rfl rfl (by kernel_rfl) (by decide) (fun K hK => ?_)
        replace HS : Aside0 (Sep FF w [r5 A1454 l1453.length n1456 l1453, b7 g1430 g1432 a1440 a1441 a1442 a1443, b6 g1432 A1435 l1434.length n1437 t1906.2, r5 A1435 l1434.length n1437 l1434, b9 g1445 a1446 a1447 a1448 a1449 g1451, b8 g1451 A1454 l1453.length n1456 a1458, b11 g1810 a1459 a1460 a1461 a1462] w1908) := ⟨HS.out.front 5 (by simp)⟩
        replace HS : Aside0 (Sep FF w [b8 g1451 A1454 l1453.length n1456 a1458, r5 A1454 l1453.length n1456 l1453, b7 g1430 g1432 a1440 a1441 a1442 a1443, b6 g1432 A1435 l1434.length n1437 t1906.2, r5 A1435 l1434.length n1437 l1434, b9 g1445 a1446 a1447 a1448 a1449 g1451, b11 g1810 a1459 a1460 a1461 a1462] w1908) := ⟨HS.out.front 5 (by simp)⟩
        obtain ⟨t1909, HA1910, H⟩ := bind_some H
        refine goes_ Try.func73 (by kernel_rfl) rfl #[.pointer (some ⟨g1451, 0, none⟩), .int .i64 t1818] (by rfl) rfl rfl (by (try simp only [List.map_toArray, List.map_cons, List.map_nil]); first | done | rfl) ?_
        refine (quitrentref04_Store_Get.calls l1453 a1458 t1818 g1451 A1454 l1453.length n1456 t1909 _ ⟨HS.out.begin⟩ HA1910).mono ?_
        rintro e_ w1911 ⟨rfl, hS⟩
        replace HS : Aside0 (Sep FF w [b8 g1451 A1454 l1453.length n1456 t1909.2, r5 A1454 l1453.length n1456 l1453, b7 g1430 g1432 a1440 a1441 a1442 a1443, b6 g1432 A1435 l1434.length n1437 t1906.2, r5 A1435 l1434.length n1437 l1434, b9 g1445 a1446 a1447 a1448 a1449 g1451, b11 g1810 a1459 a1460 a1461 a1462] w1911) := ⟨HS.out.call hS⟩
        clear hS
        refine ⟨_, rfl, ?_⟩
        refine hK.out _ _ (⟨blk_cellv (HS.out.at6) 1 rfl, blk_cellv (HS.out.at5) 4 rfl⟩) (fun hHeld => ?_)
        clear hK K
        refine norm_ (a' := ?_) ?_ ?_
        rotate_left
        · show Act.put _ (some 71) _ = _
          simp only [Act.put, List.setIfInBounds_toArray, List.set_cons_zero, List.set_cons_succ, i64_w, i32_w]
          rfl
        refine pure_ (i := 10) (N := some 72) (v := ?_) (a' := ?_) #[true, true, true, true, true, true, true, true, true, true, true, false, false] rfl rfl (by kernel_rfl) (fun _ _ _ h => h) (Or.inl ⟨by rfl, ?_⟩) ?_ ?_
        rotate_left
        · intro w'
          go_simp
          with_reducible rfl
        rotate_left
        · simp only [Act.put, List.setIfInBounds_toArray, List.set_cons_zero, List.set_cons_succ, i64_w, i32_w]
          rfl
        refine pure_ (i := 11) (N := some 73) (v := ?_) (a' := ?_) #[true, true, true, true, true, true, true, true, true, true, true, true, false] rfl rfl (by kernel_rfl) (fun _ _ _ h => h) (Or.inl ⟨by rfl, ?_⟩) ?_ ?_
        rotate_left
        · intro w'
          go_simp
          with_reducible rfl
        rotate_left
        · simp only [Act.put, List.setIfInBounds_toArray, List.set_cons_zero, List.set_cons_succ, i64_w, i32_w]
          rfl
        refine pure_ (i := 12) (N := some 6) (v := ?_) (a' := ?_) #[true, true, true, true, true, true, true, true, true, true, true, true, true] rfl rfl (by kernel_rfl) (fun _ _ _ h => h) (Or.inl ⟨by rfl, ?_⟩) ?_ ?_
        rotate_left
        · intro w'
          go_simp
          with_reducible rfl
        rotate_left
        · simp only [Act.put, List.setIfInBounds_toArray, List.set_cons_zero, List.set_cons_succ, i64_w, i32_w]
          rfl
        refine done_ (by kernel_rfl) ?_
        replace HS : Aside0 (Sep FF w [b8 g1451 A1454 l1453.length n1456 t1909.2, r5 A1454 l1453.length n1456 l1453, b7 g1430 g1432 a1440 a1441 a1442 a1443, b6 g1432 A1435 l1434.length n1437 t1906.2, r5 A1435 l1434.length n1437 l1434, b9 g1445 a1446 a1447 a1448 a1449 g1451] w1911) := ⟨HS.out.sub (.cons_cons _ (.cons_cons _ (.cons_cons _ (.cons_cons _ (.cons_cons _ (.cons_cons _ (.cons _ .slnil)))))))⟩
        go_wp2_with fail
        go_ret
        rw [← some_eq H]
        exact ⟨(by first | rfl | (simp [IntKind.wrap_u32]; done)), (((((((HS.out).front 1 (by simp)).front 1 (by simp)).front 5 (by simp)).front 5 (by simp)).front 5 (by simp)).front 5 (by simp)).keep (l := [b7 g1430 g1432 a1440 a1441 a1442 a1443, b6 g1432 A1435 l1434.length n1437 t1906.2, r5 A1435 l1434.length n1437 l1434, b9 g1445 a1446 a1447 a1448 a1449 g1451, b8 g1451 A1454 l1453.length n1456 t1909.2, r5 A1454 l1453.length n1456 l1453]) (rest := [])⟩
      · have H := if_no c1846 H
        have c1846b0 : (a1459 == 2) = false := beq_eq_false_iff_ne.mpr c1846
        have c1846b1 : (a1459 != 2) = true := bne_iff_ne.mpr c1846
        clear c1846
        by_cases c1912 : a1459 = 3
        · have H := if_yes c1912 H
          have c1912b0 : (a1459 == 3) = true := beq_iff_eq.mpr c1912
          have c1912b1 : (a1459 != 3) = false := bne_eq_false_iff_eq.mpr c1912
          clear c1912
          have hc1824 : w1823.cell? ⟨g1810, 0, none⟩ = some (.int .u8 a1459) := blk_cellv (HS.out.at6) 0 rfl
          go_wp2_with fail
          clear hc1824
          refine start_ (n := 13) (S := (fun w' => w'.cell? ⟨g1810, 1, none⟩ = some (.int .i64 a1460) ∧ w'.cell? ⟨g1810, 3, none⟩ = some (.int .i64 a1462))) (ds := []) #[false, false, false, false, false, false, false, false, false, false, false, false, false] (by kernel_rfl) rfl rfl (⟨blk_cellv ((HS.out.drew).at6) 1 rfl, blk_cellv ((HS.out.drew).at6) 3 rfl⟩) (fun hHeld => ?_)
          have HS_ := Aside0.mk HS.out.drew
          clear HS
          generalize World.drew _ = w1914 at HS_ hHeld ⊢
          have HS := HS_
          clear HS_
          refine pure_ (i := 0) (N := some 76) (v := ?_) (a' := ?_) #[true, false, false, false, false, false, false, false, false, false, false, false, false] rfl rfl (by kernel_rfl) (fun _ _ _ h => h) (Or.inl ⟨by rfl, ?_⟩) ?_ ?_
          rotate_left
          · intro w'
            go_simp
            with_reducible rfl
          rotate_left
          · simp only [Act.put, List.setIfInBounds_toArray, List.set_cons_zero, List.set_cons_succ, i64_w, i32_w]
            rfl
          refine pure_ (i := 1) (N := some 77) (v := ?_) (a' := ?_) #[true, true, false, false, false, false, false, false, false, false, false, false, false] rfl rfl (by kernel_rfl) (fun _ _ _ h => h) (Or.inl ⟨by rfl, ?_⟩) ?_ ?_
          rotate_left
          · intro w'
            go_simp
            with_reducible rfl
          rotate_left
          · simp only [Act.put, List.setIfInBounds_toArray, List.set_cons_zero, List.set_cons_succ, i64_w, i32_w]
            rfl
          refine pure_ (i := 3) (N := some 79) (v := ?_) (a' := ?_) #[true, true, false, true, false, false, false, false, false, false, false, false, false] rfl rfl (by kernel_rfl) (fun _ _ _ h => h) (Or.inl ⟨by rfl, ?_⟩) ?_ ?_
          rotate_left
          · intro w'
            go_simp
            with_reducible rfl
          rotate_left
          · simp only [Act.put, List.setIfInBounds_toArray, List.set_cons_zero, List.set_cons_succ, i64_w, i32_w]
            rfl
          refine pure_ (i := 6) (N := some 82) (v := ?_) (a' := ?_) #[true, true, false, true, false, false, true, false, false, false, false, false, false] rfl rfl (by kernel_rfl) (fun _ _ _ h => h) (Or.inl ⟨by rfl, ?_⟩) ?_ ?_
          rotate_left
          · intro w'
            go_simp
            with_reducible rfl
          rotate_left
          · simp only [Act.put, List.setIfInBounds_toArray, List.set_cons_zero, List.set_cons_succ, i64_w, i32_w]
            rfl
          refine pure_ (i := 7) (N := some 83) (v := ?_) (a' := ?_) #[true, true, false, true, false, false, true, true, false, false, false, false, false] rfl rfl (by kernel_rfl) (fun _ _ _ h => h) (Or.inl ⟨by rfl, ?_⟩) ?_ ?_
          rotate_left
          · intro w'
            go_simp
            with_reducible rfl
          rotate_left
          · simp only [Act.put, List.setIfInBounds_toArray, List.set_cons_zero, List.set_cons_succ, i64_w, i32_w]
            rfl
          refine pure_ (i := 8) (N := some 84) (v := ?_) (a' := ?_) #[true, true, false, true, false, false, true, true, true, false, false, false, false] rfl rfl (by kernel_rfl) (fun _ _ _ h => h) (Or.inl ⟨by rfl, ?_⟩) ?_ ?_
          rotate_left
          · intro w'
            go_simp
            with_reducible rfl
          rotate_left
          · simp only [Act.put, List.setIfInBounds_toArray, List.set_cons_zero, List.set_cons_succ, i64_w, i32_w]
            rfl
          refine take_ (i := 2) (N := some 78) (v := ?_) (a' := ?_) #[true, true, true, true, false, false, true, true, true, false, false, false, false] rfl rfl (by kernel_rfl) (fun _ _ _ h => h) (Or.inl ⟨by rfl, ?_⟩) hHeld ?_ ?_
          rotate_left
          · rintro w' hS'
            obtain ⟨s0, s1⟩ := hS'
            go_simp
            with_reducible rfl
          rotate_left
          · simp only [Act.put, List.setIfInBounds_toArray, List.set_cons_zero, List.set_cons_succ, i64_w, i32_w]
            rfl
          refine take_ (i := 4) (N := some 80) (v := ?_) (a' := ?_) #[true, true, true, true, true, false, true, true, true, false, false, false, false] rfl rfl (by kernel_rfl) (fun _ _ _ h => h) (Or.inl ⟨by rfl, ?_⟩) hHeld ?_ ?_
          rotate_left
          · rintro w' hS'
            obtain ⟨s0, s1⟩ := hS'
            go_simp
            with_reducible rfl
          rotate_left
          · simp only [Act.put, List.setIfInBounds_toArray, List.set_cons_zero, List.set_cons_succ, i64_w, i32_w]
            rfl
          refine take_ (i := 9) (N := some 85) (v := ?_) (a' := ?_) #[true, true, true, true, true, false, true, true, true, true, false, false, false] rfl rfl (by kernel_rfl) (fun _ _ _ h => h) (Or.inl ⟨by rfl, ?_⟩) hHeld ?_ ?_
          rotate_left
          · rintro w' hS'
            obtain ⟨s0, s1⟩ := hS'
            go_simp
            with_reducible rfl
          rotate_left
          · simp only [Act.put, List.setIfInBounds_toArray, List.set_cons_zero, List.set_cons_succ, i64_w, i32_w]
            rfl
          refine one_ (i := 5) (N := some 81) #[true, true, true, true, true, true, true, true, true, true, false, false, false] rfl rfl (by kernel_rfl) (by decide) (fun K hK => ?_)
          obtain ⟨t1944, HA1945, H⟩ := bind_some H
          refine goes_ Try.func44 (by kernel_rfl) rfl #[.pointer (some ⟨g1430, 0, none⟩), .int .i64 a1460, .int .i64 a1462] (by rfl) rfl rfl (by (try simp only [List.map_toArray, List.map_cons, List.map_nil]); first | done | rfl) ?_
          refine (ground_Ground_SetRoot.calls l1434 a1439 a1440 a1441 a1442 a1443 a1460 a1462 g1430 g1432 A1435 l1434.length n1437 t1944 _ ⟨HS.out.begin⟩ HA1945).mono ?_
          rintro e_ w1946 ⟨rfl, hS⟩
          replace HS : Aside0 (Sep FF w [b7 g1430 g1432 a1440 a1441 a1442 a1443, b6 g1432 A1435 l1434.length n1437 t1944.2.1, r5 A1435 l1434.length n1437 t1944.2.2, b9 g1445 a1446 a1447 a1448 a1449 g1451, b8 g1451 A1454 l1453.length n1456 a1458, r5 A1454 l1453.length n1456 l1453, b11 g1810 a1459 a1460 a1461 a1462] w1946) := ⟨HS.out.call hS⟩
          clear hS
          refine ⟨_, rfl, ?_⟩
          refine hK.out _ _ (⟨blk_cellv (HS.out.at6) 1 rfl, blk_cellv (HS.out.at6) 3 rfl⟩) (fun hHeld => ?_)
          clear hK K
          refine norm_ (a' := ?_) ?_ ?_
          rotate_left
          · show Act.put _ (some 81) _ = _
            simp only [Act.put, List.setIfInBounds_toArray, List.set_cons_zero, List.set_cons_succ, i64_w, i32_w]
            rfl
          refine one_ (i := 10) (N := some 86) #[true, true, true, true, true, true, true, true, true, true, true, false, false] rfl rfl (by kernel_rfl) (by decide) (fun K hK => ?_)
          replace HS : Aside0 (Sep FF w [r5 A1454 l1453.length n1456 l1453, b7 g1430 g1432 a1440 a1441 a1442 a1443, b6 g1432 A1435 l1434.length n1437 t1944.2.1, r5 A1435 l1434.length n1437 t1944.2.2, b9 g1445 a1446 a1447 a1448 a1449 g1451, b8 g1451 A1454 l1453.length n1456 a1458, b11 g1810 a1459 a1460 a1461 a1462] w1946) := ⟨HS.out.front 5 (by simp)⟩
          replace HS : Aside0 (Sep FF w [b8 g1451 A1454 l1453.length n1456 a1458, r5 A1454 l1453.length n1456 l1453, b7 g1430 g1432 a1440 a1441 a1442 a1443, b6 g1432 A1435 l1434.length n1437 t1944.2.1, r5 A1435 l1434.length n1437 t1944.2.2, b9 g1445 a1446 a1447 a1448 a1449 g1451, b11 g1810 a1459 a1460 a1461 a1462] w1946) := ⟨HS.out.front 5 (by simp)⟩
          replace HS : Aside0 (Sep FF w [b9 g1445 a1446 a1447 a1448 a1449 g1451, b8 g1451 A1454 l1453.length n1456 a1458, r5 A1454 l1453.length n1456 l1453, b7 g1430 g1432 a1440 a1441 a1442 a1443, b6 g1432 A1435 l1434.length n1437 t1944.2.1, r5 A1435 l1434.length n1437 t1944.2.2, b11 g1810 a1459 a1460 a1461 a1462] w1946) := ⟨HS.out.front 5 (by simp)⟩
          obtain ⟨t1947, HA1948, H⟩ := bind_some H
          refine goes_ Try.func82 (by kernel_rfl) rfl #[.pointer (some ⟨g1445, 0, none⟩), .int .i64 t1818, .int .i64 a1462] (by rfl) rfl rfl (by (try simp only [List.map_toArray, List.map_cons, List.map_nil]); first | done | rfl) ?_
          refine (quitrentref05_Ground_Set.calls a1446 a1447 a1448 a1449 l1453 a1458 t1818 a1462 g1445 g1451 A1454 l1453.length n1456 t1947 _ ⟨HS.out.begin⟩ HA1948).mono ?_
          rintro e_ w1949 ⟨rfl, hS⟩
          replace HS : Aside0 (Sep FF w [b9 g1445 a1446 a1447 a1448 a1449 g1451, b8 g1451 A1454 l1453.length n1456 t1947.2.1, r5 A1454 l1453.length n1456 t1947.2.2, b7 g1430 g1432 a1440 a1441 a1442 a1443, b6 g1432 A1435 l1434.length n1437 t1944.2.1, r5 A1435 l1434.length n1437 t1944.2.2, b11 g1810 a1459 a1460 a1461 a1462] w1949) := ⟨HS.out.call hS⟩
          clear hS
          refine ⟨_, rfl, ?_⟩
          refine hK.out _ _ (⟨blk_cellv (HS.out.at6) 1 rfl, blk_cellv (HS.out.at6) 3 rfl⟩) (fun hHeld => ?_)
          clear hK K
          refine norm_ (a' := ?_) ?_ ?_
          rotate_left
          · show Act.put _ (some 86) _ = _
            simp only [Act.put, List.setIfInBounds_toArray, List.set_cons_zero, List.set_cons_succ, i64_w, i32_w]
            rfl
          by_cases c1950 : t1944.1 = true
          · have H := if_yes c1950 H
            have c1950b0 : t1944.1 = true := c1950
            have c1950b1 : (!t1944.1) = false := by rw [c1950b0]; rfl
            clear c1950
            by_cases c1951 : t1947.1 = true
            · have H := if_yes c1951 H
              have c1951b0 : t1947.1 = true := c1951
              have c1951b1 : (!t1947.1) = false := by rw [c1951b0]; rfl
              clear c1951
              refine pure_ (i := 11) (N := some 87) (v := ?_) (a' := ?_) #[true, true, true, true, true, true, true, true, true, true, true, true, false] rfl rfl (by kernel_rfl) (fun _ _ _ h => h) (Or.inl ⟨by rfl, ?_⟩) ?_ ?_
              rotate_left
              · intro w'
                go_simp
                with_reducible rfl
              rotate_left
              · simp only [Act.put, List.setIfInBounds_toArray, List.set_cons_zero, List.set_cons_succ, i64_w, i32_w]
                rfl
              refine pure_ (i := 12) (N := some 6) (v := ?_) (a' := ?_) #[true, true, true, true, true, true, true, true, true, true, true, true, true] rfl rfl (by kernel_rfl) (fun _ _ _ h => h) (Or.inl ⟨by rfl, ?_⟩) ?_ ?_
              rotate_left
              · intro w'
                go_simp
                with_reducible rfl
              rotate_left
              · simp only [Act.put, List.setIfInBounds_toArray, List.set_cons_zero, List.set_cons_succ, i64_w, i32_w]
                rfl
              refine done_ (by kernel_rfl) ?_
              replace HS : Aside0 (Sep FF w [b9 g1445 a1446 a1447 a1448 a1449 g1451, b8 g1451 A1454 l1453.length n1456 t1947.2.1, r5 A1454 l1453.length n1456 t1947.2.2, b7 g1430 g1432 a1440 a1441 a1442 a1443, b6 g1432 A1435 l1434.length n1437 t1944.2.1, r5 A1435 l1434.length n1437 t1944.2.2] w1949) := ⟨HS.out.sub (.cons_cons _ (.cons_cons _ (.cons_cons _ (.cons_cons _ (.cons_cons _ (.cons_cons _ (.cons _ .slnil)))))))⟩
              go_wp2_with fail
              go_ret
              rw [← some_eq H]
              exact ⟨(by first | rfl | (simp [IntKind.wrap_u32]; done)), (((((((HS.out).front 2 (by simp)).front 2 (by simp)).front 2 (by simp)).front 5 (by simp)).front 5 (by simp)).front 5 (by simp)).keep (l := [b7 g1430 g1432 a1440 a1441 a1442 a1443, b6 g1432 A1435 l1434.length n1437 t1944.2.1, r5 A1435 l1434.length n1437 t1944.2.2, b9 g1445 a1446 a1447 a1448 a1449 g1451, b8 g1451 A1454 l1453.length n1456 t1947.2.1, r5 A1454 l1453.length n1456 t1947.2.2]) (rest := [])⟩
            · have H := if_no c1951 H
              have c1951b0 : t1947.1 = false := by simpa using c1951
              have c1951b1 : (!t1947.1) = true := by rw [c1951b0]; rfl
              clear c1951
              refine pure_ (i := 11) (N := some 87) (v := ?_) (a' := ?_) #[true, true, true, true, true, true, true, true, true, true, true, true, false] rfl rfl (by kernel_rfl) (fun _ _ _ h => h) (Or.inl ⟨by rfl, ?_⟩) ?_ ?_
              rotate_left
              · intro w'
                go_simp
                with_reducible rfl
              rotate_left
              · simp only [Act.put, List.setIfInBounds_toArray, List.set_cons_zero, List.set_cons_succ, i64_w, i32_w]
                rfl
              refine pure_ (i := 12) (N := some 6) (v := ?_) (a' := ?_) #[true, true, true, true, true, true, true, true, true, true, true, true, true] rfl rfl (by kernel_rfl) (fun _ _ _ h => h) (Or.inl ⟨by rfl, ?_⟩) ?_ ?_
              rotate_left
              · intro w'
                go_simp
                with_reducible rfl
              rotate_left
              · simp only [Act.put, List.setIfInBounds_toArray, List.set_cons_zero, List.set_cons_succ, i64_w, i32_w]
                rfl
              refine done_ (by kernel_rfl) ?_
              replace HS : Aside0 (Sep FF w [b9 g1445 a1446 a1447 a1448 a1449 g1451, b8 g1451 A1454 l1453.length n1456 t1947.2.1, r5 A1454 l1453.length n1456 t1947.2.2, b7 g1430 g1432 a1440 a1441 a1442 a1443, b6 g1432 A1435 l1434.length n1437 t1944.2.1, r5 A1435 l1434.length n1437 t1944.2.2] w1949) := ⟨HS.out.sub (.cons_cons _ (.cons_cons _ (.cons_cons _ (.cons_cons _ (.cons_cons _ (.cons_cons _ (.cons _ .slnil)))))))⟩
              go_wp2_with fail
              go_ret
              rw [← some_eq H]
              exact ⟨(by first | rfl | (simp [IntKind.wrap_u32]; done)), (((((((HS.out).front 2 (by simp)).front 2 (by simp)).front 2 (by simp)).front 5 (by simp)).front 5 (by simp)).front 5 (by simp)).keep (l := [b7 g1430 g1432 a1440 a1441 a1442 a1443, b6 g1432 A1435 l1434.length n1437 t1944.2.1, r5 A1435 l1434.length n1437 t1944.2.2, b9 g1445 a1446 a1447 a1448 a1449 g1451, b8 g1451 A1454 l1453.length n1456 t1947.2.1, r5 A1454 l1453.length n1456 t1947.2.2]) (rest := [])⟩
          · have H := if_no c1950 H
            have c1950b0 : t1944.1 = false := by simpa using c1950
            have c1950b1 : (!t1944.1) = true := by rw [c1950b0]; rfl
            clear c1950
            by_cases c1952 : t1947.1 = true
            · have H := if_yes c1952 H
              have c1952b0 : t1947.1 = true := c1952
              have c1952b1 : (!t1947.1) = false := by rw [c1952b0]; rfl
              clear c1952
              refine pure_ (i := 11) (N := some 87) (v := ?_) (a' := ?_) #[true, true, true, true, true, true, true, true, true, true, true, true, false] rfl rfl (by kernel_rfl) (fun _ _ _ h => h) (Or.inl ⟨by rfl, ?_⟩) ?_ ?_
              rotate_left
              · intro w'
                go_simp
                with_reducible rfl
              rotate_left
              · simp only [Act.put, List.setIfInBounds_toArray, List.set_cons_zero, List.set_cons_succ, i64_w, i32_w]
                rfl
              refine pure_ (i := 12) (N := some 6) (v := ?_) (a' := ?_) #[true, true, true, true, true, true, true, true, true, true, true, true, true] rfl rfl (by kernel_rfl) (fun _ _ _ h => h) (Or.inl ⟨by rfl, ?_⟩) ?_ ?_
              rotate_left
              · intro w'
                go_simp
                with_reducible rfl
              rotate_left
              · simp only [Act.put, List.setIfInBounds_toArray, List.set_cons_zero, List.set_cons_succ, i64_w, i32_w]
                rfl
              refine done_ (by kernel_rfl) ?_
              replace HS : Aside0 (Sep FF w [b9 g1445 a1446 a1447 a1448 a1449 g1451, b8 g1451 A1454 l1453.length n1456 t1947.2.1, r5 A1454 l1453.length n1456 t1947.2.2, b7 g1430 g1432 a1440 a1441 a1442 a1443, b6 g1432 A1435 l1434.length n1437 t1944.2.1, r5 A1435 l1434.length n1437 t1944.2.2] w1949) := ⟨HS.out.sub (.cons_cons _ (.cons_cons _ (.cons_cons _ (.cons_cons _ (.cons_cons _ (.cons_cons _ (.cons _ .slnil)))))))⟩
              go_wp2_with fail
              go_ret
              rw [← some_eq H]
              exact ⟨(by first | rfl | (simp [IntKind.wrap_u32]; done)), (((((((HS.out).front 2 (by simp)).front 2 (by simp)).front 2 (by simp)).front 5 (by simp)).front 5 (by simp)).front 5 (by simp)).keep (l := [b7 g1430 g1432 a1440 a1441 a1442 a1443, b6 g1432 A1435 l1434.length n1437 t1944.2.1, r5 A1435 l1434.length n1437 t1944.2.2, b9 g1445 a1446 a1447 a1448 a1449 g1451, b8 g1451 A1454 l1453.length n1456 t1947.2.1, r5 A1454 l1453.length n1456 t1947.2.2]) (rest := [])⟩
            · have H := if_no c1952 H
              have c1952b0 : t1947.1 = false := by simpa using c1952
              have c1952b1 : (!t1947.1) = true := by rw [c1952b0]; rfl
              clear c1952
              refine pure_ (i := 11) (N := some 87) (v := ?_) (a' := ?_) #[true, true, true, true, true, true, true, true, true, true, true, true, false] rfl rfl (by kernel_rfl) (fun _ _ _ h => h) (Or.inl ⟨by rfl, ?_⟩) ?_ ?_
              rotate_left
              · intro w'
                go_simp
                with_reducible rfl
              rotate_left
              · simp only [Act.put, List.setIfInBounds_toArray, List.set_cons_zero, List.set_cons_succ, i64_w, i32_w]
                rfl
              refine pure_ (i := 12) (N := some 6) (v := ?_) (a' := ?_) #[true, true, true, true, true, true, true, true, true, true, true, true, true] rfl rfl (by kernel_rfl) (fun _ _ _ h => h) (Or.inl ⟨by rfl, ?_⟩) ?_ ?_
              rotate_left
              · intro w'
                go_simp
                with_reducible rfl
              rotate_left
              · simp only [Act.put, List.setIfInBounds_toArray, List.set_cons_zero, List.set_cons_succ, i64_w, i32_w]
                rfl
              refine done_ (by kernel_rfl) ?_
              replace HS : Aside0 (Sep FF w [b9 g1445 a1446 a1447 a1448 a1449 g1451, b8 g1451 A1454 l1453.length n1456 t1947.2.1, r5 A1454 l1453.length n1456 t1947.2.2, b7 g1430 g1432 a1440 a1441 a1442 a1443, b6 g1432 A1435 l1434.length n1437 t1944.2.1, r5 A1435 l1434.length n1437 t1944.2.2] w1949) := ⟨HS.out.sub (.cons_cons _ (.cons_cons _ (.cons_cons _ (.cons_cons _ (.cons_cons _ (.cons_cons _ (.cons _ .slnil)))))))⟩
              go_wp2_with fail
              go_ret
              rw [← some_eq H]
              exact ⟨(by first | rfl | (simp [IntKind.wrap_u32]; done)), (((((((HS.out).front 2 (by simp)).front 2 (by simp)).front 2 (by simp)).front 5 (by simp)).front 5 (by simp)).front 5 (by simp)).keep (l := [b7 g1430 g1432 a1440 a1441 a1442 a1443, b6 g1432 A1435 l1434.length n1437 t1944.2.1, r5 A1435 l1434.length n1437 t1944.2.2, b9 g1445 a1446 a1447 a1448 a1449 g1451, b8 g1451 A1454 l1453.length n1456 t1947.2.1, r5 A1454 l1453.length n1456 t1947.2.2]) (rest := [])⟩
        · have H := if_no c1912 H
          have c1912b0 : (a1459 == 3) = false := beq_eq_false_iff_ne.mpr c1912
          have c1912b1 : (a1459 != 3) = true := bne_iff_ne.mpr c1912
          clear c1912
          by_cases c1953 : a1459 = 4
          · have H := if_yes c1953 H
            have c1953b0 : (a1459 == 4) = true := beq_iff_eq.mpr c1953
            have c1953b1 : (a1459 != 4) = false := bne_eq_false_iff_eq.mpr c1953
            clear c1953
            have hc1824 : w1823.cell? ⟨g1810, 0, none⟩ = some (.int .u8 a1459) := blk_cellv (HS.out.at6) 0 rfl
            go_wp2_with fail
            clear hc1824
            refine start_ (n := 14) (S := (fun w' => w'.cell? ⟨g1810, 1, none⟩ = some (.int .i64 a1460) ∧ w'.cell? ⟨g1810, 2, none⟩ = some (.int .i64 a1461) ∧ w'.cell? ⟨g1445, 4, none⟩ = some (.pointer (some ⟨g1451, 0, none⟩)))) (ds := []) #[false, false, false, false, false, false, false, false, false, false, false, false, false, false] (by kernel_rfl) rfl rfl (⟨blk_cellv ((HS.out.drew).at6) 1 rfl, blk_cellv ((HS.out.drew).at6) 2 rfl, blk_cellv ((HS.out.drew).at3) 4 rfl⟩) (fun hHeld => ?_)
            have HS_ := Aside0.mk HS.out.drew
            clear HS
            generalize World.drew _ = w1955 at HS_ hHeld ⊢
            have HS := HS_
            clear HS_
            refine pure_ (i := 0) (N := some 90) (v := ?_) (a' := ?_) #[true, false, false, false, false, false, false, false, false, false, false, false, false, false] rfl rfl (by kernel_rfl) (fun _ _ _ h => h) (Or.inl ⟨by rfl, ?_⟩) ?_ ?_
            rotate_left
            · intro w'
              go_simp
              with_reducible rfl
            rotate_left
            · simp only [Act.put, List.setIfInBounds_toArray, List.set_cons_zero, List.set_cons_succ, i64_w, i32_w]
              rfl
            refine pure_ (i := 1) (N := some 91) (v := ?_) (a' := ?_) #[true, true, false, false, false, false, false, false, false, false, false, false, false, false] rfl rfl (by kernel_rfl) (fun _ _ _ h => h) (Or.inl ⟨by rfl, ?_⟩) ?_ ?_
            rotate_left
            · intro w'
              go_simp
              with_reducible rfl
            rotate_left
            · simp only [Act.put, List.setIfInBounds_toArray, List.set_cons_zero, List.set_cons_succ, i64_w, i32_w]
              rfl
            refine pure_ (i := 3) (N := some 93) (v := ?_) (a' := ?_) #[true, true, false, true, false, false, false, false, false, false, false, false, false, false] rfl rfl (by kernel_rfl) (fun _ _ _ h => h) (Or.inl ⟨by rfl, ?_⟩) ?_ ?_
            rotate_left
            · intro w'
              go_simp
              with_reducible rfl
            rotate_left
            · simp only [Act.put, List.setIfInBounds_toArray, List.set_cons_zero, List.set_cons_succ, i64_w, i32_w]
              rfl
            refine pure_ (i := 6) (N := some 96) (v := ?_) (a' := ?_) #[true, true, false, true, false, false, true, false, false, false, false, false, false, false] rfl rfl (by kernel_rfl) (fun _ _ _ h => h) (Or.inl ⟨by rfl, ?_⟩) ?_ ?_
            rotate_left
            · intro w'
              go_simp
              with_reducible rfl
            rotate_left
            · simp only [Act.put, List.setIfInBounds_toArray, List.set_cons_zero, List.set_cons_succ, i64_w, i32_w]
              rfl
            refine pure_ (i := 7) (N := some 97) (v := ?_) (a' := ?_) #[true, true, false, true, false, false, true, true, false, false, false, false, false, false] rfl rfl (by kernel_rfl) (fun _ _ _ h => h) (Or.inl ⟨by rfl, ?_⟩) ?_ ?_
            rotate_left
            · intro w'
              go_simp
              with_reducible rfl
            rotate_left
            · simp only [Act.put, List.setIfInBounds_toArray, List.set_cons_zero, List.set_cons_succ, i64_w, i32_w]
              rfl
            refine pure_ (i := 8) (N := some 98) (v := ?_) (a' := ?_) #[true, true, false, true, false, false, true, true, true, false, false, false, false, false] rfl rfl (by kernel_rfl) (fun _ _ _ h => h) (Or.inl ⟨by rfl, ?_⟩) ?_ ?_
            rotate_left
            · intro w'
              go_simp
              with_reducible rfl
            rotate_left
            · simp only [Act.put, List.setIfInBounds_toArray, List.set_cons_zero, List.set_cons_succ, i64_w, i32_w]
              rfl
            refine pure_ (i := 10) (N := some 100) (v := ?_) (a' := ?_) #[true, true, false, true, false, false, true, true, true, false, true, false, false, false] rfl rfl (by kernel_rfl) (fun _ _ _ h => h) (Or.inl ⟨by rfl, ?_⟩) ?_ ?_
            rotate_left
            · intro w'
              go_simp
              with_reducible rfl
            rotate_left
            · simp only [Act.put, List.setIfInBounds_toArray, List.set_cons_zero, List.set_cons_succ, i64_w, i32_w]
              rfl
            refine take_ (i := 2) (N := some 92) (v := ?_) (a' := ?_) #[true, true, true, true, false, false, true, true, true, false, true, false, false, false] rfl rfl (by kernel_rfl) (fun _ _ _ h => h) (Or.inl ⟨by rfl, ?_⟩) hHeld ?_ ?_
            rotate_left
            · rintro w' hS'
              obtain ⟨s0, s1, s2⟩ := hS'
              go_simp
              with_reducible rfl
            rotate_left
            · simp only [Act.put, List.setIfInBounds_toArray, List.set_cons_zero, List.set_cons_succ, i64_w, i32_w]
              rfl
            refine take_ (i := 4) (N := some 94) (v := ?_) (a' := ?_) #[true, true, true, true, true, false, true, true, true, false, true, false, false, false] rfl rfl (by kernel_rfl) (fun _ _ _ h => h) (Or.inl ⟨by rfl, ?_⟩) hHeld ?_ ?_
            rotate_left
            · rintro w' hS'
              obtain ⟨s0, s1, s2⟩ := hS'
              go_simp
              with_reducible rfl
            rotate_left
            · simp only [Act.put, List.setIfInBounds_toArray, List.set_cons_zero, List.set_cons_succ, i64_w, i32_w]
              rfl
            refine take_ (i := 9) (N := some 99) (v := ?_) (a' := ?_) #[true, true, true, true, true, false, true, true, true, true, true, false, false, false] rfl rfl (by kernel_rfl) (fun _ _ _ h => h) (Or.inl ⟨by rfl, ?_⟩) hHeld ?_ ?_
            rotate_left
            · rintro w' hS'
              obtain ⟨s0, s1, s2⟩ := hS'
              go_simp
              with_reducible rfl
            rotate_left
            · simp only [Act.put, List.setIfInBounds_toArray, List.set_cons_zero, List.set_cons_succ, i64_w, i32_w]
              rfl
            refine one_ (i := 5) (N := some 95) #[true, true, true, true, true, true, true, true, true, true, true, false, false, false] rfl rfl (by kernel_rfl) (by decide) (fun K hK => ?_)
            obtain ⟨t1991, HA1992, H⟩ := bind_some H
            refine goes_ Try.func45 (by kernel_rfl) rfl #[.pointer (some ⟨g1430, 0, none⟩), .int .i64 a1460, .int .i64 a1461] (by rfl) rfl rfl (by (try simp only [List.map_toArray, List.map_cons, List.map_nil]); first | done | rfl) ?_
            refine (ground_Ground_Word.calls l1434 a1439 a1440 a1441 a1442 a1443 a1460 a1461 g1430 g1432 A1435 l1434.length n1437 t1991 _ ⟨HS.out.begin⟩ HA1992).mono ?_
            rintro e_ w1993 ⟨rfl, hS⟩
            replace HS : Aside0 (Sep FF w [b7 g1430 g1432 a1440 a1441 a1442 a1443, b6 g1432 A1435 l1434.length n1437 t1991.2, r5 A1435 l1434.length n1437 l1434, b9 g1445 a1446 a1447 a1448 a1449 g1451, b8 g1451 A1454 l1453.length n1456 a1458, r5 A1454 l1453.length n1456 l1453, b11 g1810 a1459 a1460 a1461 a1462] w1993) := ⟨HS.out.call hS⟩
            clear hS
            refine ⟨_, rfl, ?_⟩
            refine hK.out _ _ (⟨blk_cellv (HS.out.at6) 1 rfl, blk_cellv (HS.out.at6) 2 rfl, blk_cellv (HS.out.at3) 4 rfl⟩) (fun hHeld => ?_)
            clear hK K
            refine norm_ (a' := ?_) ?_ ?_
            rotate_left
            · show Act.put _ (some 95) _ = _
              simp only [Act.put, List.setIfInBounds_toArray, List.set_cons_zero, List.set_cons_succ, i64_w, i32_w]
              rfl
            refine one_ (i := 11) (N := some 101) #[true, true, true, true, true, true, true, true, true, true, true, true, false, false] rfl rfl (by kernel_rfl) (by decide) (fun K hK => ?_)
            replace HS : Aside0 (Sep FF w [r5 A1454 l1453.length n1456 l1453, b7 g1430 g1432 a1440 a1441 a1442 a1443, b6 g1432 A1435 l1434.length n1437 t1991.2, r5 A1435 l1434.length n1437 l1434, b9 g1445 a1446 a1447 a1448 a1449 g1451, b8 g1451 A1454 l1453.length n1456 a1458, b11 g1810 a1459 a1460 a1461 a1462] w1993) := ⟨HS.out.front 5 (by simp)⟩
            replace HS : Aside0 (Sep FF w [b8 g1451 A1454 l1453.length n1456 a1458, r5 A1454 l1453.length n1456 l1453, b7 g1430 g1432 a1440 a1441 a1442 a1443, b6 g1432 A1435 l1434.length n1437 t1991.2, r5 A1435 l1434.length n1437 l1434, b9 g1445 a1446 a1447 a1448 a1449 g1451, b11 g1810 a1459 a1460 a1461 a1462] w1993) := ⟨HS.out.front 5 (by simp)⟩
            obtain ⟨t1994, HA1995, H⟩ := bind_some H
            refine goes_ Try.func73 (by kernel_rfl) rfl #[.pointer (some ⟨g1451, 0, none⟩), .int .i64 t1821] (by rfl) rfl rfl (by (try simp only [List.map_toArray, List.map_cons, List.map_nil]); first | done | rfl) ?_
            refine (quitrentref04_Store_Get.calls l1453 a1458 t1821 g1451 A1454 l1453.length n1456 t1994 _ ⟨HS.out.begin⟩ HA1995).mono ?_
            rintro e_ w1996 ⟨rfl, hS⟩
            replace HS : Aside0 (Sep FF w [b8 g1451 A1454 l1453.length n1456 t1994.2, r5 A1454 l1453.length n1456 l1453, b7 g1430 g1432 a1440 a1441 a1442 a1443, b6 g1432 A1435 l1434.length n1437 t1991.2, r5 A1435 l1434.length n1437 l1434, b9 g1445 a1446 a1447 a1448 a1449 g1451, b11 g1810 a1459 a1460 a1461 a1462] w1996) := ⟨HS.out.call hS⟩
            clear hS
            refine ⟨_, rfl, ?_⟩
            refine hK.out _ _ (⟨blk_cellv (HS.out.at6) 1 rfl, blk_cellv (HS.out.at6) 2 rfl, blk_cellv (HS.out.at5) 4 rfl⟩) (fun hHeld => ?_)
            clear hK K
            refine norm_ (a' := ?_) ?_ ?_
            rotate_left
            · show Act.put _ (some 101) _ = _
              simp only [Act.put, List.setIfInBounds_toArray, List.set_cons_zero, List.set_cons_succ, i64_w, i32_w]
              rfl
            refine pure_ (i := 12) (N := some 102) (v := ?_) (a' := ?_) #[true, true, true, true, true, true, true, true, true, true, true, true, true, false] rfl rfl (by kernel_rfl) (fun _ _ _ h => h) (Or.inl ⟨by rfl, ?_⟩) ?_ ?_
            rotate_left
            · intro w'
              go_simp
              with_reducible rfl
            rotate_left
            · simp only [Act.put, List.setIfInBounds_toArray, List.set_cons_zero, List.set_cons_succ, i64_w, i32_w]
              rfl
            refine pure_ (i := 13) (N := some 6) (v := ?_) (a' := ?_) #[true, true, true, true, true, true, true, true, true, true, true, true, true, true] rfl rfl (by kernel_rfl) (fun _ _ _ h => h) (Or.inl ⟨by rfl, ?_⟩) ?_ ?_
            rotate_left
            · intro w'
              go_simp
              with_reducible rfl
            rotate_left
            · simp only [Act.put, List.setIfInBounds_toArray, List.set_cons_zero, List.set_cons_succ, i64_w, i32_w]
              rfl
            refine done_ (by kernel_rfl) ?_
            replace HS : Aside0 (Sep FF w [b8 g1451 A1454 l1453.length n1456 t1994.2, r5 A1454 l1453.length n1456 l1453, b7 g1430 g1432 a1440 a1441 a1442 a1443, b6 g1432 A1435 l1434.length n1437 t1991.2, r5 A1435 l1434.length n1437 l1434, b9 g1445 a1446 a1447 a1448 a1449 g1451] w1996) := ⟨HS.out.sub (.cons_cons _ (.cons_cons _ (.cons_cons _ (.cons_cons _ (.cons_cons _ (.cons_cons _ (.cons _ .slnil)))))))⟩
            go_wp2_with fail
            go_ret
            rw [← some_eq H]
            exact ⟨(by first | rfl | (simp [IntKind.wrap_u32]; done)), (((((((HS.out).front 1 (by simp)).front 1 (by simp)).front 5 (by simp)).front 5 (by simp)).front 5 (by simp)).front 5 (by simp)).keep (l := [b7 g1430 g1432 a1440 a1441 a1442 a1443, b6 g1432 A1435 l1434.length n1437 t1991.2, r5 A1435 l1434.length n1437 l1434, b9 g1445 a1446 a1447 a1448 a1449 g1451, b8 g1451 A1454 l1453.length n1456 t1994.2, r5 A1454 l1453.length n1456 l1453]) (rest := [])⟩
          · have H := if_no c1953 H
            have c1953b0 : (a1459 == 4) = false := beq_eq_false_iff_ne.mpr c1953
            have c1953b1 : (a1459 != 4) = true := bne_iff_ne.mpr c1953
            clear c1953
            by_cases c1997 : a1459 = 5
            · have H := if_yes c1997 H
              have c1997b0 : (a1459 == 5) = true := beq_iff_eq.mpr c1997
              have c1997b1 : (a1459 != 5) = false := bne_eq_false_iff_eq.mpr c1997
              clear c1997
              have hc1824 : w1823.cell? ⟨g1810, 0, none⟩ = some (.int .u8 a1459) := blk_cellv (HS.out.at6) 0 rfl
              have hc1998 : w1823.cell? ⟨g1810, 3, none⟩ = some (.int .i64 a1462) := blk_cellv (HS.out.at6) 3 rfl
              have hc1999 : w1823.cell? ⟨g1810, 1, none⟩ = some (.int .i64 a1460) := blk_cellv (HS.out.at6) 1 rfl
              have hc2000 : w1823.cell? ⟨g1810, 2, none⟩ = some (.int .i64 a1461) := blk_cellv (HS.out.at6) 2 rfl
              go_wp2_with fail
              clear hc1824 hc1998 hc1999 hc2000
              obtain ⟨t2001, HA2002, H⟩ := bind_some H
              refine (ground_Ground_SetWord.calls l1434 a1439 a1440 a1441 a1442 a1443 a1460 a1461 ((IntKind.u64.wrap (a1462)) % 4294967296) g1430 g1432 A1435 l1434.length n1437 t2001 _ ⟨HS.out.begin⟩ HA2002).mono ?_
              rintro e_ w2003 ⟨rfl, hS⟩
              replace HS : Aside0 (Sep FF w [b7 g1430 g1432 a1440 a1441 a1442 a1443, b6 g1432 A1435 l1434.length n1437 t2001.2.1, r5 A1435 l1434.length n1437 t2001.2.2, b9 g1445 a1446 a1447 a1448 a1449 g1451, b8 g1451 A1454 l1453.length n1456 a1458, r5 A1454 l1453.length n1456 l1453, b11 g1810 a1459 a1460 a1461 a1462] w2003) := ⟨HS.out.call hS⟩
              clear hS
              go_wp2_with fail
              replace HS : Aside0 (Sep FF w [r5 A1454 l1453.length n1456 l1453, b7 g1430 g1432 a1440 a1441 a1442 a1443, b6 g1432 A1435 l1434.length n1437 t2001.2.1, r5 A1435 l1434.length n1437 t2001.2.2, b9 g1445 a1446 a1447 a1448 a1449 g1451, b8 g1451 A1454 l1453.length n1456 a1458, b11 g1810 a1459 a1460 a1461 a1462] w2003) := ⟨HS.out.front 5 (by simp)⟩
              replace HS : Aside0 (Sep FF w [b8 g1451 A1454 l1453.length n1456 a1458, r5 A1454 l1453.length n1456 l1453, b7 g1430 g1432 a1440 a1441 a1442 a1443, b6 g1432 A1435 l1434.length n1437 t2001.2.1, r5 A1435 l1434.length n1437 t2001.2.2, b9 g1445 a1446 a1447 a1448 a1449 g1451, b11 g1810 a1459 a1460 a1461 a1462] w2003) := ⟨HS.out.front 5 (by simp)⟩
              replace HS : Aside0 (Sep FF w [b9 g1445 a1446 a1447 a1448 a1449 g1451, b8 g1451 A1454 l1453.length n1456 a1458, r5 A1454 l1453.length n1456 l1453, b7 g1430 g1432 a1440 a1441 a1442 a1443, b6 g1432 A1435 l1434.length n1437 t2001.2.1, r5 A1435 l1434.length n1437 t2001.2.2, b11 g1810 a1459 a1460 a1461 a1462] w2003) := ⟨HS.out.front 5 (by simp)⟩
              obtain ⟨t2004, HA2005, H⟩ := bind_some H
              refine (quitrentref05_Ground_Set.calls a1446 a1447 a1448 a1449 l1453 a1458 t1821 ((IntKind.u64.wrap (a1462)) % 4294967296) g1445 g1451 A1454 l1453.length n1456 t2004 _ ⟨HS.out.begin⟩ HA2005).mono ?_
              rintro e_ w2006 ⟨rfl, hS⟩
              replace HS : Aside0 (Sep FF w [b9 g1445 a1446 a1447 a1448 a1449 g1451, b8 g1451 A1454 l1453.length n1456 t2004.2.1, r5 A1454 l1453.length n1456 t2004.2.2, b7 g1430 g1432 a1440 a1441 a1442 a1443, b6 g1432 A1435 l1434.length n1437 t2001.2.1, r5 A1435 l1434.length n1437 t2001.2.2, b11 g1810 a1459 a1460 a1461 a1462] w2006) := ⟨HS.out.call hS⟩
              clear hS
              by_cases c2007 : t2001.1 = true
              · have H := if_yes c2007 H
                have c2007b0 : t2001.1 = true := c2007
                have c2007b1 : (!t2001.1) = false := by rw [c2007b0]; rfl
                clear c2007
                by_cases c2008 : t2004.1 = true
                · have H := if_yes c2008 H
                  have c2008b0 : t2004.1 = true := c2008
                  have c2008b1 : (!t2004.1) = false := by rw [c2008b0]; rfl
                  clear c2008
                  replace HS : Aside0 (Sep FF w [b9 g1445 a1446 a1447 a1448 a1449 g1451, b8 g1451 A1454 l1453.length n1456 t2004.2.1, r5 A1454 l1453.length n1456 t2004.2.2, b7 g1430 g1432 a1440 a1441 a1442 a1443, b6 g1432 A1435 l1434.length n1437 t2001.2.1, r5 A1435 l1434.length n1437 t2001.2.2] w2006) := ⟨HS.out.sub (.cons_cons _ (.cons_cons _ (.cons_cons _ (.cons_cons _ (.cons_cons _ (.cons_cons _ (.cons _ .slnil)))))))⟩
                  go_wp2_with fail
                  go_ret
                  rw [← some_eq H]
                  exact ⟨(by first | rfl | (simp [IntKind.wrap_u32]; done)), (((((((HS.out).front 2 (by simp)).front 2 (by simp)).front 2 (by simp)).front 5 (by simp)).front 5 (by simp)).front 5 (by simp)).keep (l := [b7 g1430 g1432 a1440 a1441 a1442 a1443, b6 g1432 A1435 l1434.length n1437 t2001.2.1, r5 A1435 l1434.length n1437 t2001.2.2, b9 g1445 a1446 a1447 a1448 a1449 g1451, b8 g1451 A1454 l1453.length n1456 t2004.2.1, r5 A1454 l1453.length n1456 t2004.2.2]) (rest := [])⟩
                · have H := if_no c2008 H
                  have c2008b0 : t2004.1 = false := by simpa using c2008
                  have c2008b1 : (!t2004.1) = true := by rw [c2008b0]; rfl
                  clear c2008
                  replace HS : Aside0 (Sep FF w [b9 g1445 a1446 a1447 a1448 a1449 g1451, b8 g1451 A1454 l1453.length n1456 t2004.2.1, r5 A1454 l1453.length n1456 t2004.2.2, b7 g1430 g1432 a1440 a1441 a1442 a1443, b6 g1432 A1435 l1434.length n1437 t2001.2.1, r5 A1435 l1434.length n1437 t2001.2.2] w2006) := ⟨HS.out.sub (.cons_cons _ (.cons_cons _ (.cons_cons _ (.cons_cons _ (.cons_cons _ (.cons_cons _ (.cons _ .slnil)))))))⟩
                  go_wp2_with fail
                  go_ret
                  rw [← some_eq H]
                  exact ⟨(by first | rfl | (simp [IntKind.wrap_u32]; done)), (((((((HS.out).front 2 (by simp)).front 2 (by simp)).front 2 (by simp)).front 5 (by simp)).front 5 (by simp)).front 5 (by simp)).keep (l := [b7 g1430 g1432 a1440 a1441 a1442 a1443, b6 g1432 A1435 l1434.length n1437 t2001.2.1, r5 A1435 l1434.length n1437 t2001.2.2, b9 g1445 a1446 a1447 a1448 a1449 g1451, b8 g1451 A1454 l1453.length n1456 t2004.2.1, r5 A1454 l1453.length n1456 t2004.2.2]) (rest := [])⟩
              · have H := if_no c2007 H
                have c2007b0 : t2001.1 = false := by simpa using c2007
                have c2007b1 : (!t2001.1) = true := by rw [c2007b0]; rfl
                clear c2007
                by_cases c2009 : t2004.1 = true
                · have H := if_yes c2009 H
                  have c2009b0 : t2004.1 = true := c2009
                  have c2009b1 : (!t2004.1) = false := by rw [c2009b0]; rfl
                  clear c2009
                  replace HS : Aside0 (Sep FF w [b9 g1445 a1446 a1447 a1448 a1449 g1451, b8 g1451 A1454 l1453.length n1456 t2004.2.1, r5 A1454 l1453.length n1456 t2004.2.2, b7 g1430 g1432 a1440 a1441 a1442 a1443, b6 g1432 A1435 l1434.length n1437 t2001.2.1, r5 A1435 l1434.length n1437 t2001.2.2] w2006) := ⟨HS.out.sub (.cons_cons _ (.cons_cons _ (.cons_cons _ (.cons_cons _ (.cons_cons _ (.cons_cons _ (.cons _ .slnil)))))))⟩
                  go_wp2_with fail
                  go_ret
                  rw [← some_eq H]
                  exact ⟨(by first | rfl | (simp [IntKind.wrap_u32]; done)), (((((((HS.out).front 2 (by simp)).front 2 (by simp)).front 2 (by simp)).front 5 (by simp)).front 5 (by simp)).front 5 (by simp)).keep (l := [b7 g1430 g1432 a1440 a1441 a1442 a1443, b6 g1432 A1435 l1434.length n1437 t2001.2.1, r5 A1435 l1434.length n1437 t2001.2.2, b9 g1445 a1446 a1447 a1448 a1449 g1451, b8 g1451 A1454 l1453.length n1456 t2004.2.1, r5 A1454 l1453.length n1456 t2004.2.2]) (rest := [])⟩
                · have H := if_no c2009 H
                  have c2009b0 : t2004.1 = false := by simpa using c2009
                  have c2009b1 : (!t2004.1) = true := by rw [c2009b0]; rfl
                  clear c2009
                  replace HS : Aside0 (Sep FF w [b9 g1445 a1446 a1447 a1448 a1449 g1451, b8 g1451 A1454 l1453.length n1456 t2004.2.1, r5 A1454 l1453.length n1456 t2004.2.2, b7 g1430 g1432 a1440 a1441 a1442 a1443, b6 g1432 A1435 l1434.length n1437 t2001.2.1, r5 A1435 l1434.length n1437 t2001.2.2] w2006) := ⟨HS.out.sub (.cons_cons _ (.cons_cons _ (.cons_cons _ (.cons_cons _ (.cons_cons _ (.cons_cons _ (.cons _ .slnil)))))))⟩
                  go_wp2_with fail
                  go_ret
                  rw [← some_eq H]
                  exact ⟨(by first | rfl | (simp [IntKind.wrap_u32]; done)), (((((((HS.out).front 2 (by simp)).front 2 (by simp)).front 2 (by simp)).front 5 (by simp)).front 5 (by simp)).front 5 (by simp)).keep (l := [b7 g1430 g1432 a1440 a1441 a1442 a1443, b6 g1432 A1435 l1434.length n1437 t2001.2.1, r5 A1435 l1434.length n1437 t2001.2.2, b9 g1445 a1446 a1447 a1448 a1449 g1451, b8 g1451 A1454 l1453.length n1456 t2004.2.1, r5 A1454 l1453.length n1456 t2004.2.2]) (rest := [])⟩
            · have H := if_no c1997 H
              have c1997b0 : (a1459 == 5) = false := beq_eq_false_iff_ne.mpr c1997
              have c1997b1 : (a1459 != 5) = true := bne_iff_ne.mpr c1997
              clear c1997
              by_cases c2010 : a1459 = 6
              · have H := if_yes c2010 H
                have c2010b0 : (a1459 == 6) = true := beq_iff_eq.mpr c2010
                have c2010b1 : (a1459 != 6) = false := bne_eq_false_iff_eq.mpr c2010
                clear c2010
                have hc1824 : w1823.cell? ⟨g1810, 0, none⟩ = some (.int .u8 a1459) := blk_cellv (HS.out.at6) 0 rfl
                go_wp2_with fail
                clear hc1824
                refine start_ (n := 10) (S := (fun w' => w'.cell? ⟨g1810, 1, none⟩ = some (.int .i64 a1460))) (ds := []) #[false, false, false, false, false, false, false, false, false, false] (by kernel_rfl) rfl rfl (blk_cellv ((HS.out.drew).at6) 1 rfl) (fun hHeld => ?_)
                have HS_ := Aside0.mk HS.out.drew
                clear HS
                generalize World.drew _ = w2012 at HS_ hHeld ⊢
                have HS := HS_
                clear HS_
                refine pure_ (i := 0) (N := some 124) (v := ?_) (a' := ?_) #[true, false, false, false, false, false, false, false, false, false] rfl rfl (by kernel_rfl) (fun _ _ _ h => h) (Or.inl ⟨by rfl, ?_⟩) ?_ ?_
                rotate_left
                · intro w'
                  go_simp
                  with_reducible rfl
                rotate_left
                · simp only [Act.put, List.setIfInBounds_toArray, List.set_cons_zero, List.set_cons_succ, i64_w, i32_w]
                  rfl
                refine pure_ (i := 1) (N := some 125) (v := ?_) (a' := ?_) #[true, true, false, false, false, false, false, false, false, false] rfl rfl (by kernel_rfl) (fun _ _ _ h => h) (Or.inl ⟨by rfl, ?_⟩) ?_ ?_
                rotate_left
                · intro w'
                  go_simp
                  with_reducible rfl
                rotate_left
                · simp only [Act.put, List.setIfInBounds_toArray, List.set_cons_zero, List.set_cons_succ, i64_w, i32_w]
                  rfl
                refine pure_ (i := 4) (N := some 128) (v := ?_) (a' := ?_) #[true, true, false, false, true, false, false, false, false, false] rfl rfl (by kernel_rfl) (fun _ _ _ h => h) (Or.inl ⟨by rfl, ?_⟩) ?_ ?_
                rotate_left
                · intro w'
                  go_simp
                  with_reducible rfl
                rotate_left
                · simp only [Act.put, List.setIfInBounds_toArray, List.set_cons_zero, List.set_cons_succ, i64_w, i32_w]
                  rfl
                refine pure_ (i := 5) (N := some 129) (v := ?_) (a' := ?_) #[true, true, false, false, true, true, false, false, false, false] rfl rfl (by kernel_rfl) (fun _ _ _ h => h) (Or.inl ⟨by rfl, ?_⟩) ?_ ?_
                rotate_left
                · intro w'
                  go_simp
                  with_reducible rfl
                rotate_left
                · simp only [Act.put, List.setIfInBounds_toArray, List.set_cons_zero, List.set_cons_succ, i64_w, i32_w]
                  rfl
                refine take_ (i := 2) (N := some 126) (v := ?_) (a' := ?_) #[true, true, true, false, true, true, false, false, false, false] rfl rfl (by kernel_rfl) (fun _ _ _ h => h) (Or.inl ⟨by rfl, ?_⟩) hHeld ?_ ?_
                rotate_left
                · rintro w' hS'
                  have s0 := hS'
                  go_simp
                  with_reducible rfl
                rotate_left
                · simp only [Act.put, List.setIfInBounds_toArray, List.set_cons_zero, List.set_cons_succ, i64_w, i32_w]
                  rfl
                refine take_ (i := 6) (N := some 130) (v := ?_) (a' := ?_) #[true, true, true, false, true, true, true, false, false, false] rfl rfl (by kernel_rfl) (fun _ _ _ h => h) (Or.inl ⟨by rfl, ?_⟩) hHeld ?_ ?_
                rotate_left
                · rintro w' hS'
                  have s0 := hS'
                  go_simp
                  with_reducible rfl
                rotate_left
                · simp only [Act.put, List.setIfInBounds_toArray, List.set_cons_zero, List.set_cons_succ, i64_w, i32_w]
                  rfl
                refine one_ (i := 3) (N := some 127) #[true, true, true, true, true, true, true, false, false, false] rfl rfl (by kernel_rfl) (by decide) (fun K hK => ?_)
                obtain ⟨t2086, HA2087, H⟩ := bind_some H
                refine goes_ Try.func47 (by kernel_rfl) rfl #[.pointer (some ⟨g1430, 0, none⟩), .int .i64 a1460] (by rfl) rfl rfl (by (try simp only [List.map_toArray, List.map_cons, List.map_nil]); first | done | rfl) ?_
                refine (ground_Ground_Wipe.calls _ l1434 a1439 a1440 a1441 a1442 a1443 a1460 g1430 g1432 A1435 l1434.length n1437 t2086 _ ⟨HS.out.begin⟩ HA2087).mono ?_
                rintro e_ w2088 ⟨rfl, hS⟩
                replace HS : Aside0 (Sep FF w [b7 g1430 g1432 a1440 a1441 a1442 a1443, b6 g1432 A1435 l1434.length n1437 t2086.2.1, r5 A1435 l1434.length n1437 t2086.2.2, b9 g1445 a1446 a1447 a1448 a1449 g1451, b8 g1451 A1454 l1453.length n1456 a1458, r5 A1454 l1453.length n1456 l1453, b11 g1810 a1459 a1460 a1461 a1462] w2088) := ⟨HS.out.call hS⟩
                clear hS
                refine ⟨_, rfl, ?_⟩
                refine hK.out _ _ (blk_cellv (HS.out.at6) 1 rfl) (fun hHeld => ?_)
                clear hK K
                refine norm_ (a' := ?_) ?_ ?_
                rotate_left
                · show Act.put _ (some 127) _ = _
                  simp only [Act.put, List.setIfInBounds_toArray, List.set_cons_zero, List.set_cons_succ, i64_w, i32_w]
                  rfl
                refine one_ (i := 7) (N := some 131) #[true, true, true, true, true, true, true, true, false, false] rfl rfl (by kernel_rfl) (by decide) (fun K hK => ?_)
                replace HS : Aside0 (Sep FF w [r5 A1454 l1453.length n1456 l1453, b7 g1430 g1432 a1440 a1441 a1442 a1443, b6 g1432 A1435 l1434.length n1437 t2086.2.1, r5 A1435 l1434.length n1437 t2086.2.2, b9 g1445 a1446 a1447 a1448 a1449 g1451, b8 g1451 A1454 l1453.length n1456 a1458, b11 g1810 a1459 a1460 a1461 a1462] w2088) := ⟨HS.out.front 5 (by simp)⟩
                replace HS : Aside0 (Sep FF w [b8 g1451 A1454 l1453.length n1456 a1458, r5 A1454 l1453.length n1456 l1453, b7 g1430 g1432 a1440 a1441 a1442 a1443, b6 g1432 A1435 l1434.length n1437 t2086.2.1, r5 A1435 l1434.length n1437 t2086.2.2, b9 g1445 a1446 a1447 a1448 a1449 g1451, b11 g1810 a1459 a1460 a1461 a1462] w2088) := ⟨HS.out.front 5 (by simp)⟩
                replace HS : Aside0 (Sep FF w [b9 g1445 a1446 a1447 a1448 a1449 g1451, b8 g1451 A1454 l1453.length n1456 a1458, r5 A1454 l1453.length n1456 l1453, b7 g1430 g1432 a1440 a1441 a1442 a1443, b6 g1432 A1435 l1434.length n1437 t2086.2.1, r5 A1435 l1434.length n1437 t2086.2.2, b11 g1810 a1459 a1460 a1461 a1462] w2088) := ⟨HS.out.front 5 (by simp)⟩
                obtain ⟨t2185, HA2186, H⟩ := bind_some H
                refine goes_ Try.func83 (by kernel_rfl) rfl #[.pointer (some ⟨g1445, 0, none⟩), .int .i64 a1460] (by rfl) rfl rfl (by (try simp only [List.map_toArray, List.map_cons, List.map_nil]); first | done | rfl) ?_
                refine (quitrentref05_Ground_Wipe.calls _ a1446 a1447 a1448 a1449 l1453 a1458 a1460 g1445 g1451 A1454 l1453.length n1456 t2185 _ ⟨HS.out.begin⟩ HA2186).mono ?_
                rintro e_ w2187 ⟨rfl, hS⟩
                replace HS : Aside0 (Sep FF w [b9 g1445 a1446 a1447 a1448 a1449 g1451, b8 g1451 A1454 l1453.length n1456 t2185.2.1, r5 A1454 l1453.length n1456 t2185.2.2, b7 g1430 g1432 a1440 a1441 a1442 a1443, b6 g1432 A1435 l1434.length n1437 t2086.2.1, r5 A1435 l1434.length n1437 t2086.2.2, b11 g1810 a1459 a1460 a1461 a1462] w2187) := ⟨HS.out.call hS⟩
                clear hS
                refine ⟨_, rfl, ?_⟩
                refine hK.out _ _ (blk_cellv (HS.out.at6) 1 rfl) (fun hHeld => ?_)
                clear hK K
                refine norm_ (a' := ?_) ?_ ?_
                rotate_left
                · show Act.put _ (some 131) _ = _
                  simp only [Act.put, List.setIfInBounds_toArray, List.set_cons_zero, List.set_cons_succ, i64_w, i32_w]
                  rfl
                refine pure_ (i := 8) (N := some 132) (v := ?_) (a' := ?_) #[true, true, true, true, true, true, true, true, true, false] rfl rfl (by kernel_rfl) (fun _ _ _ h => h) (Or.inl ⟨by rfl, ?_⟩) ?_ ?_
                rotate_left
                · intro w'
                  go_simp
                  with_reducible rfl
                rotate_left
                · simp only [Act.put, List.setIfInBounds_toArray, List.set_cons_zero, List.set_cons_succ, i64_w, i32_w]
                  rfl
                refine pure_ (i := 9) (N := some 6) (v := ?_) (a' := ?_) #[true, true, true, true, true, true, true, true, true, true] rfl rfl (by kernel_rfl) (fun _ _ _ h => h) (Or.inl ⟨by rfl, ?_⟩) ?_ ?_
                rotate_left
                · intro w'
                  go_simp
                  with_reducible rfl
                rotate_left
                · simp only [Act.put, List.setIfInBounds_toArray, List.set_cons_zero, List.set_cons_succ, i64_w, i32_w]
                  rfl
                refine done_ (by kernel_rfl) ?_
                replace HS : Aside0 (Sep FF w [b9 g1445 a1446 a1447 a1448 a1449 g1451, b8 g1451 A1454 l1453.length n1456 t2185.2.1, r5 A1454 l1453.length n1456 t2185.2.2, b7 g1430 g1432 a1440 a1441 a1442 a1443, b6 g1432 A1435 l1434.length n1437 t2086.2.1, r5 A1435 l1434.length n1437 t2086.2.2] w2187) := ⟨HS.out.sub (.cons_cons _ (.cons_cons _ (.cons_cons _ (.cons_cons _ (.cons_cons _ (.cons_cons _ (.cons _ .slnil)))))))⟩
                go_wp2_with fail
                go_ret
                rw [← some_eq H]
                exact ⟨(by first | rfl | (simp [IntKind.wrap_u32]; done)), (((((((HS.out).front 2 (by simp)).front 2 (by simp)).front 2 (by simp)).front 5 (by simp)).front 5 (by simp)).front 5 (by simp)).keep (l := [b7 g1430 g1432 a1440 a1441 a1442 a1443, b6 g1432 A1435 l1434.length n1437 t2086.2.1, r5 A1435 l1434.length n1437 t2086.2.2, b9 g1445 a1446 a1447 a1448 a1449 g1451, b8 g1451 A1454 l1453.length n1456 t2185.2.1, r5 A1454 l1453.length n1456 t2185.2.2]) (rest := [])⟩
              · have H := if_no c2010 H
                have c2010b0 : (a1459 == 6) = false := beq_eq_false_iff_ne.mpr c2010
                have c2010b1 : (a1459 != 6) = true := bne_iff_ne.mpr c2010
                clear c2010
                have hc1824 : w1823.cell? ⟨g1810, 0, none⟩ = some (.int .u8 a1459) := blk_cellv (HS.out.at6) 0 rfl
                have hc2188 : w1823.cell? ⟨g1810, 1, none⟩ = some (.int .i64 a1460) := blk_cellv (HS.out.at6) 1 rfl
                go_wp2_with fail
                clear hc1824 hc2188
                obtain ⟨t2214, HA2215, H⟩ := bind_some H
                refine (ground_Ground_SeeReg.calls l1434 a1439 a1440 a1441 a1442 a1443 a1460 g1430 g1432 A1435 l1434.length n1437 t2214 _ ⟨HS.out.begin⟩ HA2215).mono ?_
                rintro e_ w2216 ⟨rfl, hS⟩
                replace HS : Aside0 (Sep FF w [b7 g1430 g1432 a1440 a1441 a1442 a1443, b6 g1432 A1435 l1434.length n1437 a1439, r5 A1435 l1434.length n1437 l1434, b9 g1445 a1446 a1447 a1448 a1449 g1451, b8 g1451 A1454 l1453.length n1456 a1458, r5 A1454 l1453.length n1456 l1453, b11 g1810 a1459 a1460 a1461 a1462] w2216) := ⟨HS.out.call hS⟩
                clear hS
                go_wp2_with fail
                replace HS : Aside0 (Sep FF w [r5 A1454 l1453.length n1456 l1453, b7 g1430 g1432 a1440 a1441 a1442 a1443, b6 g1432 A1435 l1434.length n1437 a1439, r5 A1435 l1434.length n1437 l1434, b9 g1445 a1446 a1447 a1448 a1449 g1451, b8 g1451 A1454 l1453.length n1456 a1458, b11 g1810 a1459 a1460 a1461 a1462] w2216) := ⟨HS.out.front 5 (by simp)⟩
                replace HS : Aside0 (Sep FF w [b8 g1451 A1454 l1453.length n1456 a1458, r5 A1454 l1453.length n1456 l1453, b7 g1430 g1432 a1440 a1441 a1442 a1443, b6 g1432 A1435 l1434.length n1437 a1439, r5 A1435 l1434.length n1437 l1434, b9 g1445 a1446 a1447 a1448 a1449 g1451, b11 g1810 a1459 a1460 a1461 a1462] w2216) := ⟨HS.out.front 5 (by simp)⟩
                replace HS : Aside0 (Sep FF w [b9 g1445 a1446 a1447 a1448 a1449 g1451, b8 g1451 A1454 l1453.length n1456 a1458, r5 A1454 l1453.length n1456 l1453, b7 g1430 g1432 a1440 a1441 a1442 a1443, b6 g1432 A1435 l1434.length n1437 a1439, r5 A1435 l1434.length n1437 l1434, b11 g1810 a1459 a1460 a1461 a1462] w2216) := ⟨HS.out.front 5 (by simp)⟩
                obtain ⟨t2241, HA2242, H⟩ := bind_some H
                refine (quitrentref05_Ground_See.calls a1446 a1447 a1448 a1449 l1453 a1458 t1815 g1445 g1451 A1454 l1453.length n1456 t2241 _ ⟨HS.out.begin⟩ HA2242).mono ?_
                rintro e_ w2243 ⟨rfl, hS⟩
                replace HS : Aside0 (Sep FF w [b9 g1445 a1446 a1447 a1448 a1449 g1451, b8 g1451 A1454 l1453.length n1456 a1458, r5 A1454 l1453.length n1456 l1453, b7 g1430 g1432 a1440 a1441 a1442 a1443, b6 g1432 A1435 l1434.length n1437 a1439, r5 A1435 l1434.length n1437 l1434, b11 g1810 a1459 a1460 a1461 a1462] w2243) := ⟨HS.out.call hS⟩
                clear hS
                by_cases c2244 : t2214 = t2241
                · have H := if_yes c2244 H
                  have c2244b0 : (t2214 == t2241) = true := beq_iff_eq.mpr c2244
                  have c2244b1 : (t2214 != t2241) = false := bne_eq_false_iff_eq.mpr c2244
                  clear c2244
                  have hc2245 : w2243.cell? ⟨g1810, 1, none⟩ = some (.int .i64 a1460) := blk_cellv (HS.out.at6) 1 rfl
                  go_wp2_with fail
                  clear hc2245
                  replace HS : Aside0 (Sep FF w [r5 A1435 l1434.length n1437 l1434, b9 g1445 a1446 a1447 a1448 a1449 g1451, b8 g1451 A1454 l1453.length n1456 a1458, r5 A1454 l1453.length n1456 l1453, b7 g1430 g1432 a1440 a1441 a1442 a1443, b6 g1432 A1435 l1434.length n1437 a1439, b11 g1810 a1459 a1460 a1461 a1462] w2243) := ⟨HS.out.front 5 (by simp)⟩
                  replace HS : Aside0 (Sep FF w [b6 g1432 A1435 l1434.length n1437 a1439, r5 A1435 l1434.length n1437 l1434, b9 g1445 a1446 a1447 a1448 a1449 g1451, b8 g1451 A1454 l1453.length n1456 a1458, r5 A1454 l1453.length n1456 l1453, b7 g1430 g1432 a1440 a1441 a1442 a1443, b11 g1810 a1459 a1460 a1461 a1462] w2243) := ⟨HS.out.front 5 (by simp)⟩
                  replace HS : Aside0 (Sep FF w [b7 g1430 g1432 a1440 a1441 a1442 a1443, b6 g1432 A1435 l1434.length n1437 a1439, r5 A1435 l1434.length n1437 l1434, b9 g1445 a1446 a1447 a1448 a1449 g1451, b8 g1451 A1454 l1453.length n1456 a1458, r5 A1454 l1453.length n1456 l1453, b11 g1810 a1459 a1460 a1461 a1462] w2243) := ⟨HS.out.front 5 (by simp)⟩
                  obtain ⟨t2271, HA2272, H⟩ := bind_some H
                  refine (ground_Ground_SeeRoot.calls l1434 a1439 a1440 a1441 a1442 a1443 a1460 g1430 g1432 A1435 l1434.length n1437 t2271 _ ⟨HS.out.begin⟩ HA2272).mono ?_
                  rintro e_ w2273 ⟨rfl, hS⟩
                  replace HS : Aside0 (Sep FF w [b7 g1430 g1432 a1440 a1441 a1442 a1443, b6 g1432 A1435 l1434.length n1437 a1439, r5 A1435 l1434.length n1437 l1434, b9 g1445 a1446 a1447 a1448 a1449 g1451, b8 g1451 A1454 l1453.length n1456 a1458, r5 A1454 l1453.length n1456 l1453, b11 g1810 a1459 a1460 a1461 a1462] w2273) := ⟨HS.out.call hS⟩
                  clear hS
                  go_wp2_with fail
                  replace HS : Aside0 (Sep FF w [r5 A1454 l1453.length n1456 l1453, b7 g1430 g1432 a1440 a1441 a1442 a1443, b6 g1432 A1435 l1434.length n1437 a1439, r5 A1435 l1434.length n1437 l1434, b9 g1445 a1446 a1447 a1448 a1449 g1451, b8 g1451 A1454 l1453.length n1456 a1458, b11 g1810 a1459 a1460 a1461 a1462] w2273) := ⟨HS.out.front 5 (by simp)⟩
                  replace HS : Aside0 (Sep FF w [b8 g1451 A1454 l1453.length n1456 a1458, r5 A1454 l1453.length n1456 l1453, b7 g1430 g1432 a1440 a1441 a1442 a1443, b6 g1432 A1435 l1434.length n1437 a1439, r5 A1435 l1434.length n1437 l1434, b9 g1445 a1446 a1447 a1448 a1449 g1451, b11 g1810 a1459 a1460 a1461 a1462] w2273) := ⟨HS.out.front 5 (by simp)⟩
                  replace HS : Aside0 (Sep FF w [b9 g1445 a1446 a1447 a1448 a1449 g1451, b8 g1451 A1454 l1453.length n1456 a1458, r5 A1454 l1453.length n1456 l1453, b7 g1430 g1432 a1440 a1441 a1442 a1443, b6 g1432 A1435 l1434.length n1437 a1439, r5 A1435 l1434.length n1437 l1434, b11 g1810 a1459 a1460 a1461 a1462] w2273) := ⟨HS.out.front 5 (by simp)⟩
                  obtain ⟨t2274, HA2275, H⟩ := bind_some H
                  refine (quitrentref05_Ground_See.calls a1446 a1447 a1448 a1449 l1453 a1458 t1818 g1445 g1451 A1454 l1453.length n1456 t2274 _ ⟨HS.out.begin⟩ HA2275).mono ?_
                  rintro e_ w2276 ⟨rfl, hS⟩
                  replace HS : Aside0 (Sep FF w [b9 g1445 a1446 a1447 a1448 a1449 g1451, b8 g1451 A1454 l1453.length n1456 a1458, r5 A1454 l1453.length n1456 l1453, b7 g1430 g1432 a1440 a1441 a1442 a1443, b6 g1432 A1435 l1434.length n1437 a1439, r5 A1435 l1434.length n1437 l1434, b11 g1810 a1459 a1460 a1461 a1462] w2276) := ⟨HS.out.call hS⟩
                  clear hS
                  by_cases c2277 : t2271 = t2274
                  · have H := if_yes c2277 H
                    have c2277b0 : (t2271 == t2274) = true := beq_iff_eq.mpr c2277
                    have c2277b1 : (t2271 != t2274) = false := bne_eq_false_iff_eq.mpr c2277
                    clear c2277
                    have hc2278 : w2276.cell? ⟨g1810, 1, none⟩ = some (.int .i64 a1460) := blk_cellv (HS.out.at6) 1 rfl
                    have hc2279 : w2276.cell? ⟨g1810, 2, none⟩ = some (.int .i64 a1461) := blk_cellv (HS.out.at6) 2 rfl
                    go_wp2_with fail
                    clear hc2278 hc2279
                    replace HS : Aside0 (Sep FF w [r5 A1435 l1434.length n1437 l1434, b9 g1445 a1446 a1447 a1448 a1449 g1451, b8 g1451 A1454 l1453.length n1456 a1458, r5 A1454 l1453.length n1456 l1453, b7 g1430 g1432 a1440 a1441 a1442 a1443, b6 g1432 A1435 l1434.length n1437 a1439, b11 g1810 a1459 a1460 a1461 a1462] w2276) := ⟨HS.out.front 5 (by simp)⟩
                    replace HS : Aside0 (Sep FF w [b6 g1432 A1435 l1434.length n1437 a1439, r5 A1435 l1434.length n1437 l1434, b9 g1445 a1446 a1447 a1448 a1449 g1451, b8 g1451 A1454 l1453.length n1456 a1458, r5 A1454 l1453.length n1456 l1453, b7 g1430 g1432 a1440 a1441 a1442 a1443, b11 g1810 a1459 a1460 a1461 a1462] w2276) := ⟨HS.out.front 5 (by simp)⟩
                    replace HS : Aside0 (Sep FF w [b7 g1430 g1432 a1440 a1441 a1442 a1443, b6 g1432 A1435 l1434.length n1437 a1439, r5 A1435 l1434.length n1437 l1434, b9 g1445 a1446 a1447 a1448 a1449 g1451, b8 g1451 A1454 l1453.length n1456 a1458, r5 A1454 l1453.length n1456 l1453, b11 g1810 a1459 a1460 a1461 a1462] w2276) := ⟨HS.out.front 5 (by simp)⟩
                    obtain ⟨t2280, HA2281, H⟩ := bind_some H
                    refine (ground_Ground_SeeWord.calls l1434 a1439 a1440 a1441 a1442 a1443 a1460 a1461 g1430 g1432 A1435 l1434.length n1437 t2280 _ ⟨HS.out.begin⟩ HA2281).mono ?_
                    rintro e_ w2282 ⟨rfl, hS⟩
                    replace HS : Aside0 (Sep FF w [b7 g1430 g1432 a1440 a1441 a1442 a1443, b6 g1432 A1435 l1434.length n1437 a1439, r5 A1435 l1434.length n1437 l1434, b9 g1445 a1446 a1447 a1448 a1449 g1451, b8 g1451 A1454 l1453.length n1456 a1458, r5 A1454 l1453.length n1456 l1453, b11 g1810 a1459 a1460 a1461 a1462] w2282) := ⟨HS.out.call hS⟩
                    clear hS
                    go_wp2_with fail
                    replace HS : Aside0 (Sep FF w [r5 A1454 l1453.length n1456 l1453, b7 g1430 g1432 a1440 a1441 a1442 a1443, b6 g1432 A1435 l1434.length n1437 a1439, r5 A1435 l1434.length n1437 l1434, b9 g1445 a1446 a1447 a1448 a1449 g1451, b8 g1451 A1454 l1453.length n1456 a1458, b11 g1810 a1459 a1460 a1461 a1462] w2282) := ⟨HS.out.front 5 (by simp)⟩
                    replace HS : Aside0 (Sep FF w [b8 g1451 A1454 l1453.length n1456 a1458, r5 A1454 l1453.length n1456 l1453, b7 g1430 g1432 a1440 a1441 a1442 a1443, b6 g1432 A1435 l1434.length n1437 a1439, r5 A1435 l1434.length n1437 l1434, b9 g1445 a1446 a1447 a1448 a1449 g1451, b11 g1810 a1459 a1460 a1461 a1462] w2282) := ⟨HS.out.front 5 (by simp)⟩
                    replace HS : Aside0 (Sep FF w [b9 g1445 a1446 a1447 a1448 a1449 g1451, b8 g1451 A1454 l1453.length n1456 a1458, r5 A1454 l1453.length n1456 l1453, b7 g1430 g1432 a1440 a1441 a1442 a1443, b6 g1432 A1435 l1434.length n1437 a1439, r5 A1435 l1434.length n1437 l1434, b11 g1810 a1459 a1460 a1461 a1462] w2282) := ⟨HS.out.front 5 (by simp)⟩
                    obtain ⟨t2283, HA2284, H⟩ := bind_some H
                    refine (quitrentref05_Ground_See.calls a1446 a1447 a1448 a1449 l1453 a1458 t1821 g1445 g1451 A1454 l1453.length n1456 t2283 _ ⟨HS.out.begin⟩ HA2284).mono ?_
                    rintro e_ w2285 ⟨rfl, hS⟩
                    replace HS : Aside0 (Sep FF w [b9 g1445 a1446 a1447 a1448 a1449 g1451, b8 g1451 A1454 l1453.length n1456 a1458, r5 A1454 l1453.length n1456 l1453, b7 g1430 g1432 a1440 a1441 a1442 a1443, b6 g1432 A1435 l1434.length n1437 a1439, r5 A1435 l1434.length n1437 l1434, b11 g1810 a1459 a1460 a1461 a1462] w2285) := ⟨HS.out.call hS⟩
                    clear hS
                    replace HS : Aside0 (Sep FF w [b9 g1445 a1446 a1447 a1448 a1449 g1451, b8 g1451 A1454 l1453.length n1456 a1458, r5 A1454 l1453.length n1456 l1453, b7 g1430 g1432 a1440 a1441 a1442 a1443, b6 g1432 A1435 l1434.length n1437 a1439, r5 A1435 l1434.length n1437 l1434] w2285) := ⟨HS.out.sub (.cons_cons _ (.cons_cons _ (.cons_cons _ (.cons_cons _ (.cons_cons _ (.cons_cons _ (.cons _ .slnil)))))))⟩
                    go_wp2_with fail
                    go_ret
                    rw [← some_eq H]
                    exact ⟨(by first | rfl | (simp [IntKind.wrap_u32]; done)), (((((((HS.out).front 2 (by simp)).front 2 (by simp)).front 2 (by simp)).front 5 (by simp)).front 5 (by simp)).front 5 (by simp)).keep (l := [b7 g1430 g1432 a1440 a1441 a1442 a1443, b6 g1432 A1435 l1434.length n1437 a1439, r5 A1435 l1434.length n1437 l1434, b9 g1445 a1446 a1447 a1448 a1449 g1451, b8 g1451 A1454 l1453.length n1456 a1458, r5 A1454 l1453.length n1456 l1453]) (rest := [])⟩
                  · have H := if_no c2277 H
                    have c2277b0 : (t2271 == t2274) = false := beq_eq_false_iff_ne.mpr c2277
                    have c2277b1 : (t2271 != t2274) = true := bne_iff_ne.mpr c2277
                    clear c2277
                    replace HS : Aside0 (Sep FF w [b9 g1445 a1446 a1447 a1448 a1449 g1451, b8 g1451 A1454 l1453.length n1456 a1458, r5 A1454 l1453.length n1456 l1453, b7 g1430 g1432 a1440 a1441 a1442 a1443, b6 g1432 A1435 l1434.length n1437 a1439, r5 A1435 l1434.length n1437 l1434] w2276) := ⟨HS.out.sub (.cons_cons _ (.cons_cons _ (.cons_cons _ (.cons_cons _ (.cons_cons _ (.cons_cons _ (.cons _ .slnil)))))))⟩
                    go_wp2_with fail
                    go_ret
                    rw [← some_eq H]
                    exact ⟨(by first | rfl | (simp [IntKind.wrap_u32]; done)), (((((((HS.out).front 2 (by simp)).front 2 (by simp)).front 2 (by simp)).front 5 (by simp)).front 5 (by simp)).front 5 (by simp)).keep (l := [b7 g1430 g1432 a1440 a1441 a1442 a1443, b6 g1432 A1435 l1434.length n1437 a1439, r5 A1435 l1434.length n1437 l1434, b9 g1445 a1446 a1447 a1448 a1449 g1451, b8 g1451 A1454 l1453.length n1456 a1458, r5 A1454 l1453.length n1456 l1453]) (rest := [])⟩
                · have H := if_no c2244 H
                  have c2244b0 : (t2214 == t2241) = false := beq_eq_false_iff_ne.mpr c2244
                  have c2244b1 : (t2214 != t2241) = true := bne_iff_ne.mpr c2244
                  clear c2244
                  replace HS : Aside0 (Sep FF w [b9 g1445 a1446 a1447 a1448 a1449 g1451, b8 g1451 A1454 l1453.length n1456 a1458, r5 A1454 l1453.length n1456 l1453, b7 g1430 g1432 a1440 a1441 a1442 a1443, b6 g1432 A1435 l1434.length n1437 a1439, r5 A1435 l1434.length n1437 l1434] w2243) := ⟨HS.out.sub (.cons_cons _ (.cons_cons _ (.cons_cons _ (.cons_cons _ (.cons_cons _ (.cons_cons _ (.cons _ .slnil)))))))⟩
                  go_wp2_with fail
                  go_ret
                  rw [← some_eq H]
                  exact ⟨(by first | rfl | (simp [IntKind.wrap_u32]; done)), (((((((HS.out).front 2 (by simp)).front 2 (by simp)).front 2 (by simp)).front 5 (by simp)).front 5 (by simp)).front 5 (by simp)).keep (l := [b7 g1430 g1432 a1440 a1441 a1442 a1443, b6 g1432 A1435 l1434.length n1437 a1439, r5 A1435 l1434.length n1437 l1434, b9 g1445 a1446 a1447 a1448 a1449 g1451, b8 g1451 A1454 l1453.length n1456 a1458, r5 A1454 l1453.length n1456 l1453]) (rest := [])⟩

set_option maxHeartbeats 30000000 in
set_option maxRecDepth 100000 in
theorem quitrentref01_Same.calls (k : Nat) (l2395 : List Int) (l2399 : List Int) (A2396 : Option Addr) (n2397 : Nat) (A2400 : Option Addr) (n2401 : Nat) (r : Bool) (w : World) (HR2398 : Aside0 (Rd (Kd.int .u32) (fps []) w A2396 l2395.length l2395)) (HR2402 : Aside0 (Rd (Kd.int .u32) (fps []) w A2400 l2399.length l2399))  (HS : Aside0 (Sep (fps []) w [] w)) (H : Aside0 (quitrentref01_Same.f k l2395 l2399 = some r)) :
    Calls Try.prog 23 #[.slice A2396 l2395.length n2397, .slice A2400 l2399.length n2401] w fun e w' => e = .returned (.bool r) ∧ Sep (fps []) w [] w' := by
  unfold quitrentref01_Same.f at H
  go_enter Try.func23, Try.ntmps23
  by_cases c2403 : (l2395.length : Int) = (l2399.length : Int)
  · have H := if_yes c2403 H
    have c2403b0 : ((l2395.length : Int) == (l2399.length : Int)) = true := beq_iff_eq.mpr c2403
    have c2403b1 : ((l2395.length : Int) != (l2399.length : Int)) = false := bne_eq_false_iff_eq.mpr c2403
    clear c2403
    go_wp2_with fail
    obtain ⟨o2419, AL2420, H⟩ := bind_some H
    go_loopg [5] k (fun kq v5 wc => ∃ (x2423 : Int), v5 = .int .i64 x2423 ∧ Aside0 (quitrentref01_Same.lo0 kq l2395 l2399 x2423 = some o2419) ∧ Aside0 (Sep (fps []) w [] wc))
    case atStart => exact ⟨(0), (by first | rfl | (simp [IntKind.wrap_u32]; done)), AL2420, ⟨HS.out⟩⟩
    case round =>
      clear AL2420 HS
      obtain ⟨x2423, rfl, AL2420, HS⟩ := hrel
      obtain ⟨w2421, rfl⟩ : ∃ x : World, x = wr := ⟨_, rfl⟩
      cases gk with
      | zero => exact absurd AL2420.out (by simp [quitrentref01_Same.lo0])
      | succ k2422 =>
        have AL0 := AL2420.out
        rw [quitrentref01_Same.lo0] at AL0
        clear AL2420
        have AL2420 := Aside0.mk AL0
        clear AL0
        by_cases c2424 : x2423 < (l2395.length : Int)
        · have AL2420 := if_yes c2424 AL2420
          have c2424b0 : decide (x2423 < (l2395.length : Int)) = true := decide_eq_true c2424
          clear c2424
          go_wp2_with fail
          refine start_ (n := 9) (S := (fun w' => Kd.C (Kd.int .u32) w' A2396 l2395.length l2395 ∧ Kd.C (Kd.int .u32) w' A2400 l2399.length l2399)) (ds := []) #[false, false, false, false, false, false, false, false, false] (by kernel_rfl) rfl rfl (⟨Rd.read (fun _ _ _ _ h => h) HR2398.out (HS.out.drew).fr, Rd.read (fun _ _ _ _ h => h) HR2402.out (HS.out.drew).fr⟩) (fun hHeld => ?_)
          have HS_ := Aside0.mk HS.out.drew
          clear HS
          generalize World.drew _ = w2426 at HS_ hHeld ⊢
          have HS := HS_
          clear HS_
          refine pure_ (i := 0) (N := some 17) (v := ?_) (a' := ?_) #[true, false, false, false, false, false, false, false, false] rfl rfl (by kernel_rfl) (fun _ _ _ h => h) (Or.inl ⟨by rfl, ?_⟩) ?_ ?_
          rotate_left
          · intro w'
            go_simp
            with_reducible rfl
          rotate_left
          · simp only [Act.put, List.setIfInBounds_toArray, List.set_cons_zero, List.set_cons_succ, i64_w, i32_w]
            rfl
          refine pure_ (i := 1) (N := some 18) (v := ?_) (a' := ?_) #[true, true, false, false, false, false, false, false, false] rfl rfl (by kernel_rfl) (fun _ _ _ h => h) (Or.inl ⟨by rfl, ?_⟩) ?_ ?_
          rotate_left
          · intro w'
            go_simp
            with_reducible rfl
          rotate_left
          · simp only [Act.put, List.setIfInBounds_toArray, List.set_cons_zero, List.set_cons_succ, i64_w, i32_w]
            rfl
          by_cases c2427 : 0 ≤ x2423
          · have AL2420 := if_yes c2427 AL2420
            have c2427b0 : decide (0 ≤ x2423) = true := decide_eq_true c2427
            have c2427p : (0 ≤ x2423) = True := eq_true c2427
            clear c2427
            have ip2428 : (x2423 < (l2395.length : Int)) = True := eq_true (of_decide_eq_true c2424b0)
            obtain ⟨ad2429, ea, _⟩ := Kd.at_int (Rd.read (fun _ _ _ _ h => h) HR2398.out HS.out.fr) x2423 (of_decide_eq_true c2427b0) (of_decide_eq_true c2424b0)
            cases ea
            refine pure_ (i := 2) (N := some 19) (v := ?_) (a' := ?_) #[true, true, true, false, false, false, false, false, false] rfl rfl (by kernel_rfl) (fun _ _ _ h => h) (Or.inl ⟨by rfl, ?_⟩) ?_ ?_
            rotate_left
            · intro w'
              go_simp
              with_reducible rfl
            rotate_left
            · simp only [Act.put, List.setIfInBounds_toArray, List.set_cons_zero, List.set_cons_succ, i64_w, i32_w]
              rfl
            refine pure_ (i := 4) (N := some 21) (v := ?_) (a' := ?_) #[true, true, true, false, true, false, false, false, false] rfl rfl (by kernel_rfl) (fun _ _ _ h => h) (Or.inl ⟨by rfl, ?_⟩) ?_ ?_
            rotate_left
            · intro w'
              go_simp
              with_reducible rfl
            rotate_left
            · simp only [Act.put, List.setIfInBounds_toArray, List.set_cons_zero, List.set_cons_succ, i64_w, i32_w]
              rfl
            refine pure_ (i := 5) (N := some 22) (v := ?_) (a' := ?_) #[true, true, true, false, true, true, false, false, false] rfl rfl (by kernel_rfl) (fun _ _ _ h => h) (Or.inl ⟨by rfl, ?_⟩) ?_ ?_
            rotate_left
            · intro w'
              go_simp
              with_reducible rfl
            rotate_left
            · simp only [Act.put, List.setIfInBounds_toArray, List.set_cons_zero, List.set_cons_succ, i64_w, i32_w]
              rfl
            by_cases c2430 : x2423 < (l2399.length : Int)
            · have AL2420 := if_yes c2430 AL2420
              have c2430b0 : decide (x2423 < (l2399.length : Int)) = true := decide_eq_true c2430
              have c2430p : (x2423 < (l2399.length : Int)) = True := eq_true c2430
              clear c2430
              obtain ⟨ad2431, ea, _⟩ := Kd.at_int (Rd.read (fun _ _ _ _ h => h) HR2402.out HS.out.fr) x2423 (of_decide_eq_true c2427b0) (of_decide_eq_true c2430b0)
              cases ea
              refine pure_ (i := 6) (N := some 23) (v := ?_) (a' := ?_) #[true, true, true, false, true, true, true, false, false] rfl rfl (by kernel_rfl) (fun _ _ _ h => h) (Or.inl ⟨by rfl, ?_⟩) ?_ ?_
              rotate_left
              · intro w'
                go_simp
                with_reducible rfl
              rotate_left
              · simp only [Act.put, List.setIfInBounds_toArray, List.set_cons_zero, List.set_cons_succ, i64_w, i32_w]
                rfl
              refine take_ (i := 3) (N := some 20) (v := ?_) (a' := ?_) #[true, true, true, true, true, true, true, false, false] rfl rfl (by kernel_rfl) (fun _ _ _ h => h) (Or.inl ⟨by rfl, ?_⟩) hHeld ?_ ?_
              rotate_left
              · rintro w' hS'
                obtain ⟨s0, s1⟩ := hS'
                have hx := C_at_int s0 x2423 (of_decide_eq_true c2427b0) (of_decide_eq_true c2424b0)
                go_simp
                with_reducible rfl
              rotate_left
              · simp only [Act.put, List.setIfInBounds_toArray, List.set_cons_zero, List.set_cons_succ, i64_w, i32_w]
                rfl
              refine take_ (i := 7) (N := some 24) (v := ?_) (a' := ?_) #[true, true, true, true, true, true, true, true, false] rfl rfl (by kernel_rfl) (fun _ _ _ h => h) (Or.inl ⟨by rfl, ?_⟩) hHeld ?_ ?_
              rotate_left
              · rintro w' hS'
                obtain ⟨s0, s1⟩ := hS'
                have hx := C_at_int s1 x2423 (of_decide_eq_true c2427b0) (of_decide_eq_true c2430b0)
                go_simp
                with_reducible rfl
              rotate_left
              · simp only [Act.put, List.setIfInBounds_toArray, List.set_cons_zero, List.set_cons_succ, i64_w, i32_w]
                rfl
              refine pure_ (i := 8) (N := some 25) (v := ?_) (a' := ?_) #[true, true, true, true, true, true, true, true, true] rfl rfl (by kernel_rfl) (fun _ _ _ h => h) (Or.inl ⟨by rfl, ?_⟩) ?_ ?_
              rotate_left
              · intro w'
                go_simp
                with_reducible rfl
              rotate_left
              · simp only [Act.put, List.setIfInBounds_toArray, List.set_cons_zero, List.set_cons_succ, i64_w, i32_w]
                rfl
              refine done_ (by kernel_rfl) ?_
              by_cases c2432 : (rd l2395 x2423) = (rd l2399 x2423)
              · have AL2420 := if_yes c2432 AL2420
                have c2432b0 : ((rd l2395 x2423) == (rd l2399 x2423)) = true := beq_iff_eq.mpr c2432
                have c2432b1 : ((rd l2395 x2423) != (rd l2399 x2423)) = false := bne_eq_false_iff_eq.mpr c2432
                clear c2432
                go_wp2_with fail
                go_roundg k2422
                case measure => exact Nat.lt_succ_self _
                case rel => exact ⟨(wrap64 (x2423 + 1)), (by first | rfl | (simp [IntKind.wrap_u32]; done)), Aside0.mk AL2420.out, ⟨HS.out⟩⟩
              · have AL2420 := if_no c2432 AL2420
                have c2432b0 : ((rd l2395 x2423) == (rd l2399 x2423)) = false := beq_eq_false_iff_ne.mpr c2432
                have c2432b1 : ((rd l2395 x2423) != (rd l2399 x2423)) = true := bne_iff_ne.mpr c2432
                clear c2432
                go_wp2_with fail
                have ho := some_eq AL2420
                subst ho
                have H := lp_ret H
                go_ret
                rw [← some_eq H]
                exact ⟨(by first | rfl | (simp [IntKind.wrap_u32]; done)), HS.out⟩
            · have AL2420 := if_no c2430 AL2420
              have c2430b0 : decide (x2423 < (l2399.length : Int)) = false := decide_eq_false c2430
              clear c2430
              exact (none_no AL2420).elim
          · have AL2420 := if_no c2427 AL2420
            have c2427b0 : decide (0 ≤ x2423) = false := decide_eq_false c2427
            clear c2427
            exact (none_no AL2420).elim
        · have AL2420 := if_no c2424 AL2420
          have c2424b0 : decide (x2423 < (l2395.length : Int)) = false := decide_eq_false c2424
          clear c2424
          have ho := some_eq AL2420
          subst ho
          clear AL2420
          have H := lp_out H
          go_wp2_with fail
          go_ret
          rw [← some_eq H]
          exact ⟨(by first | rfl | (simp [IntKind.wrap_u32]; done)), HS.out⟩
  · have H := if_no c2403 H
    have c2403b0 : ((l2395.length : Int) == (l2399.length : Int)) = false := beq_eq_false_iff_ne.mpr c2403
    have c2403b1 : ((l2395.length : Int) != (l2399.length : Int)) = true := bne_iff_ne.mpr c2403
    clear c2403
    go_wp2_with fail
    go_ret
    rw [← some_eq H]
    exact ⟨(by first | rfl | (simp [IntKind.wrap_u32]; done)), HS.out⟩
end Go.Proofs.Ytobeonkddamnoaa.C

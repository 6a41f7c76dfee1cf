/- Each function of the group Pk does what its plain function says, and changes nothing that was there; proved by walking its code. No condition. -/
import Derived.Test.YtobeonkddamnoaaQw
import Derived.Test.YtobeonkddamnoaaMPk
import Derived.Test.YtobeonkddamnoaaGPk0
namespace Go.Proofs.Ytobeonkddamnoaa.C
open Go.RowKit Go.Proofs.YtobeonkddamnoaaW.PrintWords Go.Proofs.YtobeonkddamnoaaW.PrintLast Go.Proofs.Ytobeonkddamnoaa.Q Go.Proofs.Ytobeonkddamnoaa.M
set_option linter.unusedVariables false
set_option linter.unusedSimpArgs false
set_option maxHeartbeats 30000000 in
set_option maxRecDepth 100000 in
theorem chain_Add.calls (l1117 : List Int) (a1122 : Int) (a1123 : Int) (a1124 : Int) (a1125 : Int) (a1126 : Int) (a1127 : Int) (a1128 : Int) (g1113 : Nat) (g1115 : Nat) (A1118 : Option Addr) (m1119 : Nat) (n1120 : Nat) (r : Bool × Int × List Int) (w : World)   (HS : Aside0 (Sep (fps [b7 g1113 g1115 a1123 a1124 a1125 a1126, b6 g1115 A1118 m1119 n1120 a1122, r5 A1118 m1119 n1120 l1117]) w [b7 g1113 g1115 a1123 a1124 a1125 a1126, b6 g1115 A1118 m1119 n1120 a1122, r5 A1118 m1119 n1120 l1117] w)) (H : Aside0 (chain_Add.f l1117 a1122 a1123 a1124 a1125 a1126 a1127 a1128 = some r)) :
    Calls Try.prog 52 #[.pointer (some ⟨g1113, 0, none⟩), .int .i64 a1127, .int .i64 a1128] w fun e w' => e = .returned (.bool r.1) ∧ Sep (fps [b7 g1113 g1115 a1123 a1124 a1125 a1126, b6 g1115 A1118 m1119 n1120 a1122, r5 A1118 m1119 n1120 l1117]) w [b7 g1113 g1115 a1123 a1124 a1125 a1126, b6 g1115 A1118 m1119 n1120 r.2.1, r5 A1118 m1119 n1120 r.2.2] w' := by
  generalize (fps [b7 g1113 g1115 a1123 a1124 a1125 a1126, b6 g1115 A1118 m1119 n1120 a1122, r5 A1118 m1119 n1120 l1117]) = FF at HS ⊢
  obtain rfl := (row_len (HS.out.at2)).symm
  unfold chain_Add.f at H
  go_enter Try.func52, Try.ntmps52
  go_wp2_with (first | ((with_reducible refine gate_dst (N := 3) rfl ?_); refine box_on ?hg (N := 3) ?hd (cs := #[.pointer (some ⟨g1113, 0, none⟩)]) (t := 50) ?hr ?_; (case hd => rfl); (case hg => rfl); (case hr => first | (go_simp; done) | (go_simp; rfl)); intro g1488 hg w1489 hbox hb; replace HS : Aside0 (Sep FF w [b7 g1113 g1115 a1123 a1124 a1125 a1126, b6 g1115 A1118 l1117.length n1120 a1122, r5 A1118 l1117.length n1120 l1117, b9 g1488 g1113] w1489) := ⟨HS.out.box hg hbox hb⟩; clear hg hbox hb) | ((with_reducible refine gate_dst (N := 5) rfl ?_); refine box_on ?hg (N := 5) ?hd (cs := #[.int .i64 a1128]) (t := 3) ?hr ?_; (case hd => rfl); (case hg => rfl); (case hr => first | (go_simp; done) | (go_simp; rfl)); intro g1491 hg w1492 hbox hb; replace HS : Aside0 (Sep FF w [b7 g1113 g1115 a1123 a1124 a1125 a1126, b6 g1115 A1118 l1117.length n1120 a1122, r5 A1118 l1117.length n1120 l1117, b9 g1488 g1113, b10 g1491 a1128] w1492) := ⟨HS.out.box hg hbox hb⟩; clear hg hbox hb; have hc1494 : w1492.cell? ⟨g1488, 0, none⟩ = some (.pointer (some ⟨g1113, 0, none⟩)) := blk_cellv (HS.out.at3) 0 rfl; have hc1495 : w1492.cell? ⟨g1491, 0, none⟩ = some (.int .i64 a1128) := blk_cellv (HS.out.at4) 0 rfl))
  clear hc1494 hc1495
  obtain ⟨t1496, HA1497, H⟩ := bind_some H
  refine (chain_put_F89.calls l1117 a1122 a1123 a1124 a1125 a1126 a1127 a1128 a1128 g1113 g1115 A1118 l1117.length n1120 g1488 g1491 t1496 _ ⟨HS.out.begin⟩ HA1497).mono ?_
  rintro e_ w1498 ⟨rfl, hS⟩
  replace HS : Aside0 (Sep FF w [b7 g1113 g1115 a1123 a1124 a1125 a1126, b6 g1115 A1118 l1117.length n1120 t1496.2.1, r5 A1118 l1117.length n1120 t1496.2.2, b9 g1488 g1113, b10 g1491 a1128] w1498) := ⟨HS.out.call hS⟩
  clear hS
  replace HS : Aside0 (Sep FF w [b7 g1113 g1115 a1123 a1124 a1125 a1126, b6 g1115 A1118 l1117.length n1120 t1496.2.1, r5 A1118 l1117.length n1120 t1496.2.2] w1498) := ⟨HS.out.sub (.cons_cons _ (.cons_cons _ (.cons_cons _ (.cons _ (.cons _ .slnil)))))⟩
  go_wp2_with fail
  go_ret
  rw [← some_eq H]
  exact ⟨(by first | rfl | (simp [IntKind.wrap_u32]; done)), HS.out⟩

set_option maxHeartbeats 30000000 in
set_option maxRecDepth 100000 in
theorem pool_Open.calls (k : Nat) (l816 : List Int) (a821 : Int) (a822 : Int) (a823 : Int) (a824 : Int) (a825 : Int) (g812 : Nat) (g814 : Nat) (A817 : Option Addr) (m818 : Nat) (n819 : Nat) (r : Bool × Int × List Int) (w : World)   (HS : Aside0 (Sep (fps [b7 g812 g814 a822 a823 a824 a825, b6 g814 A817 m818 n819 a821, r5 A817 m818 n819 l816]) w [b7 g812 g814 a822 a823 a824 a825, b6 g814 A817 m818 n819 a821, r5 A817 m818 n819 l816] w)) (H : Aside0 (pool_Open.f k l816 a821 a822 a823 a824 a825 = some r)) :
    Calls Try.prog 61 #[.pointer (some ⟨g812, 0, none⟩)] w fun e w' => e = .returned (.bool r.1) ∧ Sep (fps [b7 g812 g814 a822 a823 a824 a825, b6 g814 A817 m818 n819 a821, r5 A817 m818 n819 l816]) w [b7 g812 g814 a822 a823 a824 a825, b6 g814 A817 m818 n819 r.2.1, r5 A817 m818 n819 r.2.2] w' := by
  generalize (fps [b7 g812 g814 a822 a823 a824 a825, b6 g814 A817 m818 n819 a821, r5 A817 m818 n819 l816]) = FF at HS ⊢
  obtain rfl := (row_len (HS.out.at2)).symm
  unfold pool_Open.f at H
  go_enter Try.func61, Try.ntmps61
  go_wp2_with fail
  obtain ⟨t1512, HA1513, H⟩ := bind_some H
  refine (chain_Len.calls l816 a821 a822 a823 a824 a825 0 g812 g814 A817 l816.length n819 t1512 _ ⟨HS.out.begin⟩ HA1513).mono ?_
  rintro e_ w1514 ⟨rfl, hS⟩
  replace HS : Aside0 (Sep FF w [b7 g812 g814 a822 a823 a824 a825, b6 g814 A817 l816.length n819 t1512.2, r5 A817 l816.length n819 l816] w1514) := ⟨HS.out.call hS⟩
  clear hS
  by_cases c1515 : t1512.1 > 0
  · replace H := if_yes c1515 H
    have c1515b0 : decide (0 < t1512.1) = true := decide_eq_true c1515
    clear c1515
    go_wp2_with fail
    go_ret
    rw [← some_eq H]
    exact ⟨(by first | rfl | (simp [IntKind.wrap_u32]; done)), HS.out⟩
  · replace H := if_no c1515 H
    have c1515b0 : decide (0 < t1512.1) = false := decide_eq_false c1515
    clear c1515
    go_wp2_with fail
    obtain ⟨t1516, HA1517, H⟩ := bind_some H
    refine (ground_Ground_Conf.calls l816 t1512.2 a822 a823 a824 a825 g812 g814 A817 l816.length n819 t1516 _ ⟨HS.out.begin⟩ HA1517).mono ?_
    rintro e_ w1518 ⟨rfl, hS⟩
    replace HS : Aside0 (Sep FF w [b7 g812 g814 a822 a823 a824 a825, b6 g814 A817 l816.length n819 t1512.2, r5 A817 l816.length n819 l816] w1518) := ⟨HS.out.call hS⟩
    clear hS
    have fl1519 : ∀ w, (Instr.field 49 (.agg #[.int .i64 t1516.1, .int .i64 t1516.2.1, .int .i64 t1516.2.2.1, .int .i64 t1516.2.2.2]) 0).run Try.prog w = .ok (.int .i64 t1516.1) w := fun _ => by kernel_rfl
    go_wp2_with fail
    clear fl1519
    obtain ⟨o1530, AL1531, H⟩ := bind_some H
    go_loopg [14] k (fun kq v14 wc => ∃ (x1534 : Int) (x1535 : List Int) (x1536 : Int), v14 = .int .i64 x1534 ∧ Aside0 (pool_Open.lo0 kq a822 a823 a824 a825 t1516 x1534 x1535 x1536 = some o1530) ∧ Aside0 (Sep FF w [b7 g812 g814 a822 a823 a824 a825, b6 g814 A817 l816.length n819 x1536, r5 A817 l816.length n819 x1535] wc))
    case atStart => exact ⟨(0), (l816), (t1512.2), (by first | rfl | (simp [IntKind.wrap_u32]; done)), AL1531, ⟨HS.out⟩⟩
    case round =>
      clear AL1531 HS
      obtain ⟨x1534, x1535, x1536, rfl, AL1531, HS⟩ := hrel
      obtain ⟨w1532, rfl⟩ : ∃ x : World, x = wr := ⟨_, rfl⟩
      cases gk with
      | zero => exact absurd AL1531.out (by simp [pool_Open.lo0])
      | succ k1533 =>
        have AL0 := AL1531.out
        rw [pool_Open.lo0] at AL0
        clear AL1531
        have AL1531 := Aside0.mk AL0
        clear AL0
        by_cases c1537 : x1534 < t1516.1
        · replace AL1531 := if_yes c1537 AL1531
          have c1537b0 : decide (x1534 < t1516.1) = true := decide_eq_true c1537
          clear c1537
          go_wp2_with fail
          obtain ⟨t1527, HA1538, AL1531⟩ := bind_some AL1531
          refine (chain_Add.calls x1535 x1536 a822 a823 a824 a825 0 x1534 g812 g814 A817 l816.length n819 t1527 _ ⟨HS.out.begin⟩ HA1538).mono ?_
          rintro e_ w1539 ⟨rfl, hS⟩
          replace HS : Aside0 (Sep FF w [b7 g812 g814 a822 a823 a824 a825, b6 g814 A817 l816.length n819 t1527.2.1, r5 A817 l816.length n819 t1527.2.2] w1539) := ⟨HS.out.call hS⟩
          clear hS
          go_wp2_with fail
          go_roundg k1533
          case measure => exact Nat.lt_succ_self _
          case rel => exact ⟨(wrap64 (x1534 + 1)), (t1527.2.2), (t1527.2.1), (by first | rfl | (simp [IntKind.wrap_u32]; done)), Aside0.mk AL1531.out, ⟨HS.out⟩⟩
        · replace AL1531 := if_no c1537 AL1531
          have c1537b0 : decide (x1534 < t1516.1) = false := decide_eq_false c1537
          clear c1537
          have ho := some_eq AL1531
          subst ho
          clear AL1531
          go_wp2_with fail
          go_ret
          rw [← some_eq H]
          exact ⟨(by first | rfl | (simp [IntKind.wrap_u32]; done)), HS.out⟩

set_option maxHeartbeats 30000000 in
set_option maxRecDepth 100000 in
theorem ground_Ground_Word.calls (l1623 : List Int) (a1628 : Int) (a1629 : Int) (a1630 : Int) (a1631 : Int) (a1632 : Int) (a1633 : Int) (a1634 : Int) (g1619 : Nat) (g1621 : Nat) (A1624 : Option Addr) (m1625 : Nat) (n1626 : Nat) (r : Int × Int) (w : World)   (HS : Aside0 (Sep (fps [b7 g1619 g1621 a1629 a1630 a1631 a1632, b6 g1621 A1624 m1625 n1626 a1628, r5 A1624 m1625 n1626 l1623]) w [b7 g1619 g1621 a1629 a1630 a1631 a1632, b6 g1621 A1624 m1625 n1626 a1628, r5 A1624 m1625 n1626 l1623] w)) (H : Aside0 (ground_Ground_Word.f l1623 a1628 a1629 a1630 a1631 a1632 a1633 a1634 = some r)) :
    Calls Try.prog 45 #[.pointer (some ⟨g1619, 0, none⟩), .int .i64 a1633, .int .i64 a1634] w fun e w' => e = .returned (.int .u32 r.1) ∧ Sep (fps [b7 g1619 g1621 a1629 a1630 a1631 a1632, b6 g1621 A1624 m1625 n1626 a1628, r5 A1624 m1625 n1626 l1623]) w [b7 g1619 g1621 a1629 a1630 a1631 a1632, b6 g1621 A1624 m1625 n1626 r.2, r5 A1624 m1625 n1626 l1623] w' := by
  generalize (fps [b7 g1619 g1621 a1629 a1630 a1631 a1632, b6 g1621 A1624 m1625 n1626 a1628, r5 A1624 m1625 n1626 l1623]) = FF at HS ⊢
  obtain rfl := (row_len (HS.out.at2)).symm
  unfold ground_Ground_Word.f at H
  go_enter Try.func45, Try.ntmps45
  go_wp2_with fail
  obtain ⟨t1644, HA1645, H⟩ := bind_some H
  refine (ground_Ground_all.calls l1623 a1628 a1629 a1630 a1631 a1632 g1619 g1621 A1624 l1623.length n1626 t1644 _ ⟨HS.out.begin⟩ HA1645).mono ?_
  rintro e_ w1646 ⟨rfl, hS⟩
  replace HS : Aside0 (Sep FF w [b7 g1619 g1621 a1629 a1630 a1631 a1632, b6 g1621 A1624 l1623.length n1626 a1628, r5 A1624 l1623.length n1626 l1623] w1646) := ⟨HS.out.call hS⟩
  clear hS
  go_wp2_with fail
  obtain ⟨t1647, HA1648, H⟩ := bind_some H
  refine (ground_Ground_word.calls l1623 a1628 a1629 a1630 a1631 a1632 a1633 a1634 g1619 g1621 A1624 l1623.length n1626 t1647 _ ⟨HS.out.begin⟩ HA1648).mono ?_
  rintro e_ w1649 ⟨rfl, hS⟩
  replace HS : Aside0 (Sep FF w [b7 g1619 g1621 a1629 a1630 a1631 a1632, b6 g1621 A1624 l1623.length n1626 a1628, r5 A1624 l1623.length n1626 l1623] w1649) := ⟨HS.out.call hS⟩
  clear hS
  go_wp2_with fail
  replace HS : Aside0 (Sep FF w [r5 A1624 l1623.length n1626 l1623, b7 g1619 g1621 a1629 a1630 a1631 a1632, b6 g1621 A1624 l1623.length n1626 a1628] w1649) := ⟨HS.out.front 2 (by simp)⟩
  replace HS : Aside0 (Sep FF w [b6 g1621 A1624 l1623.length n1626 a1628, r5 A1624 l1623.length n1626 l1623, b7 g1619 g1621 a1629 a1630 a1631 a1632] w1649) := ⟨HS.out.front 2 (by simp)⟩
  obtain ⟨t1650, HA1651, H⟩ := bind_some H
  refine (store_Store_Get.calls l1623 a1628 t1647 g1621 A1624 l1623.length n1626 t1650 _ ⟨HS.out.begin⟩ HA1651).mono ?_
  rintro e_ w1652 ⟨rfl, hS⟩
  replace HS : Aside0 (Sep FF w [b6 g1621 A1624 l1623.length n1626 t1650.2, r5 A1624 l1623.length n1626 l1623, b7 g1619 g1621 a1629 a1630 a1631 a1632] w1652) := ⟨HS.out.call hS⟩
  clear hS
  go_wp2_with fail
  go_ret
  rw [← some_eq H]
  exact ⟨(by first | rfl | (simp [IntKind.wrap_u32]; done)), ((((HS.out).front 1 (by simp)).front 1 (by simp)).front 2 (by simp)).keep (l := [b7 g1619 g1621 a1629 a1630 a1631 a1632, b6 g1621 A1624 l1623.length n1626 t1650.2, r5 A1624 l1623.length n1626 l1623]) (rest := [])⟩

set_option maxHeartbeats 30000000 in
set_option maxRecDepth 100000 in
theorem chain_Take.calls (l1569 : List Int) (a1574 : Int) (a1575 : Int) (a1576 : Int) (a1577 : Int) (a1578 : Int) (a1579 : Int) (g1565 : Nat) (g1567 : Nat) (A1570 : Option Addr) (m1571 : Nat) (n1572 : Nat) (r : Int × Bool × Int × List Int) (w : World)   (HS : Aside0 (Sep (fps [b7 g1565 g1567 a1575 a1576 a1577 a1578, b6 g1567 A1570 m1571 n1572 a1574, r5 A1570 m1571 n1572 l1569]) w [b7 g1565 g1567 a1575 a1576 a1577 a1578, b6 g1567 A1570 m1571 n1572 a1574, r5 A1570 m1571 n1572 l1569] w)) (H : Aside0 (chain_Take.f l1569 a1574 a1575 a1576 a1577 a1578 a1579 = some r)) :
    Calls Try.prog 54 #[.pointer (some ⟨g1565, 0, none⟩), .int .i64 a1579] w fun e w' => e = .returned (.tuple #[.int .i64 r.1, .bool r.2.1]) ∧ Sep (fps [b7 g1565 g1567 a1575 a1576 a1577 a1578, b6 g1567 A1570 m1571 n1572 a1574, r5 A1570 m1571 n1572 l1569]) w [b7 g1565 g1567 a1575 a1576 a1577 a1578, b6 g1567 A1570 m1571 n1572 r.2.2.1, r5 A1570 m1571 n1572 r.2.2.2] w' := by
  generalize (fps [b7 g1565 g1567 a1575 a1576 a1577 a1578, b6 g1567 A1570 m1571 n1572 a1574, r5 A1570 m1571 n1572 l1569]) = FF at HS ⊢
  obtain rfl := (row_len (HS.out.at2)).symm
  unfold chain_Take.f at H
  go_enter Try.func54, Try.ntmps54
  go_wp2_with fail
  obtain ⟨t1676, HA1677, H⟩ := bind_some H
  refine (chain_of.calls l1569 a1574 a1575 a1576 a1577 a1578 a1579 g1565 g1567 A1570 l1569.length n1572 t1676 _ ⟨HS.out.begin⟩ HA1677).mono ?_
  rintro e_ w1678 ⟨rfl, hS⟩
  replace HS : Aside0 (Sep FF w [b7 g1565 g1567 a1575 a1576 a1577 a1578, b6 g1567 A1570 l1569.length n1572 a1574, r5 A1570 l1569.length n1572 l1569] w1678) := ⟨HS.out.call hS⟩
  clear hS
  by_cases c1689 : t1676.2.2.2 = true
  · replace H := if_yes c1689 H
    have c1689b0 : t1676.2.2.2 = true := c1689
    have c1689b1 : (!t1676.2.2.2) = false := by rw [c1689b0]; rfl
    try rw [c1689b1]
    clear c1689
    go_wp2_with (first | ((with_reducible refine gate_dst (N := 6) rfl ?_); refine box_on ?hg (N := 6) ?hd (cs := #[.int .i64 0, .int .i64 0, .int .i64 0]) (t := 134) ?hr ?_; (case hd => rfl); (case hg => rfl); (case hr => first | (go_simp; done) | (go_simp; rfl)); intro g1679 hg w1680 hbox hb; replace HS : Aside0 (Sep FF w [b7 g1565 g1567 a1575 a1576 a1577 a1578, b6 g1567 A1570 l1569.length n1572 a1574, r5 A1570 l1569.length n1572 l1569, b8 g1679 0 0 0] w1680) := ⟨HS.out.box hg hbox hb⟩; clear hg hbox hb; have hc1682 : w1680.cell? ⟨g1679, 0, none⟩ = some (.int .i64 0) := blk_cellv (HS.out.at3) 0 rfl; have hz1683 : w1680.frozen? ⟨g1679, 0, none⟩ = false := blk_fz (HS.out.at3) 0; have hc1684 : w1680.cell? ⟨g1679, 1, none⟩ = some (.int .i64 0) := blk_cellv (HS.out.at3) 1 rfl; have hz1685 : w1680.frozen? ⟨g1679, 1, none⟩ = false := blk_fz (HS.out.at3) 1; have hc1686 : w1680.cell? ⟨g1679, 2, none⟩ = some (.int .i64 0) := blk_cellv (HS.out.at3) 2 rfl; have hz1687 : w1680.frozen? ⟨g1679, 2, none⟩ = false := blk_fz (HS.out.at3) 2) | ((with_reducible refine gate_store (t := 134) (p := 6) rfl ?_); refine store_event (w1 := (World.setCell (World.setCell (World.setCell w1680 ⟨g1679, 0, none⟩ (.int .i64 t1676.1)) ⟨g1679, 1, none⟩ (.int .i64 t1676.2.1)) ⟨g1679, 2, none⟩ (.int .i64 t1676.2.2.1))) rfl (t := 134) (p := 6) rfl rfl ?hr ?_; (case hr => first | (go_simp; done) | (go_simp; rfl)); intro w1688 hst; clear hc1682 hz1683 hc1684 hz1685 hc1686 hz1687; replace HS : Aside0 (Sep FF w [b7 g1565 g1567 a1575 a1576 a1577 a1578, b6 g1567 A1570 l1569.length n1572 a1574, r5 A1570 l1569.length n1572 l1569, b8 g1679 t1676.1 t1676.2.1 t1676.2.2.1] w1688) := ⟨by rw [hst]; exact HS.out.setAll (l1 := [b7 g1565 g1567 a1575 a1576 a1577 a1578, b6 g1567 A1570 l1569.length n1572 a1574, r5 A1570 l1569.length n1572 l1569]) (l2 := []) [.int .i64 t1676.1, .int .i64 t1676.2.1, .int .i64 t1676.2.2.1] rfl⟩; clear hst; have hc1690 : w1688.cell? ⟨g1679, 0, none⟩ = some (.int .i64 t1676.1) := blk_cellv (HS.out.at3) 0 rfl))
    clear hc1690
    obtain ⟨t1691, HA1692, H⟩ := bind_some H
    refine (ground_Ground_Reg.calls l1569 a1574 a1575 a1576 a1577 a1578 t1676.1 g1565 g1567 A1570 l1569.length n1572 t1691 _ ⟨HS.out.begin⟩ HA1692).mono ?_
    rintro e_ w1693 ⟨rfl, hS⟩
    replace HS : Aside0 (Sep FF w [b7 g1565 g1567 a1575 a1576 a1577 a1578, b6 g1567 A1570 l1569.length n1572 t1691.2, r5 A1570 l1569.length n1572 l1569, b8 g1679 t1676.1 t1676.2.1 t1676.2.2.1] w1693) := ⟨HS.out.call hS⟩
    clear hS
    by_cases c1694 : t1691.1 = 0
    · replace H := if_yes c1694 H
      have c1694b0 : (t1691.1 == 0) = true := beq_iff_eq.mpr c1694
      have c1694b1 : (t1691.1 != 0) = false := bne_eq_false_iff_eq.mpr c1694
      clear c1694
      replace HS : Aside0 (Sep FF w [b7 g1565 g1567 a1575 a1576 a1577 a1578, b6 g1567 A1570 l1569.length n1572 t1691.2, r5 A1570 l1569.length n1572 l1569] w1693) := ⟨HS.out.sub (.cons_cons _ (.cons_cons _ (.cons_cons _ (.cons _ .slnil))))⟩
      go_wp2_with fail
      go_ret2
      rw [← some_eq H]
      exact ⟨(by first | rfl | (simp [IntKind.wrap_u32]; done)), HS.out⟩
    · replace H := if_no c1694 H
      have c1694b0 : (t1691.1 == 0) = false := beq_eq_false_iff_ne.mpr c1694
      have c1694b1 : (t1691.1 != 0) = true := bne_iff_ne.mpr c1694
      clear c1694
      go_wp2_with fail
      obtain ⟨t1695, HA1696, H⟩ := bind_some H
      refine (ground_Ground_Word.calls l1569 t1691.2 a1575 a1576 a1577 a1578 (wrap64 (t1691.1 - 1)) 5 g1565 g1567 A1570 l1569.length n1572 t1695 _ ⟨HS.out.begin⟩ HA1696).mono ?_
      rintro e_ w1697 ⟨rfl, hS⟩
      replace HS : Aside0 (Sep FF w [b7 g1565 g1567 a1575 a1576 a1577 a1578, b6 g1567 A1570 l1569.length n1572 t1695.2, r5 A1570 l1569.length n1572 l1569, b8 g1679 t1676.1 t1676.2.1 t1676.2.2.1] w1697) := ⟨HS.out.call hS⟩
      clear hS
      go_wp2_with fail
      obtain ⟨t1698, HA1699, H⟩ := bind_some H
      refine (ground_Ground_SetWord.calls l1569 t1695.2 a1575 a1576 a1577 a1578 (wrap64 (t1691.1 - 1)) 5 0 g1565 g1567 A1570 l1569.length n1572 t1698 _ ⟨HS.out.begin⟩ HA1699).mono ?_
      rintro e_ w1700 ⟨rfl, hS⟩
      replace HS : Aside0 (Sep FF w [b7 g1565 g1567 a1575 a1576 a1577 a1578, b6 g1567 A1570 l1569.length n1572 t1698.2.1, r5 A1570 l1569.length n1572 t1698.2.2, b8 g1679 t1676.1 t1676.2.1 t1676.2.2.1] w1700) := ⟨HS.out.call hS⟩
      clear hS
      have hc1701 : w1700.cell? ⟨g1679, 0, none⟩ = some (.int .i64 t1676.1) := blk_cellv (HS.out.at3) 0 rfl
      go_wp2_with fail
      clear hc1701
      obtain ⟨t1702, HA1703, H⟩ := bind_some H
      refine (ground_Ground_SetReg.calls t1698.2.2 t1698.2.1 a1575 a1576 a1577 a1578 t1676.1 (wrap64 (t1695.1)) g1565 g1567 A1570 l1569.length n1572 t1702 _ ⟨HS.out.begin⟩ HA1703).mono ?_
      rintro e_ w1704 ⟨rfl, hS⟩
      replace HS : Aside0 (Sep FF w [b7 g1565 g1567 a1575 a1576 a1577 a1578, b6 g1567 A1570 l1569.length n1572 t1702.2.1, r5 A1570 l1569.length n1572 t1702.2.2, b8 g1679 t1676.1 t1676.2.1 t1676.2.2.1] w1704) := ⟨HS.out.call hS⟩
      clear hS
      by_cases c1705 : (wrap64 (t1695.1)) = 0
      · replace H := if_yes c1705 H
        have c1705b0 : ((wrap64 (t1695.1)) == 0) = true := beq_iff_eq.mpr c1705
        have c1705b1 : ((wrap64 (t1695.1)) != 0) = false := bne_eq_false_iff_eq.mpr c1705
        clear c1705
        have hc1706 : w1704.cell? ⟨g1679, 1, none⟩ = some (.int .i64 t1676.2.1) := blk_cellv (HS.out.at3) 1 rfl
        go_wp2_with fail
        clear hc1706
        obtain ⟨t1707, HA1708, H⟩ := bind_some H
        refine (ground_Ground_SetReg.calls t1702.2.2 t1702.2.1 a1575 a1576 a1577 a1578 t1676.2.1 0 g1565 g1567 A1570 l1569.length n1572 t1707 _ ⟨HS.out.begin⟩ HA1708).mono ?_
        rintro e_ w1709 ⟨rfl, hS⟩
        replace HS : Aside0 (Sep FF w [b7 g1565 g1567 a1575 a1576 a1577 a1578, b6 g1567 A1570 l1569.length n1572 t1707.2.1, r5 A1570 l1569.length n1572 t1707.2.2, b8 g1679 t1676.1 t1676.2.1 t1676.2.2.1] w1709) := ⟨HS.out.call hS⟩
        clear hS
        go_wp2_with fail
        refine start_ (n := 9) (S := (fun w' => w'.cell? ⟨g1679, 2, none⟩ = some (.int .i64 t1676.2.2.1))) (ds := []) #[false, false, false, false, false, false, false, false, false] (by kernel_rfl) rfl rfl (blk_cellv ((HS.out.drew).at3) 2 rfl) (fun hHeld => ?_)
        have HS_ := Aside0.mk HS.out.drew
        clear HS
        generalize World.drew _ = w1711 at HS_ hHeld ⊢
        have HS := HS_
        clear HS_
        refine pure_ (i := 0) (N := some 44) (v := ?_) (a' := ?_) #[true, false, false, false, false, false, false, false, false] rfl rfl (by kernel_rfl) (fun _ _ _ h => h) (Or.inl ⟨by rfl, ?_⟩) ?_ ?_
        rotate_left
        · intro w'
          go_simp
          with_reducible rfl
        rotate_left
        · simp only [Act.put, List.setIfInBounds_toArray, List.set_cons_zero, List.set_cons_succ, i64_w, i32_w]
          rfl
        refine pure_ (i := 1) (N := some 45) (v := ?_) (a' := ?_) #[true, true, false, false, false, false, false, false, false] rfl rfl (by kernel_rfl) (fun _ _ _ h => h) (Or.inl ⟨by rfl, ?_⟩) ?_ ?_
        rotate_left
        · intro w'
          go_simp
          with_reducible rfl
        rotate_left
        · simp only [Act.put, List.setIfInBounds_toArray, List.set_cons_zero, List.set_cons_succ, i64_w, i32_w]
          rfl
        refine pure_ (i := 3) (N := some 47) (v := ?_) (a' := ?_) #[true, true, false, true, false, false, false, false, false] rfl rfl (by kernel_rfl) (fun _ _ _ h => h) (Or.inl ⟨by rfl, ?_⟩) ?_ ?_
        rotate_left
        · intro w'
          go_simp
          with_reducible rfl
        rotate_left
        · simp only [Act.put, List.setIfInBounds_toArray, List.set_cons_zero, List.set_cons_succ, i64_w, i32_w]
          rfl
        refine pure_ (i := 4) (N := some 48) (v := ?_) (a' := ?_) #[true, true, false, true, true, false, false, false, false] rfl rfl (by kernel_rfl) (fun _ _ _ h => h) (Or.inl ⟨by rfl, ?_⟩) ?_ ?_
        rotate_left
        · intro w'
          go_simp
          with_reducible rfl
        rotate_left
        · simp only [Act.put, List.setIfInBounds_toArray, List.set_cons_zero, List.set_cons_succ, i64_w, i32_w]
          rfl
        refine take_ (i := 2) (N := some 46) (v := ?_) (a' := ?_) #[true, true, true, true, true, false, false, false, false] rfl rfl (by kernel_rfl) (fun _ _ _ h => h) (Or.inl ⟨by rfl, ?_⟩) hHeld ?_ ?_
        rotate_left
        · rintro w' hS'
          have s0 := hS'
          go_simp
          with_reducible rfl
        rotate_left
        · simp only [Act.put, List.setIfInBounds_toArray, List.set_cons_zero, List.set_cons_succ, i64_w, i32_w]
          rfl
        refine take_ (i := 5) (N := some 49) (v := ?_) (a' := ?_) #[true, true, true, true, true, true, false, false, false] rfl rfl (by kernel_rfl) (fun _ _ _ h => h) (Or.inl ⟨by rfl, ?_⟩) hHeld ?_ ?_
        rotate_left
        · rintro w' hS'
          have s0 := hS'
          go_simp
          with_reducible rfl
        rotate_left
        · simp only [Act.put, List.setIfInBounds_toArray, List.set_cons_zero, List.set_cons_succ, i64_w, i32_w]
          rfl
        refine one_ (i := 6) (N := some 50) #[true, true, true, true, true, true, true, false, false] rfl rfl (by kernel_rfl) (by decide) (fun K hK => ?_)
        obtain ⟨t1712, HA1713, H⟩ := bind_some H
        refine goes_ Try.func36 (by kernel_rfl) rfl #[.pointer (some ⟨g1565, 0, none⟩), .int .i64 t1676.2.2.1] (by rfl) rfl rfl (by (try simp only [List.map_toArray, List.map_cons, List.map_nil]); first | done | rfl) ?_
        refine (ground_Ground_Reg.calls t1707.2.2 t1707.2.1 a1575 a1576 a1577 a1578 t1676.2.2.1 g1565 g1567 A1570 l1569.length n1572 t1712 _ ⟨HS.out.begin⟩ HA1713).mono ?_
        rintro e_ w1714 ⟨rfl, hS⟩
        replace HS : Aside0 (Sep FF w [b7 g1565 g1567 a1575 a1576 a1577 a1578, b6 g1567 A1570 l1569.length n1572 t1712.2, r5 A1570 l1569.length n1572 t1707.2.2, b8 g1679 t1676.1 t1676.2.1 t1676.2.2.1] w1714) := ⟨HS.out.call hS⟩
        clear hS
        refine ⟨_, rfl, ?_⟩
        refine hK.out _ _ (blk_cellv (HS.out.at3) 2 rfl) (fun hHeld => ?_)
        clear hK K
        refine norm_ (a' := ?_) ?_ ?_
        rotate_left
        · show Act.put _ (some 50) _ = _
          simp only [Act.put, List.setIfInBounds_toArray, List.set_cons_zero, List.set_cons_succ, i64_w, i32_w]
          rfl
        refine pure_ (i := 7) (N := some 51) (v := ?_) (a' := ?_) #[true, true, true, true, true, true, true, true, false] rfl rfl (by kernel_rfl) (fun _ _ _ h => h) (Or.inl ⟨by rfl, ?_⟩) ?_ ?_
        rotate_left
        · intro w'
          go_simp
          with_reducible rfl
        rotate_left
        · simp only [Act.put, List.setIfInBounds_toArray, List.set_cons_zero, List.set_cons_succ, i64_w, i32_w]
          rfl
        refine one_ (i := 8) (N := some 52) #[true, true, true, true, true, true, true, true, true] rfl rfl (by kernel_rfl) (by decide) (fun K hK => ?_)
        obtain ⟨t1715, HA1716, H⟩ := bind_some H
        refine goes_ Try.func42 (by kernel_rfl) rfl #[.pointer (some ⟨g1565, 0, none⟩), .int .i64 t1676.2.2.1, .int .i64 (wrap64 (t1712.1 - 1))] (by rfl) rfl rfl (by (try simp only [List.map_toArray, List.map_cons, List.map_nil]); first | done | rfl) ?_
        refine (ground_Ground_SetReg.calls t1707.2.2 t1712.2 a1575 a1576 a1577 a1578 t1676.2.2.1 (wrap64 (t1712.1 - 1)) g1565 g1567 A1570 l1569.length n1572 t1715 _ ⟨HS.out.begin⟩ HA1716).mono ?_
        rintro e_ w1717 ⟨rfl, hS⟩
        replace HS : Aside0 (Sep FF w [b7 g1565 g1567 a1575 a1576 a1577 a1578, b6 g1567 A1570 l1569.length n1572 t1715.2.1, r5 A1570 l1569.length n1572 t1715.2.2, b8 g1679 t1676.1 t1676.2.1 t1676.2.2.1] w1717) := ⟨HS.out.call hS⟩
        clear hS
        refine ⟨_, rfl, ?_⟩
        refine hK.out _ _ (blk_cellv (HS.out.at3) 2 rfl) (fun hHeld => ?_)
        clear hK K
        refine norm_ (a' := ?_) ?_ ?_
        rotate_left
        · show Act.put _ (some 52) _ = _
          simp only [Act.put, List.setIfInBounds_toArray, List.set_cons_zero, List.set_cons_succ, i64_w, i32_w]
          rfl
        refine done_ (by kernel_rfl) ?_
        replace HS : Aside0 (Sep FF w [b7 g1565 g1567 a1575 a1576 a1577 a1578, b6 g1567 A1570 l1569.length n1572 t1715.2.1, r5 A1570 l1569.length n1572 t1715.2.2] w1717) := ⟨HS.out.sub (.cons_cons _ (.cons_cons _ (.cons_cons _ (.cons _ .slnil))))⟩
        go_wp2_with fail
        go_ret2
        rw [← some_eq H]
        exact ⟨(by first | rfl | (simp [IntKind.wrap_u32]; done)), HS.out⟩
      · replace H := if_no c1705 H
        have c1705b0 : ((wrap64 (t1695.1)) == 0) = false := beq_eq_false_iff_ne.mpr c1705
        have c1705b1 : ((wrap64 (t1695.1)) != 0) = true := bne_iff_ne.mpr c1705
        clear c1705
        go_wp2_with fail
        refine start_ (n := 9) (S := (fun w' => w'.cell? ⟨g1679, 2, none⟩ = some (.int .i64 t1676.2.2.1))) (ds := []) #[false, false, false, false, false, false, false, false, false] (by kernel_rfl) rfl rfl (blk_cellv ((HS.out.drew).at3) 2 rfl) (fun hHeld => ?_)
        have HS_ := Aside0.mk HS.out.drew
        clear HS
        generalize World.drew _ = w1719 at HS_ hHeld ⊢
        have HS := HS_
        clear HS_
        refine pure_ (i := 0) (N := some 44) (v := ?_) (a' := ?_) #[true, false, false, false, false, false, false, false, false] rfl rfl (by kernel_rfl) (fun _ _ _ h => h) (Or.inl ⟨by rfl, ?_⟩) ?_ ?_
        rotate_left
        · intro w'
          go_simp
          with_reducible rfl
        rotate_left
        · simp only [Act.put, List.setIfInBounds_toArray, List.set_cons_zero, List.set_cons_succ, i64_w, i32_w]
          rfl
        refine pure_ (i := 1) (N := some 45) (v := ?_) (a' := ?_) #[true, true, false, false, false, false, false, false, false] rfl rfl (by kernel_rfl) (fun _ _ _ h => h) (Or.inl ⟨by rfl, ?_⟩) ?_ ?_
        rotate_left
        · intro w'
          go_simp
          with_reducible rfl
        rotate_left
        · simp only [Act.put, List.setIfInBounds_toArray, List.set_cons_zero, List.set_cons_succ, i64_w, i32_w]
          rfl
        refine pure_ (i := 3) (N := some 47) (v := ?_) (a' := ?_) #[true, true, false, true, false, false, false, false, false] rfl rfl (by kernel_rfl) (fun _ _ _ h => h) (Or.inl ⟨by rfl, ?_⟩) ?_ ?_
        rotate_left
        · intro w'
          go_simp
          with_reducible rfl
        rotate_left
        · simp only [Act.put, List.setIfInBounds_toArray, List.set_cons_zero, List.set_cons_succ, i64_w, i32_w]
          rfl
        refine pure_ (i := 4) (N := some 48) (v := ?_) (a' := ?_) #[true, true, false, true, true, false, false, false, false] rfl rfl (by kernel_rfl) (fun _ _ _ h => h) (Or.inl ⟨by rfl, ?_⟩) ?_ ?_
        rotate_left
        · intro w'
          go_simp
          with_reducible rfl
        rotate_left
        · simp only [Act.put, List.setIfInBounds_toArray, List.set_cons_zero, List.set_cons_succ, i64_w, i32_w]
          rfl
        refine take_ (i := 2) (N := some 46) (v := ?_) (a' := ?_) #[true, true, true, true, true, false, false, false, false] rfl rfl (by kernel_rfl) (fun _ _ _ h => h) (Or.inl ⟨by rfl, ?_⟩) hHeld ?_ ?_
        rotate_left
        · rintro w' hS'
          have s0 := hS'
          go_simp
          with_reducible rfl
        rotate_left
        · simp only [Act.put, List.setIfInBounds_toArray, List.set_cons_zero, List.set_cons_succ, i64_w, i32_w]
          rfl
        refine take_ (i := 5) (N := some 49) (v := ?_) (a' := ?_) #[true, true, true, true, true, true, false, false, false] rfl rfl (by kernel_rfl) (fun _ _ _ h => h) (Or.inl ⟨by rfl, ?_⟩) hHeld ?_ ?_
        rotate_left
        · rintro w' hS'
          have s0 := hS'
          go_simp
          with_reducible rfl
        rotate_left
        · simp only [Act.put, List.setIfInBounds_toArray, List.set_cons_zero, List.set_cons_succ, i64_w, i32_w]
          rfl
        refine one_ (i := 6) (N := some 50) #[true, true, true, true, true, true, true, false, false] rfl rfl (by kernel_rfl) (by decide) (fun K hK => ?_)
        obtain ⟨t1712, HA1720, H⟩ := bind_some H
        refine goes_ Try.func36 (by kernel_rfl) rfl #[.pointer (some ⟨g1565, 0, none⟩), .int .i64 t1676.2.2.1] (by rfl) rfl rfl (by (try simp only [List.map_toArray, List.map_cons, List.map_nil]); first | done | rfl) ?_
        refine (ground_Ground_Reg.calls t1702.2.2 t1702.2.1 a1575 a1576 a1577 a1578 t1676.2.2.1 g1565 g1567 A1570 l1569.length n1572 t1712 _ ⟨HS.out.begin⟩ HA1720).mono ?_
        rintro e_ w1721 ⟨rfl, hS⟩
        replace HS : Aside0 (Sep FF w [b7 g1565 g1567 a1575 a1576 a1577 a1578, b6 g1567 A1570 l1569.length n1572 t1712.2, r5 A1570 l1569.length n1572 t1702.2.2, b8 g1679 t1676.1 t1676.2.1 t1676.2.2.1] w1721) := ⟨HS.out.call hS⟩
        clear hS
        refine ⟨_, rfl, ?_⟩
        refine hK.out _ _ (blk_cellv (HS.out.at3) 2 rfl) (fun hHeld => ?_)
        clear hK K
        refine norm_ (a' := ?_) ?_ ?_
        rotate_left
        · show Act.put _ (some 50) _ = _
          simp only [Act.put, List.setIfInBounds_toArray, List.set_cons_zero, List.set_cons_succ, i64_w, i32_w]
          rfl
        refine pure_ (i := 7) (N := some 51) (v := ?_) (a' := ?_) #[true, true, true, true, true, true, true, true, false] rfl rfl (by kernel_rfl) (fun _ _ _ h => h) (Or.inl ⟨by rfl, ?_⟩) ?_ ?_
        rotate_left
        · intro w'
          go_simp
          with_reducible rfl
        rotate_left
        · simp only [Act.put, List.setIfInBounds_toArray, List.set_cons_zero, List.set_cons_succ, i64_w, i32_w]
          rfl
        refine one_ (i := 8) (N := some 52) #[true, true, true, true, true, true, true, true, true] rfl rfl (by kernel_rfl) (by decide) (fun K hK => ?_)
        obtain ⟨t1715, HA1722, H⟩ := bind_some H
        refine goes_ Try.func42 (by kernel_rfl) rfl #[.pointer (some ⟨g1565, 0, none⟩), .int .i64 t1676.2.2.1, .int .i64 (wrap64 (t1712.1 - 1))] (by rfl) rfl rfl (by (try simp only [List.map_toArray, List.map_cons, List.map_nil]); first | done | rfl) ?_
        refine (ground_Ground_SetReg.calls t1702.2.2 t1712.2 a1575 a1576 a1577 a1578 t1676.2.2.1 (wrap64 (t1712.1 - 1)) g1565 g1567 A1570 l1569.length n1572 t1715 _ ⟨HS.out.begin⟩ HA1722).mono ?_
        rintro e_ w1723 ⟨rfl, hS⟩
        replace HS : Aside0 (Sep FF w [b7 g1565 g1567 a1575 a1576 a1577 a1578, b6 g1567 A1570 l1569.length n1572 t1715.2.1, r5 A1570 l1569.length n1572 t1715.2.2, b8 g1679 t1676.1 t1676.2.1 t1676.2.2.1] w1723) := ⟨HS.out.call hS⟩
        clear hS
        refine ⟨_, rfl, ?_⟩
        refine hK.out _ _ (blk_cellv (HS.out.at3) 2 rfl) (fun hHeld => ?_)
        clear hK K
        refine norm_ (a' := ?_) ?_ ?_
        rotate_left
        · show Act.put _ (some 52) _ = _
          simp only [Act.put, List.setIfInBounds_toArray, List.set_cons_zero, List.set_cons_succ, i64_w, i32_w]
          rfl
        refine done_ (by kernel_rfl) ?_
        replace HS : Aside0 (Sep FF w [b7 g1565 g1567 a1575 a1576 a1577 a1578, b6 g1567 A1570 l1569.length n1572 t1715.2.1, r5 A1570 l1569.length n1572 t1715.2.2] w1723) := ⟨HS.out.sub (.cons_cons _ (.cons_cons _ (.cons_cons _ (.cons _ .slnil))))⟩
        go_wp2_with fail
        go_ret2
        rw [← some_eq H]
        exact ⟨(by first | rfl | (simp [IntKind.wrap_u32]; done)), HS.out⟩
  · replace H := if_no c1689 H
    have c1689b0 : t1676.2.2.2 = false := by simpa using c1689
    have c1689b1 : (!t1676.2.2.2) = true := by rw [c1689b0]; rfl
    try rw [c1689b1]
    clear c1689
    go_wp2_with (first | ((with_reducible refine gate_dst (N := 6) rfl ?_); refine box_on ?hg (N := 6) ?hd (cs := #[.int .i64 0, .int .i64 0, .int .i64 0]) (t := 134) ?hr ?_; (case hd => rfl); (case hg => rfl); (case hr => first | (go_simp; done) | (go_simp; rfl)); intro g1679 hg w1680 hbox hb; replace HS : Aside0 (Sep FF w [b7 g1565 g1567 a1575 a1576 a1577 a1578, b6 g1567 A1570 l1569.length n1572 a1574, r5 A1570 l1569.length n1572 l1569, b8 g1679 0 0 0] w1680) := ⟨HS.out.box hg hbox hb⟩; clear hg hbox hb; have hc1682 : w1680.cell? ⟨g1679, 0, none⟩ = some (.int .i64 0) := blk_cellv (HS.out.at3) 0 rfl; have hz1683 : w1680.frozen? ⟨g1679, 0, none⟩ = false := blk_fz (HS.out.at3) 0; have hc1684 : w1680.cell? ⟨g1679, 1, none⟩ = some (.int .i64 0) := blk_cellv (HS.out.at3) 1 rfl; have hz1685 : w1680.frozen? ⟨g1679, 1, none⟩ = false := blk_fz (HS.out.at3) 1; have hc1686 : w1680.cell? ⟨g1679, 2, none⟩ = some (.int .i64 0) := blk_cellv (HS.out.at3) 2 rfl; have hz1687 : w1680.frozen? ⟨g1679, 2, none⟩ = false := blk_fz (HS.out.at3) 2) | ((with_reducible refine gate_store (t := 134) (p := 6) rfl ?_); refine store_event (w1 := (World.setCell (World.setCell (World.setCell w1680 ⟨g1679, 0, none⟩ (.int .i64 t1676.1)) ⟨g1679, 1, none⟩ (.int .i64 t1676.2.1)) ⟨g1679, 2, none⟩ (.int .i64 t1676.2.2.1))) rfl (t := 134) (p := 6) rfl rfl ?hr ?_; (case hr => first | (go_simp; done) | (go_simp; rfl)); intro w1688 hst; clear hc1682 hz1683 hc1684 hz1685 hc1686 hz1687; replace HS : Aside0 (Sep FF w [b7 g1565 g1567 a1575 a1576 a1577 a1578, b6 g1567 A1570 l1569.length n1572 a1574, r5 A1570 l1569.length n1572 l1569, b8 g1679 t1676.1 t1676.2.1 t1676.2.2.1] w1688) := ⟨by rw [hst]; exact HS.out.setAll (l1 := [b7 g1565 g1567 a1575 a1576 a1577 a1578, b6 g1567 A1570 l1569.length n1572 a1574, r5 A1570 l1569.length n1572 l1569]) (l2 := []) [.int .i64 t1676.1, .int .i64 t1676.2.1, .int .i64 t1676.2.2.1] rfl⟩; clear hst; replace HS : Aside0 (Sep FF w [b7 g1565 g1567 a1575 a1576 a1577 a1578, b6 g1567 A1570 l1569.length n1572 a1574, r5 A1570 l1569.length n1572 l1569] w1688) := ⟨HS.out.sub (.cons_cons _ (.cons_cons _ (.cons_cons _ (.cons _ .slnil))))⟩))
    go_ret2
    rw [← some_eq H]
    exact ⟨(by first | rfl | (simp [IntKind.wrap_u32]; done)), HS.out⟩

set_option maxHeartbeats 30000000 in
set_option maxRecDepth 100000 in
theorem ground_Ground_Wipe.calls (k : Nat) (l1733 : List Int) (a1738 : Int) (a1739 : Int) (a1740 : Int) (a1741 : Int) (a1742 : Int) (a1743 : Int) (g1729 : Nat) (g1731 : Nat) (A1734 : Option Addr) (m1735 : Nat) (n1736 : Nat) (r : Int × Int × List Int) (w : World)   (HS : Aside0 (Sep (fps [b7 g1729 g1731 a1739 a1740 a1741 a1742, b6 g1731 A1734 m1735 n1736 a1738, r5 A1734 m1735 n1736 l1733]) w [b7 g1729 g1731 a1739 a1740 a1741 a1742, b6 g1731 A1734 m1735 n1736 a1738, r5 A1734 m1735 n1736 l1733] w)) (H : Aside0 (ground_Ground_Wipe.f k l1733 a1738 a1739 a1740 a1741 a1742 a1743 = some r)) :
    Calls Try.prog 47 #[.pointer (some ⟨g1729, 0, none⟩), .int .i64 a1743] w fun e w' => e = .returned (.int .i64 r.1) ∧ Sep (fps [b7 g1729 g1731 a1739 a1740 a1741 a1742, b6 g1731 A1734 m1735 n1736 a1738, r5 A1734 m1735 n1736 l1733]) w [b7 g1729 g1731 a1739 a1740 a1741 a1742, b6 g1731 A1734 m1735 n1736 r.2.1, r5 A1734 m1735 n1736 r.2.2] w' := by
  generalize (fps [b7 g1729 g1731 a1739 a1740 a1741 a1742, b6 g1731 A1734 m1735 n1736 a1738, r5 A1734 m1735 n1736 l1733]) = FF at HS ⊢
  obtain rfl := (row_len (HS.out.at2)).symm
  unfold ground_Ground_Wipe.f at H
  go_enter Try.func47, Try.ntmps47
  go_wp2_with fail
  obtain ⟨t1772, HA1773, H⟩ := bind_some H
  refine (ground_Ground_Conf.calls l1733 a1738 a1739 a1740 a1741 a1742 g1729 g1731 A1734 l1733.length n1736 t1772 _ ⟨HS.out.begin⟩ HA1773).mono ?_
  rintro e_ w1774 ⟨rfl, hS⟩
  replace HS : Aside0 (Sep FF w [b7 g1729 g1731 a1739 a1740 a1741 a1742, b6 g1731 A1734 l1733.length n1736 a1738, r5 A1734 l1733.length n1736 l1733] w1774) := ⟨HS.out.call hS⟩
  clear hS
  have fl1775 : ∀ w, (Instr.field 49 (.agg #[.int .i64 t1772.1, .int .i64 t1772.2.1, .int .i64 t1772.2.2.1, .int .i64 t1772.2.2.2]) 1).run Try.prog w = .ok (.int .i64 t1772.2.1) w := fun _ => by kernel_rfl
  go_wp2_with fail
  clear fl1775
  obtain ⟨o1788, AL1789, H⟩ := bind_some H
  go_loopg [5, 10] k (fun kq v5 v10 wc => ∃ (x1792 : Int) (x1793 : Int) (x1794 : List Int) (x1795 : Int), v5 = .int .i64 x1792 ∧ v10 = .int .i64 x1793 ∧ Aside0 (ground_Ground_Wipe.lo0 kq a1739 a1740 a1741 a1742 a1743 t1772 x1792 x1793 x1794 x1795 = some o1788) ∧ Aside0 (Sep FF w [b7 g1729 g1731 a1739 a1740 a1741 a1742, b6 g1731 A1734 l1733.length n1736 x1795, r5 A1734 l1733.length n1736 x1794] wc))
  case atStart => exact ⟨(0), (0), (l1733), (a1738), (by first | rfl | (simp [IntKind.wrap_u32]; done)), (by first | rfl | (simp [IntKind.wrap_u32]; done)), AL1789, ⟨HS.out⟩⟩
  case round =>
    clear AL1789 HS
    obtain ⟨x1792, x1793, x1794, x1795, rfl, rfl, AL1789, HS⟩ := hrel
    obtain ⟨w1790, rfl⟩ : ∃ x : World, x = wr := ⟨_, rfl⟩
    cases gk with
    | zero => exact absurd AL1789.out (by simp [ground_Ground_Wipe.lo0])
    | succ k1791 =>
      have AL0 := AL1789.out
      rw [ground_Ground_Wipe.lo0] at AL0
      clear AL1789
      have AL1789 := Aside0.mk AL0
      clear AL0
      by_cases c1796 : x1793 < t1772.2.1
      · replace AL1789 := if_yes c1796 AL1789
        have c1796b0 : decide (x1793 < t1772.2.1) = true := decide_eq_true c1796
        clear c1796
        go_wp2_with fail
        obtain ⟨t1784, HA1797, AL1789⟩ := bind_some AL1789
        refine (ground_Ground_SetWord.calls x1794 x1795 a1739 a1740 a1741 a1742 a1743 x1793 0 g1729 g1731 A1734 l1733.length n1736 t1784 _ ⟨HS.out.begin⟩ HA1797).mono ?_
        rintro e_ w1798 ⟨rfl, hS⟩
        replace HS : Aside0 (Sep FF w [b7 g1729 g1731 a1739 a1740 a1741 a1742, b6 g1731 A1734 l1733.length n1736 t1784.2.1, r5 A1734 l1733.length n1736 t1784.2.2] w1798) := ⟨HS.out.call hS⟩
        clear hS
        by_cases c1799 : t1784.1 = true
        · replace AL1789 := if_yes c1799 AL1789
          have c1799b0 : t1784.1 = true := c1799
          have c1799b1 : (!t1784.1) = false := by rw [c1799b0]; rfl
          clear c1799
          go_wp2_with fail
          go_roundg k1791
          case measure => exact Nat.lt_succ_self _
          case rel => exact ⟨(wrap64 (x1792 + 1)), (wrap64 (x1793 + 1)), (t1784.2.2), (t1784.2.1), (by first | rfl | (simp [IntKind.wrap_u32]; done)), (by first | rfl | (simp [IntKind.wrap_u32]; done)), Aside0.mk AL1789.out, ⟨HS.out⟩⟩
        · replace AL1789 := if_no c1799 AL1789
          have c1799b0 : t1784.1 = false := by simpa using c1799
          have c1799b1 : (!t1784.1) = true := by rw [c1799b0]; rfl
          clear c1799
          go_wp2_with fail
          go_roundg k1791
          case measure => exact Nat.lt_succ_self _
          case rel => exact ⟨(x1792), (wrap64 (x1793 + 1)), (t1784.2.2), (t1784.2.1), (by first | rfl | (simp [IntKind.wrap_u32]; done)), (by first | rfl | (simp [IntKind.wrap_u32]; done)), Aside0.mk AL1789.out, ⟨HS.out⟩⟩
      · replace AL1789 := if_no c1796 AL1789
        have c1796b0 : decide (x1793 < t1772.2.1) = false := decide_eq_false c1796
        clear c1796
        have ho := some_eq AL1789
        subst ho
        clear AL1789
        go_wp2_with fail
        go_ret
        rw [← some_eq H]
        exact ⟨(by first | rfl | (simp [IntKind.wrap_u32]; done)), HS.out⟩

set_option maxHeartbeats 30000000 in
set_option maxRecDepth 100000 in
theorem pool_Take.calls (k : Nat) (l1554 : List Int) (a1559 : Int) (a1560 : Int) (a1561 : Int) (a1562 : Int) (a1563 : Int) (g1550 : Nat) (g1552 : Nat) (A1555 : Option Addr) (m1556 : Nat) (n1557 : Nat) (r : Int × Bool × Int × List Int) (w : World)   (HS : Aside0 (Sep (fps [b7 g1550 g1552 a1560 a1561 a1562 a1563, b6 g1552 A1555 m1556 n1557 a1559, r5 A1555 m1556 n1557 l1554]) w [b7 g1550 g1552 a1560 a1561 a1562 a1563, b6 g1552 A1555 m1556 n1557 a1559, r5 A1555 m1556 n1557 l1554] w)) (H : Aside0 (pool_Take.f k l1554 a1559 a1560 a1561 a1562 a1563 = some r)) :
    Calls Try.prog 63 #[.pointer (some ⟨g1550, 0, none⟩)] w fun e w' => e = .returned (.tuple #[.int .i64 r.1, .bool r.2.1]) ∧ Sep (fps [b7 g1550 g1552 a1560 a1561 a1562 a1563, b6 g1552 A1555 m1556 n1557 a1559, r5 A1555 m1556 n1557 l1554]) w [b7 g1550 g1552 a1560 a1561 a1562 a1563, b6 g1552 A1555 m1556 n1557 r.2.2.1, r5 A1555 m1556 n1557 r.2.2.2] w' := by
  generalize (fps [b7 g1550 g1552 a1560 a1561 a1562 a1563, b6 g1552 A1555 m1556 n1557 a1559, r5 A1555 m1556 n1557 l1554]) = FF at HS ⊢
  obtain rfl := (row_len (HS.out.at2)).symm
  unfold pool_Take.f at H
  go_enter Try.func63, Try.ntmps63
  go_wp2_with fail
  obtain ⟨t1804, HA1805, H⟩ := bind_some H
  refine (chain_Take.calls l1554 a1559 a1560 a1561 a1562 a1563 0 g1550 g1552 A1555 l1554.length n1557 t1804 _ ⟨HS.out.begin⟩ HA1805).mono ?_
  rintro e_ w1806 ⟨rfl, hS⟩
  replace HS : Aside0 (Sep FF w [b7 g1550 g1552 a1560 a1561 a1562 a1563, b6 g1552 A1555 l1554.length n1557 t1804.2.2.1, r5 A1555 l1554.length n1557 t1804.2.2.2] w1806) := ⟨HS.out.call hS⟩
  clear hS
  by_cases c1807 : t1804.2.1 = true
  · replace H := if_yes c1807 H
    have c1807b0 : t1804.2.1 = true := c1807
    have c1807b1 : (!t1804.2.1) = false := by rw [c1807b0]; rfl
    try rw [c1807b1]
    clear c1807
    go_wp2_with fail
    obtain ⟨t1808, HA1809, H⟩ := bind_some H
    refine (ground_Ground_Wipe.calls _ t1804.2.2.2 t1804.2.2.1 a1560 a1561 a1562 a1563 t1804.1 g1550 g1552 A1555 l1554.length n1557 t1808 _ ⟨HS.out.begin⟩ HA1809).mono ?_
    rintro e_ w1810 ⟨rfl, hS⟩
    replace HS : Aside0 (Sep FF w [b7 g1550 g1552 a1560 a1561 a1562 a1563, b6 g1552 A1555 l1554.length n1557 t1808.2.1, r5 A1555 l1554.length n1557 t1808.2.2] w1810) := ⟨HS.out.call hS⟩
    clear hS
    go_wp2_with fail
    go_ret2
    rw [← some_eq H]
    exact ⟨(by first | rfl | (simp [IntKind.wrap_u32]; done)), HS.out⟩
  · replace H := if_no c1807 H
    have c1807b0 : t1804.2.1 = false := by simpa using c1807
    have c1807b1 : (!t1804.2.1) = true := by rw [c1807b0]; rfl
    try rw [c1807b1]
    clear c1807
    go_wp2_with fail
    go_ret2
    rw [← some_eq H]
    exact ⟨(by first | rfl | (simp [IntKind.wrap_u32]; done)), HS.out⟩

set_option maxHeartbeats 30000000 in
set_option maxRecDepth 100000 in
theorem pack_isPiece.calls (a1858 : Int) (a1859 : Int) (r : Bool) (w : World)   (HS : Aside0 (Sep (fps []) w [] w)) (H : Aside0 (pack_isPiece.f a1858 a1859 = some r)) :
    Calls Try.prog 120 #[.int .i64 a1858, .int .i64 a1859] w fun e w' => e = .returned (.bool r) ∧ Sep (fps []) w [] w' := by
  unfold pack_isPiece.f at H
  go_enter Try.func120, Try.ntmps120
  by_cases c1860 : a1858 ≥ 0
  · replace H := if_yes c1860 H
    have c1860b0 : decide (0 ≤ a1858) = true := decide_eq_true c1860
    clear c1860
    by_cases c1861 : a1859 ≥ 1
    · replace H := if_yes c1861 H
      have c1861b0 : decide (1 ≤ a1859) = true := decide_eq_true c1861
      clear c1861
      by_cases c1862 : a1859 ≤ 32
      · replace H := if_yes c1862 H
        have c1862b0 : decide (a1859 ≤ 32) = true := decide_eq_true c1862
        clear c1862
        go_wp2_with fail
        go_ret
        rw [← some_eq H]
        exact ⟨(by first | rfl | (simp [IntKind.wrap_u32]; done)), HS.out⟩
      · replace H := if_no c1862 H
        have c1862b0 : decide (a1859 ≤ 32) = false := decide_eq_false c1862
        clear c1862
        go_wp2_with fail
        go_ret
        rw [← some_eq H]
        exact ⟨(by first | rfl | (simp [IntKind.wrap_u32]; done)), HS.out⟩
    · replace H := if_no c1861 H
      have c1861b0 : decide (1 ≤ a1859) = false := decide_eq_false c1861
      clear c1861
      go_wp2_with fail
      go_ret
      rw [← some_eq H]
      exact ⟨(by first | rfl | (simp [IntKind.wrap_u32]; done)), HS.out⟩
  · replace H := if_no c1860 H
    have c1860b0 : decide (0 ≤ a1858) = false := decide_eq_false c1860
    clear c1860
    go_wp2_with fail
    go_ret
    rw [← some_eq H]
    exact ⟨(by first | rfl | (simp [IntKind.wrap_u32]; done)), HS.out⟩

set_option maxHeartbeats 30000000 in
set_option maxRecDepth 100000 in
theorem pack_mask.calls (a1867 : Int) (a1868 : Int) (r : Int) (w : World)   (HS : Aside0 (Sep (fps []) w [] w)) (H : Aside0 (pack_mask.f a1867 a1868 = some r)) :
    Calls Try.prog 121 #[.int .i64 a1867, .int .i64 a1868] w fun e w' => e = .returned (.int .u32 r) ∧ Sep (fps []) w [] w' := by
  unfold pack_mask.f at H
  go_enter Try.func121, Try.ntmps121
  by_cases c1869 : 0 ≤ (IntKind.u64.wrap (a1868))
  · replace H := if_yes c1869 H
    have c1869b0 : decide (0 ≤ (IntKind.u64.wrap (a1868))) = true := decide_eq_true c1869
    by_cases c1870 : 0 ≤ (IntKind.u64.wrap (a1867))
    · replace H := if_yes c1870 H
      have c1870b0 : decide (0 ≤ (IntKind.u64.wrap (a1867))) = true := decide_eq_true c1870
      skip
      skip
      go_wp2_with fail
      clear c1869 c1870
      go_ret
      rw [← some_eq H]
      exact ⟨(by first | rfl | (simp [IntKind.wrap_u32]; done)), HS.out⟩
    · replace H := if_no c1870 H
      have c1870b0 : decide (0 ≤ (IntKind.u64.wrap (a1867))) = false := decide_eq_false c1870
      exact (none_no H).elim
  · replace H := if_no c1869 H
    have c1869b0 : decide (0 ≤ (IntKind.u64.wrap (a1868))) = false := decide_eq_false c1869
    exact (none_no H).elim

set_option maxHeartbeats 30000000 in
set_option maxRecDepth 100000 in
theorem pack_Get.calls (a1855 : Int) (a1856 : Int) (a1857 : Int) (r : Int) (w : World)   (HS : Aside0 (Sep (fps []) w [] w)) (H : Aside0 (pack_Get.f a1855 a1856 a1857 = some r)) :
    Calls Try.prog 112 #[.int .u32 a1855, .int .i64 a1856, .int .i64 a1857] w fun e w' => e = .returned (.int .u32 r) ∧ Sep (fps []) w [] w' := by
  unfold pack_Get.f at H
  go_enter Try.func112, Try.ntmps112
  go_wp2_with fail
  obtain ⟨t1863, HA1864, H⟩ := bind_some H
  refine (pack_isPiece.calls a1856 a1857 t1863 _ ⟨Sep.start _⟩ HA1864).mono ?_
  rintro e_ w1865 ⟨rfl, hS⟩
  replace HS : Aside0 (Sep (fps []) w [] w1865) := ⟨HS.out.call hS⟩
  clear hS
  by_cases c1866 : t1863 = true
  · replace H := if_yes c1866 H
    have c1866b0 : t1863 = true := c1866
    have c1866b1 : (!t1863) = false := by rw [c1866b0]; rfl
    try rw [c1866b1]
    clear c1866
    go_wp2_with fail
    obtain ⟨t1871, HA1872, H⟩ := bind_some H
    refine (pack_mask.calls a1856 a1857 t1871 _ ⟨Sep.start _⟩ HA1872).mono ?_
    rintro e_ w1873 ⟨rfl, hS⟩
    replace HS : Aside0 (Sep (fps []) w [] w1873) := ⟨HS.out.call hS⟩
    clear hS
    by_cases c1874 : 0 ≤ (IntKind.u64.wrap (a1856))
    · replace H := if_yes c1874 H
      have c1874b0 : decide (0 ≤ (IntKind.u64.wrap (a1856))) = true := decide_eq_true c1874
      skip
      go_wp2_with fail
      clear c1874
      go_ret
      rw [← some_eq H]
      exact ⟨(by first | rfl | (simp [IntKind.wrap_u32]; done)), HS.out⟩
    · replace H := if_no c1874 H
      have c1874b0 : decide (0 ≤ (IntKind.u64.wrap (a1856))) = false := decide_eq_false c1874
      exact (none_no H).elim
  · replace H := if_no c1866 H
    have c1866b0 : t1863 = false := by simpa using c1866
    have c1866b1 : (!t1863) = true := by rw [c1866b0]; rfl
    try rw [c1866b1]
    clear c1866
    go_wp2_with fail
    go_ret
    rw [← some_eq H]
    exact ⟨(by first | rfl | (simp [IntKind.wrap_u32]; done)), HS.out⟩

set_option maxHeartbeats 30000000 in
set_option maxRecDepth 100000 in
theorem tag_Unpack_1.calls (a1849 : Int) (a1850 : Int) (a1853 : Int) (g1852 : Nat) (r : Int) (w : World)   (HS : Aside0 (Sep (fps [b11 g1852 a1853]) w [b11 g1852 a1853] w)) (H : Aside0 (tag_Unpack_1.f a1849 a1850 a1853 = some r)) :
    Calls Try.prog 111 #[.int .i64 a1849, .int .i64 a1850, .pointer (some ⟨g1852, 0, none⟩)] w fun e w' => e = .returned (.int .i64 r) ∧ Sep (fps [b11 g1852 a1853]) w [b11 g1852 a1853] w' := by
  generalize (fps [b11 g1852 a1853]) = FF at HS ⊢
  unfold tag_Unpack_1.f at H
  go_enter Try.func111, Try.ntmps111
  have hc1854 : w.cell? ⟨g1852, 0, none⟩ = some (.int .u32 a1853) := blk_cellv (HS.out.at0) 0 rfl
  go_wp2_with fail
  clear hc1854
  obtain ⟨t1875, HA1876, H⟩ := bind_some H
  refine (pack_Get.calls a1853 a1849 a1850 t1875 _ ⟨Sep.start _⟩ HA1876).mono ?_
  rintro e_ w1877 ⟨rfl, hS⟩
  replace HS : Aside0 (Sep FF w [b11 g1852 a1853] w1877) := ⟨HS.out.call hS⟩
  clear hS
  go_wp2_with fail
  go_ret
  rw [← some_eq H]
  exact ⟨(by first | rfl | (simp [IntKind.wrap_u32]; done)), HS.out⟩

set_option maxHeartbeats 30000000 in
set_option maxRecDepth 100000 in
theorem tag_Unpack.calls (a1842 : Int) (r : Int × Int × Int × Int × Int × Int × Int) (w : World)   (HS : Aside0 (Sep (fps []) w [] w)) (H : Aside0 (tag_Unpack.f a1842 = some r)) :
    Calls Try.prog 100 #[.int .u32 a1842] w fun e w' => e = .returned (.agg #[.int .i64 r.1, .int .i64 r.2.1, .int .i64 r.2.2.1, .int .i64 r.2.2.2.1, .int .i64 r.2.2.2.2.1, .int .i64 r.2.2.2.2.2.1, .int .i64 r.2.2.2.2.2.2]) ∧ Sep (fps []) w [] w' := by
  unfold tag_Unpack.f at H
  go_enter Try.func100, Try.ntmps100
  go_wp2_with (first | ((with_reducible refine gate_dst (N := 1) rfl ?_); refine box_on ?hg (N := 1) ?hd (cs := #[.int .u32 a1842]) (t := 23) ?hr ?_; (case hd => rfl); (case hg => rfl); (case hr => first | (go_simp; done) | (go_simp; rfl)); intro g1843 hg w1844 hbox hb; replace HS : Aside0 (Sep (fps []) w [b11 g1843 a1842] w1844) := ⟨HS.out.box hg hbox hb⟩; clear hg hbox hb) | ((with_reducible refine gate_dst (N := 2) rfl ?_); refine box_on ?hg (N := 2) ?hd (cs := #[.int .i64 0, .int .i64 0, .int .i64 0, .int .i64 0, .int .i64 0, .int .i64 0, .int .i64 0]) (t := 102) ?hr ?_; (case hd => rfl); (case hg => rfl); (case hr => first | (go_simp; done) | (go_simp; rfl)); intro g1846 hg w1847 hbox hb; replace HS : Aside0 (Sep (fps []) w [b11 g1843 a1842, b12 g1846 0 0 0 0 0 0 0] w1847) := ⟨HS.out.box hg hbox hb⟩; clear hg hbox hb))
  obtain ⟨t1878, HA1879, H⟩ := bind_some H
  refine (tag_Unpack_1.calls 0 2 a1842 g1843 t1878 _ ⟨HS.out.begin⟩ HA1879).mono ?_
  rintro e_ w1880 ⟨rfl, hS⟩
  replace HS : Aside0 (Sep (fps []) w [b11 g1843 a1842, b12 g1846 0 0 0 0 0 0 0] w1880) := ⟨HS.out.call hS⟩
  clear hS
  go_wp2_with fail
  obtain ⟨t1881, HA1882, H⟩ := bind_some H
  refine (tag_Unpack_1.calls 2 1 a1842 g1843 t1881 _ ⟨HS.out.begin⟩ HA1882).mono ?_
  rintro e_ w1883 ⟨rfl, hS⟩
  replace HS : Aside0 (Sep (fps []) w [b11 g1843 a1842, b12 g1846 0 0 0 0 0 0 0] w1883) := ⟨HS.out.call hS⟩
  clear hS
  go_wp2_with fail
  obtain ⟨t1884, HA1885, H⟩ := bind_some H
  refine (tag_Unpack_1.calls 3 1 a1842 g1843 t1884 _ ⟨HS.out.begin⟩ HA1885).mono ?_
  rintro e_ w1886 ⟨rfl, hS⟩
  replace HS : Aside0 (Sep (fps []) w [b11 g1843 a1842, b12 g1846 0 0 0 0 0 0 0] w1886) := ⟨HS.out.call hS⟩
  clear hS
  go_wp2_with fail
  obtain ⟨t1887, HA1888, H⟩ := bind_some H
  refine (tag_Unpack_1.calls 4 1 a1842 g1843 t1887 _ ⟨HS.out.begin⟩ HA1888).mono ?_
  rintro e_ w1889 ⟨rfl, hS⟩
  replace HS : Aside0 (Sep (fps []) w [b11 g1843 a1842, b12 g1846 0 0 0 0 0 0 0] w1889) := ⟨HS.out.call hS⟩
  clear hS
  go_wp2_with fail
  obtain ⟨t1890, HA1891, H⟩ := bind_some H
  refine (tag_Unpack_1.calls 5 1 a1842 g1843 t1890 _ ⟨HS.out.begin⟩ HA1891).mono ?_
  rintro e_ w1892 ⟨rfl, hS⟩
  replace HS : Aside0 (Sep (fps []) w [b11 g1843 a1842, b12 g1846 0 0 0 0 0 0 0] w1892) := ⟨HS.out.call hS⟩
  clear hS
  go_wp2_with fail
  obtain ⟨t1893, HA1894, H⟩ := bind_some H
  refine (tag_Unpack_1.calls 6 1 a1842 g1843 t1893 _ ⟨HS.out.begin⟩ HA1894).mono ?_
  rintro e_ w1895 ⟨rfl, hS⟩
  replace HS : Aside0 (Sep (fps []) w [b11 g1843 a1842, b12 g1846 0 0 0 0 0 0 0] w1895) := ⟨HS.out.call hS⟩
  clear hS
  go_wp2_with fail
  obtain ⟨t1896, HA1897, H⟩ := bind_some H
  refine (tag_Unpack_1.calls 8 24 a1842 g1843 t1896 _ ⟨HS.out.begin⟩ HA1897).mono ?_
  rintro e_ w1898 ⟨rfl, hS⟩
  replace HS : Aside0 (Sep (fps []) w [b11 g1843 a1842, b12 g1846 0 0 0 0 0 0 0] w1898) := ⟨HS.out.call hS⟩
  clear hS
  have hc1899 : w1898.cell? ⟨g1846, 0, none⟩ = some (.int .i64 0) := blk_cellv (HS.out.at1) 0 rfl
  have hz1900 : w1898.frozen? ⟨g1846, 0, none⟩ = false := blk_fz (HS.out.at1) 0
  have hc1901 : w1898.cell? ⟨g1846, 1, none⟩ = some (.int .i64 0) := blk_cellv (HS.out.at1) 1 rfl
  have hz1902 : w1898.frozen? ⟨g1846, 1, none⟩ = false := blk_fz (HS.out.at1) 1
  have hc1903 : w1898.cell? ⟨g1846, 2, none⟩ = some (.int .i64 0) := blk_cellv (HS.out.at1) 2 rfl
  have hz1904 : w1898.frozen? ⟨g1846, 2, none⟩ = false := blk_fz (HS.out.at1) 2
  have hc1905 : w1898.cell? ⟨g1846, 3, none⟩ = some (.int .i64 0) := blk_cellv (HS.out.at1) 3 rfl
  have hz1906 : w1898.frozen? ⟨g1846, 3, none⟩ = false := blk_fz (HS.out.at1) 3
  have hc1907 : w1898.cell? ⟨g1846, 4, none⟩ = some (.int .i64 0) := blk_cellv (HS.out.at1) 4 rfl
  have hz1908 : w1898.frozen? ⟨g1846, 4, none⟩ = false := blk_fz (HS.out.at1) 4
  have hc1909 : w1898.cell? ⟨g1846, 5, none⟩ = some (.int .i64 0) := blk_cellv (HS.out.at1) 5 rfl
  have hz1910 : w1898.frozen? ⟨g1846, 5, none⟩ = false := blk_fz (HS.out.at1) 5
  have hc1911 : w1898.cell? ⟨g1846, 6, none⟩ = some (.int .i64 0) := blk_cellv (HS.out.at1) 6 rfl
  have hz1912 : w1898.frozen? ⟨g1846, 6, none⟩ = false := blk_fz (HS.out.at1) 6
  go_wp2_with (first | ((with_reducible refine gate_store (t := 102) (p := 2) rfl ?_); refine store_event (w1 := (World.setCell (World.setCell (World.setCell (World.setCell (World.setCell (World.setCell (World.setCell w1898 ⟨g1846, 0, none⟩ (.int .i64 t1878)) ⟨g1846, 1, none⟩ (.int .i64 t1881)) ⟨g1846, 2, none⟩ (.int .i64 t1884)) ⟨g1846, 3, none⟩ (.int .i64 t1887)) ⟨g1846, 4, none⟩ (.int .i64 t1890)) ⟨g1846, 5, none⟩ (.int .i64 t1893)) ⟨g1846, 6, none⟩ (.int .i64 t1896))) rfl (t := 102) (p := 2) rfl rfl ?hr ?_; (case hr => first | (go_simp; done) | (go_simp; rfl)); intro w1913 hst; clear hc1899 hz1900 hc1901 hz1902 hc1903 hz1904 hc1905 hz1906 hc1907 hz1908 hc1909 hz1910 hc1911 hz1912; replace HS : Aside0 (Sep (fps []) w [b11 g1843 a1842, b12 g1846 t1878 t1881 t1884 t1887 t1890 t1893 t1896] w1913) := ⟨by rw [hst]; exact HS.out.setAll (l1 := [b11 g1843 a1842]) (l2 := []) [.int .i64 t1878, .int .i64 t1881, .int .i64 t1884, .int .i64 t1887, .int .i64 t1890, .int .i64 t1893, .int .i64 t1896] rfl⟩; clear hst; replace HS : Aside0 (Sep (fps []) w [b12 g1846 t1878 t1881 t1884 t1887 t1890 t1893 t1896] w1913) := ⟨HS.out.sub (.cons _ (.cons_cons _ .slnil))⟩))
  have hc1914 : w1913.cell? ⟨g1846, 0, none⟩ = some (.int .i64 t1878) := blk_cellv (HS.out.at0) 0 rfl
  have hc1915 : w1913.cell? ⟨g1846, 1, none⟩ = some (.int .i64 t1881) := blk_cellv (HS.out.at0) 1 rfl
  have hc1916 : w1913.cell? ⟨g1846, 2, none⟩ = some (.int .i64 t1884) := blk_cellv (HS.out.at0) 2 rfl
  have hc1917 : w1913.cell? ⟨g1846, 3, none⟩ = some (.int .i64 t1887) := blk_cellv (HS.out.at0) 3 rfl
  have hc1918 : w1913.cell? ⟨g1846, 4, none⟩ = some (.int .i64 t1890) := blk_cellv (HS.out.at0) 4 rfl
  have hc1919 : w1913.cell? ⟨g1846, 5, none⟩ = some (.int .i64 t1893) := blk_cellv (HS.out.at0) 5 rfl
  have hc1920 : w1913.cell? ⟨g1846, 6, none⟩ = some (.int .i64 t1896) := blk_cellv (HS.out.at0) 6 rfl
  refine bodyPost_ret (v := .agg #[.int .i64 t1878, .int .i64 t1881, .int .i64 t1884, .int .i64 t1887, .int .i64 t1890, .int .i64 t1893, .int .i64 t1896]) (by simp [results, Try.results100, go_sem, hc1914, hc1915, hc1916, hc1917, hc1918, hc1919, hc1920]) rfl ?_
  rw [← some_eq H]
  exact ⟨(by first | rfl | (simp [IntKind.wrap_u32]; done)), HS.out.sub (.cons _ .slnil)⟩

set_option maxHeartbeats 30000000 in
set_option maxRecDepth 100000 in
theorem chain_Push_1.calls (a2011 : Int) (a2012 : Int) (a2013 : Int) (a2014 : Int) (a2015 : Int) (l2023 : List Int) (a2028 : Int) (a2029 : Int) (a2030 : Int) (a2031 : Int) (a2032 : Int) (a2035 : Int) (g2017 : Nat) (g2019 : Nat) (g2021 : Nat) (A2024 : Option Addr) (m2025 : Nat) (n2026 : Nat) (g2034 : Nat) (r : Int × List Int) (w : World)   (HS : Aside0 (Sep (fps [b9 g2017 g2019, b7 g2019 g2021 a2029 a2030 a2031 a2032, b6 g2021 A2024 m2025 n2026 a2028, r5 A2024 m2025 n2026 l2023, b10 g2034 a2035]) w [b9 g2017 g2019, b7 g2019 g2021 a2029 a2030 a2031 a2032, b6 g2021 A2024 m2025 n2026 a2028, r5 A2024 m2025 n2026 l2023, b10 g2034 a2035] w)) (H : Aside0 (chain_Push_1.f a2011 a2012 a2013 a2014 a2015 l2023 a2028 a2029 a2030 a2031 a2032 a2035 = some r)) :
    Calls Try.prog 90 #[.agg #[.int .i64 a2011, .int .i64 a2012, .int .i64 a2013], .int .i64 a2014, .int .i64 a2015, .pointer (some ⟨g2017, 0, none⟩), .pointer (some ⟨g2034, 0, none⟩)] w fun e w' => e = .returned (.tuple #[]) ∧ Sep (fps [b9 g2017 g2019, b7 g2019 g2021 a2029 a2030 a2031 a2032, b6 g2021 A2024 m2025 n2026 a2028, r5 A2024 m2025 n2026 l2023, b10 g2034 a2035]) w [b9 g2017 g2019, b7 g2019 g2021 a2029 a2030 a2031 a2032, b6 g2021 A2024 m2025 n2026 r.1, r5 A2024 m2025 n2026 r.2, b10 g2034 a2035] w' := by
  generalize (fps [b9 g2017 g2019, b7 g2019 g2021 a2029 a2030 a2031 a2032, b6 g2021 A2024 m2025 n2026 a2028, r5 A2024 m2025 n2026 l2023, b10 g2034 a2035]) = FF at HS ⊢
  obtain rfl := (row_len (HS.out.at3)).symm
  unfold chain_Push_1.f at H
  go_enter Try.func90, Try.ntmps90
  go_wp2_with (first | ((with_reducible refine gate_dst (N := 5) rfl ?_); refine box_on ?hg (N := 5) ?hd (cs := #[.int .i64 a2011, .int .i64 a2012, .int .i64 a2013]) (t := 134) ?hr ?_; (case hd => rfl); (case hg => rfl); (case hr => first | (go_simp; done) | (go_simp; rfl)); intro g2058 hg w2059 hbox hb; replace HS : Aside0 (Sep FF w [b9 g2017 g2019, b7 g2019 g2021 a2029 a2030 a2031 a2032, b6 g2021 A2024 l2023.length n2026 a2028, r5 A2024 l2023.length n2026 l2023, b10 g2034 a2035, b8 g2058 a2011 a2012 a2013] w2059) := ⟨HS.out.box hg hbox hb⟩; clear hg hbox hb))
  refine start_ (n := 8) (S := (fun w' => w'.cell? ⟨g2017, 0, none⟩ = some (.pointer (some ⟨g2019, 0, none⟩)) ∧ w'.cell? ⟨g2034, 0, none⟩ = some (.int .i64 a2035) ∧ w'.cell? ⟨g2058, 0, none⟩ = some (.int .i64 a2011))) (ds := []) #[false, false, false, false, false, false, false, false] (by kernel_rfl) rfl rfl (⟨blk_cellv ((HS.out.drew).at0) 0 rfl, blk_cellv ((HS.out.drew).at4) 0 rfl, blk_cellv ((HS.out.drew).at5) 0 rfl⟩) (fun hHeld => ?_)
  have HS_ := Aside0.mk HS.out.drew
  clear HS
  generalize World.drew _ = w2062 at HS_ hHeld ⊢
  have HS := HS_
  clear HS_
  refine pure_ (i := 3) (N := some 11) (v := ?_) (a' := ?_) #[false, false, false, true, false, false, false, false] rfl rfl (by kernel_rfl) (fun _ _ _ h => h) (Or.inl ⟨by rfl, ?_⟩) ?_ ?_
  rotate_left
  · intro w'
    go_simp
    with_reducible rfl
  rotate_left
  · simp only [Act.put, List.setIfInBounds_toArray, List.set_cons_zero, List.set_cons_succ, i64_w, i32_w]
    rfl
  refine take_ (i := 0) (N := some 8) (v := ?_) (a' := ?_) #[true, false, false, true, false, false, false, false] rfl rfl (by kernel_rfl) (fun _ _ _ h => h) (Or.inl ⟨by rfl, ?_⟩) hHeld ?_ ?_
  rotate_left
  · rintro w' hS'
    obtain ⟨s0, s1, s2⟩ := hS'
    go_simp
    with_reducible rfl
  rotate_left
  · simp only [Act.put, List.setIfInBounds_toArray, List.set_cons_zero, List.set_cons_succ, i64_w, i32_w]
    rfl
  refine take_ (i := 1) (N := some 9) (v := ?_) (a' := ?_) #[true, true, false, true, false, false, false, false] rfl rfl (by kernel_rfl) (fun _ _ _ h => h) (Or.inl ⟨by rfl, ?_⟩) hHeld ?_ ?_
  rotate_left
  · rintro w' hS'
    obtain ⟨s0, s1, s2⟩ := hS'
    go_simp
    with_reducible rfl
  rotate_left
  · simp only [Act.put, List.setIfInBounds_toArray, List.set_cons_zero, List.set_cons_succ, i64_w, i32_w]
    rfl
  refine take_ (i := 2) (N := some 10) (v := ?_) (a' := ?_) #[true, true, true, true, false, false, false, false] rfl rfl (by kernel_rfl) (fun _ _ _ h => h) (Or.inl ⟨by rfl, ?_⟩) hHeld ?_ ?_
  rotate_left
  · rintro w' hS'
    obtain ⟨s0, s1, s2⟩ := hS'
    go_simp
    with_reducible rfl
  rotate_left
  · simp only [Act.put, List.setIfInBounds_toArray, List.set_cons_zero, List.set_cons_succ, i64_w, i32_w]
    rfl
  refine take_ (i := 4) (N := some 12) (v := ?_) (a' := ?_) #[true, true, true, true, true, false, false, false] rfl rfl (by kernel_rfl) (fun _ _ _ h => h) (Or.inl ⟨by rfl, ?_⟩) hHeld ?_ ?_
  rotate_left
  · rintro w' hS'
    obtain ⟨s0, s1, s2⟩ := hS'
    go_simp
    with_reducible rfl
  rotate_left
  · simp only [Act.put, List.setIfInBounds_toArray, List.set_cons_zero, List.set_cons_succ, i64_w, i32_w]
    rfl
  refine one_ (i := 5) (N := some 13) #[true, true, true, true, true, true, false, false] rfl rfl (by kernel_rfl) (by decide) (fun K hK => ?_)
  replace HS : Aside0 (Sep FF w [r5 A2024 l2023.length n2026 l2023, b9 g2017 g2019, b7 g2019 g2021 a2029 a2030 a2031 a2032, b6 g2021 A2024 l2023.length n2026 a2028, b10 g2034 a2035, b8 g2058 a2011 a2012 a2013] w2062) := ⟨HS.out.front 3 (by simp)⟩
  replace HS : Aside0 (Sep FF w [b6 g2021 A2024 l2023.length n2026 a2028, r5 A2024 l2023.length n2026 l2023, b9 g2017 g2019, b7 g2019 g2021 a2029 a2030 a2031 a2032, b10 g2034 a2035, b8 g2058 a2011 a2012 a2013] w2062) := ⟨HS.out.front 3 (by simp)⟩
  replace HS : Aside0 (Sep FF w [b7 g2019 g2021 a2029 a2030 a2031 a2032, b6 g2021 A2024 l2023.length n2026 a2028, r5 A2024 l2023.length n2026 l2023, b9 g2017 g2019, b10 g2034 a2035, b8 g2058 a2011 a2012 a2013] w2062) := ⟨HS.out.front 3 (by simp)⟩
  obtain ⟨t2063, HA2064, H⟩ := bind_some H
  refine goes_ Try.func36 (by kernel_rfl) rfl #[.pointer (some ⟨g2019, 0, none⟩), .int .i64 a2011] (by rfl) rfl rfl (by (try simp only [List.map_toArray, List.map_cons, List.map_nil]); first | done | rfl) ?_
  refine (ground_Ground_Reg.calls l2023 a2028 a2029 a2030 a2031 a2032 a2011 g2019 g2021 A2024 l2023.length n2026 t2063 _ ⟨HS.out.begin⟩ HA2064).mono ?_
  rintro e_ w2065 ⟨rfl, hS⟩
  replace HS : Aside0 (Sep FF w [b7 g2019 g2021 a2029 a2030 a2031 a2032, b6 g2021 A2024 l2023.length n2026 t2063.2, r5 A2024 l2023.length n2026 l2023, b9 g2017 g2019, b10 g2034 a2035, b8 g2058 a2011 a2012 a2013] w2065) := ⟨HS.out.call hS⟩
  clear hS
  refine ⟨_, rfl, ?_⟩
  refine hK.out _ _ (⟨blk_cellv (HS.out.at3) 0 rfl, blk_cellv (HS.out.at4) 0 rfl, blk_cellv (HS.out.at5) 0 rfl⟩) (fun hHeld => ?_)
  clear hK K
  refine norm_ (a' := ?_) ?_ ?_
  rotate_left
  · show Act.put _ (some 13) _ = _
    simp only [Act.put, List.setIfInBounds_toArray, List.set_cons_zero, List.set_cons_succ, i64_w, i32_w]
    rfl
  refine pure_ (i := 6) (N := some 14) (v := ?_) (a' := ?_) #[true, true, true, true, true, true, true, false] rfl rfl (by kernel_rfl) (fun _ _ _ h => h) (Or.inl ⟨by rfl, ?_⟩) ?_ ?_
  rotate_left
  · intro w'
    go_simp
    with_reducible rfl
  rotate_left
  · simp only [Act.put, List.setIfInBounds_toArray, List.set_cons_zero, List.set_cons_succ, i64_w, i32_w]
    rfl
  refine one_ (i := 7) (N := some 15) #[true, true, true, true, true, true, true, true] rfl rfl (by kernel_rfl) (by decide) (fun K hK => ?_)
  obtain ⟨t2066, HA2067, H⟩ := bind_some H
  refine goes_ Try.func46 (by kernel_rfl) rfl #[.pointer (some ⟨g2019, 0, none⟩), .int .i64 a2035, .int .i64 5, .int .u32 ((t2063.1) % 4294967296)] (by rfl) rfl rfl (by (try simp only [List.map_toArray, List.map_cons, List.map_nil]); first | done | rfl) ?_
  refine (ground_Ground_SetWord.calls l2023 t2063.2 a2029 a2030 a2031 a2032 a2035 5 ((t2063.1) % 4294967296) g2019 g2021 A2024 l2023.length n2026 t2066 _ ⟨HS.out.begin⟩ HA2067).mono ?_
  rintro e_ w2068 ⟨rfl, hS⟩
  replace HS : Aside0 (Sep FF w [b7 g2019 g2021 a2029 a2030 a2031 a2032, b6 g2021 A2024 l2023.length n2026 t2066.2.1, r5 A2024 l2023.length n2026 t2066.2.2, b9 g2017 g2019, b10 g2034 a2035, b8 g2058 a2011 a2012 a2013] w2068) := ⟨HS.out.call hS⟩
  clear hS
  refine ⟨_, rfl, ?_⟩
  refine hK.out _ _ (⟨blk_cellv (HS.out.at3) 0 rfl, blk_cellv (HS.out.at4) 0 rfl, blk_cellv (HS.out.at5) 0 rfl⟩) (fun hHeld => ?_)
  clear hK K
  refine norm_ (a' := ?_) ?_ ?_
  rotate_left
  · show Act.put _ (some 15) _ = _
    simp only [Act.put, List.setIfInBounds_toArray, List.set_cons_zero, List.set_cons_succ, i64_w, i32_w]
    rfl
  refine done_ (by kernel_rfl) ?_
  have hc2069 : w2068.cell? ⟨g2017, 0, none⟩ = some (.pointer (some ⟨g2019, 0, none⟩)) := blk_cellv (HS.out.at3) 0 rfl
  have hc2070 : w2068.cell? ⟨g2058, 0, none⟩ = some (.int .i64 a2011) := blk_cellv (HS.out.at5) 0 rfl
  go_wp2_with fail
  clear hc2069 hc2070
  obtain ⟨t2071, HA2072, H⟩ := bind_some H
  refine (ground_Ground_SetReg.calls t2066.2.2 t2066.2.1 a2029 a2030 a2031 a2032 a2011 a2014 g2019 g2021 A2024 l2023.length n2026 t2071 _ ⟨HS.out.begin⟩ HA2072).mono ?_
  rintro e_ w2073 ⟨rfl, hS⟩
  replace HS : Aside0 (Sep FF w [b7 g2019 g2021 a2029 a2030 a2031 a2032, b6 g2021 A2024 l2023.length n2026 t2071.2.1, r5 A2024 l2023.length n2026 t2071.2.2, b9 g2017 g2019, b10 g2034 a2035, b8 g2058 a2011 a2012 a2013] w2073) := ⟨HS.out.call hS⟩
  clear hS
  by_cases c2074 : a2015 = 0
  · replace H := if_yes c2074 H
    have c2074b0 : (a2015 == 0) = true := beq_iff_eq.mpr c2074
    have c2074b1 : (a2015 != 0) = false := bne_eq_false_iff_eq.mpr c2074
    clear c2074
    have hc2075 : w2073.cell? ⟨g2017, 0, none⟩ = some (.pointer (some ⟨g2019, 0, none⟩)) := blk_cellv (HS.out.at3) 0 rfl
    have hc2076 : w2073.cell? ⟨g2058, 1, none⟩ = some (.int .i64 a2012) := blk_cellv (HS.out.at5) 1 rfl
    go_wp2_with fail
    clear hc2075 hc2076
    obtain ⟨t2077, HA2078, H⟩ := bind_some H
    refine (ground_Ground_SetReg.calls t2071.2.2 t2071.2.1 a2029 a2030 a2031 a2032 a2012 a2014 g2019 g2021 A2024 l2023.length n2026 t2077 _ ⟨HS.out.begin⟩ HA2078).mono ?_
    rintro e_ w2079 ⟨rfl, hS⟩
    replace HS : Aside0 (Sep FF w [b7 g2019 g2021 a2029 a2030 a2031 a2032, b6 g2021 A2024 l2023.length n2026 t2077.2.1, r5 A2024 l2023.length n2026 t2077.2.2, b9 g2017 g2019, b10 g2034 a2035, b8 g2058 a2011 a2012 a2013] w2079) := ⟨HS.out.call hS⟩
    clear hS
    replace HS : Aside0 (Sep FF w [b7 g2019 g2021 a2029 a2030 a2031 a2032, b6 g2021 A2024 l2023.length n2026 t2077.2.1, r5 A2024 l2023.length n2026 t2077.2.2, b9 g2017 g2019, b10 g2034 a2035] w2079) := ⟨HS.out.sub (.cons_cons _ (.cons_cons _ (.cons_cons _ (.cons_cons _ (.cons_cons _ (.cons _ .slnil))))))⟩
    go_wp2_with fail
    first | go_end0 | refine bodyPost_ret (results_none rfl _ _ _) rfl ?_
    rw [← some_eq H]
    exact ⟨rfl, ((((((HS.out).front 4 (by simp)).front 3 (by simp)).front 3 (by simp)).front 3 (by simp)).front 4 (by simp)).keep (l := [b9 g2017 g2019, b7 g2019 g2021 a2029 a2030 a2031 a2032, b6 g2021 A2024 l2023.length n2026 t2077.2.1, r5 A2024 l2023.length n2026 t2077.2.2, b10 g2034 a2035]) (rest := [])⟩
  · replace H := if_no c2074 H
    have c2074b0 : (a2015 == 0) = false := beq_eq_false_iff_ne.mpr c2074
    have c2074b1 : (a2015 != 0) = true := bne_iff_ne.mpr c2074
    clear c2074
    go_wp2_with fail
    first | go_end0 | refine bodyPost_ret (results_none rfl _ _ _) rfl ?_
    rw [← some_eq H]
    exact ⟨rfl, ((((((HS.out).front 4 (by simp)).front 3 (by simp)).front 3 (by simp)).front 3 (by simp)).front 4 (by simp)).keep (l := [b9 g2017 g2019, b7 g2019 g2021 a2029 a2030 a2031 a2032, b6 g2021 A2024 l2023.length n2026 t2071.2.1, r5 A2024 l2023.length n2026 t2071.2.2, b10 g2034 a2035]) (rest := [b8 g2058 a2011 a2012 a2013])⟩

set_option maxHeartbeats 30000000 in
set_option maxRecDepth 100000 in
theorem chain_put_F90.calls (l1967 : List Int) (a1972 : Int) (a1973 : Int) (a1974 : Int) (a1975 : Int) (a1976 : Int) (a1977 : Int) (a1978 : Int) (a1983 : Int) (g1963 : Nat) (g1965 : Nat) (A1968 : Option Addr) (m1969 : Nat) (n1970 : Nat) (g1980 : Nat) (g1982 : Nat) (r : Bool × Int × List Int) (w : World)   (HS : Aside0 (Sep (fps [b7 g1963 g1965 a1973 a1974 a1975 a1976, b6 g1965 A1968 m1969 n1970 a1972, r5 A1968 m1969 n1970 l1967, b9 g1980 g1963, b10 g1982 a1983]) w [b7 g1963 g1965 a1973 a1974 a1975 a1976, b6 g1965 A1968 m1969 n1970 a1972, r5 A1968 m1969 n1970 l1967, b9 g1980 g1963, b10 g1982 a1983] w)) (H : Aside0 (chain_put_F90.f l1967 a1972 a1973 a1974 a1975 a1976 a1977 a1978 a1983 = some r)) :
    Calls Try.prog 88 #[.pointer (some ⟨g1963, 0, none⟩), .int .i64 a1977, .int .i64 a1978, .func (.func 90) #[] #[.pointer (some ⟨g1980, 0, none⟩), .pointer (some ⟨g1982, 0, none⟩)]] w fun e w' => e = .returned (.bool r.1) ∧ Sep (fps [b7 g1963 g1965 a1973 a1974 a1975 a1976, b6 g1965 A1968 m1969 n1970 a1972, r5 A1968 m1969 n1970 l1967, b9 g1980 g1963, b10 g1982 a1983]) w [b7 g1963 g1965 a1973 a1974 a1975 a1976, b6 g1965 A1968 m1969 n1970 r.2.1, r5 A1968 m1969 n1970 r.2.2, b9 g1980 g1963, b10 g1982 a1983] w' := by
  generalize (fps [b7 g1963 g1965 a1973 a1974 a1975 a1976, b6 g1965 A1968 m1969 n1970 a1972, r5 A1968 m1969 n1970 l1967, b9 g1980 g1963, b10 g1982 a1983]) = FF at HS ⊢
  obtain rfl := (row_len (HS.out.at2)).symm
  unfold chain_put_F90.f at H
  go_enter Try.func88, Try.ntmps88
  go_wp2_with fail
  obtain ⟨t2087, HA2088, H⟩ := bind_some H
  refine (chain_of.calls l1967 a1972 a1973 a1974 a1975 a1976 a1977 g1963 g1965 A1968 l1967.length n1970 t2087 _ ⟨HS.out.begin⟩ HA2088).mono ?_
  rintro e_ w2089 ⟨rfl, hS⟩
  replace HS : Aside0 (Sep FF w [b7 g1963 g1965 a1973 a1974 a1975 a1976, b6 g1965 A1968 l1967.length n1970 a1972, r5 A1968 l1967.length n1970 l1967, b9 g1980 g1963, b10 g1982 a1983] w2089) := ⟨HS.out.call hS⟩
  clear hS
  by_cases c2100 : t2087.2.2.2 = true
  · replace H := if_yes c2100 H
    have c2100b0 : t2087.2.2.2 = true := c2100
    have c2100b1 : (!t2087.2.2.2) = false := by rw [c2100b0]; rfl
    try rw [c2100b1]
    clear c2100
    by_cases c2101 : a1978 < 0
    · replace H := if_yes c2101 H
      have c2101b0 : decide (a1978 < 0) = true := decide_eq_true c2101
      clear c2101
      go_wp2_with (first | ((with_reducible refine gate_dst (N := 9) rfl ?_); refine box_on ?hg (N := 9) ?hd (cs := #[.int .i64 0, .int .i64 0, .int .i64 0]) (t := 134) ?hr ?_; (case hd => rfl); (case hg => rfl); (case hr => first | (go_simp; done) | (go_simp; rfl)); intro g2090 hg w2091 hbox hb; replace HS : Aside0 (Sep FF w [b7 g1963 g1965 a1973 a1974 a1975 a1976, b6 g1965 A1968 l1967.length n1970 a1972, r5 A1968 l1967.length n1970 l1967, b9 g1980 g1963, b10 g1982 a1983, b8 g2090 0 0 0] w2091) := ⟨HS.out.box hg hbox hb⟩; clear hg hbox hb; have hc2093 : w2091.cell? ⟨g2090, 0, none⟩ = some (.int .i64 0) := blk_cellv (HS.out.at5) 0 rfl; have hz2094 : w2091.frozen? ⟨g2090, 0, none⟩ = false := blk_fz (HS.out.at5) 0; have hc2095 : w2091.cell? ⟨g2090, 1, none⟩ = some (.int .i64 0) := blk_cellv (HS.out.at5) 1 rfl; have hz2096 : w2091.frozen? ⟨g2090, 1, none⟩ = false := blk_fz (HS.out.at5) 1; have hc2097 : w2091.cell? ⟨g2090, 2, none⟩ = some (.int .i64 0) := blk_cellv (HS.out.at5) 2 rfl; have hz2098 : w2091.frozen? ⟨g2090, 2, none⟩ = false := blk_fz (HS.out.at5) 2) | ((with_reducible refine gate_store (t := 134) (p := 9) rfl ?_); refine store_event (w1 := (World.setCell (World.setCell (World.setCell w2091 ⟨g2090, 0, none⟩ (.int .i64 t2087.1)) ⟨g2090, 1, none⟩ (.int .i64 t2087.2.1)) ⟨g2090, 2, none⟩ (.int .i64 t2087.2.2.1))) rfl (t := 134) (p := 9) rfl rfl ?hr ?_; (case hr => first | (go_simp; done) | (go_simp; rfl)); intro w2099 hst; clear hc2093 hz2094 hc2095 hz2096 hc2097 hz2098; replace HS : Aside0 (Sep FF w [b7 g1963 g1965 a1973 a1974 a1975 a1976, b6 g1965 A1968 l1967.length n1970 a1972, r5 A1968 l1967.length n1970 l1967, b9 g1980 g1963, b10 g1982 a1983, b8 g2090 t2087.1 t2087.2.1 t2087.2.2.1] w2099) := ⟨by rw [hst]; exact HS.out.setAll (l1 := [b7 g1963 g1965 a1973 a1974 a1975 a1976, b6 g1965 A1968 l1967.length n1970 a1972, r5 A1968 l1967.length n1970 l1967, b9 g1980 g1963, b10 g1982 a1983]) (l2 := []) [.int .i64 t2087.1, .int .i64 t2087.2.1, .int .i64 t2087.2.2.1] rfl⟩; clear hst; replace HS : Aside0 (Sep FF w [b7 g1963 g1965 a1973 a1974 a1975 a1976, b6 g1965 A1968 l1967.length n1970 a1972, r5 A1968 l1967.length n1970 l1967, b9 g1980 g1963, b10 g1982 a1983] w2099) := ⟨HS.out.sub (.cons_cons _ (.cons_cons _ (.cons_cons _ (.cons_cons _ (.cons_cons _ (.cons _ .slnil))))))⟩))
      go_ret
      rw [← some_eq H]
      exact ⟨(by first | rfl | (simp [IntKind.wrap_u32]; done)), HS.out⟩
    · replace H := if_no c2101 H
      have c2101b0 : decide (a1978 < 0) = false := decide_eq_false c2101
      clear c2101
      go_wp2_with (first | ((with_reducible refine gate_dst (N := 9) rfl ?_); refine box_on ?hg (N := 9) ?hd (cs := #[.int .i64 0, .int .i64 0, .int .i64 0]) (t := 134) ?hr ?_; (case hd => rfl); (case hg => rfl); (case hr => first | (go_simp; done) | (go_simp; rfl)); intro g2090 hg w2091 hbox hb; replace HS : Aside0 (Sep FF w [b7 g1963 g1965 a1973 a1974 a1975 a1976, b6 g1965 A1968 l1967.length n1970 a1972, r5 A1968 l1967.length n1970 l1967, b9 g1980 g1963, b10 g1982 a1983, b8 g2090 0 0 0] w2091) := ⟨HS.out.box hg hbox hb⟩; clear hg hbox hb; have hc2093 : w2091.cell? ⟨g2090, 0, none⟩ = some (.int .i64 0) := blk_cellv (HS.out.at5) 0 rfl; have hz2094 : w2091.frozen? ⟨g2090, 0, none⟩ = false := blk_fz (HS.out.at5) 0; have hc2095 : w2091.cell? ⟨g2090, 1, none⟩ = some (.int .i64 0) := blk_cellv (HS.out.at5) 1 rfl; have hz2096 : w2091.frozen? ⟨g2090, 1, none⟩ = false := blk_fz (HS.out.at5) 1; have hc2097 : w2091.cell? ⟨g2090, 2, none⟩ = some (.int .i64 0) := blk_cellv (HS.out.at5) 2 rfl; have hz2098 : w2091.frozen? ⟨g2090, 2, none⟩ = false := blk_fz (HS.out.at5) 2) | ((with_reducible refine gate_store (t := 134) (p := 9) rfl ?_); refine store_event (w1 := (World.setCell (World.setCell (World.setCell w2091 ⟨g2090, 0, none⟩ (.int .i64 t2087.1)) ⟨g2090, 1, none⟩ (.int .i64 t2087.2.1)) ⟨g2090, 2, none⟩ (.int .i64 t2087.2.2.1))) rfl (t := 134) (p := 9) rfl rfl ?hr ?_; (case hr => first | (go_simp; done) | (go_simp; rfl)); intro w2099 hst; clear hc2093 hz2094 hc2095 hz2096 hc2097 hz2098; replace HS : Aside0 (Sep FF w [b7 g1963 g1965 a1973 a1974 a1975 a1976, b6 g1965 A1968 l1967.length n1970 a1972, r5 A1968 l1967.length n1970 l1967, b9 g1980 g1963, b10 g1982 a1983, b8 g2090 t2087.1 t2087.2.1 t2087.2.2.1] w2099) := ⟨by rw [hst]; exact HS.out.setAll (l1 := [b7 g1963 g1965 a1973 a1974 a1975 a1976, b6 g1965 A1968 l1967.length n1970 a1972, r5 A1968 l1967.length n1970 l1967, b9 g1980 g1963, b10 g1982 a1983]) (l2 := []) [.int .i64 t2087.1, .int .i64 t2087.2.1, .int .i64 t2087.2.2.1] rfl⟩; clear hst))
      obtain ⟨t2102, HA2103, H⟩ := bind_some H
      refine (ground_Ground_Conf.calls l1967 a1972 a1973 a1974 a1975 a1976 g1963 g1965 A1968 l1967.length n1970 t2102 _ ⟨HS.out.begin⟩ HA2103).mono ?_
      rintro e_ w2104 ⟨rfl, hS⟩
      replace HS : Aside0 (Sep FF w [b7 g1963 g1965 a1973 a1974 a1975 a1976, b6 g1965 A1968 l1967.length n1970 a1972, r5 A1968 l1967.length n1970 l1967, b9 g1980 g1963, b10 g1982 a1983, b8 g2090 t2087.1 t2087.2.1 t2087.2.2.1] w2104) := ⟨HS.out.call hS⟩
      clear hS
      by_cases c2106 : a1978 ≥ t2102.1
      · replace H := if_yes c2106 H
        have c2106b0 : decide (t2102.1 ≤ a1978) = true := decide_eq_true c2106
        clear c2106
        have fl2105 : ∀ w, (Instr.field 49 (.agg #[.int .i64 t2102.1, .int .i64 t2102.2.1, .int .i64 t2102.2.2.1, .int .i64 t2102.2.2.2]) 0).run Try.prog w = .ok (.int .i64 t2102.1) w := fun _ => by kernel_rfl
        replace HS : Aside0 (Sep FF w [b7 g1963 g1965 a1973 a1974 a1975 a1976, b6 g1965 A1968 l1967.length n1970 a1972, r5 A1968 l1967.length n1970 l1967, b9 g1980 g1963, b10 g1982 a1983] w2104) := ⟨HS.out.sub (.cons_cons _ (.cons_cons _ (.cons_cons _ (.cons_cons _ (.cons_cons _ (.cons _ .slnil))))))⟩
        go_wp2_with fail
        clear fl2105
        go_ret
        rw [← some_eq H]
        exact ⟨(by first | rfl | (simp [IntKind.wrap_u32]; done)), HS.out⟩
      · replace H := if_no c2106 H
        have c2106b0 : decide (t2102.1 ≤ a1978) = false := decide_eq_false c2106
        clear c2106
        have fl2105 : ∀ w, (Instr.field 49 (.agg #[.int .i64 t2102.1, .int .i64 t2102.2.1, .int .i64 t2102.2.2.1, .int .i64 t2102.2.2.2]) 0).run Try.prog w = .ok (.int .i64 t2102.1) w := fun _ => by kernel_rfl
        have hc2107 : w2104.cell? ⟨g2090, 2, none⟩ = some (.int .i64 t2087.2.2.1) := blk_cellv (HS.out.at5) 2 rfl
        go_wp2_with fail
        clear fl2105 hc2107
        obtain ⟨t2108, HA2109, H⟩ := bind_some H
        refine (ground_Ground_Reg.calls l1967 a1972 a1973 a1974 a1975 a1976 t2087.2.2.1 g1963 g1965 A1968 l1967.length n1970 t2108 _ ⟨HS.out.begin⟩ HA2109).mono ?_
        rintro e_ w2110 ⟨rfl, hS⟩
        replace HS : Aside0 (Sep FF w [b7 g1963 g1965 a1973 a1974 a1975 a1976, b6 g1965 A1968 l1967.length n1970 t2108.2, r5 A1968 l1967.length n1970 l1967, b9 g1980 g1963, b10 g1982 a1983, b8 g2090 t2087.1 t2087.2.1 t2087.2.2.1] w2110) := ⟨HS.out.call hS⟩
        clear hS
        have hc2111 : w2110.cell? ⟨g2090, 0, none⟩ = some (.int .i64 t2087.1) := blk_cellv (HS.out.at5) 0 rfl
        have hc2112 : w2110.cell? ⟨g2090, 1, none⟩ = some (.int .i64 t2087.2.1) := blk_cellv (HS.out.at5) 1 rfl
        have hc2113 : w2110.cell? ⟨g2090, 2, none⟩ = some (.int .i64 t2087.2.2.1) := blk_cellv (HS.out.at5) 2 rfl
        go_wp2_with fail
        clear hc2111 hc2112 hc2113
        replace HS : Aside0 (Sep FF w [b10 g1982 a1983, b7 g1963 g1965 a1973 a1974 a1975 a1976, b6 g1965 A1968 l1967.length n1970 t2108.2, r5 A1968 l1967.length n1970 l1967, b9 g1980 g1963, b8 g2090 t2087.1 t2087.2.1 t2087.2.2.1] w2110) := ⟨HS.out.front 4 (by simp)⟩
        replace HS : Aside0 (Sep FF w [r5 A1968 l1967.length n1970 l1967, b10 g1982 a1983, b7 g1963 g1965 a1973 a1974 a1975 a1976, b6 g1965 A1968 l1967.length n1970 t2108.2, b9 g1980 g1963, b8 g2090 t2087.1 t2087.2.1 t2087.2.2.1] w2110) := ⟨HS.out.front 3 (by simp)⟩
        replace HS : Aside0 (Sep FF w [b6 g1965 A1968 l1967.length n1970 t2108.2, r5 A1968 l1967.length n1970 l1967, b10 g1982 a1983, b7 g1963 g1965 a1973 a1974 a1975 a1976, b9 g1980 g1963, b8 g2090 t2087.1 t2087.2.1 t2087.2.2.1] w2110) := ⟨HS.out.front 3 (by simp)⟩
        replace HS : Aside0 (Sep FF w [b7 g1963 g1965 a1973 a1974 a1975 a1976, b6 g1965 A1968 l1967.length n1970 t2108.2, r5 A1968 l1967.length n1970 l1967, b10 g1982 a1983, b9 g1980 g1963, b8 g2090 t2087.1 t2087.2.1 t2087.2.2.1] w2110) := ⟨HS.out.front 3 (by simp)⟩
        replace HS : Aside0 (Sep FF w [b9 g1980 g1963, b7 g1963 g1965 a1973 a1974 a1975 a1976, b6 g1965 A1968 l1967.length n1970 t2108.2, r5 A1968 l1967.length n1970 l1967, b10 g1982 a1983, b8 g2090 t2087.1 t2087.2.1 t2087.2.2.1] w2110) := ⟨HS.out.front 4 (by simp)⟩
        obtain ⟨t2114, HA2115, H⟩ := bind_some H
        refine (chain_Push_1.calls t2087.1 t2087.2.1 t2087.2.2.1 (wrap64 (a1978 + 1)) t2108.1 l1967 t2108.2 a1973 a1974 a1975 a1976 a1983 g1980 g1963 g1965 A1968 l1967.length n1970 g1982 t2114 _ ⟨HS.out.begin⟩ HA2115).mono ?_
        rintro e_ w2116 ⟨rfl, hS⟩
        replace HS : Aside0 (Sep FF w [b9 g1980 g1963, b7 g1963 g1965 a1973 a1974 a1975 a1976, b6 g1965 A1968 l1967.length n1970 t2114.1, r5 A1968 l1967.length n1970 t2114.2, b10 g1982 a1983, b8 g2090 t2087.1 t2087.2.1 t2087.2.2.1] w2116) := ⟨HS.out.call hS⟩
        clear hS
        have hc2117 : w2116.cell? ⟨g2090, 2, none⟩ = some (.int .i64 t2087.2.2.1) := blk_cellv (HS.out.at5) 2 rfl
        go_wp2_with fail
        clear hc2117
        replace HS : Aside0 (Sep FF w [r5 A1968 l1967.length n1970 t2114.2, b9 g1980 g1963, b7 g1963 g1965 a1973 a1974 a1975 a1976, b6 g1965 A1968 l1967.length n1970 t2114.1, b10 g1982 a1983, b8 g2090 t2087.1 t2087.2.1 t2087.2.2.1] w2116) := ⟨HS.out.front 3 (by simp)⟩
        replace HS : Aside0 (Sep FF w [b6 g1965 A1968 l1967.length n1970 t2114.1, r5 A1968 l1967.length n1970 t2114.2, b9 g1980 g1963, b7 g1963 g1965 a1973 a1974 a1975 a1976, b10 g1982 a1983, b8 g2090 t2087.1 t2087.2.1 t2087.2.2.1] w2116) := ⟨HS.out.front 3 (by simp)⟩
        replace HS : Aside0 (Sep FF w [b7 g1963 g1965 a1973 a1974 a1975 a1976, b6 g1965 A1968 l1967.length n1970 t2114.1, r5 A1968 l1967.length n1970 t2114.2, b9 g1980 g1963, b10 g1982 a1983, b8 g2090 t2087.1 t2087.2.1 t2087.2.2.1] w2116) := ⟨HS.out.front 3 (by simp)⟩
        obtain ⟨t2118, HA2119, H⟩ := bind_some H
        refine (ground_Ground_SetReg.calls t2114.2 t2114.1 a1973 a1974 a1975 a1976 t2087.2.2.1 (wrap64 (t2108.1 + 1)) g1963 g1965 A1968 l1967.length n1970 t2118 _ ⟨HS.out.begin⟩ HA2119).mono ?_
        rintro e_ w2120 ⟨rfl, hS⟩
        replace HS : Aside0 (Sep FF w [b7 g1963 g1965 a1973 a1974 a1975 a1976, b6 g1965 A1968 l1967.length n1970 t2118.2.1, r5 A1968 l1967.length n1970 t2118.2.2, b9 g1980 g1963, b10 g1982 a1983, b8 g2090 t2087.1 t2087.2.1 t2087.2.2.1] w2120) := ⟨HS.out.call hS⟩
        clear hS
        replace HS : Aside0 (Sep FF w [b7 g1963 g1965 a1973 a1974 a1975 a1976, b6 g1965 A1968 l1967.length n1970 t2118.2.1, r5 A1968 l1967.length n1970 t2118.2.2, b9 g1980 g1963, b10 g1982 a1983] w2120) := ⟨HS.out.sub (.cons_cons _ (.cons_cons _ (.cons_cons _ (.cons_cons _ (.cons_cons _ (.cons _ .slnil))))))⟩
        go_wp2_with fail
        go_ret
        rw [← some_eq H]
        exact ⟨(by first | rfl | (simp [IntKind.wrap_u32]; done)), HS.out⟩
  · replace H := if_no c2100 H
    have c2100b0 : t2087.2.2.2 = false := by simpa using c2100
    have c2100b1 : (!t2087.2.2.2) = true := by rw [c2100b0]; rfl
    try rw [c2100b1]
    clear c2100
    go_wp2_with (first | ((with_reducible refine gate_dst (N := 9) rfl ?_); refine box_on ?hg (N := 9) ?hd (cs := #[.int .i64 0, .int .i64 0, .int .i64 0]) (t := 134) ?hr ?_; (case hd => rfl); (case hg => rfl); (case hr => first | (go_simp; done) | (go_simp; rfl)); intro g2090 hg w2091 hbox hb; replace HS : Aside0 (Sep FF w [b7 g1963 g1965 a1973 a1974 a1975 a1976, b6 g1965 A1968 l1967.length n1970 a1972, r5 A1968 l1967.length n1970 l1967, b9 g1980 g1963, b10 g1982 a1983, b8 g2090 0 0 0] w2091) := ⟨HS.out.box hg hbox hb⟩; clear hg hbox hb; have hc2093 : w2091.cell? ⟨g2090, 0, none⟩ = some (.int .i64 0) := blk_cellv (HS.out.at5) 0 rfl; have hz2094 : w2091.frozen? ⟨g2090, 0, none⟩ = false := blk_fz (HS.out.at5) 0; have hc2095 : w2091.cell? ⟨g2090, 1, none⟩ = some (.int .i64 0) := blk_cellv (HS.out.at5) 1 rfl; have hz2096 : w2091.frozen? ⟨g2090, 1, none⟩ = false := blk_fz (HS.out.at5) 1; have hc2097 : w2091.cell? ⟨g2090, 2, none⟩ = some (.int .i64 0) := blk_cellv (HS.out.at5) 2 rfl; have hz2098 : w2091.frozen? ⟨g2090, 2, none⟩ = false := blk_fz (HS.out.at5) 2) | ((with_reducible refine gate_store (t := 134) (p := 9) rfl ?_); refine store_event (w1 := (World.setCell (World.setCell (World.setCell w2091 ⟨g2090, 0, none⟩ (.int .i64 t2087.1)) ⟨g2090, 1, none⟩ (.int .i64 t2087.2.1)) ⟨g2090, 2, none⟩ (.int .i64 t2087.2.2.1))) rfl (t := 134) (p := 9) rfl rfl ?hr ?_; (case hr => first | (go_simp; done) | (go_simp; rfl)); intro w2099 hst; clear hc2093 hz2094 hc2095 hz2096 hc2097 hz2098; replace HS : Aside0 (Sep FF w [b7 g1963 g1965 a1973 a1974 a1975 a1976, b6 g1965 A1968 l1967.length n1970 a1972, r5 A1968 l1967.length n1970 l1967, b9 g1980 g1963, b10 g1982 a1983, b8 g2090 t2087.1 t2087.2.1 t2087.2.2.1] w2099) := ⟨by rw [hst]; exact HS.out.setAll (l1 := [b7 g1963 g1965 a1973 a1974 a1975 a1976, b6 g1965 A1968 l1967.length n1970 a1972, r5 A1968 l1967.length n1970 l1967, b9 g1980 g1963, b10 g1982 a1983]) (l2 := []) [.int .i64 t2087.1, .int .i64 t2087.2.1, .int .i64 t2087.2.2.1] rfl⟩; clear hst; replace HS : Aside0 (Sep FF w [b7 g1963 g1965 a1973 a1974 a1975 a1976, b6 g1965 A1968 l1967.length n1970 a1972, r5 A1968 l1967.length n1970 l1967, b9 g1980 g1963, b10 g1982 a1983] w2099) := ⟨HS.out.sub (.cons_cons _ (.cons_cons _ (.cons_cons _ (.cons_cons _ (.cons_cons _ (.cons _ .slnil))))))⟩))
    go_ret
    rw [← some_eq H]
    exact ⟨(by first | rfl | (simp [IntKind.wrap_u32]; done)), HS.out⟩

set_option maxHeartbeats 30000000 in
set_option maxRecDepth 100000 in
theorem chain_Push.calls (l1942 : List Int) (a1947 : Int) (a1948 : Int) (a1949 : Int) (a1950 : Int) (a1951 : Int) (a1952 : Int) (a1953 : Int) (g1938 : Nat) (g1940 : Nat) (A1943 : Option Addr) (m1944 : Nat) (n1945 : Nat) (r : Bool × Int × List Int) (w : World)   (HS : Aside0 (Sep (fps [b7 g1938 g1940 a1948 a1949 a1950 a1951, b6 g1940 A1943 m1944 n1945 a1947, r5 A1943 m1944 n1945 l1942]) w [b7 g1938 g1940 a1948 a1949 a1950 a1951, b6 g1940 A1943 m1944 n1945 a1947, r5 A1943 m1944 n1945 l1942] w)) (H : Aside0 (chain_Push.f l1942 a1947 a1948 a1949 a1950 a1951 a1952 a1953 = some r)) :
    Calls Try.prog 53 #[.pointer (some ⟨g1938, 0, none⟩), .int .i64 a1952, .int .i64 a1953] w fun e w' => e = .returned (.bool r.1) ∧ Sep (fps [b7 g1938 g1940 a1948 a1949 a1950 a1951, b6 g1940 A1943 m1944 n1945 a1947, r5 A1943 m1944 n1945 l1942]) w [b7 g1938 g1940 a1948 a1949 a1950 a1951, b6 g1940 A1943 m1944 n1945 r.2.1, r5 A1943 m1944 n1945 r.2.2] w' := by
  generalize (fps [b7 g1938 g1940 a1948 a1949 a1950 a1951, b6 g1940 A1943 m1944 n1945 a1947, r5 A1943 m1944 n1945 l1942]) = FF at HS ⊢
  obtain rfl := (row_len (HS.out.at2)).symm
  unfold chain_Push.f at H
  go_enter Try.func53, Try.ntmps53
  go_wp2_with (first | ((with_reducible refine gate_dst (N := 3) rfl ?_); refine box_on ?hg (N := 3) ?hd (cs := #[.pointer (some ⟨g1938, 0, none⟩)]) (t := 50) ?hr ?_; (case hd => rfl); (case hg => rfl); (case hr => first | (go_simp; done) | (go_simp; rfl)); intro g2124 hg w2125 hbox hb; replace HS : Aside0 (Sep FF w [b7 g1938 g1940 a1948 a1949 a1950 a1951, b6 g1940 A1943 l1942.length n1945 a1947, r5 A1943 l1942.length n1945 l1942, b9 g2124 g1938] w2125) := ⟨HS.out.box hg hbox hb⟩; clear hg hbox hb) | ((with_reducible refine gate_dst (N := 5) rfl ?_); refine box_on ?hg (N := 5) ?hd (cs := #[.int .i64 a1953]) (t := 3) ?hr ?_; (case hd => rfl); (case hg => rfl); (case hr => first | (go_simp; done) | (go_simp; rfl)); intro g2127 hg w2128 hbox hb; replace HS : Aside0 (Sep FF w [b7 g1938 g1940 a1948 a1949 a1950 a1951, b6 g1940 A1943 l1942.length n1945 a1947, r5 A1943 l1942.length n1945 l1942, b9 g2124 g1938, b10 g2127 a1953] w2128) := ⟨HS.out.box hg hbox hb⟩; clear hg hbox hb; have hc2130 : w2128.cell? ⟨g2124, 0, none⟩ = some (.pointer (some ⟨g1938, 0, none⟩)) := blk_cellv (HS.out.at3) 0 rfl; have hc2131 : w2128.cell? ⟨g2127, 0, none⟩ = some (.int .i64 a1953) := blk_cellv (HS.out.at4) 0 rfl))
  clear hc2130 hc2131
  obtain ⟨t2132, HA2133, H⟩ := bind_some H
  refine (chain_put_F90.calls l1942 a1947 a1948 a1949 a1950 a1951 a1952 a1953 a1953 g1938 g1940 A1943 l1942.length n1945 g2124 g2127 t2132 _ ⟨HS.out.begin⟩ HA2133).mono ?_
  rintro e_ w2134 ⟨rfl, hS⟩
  replace HS : Aside0 (Sep FF w [b7 g1938 g1940 a1948 a1949 a1950 a1951, b6 g1940 A1943 l1942.length n1945 t2132.2.1, r5 A1943 l1942.length n1945 t2132.2.2, b9 g2124 g1938, b10 g2127 a1953] w2134) := ⟨HS.out.call hS⟩
  clear hS
  replace HS : Aside0 (Sep FF w [b7 g1938 g1940 a1948 a1949 a1950 a1951, b6 g1940 A1943 l1942.length n1945 t2132.2.1, r5 A1943 l1942.length n1945 t2132.2.2] w2134) := ⟨HS.out.sub (.cons_cons _ (.cons_cons _ (.cons_cons _ (.cons _ (.cons _ .slnil)))))⟩
  go_wp2_with fail
  go_ret
  rw [← some_eq H]
  exact ⟨(by first | rfl | (simp [IntKind.wrap_u32]; done)), HS.out⟩

set_option maxHeartbeats 30000000 in
set_option maxRecDepth 100000 in
theorem pool_Give.calls (l1828 : List Int) (a1833 : Int) (a1834 : Int) (a1835 : Int) (a1836 : Int) (a1837 : Int) (a1838 : Int) (g1824 : Nat) (g1826 : Nat) (A1829 : Option Addr) (m1830 : Nat) (n1831 : Nat) (r : Bool × Int × List Int) (w : World)   (HS : Aside0 (Sep (fps [b7 g1824 g1826 a1834 a1835 a1836 a1837, b6 g1826 A1829 m1830 n1831 a1833, r5 A1829 m1830 n1831 l1828]) w [b7 g1824 g1826 a1834 a1835 a1836 a1837, b6 g1826 A1829 m1830 n1831 a1833, r5 A1829 m1830 n1831 l1828] w)) (H : Aside0 (pool_Give.f l1828 a1833 a1834 a1835 a1836 a1837 a1838 = some r)) :
    Calls Try.prog 62 #[.pointer (some ⟨g1824, 0, none⟩), .int .i64 a1838] w fun e w' => e = .returned (.bool r.1) ∧ Sep (fps [b7 g1824 g1826 a1834 a1835 a1836 a1837, b6 g1826 A1829 m1830 n1831 a1833, r5 A1829 m1830 n1831 l1828]) w [b7 g1824 g1826 a1834 a1835 a1836 a1837, b6 g1826 A1829 m1830 n1831 r.2.1, r5 A1829 m1830 n1831 r.2.2] w' := by
  generalize (fps [b7 g1824 g1826 a1834 a1835 a1836 a1837, b6 g1826 A1829 m1830 n1831 a1833, r5 A1829 m1830 n1831 l1828]) = FF at HS ⊢
  obtain rfl := (row_len (HS.out.at2)).symm
  unfold pool_Give.f at H
  go_enter Try.func62, Try.ntmps62
  go_wp2_with fail
  obtain ⟨t2138, HA2139, H⟩ := bind_some H
  refine (ground_Ground_Word.calls l1828 a1833 a1834 a1835 a1836 a1837 a1838 0 g1824 g1826 A1829 l1828.length n1831 t2138 _ ⟨HS.out.begin⟩ HA2139).mono ?_
  rintro e_ w2140 ⟨rfl, hS⟩
  replace HS : Aside0 (Sep FF w [b7 g1824 g1826 a1834 a1835 a1836 a1837, b6 g1826 A1829 l1828.length n1831 t2138.2, r5 A1829 l1828.length n1831 l1828] w2140) := ⟨HS.out.call hS⟩
  clear hS
  go_wp2_with fail
  obtain ⟨t2141, HA2142, H⟩ := bind_some H
  refine (tag_Unpack.calls t2138.1 t2141 _ ⟨Sep.start _⟩ HA2142).mono ?_
  rintro e_ w2143 ⟨rfl, hS⟩
  replace HS : Aside0 (Sep FF w [b7 g1824 g1826 a1834 a1835 a1836 a1837, b6 g1826 A1829 l1828.length n1831 t2138.2, r5 A1829 l1828.length n1831 l1828] w2143) := ⟨HS.out.call hS⟩
  clear hS
  by_cases c2145 : t2141.1 = 0
  · replace H := if_yes c2145 H
    have c2145b0 : (t2141.1 == 0) = true := beq_iff_eq.mpr c2145
    have c2145b1 : (t2141.1 != 0) = false := bne_eq_false_iff_eq.mpr c2145
    clear c2145
    have fl2144 : ∀ w, (Instr.field 102 (.agg #[.int .i64 t2141.1, .int .i64 t2141.2.1, .int .i64 t2141.2.2.1, .int .i64 t2141.2.2.2.1, .int .i64 t2141.2.2.2.2.1, .int .i64 t2141.2.2.2.2.2.1, .int .i64 t2141.2.2.2.2.2.2]) 0).run Try.prog w = .ok (.int .i64 t2141.1) w := fun _ => by kernel_rfl
    go_wp2_with fail
    clear fl2144
    go_ret
    rw [← some_eq H]
    exact ⟨(by first | rfl | (simp [IntKind.wrap_u32]; done)), HS.out⟩
  · replace H := if_no c2145 H
    have c2145b0 : (t2141.1 == 0) = false := beq_eq_false_iff_ne.mpr c2145
    have c2145b1 : (t2141.1 != 0) = true := bne_iff_ne.mpr c2145
    clear c2145
    have fl2144 : ∀ w, (Instr.field 102 (.agg #[.int .i64 t2141.1, .int .i64 t2141.2.1, .int .i64 t2141.2.2.1, .int .i64 t2141.2.2.2.1, .int .i64 t2141.2.2.2.2.1, .int .i64 t2141.2.2.2.2.2.1, .int .i64 t2141.2.2.2.2.2.2]) 0).run Try.prog w = .ok (.int .i64 t2141.1) w := fun _ => by kernel_rfl
    go_wp2_with fail
    clear fl2144
    obtain ⟨t2146, HA2147, H⟩ := bind_some H
    refine (ground_Ground_SetWord.calls l1828 t2138.2 a1834 a1835 a1836 a1837 a1838 0 0 g1824 g1826 A1829 l1828.length n1831 t2146 _ ⟨HS.out.begin⟩ HA2147).mono ?_
    rintro e_ w2148 ⟨rfl, hS⟩
    replace HS : Aside0 (Sep FF w [b7 g1824 g1826 a1834 a1835 a1836 a1837, b6 g1826 A1829 l1828.length n1831 t2146.2.1, r5 A1829 l1828.length n1831 t2146.2.2] w2148) := ⟨HS.out.call hS⟩
    clear hS
    go_wp2_with fail
    obtain ⟨t2149, HA2150, H⟩ := bind_some H
    refine (chain_Push.calls t2146.2.2 t2146.2.1 a1834 a1835 a1836 a1837 0 a1838 g1824 g1826 A1829 l1828.length n1831 t2149 _ ⟨HS.out.begin⟩ HA2150).mono ?_
    rintro e_ w2151 ⟨rfl, hS⟩
    replace HS : Aside0 (Sep FF w [b7 g1824 g1826 a1834 a1835 a1836 a1837, b6 g1826 A1829 l1828.length n1831 t2149.2.1, r5 A1829 l1828.length n1831 t2149.2.2] w2151) := ⟨HS.out.call hS⟩
    clear hS
    go_wp2_with fail
    go_ret
    rw [← some_eq H]
    exact ⟨(by first | rfl | (simp [IntKind.wrap_u32]; done)), HS.out⟩

set_option maxHeartbeats 30000000 in
set_option maxRecDepth 100000 in
theorem store_Store_Peek.calls (l2231 : List Int) (a2236 : Int) (a2237 : Int) (g2229 : Nat) (A2232 : Option Addr) (m2233 : Nat) (n2234 : Nat) (r : Int) (w : World)   (HS : Aside0 (Sep (fps [b6 g2229 A2232 m2233 n2234 a2236, r5 A2232 m2233 n2234 l2231]) w [b6 g2229 A2232 m2233 n2234 a2236, r5 A2232 m2233 n2234 l2231] w)) (H : Aside0 (store_Store_Peek.f l2231 a2236 a2237 = some r)) :
    Calls Try.prog 20 #[.pointer (some ⟨g2229, 0, none⟩), .int .i64 a2237] w fun e w' => e = .returned (.int .u32 r) ∧ Sep (fps [b6 g2229 A2232 m2233 n2234 a2236, r5 A2232 m2233 n2234 l2231]) w [b6 g2229 A2232 m2233 n2234 a2236, r5 A2232 m2233 n2234 l2231] w' := by
  generalize (fps [b6 g2229 A2232 m2233 n2234 a2236, r5 A2232 m2233 n2234 l2231]) = FF at HS ⊢
  obtain rfl := (row_len (HS.out.at1)).symm
  unfold store_Store_Peek.f at H
  go_enter Try.func20, Try.ntmps20
  go_wp2_with fail
  obtain ⟨t2238, HA2239, H⟩ := bind_some H
  refine (store_Store_has.calls l2231 a2236 a2237 g2229 A2232 l2231.length n2234 t2238 _ ⟨HS.out.begin⟩ HA2239).mono ?_
  rintro e_ w2240 ⟨rfl, hS⟩
  replace HS : Aside0 (Sep FF w [b6 g2229 A2232 l2231.length n2234 a2236, r5 A2232 l2231.length n2234 l2231] w2240) := ⟨HS.out.call hS⟩
  clear hS
  by_cases c2241 : t2238 = true
  · replace H := if_yes c2241 H
    have c2241b0 : t2238 = true := c2241
    have c2241b1 : (!t2238) = false := by rw [c2241b0]; rfl
    try rw [c2241b1]
    clear c2241
    by_cases c2243 : 0 ≤ a2237
    · replace H := if_yes c2243 H
      have c2243b0 : decide (0 ≤ a2237) = true := decide_eq_true c2243
      have c2243p : (0 ≤ a2237) = True := eq_true c2243
      clear c2243
      by_cases c2244 : a2237 < (l2231.length : Int)
      · replace H := if_yes c2244 H
        have c2244b0 : decide (a2237 < (l2231.length : Int)) = true := decide_eq_true c2244
        have c2244p : (a2237 < (l2231.length : Int)) = True := eq_true c2244
        clear c2244
        have hc2242 : w2240.cell? ⟨g2229, 0, none⟩ = some (.slice A2232 l2231.length n2234) := blk_cellv (HS.out.at0) 0 rfl
        obtain ⟨g2245, ea⟩ := row_at (HS.out.at1) (by have := (of_decide_eq_true c2243b0); have := (of_decide_eq_true c2244b0); omega); cases ea
        have hx2246 := C_at_int (row_Ci (HS.out.at1)) a2237 (of_decide_eq_true c2243b0) (of_decide_eq_true c2244b0)
        have hx2247 : w2240.cell? ⟨g2245, (a2237).toNat, none⟩ = some (.int .u32 (rd l2231 a2237)) := (row_get 0 (HS.out.at1) a2237 (of_decide_eq_true c2243b0) (of_decide_eq_true c2244b0)).1
        go_wp2_with fail
        clear hc2242 hx2246 hx2247
        go_ret
        rw [← some_eq H]
        exact ⟨(by first | rfl | (simp [IntKind.wrap_u32]; done)), HS.out⟩
      · replace H := if_no c2244 H
        have c2244b0 : decide (a2237 < (l2231.length : Int)) = false := decide_eq_false c2244
        clear c2244
        exact (none_no H).elim
    · replace H := if_no c2243 H
      have c2243b0 : decide (0 ≤ a2237) = false := decide_eq_false c2243
      clear c2243
      exact (none_no H).elim
  · replace H := if_no c2241 H
    have c2241b0 : t2238 = false := by simpa using c2241
    have c2241b1 : (!t2238) = true := by rw [c2241b0]; rfl
    try rw [c2241b1]
    clear c2241
    go_wp2_with fail
    go_ret
    rw [← some_eq H]
    exact ⟨(by first | rfl | (simp [IntKind.wrap_u32]; done)), HS.out⟩

set_option maxHeartbeats 30000000 in
set_option maxRecDepth 100000 in
theorem ground_Ground_SeeReg.calls (l2211 : List Int) (a2216 : Int) (a2217 : Int) (a2218 : Int) (a2219 : Int) (a2220 : Int) (a2221 : Int) (g2207 : Nat) (g2209 : Nat) (A2212 : Option Addr) (m2213 : Nat) (n2214 : Nat) (r : Int) (w : World)   (HS : Aside0 (Sep (fps [b7 g2207 g2209 a2217 a2218 a2219 a2220, b6 g2209 A2212 m2213 n2214 a2216, r5 A2212 m2213 n2214 l2211]) w [b7 g2207 g2209 a2217 a2218 a2219 a2220, b6 g2209 A2212 m2213 n2214 a2216, r5 A2212 m2213 n2214 l2211] w)) (H : Aside0 (ground_Ground_SeeReg.f l2211 a2216 a2217 a2218 a2219 a2220 a2221 = some r)) :
    Calls Try.prog 48 #[.pointer (some ⟨g2207, 0, none⟩), .int .i64 a2221] w fun e w' => e = .returned (.int .i64 r) ∧ Sep (fps [b7 g2207 g2209 a2217 a2218 a2219 a2220, b6 g2209 A2212 m2213 n2214 a2216, r5 A2212 m2213 n2214 l2211]) w [b7 g2207 g2209 a2217 a2218 a2219 a2220, b6 g2209 A2212 m2213 n2214 a2216, r5 A2212 m2213 n2214 l2211] w' := by
  generalize (fps [b7 g2207 g2209 a2217 a2218 a2219 a2220, b6 g2209 A2212 m2213 n2214 a2216, r5 A2212 m2213 n2214 l2211]) = FF at HS ⊢
  obtain rfl := (row_len (HS.out.at2)).symm
  unfold ground_Ground_SeeReg.f at H
  go_enter Try.func48, Try.ntmps48
  go_wp2_with fail
  obtain ⟨t2222, HA2223, H⟩ := bind_some H
  refine (ground_Ground_all.calls l2211 a2216 a2217 a2218 a2219 a2220 g2207 g2209 A2212 l2211.length n2214 t2222 _ ⟨HS.out.begin⟩ HA2223).mono ?_
  rintro e_ w2224 ⟨rfl, hS⟩
  replace HS : Aside0 (Sep FF w [b7 g2207 g2209 a2217 a2218 a2219 a2220, b6 g2209 A2212 l2211.length n2214 a2216, r5 A2212 l2211.length n2214 l2211] w2224) := ⟨HS.out.call hS⟩
  clear hS
  go_wp2_with fail
  obtain ⟨t2225, HA2226, H⟩ := bind_some H
  refine (ground_reg.calls a2221 t2225 _ ⟨Sep.start _⟩ HA2226).mono ?_
  rintro e_ w2227 ⟨rfl, hS⟩
  replace HS : Aside0 (Sep FF w [b7 g2207 g2209 a2217 a2218 a2219 a2220, b6 g2209 A2212 l2211.length n2214 a2216, r5 A2212 l2211.length n2214 l2211] w2227) := ⟨HS.out.call hS⟩
  clear hS
  go_wp2_with fail
  replace HS : Aside0 (Sep FF w [r5 A2212 l2211.length n2214 l2211, b7 g2207 g2209 a2217 a2218 a2219 a2220, b6 g2209 A2212 l2211.length n2214 a2216] w2227) := ⟨HS.out.front 2 (by simp)⟩
  replace HS : Aside0 (Sep FF w [b6 g2209 A2212 l2211.length n2214 a2216, r5 A2212 l2211.length n2214 l2211, b7 g2207 g2209 a2217 a2218 a2219 a2220] w2227) := ⟨HS.out.front 2 (by simp)⟩
  obtain ⟨t2248, HA2249, H⟩ := bind_some H
  refine (store_Store_Peek.calls l2211 a2216 t2225 g2209 A2212 l2211.length n2214 t2248 _ ⟨HS.out.begin⟩ HA2249).mono ?_
  rintro e_ w2250 ⟨rfl, hS⟩
  replace HS : Aside0 (Sep FF w [b6 g2209 A2212 l2211.length n2214 a2216, r5 A2212 l2211.length n2214 l2211, b7 g2207 g2209 a2217 a2218 a2219 a2220] w2250) := ⟨HS.out.call hS⟩
  clear hS
  go_wp2_with fail
  go_ret
  rw [← some_eq H]
  exact ⟨(by first | rfl | (simp [IntKind.wrap_u32]; done)), ((((HS.out).front 1 (by simp)).front 1 (by simp)).front 2 (by simp)).keep (l := [b7 g2207 g2209 a2217 a2218 a2219 a2220, b6 g2209 A2212 l2211.length n2214 a2216, r5 A2212 l2211.length n2214 l2211]) (rest := [])⟩

set_option maxHeartbeats 30000000 in
set_option maxRecDepth 100000 in
theorem ground_Ground_SeeWord.calls (l2288 : List Int) (a2293 : Int) (a2294 : Int) (a2295 : Int) (a2296 : Int) (a2297 : Int) (a2298 : Int) (a2299 : Int) (g2284 : Nat) (g2286 : Nat) (A2289 : Option Addr) (m2290 : Nat) (n2291 : Nat) (r : Int) (w : World)   (HS : Aside0 (Sep (fps [b7 g2284 g2286 a2294 a2295 a2296 a2297, b6 g2286 A2289 m2290 n2291 a2293, r5 A2289 m2290 n2291 l2288]) w [b7 g2284 g2286 a2294 a2295 a2296 a2297, b6 g2286 A2289 m2290 n2291 a2293, r5 A2289 m2290 n2291 l2288] w)) (H : Aside0 (ground_Ground_SeeWord.f l2288 a2293 a2294 a2295 a2296 a2297 a2298 a2299 = some r)) :
    Calls Try.prog 50 #[.pointer (some ⟨g2284, 0, none⟩), .int .i64 a2298, .int .i64 a2299] w fun e w' => e = .returned (.int .u32 r) ∧ Sep (fps [b7 g2284 g2286 a2294 a2295 a2296 a2297, b6 g2286 A2289 m2290 n2291 a2293, r5 A2289 m2290 n2291 l2288]) w [b7 g2284 g2286 a2294 a2295 a2296 a2297, b6 g2286 A2289 m2290 n2291 a2293, r5 A2289 m2290 n2291 l2288] w' := by
  generalize (fps [b7 g2284 g2286 a2294 a2295 a2296 a2297, b6 g2286 A2289 m2290 n2291 a2293, r5 A2289 m2290 n2291 l2288]) = FF at HS ⊢
  obtain rfl := (row_len (HS.out.at2)).symm
  unfold ground_Ground_SeeWord.f at H
  go_enter Try.func50, Try.ntmps50
  go_wp2_with fail
  obtain ⟨t2300, HA2301, H⟩ := bind_some H
  refine (ground_Ground_all.calls l2288 a2293 a2294 a2295 a2296 a2297 g2284 g2286 A2289 l2288.length n2291 t2300 _ ⟨HS.out.begin⟩ HA2301).mono ?_
  rintro e_ w2302 ⟨rfl, hS⟩
  replace HS : Aside0 (Sep FF w [b7 g2284 g2286 a2294 a2295 a2296 a2297, b6 g2286 A2289 l2288.length n2291 a2293, r5 A2289 l2288.length n2291 l2288] w2302) := ⟨HS.out.call hS⟩
  clear hS
  go_wp2_with fail
  obtain ⟨t2303, HA2304, H⟩ := bind_some H
  refine (ground_Ground_word.calls l2288 a2293 a2294 a2295 a2296 a2297 a2298 a2299 g2284 g2286 A2289 l2288.length n2291 t2303 _ ⟨HS.out.begin⟩ HA2304).mono ?_
  rintro e_ w2305 ⟨rfl, hS⟩
  replace HS : Aside0 (Sep FF w [b7 g2284 g2286 a2294 a2295 a2296 a2297, b6 g2286 A2289 l2288.length n2291 a2293, r5 A2289 l2288.length n2291 l2288] w2305) := ⟨HS.out.call hS⟩
  clear hS
  go_wp2_with fail
  replace HS : Aside0 (Sep FF w [r5 A2289 l2288.length n2291 l2288, b7 g2284 g2286 a2294 a2295 a2296 a2297, b6 g2286 A2289 l2288.length n2291 a2293] w2305) := ⟨HS.out.front 2 (by simp)⟩
  replace HS : Aside0 (Sep FF w [b6 g2286 A2289 l2288.length n2291 a2293, r5 A2289 l2288.length n2291 l2288, b7 g2284 g2286 a2294 a2295 a2296 a2297] w2305) := ⟨HS.out.front 2 (by simp)⟩
  obtain ⟨t2306, HA2307, H⟩ := bind_some H
  refine (store_Store_Peek.calls l2288 a2293 t2303 g2286 A2289 l2288.length n2291 t2306 _ ⟨HS.out.begin⟩ HA2307).mono ?_
  rintro e_ w2308 ⟨rfl, hS⟩
  replace HS : Aside0 (Sep FF w [b6 g2286 A2289 l2288.length n2291 a2293, r5 A2289 l2288.length n2291 l2288, b7 g2284 g2286 a2294 a2295 a2296 a2297] w2308) := ⟨HS.out.call hS⟩
  clear hS
  go_wp2_with fail
  go_ret
  rw [← some_eq H]
  exact ⟨(by first | rfl | (simp [IntKind.wrap_u32]; done)), ((((HS.out).front 1 (by simp)).front 1 (by simp)).front 2 (by simp)).keep (l := [b7 g2284 g2286 a2294 a2295 a2296 a2297, b6 g2286 A2289 l2288.length n2291 a2293, r5 A2289 l2288.length n2291 l2288]) (rest := [])⟩

set_option maxHeartbeats 30000000 in
set_option maxRecDepth 100000 in
theorem chain_List.calls (k : Nat) (l2180 : List Int) (a2185 : Int) (a2186 : Int) (a2187 : Int) (a2188 : Int) (a2189 : Int) (a2190 : Int) (g2176 : Nat) (g2178 : Nat) (A2181 : Option Addr) (m2182 : Nat) (n2183 : Nat) (r : List Int) (w : World)   (HS : Aside0 (Sep (fps [b7 g2176 g2178 a2186 a2187 a2188 a2189, b6 g2178 A2181 m2182 n2183 a2185, r5 A2181 m2182 n2183 l2180]) w [b7 g2176 g2178 a2186 a2187 a2188 a2189, b6 g2178 A2181 m2182 n2183 a2185, r5 A2181 m2182 n2183 l2180] w)) (H : Aside0 (chain_List.f k l2180 a2185 a2186 a2187 a2188 a2189 a2190 = some r)) :
    Calls Try.prog 56 #[.pointer (some ⟨g2176, 0, none⟩), .int .i64 a2190] w fun e w' => ∃ (A2339 : Option Addr) (m2340 : Nat) (n2341 : Nat), e = .returned (.slice A2339 m2340 n2341) ∧ Sep (fps [b7 g2176 g2178 a2186 a2187 a2188 a2189, b6 g2178 A2181 m2182 n2183 a2185, r5 A2181 m2182 n2183 l2180]) w [b7 g2176 g2178 a2186 a2187 a2188 a2189, b6 g2178 A2181 m2182 n2183 a2185, r5 A2181 m2182 n2183 l2180, r13 A2339 m2340 n2341 r] w' := by
  generalize (fps [b7 g2176 g2178 a2186 a2187 a2188 a2189, b6 g2178 A2181 m2182 n2183 a2185, r5 A2181 m2182 n2183 l2180]) = FF at HS ⊢
  obtain rfl := (row_len (HS.out.at2)).symm
  unfold chain_List.f at H
  go_enter Try.func56, Try.ntmps56
  go_wp2_with fail
  obtain ⟨t2191, HA2192, H⟩ := bind_some H
  refine (chain_of.calls l2180 a2185 a2186 a2187 a2188 a2189 a2190 g2176 g2178 A2181 l2180.length n2183 t2191 _ ⟨HS.out.begin⟩ HA2192).mono ?_
  rintro e_ w2193 ⟨rfl, hS⟩
  replace HS : Aside0 (Sep FF w [b7 g2176 g2178 a2186 a2187 a2188 a2189, b6 g2178 A2181 l2180.length n2183 a2185, r5 A2181 l2180.length n2183 l2180] w2193) := ⟨HS.out.call hS⟩
  clear hS
  by_cases c2204 : t2191.2.2.2 = true
  · replace H := if_yes c2204 H
    have c2204b0 : t2191.2.2.2 = true := c2204
    have c2204b1 : (!t2191.2.2.2) = false := by rw [c2204b0]; rfl
    try rw [c2204b1]
    clear c2204
    go_wp2_with (first | ((with_reducible refine gate_dst (N := 5) rfl ?_); refine box_on ?hg (N := 5) ?hd (cs := #[.int .i64 0, .int .i64 0, .int .i64 0]) (t := 134) ?hr ?_; (case hd => rfl); (case hg => rfl); (case hr => first | (go_simp; done) | (go_simp; rfl)); intro g2194 hg w2195 hbox hb; replace HS : Aside0 (Sep FF w [b7 g2176 g2178 a2186 a2187 a2188 a2189, b6 g2178 A2181 l2180.length n2183 a2185, r5 A2181 l2180.length n2183 l2180, b8 g2194 0 0 0] w2195) := ⟨HS.out.box hg hbox hb⟩; clear hg hbox hb; have hc2197 : w2195.cell? ⟨g2194, 0, none⟩ = some (.int .i64 0) := blk_cellv (HS.out.at3) 0 rfl; have hz2198 : w2195.frozen? ⟨g2194, 0, none⟩ = false := blk_fz (HS.out.at3) 0; have hc2199 : w2195.cell? ⟨g2194, 1, none⟩ = some (.int .i64 0) := blk_cellv (HS.out.at3) 1 rfl; have hz2200 : w2195.frozen? ⟨g2194, 1, none⟩ = false := blk_fz (HS.out.at3) 1; have hc2201 : w2195.cell? ⟨g2194, 2, none⟩ = some (.int .i64 0) := blk_cellv (HS.out.at3) 2 rfl; have hz2202 : w2195.frozen? ⟨g2194, 2, none⟩ = false := blk_fz (HS.out.at3) 2) | ((with_reducible refine gate_store (t := 134) (p := 5) rfl ?_); refine store_event (w1 := (World.setCell (World.setCell (World.setCell w2195 ⟨g2194, 0, none⟩ (.int .i64 t2191.1)) ⟨g2194, 1, none⟩ (.int .i64 t2191.2.1)) ⟨g2194, 2, none⟩ (.int .i64 t2191.2.2.1))) rfl (t := 134) (p := 5) rfl rfl ?hr ?_; (case hr => first | (go_simp; done) | (go_simp; rfl)); intro w2203 hst; clear hc2197 hz2198 hc2199 hz2200 hc2201 hz2202; replace HS : Aside0 (Sep FF w [b7 g2176 g2178 a2186 a2187 a2188 a2189, b6 g2178 A2181 l2180.length n2183 a2185, r5 A2181 l2180.length n2183 l2180, b8 g2194 t2191.1 t2191.2.1 t2191.2.2.1] w2203) := ⟨by rw [hst]; exact HS.out.setAll (l1 := [b7 g2176 g2178 a2186 a2187 a2188 a2189, b6 g2178 A2181 l2180.length n2183 a2185, r5 A2181 l2180.length n2183 l2180]) (l2 := []) [.int .i64 t2191.1, .int .i64 t2191.2.1, .int .i64 t2191.2.2.1] rfl⟩; clear hst; have hc2205 : w2203.cell? ⟨g2194, 0, none⟩ = some (.int .i64 t2191.1) := blk_cellv (HS.out.at3) 0 rfl))
    clear hc2205
    obtain ⟨t2251, HA2252, H⟩ := bind_some H
    refine (ground_Ground_SeeReg.calls l2180 a2185 a2186 a2187 a2188 a2189 t2191.1 g2176 g2178 A2181 l2180.length n2183 t2251 _ ⟨HS.out.begin⟩ HA2252).mono ?_
    rintro e_ w2253 ⟨rfl, hS⟩
    replace HS : Aside0 (Sep FF w [b7 g2176 g2178 a2186 a2187 a2188 a2189, b6 g2178 A2181 l2180.length n2183 a2185, r5 A2181 l2180.length n2183 l2180, b8 g2194 t2191.1 t2191.2.1 t2191.2.2.1] w2253) := ⟨HS.out.call hS⟩
    clear hS
    replace HS : Aside0 (Sep FF w [b7 g2176 g2178 a2186 a2187 a2188 a2189, b6 g2178 A2181 l2180.length n2183 a2185, r5 A2181 l2180.length n2183 l2180] w2253) := ⟨HS.out.sub (.cons_cons _ (.cons_cons _ (.cons_cons _ (.cons _ .slnil))))⟩
    go_wp2_with fail
    replace HS : Aside0 (Sep FF w [r13 none 0 0 [], b7 g2176 g2178 a2186 a2187 a2188 a2189, b6 g2178 A2181 l2180.length n2183 a2185, r5 A2181 l2180.length n2183 l2180] w2253) := ⟨HS.out.nilrow 3 (Value.int .i64)⟩
    obtain ⟨o2255, AL2256, H⟩ := bind_some H
    go_loopg [7, 8] k (fun kq v7 v8 wc => ∃ (x2261 : Int) (x2262 : List Int) (A2263 : Option Addr) (m2264 : Nat) (n2265 : Nat), v7 = .slice A2263 m2264 n2265 ∧ v8 = .int .i64 x2261 ∧ Aside0 (chain_List.lo0 kq l2180 a2185 a2186 a2187 a2188 a2189 x2261 x2262 = some o2255) ∧ Aside0 (Sep FF w [r13 A2263 m2264 n2265 x2262, b7 g2176 g2178 a2186 a2187 a2188 a2189, b6 g2178 A2181 l2180.length n2183 a2185, r5 A2181 l2180.length n2183 l2180] wc))
    case atStart => exact ⟨(t2251), (([] : List Int)), (none), (0), (0), (by first | rfl | (simp [IntKind.wrap_u32]; done)), (by first | rfl | (simp [IntKind.wrap_u32]; done)), AL2256, ⟨HS.out⟩⟩
    case round =>
      clear AL2256 HS
      obtain ⟨x2261, x2262, A2263, m2264, n2265, rfl, rfl, AL2256, HS⟩ := hrel
      obtain ⟨w2257, rfl⟩ : ∃ x : World, x = wr := ⟨_, rfl⟩
      obtain rfl := (row_len (HS.out.at0)).symm
      cases gk with
      | zero => exact absurd AL2256.out (by simp [chain_List.lo0])
      | succ k2258 =>
        have AL0 := AL2256.out
        rw [chain_List.lo0] at AL0
        clear AL2256
        have AL2256 := Aside0.mk AL0
        clear AL0
        by_cases c2267 : x2261 > 0
        · replace AL2256 := if_yes c2267 AL2256
          have c2267b0 : decide (0 < x2261) = true := decide_eq_true c2267
          clear c2267
          go_wp2_with fail
          replace HS : Aside0 (Sep FF w [r5 A2181 l2180.length n2183 l2180, r13 A2263 x2262.length n2265 x2262, b7 g2176 g2178 a2186 a2187 a2188 a2189, b6 g2178 A2181 l2180.length n2183 a2185] w2257) := ⟨HS.out.front 3 (by simp)⟩
          replace HS : Aside0 (Sep FF w [b6 g2178 A2181 l2180.length n2183 a2185, r5 A2181 l2180.length n2183 l2180, r13 A2263 x2262.length n2265 x2262, b7 g2176 g2178 a2186 a2187 a2188 a2189] w2257) := ⟨HS.out.front 3 (by simp)⟩
          replace HS : Aside0 (Sep FF w [b7 g2176 g2178 a2186 a2187 a2188 a2189, b6 g2178 A2181 l2180.length n2183 a2185, r5 A2181 l2180.length n2183 l2180, r13 A2263 x2262.length n2265 x2262] w2257) := ⟨HS.out.front 3 (by simp)⟩
          obtain ⟨t2268, HA2269, AL2256⟩ := bind_some AL2256
          refine (ground_Ground_Conf.calls l2180 a2185 a2186 a2187 a2188 a2189 g2176 g2178 A2181 l2180.length n2183 t2268 _ ⟨HS.out.begin⟩ HA2269).mono ?_
          rintro e_ w2270 ⟨rfl, hS⟩
          replace HS : Aside0 (Sep FF w [b7 g2176 g2178 a2186 a2187 a2188 a2189, b6 g2178 A2181 l2180.length n2183 a2185, r5 A2181 l2180.length n2183 l2180, r13 A2263 x2262.length n2265 x2262] w2270) := ⟨HS.out.call hS⟩
          clear hS
          by_cases c2272 : (x2262.length : Int) < t2268.1
          · replace AL2256 := if_yes c2272 AL2256
            have c2272b0 : decide ((x2262.length : Int) < t2268.1) = true := decide_eq_true c2272
            clear c2272
            by_cases c2276 : x2262.length < 17592186044416
            · replace AL2256 := if_yes c2276 AL2256
              have c2276b0 : decide (x2262.length < 17592186044416) = true := decide_eq_true c2276
              clear c2276
              obtain ⟨y2280, HA2281, AL2256⟩ := bind_some AL2256
              have fl2271 : ∀ w, (Instr.field 49 (.agg #[.int .i64 t2268.1, .int .i64 t2268.2.1, .int .i64 t2268.2.2.1, .int .i64 t2268.2.2.2]) 0).run Try.prog w = .ok (.int .i64 t2268.1) w := fun _ => by kernel_rfl
              go_wp2_with (first | ((with_reducible refine gate_dst (N := 39) rfl ?_); refine slice_on (n := 1) ?hg (N := 39) ?hd (cs := #[.int .i64 (wrap64 (x2261 - 1))]) (t := 3) ?hr ?_; (case hd => rfl); (case hg => rfl); (case hr => first | (go_simp; done) | (go_simp; rfl)); intro g2273 hg w2274 hbox hb; clear fl2271; replace HS : Aside0 (Sep FF w [b7 g2176 g2178 a2186 a2187 a2188 a2189, b6 g2178 A2181 l2180.length n2183 a2185, r5 A2181 l2180.length n2183 l2180, r13 A2263 x2262.length n2265 x2262, b10 g2273 (wrap64 (x2261 - 1))] w2274) := ⟨HS.out.box hg hbox hb⟩; clear hg hbox hb) | ((with_reducible refine gate_dst (N := 40) rfl ?_); refine append_event (l1 := [b7 g2176 g2178 a2186 a2187 a2188 a2189, b6 g2178 A2181 l2180.length n2183 a2185, r5 A2181 l2180.length n2183 l2180]) (l2 := [b10 g2273 (wrap64 (x2261 - 1))]) rfl (.tmp 36) (.tmp 39) 78 3 (.int .i64 0) 8 rfl Try.underlying78 (by kernel_rfl) rfl (by decide) (Value.int .i64) (fun _ => rfl) (.slice A2263 x2262.length n2265) (x2262 : List Int) [wrap64 (x2261 - 1)] ⟨g2273, 0, none⟩ 1 rfl rfl (blk_news (xs := [wrap64 (x2261 - 1)]) (HS.out.at4)) HS.out (by have := of_decide_eq_true c2276b0; simp only [List.length_cons, List.length_nil]; omega) HA2281 ?_; intro A2277 n2278 w2279 HS1; replace HS : Aside0 (Sep FF w [b7 g2176 g2178 a2186 a2187 a2188 a2189, b6 g2178 A2181 l2180.length n2183 a2185, r5 A2181 l2180.length n2183 l2180, r13 A2277 y2280.length n2278 y2280, b10 g2273 (wrap64 (x2261 - 1))] w2279) := ⟨HS1⟩; clear HS1; replace HS : Aside0 (Sep FF w [b7 g2176 g2178 a2186 a2187 a2188 a2189, b6 g2178 A2181 l2180.length n2183 a2185, r5 A2181 l2180.length n2183 l2180, r13 A2277 y2280.length n2278 y2280] w2279) := ⟨HS.out.sub (.cons_cons _ (.cons_cons _ (.cons_cons _ (.cons_cons _ (.cons _ .slnil)))))⟩))
              obtain ⟨t2309, HA2310, AL2256⟩ := bind_some AL2256
              refine (ground_Ground_SeeWord.calls l2180 a2185 a2186 a2187 a2188 a2189 (wrap64 (x2261 - 1)) 5 g2176 g2178 A2181 l2180.length n2183 t2309 _ ⟨HS.out.begin⟩ HA2310).mono ?_
              rintro e_ w2311 ⟨rfl, hS⟩
              replace HS : Aside0 (Sep FF w [b7 g2176 g2178 a2186 a2187 a2188 a2189, b6 g2178 A2181 l2180.length n2183 a2185, r5 A2181 l2180.length n2183 l2180, r13 A2277 y2280.length n2278 y2280] w2311) := ⟨HS.out.call hS⟩
              clear hS
              go_wp2_with fail
              go_roundg k2258
              case measure => exact Nat.lt_succ_self _
              case rel => exact ⟨(wrap64 (t2309)), (y2280), (A2277), (y2280.length), (n2278), (by first | rfl | (simp [IntKind.wrap_u32]; done)), (by first | rfl | (simp [IntKind.wrap_u32]; done)), Aside0.mk AL2256.out, ⟨(((((HS.out).front 2 (by simp)).front 2 (by simp)).front 2 (by simp)).front 3 (by simp)).keep (l := [r13 A2277 y2280.length n2278 y2280, b7 g2176 g2178 a2186 a2187 a2188 a2189, b6 g2178 A2181 l2180.length n2183 a2185, r5 A2181 l2180.length n2183 l2180]) (rest := [])⟩⟩
            · replace AL2256 := if_no c2276 AL2256
              have c2276b0 : decide (x2262.length < 17592186044416) = false := decide_eq_false c2276
              clear c2276
              exact (none_no AL2256).elim
          · replace AL2256 := if_no c2272 AL2256
            have c2272b0 : decide ((x2262.length : Int) < t2268.1) = false := decide_eq_false c2272
            clear c2272
            have ho := some_eq AL2256
            subst ho
            clear AL2256
            have fl2271 : ∀ w, (Instr.field 49 (.agg #[.int .i64 t2268.1, .int .i64 t2268.2.1, .int .i64 t2268.2.2.1, .int .i64 t2268.2.2.2]) 0).run Try.prog w = .ok (.int .i64 t2268.1) w := fun _ => by kernel_rfl
            go_wp2_with fail
            clear fl2271
            go_ret
            rw [← some_eq H]
            exact ⟨A2263, x2262.length, n2265, (by first | rfl | (simp [IntKind.wrap_u32]; done)), HS.out⟩
        · replace AL2256 := if_no c2267 AL2256
          have c2267b0 : decide (0 < x2261) = false := decide_eq_false c2267
          clear c2267
          have ho := some_eq AL2256
          subst ho
          clear AL2256
          go_wp2_with fail
          go_ret
          rw [← some_eq H]
          exact ⟨A2263, x2262.length, n2265, (by first | rfl | (simp [IntKind.wrap_u32]; done)), ((((HS.out).front 3 (by simp)).front 3 (by simp)).front 3 (by simp)).keep (l := [b7 g2176 g2178 a2186 a2187 a2188 a2189, b6 g2178 A2181 l2180.length n2183 a2185, r5 A2181 l2180.length n2183 l2180, r13 A2263 x2262.length n2265 x2262]) (rest := [])⟩
  · replace H := if_no c2204 H
    have c2204b0 : t2191.2.2.2 = false := by simpa using c2204
    have c2204b1 : (!t2191.2.2.2) = true := by rw [c2204b0]; rfl
    try rw [c2204b1]
    clear c2204
    go_wp2_with (first | ((with_reducible refine gate_dst (N := 5) rfl ?_); refine box_on ?hg (N := 5) ?hd (cs := #[.int .i64 0, .int .i64 0, .int .i64 0]) (t := 134) ?hr ?_; (case hd => rfl); (case hg => rfl); (case hr => first | (go_simp; done) | (go_simp; rfl)); intro g2194 hg w2195 hbox hb; replace HS : Aside0 (Sep FF w [b7 g2176 g2178 a2186 a2187 a2188 a2189, b6 g2178 A2181 l2180.length n2183 a2185, r5 A2181 l2180.length n2183 l2180, b8 g2194 0 0 0] w2195) := ⟨HS.out.box hg hbox hb⟩; clear hg hbox hb; have hc2197 : w2195.cell? ⟨g2194, 0, none⟩ = some (.int .i64 0) := blk_cellv (HS.out.at3) 0 rfl; have hz2198 : w2195.frozen? ⟨g2194, 0, none⟩ = false := blk_fz (HS.out.at3) 0; have hc2199 : w2195.cell? ⟨g2194, 1, none⟩ = some (.int .i64 0) := blk_cellv (HS.out.at3) 1 rfl; have hz2200 : w2195.frozen? ⟨g2194, 1, none⟩ = false := blk_fz (HS.out.at3) 1; have hc2201 : w2195.cell? ⟨g2194, 2, none⟩ = some (.int .i64 0) := blk_cellv (HS.out.at3) 2 rfl; have hz2202 : w2195.frozen? ⟨g2194, 2, none⟩ = false := blk_fz (HS.out.at3) 2) | ((with_reducible refine gate_store (t := 134) (p := 5) rfl ?_); refine store_event (w1 := (World.setCell (World.setCell (World.setCell w2195 ⟨g2194, 0, none⟩ (.int .i64 t2191.1)) ⟨g2194, 1, none⟩ (.int .i64 t2191.2.1)) ⟨g2194, 2, none⟩ (.int .i64 t2191.2.2.1))) rfl (t := 134) (p := 5) rfl rfl ?hr ?_; (case hr => first | (go_simp; done) | (go_simp; rfl)); intro w2203 hst; clear hc2197 hz2198 hc2199 hz2200 hc2201 hz2202; replace HS : Aside0 (Sep FF w [b7 g2176 g2178 a2186 a2187 a2188 a2189, b6 g2178 A2181 l2180.length n2183 a2185, r5 A2181 l2180.length n2183 l2180, b8 g2194 t2191.1 t2191.2.1 t2191.2.2.1] w2203) := ⟨by rw [hst]; exact HS.out.setAll (l1 := [b7 g2176 g2178 a2186 a2187 a2188 a2189, b6 g2178 A2181 l2180.length n2183 a2185, r5 A2181 l2180.length n2183 l2180]) (l2 := []) [.int .i64 t2191.1, .int .i64 t2191.2.1, .int .i64 t2191.2.2.1] rfl⟩; clear hst; replace HS : Aside0 (Sep FF w [b7 g2176 g2178 a2186 a2187 a2188 a2189, b6 g2178 A2181 l2180.length n2183 a2185, r5 A2181 l2180.length n2183 l2180] w2203) := ⟨HS.out.sub (.cons_cons _ (.cons_cons _ (.cons_cons _ (.cons _ .slnil))))⟩))
    replace HS : Aside0 (Sep FF w [r13 none 0 0 [], b7 g2176 g2178 a2186 a2187 a2188 a2189, b6 g2178 A2181 l2180.length n2183 a2185, r5 A2181 l2180.length n2183 l2180] w2203) := ⟨HS.out.nilrow 3 (Value.int .i64)⟩
    go_ret
    rw [← some_eq H]
    exact ⟨none, 0, 0, (by first | rfl | (simp [IntKind.wrap_u32]; done)), ((((HS.out).front 3 (by simp)).front 3 (by simp)).front 3 (by simp)).keep (l := [b7 g2176 g2178 a2186 a2187 a2188 a2189, b6 g2178 A2181 l2180.length n2183 a2185, r5 A2181 l2180.length n2183 l2180, r13 none 0 0 []]) (rest := [])⟩

set_option maxHeartbeats 30000000 in
set_option maxRecDepth 100000 in
theorem pool_List.calls (k : Nat) (l2165 : List Int) (a2170 : Int) (a2171 : Int) (a2172 : Int) (a2173 : Int) (a2174 : Int) (g2161 : Nat) (g2163 : Nat) (A2166 : Option Addr) (m2167 : Nat) (n2168 : Nat) (r : List Int) (w : World)   (HS : Aside0 (Sep (fps [b7 g2161 g2163 a2171 a2172 a2173 a2174, b6 g2163 A2166 m2167 n2168 a2170, r5 A2166 m2167 n2168 l2165]) w [b7 g2161 g2163 a2171 a2172 a2173 a2174, b6 g2163 A2166 m2167 n2168 a2170, r5 A2166 m2167 n2168 l2165] w)) (H : Aside0 (pool_List.f k l2165 a2170 a2171 a2172 a2173 a2174 = some r)) :
    Calls Try.prog 64 #[.pointer (some ⟨g2161, 0, none⟩)] w fun e w' => ∃ (A2357 : Option Addr) (m2358 : Nat) (n2359 : Nat), e = .returned (.slice A2357 m2358 n2359) ∧ Sep (fps [b7 g2161 g2163 a2171 a2172 a2173 a2174, b6 g2163 A2166 m2167 n2168 a2170, r5 A2166 m2167 n2168 l2165]) w [b7 g2161 g2163 a2171 a2172 a2173 a2174, b6 g2163 A2166 m2167 n2168 a2170, r5 A2166 m2167 n2168 l2165, r13 A2357 m2358 n2359 r] w' := by
  generalize (fps [b7 g2161 g2163 a2171 a2172 a2173 a2174, b6 g2163 A2166 m2167 n2168 a2170, r5 A2166 m2167 n2168 l2165]) = FF at HS ⊢
  obtain rfl := (row_len (HS.out.at2)).symm
  unfold pool_List.f at H
  go_enter Try.func64, Try.ntmps64
  go_wp2_with fail
  obtain ⟨t2343, HA2344, H⟩ := bind_some H
  refine (chain_List.calls _ l2165 a2170 a2171 a2172 a2173 a2174 0 g2161 g2163 A2166 l2165.length n2168 t2343 _ ⟨HS.out.begin⟩ HA2344).mono ?_
  rintro e_ w2345 ⟨A2347, m2348, n2349, rfl, hS⟩
  replace HS : Aside0 (Sep FF w [b7 g2161 g2163 a2171 a2172 a2173 a2174, b6 g2163 A2166 l2165.length n2168 a2170, r5 A2166 l2165.length n2168 l2165, r13 A2347 m2348 n2349 t2343] w2345) := ⟨HS.out.call hS⟩
  clear hS
  obtain rfl := (row_len (HS.out.at3)).symm
  go_wp2_with fail
  go_ret
  rw [← some_eq H]
  exact ⟨A2347, t2343.length, n2349, (by first | rfl | (simp [IntKind.wrap_u32]; done)), HS.out⟩

set_option maxHeartbeats 30000000 in
set_option maxRecDepth 100000 in
theorem quitrentref01_Ints.calls (k : Nat) (l2372 : List Int) (l2376 : List Int) (A2373 : Option Addr) (n2374 : Nat) (A2377 : Option Addr) (n2378 : Nat) (r : Bool) (w : World) (HR2375 : Aside0 (Rd (Kd.int .i64) (fps []) w A2373 l2372.length l2372)) (HR2379 : Aside0 (Rd (Kd.int .i64) (fps []) w A2377 l2376.length l2376))  (HS : Aside0 (Sep (fps []) w [] w)) (H : Aside0 (quitrentref01_Ints.f k l2372 l2376 = some r)) :
    Calls Try.prog 68 #[.slice A2373 l2372.length n2374, .slice A2377 l2376.length n2378] w fun e w' => e = .returned (.bool r) ∧ Sep (fps []) w [] w' := by
  unfold quitrentref01_Ints.f at H
  go_enter Try.func68, Try.ntmps68
  by_cases c2380 : (l2372.length : Int) = (l2376.length : Int)
  · replace H := if_yes c2380 H
    have c2380b0 : ((l2372.length : Int) == (l2376.length : Int)) = true := beq_iff_eq.mpr c2380
    have c2380b1 : ((l2372.length : Int) != (l2376.length : Int)) = false := bne_eq_false_iff_eq.mpr c2380
    clear c2380
    go_wp2_with fail
    obtain ⟨o2396, AL2397, H⟩ := bind_some H
    go_loopg [5] k (fun kq v5 wc => ∃ (x2400 : Int), v5 = .int .i64 x2400 ∧ Aside0 (quitrentref01_Ints.lo0 kq l2372 l2376 x2400 = some o2396) ∧ Aside0 (Sep (fps []) w [] wc))
    case atStart => exact ⟨(0), (by first | rfl | (simp [IntKind.wrap_u32]; done)), AL2397, ⟨HS.out⟩⟩
    case round =>
      clear AL2397 HS
      obtain ⟨x2400, rfl, AL2397, HS⟩ := hrel
      obtain ⟨w2398, rfl⟩ : ∃ x : World, x = wr := ⟨_, rfl⟩
      cases gk with
      | zero => exact absurd AL2397.out (by simp [quitrentref01_Ints.lo0])
      | succ k2399 =>
        have AL0 := AL2397.out
        rw [quitrentref01_Ints.lo0] at AL0
        clear AL2397
        have AL2397 := Aside0.mk AL0
        clear AL0
        by_cases c2401 : x2400 < (l2372.length : Int)
        · replace AL2397 := if_yes c2401 AL2397
          have c2401b0 : decide (x2400 < (l2372.length : Int)) = true := decide_eq_true c2401
          clear c2401
          go_wp2_with fail
          refine start_ (n := 9) (S := (fun w' => Kd.C (Kd.int .i64) w' A2373 l2372.length l2372 ∧ Kd.C (Kd.int .i64) w' A2377 l2376.length l2376)) (ds := []) #[false, false, false, false, false, false, false, false, false] (by kernel_rfl) rfl rfl (⟨Rd.read (fun _ _ _ _ h => h) HR2375.out (HS.out.drew).fr, Rd.read (fun _ _ _ _ h => h) HR2379.out (HS.out.drew).fr⟩) (fun hHeld => ?_)
          have HS_ := Aside0.mk HS.out.drew
          clear HS
          generalize World.drew _ = w2403 at HS_ hHeld ⊢
          have HS := HS_
          clear HS_
          refine pure_ (i := 0) (N := some 17) (v := ?_) (a' := ?_) #[true, false, false, false, false, false, false, false, false] rfl rfl (by kernel_rfl) (fun _ _ _ h => h) (Or.inl ⟨by rfl, ?_⟩) ?_ ?_
          rotate_left
          · intro w'
            go_simp
            with_reducible rfl
          rotate_left
          · simp only [Act.put, List.setIfInBounds_toArray, List.set_cons_zero, List.set_cons_succ, i64_w, i32_w]
            rfl
          refine pure_ (i := 1) (N := some 18) (v := ?_) (a' := ?_) #[true, true, false, false, false, false, false, false, false] rfl rfl (by kernel_rfl) (fun _ _ _ h => h) (Or.inl ⟨by rfl, ?_⟩) ?_ ?_
          rotate_left
          · intro w'
            go_simp
            with_reducible rfl
          rotate_left
          · simp only [Act.put, List.setIfInBounds_toArray, List.set_cons_zero, List.set_cons_succ, i64_w, i32_w]
            rfl
          by_cases c2404 : 0 ≤ x2400
          · replace AL2397 := if_yes c2404 AL2397
            have c2404b0 : decide (0 ≤ x2400) = true := decide_eq_true c2404
            have c2404p : (0 ≤ x2400) = True := eq_true c2404
            clear c2404
            have ip2405 : (x2400 < (l2372.length : Int)) = True := eq_true (of_decide_eq_true c2401b0)
            obtain ⟨ad2406, ea, _⟩ := Kd.at_int (Rd.read (fun _ _ _ _ h => h) HR2375.out HS.out.fr) x2400 (of_decide_eq_true c2404b0) (of_decide_eq_true c2401b0)
            cases ea
            refine pure_ (i := 2) (N := some 19) (v := ?_) (a' := ?_) #[true, true, true, false, false, false, false, false, false] rfl rfl (by kernel_rfl) (fun _ _ _ h => h) (Or.inl ⟨by rfl, ?_⟩) ?_ ?_
            rotate_left
            · intro w'
              go_simp
              with_reducible rfl
            rotate_left
            · simp only [Act.put, List.setIfInBounds_toArray, List.set_cons_zero, List.set_cons_succ, i64_w, i32_w]
              rfl
            refine pure_ (i := 4) (N := some 21) (v := ?_) (a' := ?_) #[true, true, true, false, true, false, false, false, false] rfl rfl (by kernel_rfl) (fun _ _ _ h => h) (Or.inl ⟨by rfl, ?_⟩) ?_ ?_
            rotate_left
            · intro w'
              go_simp
              with_reducible rfl
            rotate_left
            · simp only [Act.put, List.setIfInBounds_toArray, List.set_cons_zero, List.set_cons_succ, i64_w, i32_w]
              rfl
            refine pure_ (i := 5) (N := some 22) (v := ?_) (a' := ?_) #[true, true, true, false, true, true, false, false, false] rfl rfl (by kernel_rfl) (fun _ _ _ h => h) (Or.inl ⟨by rfl, ?_⟩) ?_ ?_
            rotate_left
            · intro w'
              go_simp
              with_reducible rfl
            rotate_left
            · simp only [Act.put, List.setIfInBounds_toArray, List.set_cons_zero, List.set_cons_succ, i64_w, i32_w]
              rfl
            by_cases c2407 : x2400 < (l2376.length : Int)
            · replace AL2397 := if_yes c2407 AL2397
              have c2407b0 : decide (x2400 < (l2376.length : Int)) = true := decide_eq_true c2407
              have c2407p : (x2400 < (l2376.length : Int)) = True := eq_true c2407
              clear c2407
              obtain ⟨ad2408, ea, _⟩ := Kd.at_int (Rd.read (fun _ _ _ _ h => h) HR2379.out HS.out.fr) x2400 (of_decide_eq_true c2404b0) (of_decide_eq_true c2407b0)
              cases ea
              refine pure_ (i := 6) (N := some 23) (v := ?_) (a' := ?_) #[true, true, true, false, true, true, true, false, false] rfl rfl (by kernel_rfl) (fun _ _ _ h => h) (Or.inl ⟨by rfl, ?_⟩) ?_ ?_
              rotate_left
              · intro w'
                go_simp
                with_reducible rfl
              rotate_left
              · simp only [Act.put, List.setIfInBounds_toArray, List.set_cons_zero, List.set_cons_succ, i64_w, i32_w]
                rfl
              refine take_ (i := 3) (N := some 20) (v := ?_) (a' := ?_) #[true, true, true, true, true, true, true, false, false] rfl rfl (by kernel_rfl) (fun _ _ _ h => h) (Or.inl ⟨by rfl, ?_⟩) hHeld ?_ ?_
              rotate_left
              · rintro w' hS'
                obtain ⟨s0, s1⟩ := hS'
                have hx := C_at_int s0 x2400 (of_decide_eq_true c2404b0) (of_decide_eq_true c2401b0)
                go_simp
                with_reducible rfl
              rotate_left
              · simp only [Act.put, List.setIfInBounds_toArray, List.set_cons_zero, List.set_cons_succ, i64_w, i32_w]
                rfl
              refine take_ (i := 7) (N := some 24) (v := ?_) (a' := ?_) #[true, true, true, true, true, true, true, true, false] rfl rfl (by kernel_rfl) (fun _ _ _ h => h) (Or.inl ⟨by rfl, ?_⟩) hHeld ?_ ?_
              rotate_left
              · rintro w' hS'
                obtain ⟨s0, s1⟩ := hS'
                have hx := C_at_int s1 x2400 (of_decide_eq_true c2404b0) (of_decide_eq_true c2407b0)
                go_simp
                with_reducible rfl
              rotate_left
              · simp only [Act.put, List.setIfInBounds_toArray, List.set_cons_zero, List.set_cons_succ, i64_w, i32_w]
                rfl
              refine pure_ (i := 8) (N := some 25) (v := ?_) (a' := ?_) #[true, true, true, true, true, true, true, true, true] rfl rfl (by kernel_rfl) (fun _ _ _ h => h) (Or.inl ⟨by rfl, ?_⟩) ?_ ?_
              rotate_left
              · intro w'
                go_simp
                with_reducible rfl
              rotate_left
              · simp only [Act.put, List.setIfInBounds_toArray, List.set_cons_zero, List.set_cons_succ, i64_w, i32_w]
                rfl
              refine done_ (by kernel_rfl) ?_
              by_cases c2409 : (rd l2372 x2400) = (rd l2376 x2400)
              · replace AL2397 := if_yes c2409 AL2397
                have c2409b0 : ((rd l2372 x2400) == (rd l2376 x2400)) = true := beq_iff_eq.mpr c2409
                have c2409b1 : ((rd l2372 x2400) != (rd l2376 x2400)) = false := bne_eq_false_iff_eq.mpr c2409
                clear c2409
                go_wp2_with fail
                go_roundg k2399
                case measure => exact Nat.lt_succ_self _
                case rel => exact ⟨(wrap64 (x2400 + 1)), (by first | rfl | (simp [IntKind.wrap_u32]; done)), Aside0.mk AL2397.out, ⟨HS.out⟩⟩
              · replace AL2397 := if_no c2409 AL2397
                have c2409b0 : ((rd l2372 x2400) == (rd l2376 x2400)) = false := beq_eq_false_iff_ne.mpr c2409
                have c2409b1 : ((rd l2372 x2400) != (rd l2376 x2400)) = true := bne_iff_ne.mpr c2409
                clear c2409
                go_wp2_with fail
                have ho := some_eq AL2397
                subst ho
                have H := lp_ret H
                go_ret
                rw [← some_eq H]
                exact ⟨(by first | rfl | (simp [IntKind.wrap_u32]; done)), HS.out⟩
            · replace AL2397 := if_no c2407 AL2397
              have c2407b0 : decide (x2400 < (l2376.length : Int)) = false := decide_eq_false c2407
              clear c2407
              exact (none_no AL2397).elim
          · replace AL2397 := if_no c2404 AL2397
            have c2404b0 : decide (0 ≤ x2400) = false := decide_eq_false c2404
            clear c2404
            exact (none_no AL2397).elim
        · replace AL2397 := if_no c2401 AL2397
          have c2401b0 : decide (x2400 < (l2372.length : Int)) = false := decide_eq_false c2401
          clear c2401
          have ho := some_eq AL2397
          subst ho
          clear AL2397
          have H := lp_out H
          go_wp2_with fail
          go_ret
          rw [← some_eq H]
          exact ⟨(by first | rfl | (simp [IntKind.wrap_u32]; done)), HS.out⟩
  · replace H := if_no c2380 H
    have c2380b0 : ((l2372.length : Int) == (l2376.length : Int)) = false := beq_eq_false_iff_ne.mpr c2380
    have c2380b1 : ((l2372.length : Int) != (l2376.length : Int)) = true := bne_iff_ne.mpr c2380
    clear c2380
    go_wp2_with fail
    go_ret
    rw [← some_eq H]
    exact ⟨(by first | rfl | (simp [IntKind.wrap_u32]; done)), HS.out⟩

set_option maxHeartbeats 30000000 in
set_option maxRecDepth 100000 in
theorem pool_Len.calls (l2420 : List Int) (a2425 : Int) (a2426 : Int) (a2427 : Int) (a2428 : Int) (a2429 : Int) (g2416 : Nat) (g2418 : Nat) (A2421 : Option Addr) (m2422 : Nat) (n2423 : Nat) (r : Int × Int) (w : World)   (HS : Aside0 (Sep (fps [b7 g2416 g2418 a2426 a2427 a2428 a2429, b6 g2418 A2421 m2422 n2423 a2425, r5 A2421 m2422 n2423 l2420]) w [b7 g2416 g2418 a2426 a2427 a2428 a2429, b6 g2418 A2421 m2422 n2423 a2425, r5 A2421 m2422 n2423 l2420] w)) (H : Aside0 (pool_Len.f l2420 a2425 a2426 a2427 a2428 a2429 = some r)) :
    Calls Try.prog 65 #[.pointer (some ⟨g2416, 0, none⟩)] w fun e w' => e = .returned (.int .i64 r.1) ∧ Sep (fps [b7 g2416 g2418 a2426 a2427 a2428 a2429, b6 g2418 A2421 m2422 n2423 a2425, r5 A2421 m2422 n2423 l2420]) w [b7 g2416 g2418 a2426 a2427 a2428 a2429, b6 g2418 A2421 m2422 n2423 r.2, r5 A2421 m2422 n2423 l2420] w' := by
  generalize (fps [b7 g2416 g2418 a2426 a2427 a2428 a2429, b6 g2418 A2421 m2422 n2423 a2425, r5 A2421 m2422 n2423 l2420]) = FF at HS ⊢
  obtain rfl := (row_len (HS.out.at2)).symm
  unfold pool_Len.f at H
  go_enter Try.func65, Try.ntmps65
  go_wp2_with fail
  obtain ⟨t2433, HA2434, H⟩ := bind_some H
  refine (chain_Len.calls l2420 a2425 a2426 a2427 a2428 a2429 0 g2416 g2418 A2421 l2420.length n2423 t2433 _ ⟨HS.out.begin⟩ HA2434).mono ?_
  rintro e_ w2435 ⟨rfl, hS⟩
  replace HS : Aside0 (Sep FF w [b7 g2416 g2418 a2426 a2427 a2428 a2429, b6 g2418 A2421 l2420.length n2423 t2433.2, r5 A2421 l2420.length n2423 l2420] w2435) := ⟨HS.out.call hS⟩
  clear hS
  go_wp2_with fail
  go_ret
  rw [← some_eq H]
  exact ⟨(by first | rfl | (simp [IntKind.wrap_u32]; done)), HS.out⟩

set_option maxHeartbeats 30000000 in
set_option maxRecDepth 100000 in
theorem quitrentlaw10_begun.calls (k : Nat)  (r : Bool) (w : World)   (HS : Aside0 (Sep (fps []) w [] w)) (H : Aside0 (quitrentlaw10_begun.f k = some r)) :
    Calls Try.prog 60 #[] w fun e w' => e = .returned (.bool r) ∧ Sep (fps []) w [] w' := by
  unfold quitrentlaw10_begun.f at H
  go_enter Try.func60, Try.ntmps60
  go_wp2_with fail
  obtain ⟨t795, HA796, H⟩ := bind_some H
  rcases t795 with t797 | (t798 | t799)
  · have H := sum_l H
    refine (ground_New.calls _ 3 16 1 1 (.inl t797) _ ⟨Sep.start _⟩ HA796).mono ?_
    rintro e_ w800 ⟨rfl, hS⟩
    replace HS : Aside0 (Sep (fps []) w [] w800) := ⟨HS.out.call hS⟩
    clear hS
    go_wp2_with fail
    go_ret
    rw [← some_eq H]
    exact ⟨(by first | rfl | (simp [IntKind.wrap_u32]; done)), HS.out⟩
  · have H := sum_r H
    have H := sum_l H
    refine (ground_New.calls _ 3 16 1 1 (.inr (.inl t798)) _ ⟨Sep.start _⟩ HA796).mono ?_
    rintro e_ w801 ⟨g805, rfl, g806, A807, m808, n809, hS⟩
    replace HS : Aside0 (Sep (fps []) w [b7 g805 g806 t798.1 t798.2.1 t798.2.2.1 t798.2.2.2.1, b6 g806 A807 m808 n809 0, r5 A807 m808 n809 t798.2.2.2.2] w801) := ⟨HS.out.call hS⟩
    clear hS
    obtain rfl := (row_len (HS.out.at2)).symm
    go_wp2_with fail
    obtain ⟨t1541, HA1542, H⟩ := bind_some H
    refine (pool_Open.calls _ t798.2.2.2.2 0 t798.1 t798.2.1 t798.2.2.1 t798.2.2.2.1 g805 g806 A807 ((t798.2.2.2.2).length) n809 t1541 _ ⟨HS.out.begin⟩ HA1542).mono ?_
    rintro e_ w1543 ⟨rfl, hS⟩
    replace HS : Aside0 (Sep (fps []) w [b7 g805 g806 t798.1 t798.2.1 t798.2.2.1 t798.2.2.2.1, b6 g806 A807 ((t798.2.2.2.2).length) n809 t1541.2.1, r5 A807 ((t798.2.2.2.2).length) n809 t1541.2.2] w1543) := ⟨HS.out.call hS⟩
    clear hS
    by_cases c1544 : t1541.1 = true
    · replace H := if_yes c1544 H
      have c1544b0 : t1541.1 = true := c1544
      have c1544b1 : (!t1541.1) = false := by rw [c1544b0]; rfl
      try rw [c1544b1]
      clear c1544
      go_wp2_with fail
      obtain ⟨t1545, HA1546, H⟩ := bind_some H
      refine (pool_Open.calls _ t1541.2.2 t1541.2.1 t798.1 t798.2.1 t798.2.2.1 t798.2.2.2.1 g805 g806 A807 ((t798.2.2.2.2).length) n809 t1545 _ ⟨HS.out.begin⟩ HA1546).mono ?_
      rintro e_ w1547 ⟨rfl, hS⟩
      replace HS : Aside0 (Sep (fps []) w [b7 g805 g806 t798.1 t798.2.1 t798.2.2.1 t798.2.2.2.1, b6 g806 A807 ((t798.2.2.2.2).length) n809 t1545.2.1, r5 A807 ((t798.2.2.2.2).length) n809 t1545.2.2] w1547) := ⟨HS.out.call hS⟩
      clear hS
      by_cases c1548 : t1545.1 = true
      · replace H := if_yes c1548 H
        have c1548b0 : t1545.1 = true := c1548
        have c1548b1 : (!t1545.1) = false := by rw [c1548b0]; rfl
        clear c1548
        replace HS : Aside0 (Sep (fps []) w [] w1547) := ⟨HS.out.sub (.cons _ (.cons _ (.cons _ .slnil)))⟩
        go_wp2_with fail
        go_ret
        rw [← some_eq H]
        exact ⟨(by first | rfl | (simp [IntKind.wrap_u32]; done)), HS.out⟩
      · replace H := if_no c1548 H
        have c1548b0 : t1545.1 = false := by simpa using c1548
        have c1548b1 : (!t1545.1) = true := by rw [c1548b0]; rfl
        clear c1548
        go_wp2_with fail
        obtain ⟨t1811, HA1812, H⟩ := bind_some H
        refine (pool_Take.calls _ t1545.2.2 t1545.2.1 t798.1 t798.2.1 t798.2.2.1 t798.2.2.2.1 g805 g806 A807 ((t798.2.2.2.2).length) n809 t1811 _ ⟨HS.out.begin⟩ HA1812).mono ?_
        rintro e_ w1813 ⟨rfl, hS⟩
        replace HS : Aside0 (Sep (fps []) w [b7 g805 g806 t798.1 t798.2.1 t798.2.2.1 t798.2.2.2.1, b6 g806 A807 ((t798.2.2.2.2).length) n809 t1811.2.2.1, r5 A807 ((t798.2.2.2.2).length) n809 t1811.2.2.2] w1813) := ⟨HS.out.call hS⟩
        clear hS
        go_wp2_with fail
        obtain ⟨t1814, HA1815, H⟩ := bind_some H
        refine (pool_Take.calls _ t1811.2.2.2 t1811.2.2.1 t798.1 t798.2.1 t798.2.2.1 t798.2.2.2.1 g805 g806 A807 ((t798.2.2.2.2).length) n809 t1814 _ ⟨HS.out.begin⟩ HA1815).mono ?_
        rintro e_ w1816 ⟨rfl, hS⟩
        replace HS : Aside0 (Sep (fps []) w [b7 g805 g806 t798.1 t798.2.1 t798.2.2.1 t798.2.2.2.1, b6 g806 A807 ((t798.2.2.2.2).length) n809 t1814.2.2.1, r5 A807 ((t798.2.2.2.2).length) n809 t1814.2.2.2] w1816) := ⟨HS.out.call hS⟩
        clear hS
        go_wp2_with fail
        obtain ⟨t1817, HA1818, H⟩ := bind_some H
        refine (ground_Ground_SetWord.calls t1814.2.2.2 t1814.2.2.1 t798.1 t798.2.1 t798.2.2.1 t798.2.2.2.1 0 0 3 g805 g806 A807 ((t798.2.2.2.2).length) n809 t1817 _ ⟨HS.out.begin⟩ HA1818).mono ?_
        rintro e_ w1819 ⟨rfl, hS⟩
        replace HS : Aside0 (Sep (fps []) w [b7 g805 g806 t798.1 t798.2.1 t798.2.2.1 t798.2.2.2.1, b6 g806 A807 ((t798.2.2.2.2).length) n809 t1817.2.1, r5 A807 ((t798.2.2.2.2).length) n809 t1817.2.2] w1819) := ⟨HS.out.call hS⟩
        clear hS
        by_cases c1820 : t1811.1 = 0
        · replace H := if_yes c1820 H
          have c1820b0 : (t1811.1 == 0) = true := beq_iff_eq.mpr c1820
          have c1820b1 : (t1811.1 != 0) = false := bne_eq_false_iff_eq.mpr c1820
          clear c1820
          by_cases c1821 : t1814.1 = 1
          · replace H := if_yes c1821 H
            have c1821b0 : (t1814.1 == 1) = true := beq_iff_eq.mpr c1821
            have c1821b1 : (t1814.1 != 1) = false := bne_eq_false_iff_eq.mpr c1821
            clear c1821
            by_cases c1822 : t1814.2.1 = true
            · replace H := if_yes c1822 H
              have c1822b0 : t1814.2.1 = true := c1822
              have c1822b1 : (!t1814.2.1) = false := by rw [c1822b0]; rfl
              clear c1822
              go_wp2_with fail
              obtain ⟨t2152, HA2153, H⟩ := bind_some H
              refine (pool_Give.calls t1817.2.2 t1817.2.1 t798.1 t798.2.1 t798.2.2.1 t798.2.2.2.1 0 g805 g806 A807 ((t798.2.2.2.2).length) n809 t2152 _ ⟨HS.out.begin⟩ HA2153).mono ?_
              rintro e_ w2154 ⟨rfl, hS⟩
              replace HS : Aside0 (Sep (fps []) w [b7 g805 g806 t798.1 t798.2.1 t798.2.2.1 t798.2.2.2.1, b6 g806 A807 ((t798.2.2.2.2).length) n809 t2152.2.1, r5 A807 ((t798.2.2.2.2).length) n809 t2152.2.2] w2154) := ⟨HS.out.call hS⟩
              clear hS
              by_cases c2155 : t2152.1 = true
              · replace H := if_yes c2155 H
                have c2155b0 : t2152.1 = true := c2155
                have c2155b1 : (!t2152.1) = false := by rw [c2155b0]; rfl
                clear c2155
                go_wp2_with fail
                obtain ⟨t2156, HA2157, H⟩ := bind_some H
                refine (pool_Give.calls t2152.2.2 t2152.2.1 t798.1 t798.2.1 t798.2.2.1 t798.2.2.2.1 0 g805 g806 A807 ((t798.2.2.2.2).length) n809 t2156 _ ⟨HS.out.begin⟩ HA2157).mono ?_
                rintro e_ w2158 ⟨rfl, hS⟩
                replace HS : Aside0 (Sep (fps []) w [b7 g805 g806 t798.1 t798.2.1 t798.2.2.1 t798.2.2.2.1, b6 g806 A807 ((t798.2.2.2.2).length) n809 t2156.2.1, r5 A807 ((t798.2.2.2.2).length) n809 t2156.2.2] w2158) := ⟨HS.out.call hS⟩
                clear hS
                by_cases c2159 : t2156.1 = true
                · replace H := if_yes c2159 H
                  have c2159b0 : t2156.1 = true := c2159
                  have c2159b1 : (!t2156.1) = false := by rw [c2159b0]; rfl
                  try rw [c2159b1]
                  clear c2159
                  replace HS : Aside0 (Sep (fps []) w [] w2158) := ⟨HS.out.sub (.cons _ (.cons _ (.cons _ .slnil)))⟩
                  go_wp2_with fail
                  go_ret
                  rw [← some_eq H]
                  exact ⟨(by first | rfl | (simp [IntKind.wrap_u32]; done)), HS.out⟩
                · replace H := if_no c2159 H
                  have c2159b0 : t2156.1 = false := by simpa using c2159
                  have c2159b1 : (!t2156.1) = true := by rw [c2159b0]; rfl
                  try rw [c2159b1]
                  clear c2159
                  go_wp2_with fail
                  obtain ⟨t2361, HA2362, H⟩ := bind_some H
                  refine (pool_List.calls _ t2156.2.2 t2156.2.1 t798.1 t798.2.1 t798.2.2.1 t798.2.2.2.1 g805 g806 A807 ((t798.2.2.2.2).length) n809 t2361 _ ⟨HS.out.begin⟩ HA2362).mono ?_
                  rintro e_ w2363 ⟨A2365, m2366, n2367, rfl, hS⟩
                  replace HS : Aside0 (Sep (fps []) w [b7 g805 g806 t798.1 t798.2.1 t798.2.2.1 t798.2.2.2.1, b6 g806 A807 ((t798.2.2.2.2).length) n809 t2156.2.1, r5 A807 ((t798.2.2.2.2).length) n809 t2156.2.2, r13 A2365 m2366 n2367 t2361] w2363) := ⟨HS.out.call hS⟩
                  clear hS
                  obtain rfl := (row_len (HS.out.at3)).symm
                  go_wp2_with (first | ((with_reducible refine gate_dst (N := 56) rfl ?_); refine slice_on (n := 2) ?hg (N := 56) ?hd (cs := #[.int .i64 0, .int .i64 2]) (t := 3) ?hr ?_; (case hd => rfl); (case hg => rfl); (case hr => first | (go_simp; done) | (go_simp; rfl)); intro g2369 hg w2370 hbox hb; replace HS : Aside0 (Sep (fps []) w [b7 g805 g806 t798.1 t798.2.1 t798.2.2.1 t798.2.2.2.1, b6 g806 A807 ((t798.2.2.2.2).length) n809 t2156.2.1, r5 A807 ((t798.2.2.2.2).length) n809 t2156.2.2, r13 A2365 t2361.length n2367 t2361, b3 g2369 0 2] w2370) := ⟨HS.out.box hg hbox hb⟩; clear hg hbox hb))
                  obtain ⟨t2411, HA2412, H⟩ := bind_some H
                  refine (quitrentref01_Ints.calls _ t2361 [0, 2] A2365 n2367 (some ⟨g2369, 0, none⟩) 2 t2411 _ ⟨Rd.ownI (l := []) HS.out 3 rfl⟩ ⟨Rd.lit (l := []) (xs := [0, 2]) HS.out 4 rfl (by simp)⟩ ⟨Sep.start _⟩ HA2412).mono ?_
                  rintro e_ w2413 ⟨rfl, hS⟩
                  replace HS : Aside0 (Sep (fps []) w [b7 g805 g806 t798.1 t798.2.1 t798.2.2.1 t798.2.2.2.1, b6 g806 A807 ((t798.2.2.2.2).length) n809 t2156.2.1, r5 A807 ((t798.2.2.2.2).length) n809 t2156.2.2, r13 A2365 t2361.length n2367 t2361, b3 g2369 0 2] w2413) := ⟨HS.out.call hS⟩
                  clear hS
                  by_cases c2414 : t2411 = true
                  · replace H := if_yes c2414 H
                    have c2414b0 : t2411 = true := c2414
                    have c2414b1 : (!t2411) = false := by rw [c2414b0]; rfl
                    clear c2414
                    go_wp2_with fail
                    obtain ⟨t2436, HA2437, H⟩ := bind_some H
                    refine (pool_Len.calls t2156.2.2 t2156.2.1 t798.1 t798.2.1 t798.2.2.1 t798.2.2.2.1 g805 g806 A807 ((t798.2.2.2.2).length) n809 t2436 _ ⟨HS.out.begin⟩ HA2437).mono ?_
                    rintro e_ w2438 ⟨rfl, hS⟩
                    replace HS : Aside0 (Sep (fps []) w [b7 g805 g806 t798.1 t798.2.1 t798.2.2.1 t798.2.2.2.1, b6 g806 A807 ((t798.2.2.2.2).length) n809 t2436.2, r5 A807 ((t798.2.2.2.2).length) n809 t2156.2.2, r13 A2365 t2361.length n2367 t2361, b3 g2369 0 2] w2438) := ⟨HS.out.call hS⟩
                    clear hS
                    replace HS : Aside0 (Sep (fps []) w [] w2438) := ⟨HS.out.sub (.cons _ (.cons _ (.cons _ (.cons _ (.cons _ .slnil)))))⟩
                    go_wp2_with fail
                    go_ret
                    rw [← some_eq H]
                    exact ⟨(by first | rfl | (simp [IntKind.wrap_u32]; done)), HS.out⟩
                  · replace H := if_no c2414 H
                    have c2414b0 : t2411 = false := by simpa using c2414
                    have c2414b1 : (!t2411) = true := by rw [c2414b0]; rfl
                    clear c2414
                    replace HS : Aside0 (Sep (fps []) w [] w2413) := ⟨HS.out.sub (.cons _ (.cons _ (.cons _ (.cons _ (.cons _ .slnil)))))⟩
                    go_wp2_with fail
                    go_ret
                    rw [← some_eq H]
                    exact ⟨(by first | rfl | (simp [IntKind.wrap_u32]; done)), HS.out⟩
              · replace H := if_no c2155 H
                have c2155b0 : t2152.1 = false := by simpa using c2155
                have c2155b1 : (!t2152.1) = true := by rw [c2155b0]; rfl
                clear c2155
                replace HS : Aside0 (Sep (fps []) w [] w2154) := ⟨HS.out.sub (.cons _ (.cons _ (.cons _ .slnil)))⟩
                go_wp2_with fail
                go_ret
                rw [← some_eq H]
                exact ⟨(by first | rfl | (simp [IntKind.wrap_u32]; done)), HS.out⟩
            · replace H := if_no c1822 H
              have c1822b0 : t1814.2.1 = false := by simpa using c1822
              have c1822b1 : (!t1814.2.1) = true := by rw [c1822b0]; rfl
              clear c1822
              replace HS : Aside0 (Sep (fps []) w [] w1819) := ⟨HS.out.sub (.cons _ (.cons _ (.cons _ .slnil)))⟩
              go_wp2_with fail
              go_ret
              rw [← some_eq H]
              exact ⟨(by first | rfl | (simp [IntKind.wrap_u32]; done)), HS.out⟩
          · replace H := if_no c1821 H
            have c1821b0 : (t1814.1 == 1) = false := beq_eq_false_iff_ne.mpr c1821
            have c1821b1 : (t1814.1 != 1) = true := bne_iff_ne.mpr c1821
            clear c1821
            replace HS : Aside0 (Sep (fps []) w [] w1819) := ⟨HS.out.sub (.cons _ (.cons _ (.cons _ .slnil)))⟩
            go_wp2_with fail
            go_ret
            rw [← some_eq H]
            exact ⟨(by first | rfl | (simp [IntKind.wrap_u32]; done)), HS.out⟩
        · replace H := if_no c1820 H
          have c1820b0 : (t1811.1 == 0) = false := beq_eq_false_iff_ne.mpr c1820
          have c1820b1 : (t1811.1 != 0) = true := bne_iff_ne.mpr c1820
          clear c1820
          replace HS : Aside0 (Sep (fps []) w [] w1819) := ⟨HS.out.sub (.cons _ (.cons _ (.cons _ .slnil)))⟩
          go_wp2_with fail
          go_ret
          rw [← some_eq H]
          exact ⟨(by first | rfl | (simp [IntKind.wrap_u32]; done)), HS.out⟩
    · replace H := if_no c1544 H
      have c1544b0 : t1541.1 = false := by simpa using c1544
      have c1544b1 : (!t1541.1) = true := by rw [c1544b0]; rfl
      try rw [c1544b1]
      clear c1544
      replace HS : Aside0 (Sep (fps []) w [] w1543) := ⟨HS.out.sub (.cons _ (.cons _ (.cons _ .slnil)))⟩
      go_wp2_with fail
      go_ret
      rw [← some_eq H]
      exact ⟨(by first | rfl | (simp [IntKind.wrap_u32]; done)), HS.out⟩
  · have H := sum_r H
    have H := sum_r H
    refine (ground_New.calls _ 3 16 1 1 (.inr (.inr t799)) _ ⟨Sep.start _⟩ HA796).mono ?_
    rintro e_ w2439 ⟨rfl, hS⟩
    replace HS : Aside0 (Sep (fps []) w [] w2439) := ⟨HS.out.call hS⟩
    clear hS
    by_cases c2440 : t799 = 0
    · replace H := if_yes c2440 H
      have c2440b0 : (t799 == 0) = true := beq_iff_eq.mpr c2440
      have c2440b1 : (t799 != 0) = false := bne_eq_false_iff_eq.mpr c2440
      clear c2440
      exact (none_no H).elim
    · replace H := if_no c2440 H
      have c2440b0 : (t799 == 0) = false := beq_eq_false_iff_ne.mpr c2440
      have c2440b1 : (t799 != 0) = true := bne_iff_ne.mpr c2440
      clear c2440
      go_wp2_with fail
      go_ret
      rw [← some_eq H]
      exact ⟨(by first | rfl | (simp [IntKind.wrap_u32]; done)), HS.out⟩

set_option maxHeartbeats 30000000 in
set_option maxRecDepth 100000 in
theorem quitrentlaw10_PoolKeeps.calls (k : Nat) (a1 : Int) (l2 : List Int) (A3 : Option Addr) (n4 : Nat) (r : Bool) (w : World) (HR5 : Aside0 (Rd (Kd.int .u8) (fps []) w A3 l2.length l2))  (HS : Aside0 (Sep (fps []) w [] w)) (H : Aside0 (quitrentlaw10_PoolKeeps.f k a1 l2 = some r)) :
    Calls Try.prog 14 #[.int .u8 a1, .slice A3 l2.length n4] w fun e w' => e = .returned (.bool r) ∧ Sep (fps []) w [] w' := by
  unfold quitrentlaw10_PoolKeeps.f at H
  go_enter Try.func14, Try.ntmps14
  by_cases c6 : a1 < 1
  · replace H := if_yes c6 H
    have c6b0 : decide (a1 < 1) = true := decide_eq_true c6
    clear c6
    go_wp2_with fail
    obtain ⟨t2441, HA2442, H⟩ := bind_some H
    refine (quitrentlaw10_begun.calls _ t2441 _ ⟨Sep.start _⟩ HA2442).mono ?_
    rintro e_ w2443 ⟨rfl, hS⟩
    replace HS : Aside0 (Sep (fps []) w [] w2443) := ⟨HS.out.call hS⟩
    clear hS
    go_wp2_with fail
    go_ret
    rw [← some_eq H]
    exact ⟨(by first | rfl | (simp [IntKind.wrap_u32]; done)), HS.out⟩
  · replace H := if_no c6 H
    have c6b0 : decide (a1 < 1) = false := decide_eq_false c6
    clear c6
    by_cases c2444 : (l2.length : Int) > 300
    · replace H := if_yes c2444 H
      have c2444b0 : decide (300 < (l2.length : Int)) = true := decide_eq_true c2444
      have c2444b1 : decide (300 < l2.length) = true := decide_eq_true (by omega)
      clear c2444
      go_wp2_with fail
      obtain ⟨t2441, HA2445, H⟩ := bind_some H
      refine (quitrentlaw10_begun.calls _ t2441 _ ⟨Sep.start _⟩ HA2445).mono ?_
      rintro e_ w2446 ⟨rfl, hS⟩
      replace HS : Aside0 (Sep (fps []) w [] w2446) := ⟨HS.out.call hS⟩
      clear hS
      go_wp2_with fail
      go_ret
      rw [← some_eq H]
      exact ⟨(by first | rfl | (simp [IntKind.wrap_u32]; done)), HS.out⟩
    · replace H := if_no c2444 H
      have c2444b0 : decide (300 < (l2.length : Int)) = false := decide_eq_false c2444
      have c2444b1 : decide (300 < l2.length) = false := decide_eq_false (by omega)
      clear c2444
      go_wp2_with fail
      obtain ⟨t2447, HA2448, H⟩ := bind_some H
      rcases t2447 with t2449 | (t2450 | t2451)
      · have H := sum_l H
        refine (ground_New.calls _ (wrap64 (a1)) 16 1 1 (.inl t2449) _ ⟨Sep.start _⟩ HA2448).mono ?_
        rintro e_ w2452 ⟨rfl, hS⟩
        replace HS : Aside0 (Sep (fps []) w [] w2452) := ⟨HS.out.call hS⟩
        clear hS
        go_wp2_with fail
        go_ret
        rw [← some_eq H]
        exact ⟨(by first | rfl | (simp [IntKind.wrap_u32]; done)), HS.out⟩
      · have H := sum_r H
        have H := sum_l H
        refine (ground_New.calls _ (wrap64 (a1)) 16 1 1 (.inr (.inl t2450)) _ ⟨Sep.start _⟩ HA2448).mono ?_
        rintro e_ w2453 ⟨g2457, rfl, g2458, A2459, m2460, n2461, hS⟩
        replace HS : Aside0 (Sep (fps []) w [b7 g2457 g2458 t2450.1 t2450.2.1 t2450.2.2.1 t2450.2.2.2.1, b6 g2458 A2459 m2460 n2461 0, r5 A2459 m2460 n2461 t2450.2.2.2.2] w2453) := ⟨HS.out.call hS⟩
        clear hS
        obtain rfl := (row_len (HS.out.at2)).symm
        go_wp2_with fail
        obtain ⟨t2463, HA2464, H⟩ := bind_some H
        refine (pool_Open.calls _ t2450.2.2.2.2 0 t2450.1 t2450.2.1 t2450.2.2.1 t2450.2.2.2.1 g2457 g2458 A2459 ((t2450.2.2.2.2).length) n2461 t2463 _ ⟨HS.out.begin⟩ HA2464).mono ?_
        rintro e_ w2465 ⟨rfl, hS⟩
        replace HS : Aside0 (Sep (fps []) w [b7 g2457 g2458 t2450.1 t2450.2.1 t2450.2.2.1 t2450.2.2.2.1, b6 g2458 A2459 ((t2450.2.2.2.2).length) n2461 t2463.2.1, r5 A2459 ((t2450.2.2.2.2).length) n2461 t2463.2.2] w2465) := ⟨HS.out.call hS⟩
        clear hS
        by_cases c2466 : t2463.1 = true
        · replace H := if_yes c2466 H
          have c2466b0 : t2463.1 = true := c2466
          have c2466b1 : (!t2463.1) = false := by rw [c2466b0]; rfl
          try rw [c2466b1]
          clear c2466
          obtain ⟨m2467, HA2468, H⟩ := bind_some H
          obtain ⟨hm2469, hn2470⟩ := mkLen_eq HA2468
          have hm2469H := Aside0.mk hm2469
          clear hm2469
          go_wp2_with (first | ((with_reducible refine gate_dst (N := 40) rfl ?_); refine make_event rfl (N := 40) rfl 92 4 (.tmp 39) (.tmp 39) rfl .u8 (.bool false) 1 Try.underlying92 (by kernel_rfl) rfl (by decide) (Value.bool) false rfl m2467 (by show Value.int _ _ = _; rw [hm2469H.out]) (by show Value.int _ _ = _; rw [hm2469H.out]) (by omega) HS.out ?_; intro g2471 w2472 HS1; replace HS : Aside0 (Sep (fps []) w [b7 g2457 g2458 t2450.1 t2450.2.1 t2450.2.2.1 t2450.2.2.2.1, b6 g2458 A2459 ((t2450.2.2.2.2).length) n2461 t2463.2.1, r5 A2459 ((t2450.2.2.2.2).length) n2461 t2463.2.2, r14 (some ⟨g2471, 0, none⟩) m2467 m2467 (List.replicate m2467 false)] w2472) := ⟨HS1⟩; clear HS1))
          obtain ⟨o2525, AL2526, H⟩ := bind_some H
          go_loopg [43] k (fun kq v43 wc => ∃ (x2529 : Int) (x2530 : List Int) (x2531 : List Bool) (x2532 : Int), v43 = .int .i64 x2529 ∧ Aside0 (quitrentlaw10_PoolKeeps.lo0 kq a1 l2 t2450 m2467 x2529 x2530 x2531 x2532 = some o2525) ∧ Aside0 (Sep (fps []) w [b7 g2457 g2458 t2450.1 t2450.2.1 t2450.2.2.1 t2450.2.2.2.1, b6 g2458 A2459 ((t2450.2.2.2.2).length) n2461 x2532, r5 A2459 ((t2450.2.2.2.2).length) n2461 x2530, r14 (some ⟨g2471, 0, none⟩) m2467 m2467 x2531] wc))
          case atStart => exact ⟨(0), (t2463.2.2), ((List.replicate m2467 false)), (t2463.2.1), (by first | rfl | (simp [IntKind.wrap_u32]; done)), AL2526, ⟨HS.out⟩⟩
          case round =>
            clear AL2526 HS
            obtain ⟨x2529, x2530, x2531, x2532, rfl, AL2526, HS⟩ := hrel
            obtain ⟨w2527, rfl⟩ : ∃ x : World, x = wr := ⟨_, rfl⟩
            cases gk with
            | zero => exact absurd AL2526.out (by simp [quitrentlaw10_PoolKeeps.lo0])
            | succ k2528 =>
              have AL0 := AL2526.out
              rw [quitrentlaw10_PoolKeeps.lo0] at AL0
              clear AL2526
              have AL2526 := Aside0.mk AL0
              clear AL0
              by_cases c2533 : x2529 < (l2.length : Int)
              · replace AL2526 := if_yes c2533 AL2526
                have c2533b0 : decide (x2529 < (l2.length : Int)) = true := decide_eq_true c2533
                clear c2533
                by_cases c2534 : 0 ≤ x2529
                · replace AL2526 := if_yes c2534 AL2526
                  have c2534b0 : decide (0 ≤ x2529) = true := decide_eq_true c2534
                  have c2534p : (0 ≤ x2529) = True := eq_true c2534
                  clear c2534
                  have ip2535 : (x2529 < (l2.length : Int)) = True := eq_true (of_decide_eq_true c2533b0)
                  by_cases c2537 : a1 = 0
                  · replace AL2526 := if_yes c2537 AL2526
                    have c2537b0 : (a1 == 0) = true := beq_iff_eq.mpr c2537
                    have c2537b1 : (a1 != 0) = false := bne_eq_false_iff_eq.mpr c2537
                    exact (none_no AL2526).elim
                  · replace AL2526 := if_no c2537 AL2526
                    have c2537b0 : (a1 == 0) = false := beq_eq_false_iff_ne.mpr c2537
                    have c2537b1 : (a1 != 0) = true := bne_iff_ne.mpr c2537
                    by_cases c2538 : 0 ≤ (wrap64 (Int.tmod (rd l2 x2529) a1))
                    · replace AL2526 := if_yes c2538 AL2526
                      have c2538b0 : decide (0 ≤ (wrap64 (Int.tmod (rd l2 x2529) a1))) = true := decide_eq_true c2538
                      have c2538p : (0 ≤ (wrap64 (Int.tmod (rd l2 x2529) a1))) = True := eq_true c2538
                      clear c2538
                      by_cases c2539 : (wrap64 (Int.tmod (rd l2 x2529) a1)) < (m2467 : Int)
                      · replace AL2526 := if_yes c2539 AL2526
                        have c2539b0 : decide ((wrap64 (Int.tmod (rd l2 x2529) a1)) < (m2467 : Int)) = true := decide_eq_true c2539
                        have c2539p : ((wrap64 (Int.tmod (rd l2 x2529) a1)) < (m2467 : Int)) = True := eq_true c2539
                        clear c2539
                        by_cases c2542 : (rdOf false x2531 (wrap64 (Int.tmod (rd l2 x2529) a1))) = true
                        · replace AL2526 := if_yes c2542 AL2526
                          have c2542b0 : (rdOf false x2531 (wrap64 (Int.tmod (rd l2 x2529) a1))) = true := c2542
                          have c2542b1 : (!(rdOf false x2531 (wrap64 (Int.tmod (rd l2 x2529) a1)))) = false := by rw [c2542b0]; rfl
                          clear c2542
                          obtain ⟨hx2536a, hx2536e, hx2536⟩ := Kd.at_int (Rd.read (fun _ _ _ _ h => h) HR5.out HS.out.fr) x2529 (of_decide_eq_true c2534b0) (of_decide_eq_true c2533b0); cases hx2536e
                          skip
                          have hx2540 := C_at_bool (row_Cb (HS.out.at3)) (wrap64 (Int.tmod (rd l2 x2529) a1)) (of_decide_eq_true c2538b0) (of_decide_eq_true c2539b0)
                          have hx2541 : w2527.cell? ⟨g2471, (wrap64 (Int.tmod (rd l2 x2529) a1)).toNat, none⟩ = some (.bool (rdOf false x2531 (wrap64 (Int.tmod (rd l2 x2529) a1)))) := (row_get false (HS.out.at3) (wrap64 (Int.tmod (rd l2 x2529) a1)) (of_decide_eq_true c2538b0) (of_decide_eq_true c2539b0)).1
                          go_wp2_with fail
                          clear hx2536 c2537 hx2540 hx2541
                          obtain ⟨t2491, HA2543, AL2526⟩ := bind_some AL2526
                          refine (pool_Give.calls x2530 x2532 t2450.1 t2450.2.1 t2450.2.2.1 t2450.2.2.2.1 (wrap64 (Int.tmod (rd l2 x2529) a1)) g2457 g2458 A2459 ((t2450.2.2.2.2).length) n2461 t2491 _ ⟨HS.out.begin⟩ HA2543).mono ?_
                          rintro e_ w2544 ⟨rfl, hS⟩
                          replace HS : Aside0 (Sep (fps []) w [b7 g2457 g2458 t2450.1 t2450.2.1 t2450.2.2.1 t2450.2.2.2.1, b6 g2458 A2459 ((t2450.2.2.2.2).length) n2461 t2491.2.1, r5 A2459 ((t2450.2.2.2.2).length) n2461 t2491.2.2, r14 (some ⟨g2471, 0, none⟩) m2467 m2467 x2531] w2544) := ⟨HS.out.call hS⟩
                          clear hS
                          by_cases c2545 : t2491.1 = true
                          · replace AL2526 := if_yes c2545 AL2526
                            have c2545b0 : t2491.1 = true := c2545
                            have c2545b1 : (!t2491.1) = false := by rw [c2545b0]; rfl
                            try rw [c2545b1]
                            clear c2545
                            obtain ⟨y2496, HA2547, AL2526⟩ := bind_some AL2526
                            have hx2548 := (row_get false (HS.out.at3) (wrap64 (Int.tmod (rd l2 x2529) a1)) (of_decide_eq_true c2538b0) (of_decide_eq_true c2539b0)).1
                            have hz2549 := (row_get false (HS.out.at3) (wrap64 (Int.tmod (rd l2 x2529) a1)) (of_decide_eq_true c2538b0) (of_decide_eq_true c2539b0)).2
                            go_wp2_with (first | ((with_reducible refine gate_store (t := 4) (p := 61) rfl ?_); refine store_event (w1 := World.setCell w2544 ⟨g2471, (wrap64 (Int.tmod (rd l2 x2529) a1)).toNat, none⟩ (.bool false)) rfl (t := 4) (p := 61) rfl rfl ?hr ?_; (case hr => first | (go_simp; done) | (go_simp; rfl)); intro w2546 hst; clear hx2548 hz2549; have hq := Sep.rowset (l1 := [b7 g2457 g2458 t2450.1 t2450.2.1 t2450.2.2.1 t2450.2.2.2.1, b6 g2458 A2459 ((t2450.2.2.2.2).length) n2461 t2491.2.1, r5 A2459 ((t2450.2.2.2.2).length) n2461 t2491.2.2]) (l2 := []) HS.out (wrap64 (Int.tmod (rd l2 x2529) a1)) false; rw [← hst, some_eq HA2547] at hq; replace HS : Aside0 (Sep (fps []) w [b7 g2457 g2458 t2450.1 t2450.2.1 t2450.2.2.1 t2450.2.2.2.1, b6 g2458 A2459 ((t2450.2.2.2.2).length) n2461 t2491.2.1, r5 A2459 ((t2450.2.2.2.2).length) n2461 t2491.2.2, r14 (some ⟨g2471, 0, none⟩) m2467 m2467 y2496] w2546) := ⟨hq⟩; clear hst hq))
                            go_roundg k2528
                            case measure => exact Nat.lt_succ_self _
                            case rel => exact ⟨(wrap64 (x2529 + 1)), (t2491.2.2), (y2496), (t2491.2.1), (by first | rfl | (simp [IntKind.wrap_u32]; done)), Aside0.mk AL2526.out, ⟨HS.out⟩⟩
                          · replace AL2526 := if_no c2545 AL2526
                            have c2545b0 : t2491.1 = false := by simpa using c2545
                            have c2545b1 : (!t2491.1) = true := by rw [c2545b0]; rfl
                            try rw [c2545b1]
                            clear c2545
                            go_wp2_with fail
                            have ho := some_eq AL2526
                            subst ho
                            have H := lp_ret H
                            go_ret
                            rw [← some_eq H]
                            exact ⟨(by first | rfl | (simp [IntKind.wrap_u32]; done)), HS.out.sub (.cons _ (.cons _ (.cons _ (.cons _ .slnil))))⟩
                        · replace AL2526 := if_no c2542 AL2526
                          have c2542b0 : (rdOf false x2531 (wrap64 (Int.tmod (rd l2 x2529) a1))) = false := by simpa using c2542
                          have c2542b1 : (!(rdOf false x2531 (wrap64 (Int.tmod (rd l2 x2529) a1)))) = true := by rw [c2542b0]; rfl
                          clear c2542
                          obtain ⟨hx2536a, hx2536e, hx2536⟩ := Kd.at_int (Rd.read (fun _ _ _ _ h => h) HR5.out HS.out.fr) x2529 (of_decide_eq_true c2534b0) (of_decide_eq_true c2533b0); cases hx2536e
                          skip
                          have hx2540 := C_at_bool (row_Cb (HS.out.at3)) (wrap64 (Int.tmod (rd l2 x2529) a1)) (of_decide_eq_true c2538b0) (of_decide_eq_true c2539b0)
                          have hx2541 : w2527.cell? ⟨g2471, (wrap64 (Int.tmod (rd l2 x2529) a1)).toNat, none⟩ = some (.bool (rdOf false x2531 (wrap64 (Int.tmod (rd l2 x2529) a1)))) := (row_get false (HS.out.at3) (wrap64 (Int.tmod (rd l2 x2529) a1)) (of_decide_eq_true c2538b0) (of_decide_eq_true c2539b0)).1
                          go_wp2_with fail
                          clear hx2536 c2537 hx2540 hx2541
                          obtain ⟨t2550, HA2551, AL2526⟩ := bind_some AL2526
                          refine (pool_Take.calls _ x2530 x2532 t2450.1 t2450.2.1 t2450.2.2.1 t2450.2.2.2.1 g2457 g2458 A2459 ((t2450.2.2.2.2).length) n2461 t2550 _ ⟨HS.out.begin⟩ HA2551).mono ?_
                          rintro e_ w2552 ⟨rfl, hS⟩
                          replace HS : Aside0 (Sep (fps []) w [b7 g2457 g2458 t2450.1 t2450.2.1 t2450.2.2.1 t2450.2.2.2.1, b6 g2458 A2459 ((t2450.2.2.2.2).length) n2461 t2550.2.2.1, r5 A2459 ((t2450.2.2.2.2).length) n2461 t2550.2.2.2, r14 (some ⟨g2471, 0, none⟩) m2467 m2467 x2531] w2552) := ⟨HS.out.call hS⟩
                          clear hS
                          by_cases c2553 : t2550.2.1 = true
                          · replace AL2526 := if_yes c2553 AL2526
                            have c2553b0 : t2550.2.1 = true := c2553
                            have c2553b1 : (!t2550.2.1) = false := by rw [c2553b0]; rfl
                            clear c2553
                            by_cases c2554 : t2550.1 < 0
                            · replace AL2526 := if_yes c2554 AL2526
                              have c2554b0 : decide (t2550.1 < 0) = true := decide_eq_true c2554
                              clear c2554
                              go_wp2_with fail
                              have ho := some_eq AL2526
                              subst ho
                              have H := lp_ret H
                              go_ret
                              rw [← some_eq H]
                              exact ⟨(by first | rfl | (simp [IntKind.wrap_u32]; done)), HS.out.sub (.cons _ (.cons _ (.cons _ (.cons _ .slnil))))⟩
                            · replace AL2526 := if_no c2554 AL2526
                              have c2554b0 : decide (t2550.1 < 0) = false := decide_eq_false c2554
                              clear c2554
                              by_cases c2555 : t2550.1 ≥ (wrap64 (a1))
                              · replace AL2526 := if_yes c2555 AL2526
                                have c2555b0 : decide ((wrap64 (a1)) ≤ t2550.1) = true := decide_eq_true c2555
                                clear c2555
                                go_wp2_with fail
                                have ho := some_eq AL2526
                                subst ho
                                have H := lp_ret H
                                go_ret
                                rw [← some_eq H]
                                exact ⟨(by first | rfl | (simp [IntKind.wrap_u32]; done)), HS.out.sub (.cons _ (.cons _ (.cons _ (.cons _ .slnil))))⟩
                              · replace AL2526 := if_no c2555 AL2526
                                have c2555b0 : decide ((wrap64 (a1)) ≤ t2550.1) = false := decide_eq_false c2555
                                clear c2555
                                by_cases c2556 : 0 ≤ t2550.1
                                · replace AL2526 := if_yes c2556 AL2526
                                  have c2556b0 : decide (0 ≤ t2550.1) = true := decide_eq_true c2556
                                  have c2556p : (0 ≤ t2550.1) = True := eq_true c2556
                                  clear c2556
                                  by_cases c2557 : t2550.1 < (m2467 : Int)
                                  · replace AL2526 := if_yes c2557 AL2526
                                    have c2557b0 : decide (t2550.1 < (m2467 : Int)) = true := decide_eq_true c2557
                                    have c2557p : (t2550.1 < (m2467 : Int)) = True := eq_true c2557
                                    clear c2557
                                    by_cases c2560 : (rdOf false x2531 t2550.1) = true
                                    · replace AL2526 := if_yes c2560 AL2526
                                      have c2560b0 : (rdOf false x2531 t2550.1) = true := c2560
                                      have c2560b1 : (!(rdOf false x2531 t2550.1)) = false := by rw [c2560b0]; rfl
                                      clear c2560
                                      have hx2558 := C_at_bool (row_Cb (HS.out.at3)) t2550.1 (of_decide_eq_true c2556b0) (of_decide_eq_true c2557b0)
                                      have hx2559 : w2552.cell? ⟨g2471, (t2550.1).toNat, none⟩ = some (.bool (rdOf false x2531 t2550.1)) := (row_get false (HS.out.at3) t2550.1 (of_decide_eq_true c2556b0) (of_decide_eq_true c2557b0)).1
                                      go_wp2_with fail
                                      clear hx2558 hx2559
                                      have ho := some_eq AL2526
                                      subst ho
                                      have H := lp_ret H
                                      go_ret
                                      rw [← some_eq H]
                                      exact ⟨(by first | rfl | (simp [IntKind.wrap_u32]; done)), HS.out.sub (.cons _ (.cons _ (.cons _ (.cons _ .slnil))))⟩
                                    · replace AL2526 := if_no c2560 AL2526
                                      have c2560b0 : (rdOf false x2531 t2550.1) = false := by simpa using c2560
                                      have c2560b1 : (!(rdOf false x2531 t2550.1)) = true := by rw [c2560b0]; rfl
                                      clear c2560
                                      have hx2558 := C_at_bool (row_Cb (HS.out.at3)) t2550.1 (of_decide_eq_true c2556b0) (of_decide_eq_true c2557b0)
                                      have hx2559 : w2552.cell? ⟨g2471, (t2550.1).toNat, none⟩ = some (.bool (rdOf false x2531 t2550.1)) := (row_get false (HS.out.at3) t2550.1 (of_decide_eq_true c2556b0) (of_decide_eq_true c2557b0)).1
                                      go_wp2_with fail
                                      clear hx2558 hx2559
                                      obtain ⟨t2561, HA2562, AL2526⟩ := bind_some AL2526
                                      refine (ground_Ground_SetWord.calls t2550.2.2.2 t2550.2.2.1 t2450.1 t2450.2.1 t2450.2.2.1 t2450.2.2.2.1 t2550.1 0 1 g2457 g2458 A2459 ((t2450.2.2.2.2).length) n2461 t2561 _ ⟨HS.out.begin⟩ HA2562).mono ?_
                                      rintro e_ w2563 ⟨rfl, hS⟩
                                      replace HS : Aside0 (Sep (fps []) w [b7 g2457 g2458 t2450.1 t2450.2.1 t2450.2.2.1 t2450.2.2.2.1, b6 g2458 A2459 ((t2450.2.2.2.2).length) n2461 t2561.2.1, r5 A2459 ((t2450.2.2.2.2).length) n2461 t2561.2.2, r14 (some ⟨g2471, 0, none⟩) m2467 m2467 x2531] w2563) := ⟨HS.out.call hS⟩
                                      clear hS
                                      by_cases c2564 : t2561.1 = true
                                      · replace AL2526 := if_yes c2564 AL2526
                                        have c2564b0 : t2561.1 = true := c2564
                                        have c2564b1 : (!t2561.1) = false := by rw [c2564b0]; rfl
                                        try rw [c2564b1]
                                        clear c2564
                                        obtain ⟨y2566, HA2567, AL2526⟩ := bind_some AL2526
                                        have hx2568 := (row_get false (HS.out.at3) t2550.1 (of_decide_eq_true c2556b0) (of_decide_eq_true c2557b0)).1
                                        have hz2569 := (row_get false (HS.out.at3) t2550.1 (of_decide_eq_true c2556b0) (of_decide_eq_true c2557b0)).2
                                        go_wp2_with (first | ((with_reducible refine gate_store (t := 4) (p := 90) rfl ?_); refine store_event (w1 := World.setCell w2563 ⟨g2471, (t2550.1).toNat, none⟩ (.bool true)) rfl (t := 4) (p := 90) rfl rfl ?hr ?_; (case hr => first | (go_simp; done) | (go_simp; rfl)); intro w2565 hst; clear hx2568 hz2569; have hq := Sep.rowset (l1 := [b7 g2457 g2458 t2450.1 t2450.2.1 t2450.2.2.1 t2450.2.2.2.1, b6 g2458 A2459 ((t2450.2.2.2.2).length) n2461 t2561.2.1, r5 A2459 ((t2450.2.2.2.2).length) n2461 t2561.2.2]) (l2 := []) HS.out t2550.1 true; rw [← hst, some_eq HA2567] at hq; replace HS : Aside0 (Sep (fps []) w [b7 g2457 g2458 t2450.1 t2450.2.1 t2450.2.2.1 t2450.2.2.2.1, b6 g2458 A2459 ((t2450.2.2.2.2).length) n2461 t2561.2.1, r5 A2459 ((t2450.2.2.2.2).length) n2461 t2561.2.2, r14 (some ⟨g2471, 0, none⟩) m2467 m2467 y2566] w2565) := ⟨hq⟩; clear hst hq))
                                        go_roundg k2528
                                        case measure => exact Nat.lt_succ_self _
                                        case rel => exact ⟨(wrap64 (x2529 + 1)), (t2561.2.2), (y2566), (t2561.2.1), (by first | rfl | (simp [IntKind.wrap_u32]; done)), Aside0.mk AL2526.out, ⟨HS.out⟩⟩
                                      · replace AL2526 := if_no c2564 AL2526
                                        have c2564b0 : t2561.1 = false := by simpa using c2564
                                        have c2564b1 : (!t2561.1) = true := by rw [c2564b0]; rfl
                                        try rw [c2564b1]
                                        clear c2564
                                        go_wp2_with fail
                                        have ho := some_eq AL2526
                                        subst ho
                                        have H := lp_ret H
                                        go_ret
                                        rw [← some_eq H]
                                        exact ⟨(by first | rfl | (simp [IntKind.wrap_u32]; done)), HS.out.sub (.cons _ (.cons _ (.cons _ (.cons _ .slnil))))⟩
                                  · replace AL2526 := if_no c2557 AL2526
                                    have c2557b0 : decide (t2550.1 < (m2467 : Int)) = false := decide_eq_false c2557
                                    clear c2557
                                    exact (none_no AL2526).elim
                                · replace AL2526 := if_no c2556 AL2526
                                  have c2556b0 : decide (0 ≤ t2550.1) = false := decide_eq_false c2556
                                  clear c2556
                                  exact (none_no AL2526).elim
                          · replace AL2526 := if_no c2553 AL2526
                            have c2553b0 : t2550.2.1 = false := by simpa using c2553
                            have c2553b1 : (!t2550.2.1) = true := by rw [c2553b0]; rfl
                            clear c2553
                            go_wp2_with fail
                            go_roundg k2528
                            case measure => exact Nat.lt_succ_self _
                            case rel => exact ⟨(wrap64 (x2529 + 1)), (t2550.2.2.2), (x2531), (t2550.2.2.1), (by first | rfl | (simp [IntKind.wrap_u32]; done)), Aside0.mk AL2526.out, ⟨HS.out⟩⟩
                      · replace AL2526 := if_no c2539 AL2526
                        have c2539b0 : decide ((wrap64 (Int.tmod (rd l2 x2529) a1)) < (m2467 : Int)) = false := decide_eq_false c2539
                        clear c2539
                        exact (none_no AL2526).elim
                    · replace AL2526 := if_no c2538 AL2526
                      have c2538b0 : decide (0 ≤ (wrap64 (Int.tmod (rd l2 x2529) a1))) = false := decide_eq_false c2538
                      clear c2538
                      exact (none_no AL2526).elim
                · replace AL2526 := if_no c2534 AL2526
                  have c2534b0 : decide (0 ≤ x2529) = false := decide_eq_false c2534
                  clear c2534
                  exact (none_no AL2526).elim
              · replace AL2526 := if_no c2533 AL2526
                have c2533b0 : decide (x2529 < (l2.length : Int)) = false := decide_eq_false c2533
                clear c2533
                have ho := some_eq AL2526
                subst ho
                clear AL2526
                have H := lp_out H
                obtain ⟨m2570, HA2571, H⟩ := bind_some H
                obtain ⟨hm2572, hn2573⟩ := mkLen_eq HA2571
                have hm2572H := Aside0.mk hm2572
                clear hm2572
                go_wp2_with (first | ((with_reducible refine gate_dst (N := 93) rfl ?_); refine make_event rfl (N := 93) rfl 92 4 (.tmp 92) (.tmp 92) rfl .u8 (.bool false) 1 Try.underlying92 (by kernel_rfl) rfl (by decide) (Value.bool) false rfl m2570 (by show Value.int _ _ = _; rw [hm2572H.out]) (by show Value.int _ _ = _; rw [hm2572H.out]) (by omega) HS.out ?_; intro g2574 w2575 HS1; replace HS : Aside0 (Sep (fps []) w [b7 g2457 g2458 t2450.1 t2450.2.1 t2450.2.2.1 t2450.2.2.2.1, b6 g2458 A2459 ((t2450.2.2.2.2).length) n2461 x2532, r5 A2459 ((t2450.2.2.2.2).length) n2461 x2530, r14 (some ⟨g2471, 0, none⟩) m2467 m2467 x2531, r14 (some ⟨g2574, 0, none⟩) m2570 m2570 (List.replicate m2570 false)] w2575) := ⟨HS1⟩; clear HS1))
                obtain ⟨t2578, HA2579, H⟩ := bind_some H
                refine (pool_List.calls _ x2530 x2532 t2450.1 t2450.2.1 t2450.2.2.1 t2450.2.2.2.1 g2457 g2458 A2459 ((t2450.2.2.2.2).length) n2461 t2578 _ ⟨HS.out.begin⟩ HA2579).mono ?_
                rintro e_ w2580 ⟨A2582, m2583, n2584, rfl, hS⟩
                replace HS : Aside0 (Sep (fps []) w [b7 g2457 g2458 t2450.1 t2450.2.1 t2450.2.2.1 t2450.2.2.2.1, b6 g2458 A2459 ((t2450.2.2.2.2).length) n2461 x2532, r5 A2459 ((t2450.2.2.2.2).length) n2461 x2530, r13 A2582 m2583 n2584 t2578, r14 (some ⟨g2471, 0, none⟩) m2467 m2467 x2531, r14 (some ⟨g2574, 0, none⟩) m2570 m2570 (List.replicate m2570 false)] w2580) := ⟨HS.out.call hS⟩
                clear hS
                obtain rfl := (row_len (HS.out.at3)).symm
                replace HS : Aside0 (Sep (fps []) w [r13 A2582 t2578.length n2584 t2578, r14 (some ⟨g2471, 0, none⟩) m2467 m2467 x2531, r14 (some ⟨g2574, 0, none⟩) m2570 m2570 (List.replicate m2570 false)] w2580) := ⟨HS.out.sub (.cons _ (.cons _ (.cons _ (.cons_cons _ (.cons_cons _ (.cons_cons _ .slnil))))))⟩
                go_wp2_with fail
                obtain ⟨o2626, AL2627, H⟩ := bind_some H
                go_loopg [97] k (fun kq v97 wc => ∃ (x2630 : Int) (x2631 : List Bool), v97 = .int .i64 x2630 ∧ Aside0 (quitrentlaw10_PoolKeeps.lo1 kq a1 m2467 (x2530, x2531, x2532) m2570 t2578 x2630 x2631 = some o2626) ∧ Aside0 (Sep (fps []) w [r13 A2582 t2578.length n2584 t2578, r14 (some ⟨g2471, 0, none⟩) m2467 m2467 x2531, r14 (some ⟨g2574, 0, none⟩) m2570 m2570 x2631] wc))
                case atStart => exact ⟨(0), ((List.replicate m2570 false)), (by first | rfl | (simp [IntKind.wrap_u32]; done)), AL2627, ⟨HS.out⟩⟩
                case round =>
                  clear AL2627 HS
                  obtain ⟨x2630, x2631, rfl, AL2627, HS⟩ := hrel
                  obtain ⟨w2628, rfl⟩ : ∃ x : World, x = wr := ⟨_, rfl⟩
                  cases gk with
                  | zero => exact absurd AL2627.out (by simp [quitrentlaw10_PoolKeeps.lo1])
                  | succ k2629 =>
                    have AL0 := AL2627.out
                    rw [quitrentlaw10_PoolKeeps.lo1] at AL0
                    clear AL2627
                    have AL2627 := Aside0.mk AL0
                    clear AL0
                    by_cases c2632 : x2630 < (t2578.length : Int)
                    · replace AL2627 := if_yes c2632 AL2627
                      have c2632b0 : decide (x2630 < (t2578.length : Int)) = true := decide_eq_true c2632
                      clear c2632
                      by_cases c2633 : 0 ≤ x2630
                      · replace AL2627 := if_yes c2633 AL2627
                        have c2633b0 : decide (0 ≤ x2630) = true := decide_eq_true c2633
                        have c2633p : (0 ≤ x2630) = True := eq_true c2633
                        clear c2633
                        have ip2634 : (x2630 < (t2578.length : Int)) = True := eq_true (of_decide_eq_true c2632b0)
                        by_cases c2638 : (rd t2578 x2630) < 0
                        · replace AL2627 := if_yes c2638 AL2627
                          have c2638b0 : decide ((rd t2578 x2630) < 0) = true := decide_eq_true c2638
                          clear c2638
                          obtain ⟨g2635, ea⟩ := row_at (HS.out.at0) (by have := (of_decide_eq_true c2633b0); have := (of_decide_eq_true c2632b0); omega); cases ea
                          have hx2636 := C_at_int (row_Ci (HS.out.at0)) x2630 (of_decide_eq_true c2633b0) (of_decide_eq_true c2632b0)
                          have hx2637 : w2628.cell? ⟨g2635, (x2630).toNat, none⟩ = some (.int .i64 (rd t2578 x2630)) := (row_get 0 (HS.out.at0) x2630 (of_decide_eq_true c2633b0) (of_decide_eq_true c2632b0)).1
                          go_wp2_with fail
                          clear hx2636 hx2637
                          have ho := some_eq AL2627
                          subst ho
                          have H := lp_ret H
                          go_ret
                          rw [← some_eq H]
                          exact ⟨(by first | rfl | (simp [IntKind.wrap_u32]; done)), HS.out.sub (.cons _ (.cons _ (.cons _ .slnil)))⟩
                        · replace AL2627 := if_no c2638 AL2627
                          have c2638b0 : decide ((rd t2578 x2630) < 0) = false := decide_eq_false c2638
                          clear c2638
                          by_cases c2639 : (rd t2578 x2630) ≥ (wrap64 (a1))
                          · replace AL2627 := if_yes c2639 AL2627
                            have c2639b0 : decide ((wrap64 (a1)) ≤ (rd t2578 x2630)) = true := decide_eq_true c2639
                            clear c2639
                            obtain ⟨g2635, ea⟩ := row_at (HS.out.at0) (by have := (of_decide_eq_true c2633b0); have := (of_decide_eq_true c2632b0); omega); cases ea
                            have hx2636 := C_at_int (row_Ci (HS.out.at0)) x2630 (of_decide_eq_true c2633b0) (of_decide_eq_true c2632b0)
                            have hx2637 : w2628.cell? ⟨g2635, (x2630).toNat, none⟩ = some (.int .i64 (rd t2578 x2630)) := (row_get 0 (HS.out.at0) x2630 (of_decide_eq_true c2633b0) (of_decide_eq_true c2632b0)).1
                            go_wp2_with fail
                            clear hx2636 hx2637
                            have ho := some_eq AL2627
                            subst ho
                            have H := lp_ret H
                            go_ret
                            rw [← some_eq H]
                            exact ⟨(by first | rfl | (simp [IntKind.wrap_u32]; done)), HS.out.sub (.cons _ (.cons _ (.cons _ .slnil)))⟩
                          · replace AL2627 := if_no c2639 AL2627
                            have c2639b0 : decide ((wrap64 (a1)) ≤ (rd t2578 x2630)) = false := decide_eq_false c2639
                            clear c2639
                            by_cases c2640 : 0 ≤ (rd t2578 x2630)
                            · replace AL2627 := if_yes c2640 AL2627
                              have c2640b0 : decide (0 ≤ (rd t2578 x2630)) = true := decide_eq_true c2640
                              have c2640p : (0 ≤ (rd t2578 x2630)) = True := eq_true c2640
                              clear c2640
                              by_cases c2641 : (rd t2578 x2630) < (m2570 : Int)
                              · replace AL2627 := if_yes c2641 AL2627
                                have c2641b0 : decide ((rd t2578 x2630) < (m2570 : Int)) = true := decide_eq_true c2641
                                have c2641p : ((rd t2578 x2630) < (m2570 : Int)) = True := eq_true c2641
                                clear c2641
                                by_cases c2644 : (rdOf false x2631 (rd t2578 x2630)) = true
                                · replace AL2627 := if_yes c2644 AL2627
                                  have c2644b0 : (rdOf false x2631 (rd t2578 x2630)) = true := c2644
                                  have c2644b1 : (!(rdOf false x2631 (rd t2578 x2630))) = false := by rw [c2644b0]; rfl
                                  clear c2644
                                  obtain ⟨g2635, ea⟩ := row_at (HS.out.at0) (by have := (of_decide_eq_true c2633b0); have := (of_decide_eq_true c2632b0); omega); cases ea
                                  have hx2636 := C_at_int (row_Ci (HS.out.at0)) x2630 (of_decide_eq_true c2633b0) (of_decide_eq_true c2632b0)
                                  have hx2637 : w2628.cell? ⟨g2635, (x2630).toNat, none⟩ = some (.int .i64 (rd t2578 x2630)) := (row_get 0 (HS.out.at0) x2630 (of_decide_eq_true c2633b0) (of_decide_eq_true c2632b0)).1
                                  have hx2642 := C_at_bool (row_Cb (HS.out.at2)) (rd t2578 x2630) (of_decide_eq_true c2640b0) (of_decide_eq_true c2641b0)
                                  have hx2643 : w2628.cell? ⟨g2574, (rd t2578 x2630).toNat, none⟩ = some (.bool (rdOf false x2631 (rd t2578 x2630))) := (row_get false (HS.out.at2) (rd t2578 x2630) (of_decide_eq_true c2640b0) (of_decide_eq_true c2641b0)).1
                                  go_wp2_with fail
                                  clear hx2636 hx2637 hx2642 hx2643
                                  have ho := some_eq AL2627
                                  subst ho
                                  have H := lp_ret H
                                  go_ret
                                  rw [← some_eq H]
                                  exact ⟨(by first | rfl | (simp [IntKind.wrap_u32]; done)), HS.out.sub (.cons _ (.cons _ (.cons _ .slnil)))⟩
                                · replace AL2627 := if_no c2644 AL2627
                                  have c2644b0 : (rdOf false x2631 (rd t2578 x2630)) = false := by simpa using c2644
                                  have c2644b1 : (!(rdOf false x2631 (rd t2578 x2630))) = true := by rw [c2644b0]; rfl
                                  clear c2644
                                  by_cases c2645 : (rd t2578 x2630) < (m2467 : Int)
                                  · replace AL2627 := if_yes c2645 AL2627
                                    have c2645b0 : decide ((rd t2578 x2630) < (m2467 : Int)) = true := decide_eq_true c2645
                                    have c2645p : ((rd t2578 x2630) < (m2467 : Int)) = True := eq_true c2645
                                    clear c2645
                                    by_cases c2648 : (rdOf false x2531 (rd t2578 x2630)) = true
                                    · replace AL2627 := if_yes c2648 AL2627
                                      have c2648b0 : (rdOf false x2531 (rd t2578 x2630)) = true := c2648
                                      have c2648b1 : (!(rdOf false x2531 (rd t2578 x2630))) = false := by rw [c2648b0]; rfl
                                      clear c2648
                                      obtain ⟨g2635, ea⟩ := row_at (HS.out.at0) (by have := (of_decide_eq_true c2633b0); have := (of_decide_eq_true c2632b0); omega); cases ea
                                      have hx2636 := C_at_int (row_Ci (HS.out.at0)) x2630 (of_decide_eq_true c2633b0) (of_decide_eq_true c2632b0)
                                      have hx2637 : w2628.cell? ⟨g2635, (x2630).toNat, none⟩ = some (.int .i64 (rd t2578 x2630)) := (row_get 0 (HS.out.at0) x2630 (of_decide_eq_true c2633b0) (of_decide_eq_true c2632b0)).1
                                      have hx2642 := C_at_bool (row_Cb (HS.out.at2)) (rd t2578 x2630) (of_decide_eq_true c2640b0) (of_decide_eq_true c2641b0)
                                      have hx2643 : w2628.cell? ⟨g2574, (rd t2578 x2630).toNat, none⟩ = some (.bool (rdOf false x2631 (rd t2578 x2630))) := (row_get false (HS.out.at2) (rd t2578 x2630) (of_decide_eq_true c2640b0) (of_decide_eq_true c2641b0)).1
                                      have hx2646 := C_at_bool (row_Cb (HS.out.at1)) (rd t2578 x2630) (of_decide_eq_true c2640b0) (of_decide_eq_true c2645b0)
                                      have hx2647 : w2628.cell? ⟨g2471, (rd t2578 x2630).toNat, none⟩ = some (.bool (rdOf false x2531 (rd t2578 x2630))) := (row_get false (HS.out.at1) (rd t2578 x2630) (of_decide_eq_true c2640b0) (of_decide_eq_true c2645b0)).1
                                      go_wp2_with fail
                                      clear hx2636 hx2637 hx2642 hx2643 hx2646 hx2647
                                      have ho := some_eq AL2627
                                      subst ho
                                      have H := lp_ret H
                                      go_ret
                                      rw [← some_eq H]
                                      exact ⟨(by first | rfl | (simp [IntKind.wrap_u32]; done)), HS.out.sub (.cons _ (.cons _ (.cons _ .slnil)))⟩
                                    · replace AL2627 := if_no c2648 AL2627
                                      have c2648b0 : (rdOf false x2531 (rd t2578 x2630)) = false := by simpa using c2648
                                      have c2648b1 : (!(rdOf false x2531 (rd t2578 x2630))) = true := by rw [c2648b0]; rfl
                                      clear c2648
                                      obtain ⟨y2622, HA2650, AL2627⟩ := bind_some AL2627
                                      obtain ⟨g2635, ea⟩ := row_at (HS.out.at0) (by have := (of_decide_eq_true c2633b0); have := (of_decide_eq_true c2632b0); omega); cases ea
                                      have hx2636 := C_at_int (row_Ci (HS.out.at0)) x2630 (of_decide_eq_true c2633b0) (of_decide_eq_true c2632b0)
                                      have hx2637 : w2628.cell? ⟨g2635, (x2630).toNat, none⟩ = some (.int .i64 (rd t2578 x2630)) := (row_get 0 (HS.out.at0) x2630 (of_decide_eq_true c2633b0) (of_decide_eq_true c2632b0)).1
                                      have hx2642 := C_at_bool (row_Cb (HS.out.at2)) (rd t2578 x2630) (of_decide_eq_true c2640b0) (of_decide_eq_true c2641b0)
                                      have hx2643 : w2628.cell? ⟨g2574, (rd t2578 x2630).toNat, none⟩ = some (.bool (rdOf false x2631 (rd t2578 x2630))) := (row_get false (HS.out.at2) (rd t2578 x2630) (of_decide_eq_true c2640b0) (of_decide_eq_true c2641b0)).1
                                      have hx2646 := C_at_bool (row_Cb (HS.out.at1)) (rd t2578 x2630) (of_decide_eq_true c2640b0) (of_decide_eq_true c2645b0)
                                      have hx2647 : w2628.cell? ⟨g2471, (rd t2578 x2630).toNat, none⟩ = some (.bool (rdOf false x2531 (rd t2578 x2630))) := (row_get false (HS.out.at1) (rd t2578 x2630) (of_decide_eq_true c2640b0) (of_decide_eq_true c2645b0)).1
                                      have hx2651 := (row_get false (HS.out.at2) (rd t2578 x2630) (of_decide_eq_true c2640b0) (of_decide_eq_true c2641b0)).1
                                      have hz2652 := (row_get false (HS.out.at2) (rd t2578 x2630) (of_decide_eq_true c2640b0) (of_decide_eq_true c2641b0)).2
                                      go_wp2_with (first | ((with_reducible refine gate_store (t := 4) (p := 123) rfl ?_); refine store_event (w1 := World.setCell w2628 ⟨g2574, (rd t2578 x2630).toNat, none⟩ (.bool true)) rfl (t := 4) (p := 123) rfl rfl ?hr ?_; (case hr => first | (go_simp; done) | (go_simp; rfl)); intro w2649 hst; clear hx2636 hx2637 hx2642 hx2643 hx2646 hx2647 hx2651 hz2652; have hq := Sep.rowset (l1 := [r13 (some ⟨g2635, 0, none⟩) t2578.length n2584 t2578, r14 (some ⟨g2471, 0, none⟩) m2467 m2467 x2531]) (l2 := []) HS.out (rd t2578 x2630) true; rw [← hst, some_eq HA2650] at hq; replace HS : Aside0 (Sep (fps []) w [r13 (some ⟨g2635, 0, none⟩) t2578.length n2584 t2578, r14 (some ⟨g2471, 0, none⟩) m2467 m2467 x2531, r14 (some ⟨g2574, 0, none⟩) m2570 m2570 y2622] w2649) := ⟨hq⟩; clear hst hq))
                                      go_roundg k2629
                                      case measure => exact Nat.lt_succ_self _
                                      case rel => exact ⟨(wrap64 (x2630 + 1)), (y2622), (by first | rfl | (simp [IntKind.wrap_u32]; done)), Aside0.mk AL2627.out, ⟨HS.out⟩⟩
                                  · replace AL2627 := if_no c2645 AL2627
                                    have c2645b0 : decide ((rd t2578 x2630) < (m2467 : Int)) = false := decide_eq_false c2645
                                    clear c2645
                                    exact (none_no AL2627).elim
                              · replace AL2627 := if_no c2641 AL2627
                                have c2641b0 : decide ((rd t2578 x2630) < (m2570 : Int)) = false := decide_eq_false c2641
                                clear c2641
                                exact (none_no AL2627).elim
                            · replace AL2627 := if_no c2640 AL2627
                              have c2640b0 : decide (0 ≤ (rd t2578 x2630)) = false := decide_eq_false c2640
                              clear c2640
                              exact (none_no AL2627).elim
                      · replace AL2627 := if_no c2633 AL2627
                        have c2633b0 : decide (0 ≤ x2630) = false := decide_eq_false c2633
                        clear c2633
                        exact (none_no AL2627).elim
                    · replace AL2627 := if_no c2632 AL2627
                      have c2632b0 : decide (x2630 < (t2578.length : Int)) = false := decide_eq_false c2632
                      clear c2632
                      have ho := some_eq AL2627
                      subst ho
                      clear AL2627
                      have H := lp_out H
                      replace HS : Aside0 (Sep (fps []) w [r14 (some ⟨g2471, 0, none⟩) m2467 m2467 x2531, r14 (some ⟨g2574, 0, none⟩) m2570 m2570 x2631] w2628) := ⟨HS.out.sub (.cons _ (.cons_cons _ (.cons_cons _ .slnil)))⟩
                      go_wp2_with fail
                      obtain ⟨o2667, AL2668, H⟩ := bind_some H
                      go_loopg [127] k (fun kq v127 wc => ∃ (x2671 : Int), v127 = .int .i64 x2671 ∧ Aside0 (quitrentlaw10_PoolKeeps.lo2 kq m2467 (x2530, x2531, x2532) m2570 x2631 x2671 = some o2667) ∧ Aside0 (Sep (fps []) w [r14 (some ⟨g2471, 0, none⟩) m2467 m2467 x2531, r14 (some ⟨g2574, 0, none⟩) m2570 m2570 x2631] wc))
                      case atStart => exact ⟨(0), (by first | rfl | (simp [IntKind.wrap_u32]; done)), AL2668, ⟨HS.out⟩⟩
                      case round =>
                        clear AL2668 HS
                        obtain ⟨x2671, rfl, AL2668, HS⟩ := hrel
                        obtain ⟨w2669, rfl⟩ : ∃ x : World, x = wr := ⟨_, rfl⟩
                        cases gk with
                        | zero => exact absurd AL2668.out (by simp [quitrentlaw10_PoolKeeps.lo2])
                        | succ k2670 =>
                          have AL0 := AL2668.out
                          rw [quitrentlaw10_PoolKeeps.lo2] at AL0
                          clear AL2668
                          have AL2668 := Aside0.mk AL0
                          clear AL0
                          by_cases c2672 : x2671 < (m2570 : Int)
                          · replace AL2668 := if_yes c2672 AL2668
                            have c2672b0 : decide (x2671 < (m2570 : Int)) = true := decide_eq_true c2672
                            clear c2672
                            go_wp2_with fail
                            refine start_ (n := 9) (S := (fun w' => Kd.C Kd.bool w' (some ⟨g2574, 0, none⟩) m2570 x2631 ∧ Kd.C Kd.bool w' (some ⟨g2471, 0, none⟩) m2467 x2531)) (ds := []) #[false, false, false, false, false, false, false, false, false] (by kernel_rfl) rfl rfl (⟨row_Cb ((HS.out.drew).at1), row_Cb ((HS.out.drew).at0)⟩) (fun hHeld => ?_)
                            have HS_ := Aside0.mk HS.out.drew
                            clear HS
                            generalize World.drew _ = w2674 at HS_ hHeld ⊢
                            have HS := HS_
                            clear HS_
                            refine pure_ (i := 0) (N := some 130) (v := ?_) (a' := ?_) #[true, false, false, false, false, false, false, false, false] rfl rfl (by kernel_rfl) (fun _ _ _ h => h) (Or.inl ⟨by rfl, ?_⟩) ?_ ?_
                            rotate_left
                            · intro w'
                              go_simp
                              with_reducible rfl
                            rotate_left
                            · simp only [Act.put, List.setIfInBounds_toArray, List.set_cons_zero, List.set_cons_succ, i64_w, i32_w]
                              rfl
                            refine pure_ (i := 1) (N := some 131) (v := ?_) (a' := ?_) #[true, true, false, false, false, false, false, false, false] rfl rfl (by kernel_rfl) (fun _ _ _ h => h) (Or.inl ⟨by rfl, ?_⟩) ?_ ?_
                            rotate_left
                            · intro w'
                              go_simp
                              with_reducible rfl
                            rotate_left
                            · simp only [Act.put, List.setIfInBounds_toArray, List.set_cons_zero, List.set_cons_succ, i64_w, i32_w]
                              rfl
                            by_cases c2675 : 0 ≤ x2671
                            · replace AL2668 := if_yes c2675 AL2668
                              have c2675b0 : decide (0 ≤ x2671) = true := decide_eq_true c2675
                              have c2675p : (0 ≤ x2671) = True := eq_true c2675
                              clear c2675
                              have ip2676 : (x2671 < (m2570 : Int)) = True := eq_true (of_decide_eq_true c2672b0)
                              refine pure_ (i := 2) (N := some 132) (v := ?_) (a' := ?_) #[true, true, true, false, false, false, false, false, false] rfl rfl (by kernel_rfl) (fun _ _ _ h => h) (Or.inl ⟨by rfl, ?_⟩) ?_ ?_
                              rotate_left
                              · intro w'
                                go_simp
                                with_reducible rfl
                              rotate_left
                              · simp only [Act.put, List.setIfInBounds_toArray, List.set_cons_zero, List.set_cons_succ, i64_w, i32_w]
                                rfl
                              refine pure_ (i := 4) (N := some 134) (v := ?_) (a' := ?_) #[true, true, true, false, true, false, false, false, false] rfl rfl (by kernel_rfl) (fun _ _ _ h => h) (Or.inl ⟨by rfl, ?_⟩) ?_ ?_
                              rotate_left
                              · intro w'
                                go_simp
                                with_reducible rfl
                              rotate_left
                              · simp only [Act.put, List.setIfInBounds_toArray, List.set_cons_zero, List.set_cons_succ, i64_w, i32_w]
                                rfl
                              refine pure_ (i := 5) (N := some 135) (v := ?_) (a' := ?_) #[true, true, true, false, true, true, false, false, false] rfl rfl (by kernel_rfl) (fun _ _ _ h => h) (Or.inl ⟨by rfl, ?_⟩) ?_ ?_
                              rotate_left
                              · intro w'
                                go_simp
                                with_reducible rfl
                              rotate_left
                              · simp only [Act.put, List.setIfInBounds_toArray, List.set_cons_zero, List.set_cons_succ, i64_w, i32_w]
                                rfl
                              by_cases c2677 : x2671 < (m2467 : Int)
                              · replace AL2668 := if_yes c2677 AL2668
                                have c2677b0 : decide (x2671 < (m2467 : Int)) = true := decide_eq_true c2677
                                have c2677p : (x2671 < (m2467 : Int)) = True := eq_true c2677
                                clear c2677
                                refine pure_ (i := 6) (N := some 136) (v := ?_) (a' := ?_) #[true, true, true, false, true, true, true, false, false] rfl rfl (by kernel_rfl) (fun _ _ _ h => h) (Or.inl ⟨by rfl, ?_⟩) ?_ ?_
                                rotate_left
                                · intro w'
                                  go_simp
                                  with_reducible rfl
                                rotate_left
                                · simp only [Act.put, List.setIfInBounds_toArray, List.set_cons_zero, List.set_cons_succ, i64_w, i32_w]
                                  rfl
                                refine take_ (i := 3) (N := some 133) (v := ?_) (a' := ?_) #[true, true, true, true, true, true, true, false, false] rfl rfl (by kernel_rfl) (fun _ _ _ h => h) (Or.inl ⟨by rfl, ?_⟩) hHeld ?_ ?_
                                rotate_left
                                · rintro w' hS'
                                  obtain ⟨s0, s1⟩ := hS'
                                  have hx := C_at_bool s0 x2671 (of_decide_eq_true c2675b0) (of_decide_eq_true c2672b0)
                                  have hx2 : w'.cell? ⟨g2574, (x2671).toNat, none⟩ = some (.bool (rdOf false x2631 x2671)) := by have h_ := hx; rwa [add_plain] at h_
                                  go_simp
                                  with_reducible rfl
                                rotate_left
                                · simp only [Act.put, List.setIfInBounds_toArray, List.set_cons_zero, List.set_cons_succ, i64_w, i32_w]
                                  rfl
                                refine take_ (i := 7) (N := some 137) (v := ?_) (a' := ?_) #[true, true, true, true, true, true, true, true, false] rfl rfl (by kernel_rfl) (fun _ _ _ h => h) (Or.inl ⟨by rfl, ?_⟩) hHeld ?_ ?_
                                rotate_left
                                · rintro w' hS'
                                  obtain ⟨s0, s1⟩ := hS'
                                  have hx := C_at_bool s1 x2671 (of_decide_eq_true c2675b0) (of_decide_eq_true c2677b0)
                                  have hx2 : w'.cell? ⟨g2471, (x2671).toNat, none⟩ = some (.bool (rdOf false x2531 x2671)) := by have h_ := hx; rwa [add_plain] at h_
                                  go_simp
                                  with_reducible rfl
                                rotate_left
                                · simp only [Act.put, List.setIfInBounds_toArray, List.set_cons_zero, List.set_cons_succ, i64_w, i32_w]
                                  rfl
                                by_cases c2678 : (rdOf false x2631 x2671) = true
                                · replace AL2668 := if_yes c2678 AL2668
                                  have c2678b0 : (rdOf false x2631 x2671) = true := c2678
                                  have c2678b1 : (!(rdOf false x2631 x2671)) = false := by rw [c2678b0]; rfl
                                  clear c2678
                                  by_cases c2679 : (rdOf false x2531 x2671) = true
                                  · replace AL2668 := if_yes c2679 AL2668
                                    have c2679b0 : (rdOf false x2531 x2671) = true := c2679
                                    have c2679b1 : (!(rdOf false x2531 x2671)) = false := by rw [c2679b0]; rfl
                                    clear c2679
                                    refine pure_ (i := 8) (N := some 138) (v := ?_) (a' := ?_) #[true, true, true, true, true, true, true, true, true] rfl rfl (by kernel_rfl) (fun _ _ _ h => h) (Or.inl ⟨by rfl, ?_⟩) ?_ ?_
                                    rotate_left
                                    · intro w'
                                      go_simp
                                      with_reducible rfl
                                    rotate_left
                                    · simp only [Act.put, List.setIfInBounds_toArray, List.set_cons_zero, List.set_cons_succ, i64_w, i32_w]
                                      rfl
                                    refine done_ (by kernel_rfl) ?_
                                    go_wp2_with fail
                                    have ho := some_eq AL2668
                                    subst ho
                                    have H := lp_ret H
                                    go_ret
                                    rw [← some_eq H]
                                    exact ⟨(by first | rfl | (simp [IntKind.wrap_u32]; done)), HS.out.sub (.cons _ (.cons _ .slnil))⟩
                                  · replace AL2668 := if_no c2679 AL2668
                                    have c2679b0 : (rdOf false x2531 x2671) = false := by simpa using c2679
                                    have c2679b1 : (!(rdOf false x2531 x2671)) = true := by rw [c2679b0]; rfl
                                    clear c2679
                                    refine pure_ (i := 8) (N := some 138) (v := ?_) (a' := ?_) #[true, true, true, true, true, true, true, true, true] rfl rfl (by kernel_rfl) (fun _ _ _ h => h) (Or.inl ⟨by rfl, ?_⟩) ?_ ?_
                                    rotate_left
                                    · intro w'
                                      go_simp
                                      with_reducible rfl
                                    rotate_left
                                    · simp only [Act.put, List.setIfInBounds_toArray, List.set_cons_zero, List.set_cons_succ, i64_w, i32_w]
                                      rfl
                                    refine done_ (by kernel_rfl) ?_
                                    go_wp2_with fail
                                    go_roundg k2670
                                    case measure => exact Nat.lt_succ_self _
                                    case rel => exact ⟨(wrap64 (x2671 + 1)), (by first | rfl | (simp [IntKind.wrap_u32]; done)), Aside0.mk AL2668.out, ⟨HS.out⟩⟩
                                · replace AL2668 := if_no c2678 AL2668
                                  have c2678b0 : (rdOf false x2631 x2671) = false := by simpa using c2678
                                  have c2678b1 : (!(rdOf false x2631 x2671)) = true := by rw [c2678b0]; rfl
                                  clear c2678
                                  by_cases c2680 : (rdOf false x2531 x2671) = true
                                  · replace AL2668 := if_yes c2680 AL2668
                                    have c2680b0 : (rdOf false x2531 x2671) = true := c2680
                                    have c2680b1 : (!(rdOf false x2531 x2671)) = false := by rw [c2680b0]; rfl
                                    clear c2680
                                    refine pure_ (i := 8) (N := some 138) (v := ?_) (a' := ?_) #[true, true, true, true, true, true, true, true, true] rfl rfl (by kernel_rfl) (fun _ _ _ h => h) (Or.inl ⟨by rfl, ?_⟩) ?_ ?_
                                    rotate_left
                                    · intro w'
                                      go_simp
                                      with_reducible rfl
                                    rotate_left
                                    · simp only [Act.put, List.setIfInBounds_toArray, List.set_cons_zero, List.set_cons_succ, i64_w, i32_w]
                                      rfl
                                    refine done_ (by kernel_rfl) ?_
                                    go_wp2_with fail
                                    go_roundg k2670
                                    case measure => exact Nat.lt_succ_self _
                                    case rel => exact ⟨(wrap64 (x2671 + 1)), (by first | rfl | (simp [IntKind.wrap_u32]; done)), Aside0.mk AL2668.out, ⟨HS.out⟩⟩
                                  · replace AL2668 := if_no c2680 AL2668
                                    have c2680b0 : (rdOf false x2531 x2671) = false := by simpa using c2680
                                    have c2680b1 : (!(rdOf false x2531 x2671)) = true := by rw [c2680b0]; rfl
                                    clear c2680
                                    refine pure_ (i := 8) (N := some 138) (v := ?_) (a' := ?_) #[true, true, true, true, true, true, true, true, true] rfl rfl (by kernel_rfl) (fun _ _ _ h => h) (Or.inl ⟨by rfl, ?_⟩) ?_ ?_
                                    rotate_left
                                    · intro w'
                                      go_simp
                                      with_reducible rfl
                                    rotate_left
                                    · simp only [Act.put, List.setIfInBounds_toArray, List.set_cons_zero, List.set_cons_succ, i64_w, i32_w]
                                      rfl
                                    refine done_ (by kernel_rfl) ?_
                                    go_wp2_with fail
                                    have ho := some_eq AL2668
                                    subst ho
                                    have H := lp_ret H
                                    go_ret
                                    rw [← some_eq H]
                                    exact ⟨(by first | rfl | (simp [IntKind.wrap_u32]; done)), HS.out.sub (.cons _ (.cons _ .slnil))⟩
                              · replace AL2668 := if_no c2677 AL2668
                                have c2677b0 : decide (x2671 < (m2467 : Int)) = false := decide_eq_false c2677
                                clear c2677
                                exact (none_no AL2668).elim
                            · replace AL2668 := if_no c2675 AL2668
                              have c2675b0 : decide (0 ≤ x2671) = false := decide_eq_false c2675
                              clear c2675
                              exact (none_no AL2668).elim
                          · replace AL2668 := if_no c2672 AL2668
                            have c2672b0 : decide (x2671 < (m2570 : Int)) = false := decide_eq_false c2672
                            clear c2672
                            have ho := some_eq AL2668
                            subst ho
                            clear AL2668
                            have H := lp_out H
                            go_wp2_with fail
                            obtain ⟨t2681, HA2682, H⟩ := bind_some H
                            refine (quitrentlaw10_begun.calls _ t2681 _ ⟨Sep.start _⟩ HA2682).mono ?_
                            rintro e_ w2683 ⟨rfl, hS⟩
                            replace HS : Aside0 (Sep (fps []) w [r14 (some ⟨g2471, 0, none⟩) m2467 m2467 x2531, r14 (some ⟨g2574, 0, none⟩) m2570 m2570 x2631] w2683) := ⟨HS.out.call hS⟩
                            clear hS
                            replace HS : Aside0 (Sep (fps []) w [] w2683) := ⟨HS.out.sub (.cons _ (.cons _ .slnil))⟩
                            go_wp2_with fail
                            go_ret
                            rw [← some_eq H]
                            exact ⟨(by first | rfl | (simp [IntKind.wrap_u32]; done)), HS.out⟩
        · replace H := if_no c2466 H
          have c2466b0 : t2463.1 = false := by simpa using c2466
          have c2466b1 : (!t2463.1) = true := by rw [c2466b0]; rfl
          try rw [c2466b1]
          clear c2466
          replace HS : Aside0 (Sep (fps []) w [] w2465) := ⟨HS.out.sub (.cons _ (.cons _ (.cons _ .slnil)))⟩
          go_wp2_with fail
          go_ret
          rw [← some_eq H]
          exact ⟨(by first | rfl | (simp [IntKind.wrap_u32]; done)), HS.out⟩
      · have H := sum_r H
        have H := sum_r H
        refine (ground_New.calls _ (wrap64 (a1)) 16 1 1 (.inr (.inr t2451)) _ ⟨Sep.start _⟩ HA2448).mono ?_
        rintro e_ w2814 ⟨rfl, hS⟩
        replace HS : Aside0 (Sep (fps []) w [] w2814) := ⟨HS.out.call hS⟩
        clear hS
        by_cases c2815 : t2451 = 0
        · replace H := if_yes c2815 H
          have c2815b0 : (t2451 == 0) = true := beq_iff_eq.mpr c2815
          have c2815b1 : (t2451 != 0) = false := bne_eq_false_iff_eq.mpr c2815
          clear c2815
          exact (none_no H).elim
        · replace H := if_no c2815 H
          have c2815b0 : (t2451 == 0) = false := beq_eq_false_iff_ne.mpr c2815
          have c2815b1 : (t2451 != 0) = true := bne_iff_ne.mpr c2815
          clear c2815
          go_wp2_with fail
          go_ret
          rw [← some_eq H]
          exact ⟨(by first | rfl | (simp [IntKind.wrap_u32]; done)), HS.out⟩
end Go.Proofs.Ytobeonkddamnoaa.C

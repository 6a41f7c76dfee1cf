/- Each function of the group RP does what its plain function says, and changes nothing that was there; proved by walking its code. No condition. -/
import Derived.Test.YtobeonkddamnoaaDoorQw
import Derived.Test.YtobeonkddamnoaaDoorMRP
import Derived.Test.YtobeonkddamnoaaDoorGRP0
namespace Go.Proofs.YtobeonkddamnoaaDoor.C
open Go.RowKit Go.Proofs.YtobeonkddamnoaaDoorW.PrintWords Go.Proofs.YtobeonkddamnoaaDoorW.PrintLast Go.Proofs.YtobeonkddamnoaaDoor.Q Go.Proofs.YtobeonkddamnoaaDoor.M
set_option linter.unusedVariables false
set_option linter.unusedSimpArgs false
set_option maxHeartbeats 30000000 in
set_option maxRecDepth 100000 in
theorem tag_Unpack_1.calls (a1520 : Int) (a1521 : Int) (a1524 : Int) (g1523 : Nat) (r : Int) (w : World)  (HGl0 : Aside0 (Gl 0 #[.int .i64 0, .int .i64 0, .int .i64 0, .int .i64 0, .int .i64 0] (fps [b10 g1523 a1524]) w)) (HS : Aside0 (Sep (fps [b10 g1523 a1524]) w [b10 g1523 a1524] w)) (H : Aside0 (tag_Unpack_1.f a1520 a1521 a1524 = some r)) :
    Calls Tryd.prog 74 #[.int .i64 a1520, .int .i64 a1521, .pointer (some ⟨g1523, 0, none⟩)] w fun e w' => e = .returned (.int .i64 r) ∧ Sep (fps [b10 g1523 a1524]) w [b10 g1523 a1524] w' := by
  generalize (fps [b10 g1523 a1524]) = FF at HS HGl0 ⊢
  unfold tag_Unpack_1.f at H
  go_enter Tryd.func74, Tryd.ntmps74
  have hc1525 : w.cell? ⟨g1523, 0, none⟩ = some (.int .u32 a1524) := blk_cellv (HS.out.at0) 0 rfl
  go_wp2_with fail
  clear hc1525
  obtain ⟨t1546, HA1547, H⟩ := bind_some H
  refine (pack_Get.calls a1524 a1520 a1521 t1546 _ ⟨HGl0.out.pass (l := []) HS.out⟩ ⟨Sep.start _⟩ HA1547).mono ?_
  rintro e_ w1548 ⟨rfl, hS⟩
  replace HS : Aside0 (Sep FF w [b10 g1523 a1524] w1548) := ⟨HS.out.call hS⟩
  clear hS
  go_wp2_with fail
  go_ret
  rw [← some_eq H]
  exact ⟨(by first | rfl | (simp [IntKind.wrap_u32]; done)), HS.out⟩

set_option maxHeartbeats 30000000 in
set_option maxRecDepth 100000 in
theorem tag_Unpack.calls (a1513 : Int) (r : Int × Int × Int × Int × Int × Int × Int) (w : World)  (HGl0 : Aside0 (Gl 0 #[.int .i64 0, .int .i64 0, .int .i64 0, .int .i64 0, .int .i64 0] (fps []) w)) (HS : Aside0 (Sep (fps []) w [] w)) (H : Aside0 (tag_Unpack.f a1513 = some r)) :
    Calls Tryd.prog 19 #[.int .u32 a1513] w fun e w' => e = .returned (.agg #[.int .i64 r.1, .int .i64 r.2.1, .int .i64 r.2.2.1, .int .i64 r.2.2.2.1, .int .i64 r.2.2.2.2.1, .int .i64 r.2.2.2.2.2.1, .int .i64 r.2.2.2.2.2.2]) ∧ Sep (fps []) w [] w' := by
  unfold tag_Unpack.f at H
  go_enter Tryd.func19, Tryd.ntmps19
  go_wp2_with (first | ((with_reducible refine gate_dst (N := 1) rfl ?_); refine box_on ?hg (N := 1) ?hd (cs := #[.int .u32 a1513]) (t := 33) ?hr ?_; (case hd => rfl); (case hg => rfl); (case hr => first | (go_simp; done) | (go_simp; rfl)); intro g1514 hg w1515 hbox hb; replace HS : Aside0 (Sep (fps []) w [b10 g1514 a1513] w1515) := ⟨HS.out.box hg hbox hb⟩; clear hg hbox hb) | ((with_reducible refine gate_dst (N := 2) rfl ?_); refine box_on ?hg (N := 2) ?hd (cs := #[.int .i64 0, .int .i64 0, .int .i64 0, .int .i64 0, .int .i64 0, .int .i64 0, .int .i64 0]) (t := 32) ?hr ?_; (case hd => rfl); (case hg => rfl); (case hr => first | (go_simp; done) | (go_simp; rfl)); intro g1517 hg w1518 hbox hb; replace HS : Aside0 (Sep (fps []) w [b10 g1514 a1513, b9 g1517 0 0 0 0 0 0 0] w1518) := ⟨HS.out.box hg hbox hb⟩; clear hg hbox hb))
  obtain ⟨t1549, HA1550, H⟩ := bind_some H
  refine (tag_Unpack_1.calls 0 2 a1513 g1514 t1549 _ ⟨HGl0.out.pass HS.out⟩ ⟨HS.out.begin⟩ HA1550).mono ?_
  rintro e_ w1551 ⟨rfl, hS⟩
  replace HS : Aside0 (Sep (fps []) w [b10 g1514 a1513, b9 g1517 0 0 0 0 0 0 0] w1551) := ⟨HS.out.call hS⟩
  clear hS
  go_wp2_with fail
  obtain ⟨t1552, HA1553, H⟩ := bind_some H
  refine (tag_Unpack_1.calls 2 1 a1513 g1514 t1552 _ ⟨HGl0.out.pass HS.out⟩ ⟨HS.out.begin⟩ HA1553).mono ?_
  rintro e_ w1554 ⟨rfl, hS⟩
  replace HS : Aside0 (Sep (fps []) w [b10 g1514 a1513, b9 g1517 0 0 0 0 0 0 0] w1554) := ⟨HS.out.call hS⟩
  clear hS
  go_wp2_with fail
  obtain ⟨t1555, HA1556, H⟩ := bind_some H
  refine (tag_Unpack_1.calls 3 1 a1513 g1514 t1555 _ ⟨HGl0.out.pass HS.out⟩ ⟨HS.out.begin⟩ HA1556).mono ?_
  rintro e_ w1557 ⟨rfl, hS⟩
  replace HS : Aside0 (Sep (fps []) w [b10 g1514 a1513, b9 g1517 0 0 0 0 0 0 0] w1557) := ⟨HS.out.call hS⟩
  clear hS
  go_wp2_with fail
  obtain ⟨t1558, HA1559, H⟩ := bind_some H
  refine (tag_Unpack_1.calls 4 1 a1513 g1514 t1558 _ ⟨HGl0.out.pass HS.out⟩ ⟨HS.out.begin⟩ HA1559).mono ?_
  rintro e_ w1560 ⟨rfl, hS⟩
  replace HS : Aside0 (Sep (fps []) w [b10 g1514 a1513, b9 g1517 0 0 0 0 0 0 0] w1560) := ⟨HS.out.call hS⟩
  clear hS
  go_wp2_with fail
  obtain ⟨t1561, HA1562, H⟩ := bind_some H
  refine (tag_Unpack_1.calls 5 1 a1513 g1514 t1561 _ ⟨HGl0.out.pass HS.out⟩ ⟨HS.out.begin⟩ HA1562).mono ?_
  rintro e_ w1563 ⟨rfl, hS⟩
  replace HS : Aside0 (Sep (fps []) w [b10 g1514 a1513, b9 g1517 0 0 0 0 0 0 0] w1563) := ⟨HS.out.call hS⟩
  clear hS
  go_wp2_with fail
  obtain ⟨t1564, HA1565, H⟩ := bind_some H
  refine (tag_Unpack_1.calls 6 1 a1513 g1514 t1564 _ ⟨HGl0.out.pass HS.out⟩ ⟨HS.out.begin⟩ HA1565).mono ?_
  rintro e_ w1566 ⟨rfl, hS⟩
  replace HS : Aside0 (Sep (fps []) w [b10 g1514 a1513, b9 g1517 0 0 0 0 0 0 0] w1566) := ⟨HS.out.call hS⟩
  clear hS
  go_wp2_with fail
  obtain ⟨t1567, HA1568, H⟩ := bind_some H
  refine (tag_Unpack_1.calls 8 24 a1513 g1514 t1567 _ ⟨HGl0.out.pass HS.out⟩ ⟨HS.out.begin⟩ HA1568).mono ?_
  rintro e_ w1569 ⟨rfl, hS⟩
  replace HS : Aside0 (Sep (fps []) w [b10 g1514 a1513, b9 g1517 0 0 0 0 0 0 0] w1569) := ⟨HS.out.call hS⟩
  clear hS
  have hc1570 : w1569.cell? ⟨g1517, 0, none⟩ = some (.int .i64 0) := blk_cellv (HS.out.at1) 0 rfl
  have hz1571 : w1569.frozen? ⟨g1517, 0, none⟩ = false := blk_fz (HS.out.at1) 0
  have hc1572 : w1569.cell? ⟨g1517, 1, none⟩ = some (.int .i64 0) := blk_cellv (HS.out.at1) 1 rfl
  have hz1573 : w1569.frozen? ⟨g1517, 1, none⟩ = false := blk_fz (HS.out.at1) 1
  have hc1574 : w1569.cell? ⟨g1517, 2, none⟩ = some (.int .i64 0) := blk_cellv (HS.out.at1) 2 rfl
  have hz1575 : w1569.frozen? ⟨g1517, 2, none⟩ = false := blk_fz (HS.out.at1) 2
  have hc1576 : w1569.cell? ⟨g1517, 3, none⟩ = some (.int .i64 0) := blk_cellv (HS.out.at1) 3 rfl
  have hz1577 : w1569.frozen? ⟨g1517, 3, none⟩ = false := blk_fz (HS.out.at1) 3
  have hc1578 : w1569.cell? ⟨g1517, 4, none⟩ = some (.int .i64 0) := blk_cellv (HS.out.at1) 4 rfl
  have hz1579 : w1569.frozen? ⟨g1517, 4, none⟩ = false := blk_fz (HS.out.at1) 4
  have hc1580 : w1569.cell? ⟨g1517, 5, none⟩ = some (.int .i64 0) := blk_cellv (HS.out.at1) 5 rfl
  have hz1581 : w1569.frozen? ⟨g1517, 5, none⟩ = false := blk_fz (HS.out.at1) 5
  have hc1582 : w1569.cell? ⟨g1517, 6, none⟩ = some (.int .i64 0) := blk_cellv (HS.out.at1) 6 rfl
  have hz1583 : w1569.frozen? ⟨g1517, 6, none⟩ = false := blk_fz (HS.out.at1) 6
  go_wp2_with (first | ((with_reducible refine gate_store (t := 32) (p := 2) rfl ?_); refine store_event (w1 := (World.setCell (World.setCell (World.setCell (World.setCell (World.setCell (World.setCell (World.setCell w1569 ⟨g1517, 0, none⟩ (.int .i64 t1549)) ⟨g1517, 1, none⟩ (.int .i64 t1552)) ⟨g1517, 2, none⟩ (.int .i64 t1555)) ⟨g1517, 3, none⟩ (.int .i64 t1558)) ⟨g1517, 4, none⟩ (.int .i64 t1561)) ⟨g1517, 5, none⟩ (.int .i64 t1564)) ⟨g1517, 6, none⟩ (.int .i64 t1567))) rfl (t := 32) (p := 2) rfl rfl ?hr ?_; (case hr => first | (go_simp; done) | (go_simp; rfl)); intro w1584 hst; clear hc1570 hz1571 hc1572 hz1573 hc1574 hz1575 hc1576 hz1577 hc1578 hz1579 hc1580 hz1581 hc1582 hz1583; replace HS : Aside0 (Sep (fps []) w [b10 g1514 a1513, b9 g1517 t1549 t1552 t1555 t1558 t1561 t1564 t1567] w1584) := ⟨by rw [hst]; exact HS.out.setAll (l1 := [b10 g1514 a1513]) (l2 := []) [.int .i64 t1549, .int .i64 t1552, .int .i64 t1555, .int .i64 t1558, .int .i64 t1561, .int .i64 t1564, .int .i64 t1567] rfl⟩; clear hst; replace HS : Aside0 (Sep (fps []) w [b9 g1517 t1549 t1552 t1555 t1558 t1561 t1564 t1567] w1584) := ⟨HS.out.sub (.cons _ (.cons_cons _ .slnil))⟩))
  have hc1585 : w1584.cell? ⟨g1517, 0, none⟩ = some (.int .i64 t1549) := blk_cellv (HS.out.at0) 0 rfl
  have hc1586 : w1584.cell? ⟨g1517, 1, none⟩ = some (.int .i64 t1552) := blk_cellv (HS.out.at0) 1 rfl
  have hc1587 : w1584.cell? ⟨g1517, 2, none⟩ = some (.int .i64 t1555) := blk_cellv (HS.out.at0) 2 rfl
  have hc1588 : w1584.cell? ⟨g1517, 3, none⟩ = some (.int .i64 t1558) := blk_cellv (HS.out.at0) 3 rfl
  have hc1589 : w1584.cell? ⟨g1517, 4, none⟩ = some (.int .i64 t1561) := blk_cellv (HS.out.at0) 4 rfl
  have hc1590 : w1584.cell? ⟨g1517, 5, none⟩ = some (.int .i64 t1564) := blk_cellv (HS.out.at0) 5 rfl
  have hc1591 : w1584.cell? ⟨g1517, 6, none⟩ = some (.int .i64 t1567) := blk_cellv (HS.out.at0) 6 rfl
  refine bodyPost_ret (v := .agg #[.int .i64 t1549, .int .i64 t1552, .int .i64 t1555, .int .i64 t1558, .int .i64 t1561, .int .i64 t1564, .int .i64 t1567]) (by simp [results, Tryd.results19, go_sem, hc1585, hc1586, hc1587, hc1588, hc1589, hc1590, hc1591]) rfl ?_
  rw [← some_eq H]
  exact ⟨(by first | rfl | (simp [IntKind.wrap_u32]; done)), HS.out.sub (.cons _ .slnil)⟩

set_option maxHeartbeats 30000000 in
set_option maxRecDepth 100000 in
theorem ring_marked.calls (l1374 : List Int) (a1379 : Int) (a1380 : Int) (a1381 : Int) (a1382 : Int) (a1383 : Int) (a1384 : Int) (a1385 : Int) (g1370 : Nat) (g1372 : Nat) (A1375 : Option Addr) (m1376 : Nat) (n1377 : Nat) (r : Int × Int × Int × Int × Int × Int × Int × Bool × Int) (w : World)  (HGl0 : Aside0 (Gl 0 #[.int .i64 0, .int .i64 0, .int .i64 0, .int .i64 0, .int .i64 0] (fps [b8 g1370 g1372 a1380 a1381 a1382 a1383, b7 g1372 A1375 m1376 n1377 a1379, r6 A1375 m1376 n1377 l1374]) w)) (HS : Aside0 (Sep (fps [b8 g1370 g1372 a1380 a1381 a1382 a1383, b7 g1372 A1375 m1376 n1377 a1379, r6 A1375 m1376 n1377 l1374]) w [b8 g1370 g1372 a1380 a1381 a1382 a1383, b7 g1372 A1375 m1376 n1377 a1379, r6 A1375 m1376 n1377 l1374] w)) (H : Aside0 (ring_marked.f l1374 a1379 a1380 a1381 a1382 a1383 a1384 a1385 = some r)) :
    Calls Tryd.prog 79 #[.pointer (some ⟨g1370, 0, none⟩), .int .i64 a1384, .int .i64 a1385] w fun e w' => e = .returned (.tuple #[.agg #[.int .i64 r.1, .int .i64 r.2.1, .int .i64 r.2.2.1, .int .i64 r.2.2.2.1, .int .i64 r.2.2.2.2.1, .int .i64 r.2.2.2.2.2.1, .int .i64 r.2.2.2.2.2.2.1], .bool r.2.2.2.2.2.2.2.1]) ∧ Sep (fps [b8 g1370 g1372 a1380 a1381 a1382 a1383, b7 g1372 A1375 m1376 n1377 a1379, r6 A1375 m1376 n1377 l1374]) w [b8 g1370 g1372 a1380 a1381 a1382 a1383, b7 g1372 A1375 m1376 n1377 r.2.2.2.2.2.2.2.2, r6 A1375 m1376 n1377 l1374] w' := by
  generalize (fps [b8 g1370 g1372 a1380 a1381 a1382 a1383, b7 g1372 A1375 m1376 n1377 a1379, r6 A1375 m1376 n1377 l1374]) = FF at HS HGl0 ⊢
  obtain rfl := (row_len (HS.out.at2)).symm
  unfold ring_marked.f at H
  go_enter Tryd.func79, Tryd.ntmps79
  by_cases c1641 : a1384 < 0
  · replace H := if_yes c1641 H
    have c1641b0 : decide (a1384 < 0) = true := decide_eq_true c1641
    clear c1641
    go_wp2_with (first | ((with_reducible refine gate_dst (N := 6) rfl ?_); refine box_on ?hg (N := 6) ?hd (cs := #[.int .i64 0, .int .i64 0, .int .i64 0, .int .i64 0, .int .i64 0, .int .i64 0, .int .i64 0]) (t := 32) ?hr ?_; (case hd => rfl); (case hg => rfl); (case hr => first | (go_simp; done) | (go_simp; rfl)); intro g1638 hg w1639 hbox hb; replace HS : Aside0 (Sep FF w [b8 g1370 g1372 a1380 a1381 a1382 a1383, b7 g1372 A1375 l1374.length n1377 a1379, r6 A1375 l1374.length n1377 l1374, b9 g1638 0 0 0 0 0 0 0] w1639) := ⟨HS.out.box hg hbox hb⟩; clear hg hbox hb; have hc1642 : w1639.cell? ⟨g1638, 0, none⟩ = some (.int .i64 0) := blk_cellv (HS.out.at3) 0 rfl; have hz1643 : w1639.frozen? ⟨g1638, 0, none⟩ = false := blk_fz (HS.out.at3) 0; have hc1644 : w1639.cell? ⟨g1638, 1, none⟩ = some (.int .i64 0) := blk_cellv (HS.out.at3) 1 rfl; have hz1645 : w1639.frozen? ⟨g1638, 1, none⟩ = false := blk_fz (HS.out.at3) 1; have hc1646 : w1639.cell? ⟨g1638, 2, none⟩ = some (.int .i64 0) := blk_cellv (HS.out.at3) 2 rfl; have hz1647 : w1639.frozen? ⟨g1638, 2, none⟩ = false := blk_fz (HS.out.at3) 2; have hc1648 : w1639.cell? ⟨g1638, 3, none⟩ = some (.int .i64 0) := blk_cellv (HS.out.at3) 3 rfl; have hz1649 : w1639.frozen? ⟨g1638, 3, none⟩ = false := blk_fz (HS.out.at3) 3; have hc1650 : w1639.cell? ⟨g1638, 4, none⟩ = some (.int .i64 0) := blk_cellv (HS.out.at3) 4 rfl; have hz1651 : w1639.frozen? ⟨g1638, 4, none⟩ = false := blk_fz (HS.out.at3) 4; have hc1652 : w1639.cell? ⟨g1638, 5, none⟩ = some (.int .i64 0) := blk_cellv (HS.out.at3) 5 rfl; have hz1653 : w1639.frozen? ⟨g1638, 5, none⟩ = false := blk_fz (HS.out.at3) 5; have hc1654 : w1639.cell? ⟨g1638, 6, none⟩ = some (.int .i64 0) := blk_cellv (HS.out.at3) 6 rfl; have hz1655 : w1639.frozen? ⟨g1638, 6, none⟩ = false := blk_fz (HS.out.at3) 6) | ((with_reducible refine gate_store (t := 32) (p := 6) rfl ?_); refine store_event (w1 := (World.setCell (World.setCell (World.setCell (World.setCell (World.setCell (World.setCell (World.setCell w1639 ⟨g1638, 0, none⟩ (.int .i64 0)) ⟨g1638, 1, none⟩ (.int .i64 0)) ⟨g1638, 2, none⟩ (.int .i64 0)) ⟨g1638, 3, none⟩ (.int .i64 0)) ⟨g1638, 4, none⟩ (.int .i64 0)) ⟨g1638, 5, none⟩ (.int .i64 0)) ⟨g1638, 6, none⟩ (.int .i64 0))) rfl (t := 32) (p := 6) rfl rfl ?hr ?_; (case hr => first | (go_simp; done) | (go_simp; rfl)); intro w1656 hst; clear hc1642 hz1643 hc1644 hz1645 hc1646 hz1647 hc1648 hz1649 hc1650 hz1651 hc1652 hz1653 hc1654 hz1655; replace HS : Aside0 (Sep FF w [b8 g1370 g1372 a1380 a1381 a1382 a1383, b7 g1372 A1375 l1374.length n1377 a1379, r6 A1375 l1374.length n1377 l1374, b9 g1638 0 0 0 0 0 0 0] w1656) := ⟨by rw [hst]; exact HS.out.setAll (l1 := [b8 g1370 g1372 a1380 a1381 a1382 a1383, b7 g1372 A1375 l1374.length n1377 a1379, r6 A1375 l1374.length n1377 l1374]) (l2 := []) [.int .i64 0, .int .i64 0, .int .i64 0, .int .i64 0, .int .i64 0, .int .i64 0, .int .i64 0] rfl⟩; clear hst))
    have hc1657 : w1656.cell? ⟨g1638, 0, none⟩ = some (.int .i64 0) := blk_cellv (HS.out.at3) 0 rfl
    have hc1658 : w1656.cell? ⟨g1638, 1, none⟩ = some (.int .i64 0) := blk_cellv (HS.out.at3) 1 rfl
    have hc1659 : w1656.cell? ⟨g1638, 2, none⟩ = some (.int .i64 0) := blk_cellv (HS.out.at3) 2 rfl
    have hc1660 : w1656.cell? ⟨g1638, 3, none⟩ = some (.int .i64 0) := blk_cellv (HS.out.at3) 3 rfl
    have hc1661 : w1656.cell? ⟨g1638, 4, none⟩ = some (.int .i64 0) := blk_cellv (HS.out.at3) 4 rfl
    have hc1662 : w1656.cell? ⟨g1638, 5, none⟩ = some (.int .i64 0) := blk_cellv (HS.out.at3) 5 rfl
    have hc1663 : w1656.cell? ⟨g1638, 6, none⟩ = some (.int .i64 0) := blk_cellv (HS.out.at3) 6 rfl
    refine bodyPost_ret (v := .tuple #[.agg #[.int .i64 0, .int .i64 0, .int .i64 0, .int .i64 0, .int .i64 0, .int .i64 0, .int .i64 0], .bool false]) (by simp [results, Tryd.results79, go_sem, hc1657, hc1658, hc1659, hc1660, hc1661, hc1662, hc1663]) rfl ?_
    rw [← some_eq H]
    exact ⟨(by first | rfl | (simp [IntKind.wrap_u32]; done)), HS.out.sub (.cons_cons _ (.cons_cons _ (.cons_cons _ (.cons _ .slnil))))⟩
  · replace H := if_no c1641 H
    have c1641b0 : decide (a1384 < 0) = false := decide_eq_false c1641
    clear c1641
    go_wp2_with (first | ((with_reducible refine gate_dst (N := 6) rfl ?_); refine box_on ?hg (N := 6) ?hd (cs := #[.int .i64 0, .int .i64 0, .int .i64 0, .int .i64 0, .int .i64 0, .int .i64 0, .int .i64 0]) (t := 32) ?hr ?_; (case hd => rfl); (case hg => rfl); (case hr => first | (go_simp; done) | (go_simp; rfl)); intro g1638 hg w1639 hbox hb; replace HS : Aside0 (Sep FF w [b8 g1370 g1372 a1380 a1381 a1382 a1383, b7 g1372 A1375 l1374.length n1377 a1379, r6 A1375 l1374.length n1377 l1374, b9 g1638 0 0 0 0 0 0 0] w1639) := ⟨HS.out.box hg hbox hb⟩; clear hg hbox hb))
    obtain ⟨t1664, HA1665, H⟩ := bind_some H
    refine (ground_Ground_Conf.calls l1374 a1379 a1380 a1381 a1382 a1383 g1370 g1372 A1375 l1374.length n1377 t1664 _ ⟨HGl0.out.pass HS.out⟩ ⟨HS.out.begin⟩ HA1665).mono ?_
    rintro e_ w1666 ⟨rfl, hS⟩
    replace HS : Aside0 (Sep FF w [b8 g1370 g1372 a1380 a1381 a1382 a1383, b7 g1372 A1375 l1374.length n1377 a1379, r6 A1375 l1374.length n1377 l1374, b9 g1638 0 0 0 0 0 0 0] w1666) := ⟨HS.out.call hS⟩
    clear hS
    by_cases c1668 : a1384 ≥ t1664.1
    · replace H := if_yes c1668 H
      have c1668b0 : decide (t1664.1 ≤ a1384) = true := decide_eq_true c1668
      clear c1668
      have fl1667 : ∀ w, (Instr.field 30 (.agg #[.int .i64 t1664.1, .int .i64 t1664.2.1, .int .i64 t1664.2.2.1, .int .i64 t1664.2.2.2]) 0).run Tryd.prog w = .ok (.int .i64 t1664.1) w := fun _ => by kernel_rfl
      have hc1669 : w1666.cell? ⟨g1638, 0, none⟩ = some (.int .i64 0) := blk_cellv (HS.out.at3) 0 rfl
      have hz1670 : w1666.frozen? ⟨g1638, 0, none⟩ = false := blk_fz (HS.out.at3) 0
      have hc1671 : w1666.cell? ⟨g1638, 1, none⟩ = some (.int .i64 0) := blk_cellv (HS.out.at3) 1 rfl
      have hz1672 : w1666.frozen? ⟨g1638, 1, none⟩ = false := blk_fz (HS.out.at3) 1
      have hc1673 : w1666.cell? ⟨g1638, 2, none⟩ = some (.int .i64 0) := blk_cellv (HS.out.at3) 2 rfl
      have hz1674 : w1666.frozen? ⟨g1638, 2, none⟩ = false := blk_fz (HS.out.at3) 2
      have hc1675 : w1666.cell? ⟨g1638, 3, none⟩ = some (.int .i64 0) := blk_cellv (HS.out.at3) 3 rfl
      have hz1676 : w1666.frozen? ⟨g1638, 3, none⟩ = false := blk_fz (HS.out.at3) 3
      have hc1677 : w1666.cell? ⟨g1638, 4, none⟩ = some (.int .i64 0) := blk_cellv (HS.out.at3) 4 rfl
      have hz1678 : w1666.frozen? ⟨g1638, 4, none⟩ = false := blk_fz (HS.out.at3) 4
      have hc1679 : w1666.cell? ⟨g1638, 5, none⟩ = some (.int .i64 0) := blk_cellv (HS.out.at3) 5 rfl
      have hz1680 : w1666.frozen? ⟨g1638, 5, none⟩ = false := blk_fz (HS.out.at3) 5
      have hc1681 : w1666.cell? ⟨g1638, 6, none⟩ = some (.int .i64 0) := blk_cellv (HS.out.at3) 6 rfl
      have hz1682 : w1666.frozen? ⟨g1638, 6, none⟩ = false := blk_fz (HS.out.at3) 6
      go_wp2_with (first | ((with_reducible refine gate_store (t := 32) (p := 6) rfl ?_); refine store_event (w1 := (World.setCell (World.setCell (World.setCell (World.setCell (World.setCell (World.setCell (World.setCell w1666 ⟨g1638, 0, none⟩ (.int .i64 0)) ⟨g1638, 1, none⟩ (.int .i64 0)) ⟨g1638, 2, none⟩ (.int .i64 0)) ⟨g1638, 3, none⟩ (.int .i64 0)) ⟨g1638, 4, none⟩ (.int .i64 0)) ⟨g1638, 5, none⟩ (.int .i64 0)) ⟨g1638, 6, none⟩ (.int .i64 0))) rfl (t := 32) (p := 6) rfl rfl ?hr ?_; (case hr => first | (go_simp; done) | (go_simp; rfl)); intro w1683 hst; clear fl1667 hc1669 hz1670 hc1671 hz1672 hc1673 hz1674 hc1675 hz1676 hc1677 hz1678 hc1679 hz1680 hc1681 hz1682; replace HS : Aside0 (Sep FF w [b8 g1370 g1372 a1380 a1381 a1382 a1383, b7 g1372 A1375 l1374.length n1377 a1379, r6 A1375 l1374.length n1377 l1374, b9 g1638 0 0 0 0 0 0 0] w1683) := ⟨by rw [hst]; exact HS.out.setAll (l1 := [b8 g1370 g1372 a1380 a1381 a1382 a1383, b7 g1372 A1375 l1374.length n1377 a1379, r6 A1375 l1374.length n1377 l1374]) (l2 := []) [.int .i64 0, .int .i64 0, .int .i64 0, .int .i64 0, .int .i64 0, .int .i64 0, .int .i64 0] rfl⟩; clear hst))
      have hc1684 : w1683.cell? ⟨g1638, 0, none⟩ = some (.int .i64 0) := blk_cellv (HS.out.at3) 0 rfl
      have hc1685 : w1683.cell? ⟨g1638, 1, none⟩ = some (.int .i64 0) := blk_cellv (HS.out.at3) 1 rfl
      have hc1686 : w1683.cell? ⟨g1638, 2, none⟩ = some (.int .i64 0) := blk_cellv (HS.out.at3) 2 rfl
      have hc1687 : w1683.cell? ⟨g1638, 3, none⟩ = some (.int .i64 0) := blk_cellv (HS.out.at3) 3 rfl
      have hc1688 : w1683.cell? ⟨g1638, 4, none⟩ = some (.int .i64 0) := blk_cellv (HS.out.at3) 4 rfl
      have hc1689 : w1683.cell? ⟨g1638, 5, none⟩ = some (.int .i64 0) := blk_cellv (HS.out.at3) 5 rfl
      have hc1690 : w1683.cell? ⟨g1638, 6, none⟩ = some (.int .i64 0) := blk_cellv (HS.out.at3) 6 rfl
      refine bodyPost_ret (v := .tuple #[.agg #[.int .i64 0, .int .i64 0, .int .i64 0, .int .i64 0, .int .i64 0, .int .i64 0, .int .i64 0], .bool false]) (by simp [results, Tryd.results79, go_sem, hc1684, hc1685, hc1686, hc1687, hc1688, hc1689, hc1690]) rfl ?_
      rw [← some_eq H]
      exact ⟨(by first | rfl | (simp [IntKind.wrap_u32]; done)), HS.out.sub (.cons_cons _ (.cons_cons _ (.cons_cons _ (.cons _ .slnil))))⟩
    · replace H := if_no c1668 H
      have c1668b0 : decide (t1664.1 ≤ a1384) = false := decide_eq_false c1668
      clear c1668
      have fl1667 : ∀ w, (Instr.field 30 (.agg #[.int .i64 t1664.1, .int .i64 t1664.2.1, .int .i64 t1664.2.2.1, .int .i64 t1664.2.2.2]) 0).run Tryd.prog w = .ok (.int .i64 t1664.1) w := fun _ => by kernel_rfl
      go_wp2_with fail
      clear fl1667
      obtain ⟨t1691, HA1692, H⟩ := bind_some H
      refine (ground_Ground_Word.calls l1374 a1379 a1380 a1381 a1382 a1383 a1384 0 g1370 g1372 A1375 l1374.length n1377 t1691 _ ⟨HGl0.out.pass HS.out⟩ ⟨HS.out.begin⟩ HA1692).mono ?_
      rintro e_ w1693 ⟨rfl, hS⟩
      replace HS : Aside0 (Sep FF w [b8 g1370 g1372 a1380 a1381 a1382 a1383, b7 g1372 A1375 l1374.length n1377 t1691.2, r6 A1375 l1374.length n1377 l1374, b9 g1638 0 0 0 0 0 0 0] w1693) := ⟨HS.out.call hS⟩
      clear hS
      go_wp2_with fail
      obtain ⟨t1694, HA1695, H⟩ := bind_some H
      refine (tag_Unpack.calls t1691.1 t1694 _ ⟨HGl0.out.pass (l := []) HS.out⟩ ⟨Sep.start _⟩ HA1695).mono ?_
      rintro e_ w1696 ⟨rfl, hS⟩
      replace HS : Aside0 (Sep FF w [b8 g1370 g1372 a1380 a1381 a1382 a1383, b7 g1372 A1375 l1374.length n1377 t1691.2, r6 A1375 l1374.length n1377 l1374, b9 g1638 0 0 0 0 0 0 0] w1696) := ⟨HS.out.call hS⟩
      clear hS
      go_wp2_with (first | ((with_reducible refine gate_dst (N := 8) rfl ?_); refine box_on ?hg (N := 8) ?hd (cs := #[.int .i64 0, .int .i64 0, .int .i64 0, .int .i64 0, .int .i64 0, .int .i64 0, .int .i64 0]) (t := 32) ?hr ?_; (case hd => rfl); (case hg => rfl); (case hr => first | (go_simp; done) | (go_simp; rfl)); intro g1697 hg w1698 hbox hb; replace HS : Aside0 (Sep FF w [b8 g1370 g1372 a1380 a1381 a1382 a1383, b7 g1372 A1375 l1374.length n1377 t1691.2, r6 A1375 l1374.length n1377 l1374, b9 g1638 0 0 0 0 0 0 0, b9 g1697 0 0 0 0 0 0 0] w1698) := ⟨HS.out.box hg hbox hb⟩; clear hg hbox hb; have hc1700 : w1698.cell? ⟨g1697, 0, none⟩ = some (.int .i64 0) := blk_cellv (HS.out.at4) 0 rfl; have hz1701 : w1698.frozen? ⟨g1697, 0, none⟩ = false := blk_fz (HS.out.at4) 0; have hc1702 : w1698.cell? ⟨g1697, 1, none⟩ = some (.int .i64 0) := blk_cellv (HS.out.at4) 1 rfl; have hz1703 : w1698.frozen? ⟨g1697, 1, none⟩ = false := blk_fz (HS.out.at4) 1; have hc1704 : w1698.cell? ⟨g1697, 2, none⟩ = some (.int .i64 0) := blk_cellv (HS.out.at4) 2 rfl; have hz1705 : w1698.frozen? ⟨g1697, 2, none⟩ = false := blk_fz (HS.out.at4) 2; have hc1706 : w1698.cell? ⟨g1697, 3, none⟩ = some (.int .i64 0) := blk_cellv (HS.out.at4) 3 rfl; have hz1707 : w1698.frozen? ⟨g1697, 3, none⟩ = false := blk_fz (HS.out.at4) 3; have hc1708 : w1698.cell? ⟨g1697, 4, none⟩ = some (.int .i64 0) := blk_cellv (HS.out.at4) 4 rfl; have hz1709 : w1698.frozen? ⟨g1697, 4, none⟩ = false := blk_fz (HS.out.at4) 4; have hc1710 : w1698.cell? ⟨g1697, 5, none⟩ = some (.int .i64 0) := blk_cellv (HS.out.at4) 5 rfl; have hz1711 : w1698.frozen? ⟨g1697, 5, none⟩ = false := blk_fz (HS.out.at4) 5; have hc1712 : w1698.cell? ⟨g1697, 6, none⟩ = some (.int .i64 0) := blk_cellv (HS.out.at4) 6 rfl; have hz1713 : w1698.frozen? ⟨g1697, 6, none⟩ = false := blk_fz (HS.out.at4) 6) | ((with_reducible refine gate_store (t := 32) (p := 8) rfl ?_); refine store_event (w1 := (World.setCell (World.setCell (World.setCell (World.setCell (World.setCell (World.setCell (World.setCell w1698 ⟨g1697, 0, none⟩ (.int .i64 t1694.1)) ⟨g1697, 1, none⟩ (.int .i64 t1694.2.1)) ⟨g1697, 2, none⟩ (.int .i64 t1694.2.2.1)) ⟨g1697, 3, none⟩ (.int .i64 t1694.2.2.2.1)) ⟨g1697, 4, none⟩ (.int .i64 t1694.2.2.2.2.1)) ⟨g1697, 5, none⟩ (.int .i64 t1694.2.2.2.2.2.1)) ⟨g1697, 6, none⟩ (.int .i64 t1694.2.2.2.2.2.2))) rfl (t := 32) (p := 8) rfl rfl ?hr ?_; (case hr => first | (go_simp; done) | (go_simp; rfl)); intro w1714 hst; clear hc1700 hz1701 hc1702 hz1703 hc1704 hz1705 hc1706 hz1707 hc1708 hz1709 hc1710 hz1711 hc1712 hz1713; replace HS : Aside0 (Sep FF w [b8 g1370 g1372 a1380 a1381 a1382 a1383, b7 g1372 A1375 l1374.length n1377 t1691.2, r6 A1375 l1374.length n1377 l1374, b9 g1638 0 0 0 0 0 0 0, b9 g1697 t1694.1 t1694.2.1 t1694.2.2.1 t1694.2.2.2.1 t1694.2.2.2.2.1 t1694.2.2.2.2.2.1 t1694.2.2.2.2.2.2] w1714) := ⟨by rw [hst]; exact HS.out.setAll (l1 := [b8 g1370 g1372 a1380 a1381 a1382 a1383, b7 g1372 A1375 l1374.length n1377 t1691.2, r6 A1375 l1374.length n1377 l1374, b9 g1638 0 0 0 0 0 0 0]) (l2 := []) [.int .i64 t1694.1, .int .i64 t1694.2.1, .int .i64 t1694.2.2.1, .int .i64 t1694.2.2.2.1, .int .i64 t1694.2.2.2.2.1, .int .i64 t1694.2.2.2.2.2.1, .int .i64 t1694.2.2.2.2.2.2] rfl⟩; clear hst))
      refine start_ (n := 17) (S := (fun w' => w'.cell? ⟨g1697, 0, none⟩ = some (.int .i64 t1694.1) ∧ w'.cell? ⟨g1697, 1, none⟩ = some (.int .i64 t1694.2.1) ∧ w'.cell? ⟨g1697, 2, none⟩ = some (.int .i64 t1694.2.2.1) ∧ w'.cell? ⟨g1697, 3, none⟩ = some (.int .i64 t1694.2.2.2.1) ∧ w'.cell? ⟨g1697, 4, none⟩ = some (.int .i64 t1694.2.2.2.2.1) ∧ w'.cell? ⟨g1697, 5, none⟩ = some (.int .i64 t1694.2.2.2.2.2.1) ∧ w'.cell? ⟨g1697, 6, none⟩ = some (.int .i64 t1694.2.2.2.2.2.2))) (ds := []) #[false, false, false, false, false, false, false, false, false, false, false, false, false, false, false, false, false] (by kernel_rfl) rfl rfl (⟨blk_cellv ((HS.out.drew).at4) 0 rfl, blk_cellv ((HS.out.drew).at4) 1 rfl, blk_cellv ((HS.out.drew).at4) 2 rfl, blk_cellv ((HS.out.drew).at4) 3 rfl, blk_cellv ((HS.out.drew).at4) 4 rfl, blk_cellv ((HS.out.drew).at4) 5 rfl, blk_cellv ((HS.out.drew).at4) 6 rfl⟩) (fun hHeld => ?_)
      have HS_ := Aside0.mk HS.out.drew
      clear HS
      generalize World.drew _ = w1716 at HS_ hHeld ⊢
      have HS := HS_
      clear HS_
      refine pure_ (i := 1) (N := some 28) (v := ?_) (a' := ?_) #[false, true, false, false, false, false, false, false, false, false, false, false, false, false, false, false, false] rfl rfl (by kernel_rfl) (fun _ _ _ h => h) (Or.inl ⟨by rfl, ?_⟩) ?_ ?_
      rotate_left
      · intro w'
        go_simp
        with_reducible rfl
      rotate_left
      · simp only [Act.put, List.setIfInBounds_toArray, List.set_cons_zero, List.set_cons_succ, i64_w, i32_w]
        rfl
      refine take_ (i := 0) (N := some 27) (v := ?_) (a' := ?_) #[true, true, false, false, false, false, false, false, false, false, false, false, false, false, false, false, false] rfl rfl (by kernel_rfl) (fun _ _ _ h => h) (Or.inl ⟨by rfl, ?_⟩) hHeld ?_ ?_
      rotate_left
      · rintro w' hS'
        obtain ⟨s0, s1, s2, s3, s4, s5, s6⟩ := hS'
        go_simp
        with_reducible rfl
      rotate_left
      · simp only [Act.put, List.setIfInBounds_toArray, List.set_cons_zero, List.set_cons_succ, i64_w, i32_w]
        rfl
      refine take_ (i := 2) (N := some 29) (v := ?_) (a' := ?_) #[true, true, true, false, false, false, false, false, false, false, false, false, false, false, false, false, false] rfl rfl (by kernel_rfl) (fun _ _ _ h => h) (Or.inl ⟨by rfl, ?_⟩) hHeld ?_ ?_
      rotate_left
      · rintro w' hS'
        obtain ⟨s0, s1, s2, s3, s4, s5, s6⟩ := hS'
        go_simp
        with_reducible rfl
      rotate_left
      · simp only [Act.put, List.setIfInBounds_toArray, List.set_cons_zero, List.set_cons_succ, i64_w, i32_w]
        rfl
      refine pure_ (i := 3) (N := some 30) (v := ?_) (a' := ?_) #[true, true, true, true, false, false, false, false, false, false, false, false, false, false, false, false, false] rfl rfl (by kernel_rfl) (fun _ _ _ h => h) (Or.inl ⟨by rfl, ?_⟩) ?_ ?_
      rotate_left
      · intro w'
        go_simp
        with_reducible rfl
      rotate_left
      · simp only [Act.put, List.setIfInBounds_toArray, List.set_cons_zero, List.set_cons_succ, i64_w, i32_w]
        rfl
      refine pure_ (i := 4) (N := some 31) (v := ?_) (a' := ?_) #[true, true, true, true, true, false, false, false, false, false, false, false, false, false, false, false, false] rfl rfl (by kernel_rfl) (fun _ _ _ h => h) (Or.inl ⟨by rfl, ?_⟩) ?_ ?_
      rotate_left
      · intro w'
        go_simp
        with_reducible rfl
      rotate_left
      · simp only [Act.put, List.setIfInBounds_toArray, List.set_cons_zero, List.set_cons_succ, i64_w, i32_w]
        rfl
      by_cases c1717 : t1694.1 = 1
      · replace H := if_yes c1717 H
        have c1717b0 : (t1694.1 == 1) = true := beq_iff_eq.mpr c1717
        have c1717b1 : (t1694.1 != 1) = false := bne_eq_false_iff_eq.mpr c1717
        clear c1717
        try simp only [c1717b0, c1717b1, Bool.not_true, Bool.not_false]
        refine pure_ (i := 5) (N := some 32) (v := undef) (a' := ?_) #[true, true, true, true, true, true, false, false, false, false, false, false, false, false, false, false, false] rfl rfl (by kernel_rfl) (fun _ _ _ h => h) (Or.inr ⟨by rfl, rfl⟩) ?_ ?_
        rotate_left
        · simp only [Act.put, List.setIfInBounds_toArray, List.set_cons_zero, List.set_cons_succ, i64_w, i32_w]
          rfl
        try simp only [c1717b0, c1717b1, Bool.not_true, Bool.not_false]
        refine pure_ (i := 6) (N := some 33) (v := undef) (a' := ?_) #[true, true, true, true, true, true, true, false, false, false, false, false, false, false, false, false, false] rfl rfl (by kernel_rfl) (fun _ _ _ h => h) (Or.inr ⟨by rfl, rfl⟩) ?_ ?_
        rotate_left
        · simp only [Act.put, List.setIfInBounds_toArray, List.set_cons_zero, List.set_cons_succ, i64_w, i32_w]
          rfl
        try simp only [c1717b0, c1717b1, Bool.not_true, Bool.not_false]
        refine pure_ (i := 7) (N := some 34) (v := undef) (a' := ?_) #[true, true, true, true, true, true, true, true, false, false, false, false, false, false, false, false, false] rfl rfl (by kernel_rfl) (fun _ _ _ h => h) (Or.inr ⟨by rfl, rfl⟩) ?_ ?_
        rotate_left
        · simp only [Act.put, List.setIfInBounds_toArray, List.set_cons_zero, List.set_cons_succ, i64_w, i32_w]
          rfl
        refine pure_ (i := 8) (N := some 35) (v := ?_) (a' := ?_) #[true, true, true, true, true, true, true, true, true, false, false, false, false, false, false, false, false] rfl rfl (by kernel_rfl) (fun _ _ _ h => h) (Or.inl ⟨by rfl, ?_⟩) ?_ ?_
        rotate_left
        · intro w'
          go_simp
          with_reducible rfl
        rotate_left
        · simp only [Act.put, List.setIfInBounds_toArray, List.set_cons_zero, List.set_cons_succ, i64_w, i32_w]
          rfl
        refine pure_ (i := 9) (N := some 36) (v := ?_) (a' := ?_) #[true, true, true, true, true, true, true, true, true, true, false, false, false, false, false, false, false] rfl rfl (by kernel_rfl) (fun _ _ _ h => h) (Or.inl ⟨by rfl, ?_⟩) ?_ ?_
        rotate_left
        · intro w'
          go_simp
          with_reducible rfl
        rotate_left
        · simp only [Act.put, List.setIfInBounds_toArray, List.set_cons_zero, List.set_cons_succ, i64_w, i32_w]
          rfl
        refine pure_ (i := 10) (N := some 37) (v := ?_) (a' := ?_) #[true, true, true, true, true, true, true, true, true, true, true, false, false, false, false, false, false] rfl rfl (by kernel_rfl) (fun _ _ _ h => h) (Or.inl ⟨by rfl, ?_⟩) ?_ ?_
        rotate_left
        · intro w'
          go_simp
          with_reducible rfl
        rotate_left
        · simp only [Act.put, List.setIfInBounds_toArray, List.set_cons_zero, List.set_cons_succ, i64_w, i32_w]
          rfl
        refine pure_ (i := 12) (N := some 39) (v := ?_) (a' := ?_) #[true, true, true, true, true, true, true, true, true, true, true, false, true, false, false, false, false] rfl rfl (by kernel_rfl) (fun _ _ _ h => h) (Or.inl ⟨by rfl, ?_⟩) ?_ ?_
        rotate_left
        · intro w'
          go_simp
          with_reducible rfl
        rotate_left
        · simp only [Act.put, List.setIfInBounds_toArray, List.set_cons_zero, List.set_cons_succ, i64_w, i32_w]
          rfl
        refine take_ (i := 11) (N := some 38) (v := ?_) (a' := ?_) #[true, true, true, true, true, true, true, true, true, true, true, true, true, false, false, false, false] rfl rfl (by kernel_rfl) (fun _ _ _ h => h) (Or.inl ⟨by rfl, ?_⟩) hHeld ?_ ?_
        rotate_left
        · rintro w' hS'
          obtain ⟨s0, s1, s2, s3, s4, s5, s6⟩ := hS'
          go_simp
          with_reducible rfl
        rotate_left
        · simp only [Act.put, List.setIfInBounds_toArray, List.set_cons_zero, List.set_cons_succ, i64_w, i32_w]
          rfl
        refine pure_ (i := 13) (N := some 40) (v := ?_) (a' := ?_) #[true, true, true, true, true, true, true, true, true, true, true, true, true, true, false, false, false] rfl rfl (by kernel_rfl) (fun _ _ _ h => h) (Or.inl ⟨by rfl, ?_⟩) ?_ ?_
        rotate_left
        · intro w'
          go_simp
          with_reducible rfl
        rotate_left
        · simp only [Act.put, List.setIfInBounds_toArray, List.set_cons_zero, List.set_cons_succ, i64_w, i32_w]
          rfl
        refine pure_ (i := 14) (N := some 41) (v := ?_) (a' := ?_) #[true, true, true, true, true, true, true, true, true, true, true, true, true, true, true, false, false] rfl rfl (by kernel_rfl) (fun _ _ _ h => h) (Or.inl ⟨by rfl, ?_⟩) ?_ ?_
        rotate_left
        · intro w'
          go_simp
          with_reducible rfl
        rotate_left
        · simp only [Act.put, List.setIfInBounds_toArray, List.set_cons_zero, List.set_cons_succ, i64_w, i32_w]
          rfl
        refine one_ (i := 15) (N := none) #[true, true, true, true, true, true, true, true, true, true, true, true, true, true, true, true, false] rfl rfl (by kernel_rfl) (by decide) (fun K hK => ?_)
        have hc1719 := blk_cellv (v := .int .i64 0) (HS.out.at3) 0 rfl
        have hz1720 := blk_fz (HS.out.at3) 0
        have hc1721 := blk_cellv (v := .int .i64 0) (HS.out.at3) 1 rfl
        have hz1722 := blk_fz (HS.out.at3) 1
        have hc1723 := blk_cellv (v := .int .i64 0) (HS.out.at3) 2 rfl
        have hz1724 := blk_fz (HS.out.at3) 2
        have hc1725 := blk_cellv (v := .int .i64 0) (HS.out.at3) 3 rfl
        have hz1726 := blk_fz (HS.out.at3) 3
        have hc1727 := blk_cellv (v := .int .i64 0) (HS.out.at3) 4 rfl
        have hz1728 := blk_fz (HS.out.at3) 4
        have hc1729 := blk_cellv (v := .int .i64 0) (HS.out.at3) 5 rfl
        have hz1730 := blk_fz (HS.out.at3) 5
        have hc1731 := blk_cellv (v := .int .i64 0) (HS.out.at3) 6 rfl
        have hz1732 := blk_fz (HS.out.at3) 6
        refine store_step (w1 := (World.setCell (World.setCell (World.setCell (World.setCell (World.setCell (World.setCell (World.setCell w1716 ⟨g1638, 0, none⟩ (.int .i64 t1694.1)) ⟨g1638, 1, none⟩ (.int .i64 t1694.2.1)) ⟨g1638, 2, none⟩ (.int .i64 t1694.2.2.1)) ⟨g1638, 3, none⟩ (.int .i64 t1694.2.2.2.1)) ⟨g1638, 4, none⟩ (.int .i64 t1694.2.2.2.2.1)) ⟨g1638, 5, none⟩ (.int .i64 t1694.2.2.2.2.2.1)) ⟨g1638, 6, none⟩ (.int .i64 t1694.2.2.2.2.2.2))) (by rfl) rfl ?hr ?_
        case hr => first | (go_simp; done) | (go_simp; rfl)
        clear hc1719 hz1720 hc1721 hz1722 hc1723 hz1724 hc1725 hz1726 hc1727 hz1728 hc1729 hz1730 hc1731 hz1732
        intro w1718 hst
        replace HS : Aside0 (Sep FF w [b8 g1370 g1372 a1380 a1381 a1382 a1383, b7 g1372 A1375 l1374.length n1377 t1691.2, r6 A1375 l1374.length n1377 l1374, b9 g1638 t1694.1 t1694.2.1 t1694.2.2.1 t1694.2.2.2.1 t1694.2.2.2.2.1 t1694.2.2.2.2.2.1 t1694.2.2.2.2.2.2, b9 g1697 t1694.1 t1694.2.1 t1694.2.2.1 t1694.2.2.2.1 t1694.2.2.2.2.1 t1694.2.2.2.2.2.1 t1694.2.2.2.2.2.2] w1718) := ⟨by rw [hst]; exact HS.out.setAll (l1 := [b8 g1370 g1372 a1380 a1381 a1382 a1383, b7 g1372 A1375 l1374.length n1377 t1691.2, r6 A1375 l1374.length n1377 l1374]) (l2 := [b9 g1697 t1694.1 t1694.2.1 t1694.2.2.1 t1694.2.2.2.1 t1694.2.2.2.2.1 t1694.2.2.2.2.2.1 t1694.2.2.2.2.2.2]) [.int .i64 t1694.1, .int .i64 t1694.2.1, .int .i64 t1694.2.2.1, .int .i64 t1694.2.2.2.1, .int .i64 t1694.2.2.2.2.1, .int .i64 t1694.2.2.2.2.2.1, .int .i64 t1694.2.2.2.2.2.2] rfl⟩
        clear hst
        refine hK.out _ _ (⟨blk_cellv (HS.out.at4) 0 rfl, blk_cellv (HS.out.at4) 1 rfl, blk_cellv (HS.out.at4) 2 rfl, blk_cellv (HS.out.at4) 3 rfl, blk_cellv (HS.out.at4) 4 rfl, blk_cellv (HS.out.at4) 5 rfl, blk_cellv (HS.out.at4) 6 rfl⟩) (fun hHeld => ?_)
        clear hK K
        refine pure_ (i := 16) (N := some 7) (v := ?_) (a' := ?_) #[true, true, true, true, true, true, true, true, true, true, true, true, true, true, true, true, true] rfl rfl (by kernel_rfl) (fun _ _ _ h => h) (Or.inl ⟨by rfl, ?_⟩) ?_ ?_
        rotate_left
        · intro w'
          go_simp
          with_reducible rfl
        rotate_left
        · simp only [Act.put, List.setIfInBounds_toArray, List.set_cons_zero, List.set_cons_succ, i64_w, i32_w]
          rfl
        refine done_ (by kernel_rfl) ?_
        replace HS : Aside0 (Sep FF w [b8 g1370 g1372 a1380 a1381 a1382 a1383, b7 g1372 A1375 l1374.length n1377 t1691.2, r6 A1375 l1374.length n1377 l1374, b9 g1638 t1694.1 t1694.2.1 t1694.2.2.1 t1694.2.2.2.1 t1694.2.2.2.2.1 t1694.2.2.2.2.2.1 t1694.2.2.2.2.2.2] w1718) := ⟨HS.out.sub (.cons_cons _ (.cons_cons _ (.cons_cons _ (.cons_cons _ (.cons _ .slnil)))))⟩
        go_wp2_with fail
        have hc1733 : w1718.cell? ⟨g1638, 0, none⟩ = some (.int .i64 t1694.1) := blk_cellv (HS.out.at3) 0 rfl
        have hc1734 : w1718.cell? ⟨g1638, 1, none⟩ = some (.int .i64 t1694.2.1) := blk_cellv (HS.out.at3) 1 rfl
        have hc1735 : w1718.cell? ⟨g1638, 2, none⟩ = some (.int .i64 t1694.2.2.1) := blk_cellv (HS.out.at3) 2 rfl
        have hc1736 : w1718.cell? ⟨g1638, 3, none⟩ = some (.int .i64 t1694.2.2.2.1) := blk_cellv (HS.out.at3) 3 rfl
        have hc1737 : w1718.cell? ⟨g1638, 4, none⟩ = some (.int .i64 t1694.2.2.2.2.1) := blk_cellv (HS.out.at3) 4 rfl
        have hc1738 : w1718.cell? ⟨g1638, 5, none⟩ = some (.int .i64 t1694.2.2.2.2.2.1) := blk_cellv (HS.out.at3) 5 rfl
        have hc1739 : w1718.cell? ⟨g1638, 6, none⟩ = some (.int .i64 t1694.2.2.2.2.2.2) := blk_cellv (HS.out.at3) 6 rfl
        refine bodyPost_ret (v := .tuple #[.agg #[.int .i64 t1694.1, .int .i64 t1694.2.1, .int .i64 t1694.2.2.1, .int .i64 t1694.2.2.2.1, .int .i64 t1694.2.2.2.2.1, .int .i64 t1694.2.2.2.2.2.1, .int .i64 t1694.2.2.2.2.2.2], .bool (t1694.2.2.2.2.2.1 == a1385)]) (by simp [results, Tryd.results79, go_sem, hc1733, hc1734, hc1735, hc1736, hc1737, hc1738, hc1739]) rfl ?_
        rw [← some_eq H]
        exact ⟨(by first | rfl | (simp [IntKind.wrap_u32]; done)), HS.out.sub (.cons_cons _ (.cons_cons _ (.cons_cons _ (.cons _ .slnil))))⟩
      · replace H := if_no c1717 H
        have c1717b0 : (t1694.1 == 1) = false := beq_eq_false_iff_ne.mpr c1717
        have c1717b1 : (t1694.1 != 1) = true := bne_iff_ne.mpr c1717
        clear c1717
        try simp only [c1717b0, c1717b1, Bool.not_true, Bool.not_false]
        refine pure_ (i := 5) (N := some 32) (v := ?_) (a' := ?_) #[true, true, true, true, true, true, false, false, false, false, false, false, false, false, false, false, false] rfl rfl (by kernel_rfl) (fun _ _ _ h => h) (Or.inl ⟨by rfl, ?_⟩) ?_ ?_
        rotate_left
        · intro w'
          go_simp
          with_reducible rfl
        rotate_left
        · simp only [Act.put, List.setIfInBounds_toArray, List.set_cons_zero, List.set_cons_succ, i64_w, i32_w]
          rfl
        try simp only [c1717b0, c1717b1, Bool.not_true, Bool.not_false]
        refine take_ (i := 6) (N := some 33) (v := ?_) (a' := ?_) #[true, true, true, true, true, true, true, false, false, false, false, false, false, false, false, false, false] rfl rfl (by kernel_rfl) (fun _ _ _ h => h) (Or.inl ⟨by rfl, ?_⟩) hHeld ?_ ?_
        rotate_left
        · rintro w' hS'
          obtain ⟨s0, s1, s2, s3, s4, s5, s6⟩ := hS'
          go_simp
          with_reducible rfl
        rotate_left
        · simp only [Act.put, List.setIfInBounds_toArray, List.set_cons_zero, List.set_cons_succ, i64_w, i32_w]
          rfl
        try simp only [c1717b0, c1717b1, Bool.not_true, Bool.not_false]
        refine pure_ (i := 7) (N := some 34) (v := ?_) (a' := ?_) #[true, true, true, true, true, true, true, true, false, false, false, false, false, false, false, false, false] rfl rfl (by kernel_rfl) (fun _ _ _ h => h) (Or.inl ⟨by rfl, ?_⟩) ?_ ?_
        rotate_left
        · intro w'
          go_simp
          with_reducible rfl
        rotate_left
        · simp only [Act.put, List.setIfInBounds_toArray, List.set_cons_zero, List.set_cons_succ, i64_w, i32_w]
          rfl
        refine pure_ (i := 8) (N := some 35) (v := ?_) (a' := ?_) #[true, true, true, true, true, true, true, true, true, false, false, false, false, false, false, false, false] rfl rfl (by kernel_rfl) (fun _ _ _ h => h) (Or.inl ⟨by rfl, ?_⟩) ?_ ?_
        rotate_left
        · intro w'
          go_simp
          with_reducible rfl
        rotate_left
        · simp only [Act.put, List.setIfInBounds_toArray, List.set_cons_zero, List.set_cons_succ, i64_w, i32_w]
          rfl
        refine pure_ (i := 9) (N := some 36) (v := ?_) (a' := ?_) #[true, true, true, true, true, true, true, true, true, true, false, false, false, false, false, false, false] rfl rfl (by kernel_rfl) (fun _ _ _ h => h) (Or.inl ⟨by rfl, ?_⟩) ?_ ?_
        rotate_left
        · intro w'
          go_simp
          with_reducible rfl
        rotate_left
        · simp only [Act.put, List.setIfInBounds_toArray, List.set_cons_zero, List.set_cons_succ, i64_w, i32_w]
          rfl
        by_cases c1740 : t1694.1 = 2
        · replace H := if_yes c1740 H
          have c1740b0 : (t1694.1 == 2) = true := beq_iff_eq.mpr c1740
          have c1740b1 : (t1694.1 != 2) = false := bne_eq_false_iff_eq.mpr c1740
          clear c1740
          try simp only [c1740b0, c1740b1, Bool.not_true, Bool.not_false]
          refine pure_ (i := 10) (N := some 37) (v := ?_) (a' := ?_) #[true, true, true, true, true, true, true, true, true, true, true, false, false, false, false, false, false] rfl rfl (by kernel_rfl) (fun _ _ _ h => h) (Or.inl ⟨by rfl, ?_⟩) ?_ ?_
          rotate_left
          · intro w'
            go_simp
            with_reducible rfl
          rotate_left
          · simp only [Act.put, List.setIfInBounds_toArray, List.set_cons_zero, List.set_cons_succ, i64_w, i32_w]
            rfl
          try simp only [c1740b0, c1740b1, Bool.not_true, Bool.not_false]
          refine pure_ (i := 12) (N := some 39) (v := ?_) (a' := ?_) #[true, true, true, true, true, true, true, true, true, true, true, false, true, false, false, false, false] rfl rfl (by kernel_rfl) (fun _ _ _ h => h) (Or.inl ⟨by rfl, ?_⟩) ?_ ?_
          rotate_left
          · intro w'
            go_simp
            with_reducible rfl
          rotate_left
          · simp only [Act.put, List.setIfInBounds_toArray, List.set_cons_zero, List.set_cons_succ, i64_w, i32_w]
            rfl
          try simp only [c1740b0, c1740b1, Bool.not_true, Bool.not_false]
          refine take_ (i := 11) (N := some 38) (v := ?_) (a' := ?_) #[true, true, true, true, true, true, true, true, true, true, true, true, true, false, false, false, false] rfl rfl (by kernel_rfl) (fun _ _ _ h => h) (Or.inl ⟨by rfl, ?_⟩) hHeld ?_ ?_
          rotate_left
          · rintro w' hS'
            obtain ⟨s0, s1, s2, s3, s4, s5, s6⟩ := hS'
            go_simp
            with_reducible rfl
          rotate_left
          · simp only [Act.put, List.setIfInBounds_toArray, List.set_cons_zero, List.set_cons_succ, i64_w, i32_w]
            rfl
          try simp only [c1740b0, c1740b1, Bool.not_true, Bool.not_false]
          refine pure_ (i := 13) (N := some 40) (v := ?_) (a' := ?_) #[true, true, true, true, true, true, true, true, true, true, true, true, true, true, false, false, false] rfl rfl (by kernel_rfl) (fun _ _ _ h => h) (Or.inl ⟨by rfl, ?_⟩) ?_ ?_
          rotate_left
          · intro w'
            go_simp
            with_reducible rfl
          rotate_left
          · simp only [Act.put, List.setIfInBounds_toArray, List.set_cons_zero, List.set_cons_succ, i64_w, i32_w]
            rfl
          refine pure_ (i := 14) (N := some 41) (v := ?_) (a' := ?_) #[true, true, true, true, true, true, true, true, true, true, true, true, true, true, true, false, false] rfl rfl (by kernel_rfl) (fun _ _ _ h => h) (Or.inl ⟨by rfl, ?_⟩) ?_ ?_
          rotate_left
          · intro w'
            go_simp
            with_reducible rfl
          rotate_left
          · simp only [Act.put, List.setIfInBounds_toArray, List.set_cons_zero, List.set_cons_succ, i64_w, i32_w]
            rfl
          refine one_ (i := 15) (N := none) #[true, true, true, true, true, true, true, true, true, true, true, true, true, true, true, true, false] rfl rfl (by kernel_rfl) (by decide) (fun K hK => ?_)
          have hc1742 := blk_cellv (v := .int .i64 0) (HS.out.at3) 0 rfl
          have hz1743 := blk_fz (HS.out.at3) 0
          have hc1744 := blk_cellv (v := .int .i64 0) (HS.out.at3) 1 rfl
          have hz1745 := blk_fz (HS.out.at3) 1
          have hc1746 := blk_cellv (v := .int .i64 0) (HS.out.at3) 2 rfl
          have hz1747 := blk_fz (HS.out.at3) 2
          have hc1748 := blk_cellv (v := .int .i64 0) (HS.out.at3) 3 rfl
          have hz1749 := blk_fz (HS.out.at3) 3
          have hc1750 := blk_cellv (v := .int .i64 0) (HS.out.at3) 4 rfl
          have hz1751 := blk_fz (HS.out.at3) 4
          have hc1752 := blk_cellv (v := .int .i64 0) (HS.out.at3) 5 rfl
          have hz1753 := blk_fz (HS.out.at3) 5
          have hc1754 := blk_cellv (v := .int .i64 0) (HS.out.at3) 6 rfl
          have hz1755 := blk_fz (HS.out.at3) 6
          refine store_step (w1 := (World.setCell (World.setCell (World.setCell (World.setCell (World.setCell (World.setCell (World.setCell w1716 ⟨g1638, 0, none⟩ (.int .i64 t1694.1)) ⟨g1638, 1, none⟩ (.int .i64 t1694.2.1)) ⟨g1638, 2, none⟩ (.int .i64 t1694.2.2.1)) ⟨g1638, 3, none⟩ (.int .i64 t1694.2.2.2.1)) ⟨g1638, 4, none⟩ (.int .i64 t1694.2.2.2.2.1)) ⟨g1638, 5, none⟩ (.int .i64 t1694.2.2.2.2.2.1)) ⟨g1638, 6, none⟩ (.int .i64 t1694.2.2.2.2.2.2))) (by rfl) rfl ?hr ?_
          case hr => first | (go_simp; done) | (go_simp; rfl)
          clear hc1742 hz1743 hc1744 hz1745 hc1746 hz1747 hc1748 hz1749 hc1750 hz1751 hc1752 hz1753 hc1754 hz1755
          intro w1741 hst
          replace HS : Aside0 (Sep FF w [b8 g1370 g1372 a1380 a1381 a1382 a1383, b7 g1372 A1375 l1374.length n1377 t1691.2, r6 A1375 l1374.length n1377 l1374, b9 g1638 t1694.1 t1694.2.1 t1694.2.2.1 t1694.2.2.2.1 t1694.2.2.2.2.1 t1694.2.2.2.2.2.1 t1694.2.2.2.2.2.2, b9 g1697 t1694.1 t1694.2.1 t1694.2.2.1 t1694.2.2.2.1 t1694.2.2.2.2.1 t1694.2.2.2.2.2.1 t1694.2.2.2.2.2.2] w1741) := ⟨by rw [hst]; exact HS.out.setAll (l1 := [b8 g1370 g1372 a1380 a1381 a1382 a1383, b7 g1372 A1375 l1374.length n1377 t1691.2, r6 A1375 l1374.length n1377 l1374]) (l2 := [b9 g1697 t1694.1 t1694.2.1 t1694.2.2.1 t1694.2.2.2.1 t1694.2.2.2.2.1 t1694.2.2.2.2.2.1 t1694.2.2.2.2.2.2]) [.int .i64 t1694.1, .int .i64 t1694.2.1, .int .i64 t1694.2.2.1, .int .i64 t1694.2.2.2.1, .int .i64 t1694.2.2.2.2.1, .int .i64 t1694.2.2.2.2.2.1, .int .i64 t1694.2.2.2.2.2.2] rfl⟩
          clear hst
          refine hK.out _ _ (⟨blk_cellv (HS.out.at4) 0 rfl, blk_cellv (HS.out.at4) 1 rfl, blk_cellv (HS.out.at4) 2 rfl, blk_cellv (HS.out.at4) 3 rfl, blk_cellv (HS.out.at4) 4 rfl, blk_cellv (HS.out.at4) 5 rfl, blk_cellv (HS.out.at4) 6 rfl⟩) (fun hHeld => ?_)
          clear hK K
          refine pure_ (i := 16) (N := some 7) (v := ?_) (a' := ?_) #[true, true, true, true, true, true, true, true, true, true, true, true, true, true, true, true, true] rfl rfl (by kernel_rfl) (fun _ _ _ h => h) (Or.inl ⟨by rfl, ?_⟩) ?_ ?_
          rotate_left
          · intro w'
            go_simp
            with_reducible rfl
          rotate_left
          · simp only [Act.put, List.setIfInBounds_toArray, List.set_cons_zero, List.set_cons_succ, i64_w, i32_w]
            rfl
          refine done_ (by kernel_rfl) ?_
          replace HS : Aside0 (Sep FF w [b8 g1370 g1372 a1380 a1381 a1382 a1383, b7 g1372 A1375 l1374.length n1377 t1691.2, r6 A1375 l1374.length n1377 l1374, b9 g1638 t1694.1 t1694.2.1 t1694.2.2.1 t1694.2.2.2.1 t1694.2.2.2.2.1 t1694.2.2.2.2.2.1 t1694.2.2.2.2.2.2] w1741) := ⟨HS.out.sub (.cons_cons _ (.cons_cons _ (.cons_cons _ (.cons_cons _ (.cons _ .slnil)))))⟩
          go_wp2_with fail
          have hc1756 : w1741.cell? ⟨g1638, 0, none⟩ = some (.int .i64 t1694.1) := blk_cellv (HS.out.at3) 0 rfl
          have hc1757 : w1741.cell? ⟨g1638, 1, none⟩ = some (.int .i64 t1694.2.1) := blk_cellv (HS.out.at3) 1 rfl
          have hc1758 : w1741.cell? ⟨g1638, 2, none⟩ = some (.int .i64 t1694.2.2.1) := blk_cellv (HS.out.at3) 2 rfl
          have hc1759 : w1741.cell? ⟨g1638, 3, none⟩ = some (.int .i64 t1694.2.2.2.1) := blk_cellv (HS.out.at3) 3 rfl
          have hc1760 : w1741.cell? ⟨g1638, 4, none⟩ = some (.int .i64 t1694.2.2.2.2.1) := blk_cellv (HS.out.at3) 4 rfl
          have hc1761 : w1741.cell? ⟨g1638, 5, none⟩ = some (.int .i64 t1694.2.2.2.2.2.1) := blk_cellv (HS.out.at3) 5 rfl
          have hc1762 : w1741.cell? ⟨g1638, 6, none⟩ = some (.int .i64 t1694.2.2.2.2.2.2) := blk_cellv (HS.out.at3) 6 rfl
          refine bodyPost_ret (v := .tuple #[.agg #[.int .i64 t1694.1, .int .i64 t1694.2.1, .int .i64 t1694.2.2.1, .int .i64 t1694.2.2.2.1, .int .i64 t1694.2.2.2.2.1, .int .i64 t1694.2.2.2.2.2.1, .int .i64 t1694.2.2.2.2.2.2], .bool (t1694.2.2.2.2.2.1 == a1385)]) (by simp [results, Tryd.results79, go_sem, hc1756, hc1757, hc1758, hc1759, hc1760, hc1761, hc1762]) rfl ?_
          rw [← some_eq H]
          exact ⟨(by first | rfl | (simp [IntKind.wrap_u32]; done)), HS.out.sub (.cons_cons _ (.cons_cons _ (.cons_cons _ (.cons _ .slnil))))⟩
        · replace H := if_no c1740 H
          have c1740b0 : (t1694.1 == 2) = false := beq_eq_false_iff_ne.mpr c1740
          have c1740b1 : (t1694.1 != 2) = true := bne_iff_ne.mpr c1740
          clear c1740
          try simp only [c1740b0, c1740b1, Bool.not_true, Bool.not_false]
          refine pure_ (i := 10) (N := some 37) (v := undef) (a' := ?_) #[true, true, true, true, true, true, true, true, true, true, true, false, false, false, false, false, false] rfl rfl (by kernel_rfl) (fun _ _ _ h => h) (Or.inr ⟨by rfl, rfl⟩) ?_ ?_
          rotate_left
          · simp only [Act.put, List.setIfInBounds_toArray, List.set_cons_zero, List.set_cons_succ, i64_w, i32_w]
            rfl
          try simp only [c1740b0, c1740b1, Bool.not_true, Bool.not_false]
          refine pure_ (i := 11) (N := some 38) (v := undef) (a' := ?_) #[true, true, true, true, true, true, true, true, true, true, true, true, false, false, false, false, false] rfl rfl (by kernel_rfl) (fun _ _ _ h => h) (Or.inr ⟨by rfl, rfl⟩) ?_ ?_
          rotate_left
          · simp only [Act.put, List.setIfInBounds_toArray, List.set_cons_zero, List.set_cons_succ, i64_w, i32_w]
            rfl
          try simp only [c1740b0, c1740b1, Bool.not_true, Bool.not_false]
          refine pure_ (i := 12) (N := some 39) (v := undef) (a' := ?_) #[true, true, true, true, true, true, true, true, true, true, true, true, true, false, false, false, false] rfl rfl (by kernel_rfl) (fun _ _ _ h => h) (Or.inr ⟨by rfl, rfl⟩) ?_ ?_
          rotate_left
          · simp only [Act.put, List.setIfInBounds_toArray, List.set_cons_zero, List.set_cons_succ, i64_w, i32_w]
            rfl
          try simp only [c1740b0, c1740b1, Bool.not_true, Bool.not_false]
          refine pure_ (i := 13) (N := some 40) (v := undef) (a' := ?_) #[true, true, true, true, true, true, true, true, true, true, true, true, true, true, false, false, false] rfl rfl (by kernel_rfl) (fun _ _ _ h => h) (Or.inr ⟨by rfl, rfl⟩) ?_ ?_
          rotate_left
          · simp only [Act.put, List.setIfInBounds_toArray, List.set_cons_zero, List.set_cons_succ, i64_w, i32_w]
            rfl
          refine pure_ (i := 14) (N := some 41) (v := ?_) (a' := ?_) #[true, true, true, true, true, true, true, true, true, true, true, true, true, true, true, false, false] rfl rfl (by kernel_rfl) (fun _ _ _ h => h) (Or.inl ⟨by rfl, ?_⟩) ?_ ?_
          rotate_left
          · intro w'
            go_simp
            with_reducible rfl
          rotate_left
          · simp only [Act.put, List.setIfInBounds_toArray, List.set_cons_zero, List.set_cons_succ, i64_w, i32_w]
            rfl
          refine one_ (i := 15) (N := none) #[true, true, true, true, true, true, true, true, true, true, true, true, true, true, true, true, false] rfl rfl (by kernel_rfl) (by decide) (fun K hK => ?_)
          have hc1764 := blk_cellv (v := .int .i64 0) (HS.out.at3) 0 rfl
          have hz1765 := blk_fz (HS.out.at3) 0
          have hc1766 := blk_cellv (v := .int .i64 0) (HS.out.at3) 1 rfl
          have hz1767 := blk_fz (HS.out.at3) 1
          have hc1768 := blk_cellv (v := .int .i64 0) (HS.out.at3) 2 rfl
          have hz1769 := blk_fz (HS.out.at3) 2
          have hc1770 := blk_cellv (v := .int .i64 0) (HS.out.at3) 3 rfl
          have hz1771 := blk_fz (HS.out.at3) 3
          have hc1772 := blk_cellv (v := .int .i64 0) (HS.out.at3) 4 rfl
          have hz1773 := blk_fz (HS.out.at3) 4
          have hc1774 := blk_cellv (v := .int .i64 0) (HS.out.at3) 5 rfl
          have hz1775 := blk_fz (HS.out.at3) 5
          have hc1776 := blk_cellv (v := .int .i64 0) (HS.out.at3) 6 rfl
          have hz1777 := blk_fz (HS.out.at3) 6
          refine store_step (w1 := (World.setCell (World.setCell (World.setCell (World.setCell (World.setCell (World.setCell (World.setCell w1716 ⟨g1638, 0, none⟩ (.int .i64 t1694.1)) ⟨g1638, 1, none⟩ (.int .i64 t1694.2.1)) ⟨g1638, 2, none⟩ (.int .i64 t1694.2.2.1)) ⟨g1638, 3, none⟩ (.int .i64 t1694.2.2.2.1)) ⟨g1638, 4, none⟩ (.int .i64 t1694.2.2.2.2.1)) ⟨g1638, 5, none⟩ (.int .i64 t1694.2.2.2.2.2.1)) ⟨g1638, 6, none⟩ (.int .i64 t1694.2.2.2.2.2.2))) (by rfl) rfl ?hr ?_
          case hr => first | (go_simp; done) | (go_simp; rfl)
          clear hc1764 hz1765 hc1766 hz1767 hc1768 hz1769 hc1770 hz1771 hc1772 hz1773 hc1774 hz1775 hc1776 hz1777
          intro w1763 hst
          replace HS : Aside0 (Sep FF w [b8 g1370 g1372 a1380 a1381 a1382 a1383, b7 g1372 A1375 l1374.length n1377 t1691.2, r6 A1375 l1374.length n1377 l1374, b9 g1638 t1694.1 t1694.2.1 t1694.2.2.1 t1694.2.2.2.1 t1694.2.2.2.2.1 t1694.2.2.2.2.2.1 t1694.2.2.2.2.2.2, b9 g1697 t1694.1 t1694.2.1 t1694.2.2.1 t1694.2.2.2.1 t1694.2.2.2.2.1 t1694.2.2.2.2.2.1 t1694.2.2.2.2.2.2] w1763) := ⟨by rw [hst]; exact HS.out.setAll (l1 := [b8 g1370 g1372 a1380 a1381 a1382 a1383, b7 g1372 A1375 l1374.length n1377 t1691.2, r6 A1375 l1374.length n1377 l1374]) (l2 := [b9 g1697 t1694.1 t1694.2.1 t1694.2.2.1 t1694.2.2.2.1 t1694.2.2.2.2.1 t1694.2.2.2.2.2.1 t1694.2.2.2.2.2.2]) [.int .i64 t1694.1, .int .i64 t1694.2.1, .int .i64 t1694.2.2.1, .int .i64 t1694.2.2.2.1, .int .i64 t1694.2.2.2.2.1, .int .i64 t1694.2.2.2.2.2.1, .int .i64 t1694.2.2.2.2.2.2] rfl⟩
          clear hst
          refine hK.out _ _ (⟨blk_cellv (HS.out.at4) 0 rfl, blk_cellv (HS.out.at4) 1 rfl, blk_cellv (HS.out.at4) 2 rfl, blk_cellv (HS.out.at4) 3 rfl, blk_cellv (HS.out.at4) 4 rfl, blk_cellv (HS.out.at4) 5 rfl, blk_cellv (HS.out.at4) 6 rfl⟩) (fun hHeld => ?_)
          clear hK K
          refine pure_ (i := 16) (N := some 7) (v := ?_) (a' := ?_) #[true, true, true, true, true, true, true, true, true, true, true, true, true, true, true, true, true] rfl rfl (by kernel_rfl) (fun _ _ _ h => h) (Or.inl ⟨by rfl, ?_⟩) ?_ ?_
          rotate_left
          · intro w'
            go_simp
            with_reducible rfl
          rotate_left
          · simp only [Act.put, List.setIfInBounds_toArray, List.set_cons_zero, List.set_cons_succ, i64_w, i32_w]
            rfl
          refine done_ (by kernel_rfl) ?_
          replace HS : Aside0 (Sep FF w [b8 g1370 g1372 a1380 a1381 a1382 a1383, b7 g1372 A1375 l1374.length n1377 t1691.2, r6 A1375 l1374.length n1377 l1374, b9 g1638 t1694.1 t1694.2.1 t1694.2.2.1 t1694.2.2.2.1 t1694.2.2.2.2.1 t1694.2.2.2.2.2.1 t1694.2.2.2.2.2.2] w1763) := ⟨HS.out.sub (.cons_cons _ (.cons_cons _ (.cons_cons _ (.cons_cons _ (.cons _ .slnil)))))⟩
          go_wp2_with fail
          have hc1778 : w1763.cell? ⟨g1638, 0, none⟩ = some (.int .i64 t1694.1) := blk_cellv (HS.out.at3) 0 rfl
          have hc1779 : w1763.cell? ⟨g1638, 1, none⟩ = some (.int .i64 t1694.2.1) := blk_cellv (HS.out.at3) 1 rfl
          have hc1780 : w1763.cell? ⟨g1638, 2, none⟩ = some (.int .i64 t1694.2.2.1) := blk_cellv (HS.out.at3) 2 rfl
          have hc1781 : w1763.cell? ⟨g1638, 3, none⟩ = some (.int .i64 t1694.2.2.2.1) := blk_cellv (HS.out.at3) 3 rfl
          have hc1782 : w1763.cell? ⟨g1638, 4, none⟩ = some (.int .i64 t1694.2.2.2.2.1) := blk_cellv (HS.out.at3) 4 rfl
          have hc1783 : w1763.cell? ⟨g1638, 5, none⟩ = some (.int .i64 t1694.2.2.2.2.2.1) := blk_cellv (HS.out.at3) 5 rfl
          have hc1784 : w1763.cell? ⟨g1638, 6, none⟩ = some (.int .i64 t1694.2.2.2.2.2.2) := blk_cellv (HS.out.at3) 6 rfl
          refine bodyPost_ret (v := .tuple #[.agg #[.int .i64 t1694.1, .int .i64 t1694.2.1, .int .i64 t1694.2.2.1, .int .i64 t1694.2.2.2.1, .int .i64 t1694.2.2.2.2.1, .int .i64 t1694.2.2.2.2.2.1, .int .i64 t1694.2.2.2.2.2.2], .bool false]) (by simp [results, Tryd.results79, go_sem, hc1778, hc1779, hc1780, hc1781, hc1782, hc1783, hc1784]) rfl ?_
          rw [← some_eq H]
          exact ⟨(by first | rfl | (simp [IntKind.wrap_u32]; done)), HS.out.sub (.cons_cons _ (.cons_cons _ (.cons_cons _ (.cons _ .slnil))))⟩

set_option maxHeartbeats 30000000 in
set_option maxRecDepth 100000 in
theorem tag_marks.calls (a1885 : Int) (a1886 : Int) (a1887 : Int) (a1888 : Int) (a1889 : Int) (a1890 : Int) (a1891 : Int) (r : Int × Int × Int × Int × Int) (w : World)  (HGl0 : Aside0 (Gl 0 #[.int .i64 0, .int .i64 0, .int .i64 0, .int .i64 0, .int .i64 0] (fps []) w)) (HS : Aside0 (Sep (fps []) w [] w)) (H : Aside0 (tag_marks.f a1885 a1886 a1887 a1888 a1889 a1890 a1891 = some r)) :
    Calls Tryd.prog 68 #[.agg #[.int .i64 a1885, .int .i64 a1886, .int .i64 a1887, .int .i64 a1888, .int .i64 a1889, .int .i64 a1890, .int .i64 a1891]] w fun e w' => e = .returned (.agg #[.int .i64 r.1, .int .i64 r.2.1, .int .i64 r.2.2.1, .int .i64 r.2.2.2.1, .int .i64 r.2.2.2.2]) ∧ Sep (fps []) w [] w' := by
  unfold tag_marks.f at H
  go_enter Tryd.func68, Tryd.ntmps68
  go_wp2_with (first | ((with_reducible refine gate_dst (N := 1) rfl ?_); refine box_on ?hg (N := 1) ?hd (cs := #[.int .i64 a1885, .int .i64 a1886, .int .i64 a1887, .int .i64 a1888, .int .i64 a1889, .int .i64 a1890, .int .i64 a1891]) (t := 32) ?hr ?_; (case hd => rfl); (case hg => rfl); (case hr => first | (go_simp; done) | (go_simp; rfl)); intro g1892 hg w1893 hbox hb; replace HS : Aside0 (Sep (fps []) w [b9 g1892 a1885 a1886 a1887 a1888 a1889 a1890 a1891] w1893) := ⟨HS.out.box hg hbox hb⟩; clear hg hbox hb) | ((with_reducible refine gate_dst (N := 2) rfl ?_); refine box_on ?hg (N := 2) ?hd (cs := #[.int .i64 0, .int .i64 0, .int .i64 0, .int .i64 0, .int .i64 0]) (t := 108) ?hr ?_; (case hd => rfl); (case hg => rfl); (case hr => first | (go_simp; done) | (go_simp; rfl)); intro g1895 hg w1896 hbox hb; replace HS : Aside0 (Sep (fps []) w [b9 g1892 a1885 a1886 a1887 a1888 a1889 a1890 a1891, b11 g1895 0 0 0 0 0] w1896) := ⟨HS.out.box hg hbox hb⟩; clear hg hbox hb; have hc1898 : w1896.cell? ⟨g1892, 1, none⟩ = some (.int .i64 a1886) := blk_cellv (HS.out.at0) 1 rfl; have hc1899 : w1896.cell? ⟨g1892, 2, none⟩ = some (.int .i64 a1887) := blk_cellv (HS.out.at0) 2 rfl; have hc1900 : w1896.cell? ⟨g1892, 3, none⟩ = some (.int .i64 a1888) := blk_cellv (HS.out.at0) 3 rfl; have hc1901 : w1896.cell? ⟨g1892, 4, none⟩ = some (.int .i64 a1889) := blk_cellv (HS.out.at0) 4 rfl; have hc1902 : w1896.cell? ⟨g1892, 5, none⟩ = some (.int .i64 a1890) := blk_cellv (HS.out.at0) 5 rfl; have hc1903 : w1896.cell? ⟨g1895, 0, none⟩ = some (.int .i64 0) := blk_cellv (HS.out.at1) 0 rfl; have hz1904 : w1896.frozen? ⟨g1895, 0, none⟩ = false := blk_fz (HS.out.at1) 0; have hc1905 : w1896.cell? ⟨g1895, 1, none⟩ = some (.int .i64 0) := blk_cellv (HS.out.at1) 1 rfl; have hz1906 : w1896.frozen? ⟨g1895, 1, none⟩ = false := blk_fz (HS.out.at1) 1; have hc1907 : w1896.cell? ⟨g1895, 2, none⟩ = some (.int .i64 0) := blk_cellv (HS.out.at1) 2 rfl; have hz1908 : w1896.frozen? ⟨g1895, 2, none⟩ = false := blk_fz (HS.out.at1) 2; have hc1909 : w1896.cell? ⟨g1895, 3, none⟩ = some (.int .i64 0) := blk_cellv (HS.out.at1) 3 rfl; have hz1910 : w1896.frozen? ⟨g1895, 3, none⟩ = false := blk_fz (HS.out.at1) 3; have hc1911 : w1896.cell? ⟨g1895, 4, none⟩ = some (.int .i64 0) := blk_cellv (HS.out.at1) 4 rfl; have hz1912 : w1896.frozen? ⟨g1895, 4, none⟩ = false := blk_fz (HS.out.at1) 4) | ((with_reducible refine gate_store (t := 108) (p := 2) rfl ?_); refine store_event (w1 := (World.setCell (World.setCell (World.setCell (World.setCell (World.setCell w1896 ⟨g1895, 0, none⟩ (.int .i64 a1886)) ⟨g1895, 1, none⟩ (.int .i64 a1887)) ⟨g1895, 2, none⟩ (.int .i64 a1888)) ⟨g1895, 3, none⟩ (.int .i64 a1889)) ⟨g1895, 4, none⟩ (.int .i64 a1890))) rfl (t := 108) (p := 2) rfl rfl ?hr ?_; (case hr => first | (go_simp; done) | (go_simp; rfl)); intro w1913 hst; clear hc1898 hc1899 hc1900 hc1901 hc1902 hc1903 hz1904 hc1905 hz1906 hc1907 hz1908 hc1909 hz1910 hc1911 hz1912; replace HS : Aside0 (Sep (fps []) w [b9 g1892 a1885 a1886 a1887 a1888 a1889 a1890 a1891, b11 g1895 a1886 a1887 a1888 a1889 a1890] w1913) := ⟨by rw [hst]; exact HS.out.setAll (l1 := [b9 g1892 a1885 a1886 a1887 a1888 a1889 a1890 a1891]) (l2 := []) [.int .i64 a1886, .int .i64 a1887, .int .i64 a1888, .int .i64 a1889, .int .i64 a1890] rfl⟩; clear hst; replace HS : Aside0 (Sep (fps []) w [b11 g1895 a1886 a1887 a1888 a1889 a1890] w1913) := ⟨HS.out.sub (.cons _ (.cons_cons _ .slnil))⟩))
  have hc1914 : w1913.cell? ⟨g1895, 0, none⟩ = some (.int .i64 a1886) := blk_cellv (HS.out.at0) 0 rfl
  have hc1915 : w1913.cell? ⟨g1895, 1, none⟩ = some (.int .i64 a1887) := blk_cellv (HS.out.at0) 1 rfl
  have hc1916 : w1913.cell? ⟨g1895, 2, none⟩ = some (.int .i64 a1888) := blk_cellv (HS.out.at0) 2 rfl
  have hc1917 : w1913.cell? ⟨g1895, 3, none⟩ = some (.int .i64 a1889) := blk_cellv (HS.out.at0) 3 rfl
  have hc1918 : w1913.cell? ⟨g1895, 4, none⟩ = some (.int .i64 a1890) := blk_cellv (HS.out.at0) 4 rfl
  refine bodyPost_ret (v := .agg #[.int .i64 a1886, .int .i64 a1887, .int .i64 a1888, .int .i64 a1889, .int .i64 a1890]) (by simp [results, Tryd.results68, go_sem, hc1914, hc1915, hc1916, hc1917, hc1918]) rfl ?_
  rw [← some_eq H]
  exact ⟨(by first | rfl | (simp [IntKind.wrap_u32]; done)), HS.out.sub (.cons _ .slnil)⟩

set_option maxHeartbeats 30000000 in
set_option maxRecDepth 100000 in
theorem tag_Right.calls (k : Nat) (a1868 : Int) (a1869 : Int) (a1870 : Int) (a1871 : Int) (a1872 : Int) (a1873 : Int) (a1874 : Int) (r : Bool) (w : World)  (HGl0 : Aside0 (Gl 0 #[.int .i64 0, .int .i64 0, .int .i64 0, .int .i64 0, .int .i64 0] (fps []) w)) (HS : Aside0 (Sep (fps []) w [] w)) (H : Aside0 (tag_Right.f k a1868 a1869 a1870 a1871 a1872 a1873 a1874 = some r)) :
    Calls Tryd.prog 67 #[.agg #[.int .i64 a1868, .int .i64 a1869, .int .i64 a1870, .int .i64 a1871, .int .i64 a1872, .int .i64 a1873, .int .i64 a1874]] w fun e w' => e = .returned (.bool r) ∧ Sep (fps []) w [] w' := by
  unfold tag_Right.f at H
  go_enter Tryd.func67, Tryd.ntmps67
  go_wp2_with (first | ((with_reducible refine gate_dst (N := 1) rfl ?_); refine box_on ?hg (N := 1) ?hd (cs := #[.int .i64 a1868, .int .i64 a1869, .int .i64 a1870, .int .i64 a1871, .int .i64 a1872, .int .i64 a1873, .int .i64 a1874]) (t := 32) ?hr ?_; (case hd => rfl); (case hg => rfl); (case hr => first | (go_simp; done) | (go_simp; rfl)); intro g1875 hg w1876 hbox hb; replace HS : Aside0 (Sep (fps []) w [b9 g1875 a1868 a1869 a1870 a1871 a1872 a1873 a1874] w1876) := ⟨HS.out.box hg hbox hb⟩; clear hg hbox hb; have hc1878 : w1876.cell? ⟨g1875, 0, none⟩ = some (.int .i64 a1868) := blk_cellv (HS.out.at0) 0 rfl; have hc1879 : w1876.cell? ⟨g1875, 1, none⟩ = some (.int .i64 a1869) := blk_cellv (HS.out.at0) 1 rfl; have hc1880 : w1876.cell? ⟨g1875, 2, none⟩ = some (.int .i64 a1870) := blk_cellv (HS.out.at0) 2 rfl; have hc1881 : w1876.cell? ⟨g1875, 3, none⟩ = some (.int .i64 a1871) := blk_cellv (HS.out.at0) 3 rfl; have hc1882 : w1876.cell? ⟨g1875, 4, none⟩ = some (.int .i64 a1872) := blk_cellv (HS.out.at0) 4 rfl; have hc1883 : w1876.cell? ⟨g1875, 5, none⟩ = some (.int .i64 a1873) := blk_cellv (HS.out.at0) 5 rfl; have hc1884 : w1876.cell? ⟨g1875, 6, none⟩ = some (.int .i64 a1874) := blk_cellv (HS.out.at0) 6 rfl))
  clear hc1878 hc1879 hc1880 hc1881 hc1882 hc1883 hc1884
  obtain ⟨t1919, HA1920, H⟩ := bind_some H
  refine (tag_marks.calls a1868 a1869 a1870 a1871 a1872 a1873 a1874 t1919 _ ⟨HGl0.out.pass (l := []) HS.out⟩ ⟨Sep.start _⟩ HA1920).mono ?_
  rintro e_ w1921 ⟨rfl, hS⟩
  replace HS : Aside0 (Sep (fps []) w [b9 g1875 a1868 a1869 a1870 a1871 a1872 a1873 a1874] w1921) := ⟨HS.out.call hS⟩
  clear hS
  go_wp2_with fail
  obtain ⟨o1934, AL1935, H⟩ := bind_some H
  go_loopg [7] k (fun kq v7 wc => ∃ (x1938 : Int), v7 = .int .i64 x1938 ∧ Aside0 (tag_Right.lo0 kq t1919 x1938 = some o1934) ∧ Aside0 (Sep (fps []) w [b9 g1875 a1868 a1869 a1870 a1871 a1872 a1873 a1874] wc))
  case atStart => exact ⟨(0), (by first | rfl | (simp [IntKind.wrap_u32]; done)), AL1935, ⟨HS.out⟩⟩
  case round =>
    clear AL1935 HS
    obtain ⟨x1938, rfl, AL1935, HS⟩ := hrel
    obtain ⟨w1936, rfl⟩ : ∃ x : World, x = wr := ⟨_, rfl⟩
    cases gk with
    | zero => exact absurd AL1935.out (by simp [tag_Right.lo0])
    | succ k1937 =>
      have AL0 := AL1935.out
      rw [tag_Right.lo0] at AL0
      clear AL1935
      have AL1935 := Aside0.mk AL0
      clear AL0
      by_cases c1939 : x1938 < 5
      · replace AL1935 := if_yes c1939 AL1935
        have c1939b0 : decide (x1938 < 5) = true := decide_eq_true c1939
        clear c1939
        by_cases c1940 : 0 ≤ x1938
        · replace AL1935 := if_yes c1940 AL1935
          have c1940b0 : decide (0 ≤ x1938) = true := decide_eq_true c1940
          have c1940p : (0 ≤ x1938) = True := eq_true c1940
          clear c1940
          have ip1941 : (x1938 < 5) = True := eq_true (of_decide_eq_true c1939b0)
          have ix1942 : ∀ w, (Instr.index 108 (.agg #[.int .i64 t1919.1, .int .i64 t1919.2.1, .int .i64 t1919.2.2.1, .int .i64 t1919.2.2.2.1, .int .i64 t1919.2.2.2.2]) (.int .i64 x1938)).run Tryd.prog w = .ok (.int .i64 (rd [t1919.1, t1919.2.1, t1919.2.2.1, t1919.2.2.2.1, t1919.2.2.2.2] x1938)) w := run_index_ints 108 3 5 .i64 .i64 [t1919.1, t1919.2.1, t1919.2.2.1, t1919.2.2.2.1, t1919.2.2.2.2] x1938 Tryd.underlying108 (fun _ => by kernel_rfl) (fun _ => by kernel_rfl) rfl (of_decide_eq_true c1940b0) (of_decide_eq_true c1939b0)
          by_cases c1943 : (rd [t1919.1, t1919.2.1, t1919.2.2.1, t1919.2.2.2.1, t1919.2.2.2.2] x1938) = 0
          · replace AL1935 := if_yes c1943 AL1935
            have c1943b0 : ((rd [t1919.1, t1919.2.1, t1919.2.2.1, t1919.2.2.2.1, t1919.2.2.2.2] x1938) == 0) = true := beq_iff_eq.mpr c1943
            have c1943b1 : ((rd [t1919.1, t1919.2.1, t1919.2.2.1, t1919.2.2.2.1, t1919.2.2.2.2] x1938) != 0) = false := bne_eq_false_iff_eq.mpr c1943
            clear c1943
            go_wp2_with fail
            go_roundg k1937
            case measure => exact Nat.lt_succ_self _
            case rel => exact ⟨(wrap64 (x1938 + 1)), (by first | rfl | (simp [IntKind.wrap_u32]; done)), Aside0.mk AL1935.out, ⟨HS.out⟩⟩
          · replace AL1935 := if_no c1943 AL1935
            have c1943b0 : ((rd [t1919.1, t1919.2.1, t1919.2.2.1, t1919.2.2.2.1, t1919.2.2.2.2] x1938) == 0) = false := beq_eq_false_iff_ne.mpr c1943
            have c1943b1 : ((rd [t1919.1, t1919.2.1, t1919.2.2.1, t1919.2.2.2.1, t1919.2.2.2.2] x1938) != 0) = true := bne_iff_ne.mpr c1943
            clear c1943
            by_cases c1944 : (rd [t1919.1, t1919.2.1, t1919.2.2.1, t1919.2.2.2.1, t1919.2.2.2.2] x1938) = 1
            · replace AL1935 := if_yes c1944 AL1935
              have c1944b0 : ((rd [t1919.1, t1919.2.1, t1919.2.2.1, t1919.2.2.2.1, t1919.2.2.2.2] x1938) == 1) = true := beq_iff_eq.mpr c1944
              have c1944b1 : ((rd [t1919.1, t1919.2.1, t1919.2.2.1, t1919.2.2.2.1, t1919.2.2.2.2] x1938) != 1) = false := bne_eq_false_iff_eq.mpr c1944
              clear c1944
              go_wp2_with fail
              go_roundg k1937
              case measure => exact Nat.lt_succ_self _
              case rel => exact ⟨(wrap64 (x1938 + 1)), (by first | rfl | (simp [IntKind.wrap_u32]; done)), Aside0.mk AL1935.out, ⟨HS.out⟩⟩
            · replace AL1935 := if_no c1944 AL1935
              have c1944b0 : ((rd [t1919.1, t1919.2.1, t1919.2.2.1, t1919.2.2.2.1, t1919.2.2.2.2] x1938) == 1) = false := beq_eq_false_iff_ne.mpr c1944
              have c1944b1 : ((rd [t1919.1, t1919.2.1, t1919.2.2.1, t1919.2.2.2.1, t1919.2.2.2.2] x1938) != 1) = true := bne_iff_ne.mpr c1944
              clear c1944
              go_wp2_with fail
              have ho := some_eq AL1935
              subst ho
              have H := lp_ret H
              go_ret
              rw [← some_eq H]
              exact ⟨(by first | rfl | (simp [IntKind.wrap_u32]; done)), HS.out.sub (.cons _ .slnil)⟩
        · replace AL1935 := if_no c1940 AL1935
          have c1940b0 : decide (0 ≤ x1938) = false := decide_eq_false c1940
          clear c1940
          exact (none_no AL1935).elim
      · replace AL1935 := if_no c1939 AL1935
        have c1939b0 : decide (x1938 < 5) = false := decide_eq_false c1939
        clear c1939
        have ho := some_eq AL1935
        subst ho
        clear AL1935
        have H := lp_out H
        by_cases c1946 : a1868 = 1
        · replace H := if_yes c1946 H
          have c1946b0 : (a1868 == 1) = true := beq_iff_eq.mpr c1946
          have c1946b1 : (a1868 != 1) = false := bne_eq_false_iff_eq.mpr c1946
          clear c1946
          have hc1945 : w1936.cell? ⟨g1875, 0, none⟩ = some (.int .i64 a1868) := blk_cellv (HS.out.at0) 0 rfl
          have hc1947 : w1936.cell? ⟨g1875, 6, none⟩ = some (.int .i64 a1874) := blk_cellv (HS.out.at0) 6 rfl
          replace HS : Aside0 (Sep (fps []) w [] w1936) := ⟨HS.out.sub (.cons _ .slnil)⟩
          go_wp2_with fail
          clear hc1945 hc1947
          go_ret
          rw [← some_eq H]
          exact ⟨(by first | rfl | (simp [IntKind.wrap_u32]; done)), HS.out⟩
        · replace H := if_no c1946 H
          have c1946b0 : (a1868 == 1) = false := beq_eq_false_iff_ne.mpr c1946
          have c1946b1 : (a1868 != 1) = true := bne_iff_ne.mpr c1946
          clear c1946
          by_cases c1948 : a1868 = 2
          · replace H := if_yes c1948 H
            have c1948b0 : (a1868 == 2) = true := beq_iff_eq.mpr c1948
            have c1948b1 : (a1868 != 2) = false := bne_eq_false_iff_eq.mpr c1948
            clear c1948
            have hc1945 : w1936.cell? ⟨g1875, 0, none⟩ = some (.int .i64 a1868) := blk_cellv (HS.out.at0) 0 rfl
            have hc1949 : w1936.cell? ⟨g1875, 6, none⟩ = some (.int .i64 a1874) := blk_cellv (HS.out.at0) 6 rfl
            replace HS : Aside0 (Sep (fps []) w [] w1936) := ⟨HS.out.sub (.cons _ .slnil)⟩
            go_wp2_with fail
            clear hc1945 hc1949
            go_ret
            rw [← some_eq H]
            exact ⟨(by first | rfl | (simp [IntKind.wrap_u32]; done)), HS.out⟩
          · replace H := if_no c1948 H
            have c1948b0 : (a1868 == 2) = false := beq_eq_false_iff_ne.mpr c1948
            have c1948b1 : (a1868 != 2) = true := bne_iff_ne.mpr c1948
            clear c1948
            by_cases c1950 : a1868 = 0
            · replace H := if_yes c1950 H
              have c1950b0 : (a1868 == 0) = true := beq_iff_eq.mpr c1950
              have c1950b1 : (a1868 != 0) = false := bne_eq_false_iff_eq.mpr c1950
              clear c1950
              have hc1945 : w1936.cell? ⟨g1875, 0, none⟩ = some (.int .i64 a1868) := blk_cellv (HS.out.at0) 0 rfl
              go_wp2_with fail
              clear hc1945
              refine start_ (n := 25) (S := (fun w' => w'.cell? ⟨g1875, 0, none⟩ = some (.int .i64 a1868) ∧ w'.cell? ⟨g1875, 1, none⟩ = some (.int .i64 a1869) ∧ w'.cell? ⟨g1875, 2, none⟩ = some (.int .i64 a1870) ∧ w'.cell? ⟨g1875, 3, none⟩ = some (.int .i64 a1871) ∧ w'.cell? ⟨g1875, 4, none⟩ = some (.int .i64 a1872) ∧ w'.cell? ⟨g1875, 5, none⟩ = some (.int .i64 a1873) ∧ w'.cell? ⟨g1875, 6, none⟩ = some (.int .i64 a1874) ∧ w'.cell? ⟨0, 0, none⟩ = some (.int .i64 0) ∧ w'.cell? ⟨0, 1, none⟩ = some (.int .i64 0) ∧ w'.cell? ⟨0, 2, none⟩ = some (.int .i64 0) ∧ w'.cell? ⟨0, 3, none⟩ = some (.int .i64 0) ∧ w'.cell? ⟨0, 4, none⟩ = some (.int .i64 0))) (ds := []) #[false, false, false, false, false, false, false, false, false, false, false, false, false, false, false, false, false, false, false, false, false, false, false, false, false] (by kernel_rfl) rfl rfl (⟨blk_cellv ((HS.out.drew).at0) 0 rfl, blk_cellv ((HS.out.drew).at0) 1 rfl, blk_cellv ((HS.out.drew).at0) 2 rfl, blk_cellv ((HS.out.drew).at0) 3 rfl, blk_cellv ((HS.out.drew).at0) 4 rfl, blk_cellv ((HS.out.drew).at0) 5 rfl, blk_cellv ((HS.out.drew).at0) 6 rfl, Gl.cell HGl0.out (HS.out.drew).fr 0 rfl, Gl.cell HGl0.out (HS.out.drew).fr 1 rfl, Gl.cell HGl0.out (HS.out.drew).fr 2 rfl, Gl.cell HGl0.out (HS.out.drew).fr 3 rfl, Gl.cell HGl0.out (HS.out.drew).fr 4 rfl⟩) (fun hHeld => ?_)
              have HS_ := Aside0.mk HS.out.drew
              clear HS
              generalize World.drew _ = w1952 at HS_ hHeld ⊢
              have HS := HS_
              clear HS_
              refine take_ (i := 0) (N := some 28) (v := ?_) (a' := ?_) #[true, false, false, false, false, false, false, false, false, false, false, false, false, false, false, false, false, false, false, false, false, false, false, false, false] rfl rfl (by kernel_rfl) (fun _ _ _ h => h) (Or.inl ⟨by rfl, ?_⟩) hHeld ?_ ?_
              rotate_left
              · rintro w' hS'
                obtain ⟨s0, s1, s2, s3, s4, s5, s6, s7, s8, s9, s10, s11⟩ := hS'
                go_simp
                with_reducible rfl
              rotate_left
              · simp only [Act.put, List.setIfInBounds_toArray, List.set_cons_zero, List.set_cons_succ, i64_w, i32_w]
                rfl
              refine take_ (i := 2) (N := some 30) (v := ?_) (a' := ?_) #[true, false, true, false, false, false, false, false, false, false, false, false, false, false, false, false, false, false, false, false, false, false, false, false, false] rfl rfl (by kernel_rfl) (fun _ _ _ h => h) (Or.inl ⟨by rfl, ?_⟩) hHeld ?_ ?_
              rotate_left
              · rintro w' hS'
                obtain ⟨s0, s1, s2, s3, s4, s5, s6, s7, s8, s9, s10, s11⟩ := hS'
                go_simp
                with_reducible rfl
              rotate_left
              · simp only [Act.put, List.setIfInBounds_toArray, List.set_cons_zero, List.set_cons_succ, i64_w, i32_w]
                rfl
              refine one_ (i := 1) (N := some 29) #[true, true, true, false, false, false, false, false, false, false, false, false, false, false, false, false, false, false, false, false, false, false, false, false, false] rfl rfl (by kernel_rfl) (by decide) (fun K hK => ?_)
              obtain ⟨t1953, HA1954, H⟩ := bind_some H
              refine goes_ Tryd.func68 (by kernel_rfl) rfl #[.agg #[.int .i64 a1868, .int .i64 a1869, .int .i64 a1870, .int .i64 a1871, .int .i64 a1872, .int .i64 a1873, .int .i64 a1874]] (by rfl) rfl rfl (by (try simp only [List.map_toArray, List.map_cons, List.map_nil]); first | done | rfl) ?_
              refine (tag_marks.calls a1868 a1869 a1870 a1871 a1872 a1873 a1874 t1953 _ ⟨HGl0.out.pass (l := []) HS.out⟩ ⟨Sep.start _⟩ HA1954).mono ?_
              rintro e_ w1955 ⟨rfl, hS⟩
              replace HS : Aside0 (Sep (fps []) w [b9 g1875 a1868 a1869 a1870 a1871 a1872 a1873 a1874] w1955) := ⟨HS.out.call hS⟩
              clear hS
              refine ⟨_, rfl, ?_⟩
              refine hK.out _ _ (⟨blk_cellv (HS.out.at0) 0 rfl, blk_cellv (HS.out.at0) 1 rfl, blk_cellv (HS.out.at0) 2 rfl, blk_cellv (HS.out.at0) 3 rfl, blk_cellv (HS.out.at0) 4 rfl, blk_cellv (HS.out.at0) 5 rfl, blk_cellv (HS.out.at0) 6 rfl, Gl.cell HGl0.out HS.out.fr 0 rfl, Gl.cell HGl0.out HS.out.fr 1 rfl, Gl.cell HGl0.out HS.out.fr 2 rfl, Gl.cell HGl0.out HS.out.fr 3 rfl, Gl.cell HGl0.out HS.out.fr 4 rfl⟩) (fun hHeld => ?_)
              clear hK K
              refine norm_ (a' := ?_) ?_ ?_
              rotate_left
              · show Act.put _ (some 29) _ = _
                simp only [Act.put, List.setIfInBounds_toArray, List.set_cons_zero, List.set_cons_succ, i64_w, i32_w]
                rfl
              obtain ⟨b1957, HA1958, H⟩ := bind_some H
              have eb1956 : ∀ w, (Op.equalIn 10000 108 (.agg #[.int .i64 t1953.1, .int .i64 t1953.2.1, .int .i64 t1953.2.2.1, .int .i64 t1953.2.2.2.1, .int .i64 t1953.2.2.2.2]) (.agg #[.int .i64 0, .int .i64 0, .int .i64 0, .int .i64 0, .int .i64 0])).run Tryd.prog w = .ok b1957 w := some_eq HA1958 ▸ run_eq_ints 9998 108 3 5 .i64 [t1953.1, t1953.2.1, t1953.2.2.1, t1953.2.2.2.1, t1953.2.2.2.2] [0, 0, 0, 0, 0] Tryd.underlying108 (by kernel_rfl) (by kernel_rfl) Tryd.underlying3 (fun _ => by kernel_rfl) rfl rfl
              refine pure_ (i := 3) (N := some 31) (v := ?_) (a' := ?_) #[true, true, true, true, false, false, false, false, false, false, false, false, false, false, false, false, false, false, false, false, false, false, false, false, false] rfl rfl (by kernel_rfl) (fun _ _ _ h => h) (Or.inl ⟨by rfl, ?_⟩) ?_ ?_
              rotate_left
              · intro w'
                go_simp
                with_reducible rfl
              rotate_left
              · simp only [Act.put, List.setIfInBounds_toArray, List.set_cons_zero, List.set_cons_succ, i64_w, i32_w]
                rfl
              refine pure_ (i := 4) (N := some 32) (v := ?_) (a' := ?_) #[true, true, true, true, true, false, false, false, false, false, false, false, false, false, false, false, false, false, false, false, false, false, false, false, false] rfl rfl (by kernel_rfl) (fun _ _ _ h => h) (Or.inl ⟨by rfl, ?_⟩) ?_ ?_
              rotate_left
              · intro w'
                go_simp
                with_reducible rfl
              rotate_left
              · simp only [Act.put, List.setIfInBounds_toArray, List.set_cons_zero, List.set_cons_succ, i64_w, i32_w]
                rfl
              by_cases c1959 : b1957 = true
              · replace H := if_yes c1959 H
                have c1959b0 : b1957 = true := c1959
                have c1959b1 : (!b1957) = false := by rw [c1959b0]; rfl
                clear c1959
                try simp only [c1959b0, Bool.not_true, Bool.not_false]
                refine pure_ (i := 5) (N := some 33) (v := ?_) (a' := ?_) #[true, true, true, true, true, true, false, false, false, false, false, false, false, false, false, false, false, false, false, false, false, false, false, false, false] rfl rfl (by kernel_rfl) (fun _ _ _ h => h) (Or.inl ⟨by rfl, ?_⟩) ?_ ?_
                rotate_left
                · intro w'
                  go_simp
                  with_reducible rfl
                rotate_left
                · simp only [Act.put, List.setIfInBounds_toArray, List.set_cons_zero, List.set_cons_succ, i64_w, i32_w]
                  rfl
                try simp only [c1959b0, Bool.not_true, Bool.not_false]
                refine take_ (i := 6) (N := some 34) (v := ?_) (a' := ?_) #[true, true, true, true, true, true, true, false, false, false, false, false, false, false, false, false, false, false, false, false, false, false, false, false, false] rfl rfl (by kernel_rfl) (fun _ _ _ h => h) (Or.inl ⟨by rfl, ?_⟩) hHeld ?_ ?_
                rotate_left
                · rintro w' hS'
                  obtain ⟨s0, s1, s2, s3, s4, s5, s6, s7, s8, s9, s10, s11⟩ := hS'
                  go_simp
                  with_reducible rfl
                rotate_left
                · simp only [Act.put, List.setIfInBounds_toArray, List.set_cons_zero, List.set_cons_succ, i64_w, i32_w]
                  rfl
                try simp only [c1959b0, Bool.not_true, Bool.not_false]
                refine pure_ (i := 7) (N := some 35) (v := ?_) (a' := ?_) #[true, true, true, true, true, true, true, true, false, false, false, false, false, false, false, false, false, false, false, false, false, false, false, false, false] rfl rfl (by kernel_rfl) (fun _ _ _ h => h) (Or.inl ⟨by rfl, ?_⟩) ?_ ?_
                rotate_left
                · intro w'
                  go_simp
                  with_reducible rfl
                rotate_left
                · simp only [Act.put, List.setIfInBounds_toArray, List.set_cons_zero, List.set_cons_succ, i64_w, i32_w]
                  rfl
                refine pure_ (i := 8) (N := some 36) (v := ?_) (a' := ?_) #[true, true, true, true, true, true, true, true, true, false, false, false, false, false, false, false, false, false, false, false, false, false, false, false, false] rfl rfl (by kernel_rfl) (fun _ _ _ h => h) (Or.inl ⟨by rfl, ?_⟩) ?_ ?_
                rotate_left
                · intro w'
                  go_simp
                  with_reducible rfl
                rotate_left
                · simp only [Act.put, List.setIfInBounds_toArray, List.set_cons_zero, List.set_cons_succ, i64_w, i32_w]
                  rfl
                refine pure_ (i := 9) (N := some 37) (v := ?_) (a' := ?_) #[true, true, true, true, true, true, true, true, true, true, false, false, false, false, false, false, false, false, false, false, false, false, false, false, false] rfl rfl (by kernel_rfl) (fun _ _ _ h => h) (Or.inl ⟨by rfl, ?_⟩) ?_ ?_
                rotate_left
                · intro w'
                  go_simp
                  with_reducible rfl
                rotate_left
                · simp only [Act.put, List.setIfInBounds_toArray, List.set_cons_zero, List.set_cons_succ, i64_w, i32_w]
                  rfl
                by_cases c1960 : a1874 ≥ 0
                · replace H := if_yes c1960 H
                  have c1960b0 : decide (0 ≤ a1874) = true := decide_eq_true c1960
                  clear c1960
                  try simp only [c1960b0, Bool.not_true, Bool.not_false]
                  refine pure_ (i := 10) (N := some 38) (v := ?_) (a' := ?_) #[true, true, true, true, true, true, true, true, true, true, true, false, false, false, false, false, false, false, false, false, false, false, false, false, false] rfl rfl (by kernel_rfl) (fun _ _ _ h => h) (Or.inl ⟨by rfl, ?_⟩) ?_ ?_
                  rotate_left
                  · intro w'
                    go_simp
                    with_reducible rfl
                  rotate_left
                  · simp only [Act.put, List.setIfInBounds_toArray, List.set_cons_zero, List.set_cons_succ, i64_w, i32_w]
                    rfl
                  try simp only [c1960b0, Bool.not_true, Bool.not_false]
                  refine take_ (i := 11) (N := some 39) (v := ?_) (a' := ?_) #[true, true, true, true, true, true, true, true, true, true, true, true, false, false, false, false, false, false, false, false, false, false, false, false, false] rfl rfl (by kernel_rfl) (fun _ _ _ h => h) (Or.inl ⟨by rfl, ?_⟩) hHeld ?_ ?_
                  rotate_left
                  · rintro w' hS'
                    obtain ⟨s0, s1, s2, s3, s4, s5, s6, s7, s8, s9, s10, s11⟩ := hS'
                    go_simp
                    with_reducible rfl
                  rotate_left
                  · simp only [Act.put, List.setIfInBounds_toArray, List.set_cons_zero, List.set_cons_succ, i64_w, i32_w]
                    rfl
                  try simp only [c1960b0, Bool.not_true, Bool.not_false]
                  refine pure_ (i := 12) (N := some 40) (v := ?_) (a' := ?_) #[true, true, true, true, true, true, true, true, true, true, true, true, true, false, false, false, false, false, false, false, false, false, false, false, false] rfl rfl (by kernel_rfl) (fun _ _ _ h => h) (Or.inl ⟨by rfl, ?_⟩) ?_ ?_
                  rotate_left
                  · intro w'
                    go_simp
                    with_reducible rfl
                  rotate_left
                  · simp only [Act.put, List.setIfInBounds_toArray, List.set_cons_zero, List.set_cons_succ, i64_w, i32_w]
                    rfl
                  refine pure_ (i := 13) (N := some 41) (v := ?_) (a' := ?_) #[true, true, true, true, true, true, true, true, true, true, true, true, true, true, false, false, false, false, false, false, false, false, false, false, false] rfl rfl (by kernel_rfl) (fun _ _ _ h => h) (Or.inl ⟨by rfl, ?_⟩) ?_ ?_
                  rotate_left
                  · intro w'
                    go_simp
                    with_reducible rfl
                  rotate_left
                  · simp only [Act.put, List.setIfInBounds_toArray, List.set_cons_zero, List.set_cons_succ, i64_w, i32_w]
                    rfl
                  refine pure_ (i := 14) (N := some 42) (v := ?_) (a' := ?_) #[true, true, true, true, true, true, true, true, true, true, true, true, true, true, true, false, false, false, false, false, false, false, false, false, false] rfl rfl (by kernel_rfl) (fun _ _ _ h => h) (Or.inl ⟨by rfl, ?_⟩) ?_ ?_
                  rotate_left
                  · intro w'
                    go_simp
                    with_reducible rfl
                  rotate_left
                  · simp only [Act.put, List.setIfInBounds_toArray, List.set_cons_zero, List.set_cons_succ, i64_w, i32_w]
                    rfl
                  by_cases c1961 : a1874 < 1048576
                  · replace H := if_yes c1961 H
                    have c1961b0 : decide (a1874 < 1048576) = true := decide_eq_true c1961
                    clear c1961
                    try simp only [c1961b0, Bool.not_true, Bool.not_false]
                    refine pure_ (i := 15) (N := some 43) (v := ?_) (a' := ?_) #[true, true, true, true, true, true, true, true, true, true, true, true, true, true, true, true, false, false, false, false, false, false, false, false, false] rfl rfl (by kernel_rfl) (fun _ _ _ h => h) (Or.inl ⟨by rfl, ?_⟩) ?_ ?_
                    rotate_left
                    · intro w'
                      go_simp
                      with_reducible rfl
                    rotate_left
                    · simp only [Act.put, List.setIfInBounds_toArray, List.set_cons_zero, List.set_cons_succ, i64_w, i32_w]
                      rfl
                    try simp only [c1961b0, Bool.not_true, Bool.not_false]
                    refine take_ (i := 16) (N := some 44) (v := ?_) (a' := ?_) #[true, true, true, true, true, true, true, true, true, true, true, true, true, true, true, true, true, false, false, false, false, false, false, false, false] rfl rfl (by kernel_rfl) (fun _ _ _ h => h) (Or.inl ⟨by rfl, ?_⟩) hHeld ?_ ?_
                    rotate_left
                    · rintro w' hS'
                      obtain ⟨s0, s1, s2, s3, s4, s5, s6, s7, s8, s9, s10, s11⟩ := hS'
                      go_simp
                      with_reducible rfl
                    rotate_left
                    · simp only [Act.put, List.setIfInBounds_toArray, List.set_cons_zero, List.set_cons_succ, i64_w, i32_w]
                      rfl
                    try simp only [c1961b0, Bool.not_true, Bool.not_false]
                    refine pure_ (i := 17) (N := some 45) (v := ?_) (a' := ?_) #[true, true, true, true, true, true, true, true, true, true, true, true, true, true, true, true, true, true, false, false, false, false, false, false, false] rfl rfl (by kernel_rfl) (fun _ _ _ h => h) (Or.inl ⟨by rfl, ?_⟩) ?_ ?_
                    rotate_left
                    · intro w'
                      go_simp
                      with_reducible rfl
                    rotate_left
                    · simp only [Act.put, List.setIfInBounds_toArray, List.set_cons_zero, List.set_cons_succ, i64_w, i32_w]
                      rfl
                    try simp only [c1961b0, Bool.not_true, Bool.not_false]
                    refine pure_ (i := 18) (N := some 46) (v := ?_) (a' := ?_) #[true, true, true, true, true, true, true, true, true, true, true, true, true, true, true, true, true, true, true, false, false, false, false, false, false] rfl rfl (by kernel_rfl) (fun _ _ _ h => h) (Or.inl ⟨by rfl, ?_⟩) ?_ ?_
                    rotate_left
                    · intro w'
                      go_simp
                      with_reducible rfl
                    rotate_left
                    · simp only [Act.put, List.setIfInBounds_toArray, List.set_cons_zero, List.set_cons_succ, i64_w, i32_w]
                      rfl
                    by_cases c1962 : a1868 = 3
                    · replace H := if_yes c1962 H
                      have c1962b0 : (a1868 == 3) = true := beq_iff_eq.mpr c1962
                      have c1962b1 : (a1868 != 3) = false := bne_eq_false_iff_eq.mpr c1962
                      clear c1962
                      try simp only [c1962b0, c1962b1, Bool.not_true, Bool.not_false]
                      refine pure_ (i := 19) (N := some 47) (v := undef) (a' := ?_) #[true, true, true, true, true, true, true, true, true, true, true, true, true, true, true, true, true, true, true, true, false, false, false, false, false] rfl rfl (by kernel_rfl) (fun _ _ _ h => h) (Or.inr ⟨by rfl, rfl⟩) ?_ ?_
                      rotate_left
                      · simp only [Act.put, List.setIfInBounds_toArray, List.set_cons_zero, List.set_cons_succ, i64_w, i32_w]
                        rfl
                      try simp only [c1962b0, c1962b1, Bool.not_true, Bool.not_false]
                      refine pure_ (i := 20) (N := some 48) (v := undef) (a' := ?_) #[true, true, true, true, true, true, true, true, true, true, true, true, true, true, true, true, true, true, true, true, true, false, false, false, false] rfl rfl (by kernel_rfl) (fun _ _ _ h => h) (Or.inr ⟨by rfl, rfl⟩) ?_ ?_
                      rotate_left
                      · simp only [Act.put, List.setIfInBounds_toArray, List.set_cons_zero, List.set_cons_succ, i64_w, i32_w]
                        rfl
                      try simp only [c1962b0, c1962b1, Bool.not_true, Bool.not_false]
                      refine pure_ (i := 21) (N := some 49) (v := undef) (a' := ?_) #[true, true, true, true, true, true, true, true, true, true, true, true, true, true, true, true, true, true, true, true, true, true, false, false, false] rfl rfl (by kernel_rfl) (fun _ _ _ h => h) (Or.inr ⟨by rfl, rfl⟩) ?_ ?_
                      rotate_left
                      · simp only [Act.put, List.setIfInBounds_toArray, List.set_cons_zero, List.set_cons_succ, i64_w, i32_w]
                        rfl
                      try simp only [c1961b0, Bool.not_true, Bool.not_false]
                      refine pure_ (i := 22) (N := some 50) (v := ?_) (a' := ?_) #[true, true, true, true, true, true, true, true, true, true, true, true, true, true, true, true, true, true, true, true, true, true, true, false, false] rfl rfl (by kernel_rfl) (fun _ _ _ h => h) (Or.inl ⟨by rfl, ?_⟩) ?_ ?_
                      rotate_left
                      · intro w'
                        go_simp
                        with_reducible rfl
                      rotate_left
                      · simp only [Act.put, List.setIfInBounds_toArray, List.set_cons_zero, List.set_cons_succ, i64_w, i32_w]
                        rfl
                      refine pure_ (i := 23) (N := some 51) (v := ?_) (a' := ?_) #[true, true, true, true, true, true, true, true, true, true, true, true, true, true, true, true, true, true, true, true, true, true, true, true, false] rfl rfl (by kernel_rfl) (fun _ _ _ h => h) (Or.inl ⟨by rfl, ?_⟩) ?_ ?_
                      rotate_left
                      · intro w'
                        go_simp
                        with_reducible rfl
                      rotate_left
                      · simp only [Act.put, List.setIfInBounds_toArray, List.set_cons_zero, List.set_cons_succ, i64_w, i32_w]
                        rfl
                      refine pure_ (i := 24) (N := some 2) (v := ?_) (a' := ?_) #[true, true, true, true, true, true, true, true, true, true, true, true, true, true, true, true, true, true, true, true, true, true, true, true, true] rfl rfl (by kernel_rfl) (fun _ _ _ h => h) (Or.inl ⟨by rfl, ?_⟩) ?_ ?_
                      rotate_left
                      · intro w'
                        go_simp
                        with_reducible rfl
                      rotate_left
                      · simp only [Act.put, List.setIfInBounds_toArray, List.set_cons_zero, List.set_cons_succ, i64_w, i32_w]
                        rfl
                      refine done_ (by kernel_rfl) ?_
                      replace HS : Aside0 (Sep (fps []) w [] w1955) := ⟨HS.out.sub (.cons _ .slnil)⟩
                      go_wp2_with fail
                      go_ret
                      rw [← some_eq H]
                      exact ⟨(by first | rfl | (simp [IntKind.wrap_u32]; done)), HS.out⟩
                    · replace H := if_no c1962 H
                      have c1962b0 : (a1868 == 3) = false := beq_eq_false_iff_ne.mpr c1962
                      have c1962b1 : (a1868 != 3) = true := bne_iff_ne.mpr c1962
                      clear c1962
                      try simp only [c1962b0, c1962b1, Bool.not_true, Bool.not_false]
                      refine pure_ (i := 19) (N := some 47) (v := ?_) (a' := ?_) #[true, true, true, true, true, true, true, true, true, true, true, true, true, true, true, true, true, true, true, true, false, false, false, false, false] rfl rfl (by kernel_rfl) (fun _ _ _ h => h) (Or.inl ⟨by rfl, ?_⟩) ?_ ?_
                      rotate_left
                      · intro w'
                        go_simp
                        with_reducible rfl
                      rotate_left
                      · simp only [Act.put, List.setIfInBounds_toArray, List.set_cons_zero, List.set_cons_succ, i64_w, i32_w]
                        rfl
                      try simp only [c1962b0, c1962b1, Bool.not_true, Bool.not_false]
                      refine take_ (i := 20) (N := some 48) (v := ?_) (a' := ?_) #[true, true, true, true, true, true, true, true, true, true, true, true, true, true, true, true, true, true, true, true, true, false, false, false, false] rfl rfl (by kernel_rfl) (fun _ _ _ h => h) (Or.inl ⟨by rfl, ?_⟩) hHeld ?_ ?_
                      rotate_left
                      · rintro w' hS'
                        obtain ⟨s0, s1, s2, s3, s4, s5, s6, s7, s8, s9, s10, s11⟩ := hS'
                        go_simp
                        with_reducible rfl
                      rotate_left
                      · simp only [Act.put, List.setIfInBounds_toArray, List.set_cons_zero, List.set_cons_succ, i64_w, i32_w]
                        rfl
                      try simp only [c1962b0, c1962b1, Bool.not_true, Bool.not_false]
                      refine pure_ (i := 21) (N := some 49) (v := ?_) (a' := ?_) #[true, true, true, true, true, true, true, true, true, true, true, true, true, true, true, true, true, true, true, true, true, true, false, false, false] rfl rfl (by kernel_rfl) (fun _ _ _ h => h) (Or.inl ⟨by rfl, ?_⟩) ?_ ?_
                      rotate_left
                      · intro w'
                        go_simp
                        with_reducible rfl
                      rotate_left
                      · simp only [Act.put, List.setIfInBounds_toArray, List.set_cons_zero, List.set_cons_succ, i64_w, i32_w]
                        rfl
                      try simp only [c1961b0, Bool.not_true, Bool.not_false]
                      refine pure_ (i := 22) (N := some 50) (v := ?_) (a' := ?_) #[true, true, true, true, true, true, true, true, true, true, true, true, true, true, true, true, true, true, true, true, true, true, true, false, false] rfl rfl (by kernel_rfl) (fun _ _ _ h => h) (Or.inl ⟨by rfl, ?_⟩) ?_ ?_
                      rotate_left
                      · intro w'
                        go_simp
                        with_reducible rfl
                      rotate_left
                      · simp only [Act.put, List.setIfInBounds_toArray, List.set_cons_zero, List.set_cons_succ, i64_w, i32_w]
                        rfl
                      refine pure_ (i := 23) (N := some 51) (v := ?_) (a' := ?_) #[true, true, true, true, true, true, true, true, true, true, true, true, true, true, true, true, true, true, true, true, true, true, true, true, false] rfl rfl (by kernel_rfl) (fun _ _ _ h => h) (Or.inl ⟨by rfl, ?_⟩) ?_ ?_
                      rotate_left
                      · intro w'
                        go_simp
                        with_reducible rfl
                      rotate_left
                      · simp only [Act.put, List.setIfInBounds_toArray, List.set_cons_zero, List.set_cons_succ, i64_w, i32_w]
                        rfl
                      refine pure_ (i := 24) (N := some 2) (v := ?_) (a' := ?_) #[true, true, true, true, true, true, true, true, true, true, true, true, true, true, true, true, true, true, true, true, true, true, true, true, true] rfl rfl (by kernel_rfl) (fun _ _ _ h => h) (Or.inl ⟨by rfl, ?_⟩) ?_ ?_
                      rotate_left
                      · intro w'
                        go_simp
                        with_reducible rfl
                      rotate_left
                      · simp only [Act.put, List.setIfInBounds_toArray, List.set_cons_zero, List.set_cons_succ, i64_w, i32_w]
                        rfl
                      refine done_ (by kernel_rfl) ?_
                      replace HS : Aside0 (Sep (fps []) w [] w1955) := ⟨HS.out.sub (.cons _ .slnil)⟩
                      go_wp2_with fail
                      go_ret
                      rw [← some_eq H]
                      exact ⟨(by first | rfl | (simp [IntKind.wrap_u32]; done)), HS.out⟩
                  · replace H := if_no c1961 H
                    have c1961b0 : decide (a1874 < 1048576) = false := decide_eq_false c1961
                    clear c1961
                    try simp only [c1961b0, Bool.not_true, Bool.not_false]
                    refine pure_ (i := 15) (N := some 43) (v := undef) (a' := ?_) #[true, true, true, true, true, true, true, true, true, true, true, true, true, true, true, true, false, false, false, false, false, false, false, false, false] rfl rfl (by kernel_rfl) (fun _ _ _ h => h) (Or.inr ⟨by rfl, rfl⟩) ?_ ?_
                    rotate_left
                    · simp only [Act.put, List.setIfInBounds_toArray, List.set_cons_zero, List.set_cons_succ, i64_w, i32_w]
                      rfl
                    try simp only [c1961b0, Bool.not_true, Bool.not_false]
                    refine pure_ (i := 16) (N := some 44) (v := undef) (a' := ?_) #[true, true, true, true, true, true, true, true, true, true, true, true, true, true, true, true, true, false, false, false, false, false, false, false, false] rfl rfl (by kernel_rfl) (fun _ _ _ h => h) (Or.inr ⟨by rfl, rfl⟩) ?_ ?_
                    rotate_left
                    · simp only [Act.put, List.setIfInBounds_toArray, List.set_cons_zero, List.set_cons_succ, i64_w, i32_w]
                      rfl
                    try simp only [c1961b0, Bool.not_true, Bool.not_false]
                    refine pure_ (i := 17) (N := some 45) (v := undef) (a' := ?_) #[true, true, true, true, true, true, true, true, true, true, true, true, true, true, true, true, true, true, false, false, false, false, false, false, false] rfl rfl (by kernel_rfl) (fun _ _ _ h => h) (Or.inr ⟨by rfl, rfl⟩) ?_ ?_
                    rotate_left
                    · simp only [Act.put, List.setIfInBounds_toArray, List.set_cons_zero, List.set_cons_succ, i64_w, i32_w]
                      rfl
                    try simp only [c1961b0, Bool.not_true, Bool.not_false]
                    refine pure_ (i := 18) (N := some 46) (v := undef) (a' := ?_) #[true, true, true, true, true, true, true, true, true, true, true, true, true, true, true, true, true, true, true, false, false, false, false, false, false] rfl rfl (by kernel_rfl) (fun _ _ _ h => h) (Or.inr ⟨by rfl, rfl⟩) ?_ ?_
                    rotate_left
                    · simp only [Act.put, List.setIfInBounds_toArray, List.set_cons_zero, List.set_cons_succ, i64_w, i32_w]
                      rfl
                    refine pure_ (i := 19) (N := some 47) (v := undef) (a' := ?_) #[true, true, true, true, true, true, true, true, true, true, true, true, true, true, true, true, true, true, true, true, false, false, false, false, false] rfl rfl (by kernel_rfl) (fun _ _ _ h => h) (Or.inr ⟨by rfl, rfl⟩) ?_ ?_
                    rotate_left
                    · simp only [Act.put, List.setIfInBounds_toArray, List.set_cons_zero, List.set_cons_succ, i64_w, i32_w]
                      rfl
                    refine pure_ (i := 20) (N := some 48) (v := undef) (a' := ?_) #[true, true, true, true, true, true, true, true, true, true, true, true, true, true, true, true, true, true, true, true, true, false, false, false, false] rfl rfl (by kernel_rfl) (fun _ _ _ h => h) (Or.inr ⟨by rfl, rfl⟩) ?_ ?_
                    rotate_left
                    · simp only [Act.put, List.setIfInBounds_toArray, List.set_cons_zero, List.set_cons_succ, i64_w, i32_w]
                      rfl
                    refine pure_ (i := 21) (N := some 49) (v := undef) (a' := ?_) #[true, true, true, true, true, true, true, true, true, true, true, true, true, true, true, true, true, true, true, true, true, true, false, false, false] rfl rfl (by kernel_rfl) (fun _ _ _ h => h) (Or.inr ⟨by rfl, rfl⟩) ?_ ?_
                    rotate_left
                    · simp only [Act.put, List.setIfInBounds_toArray, List.set_cons_zero, List.set_cons_succ, i64_w, i32_w]
                      rfl
                    try simp only [c1961b0, Bool.not_true, Bool.not_false]
                    refine pure_ (i := 22) (N := some 50) (v := undef) (a' := ?_) #[true, true, true, true, true, true, true, true, true, true, true, true, true, true, true, true, true, true, true, true, true, true, true, false, false] rfl rfl (by kernel_rfl) (fun _ _ _ h => h) (Or.inr ⟨by rfl, rfl⟩) ?_ ?_
                    rotate_left
                    · simp only [Act.put, List.setIfInBounds_toArray, List.set_cons_zero, List.set_cons_succ, i64_w, i32_w]
                      rfl
                    refine pure_ (i := 23) (N := some 51) (v := ?_) (a' := ?_) #[true, true, true, true, true, true, true, true, true, true, true, true, true, true, true, true, true, true, true, true, true, true, true, true, false] rfl rfl (by kernel_rfl) (fun _ _ _ h => h) (Or.inl ⟨by rfl, ?_⟩) ?_ ?_
                    rotate_left
                    · intro w'
                      go_simp
                      with_reducible rfl
                    rotate_left
                    · simp only [Act.put, List.setIfInBounds_toArray, List.set_cons_zero, List.set_cons_succ, i64_w, i32_w]
                      rfl
                    refine pure_ (i := 24) (N := some 2) (v := ?_) (a' := ?_) #[true, true, true, true, true, true, true, true, true, true, true, true, true, true, true, true, true, true, true, true, true, true, true, true, true] rfl rfl (by kernel_rfl) (fun _ _ _ h => h) (Or.inl ⟨by rfl, ?_⟩) ?_ ?_
                    rotate_left
                    · intro w'
                      go_simp
                      with_reducible rfl
                    rotate_left
                    · simp only [Act.put, List.setIfInBounds_toArray, List.set_cons_zero, List.set_cons_succ, i64_w, i32_w]
                      rfl
                    refine done_ (by kernel_rfl) ?_
                    replace HS : Aside0 (Sep (fps []) w [] w1955) := ⟨HS.out.sub (.cons _ .slnil)⟩
                    go_wp2_with fail
                    go_ret
                    rw [← some_eq H]
                    exact ⟨(by first | rfl | (simp [IntKind.wrap_u32]; done)), HS.out⟩
                · replace H := if_no c1960 H
                  have c1960b0 : decide (0 ≤ a1874) = false := decide_eq_false c1960
                  clear c1960
                  try simp only [c1960b0, Bool.not_true, Bool.not_false]
                  refine pure_ (i := 10) (N := some 38) (v := undef) (a' := ?_) #[true, true, true, true, true, true, true, true, true, true, true, false, false, false, false, false, false, false, false, false, false, false, false, false, false] rfl rfl (by kernel_rfl) (fun _ _ _ h => h) (Or.inr ⟨by rfl, rfl⟩) ?_ ?_
                  rotate_left
                  · simp only [Act.put, List.setIfInBounds_toArray, List.set_cons_zero, List.set_cons_succ, i64_w, i32_w]
                    rfl
                  try simp only [c1960b0, Bool.not_true, Bool.not_false]
                  refine pure_ (i := 11) (N := some 39) (v := undef) (a' := ?_) #[true, true, true, true, true, true, true, true, true, true, true, true, false, false, false, false, false, false, false, false, false, false, false, false, false] rfl rfl (by kernel_rfl) (fun _ _ _ h => h) (Or.inr ⟨by rfl, rfl⟩) ?_ ?_
                  rotate_left
                  · simp only [Act.put, List.setIfInBounds_toArray, List.set_cons_zero, List.set_cons_succ, i64_w, i32_w]
                    rfl
                  try simp only [c1960b0, Bool.not_true, Bool.not_false]
                  refine pure_ (i := 12) (N := some 40) (v := undef) (a' := ?_) #[true, true, true, true, true, true, true, true, true, true, true, true, true, false, false, false, false, false, false, false, false, false, false, false, false] rfl rfl (by kernel_rfl) (fun _ _ _ h => h) (Or.inr ⟨by rfl, rfl⟩) ?_ ?_
                  rotate_left
                  · simp only [Act.put, List.setIfInBounds_toArray, List.set_cons_zero, List.set_cons_succ, i64_w, i32_w]
                    rfl
                  refine pure_ (i := 13) (N := some 41) (v := ?_) (a' := ?_) #[true, true, true, true, true, true, true, true, true, true, true, true, true, true, false, false, false, false, false, false, false, false, false, false, false] rfl rfl (by kernel_rfl) (fun _ _ _ h => h) (Or.inl ⟨by rfl, ?_⟩) ?_ ?_
                  rotate_left
                  · intro w'
                    go_simp
                    with_reducible rfl
                  rotate_left
                  · simp only [Act.put, List.setIfInBounds_toArray, List.set_cons_zero, List.set_cons_succ, i64_w, i32_w]
                    rfl
                  refine pure_ (i := 14) (N := some 42) (v := ?_) (a' := ?_) #[true, true, true, true, true, true, true, true, true, true, true, true, true, true, true, false, false, false, false, false, false, false, false, false, false] rfl rfl (by kernel_rfl) (fun _ _ _ h => h) (Or.inl ⟨by rfl, ?_⟩) ?_ ?_
                  rotate_left
                  · intro w'
                    go_simp
                    with_reducible rfl
                  rotate_left
                  · simp only [Act.put, List.setIfInBounds_toArray, List.set_cons_zero, List.set_cons_succ, i64_w, i32_w]
                    rfl
                  refine pure_ (i := 15) (N := some 43) (v := undef) (a' := ?_) #[true, true, true, true, true, true, true, true, true, true, true, true, true, true, true, true, false, false, false, false, false, false, false, false, false] rfl rfl (by kernel_rfl) (fun _ _ _ h => h) (Or.inr ⟨by rfl, rfl⟩) ?_ ?_
                  rotate_left
                  · simp only [Act.put, List.setIfInBounds_toArray, List.set_cons_zero, List.set_cons_succ, i64_w, i32_w]
                    rfl
                  refine pure_ (i := 16) (N := some 44) (v := undef) (a' := ?_) #[true, true, true, true, true, true, true, true, true, true, true, true, true, true, true, true, true, false, false, false, false, false, false, false, false] rfl rfl (by kernel_rfl) (fun _ _ _ h => h) (Or.inr ⟨by rfl, rfl⟩) ?_ ?_
                  rotate_left
                  · simp only [Act.put, List.setIfInBounds_toArray, List.set_cons_zero, List.set_cons_succ, i64_w, i32_w]
                    rfl
                  refine pure_ (i := 17) (N := some 45) (v := undef) (a' := ?_) #[true, true, true, true, true, true, true, true, true, true, true, true, true, true, true, true, true, true, false, false, false, false, false, false, false] rfl rfl (by kernel_rfl) (fun _ _ _ h => h) (Or.inr ⟨by rfl, rfl⟩) ?_ ?_
                  rotate_left
                  · simp only [Act.put, List.setIfInBounds_toArray, List.set_cons_zero, List.set_cons_succ, i64_w, i32_w]
                    rfl
                  refine pure_ (i := 18) (N := some 46) (v := undef) (a' := ?_) #[true, true, true, true, true, true, true, true, true, true, true, true, true, true, true, true, true, true, true, false, false, false, false, false, false] rfl rfl (by kernel_rfl) (fun _ _ _ h => h) (Or.inr ⟨by rfl, rfl⟩) ?_ ?_
                  rotate_left
                  · simp only [Act.put, List.setIfInBounds_toArray, List.set_cons_zero, List.set_cons_succ, i64_w, i32_w]
                    rfl
                  refine pure_ (i := 19) (N := some 47) (v := undef) (a' := ?_) #[true, true, true, true, true, true, true, true, true, true, true, true, true, true, true, true, true, true, true, true, false, false, false, false, false] rfl rfl (by kernel_rfl) (fun _ _ _ h => h) (Or.inr ⟨by rfl, rfl⟩) ?_ ?_
                  rotate_left
                  · simp only [Act.put, List.setIfInBounds_toArray, List.set_cons_zero, List.set_cons_succ, i64_w, i32_w]
                    rfl
                  refine pure_ (i := 20) (N := some 48) (v := undef) (a' := ?_) #[true, true, true, true, true, true, true, true, true, true, true, true, true, true, true, true, true, true, true, true, true, false, false, false, false] rfl rfl (by kernel_rfl) (fun _ _ _ h => h) (Or.inr ⟨by rfl, rfl⟩) ?_ ?_
                  rotate_left
                  · simp only [Act.put, List.setIfInBounds_toArray, List.set_cons_zero, List.set_cons_succ, i64_w, i32_w]
                    rfl
                  refine pure_ (i := 21) (N := some 49) (v := undef) (a' := ?_) #[true, true, true, true, true, true, true, true, true, true, true, true, true, true, true, true, true, true, true, true, true, true, false, false, false] rfl rfl (by kernel_rfl) (fun _ _ _ h => h) (Or.inr ⟨by rfl, rfl⟩) ?_ ?_
                  rotate_left
                  · simp only [Act.put, List.setIfInBounds_toArray, List.set_cons_zero, List.set_cons_succ, i64_w, i32_w]
                    rfl
                  refine pure_ (i := 22) (N := some 50) (v := undef) (a' := ?_) #[true, true, true, true, true, true, true, true, true, true, true, true, true, true, true, true, true, true, true, true, true, true, true, false, false] rfl rfl (by kernel_rfl) (fun _ _ _ h => h) (Or.inr ⟨by rfl, rfl⟩) ?_ ?_
                  rotate_left
                  · simp only [Act.put, List.setIfInBounds_toArray, List.set_cons_zero, List.set_cons_succ, i64_w, i32_w]
                    rfl
                  refine pure_ (i := 23) (N := some 51) (v := ?_) (a' := ?_) #[true, true, true, true, true, true, true, true, true, true, true, true, true, true, true, true, true, true, true, true, true, true, true, true, false] rfl rfl (by kernel_rfl) (fun _ _ _ h => h) (Or.inl ⟨by rfl, ?_⟩) ?_ ?_
                  rotate_left
                  · intro w'
                    go_simp
                    with_reducible rfl
                  rotate_left
                  · simp only [Act.put, List.setIfInBounds_toArray, List.set_cons_zero, List.set_cons_succ, i64_w, i32_w]
                    rfl
                  refine pure_ (i := 24) (N := some 2) (v := ?_) (a' := ?_) #[true, true, true, true, true, true, true, true, true, true, true, true, true, true, true, true, true, true, true, true, true, true, true, true, true] rfl rfl (by kernel_rfl) (fun _ _ _ h => h) (Or.inl ⟨by rfl, ?_⟩) ?_ ?_
                  rotate_left
                  · intro w'
                    go_simp
                    with_reducible rfl
                  rotate_left
                  · simp only [Act.put, List.setIfInBounds_toArray, List.set_cons_zero, List.set_cons_succ, i64_w, i32_w]
                    rfl
                  refine done_ (by kernel_rfl) ?_
                  replace HS : Aside0 (Sep (fps []) w [] w1955) := ⟨HS.out.sub (.cons _ .slnil)⟩
                  go_wp2_with fail
                  go_ret
                  rw [← some_eq H]
                  exact ⟨(by first | rfl | (simp [IntKind.wrap_u32]; done)), HS.out⟩
              · replace H := if_no c1959 H
                have c1959b0 : b1957 = false := by simpa using c1959
                have c1959b1 : (!b1957) = true := by rw [c1959b0]; rfl
                clear c1959
                try simp only [c1959b0, Bool.not_true, Bool.not_false]
                refine pure_ (i := 5) (N := some 33) (v := undef) (a' := ?_) #[true, true, true, true, true, true, false, false, false, false, false, false, false, false, false, false, false, false, false, false, false, false, false, false, false] rfl rfl (by kernel_rfl) (fun _ _ _ h => h) (Or.inr ⟨by rfl, rfl⟩) ?_ ?_
                rotate_left
                · simp only [Act.put, List.setIfInBounds_toArray, List.set_cons_zero, List.set_cons_succ, i64_w, i32_w]
                  rfl
                try simp only [c1959b0, Bool.not_true, Bool.not_false]
                refine pure_ (i := 6) (N := some 34) (v := undef) (a' := ?_) #[true, true, true, true, true, true, true, false, false, false, false, false, false, false, false, false, false, false, false, false, false, false, false, false, false] rfl rfl (by kernel_rfl) (fun _ _ _ h => h) (Or.inr ⟨by rfl, rfl⟩) ?_ ?_
                rotate_left
                · simp only [Act.put, List.setIfInBounds_toArray, List.set_cons_zero, List.set_cons_succ, i64_w, i32_w]
                  rfl
                try simp only [c1959b0, Bool.not_true, Bool.not_false]
                refine pure_ (i := 7) (N := some 35) (v := undef) (a' := ?_) #[true, true, true, true, true, true, true, true, false, false, false, false, false, false, false, false, false, false, false, false, false, false, false, false, false] rfl rfl (by kernel_rfl) (fun _ _ _ h => h) (Or.inr ⟨by rfl, rfl⟩) ?_ ?_
                rotate_left
                · simp only [Act.put, List.setIfInBounds_toArray, List.set_cons_zero, List.set_cons_succ, i64_w, i32_w]
                  rfl
                refine pure_ (i := 8) (N := some 36) (v := ?_) (a' := ?_) #[true, true, true, true, true, true, true, true, true, false, false, false, false, false, false, false, false, false, false, false, false, false, false, false, false] rfl rfl (by kernel_rfl) (fun _ _ _ h => h) (Or.inl ⟨by rfl, ?_⟩) ?_ ?_
                rotate_left
                · intro w'
                  go_simp
                  with_reducible rfl
                rotate_left
                · simp only [Act.put, List.setIfInBounds_toArray, List.set_cons_zero, List.set_cons_succ, i64_w, i32_w]
                  rfl
                refine pure_ (i := 9) (N := some 37) (v := ?_) (a' := ?_) #[true, true, true, true, true, true, true, true, true, true, false, false, false, false, false, false, false, false, false, false, false, false, false, false, false] rfl rfl (by kernel_rfl) (fun _ _ _ h => h) (Or.inl ⟨by rfl, ?_⟩) ?_ ?_
                rotate_left
                · intro w'
                  go_simp
                  with_reducible rfl
                rotate_left
                · simp only [Act.put, List.setIfInBounds_toArray, List.set_cons_zero, List.set_cons_succ, i64_w, i32_w]
                  rfl
                refine pure_ (i := 10) (N := some 38) (v := undef) (a' := ?_) #[true, true, true, true, true, true, true, true, true, true, true, false, false, false, false, false, false, false, false, false, false, false, false, false, false] rfl rfl (by kernel_rfl) (fun _ _ _ h => h) (Or.inr ⟨by rfl, rfl⟩) ?_ ?_
                rotate_left
                · simp only [Act.put, List.setIfInBounds_toArray, List.set_cons_zero, List.set_cons_succ, i64_w, i32_w]
                  rfl
                refine pure_ (i := 11) (N := some 39) (v := undef) (a' := ?_) #[true, true, true, true, true, true, true, true, true, true, true, true, false, false, false, false, false, false, false, false, false, false, false, false, false] rfl rfl (by kernel_rfl) (fun _ _ _ h => h) (Or.inr ⟨by rfl, rfl⟩) ?_ ?_
                rotate_left
                · simp only [Act.put, List.setIfInBounds_toArray, List.set_cons_zero, List.set_cons_succ, i64_w, i32_w]
                  rfl
                refine pure_ (i := 12) (N := some 40) (v := undef) (a' := ?_) #[true, true, true, true, true, true, true, true, true, true, true, true, true, false, false, false, false, false, false, false, false, false, false, false, false] rfl rfl (by kernel_rfl) (fun _ _ _ h => h) (Or.inr ⟨by rfl, rfl⟩) ?_ ?_
                rotate_left
                · simp only [Act.put, List.setIfInBounds_toArray, List.set_cons_zero, List.set_cons_succ, i64_w, i32_w]
                  rfl
                refine pure_ (i := 13) (N := some 41) (v := ?_) (a' := ?_) #[true, true, true, true, true, true, true, true, true, true, true, true, true, true, false, false, false, false, false, false, false, false, false, false, false] rfl rfl (by kernel_rfl) (fun _ _ _ h => h) (Or.inl ⟨by rfl, ?_⟩) ?_ ?_
                rotate_left
                · intro w'
                  go_simp
                  with_reducible rfl
                rotate_left
                · simp only [Act.put, List.setIfInBounds_toArray, List.set_cons_zero, List.set_cons_succ, i64_w, i32_w]
                  rfl
                refine pure_ (i := 14) (N := some 42) (v := ?_) (a' := ?_) #[true, true, true, true, true, true, true, true, true, true, true, true, true, true, true, false, false, false, false, false, false, false, false, false, false] rfl rfl (by kernel_rfl) (fun _ _ _ h => h) (Or.inl ⟨by rfl, ?_⟩) ?_ ?_
                rotate_left
                · intro w'
                  go_simp
                  with_reducible rfl
                rotate_left
                · simp only [Act.put, List.setIfInBounds_toArray, List.set_cons_zero, List.set_cons_succ, i64_w, i32_w]
                  rfl
                refine pure_ (i := 15) (N := some 43) (v := undef) (a' := ?_) #[true, true, true, true, true, true, true, true, true, true, true, true, true, true, true, true, false, false, false, false, false, false, false, false, false] rfl rfl (by kernel_rfl) (fun _ _ _ h => h) (Or.inr ⟨by rfl, rfl⟩) ?_ ?_
                rotate_left
                · simp only [Act.put, List.setIfInBounds_toArray, List.set_cons_zero, List.set_cons_succ, i64_w, i32_w]
                  rfl
                refine pure_ (i := 16) (N := some 44) (v := undef) (a' := ?_) #[true, true, true, true, true, true, true, true, true, true, true, true, true, true, true, true, true, false, false, false, false, false, false, false, false] rfl rfl (by kernel_rfl) (fun _ _ _ h => h) (Or.inr ⟨by rfl, rfl⟩) ?_ ?_
                rotate_left
                · simp only [Act.put, List.setIfInBounds_toArray, List.set_cons_zero, List.set_cons_succ, i64_w, i32_w]
                  rfl
                refine pure_ (i := 17) (N := some 45) (v := undef) (a' := ?_) #[true, true, true, true, true, true, true, true, true, true, true, true, true, true, true, true, true, true, false, false, false, false, false, false, false] rfl rfl (by kernel_rfl) (fun _ _ _ h => h) (Or.inr ⟨by rfl, rfl⟩) ?_ ?_
                rotate_left
                · simp only [Act.put, List.setIfInBounds_toArray, List.set_cons_zero, List.set_cons_succ, i64_w, i32_w]
                  rfl
                refine pure_ (i := 18) (N := some 46) (v := undef) (a' := ?_) #[true, true, true, true, true, true, true, true, true, true, true, true, true, true, true, true, true, true, true, false, false, false, false, false, false] rfl rfl (by kernel_rfl) (fun _ _ _ h => h) (Or.inr ⟨by rfl, rfl⟩) ?_ ?_
                rotate_left
                · simp only [Act.put, List.setIfInBounds_toArray, List.set_cons_zero, List.set_cons_succ, i64_w, i32_w]
                  rfl
                refine pure_ (i := 19) (N := some 47) (v := undef) (a' := ?_) #[true, true, true, true, true, true, true, true, true, true, true, true, true, true, true, true, true, true, true, true, false, false, false, false, false] rfl rfl (by kernel_rfl) (fun _ _ _ h => h) (Or.inr ⟨by rfl, rfl⟩) ?_ ?_
                rotate_left
                · simp only [Act.put, List.setIfInBounds_toArray, List.set_cons_zero, List.set_cons_succ, i64_w, i32_w]
                  rfl
                refine pure_ (i := 20) (N := some 48) (v := undef) (a' := ?_) #[true, true, true, true, true, true, true, true, true, true, true, true, true, true, true, true, true, true, true, true, true, false, false, false, false] rfl rfl (by kernel_rfl) (fun _ _ _ h => h) (Or.inr ⟨by rfl, rfl⟩) ?_ ?_
                rotate_left
                · simp only [Act.put, List.setIfInBounds_toArray, List.set_cons_zero, List.set_cons_succ, i64_w, i32_w]
                  rfl
                refine pure_ (i := 21) (N := some 49) (v := undef) (a' := ?_) #[true, true, true, true, true, true, true, true, true, true, true, true, true, true, true, true, true, true, true, true, true, true, false, false, false] rfl rfl (by kernel_rfl) (fun _ _ _ h => h) (Or.inr ⟨by rfl, rfl⟩) ?_ ?_
                rotate_left
                · simp only [Act.put, List.setIfInBounds_toArray, List.set_cons_zero, List.set_cons_succ, i64_w, i32_w]
                  rfl
                refine pure_ (i := 22) (N := some 50) (v := undef) (a' := ?_) #[true, true, true, true, true, true, true, true, true, true, true, true, true, true, true, true, true, true, true, true, true, true, true, false, false] rfl rfl (by kernel_rfl) (fun _ _ _ h => h) (Or.inr ⟨by rfl, rfl⟩) ?_ ?_
                rotate_left
                · simp only [Act.put, List.setIfInBounds_toArray, List.set_cons_zero, List.set_cons_succ, i64_w, i32_w]
                  rfl
                refine pure_ (i := 23) (N := some 51) (v := ?_) (a' := ?_) #[true, true, true, true, true, true, true, true, true, true, true, true, true, true, true, true, true, true, true, true, true, true, true, true, false] rfl rfl (by kernel_rfl) (fun _ _ _ h => h) (Or.inl ⟨by rfl, ?_⟩) ?_ ?_
                rotate_left
                · intro w'
                  go_simp
                  with_reducible rfl
                rotate_left
                · simp only [Act.put, List.setIfInBounds_toArray, List.set_cons_zero, List.set_cons_succ, i64_w, i32_w]
                  rfl
                refine pure_ (i := 24) (N := some 2) (v := ?_) (a' := ?_) #[true, true, true, true, true, true, true, true, true, true, true, true, true, true, true, true, true, true, true, true, true, true, true, true, true] rfl rfl (by kernel_rfl) (fun _ _ _ h => h) (Or.inl ⟨by rfl, ?_⟩) ?_ ?_
                rotate_left
                · intro w'
                  go_simp
                  with_reducible rfl
                rotate_left
                · simp only [Act.put, List.setIfInBounds_toArray, List.set_cons_zero, List.set_cons_succ, i64_w, i32_w]
                  rfl
                refine done_ (by kernel_rfl) ?_
                replace HS : Aside0 (Sep (fps []) w [] w1955) := ⟨HS.out.sub (.cons _ .slnil)⟩
                go_wp2_with fail
                go_ret
                rw [← some_eq H]
                exact ⟨(by first | rfl | (simp [IntKind.wrap_u32]; done)), HS.out⟩
            · replace H := if_no c1950 H
              have c1950b0 : (a1868 == 0) = false := beq_eq_false_iff_ne.mpr c1950
              have c1950b1 : (a1868 != 0) = true := bne_iff_ne.mpr c1950
              clear c1950
              by_cases c1963 : a1868 = 3
              · replace H := if_yes c1963 H
                have c1963b0 : (a1868 == 3) = true := beq_iff_eq.mpr c1963
                have c1963b1 : (a1868 != 3) = false := bne_eq_false_iff_eq.mpr c1963
                clear c1963
                have hc1945 : w1936.cell? ⟨g1875, 0, none⟩ = some (.int .i64 a1868) := blk_cellv (HS.out.at0) 0 rfl
                go_wp2_with fail
                clear hc1945
                refine start_ (n := 25) (S := (fun w' => w'.cell? ⟨g1875, 0, none⟩ = some (.int .i64 a1868) ∧ w'.cell? ⟨g1875, 1, none⟩ = some (.int .i64 a1869) ∧ w'.cell? ⟨g1875, 2, none⟩ = some (.int .i64 a1870) ∧ w'.cell? ⟨g1875, 3, none⟩ = some (.int .i64 a1871) ∧ w'.cell? ⟨g1875, 4, none⟩ = some (.int .i64 a1872) ∧ w'.cell? ⟨g1875, 5, none⟩ = some (.int .i64 a1873) ∧ w'.cell? ⟨g1875, 6, none⟩ = some (.int .i64 a1874) ∧ w'.cell? ⟨0, 0, none⟩ = some (.int .i64 0) ∧ w'.cell? ⟨0, 1, none⟩ = some (.int .i64 0) ∧ w'.cell? ⟨0, 2, none⟩ = some (.int .i64 0) ∧ w'.cell? ⟨0, 3, none⟩ = some (.int .i64 0) ∧ w'.cell? ⟨0, 4, none⟩ = some (.int .i64 0))) (ds := []) #[false, false, false, false, false, false, false, false, false, false, false, false, false, false, false, false, false, false, false, false, false, false, false, false, false] (by kernel_rfl) rfl rfl (⟨blk_cellv ((HS.out.drew).at0) 0 rfl, blk_cellv ((HS.out.drew).at0) 1 rfl, blk_cellv ((HS.out.drew).at0) 2 rfl, blk_cellv ((HS.out.drew).at0) 3 rfl, blk_cellv ((HS.out.drew).at0) 4 rfl, blk_cellv ((HS.out.drew).at0) 5 rfl, blk_cellv ((HS.out.drew).at0) 6 rfl, Gl.cell HGl0.out (HS.out.drew).fr 0 rfl, Gl.cell HGl0.out (HS.out.drew).fr 1 rfl, Gl.cell HGl0.out (HS.out.drew).fr 2 rfl, Gl.cell HGl0.out (HS.out.drew).fr 3 rfl, Gl.cell HGl0.out (HS.out.drew).fr 4 rfl⟩) (fun hHeld => ?_)
                have HS_ := Aside0.mk HS.out.drew
                clear HS
                generalize World.drew _ = w1965 at HS_ hHeld ⊢
                have HS := HS_
                clear HS_
                refine take_ (i := 0) (N := some 28) (v := ?_) (a' := ?_) #[true, false, false, false, false, false, false, false, false, false, false, false, false, false, false, false, false, false, false, false, false, false, false, false, false] rfl rfl (by kernel_rfl) (fun _ _ _ h => h) (Or.inl ⟨by rfl, ?_⟩) hHeld ?_ ?_
                rotate_left
                · rintro w' hS'
                  obtain ⟨s0, s1, s2, s3, s4, s5, s6, s7, s8, s9, s10, s11⟩ := hS'
                  go_simp
                  with_reducible rfl
                rotate_left
                · simp only [Act.put, List.setIfInBounds_toArray, List.set_cons_zero, List.set_cons_succ, i64_w, i32_w]
                  rfl
                refine take_ (i := 2) (N := some 30) (v := ?_) (a' := ?_) #[true, false, true, false, false, false, false, false, false, false, false, false, false, false, false, false, false, false, false, false, false, false, false, false, false] rfl rfl (by kernel_rfl) (fun _ _ _ h => h) (Or.inl ⟨by rfl, ?_⟩) hHeld ?_ ?_
                rotate_left
                · rintro w' hS'
                  obtain ⟨s0, s1, s2, s3, s4, s5, s6, s7, s8, s9, s10, s11⟩ := hS'
                  go_simp
                  with_reducible rfl
                rotate_left
                · simp only [Act.put, List.setIfInBounds_toArray, List.set_cons_zero, List.set_cons_succ, i64_w, i32_w]
                  rfl
                refine one_ (i := 1) (N := some 29) #[true, true, true, false, false, false, false, false, false, false, false, false, false, false, false, false, false, false, false, false, false, false, false, false, false] rfl rfl (by kernel_rfl) (by decide) (fun K hK => ?_)
                obtain ⟨t1953, HA1966, H⟩ := bind_some H
                refine goes_ Tryd.func68 (by kernel_rfl) rfl #[.agg #[.int .i64 a1868, .int .i64 a1869, .int .i64 a1870, .int .i64 a1871, .int .i64 a1872, .int .i64 a1873, .int .i64 a1874]] (by rfl) rfl rfl (by (try simp only [List.map_toArray, List.map_cons, List.map_nil]); first | done | rfl) ?_
                refine (tag_marks.calls a1868 a1869 a1870 a1871 a1872 a1873 a1874 t1953 _ ⟨HGl0.out.pass (l := []) HS.out⟩ ⟨Sep.start _⟩ HA1966).mono ?_
                rintro e_ w1967 ⟨rfl, hS⟩
                replace HS : Aside0 (Sep (fps []) w [b9 g1875 a1868 a1869 a1870 a1871 a1872 a1873 a1874] w1967) := ⟨HS.out.call hS⟩
                clear hS
                refine ⟨_, rfl, ?_⟩
                refine hK.out _ _ (⟨blk_cellv (HS.out.at0) 0 rfl, blk_cellv (HS.out.at0) 1 rfl, blk_cellv (HS.out.at0) 2 rfl, blk_cellv (HS.out.at0) 3 rfl, blk_cellv (HS.out.at0) 4 rfl, blk_cellv (HS.out.at0) 5 rfl, blk_cellv (HS.out.at0) 6 rfl, Gl.cell HGl0.out HS.out.fr 0 rfl, Gl.cell HGl0.out HS.out.fr 1 rfl, Gl.cell HGl0.out HS.out.fr 2 rfl, Gl.cell HGl0.out HS.out.fr 3 rfl, Gl.cell HGl0.out HS.out.fr 4 rfl⟩) (fun hHeld => ?_)
                clear hK K
                refine norm_ (a' := ?_) ?_ ?_
                rotate_left
                · show Act.put _ (some 29) _ = _
                  simp only [Act.put, List.setIfInBounds_toArray, List.set_cons_zero, List.set_cons_succ, i64_w, i32_w]
                  rfl
                obtain ⟨b1957, HA1969, H⟩ := bind_some H
                have eb1968 : ∀ w, (Op.equalIn 10000 108 (.agg #[.int .i64 t1953.1, .int .i64 t1953.2.1, .int .i64 t1953.2.2.1, .int .i64 t1953.2.2.2.1, .int .i64 t1953.2.2.2.2]) (.agg #[.int .i64 0, .int .i64 0, .int .i64 0, .int .i64 0, .int .i64 0])).run Tryd.prog w = .ok b1957 w := some_eq HA1969 ▸ run_eq_ints 9998 108 3 5 .i64 [t1953.1, t1953.2.1, t1953.2.2.1, t1953.2.2.2.1, t1953.2.2.2.2] [0, 0, 0, 0, 0] Tryd.underlying108 (by kernel_rfl) (by kernel_rfl) Tryd.underlying3 (fun _ => by kernel_rfl) rfl rfl
                refine pure_ (i := 3) (N := some 31) (v := ?_) (a' := ?_) #[true, true, true, true, false, false, false, false, false, false, false, false, false, false, false, false, false, false, false, false, false, false, false, false, false] rfl rfl (by kernel_rfl) (fun _ _ _ h => h) (Or.inl ⟨by rfl, ?_⟩) ?_ ?_
                rotate_left
                · intro w'
                  go_simp
                  with_reducible rfl
                rotate_left
                · simp only [Act.put, List.setIfInBounds_toArray, List.set_cons_zero, List.set_cons_succ, i64_w, i32_w]
                  rfl
                refine pure_ (i := 4) (N := some 32) (v := ?_) (a' := ?_) #[true, true, true, true, true, false, false, false, false, false, false, false, false, false, false, false, false, false, false, false, false, false, false, false, false] rfl rfl (by kernel_rfl) (fun _ _ _ h => h) (Or.inl ⟨by rfl, ?_⟩) ?_ ?_
                rotate_left
                · intro w'
                  go_simp
                  with_reducible rfl
                rotate_left
                · simp only [Act.put, List.setIfInBounds_toArray, List.set_cons_zero, List.set_cons_succ, i64_w, i32_w]
                  rfl
                by_cases c1970 : b1957 = true
                · replace H := if_yes c1970 H
                  have c1970b0 : b1957 = true := c1970
                  have c1970b1 : (!b1957) = false := by rw [c1970b0]; rfl
                  clear c1970
                  try simp only [c1970b0, Bool.not_true, Bool.not_false]
                  refine pure_ (i := 5) (N := some 33) (v := ?_) (a' := ?_) #[true, true, true, true, true, true, false, false, false, false, false, false, false, false, false, false, false, false, false, false, false, false, false, false, false] rfl rfl (by kernel_rfl) (fun _ _ _ h => h) (Or.inl ⟨by rfl, ?_⟩) ?_ ?_
                  rotate_left
                  · intro w'
                    go_simp
                    with_reducible rfl
                  rotate_left
                  · simp only [Act.put, List.setIfInBounds_toArray, List.set_cons_zero, List.set_cons_succ, i64_w, i32_w]
                    rfl
                  try simp only [c1970b0, Bool.not_true, Bool.not_false]
                  refine take_ (i := 6) (N := some 34) (v := ?_) (a' := ?_) #[true, true, true, true, true, true, true, false, false, false, false, false, false, false, false, false, false, false, false, false, false, false, false, false, false] rfl rfl (by kernel_rfl) (fun _ _ _ h => h) (Or.inl ⟨by rfl, ?_⟩) hHeld ?_ ?_
                  rotate_left
                  · rintro w' hS'
                    obtain ⟨s0, s1, s2, s3, s4, s5, s6, s7, s8, s9, s10, s11⟩ := hS'
                    go_simp
                    with_reducible rfl
                  rotate_left
                  · simp only [Act.put, List.setIfInBounds_toArray, List.set_cons_zero, List.set_cons_succ, i64_w, i32_w]
                    rfl
                  try simp only [c1970b0, Bool.not_true, Bool.not_false]
                  refine pure_ (i := 7) (N := some 35) (v := ?_) (a' := ?_) #[true, true, true, true, true, true, true, true, false, false, false, false, false, false, false, false, false, false, false, false, false, false, false, false, false] rfl rfl (by kernel_rfl) (fun _ _ _ h => h) (Or.inl ⟨by rfl, ?_⟩) ?_ ?_
                  rotate_left
                  · intro w'
                    go_simp
                    with_reducible rfl
                  rotate_left
                  · simp only [Act.put, List.setIfInBounds_toArray, List.set_cons_zero, List.set_cons_succ, i64_w, i32_w]
                    rfl
                  refine pure_ (i := 8) (N := some 36) (v := ?_) (a' := ?_) #[true, true, true, true, true, true, true, true, true, false, false, false, false, false, false, false, false, false, false, false, false, false, false, false, false] rfl rfl (by kernel_rfl) (fun _ _ _ h => h) (Or.inl ⟨by rfl, ?_⟩) ?_ ?_
                  rotate_left
                  · intro w'
                    go_simp
                    with_reducible rfl
                  rotate_left
                  · simp only [Act.put, List.setIfInBounds_toArray, List.set_cons_zero, List.set_cons_succ, i64_w, i32_w]
                    rfl
                  refine pure_ (i := 9) (N := some 37) (v := ?_) (a' := ?_) #[true, true, true, true, true, true, true, true, true, true, false, false, false, false, false, false, false, false, false, false, false, false, false, false, false] rfl rfl (by kernel_rfl) (fun _ _ _ h => h) (Or.inl ⟨by rfl, ?_⟩) ?_ ?_
                  rotate_left
                  · intro w'
                    go_simp
                    with_reducible rfl
                  rotate_left
                  · simp only [Act.put, List.setIfInBounds_toArray, List.set_cons_zero, List.set_cons_succ, i64_w, i32_w]
                    rfl
                  by_cases c1971 : a1874 ≥ 0
                  · replace H := if_yes c1971 H
                    have c1971b0 : decide (0 ≤ a1874) = true := decide_eq_true c1971
                    clear c1971
                    try simp only [c1971b0, Bool.not_true, Bool.not_false]
                    refine pure_ (i := 10) (N := some 38) (v := ?_) (a' := ?_) #[true, true, true, true, true, true, true, true, true, true, true, false, false, false, false, false, false, false, false, false, false, false, false, false, false] rfl rfl (by kernel_rfl) (fun _ _ _ h => h) (Or.inl ⟨by rfl, ?_⟩) ?_ ?_
                    rotate_left
                    · intro w'
                      go_simp
                      with_reducible rfl
                    rotate_left
                    · simp only [Act.put, List.setIfInBounds_toArray, List.set_cons_zero, List.set_cons_succ, i64_w, i32_w]
                      rfl
                    try simp only [c1971b0, Bool.not_true, Bool.not_false]
                    refine take_ (i := 11) (N := some 39) (v := ?_) (a' := ?_) #[true, true, true, true, true, true, true, true, true, true, true, true, false, false, false, false, false, false, false, false, false, false, false, false, false] rfl rfl (by kernel_rfl) (fun _ _ _ h => h) (Or.inl ⟨by rfl, ?_⟩) hHeld ?_ ?_
                    rotate_left
                    · rintro w' hS'
                      obtain ⟨s0, s1, s2, s3, s4, s5, s6, s7, s8, s9, s10, s11⟩ := hS'
                      go_simp
                      with_reducible rfl
                    rotate_left
                    · simp only [Act.put, List.setIfInBounds_toArray, List.set_cons_zero, List.set_cons_succ, i64_w, i32_w]
                      rfl
                    try simp only [c1971b0, Bool.not_true, Bool.not_false]
                    refine pure_ (i := 12) (N := some 40) (v := ?_) (a' := ?_) #[true, true, true, true, true, true, true, true, true, true, true, true, true, false, false, false, false, false, false, false, false, false, false, false, false] rfl rfl (by kernel_rfl) (fun _ _ _ h => h) (Or.inl ⟨by rfl, ?_⟩) ?_ ?_
                    rotate_left
                    · intro w'
                      go_simp
                      with_reducible rfl
                    rotate_left
                    · simp only [Act.put, List.setIfInBounds_toArray, List.set_cons_zero, List.set_cons_succ, i64_w, i32_w]
                      rfl
                    refine pure_ (i := 13) (N := some 41) (v := ?_) (a' := ?_) #[true, true, true, true, true, true, true, true, true, true, true, true, true, true, false, false, false, false, false, false, false, false, false, false, false] rfl rfl (by kernel_rfl) (fun _ _ _ h => h) (Or.inl ⟨by rfl, ?_⟩) ?_ ?_
                    rotate_left
                    · intro w'
                      go_simp
                      with_reducible rfl
                    rotate_left
                    · simp only [Act.put, List.setIfInBounds_toArray, List.set_cons_zero, List.set_cons_succ, i64_w, i32_w]
                      rfl
                    refine pure_ (i := 14) (N := some 42) (v := ?_) (a' := ?_) #[true, true, true, true, true, true, true, true, true, true, true, true, true, true, true, false, false, false, false, false, false, false, false, false, false] rfl rfl (by kernel_rfl) (fun _ _ _ h => h) (Or.inl ⟨by rfl, ?_⟩) ?_ ?_
                    rotate_left
                    · intro w'
                      go_simp
                      with_reducible rfl
                    rotate_left
                    · simp only [Act.put, List.setIfInBounds_toArray, List.set_cons_zero, List.set_cons_succ, i64_w, i32_w]
                      rfl
                    by_cases c1972 : a1874 < 1048576
                    · replace H := if_yes c1972 H
                      have c1972b0 : decide (a1874 < 1048576) = true := decide_eq_true c1972
                      clear c1972
                      try simp only [c1972b0, Bool.not_true, Bool.not_false]
                      refine pure_ (i := 15) (N := some 43) (v := ?_) (a' := ?_) #[true, true, true, true, true, true, true, true, true, true, true, true, true, true, true, true, false, false, false, false, false, false, false, false, false] rfl rfl (by kernel_rfl) (fun _ _ _ h => h) (Or.inl ⟨by rfl, ?_⟩) ?_ ?_
                      rotate_left
                      · intro w'
                        go_simp
                        with_reducible rfl
                      rotate_left
                      · simp only [Act.put, List.setIfInBounds_toArray, List.set_cons_zero, List.set_cons_succ, i64_w, i32_w]
                        rfl
                      try simp only [c1972b0, Bool.not_true, Bool.not_false]
                      refine take_ (i := 16) (N := some 44) (v := ?_) (a' := ?_) #[true, true, true, true, true, true, true, true, true, true, true, true, true, true, true, true, true, false, false, false, false, false, false, false, false] rfl rfl (by kernel_rfl) (fun _ _ _ h => h) (Or.inl ⟨by rfl, ?_⟩) hHeld ?_ ?_
                      rotate_left
                      · rintro w' hS'
                        obtain ⟨s0, s1, s2, s3, s4, s5, s6, s7, s8, s9, s10, s11⟩ := hS'
                        go_simp
                        with_reducible rfl
                      rotate_left
                      · simp only [Act.put, List.setIfInBounds_toArray, List.set_cons_zero, List.set_cons_succ, i64_w, i32_w]
                        rfl
                      try simp only [c1972b0, Bool.not_true, Bool.not_false]
                      refine pure_ (i := 17) (N := some 45) (v := ?_) (a' := ?_) #[true, true, true, true, true, true, true, true, true, true, true, true, true, true, true, true, true, true, false, false, false, false, false, false, false] rfl rfl (by kernel_rfl) (fun _ _ _ h => h) (Or.inl ⟨by rfl, ?_⟩) ?_ ?_
                      rotate_left
                      · intro w'
                        go_simp
                        with_reducible rfl
                      rotate_left
                      · simp only [Act.put, List.setIfInBounds_toArray, List.set_cons_zero, List.set_cons_succ, i64_w, i32_w]
                        rfl
                      try simp only [c1972b0, Bool.not_true, Bool.not_false]
                      refine pure_ (i := 18) (N := some 46) (v := ?_) (a' := ?_) #[true, true, true, true, true, true, true, true, true, true, true, true, true, true, true, true, true, true, true, false, false, false, false, false, false] rfl rfl (by kernel_rfl) (fun _ _ _ h => h) (Or.inl ⟨by rfl, ?_⟩) ?_ ?_
                      rotate_left
                      · intro w'
                        go_simp
                        with_reducible rfl
                      rotate_left
                      · simp only [Act.put, List.setIfInBounds_toArray, List.set_cons_zero, List.set_cons_succ, i64_w, i32_w]
                        rfl
                      try simp only [c1963b0, c1963b1, Bool.not_true, Bool.not_false]
                      refine pure_ (i := 19) (N := some 47) (v := undef) (a' := ?_) #[true, true, true, true, true, true, true, true, true, true, true, true, true, true, true, true, true, true, true, true, false, false, false, false, false] rfl rfl (by kernel_rfl) (fun _ _ _ h => h) (Or.inr ⟨by rfl, rfl⟩) ?_ ?_
                      rotate_left
                      · simp only [Act.put, List.setIfInBounds_toArray, List.set_cons_zero, List.set_cons_succ, i64_w, i32_w]
                        rfl
                      try simp only [c1963b0, c1963b1, Bool.not_true, Bool.not_false]
                      refine pure_ (i := 20) (N := some 48) (v := undef) (a' := ?_) #[true, true, true, true, true, true, true, true, true, true, true, true, true, true, true, true, true, true, true, true, true, false, false, false, false] rfl rfl (by kernel_rfl) (fun _ _ _ h => h) (Or.inr ⟨by rfl, rfl⟩) ?_ ?_
                      rotate_left
                      · simp only [Act.put, List.setIfInBounds_toArray, List.set_cons_zero, List.set_cons_succ, i64_w, i32_w]
                        rfl
                      try simp only [c1963b0, c1963b1, Bool.not_true, Bool.not_false]
                      refine pure_ (i := 21) (N := some 49) (v := undef) (a' := ?_) #[true, true, true, true, true, true, true, true, true, true, true, true, true, true, true, true, true, true, true, true, true, true, false, false, false] rfl rfl (by kernel_rfl) (fun _ _ _ h => h) (Or.inr ⟨by rfl, rfl⟩) ?_ ?_
                      rotate_left
                      · simp only [Act.put, List.setIfInBounds_toArray, List.set_cons_zero, List.set_cons_succ, i64_w, i32_w]
                        rfl
                      try simp only [c1972b0, Bool.not_true, Bool.not_false]
                      refine pure_ (i := 22) (N := some 50) (v := ?_) (a' := ?_) #[true, true, true, true, true, true, true, true, true, true, true, true, true, true, true, true, true, true, true, true, true, true, true, false, false] rfl rfl (by kernel_rfl) (fun _ _ _ h => h) (Or.inl ⟨by rfl, ?_⟩) ?_ ?_
                      rotate_left
                      · intro w'
                        go_simp
                        with_reducible rfl
                      rotate_left
                      · simp only [Act.put, List.setIfInBounds_toArray, List.set_cons_zero, List.set_cons_succ, i64_w, i32_w]
                        rfl
                      refine pure_ (i := 23) (N := some 51) (v := ?_) (a' := ?_) #[true, true, true, true, true, true, true, true, true, true, true, true, true, true, true, true, true, true, true, true, true, true, true, true, false] rfl rfl (by kernel_rfl) (fun _ _ _ h => h) (Or.inl ⟨by rfl, ?_⟩) ?_ ?_
                      rotate_left
                      · intro w'
                        go_simp
                        with_reducible rfl
                      rotate_left
                      · simp only [Act.put, List.setIfInBounds_toArray, List.set_cons_zero, List.set_cons_succ, i64_w, i32_w]
                        rfl
                      refine pure_ (i := 24) (N := some 2) (v := ?_) (a' := ?_) #[true, true, true, true, true, true, true, true, true, true, true, true, true, true, true, true, true, true, true, true, true, true, true, true, true] rfl rfl (by kernel_rfl) (fun _ _ _ h => h) (Or.inl ⟨by rfl, ?_⟩) ?_ ?_
                      rotate_left
                      · intro w'
                        go_simp
                        with_reducible rfl
                      rotate_left
                      · simp only [Act.put, List.setIfInBounds_toArray, List.set_cons_zero, List.set_cons_succ, i64_w, i32_w]
                        rfl
                      refine done_ (by kernel_rfl) ?_
                      replace HS : Aside0 (Sep (fps []) w [] w1967) := ⟨HS.out.sub (.cons _ .slnil)⟩
                      go_wp2_with fail
                      go_ret
                      rw [← some_eq H]
                      exact ⟨(by first | rfl | (simp [IntKind.wrap_u32]; done)), HS.out⟩
                    · replace H := if_no c1972 H
                      have c1972b0 : decide (a1874 < 1048576) = false := decide_eq_false c1972
                      clear c1972
                      try simp only [c1972b0, Bool.not_true, Bool.not_false]
                      refine pure_ (i := 15) (N := some 43) (v := undef) (a' := ?_) #[true, true, true, true, true, true, true, true, true, true, true, true, true, true, true, true, false, false, false, false, false, false, false, false, false] rfl rfl (by kernel_rfl) (fun _ _ _ h => h) (Or.inr ⟨by rfl, rfl⟩) ?_ ?_
                      rotate_left
                      · simp only [Act.put, List.setIfInBounds_toArray, List.set_cons_zero, List.set_cons_succ, i64_w, i32_w]
                        rfl
                      try simp only [c1972b0, Bool.not_true, Bool.not_false]
                      refine pure_ (i := 16) (N := some 44) (v := undef) (a' := ?_) #[true, true, true, true, true, true, true, true, true, true, true, true, true, true, true, true, true, false, false, false, false, false, false, false, false] rfl rfl (by kernel_rfl) (fun _ _ _ h => h) (Or.inr ⟨by rfl, rfl⟩) ?_ ?_
                      rotate_left
                      · simp only [Act.put, List.setIfInBounds_toArray, List.set_cons_zero, List.set_cons_succ, i64_w, i32_w]
                        rfl
                      try simp only [c1972b0, Bool.not_true, Bool.not_false]
                      refine pure_ (i := 17) (N := some 45) (v := undef) (a' := ?_) #[true, true, true, true, true, true, true, true, true, true, true, true, true, true, true, true, true, true, false, false, false, false, false, false, false] rfl rfl (by kernel_rfl) (fun _ _ _ h => h) (Or.inr ⟨by rfl, rfl⟩) ?_ ?_
                      rotate_left
                      · simp only [Act.put, List.setIfInBounds_toArray, List.set_cons_zero, List.set_cons_succ, i64_w, i32_w]
                        rfl
                      try simp only [c1972b0, Bool.not_true, Bool.not_false]
                      refine pure_ (i := 18) (N := some 46) (v := undef) (a' := ?_) #[true, true, true, true, true, true, true, true, true, true, true, true, true, true, true, true, true, true, true, false, false, false, false, false, false] rfl rfl (by kernel_rfl) (fun _ _ _ h => h) (Or.inr ⟨by rfl, rfl⟩) ?_ ?_
                      rotate_left
                      · simp only [Act.put, List.setIfInBounds_toArray, List.set_cons_zero, List.set_cons_succ, i64_w, i32_w]
                        rfl
                      refine pure_ (i := 19) (N := some 47) (v := undef) (a' := ?_) #[true, true, true, true, true, true, true, true, true, true, true, true, true, true, true, true, true, true, true, true, false, false, false, false, false] rfl rfl (by kernel_rfl) (fun _ _ _ h => h) (Or.inr ⟨by rfl, rfl⟩) ?_ ?_
                      rotate_left
                      · simp only [Act.put, List.setIfInBounds_toArray, List.set_cons_zero, List.set_cons_succ, i64_w, i32_w]
                        rfl
                      refine pure_ (i := 20) (N := some 48) (v := undef) (a' := ?_) #[true, true, true, true, true, true, true, true, true, true, true, true, true, true, true, true, true, true, true, true, true, false, false, false, false] rfl rfl (by kernel_rfl) (fun _ _ _ h => h) (Or.inr ⟨by rfl, rfl⟩) ?_ ?_
                      rotate_left
                      · simp only [Act.put, List.setIfInBounds_toArray, List.set_cons_zero, List.set_cons_succ, i64_w, i32_w]
                        rfl
                      refine pure_ (i := 21) (N := some 49) (v := undef) (a' := ?_) #[true, true, true, true, true, true, true, true, true, true, true, true, true, true, true, true, true, true, true, true, true, true, false, false, false] rfl rfl (by kernel_rfl) (fun _ _ _ h => h) (Or.inr ⟨by rfl, rfl⟩) ?_ ?_
                      rotate_left
                      · simp only [Act.put, List.setIfInBounds_toArray, List.set_cons_zero, List.set_cons_succ, i64_w, i32_w]
                        rfl
                      try simp only [c1972b0, Bool.not_true, Bool.not_false]
                      refine pure_ (i := 22) (N := some 50) (v := undef) (a' := ?_) #[true, true, true, true, true, true, true, true, true, true, true, true, true, true, true, true, true, true, true, true, true, true, true, false, false] rfl rfl (by kernel_rfl) (fun _ _ _ h => h) (Or.inr ⟨by rfl, rfl⟩) ?_ ?_
                      rotate_left
                      · simp only [Act.put, List.setIfInBounds_toArray, List.set_cons_zero, List.set_cons_succ, i64_w, i32_w]
                        rfl
                      refine pure_ (i := 23) (N := some 51) (v := ?_) (a' := ?_) #[true, true, true, true, true, true, true, true, true, true, true, true, true, true, true, true, true, true, true, true, true, true, true, true, false] rfl rfl (by kernel_rfl) (fun _ _ _ h => h) (Or.inl ⟨by rfl, ?_⟩) ?_ ?_
                      rotate_left
                      · intro w'
                        go_simp
                        with_reducible rfl
                      rotate_left
                      · simp only [Act.put, List.setIfInBounds_toArray, List.set_cons_zero, List.set_cons_succ, i64_w, i32_w]
                        rfl
                      refine pure_ (i := 24) (N := some 2) (v := ?_) (a' := ?_) #[true, true, true, true, true, true, true, true, true, true, true, true, true, true, true, true, true, true, true, true, true, true, true, true, true] rfl rfl (by kernel_rfl) (fun _ _ _ h => h) (Or.inl ⟨by rfl, ?_⟩) ?_ ?_
                      rotate_left
                      · intro w'
                        go_simp
                        with_reducible rfl
                      rotate_left
                      · simp only [Act.put, List.setIfInBounds_toArray, List.set_cons_zero, List.set_cons_succ, i64_w, i32_w]
                        rfl
                      refine done_ (by kernel_rfl) ?_
                      replace HS : Aside0 (Sep (fps []) w [] w1967) := ⟨HS.out.sub (.cons _ .slnil)⟩
                      go_wp2_with fail
                      go_ret
                      rw [← some_eq H]
                      exact ⟨(by first | rfl | (simp [IntKind.wrap_u32]; done)), HS.out⟩
                  · replace H := if_no c1971 H
                    have c1971b0 : decide (0 ≤ a1874) = false := decide_eq_false c1971
                    clear c1971
                    try simp only [c1971b0, Bool.not_true, Bool.not_false]
                    refine pure_ (i := 10) (N := some 38) (v := undef) (a' := ?_) #[true, true, true, true, true, true, true, true, true, true, true, false, false, false, false, false, false, false, false, false, false, false, false, false, false] rfl rfl (by kernel_rfl) (fun _ _ _ h => h) (Or.inr ⟨by rfl, rfl⟩) ?_ ?_
                    rotate_left
                    · simp only [Act.put, List.setIfInBounds_toArray, List.set_cons_zero, List.set_cons_succ, i64_w, i32_w]
                      rfl
                    try simp only [c1971b0, Bool.not_true, Bool.not_false]
                    refine pure_ (i := 11) (N := some 39) (v := undef) (a' := ?_) #[true, true, true, true, true, true, true, true, true, true, true, true, false, false, false, false, false, false, false, false, false, false, false, false, false] rfl rfl (by kernel_rfl) (fun _ _ _ h => h) (Or.inr ⟨by rfl, rfl⟩) ?_ ?_
                    rotate_left
                    · simp only [Act.put, List.setIfInBounds_toArray, List.set_cons_zero, List.set_cons_succ, i64_w, i32_w]
                      rfl
                    try simp only [c1971b0, Bool.not_true, Bool.not_false]
                    refine pure_ (i := 12) (N := some 40) (v := undef) (a' := ?_) #[true, true, true, true, true, true, true, true, true, true, true, true, true, false, false, false, false, false, false, false, false, false, false, false, false] rfl rfl (by kernel_rfl) (fun _ _ _ h => h) (Or.inr ⟨by rfl, rfl⟩) ?_ ?_
                    rotate_left
                    · simp only [Act.put, List.setIfInBounds_toArray, List.set_cons_zero, List.set_cons_succ, i64_w, i32_w]
                      rfl
                    refine pure_ (i := 13) (N := some 41) (v := ?_) (a' := ?_) #[true, true, true, true, true, true, true, true, true, true, true, true, true, true, false, false, false, false, false, false, false, false, false, false, false] rfl rfl (by kernel_rfl) (fun _ _ _ h => h) (Or.inl ⟨by rfl, ?_⟩) ?_ ?_
                    rotate_left
                    · intro w'
                      go_simp
                      with_reducible rfl
                    rotate_left
                    · simp only [Act.put, List.setIfInBounds_toArray, List.set_cons_zero, List.set_cons_succ, i64_w, i32_w]
                      rfl
                    refine pure_ (i := 14) (N := some 42) (v := ?_) (a' := ?_) #[true, true, true, true, true, true, true, true, true, true, true, true, true, true, true, false, false, false, false, false, false, false, false, false, false] rfl rfl (by kernel_rfl) (fun _ _ _ h => h) (Or.inl ⟨by rfl, ?_⟩) ?_ ?_
                    rotate_left
                    · intro w'
                      go_simp
                      with_reducible rfl
                    rotate_left
                    · simp only [Act.put, List.setIfInBounds_toArray, List.set_cons_zero, List.set_cons_succ, i64_w, i32_w]
                      rfl
                    refine pure_ (i := 15) (N := some 43) (v := undef) (a' := ?_) #[true, true, true, true, true, true, true, true, true, true, true, true, true, true, true, true, false, false, false, false, false, false, false, false, false] rfl rfl (by kernel_rfl) (fun _ _ _ h => h) (Or.inr ⟨by rfl, rfl⟩) ?_ ?_
                    rotate_left
                    · simp only [Act.put, List.setIfInBounds_toArray, List.set_cons_zero, List.set_cons_succ, i64_w, i32_w]
                      rfl
                    refine pure_ (i := 16) (N := some 44) (v := undef) (a' := ?_) #[true, true, true, true, true, true, true, true, true, true, true, true, true, true, true, true, true, false, false, false, false, false, false, false, false] rfl rfl (by kernel_rfl) (fun _ _ _ h => h) (Or.inr ⟨by rfl, rfl⟩) ?_ ?_
                    rotate_left
                    · simp only [Act.put, List.setIfInBounds_toArray, List.set_cons_zero, List.set_cons_succ, i64_w, i32_w]
                      rfl
                    refine pure_ (i := 17) (N := some 45) (v := undef) (a' := ?_) #[true, true, true, true, true, true, true, true, true, true, true, true, true, true, true, true, true, true, false, false, false, false, false, false, false] rfl rfl (by kernel_rfl) (fun _ _ _ h => h) (Or.inr ⟨by rfl, rfl⟩) ?_ ?_
                    rotate_left
                    · simp only [Act.put, List.setIfInBounds_toArray, List.set_cons_zero, List.set_cons_succ, i64_w, i32_w]
                      rfl
                    refine pure_ (i := 18) (N := some 46) (v := undef) (a' := ?_) #[true, true, true, true, true, true, true, true, true, true, true, true, true, true, true, true, true, true, true, false, false, false, false, false, false] rfl rfl (by kernel_rfl) (fun _ _ _ h => h) (Or.inr ⟨by rfl, rfl⟩) ?_ ?_
                    rotate_left
                    · simp only [Act.put, List.setIfInBounds_toArray, List.set_cons_zero, List.set_cons_succ, i64_w, i32_w]
                      rfl
                    refine pure_ (i := 19) (N := some 47) (v := undef) (a' := ?_) #[true, true, true, true, true, true, true, true, true, true, true, true, true, true, true, true, true, true, true, true, false, false, false, false, false] rfl rfl (by kernel_rfl) (fun _ _ _ h => h) (Or.inr ⟨by rfl, rfl⟩) ?_ ?_
                    rotate_left
                    · simp only [Act.put, List.setIfInBounds_toArray, List.set_cons_zero, List.set_cons_succ, i64_w, i32_w]
                      rfl
                    refine pure_ (i := 20) (N := some 48) (v := undef) (a' := ?_) #[true, true, true, true, true, true, true, true, true, true, true, true, true, true, true, true, true, true, true, true, true, false, false, false, false] rfl rfl (by kernel_rfl) (fun _ _ _ h => h) (Or.inr ⟨by rfl, rfl⟩) ?_ ?_
                    rotate_left
                    · simp only [Act.put, List.setIfInBounds_toArray, List.set_cons_zero, List.set_cons_succ, i64_w, i32_w]
                      rfl
                    refine pure_ (i := 21) (N := some 49) (v := undef) (a' := ?_) #[true, true, true, true, true, true, true, true, true, true, true, true, true, true, true, true, true, true, true, true, true, true, false, false, false] rfl rfl (by kernel_rfl) (fun _ _ _ h => h) (Or.inr ⟨by rfl, rfl⟩) ?_ ?_
                    rotate_left
                    · simp only [Act.put, List.setIfInBounds_toArray, List.set_cons_zero, List.set_cons_succ, i64_w, i32_w]
                      rfl
                    refine pure_ (i := 22) (N := some 50) (v := undef) (a' := ?_) #[true, true, true, true, true, true, true, true, true, true, true, true, true, true, true, true, true, true, true, true, true, true, true, false, false] rfl rfl (by kernel_rfl) (fun _ _ _ h => h) (Or.inr ⟨by rfl, rfl⟩) ?_ ?_
                    rotate_left
                    · simp only [Act.put, List.setIfInBounds_toArray, List.set_cons_zero, List.set_cons_succ, i64_w, i32_w]
                      rfl
                    refine pure_ (i := 23) (N := some 51) (v := ?_) (a' := ?_) #[true, true, true, true, true, true, true, true, true, true, true, true, true, true, true, true, true, true, true, true, true, true, true, true, false] rfl rfl (by kernel_rfl) (fun _ _ _ h => h) (Or.inl ⟨by rfl, ?_⟩) ?_ ?_
                    rotate_left
                    · intro w'
                      go_simp
                      with_reducible rfl
                    rotate_left
                    · simp only [Act.put, List.setIfInBounds_toArray, List.set_cons_zero, List.set_cons_succ, i64_w, i32_w]
                      rfl
                    refine pure_ (i := 24) (N := some 2) (v := ?_) (a' := ?_) #[true, true, true, true, true, true, true, true, true, true, true, true, true, true, true, true, true, true, true, true, true, true, true, true, true] rfl rfl (by kernel_rfl) (fun _ _ _ h => h) (Or.inl ⟨by rfl, ?_⟩) ?_ ?_
                    rotate_left
                    · intro w'
                      go_simp
                      with_reducible rfl
                    rotate_left
                    · simp only [Act.put, List.setIfInBounds_toArray, List.set_cons_zero, List.set_cons_succ, i64_w, i32_w]
                      rfl
                    refine done_ (by kernel_rfl) ?_
                    replace HS : Aside0 (Sep (fps []) w [] w1967) := ⟨HS.out.sub (.cons _ .slnil)⟩
                    go_wp2_with fail
                    go_ret
                    rw [← some_eq H]
                    exact ⟨(by first | rfl | (simp [IntKind.wrap_u32]; done)), HS.out⟩
                · replace H := if_no c1970 H
                  have c1970b0 : b1957 = false := by simpa using c1970
                  have c1970b1 : (!b1957) = true := by rw [c1970b0]; rfl
                  clear c1970
                  try simp only [c1970b0, Bool.not_true, Bool.not_false]
                  refine pure_ (i := 5) (N := some 33) (v := undef) (a' := ?_) #[true, true, true, true, true, true, false, false, false, false, false, false, false, false, false, false, false, false, false, false, false, false, false, false, false] rfl rfl (by kernel_rfl) (fun _ _ _ h => h) (Or.inr ⟨by rfl, rfl⟩) ?_ ?_
                  rotate_left
                  · simp only [Act.put, List.setIfInBounds_toArray, List.set_cons_zero, List.set_cons_succ, i64_w, i32_w]
                    rfl
                  try simp only [c1970b0, Bool.not_true, Bool.not_false]
                  refine pure_ (i := 6) (N := some 34) (v := undef) (a' := ?_) #[true, true, true, true, true, true, true, false, false, false, false, false, false, false, false, false, false, false, false, false, false, false, false, false, false] rfl rfl (by kernel_rfl) (fun _ _ _ h => h) (Or.inr ⟨by rfl, rfl⟩) ?_ ?_
                  rotate_left
                  · simp only [Act.put, List.setIfInBounds_toArray, List.set_cons_zero, List.set_cons_succ, i64_w, i32_w]
                    rfl
                  try simp only [c1970b0, Bool.not_true, Bool.not_false]
                  refine pure_ (i := 7) (N := some 35) (v := undef) (a' := ?_) #[true, true, true, true, true, true, true, true, false, false, false, false, false, false, false, false, false, false, false, false, false, false, false, false, false] rfl rfl (by kernel_rfl) (fun _ _ _ h => h) (Or.inr ⟨by rfl, rfl⟩) ?_ ?_
                  rotate_left
                  · simp only [Act.put, List.setIfInBounds_toArray, List.set_cons_zero, List.set_cons_succ, i64_w, i32_w]
                    rfl
                  refine pure_ (i := 8) (N := some 36) (v := ?_) (a' := ?_) #[true, true, true, true, true, true, true, true, true, false, false, false, false, false, false, false, false, false, false, false, false, false, false, false, false] rfl rfl (by kernel_rfl) (fun _ _ _ h => h) (Or.inl ⟨by rfl, ?_⟩) ?_ ?_
                  rotate_left
                  · intro w'
                    go_simp
                    with_reducible rfl
                  rotate_left
                  · simp only [Act.put, List.setIfInBounds_toArray, List.set_cons_zero, List.set_cons_succ, i64_w, i32_w]
                    rfl
                  refine pure_ (i := 9) (N := some 37) (v := ?_) (a' := ?_) #[true, true, true, true, true, true, true, true, true, true, false, false, false, false, false, false, false, false, false, false, false, false, false, false, false] rfl rfl (by kernel_rfl) (fun _ _ _ h => h) (Or.inl ⟨by rfl, ?_⟩) ?_ ?_
                  rotate_left
                  · intro w'
                    go_simp
                    with_reducible rfl
                  rotate_left
                  · simp only [Act.put, List.setIfInBounds_toArray, List.set_cons_zero, List.set_cons_succ, i64_w, i32_w]
                    rfl
                  refine pure_ (i := 10) (N := some 38) (v := undef) (a' := ?_) #[true, true, true, true, true, true, true, true, true, true, true, false, false, false, false, false, false, false, false, false, false, false, false, false, false] rfl rfl (by kernel_rfl) (fun _ _ _ h => h) (Or.inr ⟨by rfl, rfl⟩) ?_ ?_
                  rotate_left
                  · simp only [Act.put, List.setIfInBounds_toArray, List.set_cons_zero, List.set_cons_succ, i64_w, i32_w]
                    rfl
                  refine pure_ (i := 11) (N := some 39) (v := undef) (a' := ?_) #[true, true, true, true, true, true, true, true, true, true, true, true, false, false, false, false, false, false, false, false, false, false, false, false, false] rfl rfl (by kernel_rfl) (fun _ _ _ h => h) (Or.inr ⟨by rfl, rfl⟩) ?_ ?_
                  rotate_left
                  · simp only [Act.put, List.setIfInBounds_toArray, List.set_cons_zero, List.set_cons_succ, i64_w, i32_w]
                    rfl
                  refine pure_ (i := 12) (N := some 40) (v := undef) (a' := ?_) #[true, true, true, true, true, true, true, true, true, true, true, true, true, false, false, false, false, false, false, false, false, false, false, false, false] rfl rfl (by kernel_rfl) (fun _ _ _ h => h) (Or.inr ⟨by rfl, rfl⟩) ?_ ?_
                  rotate_left
                  · simp only [Act.put, List.setIfInBounds_toArray, List.set_cons_zero, List.set_cons_succ, i64_w, i32_w]
                    rfl
                  refine pure_ (i := 13) (N := some 41) (v := ?_) (a' := ?_) #[true, true, true, true, true, true, true, true, true, true, true, true, true, true, false, false, false, false, false, false, false, false, false, false, false] rfl rfl (by kernel_rfl) (fun _ _ _ h => h) (Or.inl ⟨by rfl, ?_⟩) ?_ ?_
                  rotate_left
                  · intro w'
                    go_simp
                    with_reducible rfl
                  rotate_left
                  · simp only [Act.put, List.setIfInBounds_toArray, List.set_cons_zero, List.set_cons_succ, i64_w, i32_w]
                    rfl
                  refine pure_ (i := 14) (N := some 42) (v := ?_) (a' := ?_) #[true, true, true, true, true, true, true, true, true, true, true, true, true, true, true, false, false, false, false, false, false, false, false, false, false] rfl rfl (by kernel_rfl) (fun _ _ _ h => h) (Or.inl ⟨by rfl, ?_⟩) ?_ ?_
                  rotate_left
                  · intro w'
                    go_simp
                    with_reducible rfl
                  rotate_left
                  · simp only [Act.put, List.setIfInBounds_toArray, List.set_cons_zero, List.set_cons_succ, i64_w, i32_w]
                    rfl
                  refine pure_ (i := 15) (N := some 43) (v := undef) (a' := ?_) #[true, true, true, true, true, true, true, true, true, true, true, true, true, true, true, true, false, false, false, false, false, false, false, false, false] rfl rfl (by kernel_rfl) (fun _ _ _ h => h) (Or.inr ⟨by rfl, rfl⟩) ?_ ?_
                  rotate_left
                  · simp only [Act.put, List.setIfInBounds_toArray, List.set_cons_zero, List.set_cons_succ, i64_w, i32_w]
                    rfl
                  refine pure_ (i := 16) (N := some 44) (v := undef) (a' := ?_) #[true, true, true, true, true, true, true, true, true, true, true, true, true, true, true, true, true, false, false, false, false, false, false, false, false] rfl rfl (by kernel_rfl) (fun _ _ _ h => h) (Or.inr ⟨by rfl, rfl⟩) ?_ ?_
                  rotate_left
                  · simp only [Act.put, List.setIfInBounds_toArray, List.set_cons_zero, List.set_cons_succ, i64_w, i32_w]
                    rfl
                  refine pure_ (i := 17) (N := some 45) (v := undef) (a' := ?_) #[true, true, true, true, true, true, true, true, true, true, true, true, true, true, true, true, true, true, false, false, false, false, false, false, false] rfl rfl (by kernel_rfl) (fun _ _ _ h => h) (Or.inr ⟨by rfl, rfl⟩) ?_ ?_
                  rotate_left
                  · simp only [Act.put, List.setIfInBounds_toArray, List.set_cons_zero, List.set_cons_succ, i64_w, i32_w]
                    rfl
                  refine pure_ (i := 18) (N := some 46) (v := undef) (a' := ?_) #[true, true, true, true, true, true, true, true, true, true, true, true, true, true, true, true, true, true, true, false, false, false, false, false, false] rfl rfl (by kernel_rfl) (fun _ _ _ h => h) (Or.inr ⟨by rfl, rfl⟩) ?_ ?_
                  rotate_left
                  · simp only [Act.put, List.setIfInBounds_toArray, List.set_cons_zero, List.set_cons_succ, i64_w, i32_w]
                    rfl
                  refine pure_ (i := 19) (N := some 47) (v := undef) (a' := ?_) #[true, true, true, true, true, true, true, true, true, true, true, true, true, true, true, true, true, true, true, true, false, false, false, false, false] rfl rfl (by kernel_rfl) (fun _ _ _ h => h) (Or.inr ⟨by rfl, rfl⟩) ?_ ?_
                  rotate_left
                  · simp only [Act.put, List.setIfInBounds_toArray, List.set_cons_zero, List.set_cons_succ, i64_w, i32_w]
                    rfl
                  refine pure_ (i := 20) (N := some 48) (v := undef) (a' := ?_) #[true, true, true, true, true, true, true, true, true, true, true, true, true, true, true, true, true, true, true, true, true, false, false, false, false] rfl rfl (by kernel_rfl) (fun _ _ _ h => h) (Or.inr ⟨by rfl, rfl⟩) ?_ ?_
                  rotate_left
                  · simp only [Act.put, List.setIfInBounds_toArray, List.set_cons_zero, List.set_cons_succ, i64_w, i32_w]
                    rfl
                  refine pure_ (i := 21) (N := some 49) (v := undef) (a' := ?_) #[true, true, true, true, true, true, true, true, true, true, true, true, true, true, true, true, true, true, true, true, true, true, false, false, false] rfl rfl (by kernel_rfl) (fun _ _ _ h => h) (Or.inr ⟨by rfl, rfl⟩) ?_ ?_
                  rotate_left
                  · simp only [Act.put, List.setIfInBounds_toArray, List.set_cons_zero, List.set_cons_succ, i64_w, i32_w]
                    rfl
                  refine pure_ (i := 22) (N := some 50) (v := undef) (a' := ?_) #[true, true, true, true, true, true, true, true, true, true, true, true, true, true, true, true, true, true, true, true, true, true, true, false, false] rfl rfl (by kernel_rfl) (fun _ _ _ h => h) (Or.inr ⟨by rfl, rfl⟩) ?_ ?_
                  rotate_left
                  · simp only [Act.put, List.setIfInBounds_toArray, List.set_cons_zero, List.set_cons_succ, i64_w, i32_w]
                    rfl
                  refine pure_ (i := 23) (N := some 51) (v := ?_) (a' := ?_) #[true, true, true, true, true, true, true, true, true, true, true, true, true, true, true, true, true, true, true, true, true, true, true, true, false] rfl rfl (by kernel_rfl) (fun _ _ _ h => h) (Or.inl ⟨by rfl, ?_⟩) ?_ ?_
                  rotate_left
                  · intro w'
                    go_simp
                    with_reducible rfl
                  rotate_left
                  · simp only [Act.put, List.setIfInBounds_toArray, List.set_cons_zero, List.set_cons_succ, i64_w, i32_w]
                    rfl
                  refine pure_ (i := 24) (N := some 2) (v := ?_) (a' := ?_) #[true, true, true, true, true, true, true, true, true, true, true, true, true, true, true, true, true, true, true, true, true, true, true, true, true] rfl rfl (by kernel_rfl) (fun _ _ _ h => h) (Or.inl ⟨by rfl, ?_⟩) ?_ ?_
                  rotate_left
                  · intro w'
                    go_simp
                    with_reducible rfl
                  rotate_left
                  · simp only [Act.put, List.setIfInBounds_toArray, List.set_cons_zero, List.set_cons_succ, i64_w, i32_w]
                    rfl
                  refine done_ (by kernel_rfl) ?_
                  replace HS : Aside0 (Sep (fps []) w [] w1967) := ⟨HS.out.sub (.cons _ .slnil)⟩
                  go_wp2_with fail
                  go_ret
                  rw [← some_eq H]
                  exact ⟨(by first | rfl | (simp [IntKind.wrap_u32]; done)), HS.out⟩
              · replace H := if_no c1963 H
                have c1963b0 : (a1868 == 3) = false := beq_eq_false_iff_ne.mpr c1963
                have c1963b1 : (a1868 != 3) = true := bne_iff_ne.mpr c1963
                clear c1963
                have hc1945 : w1936.cell? ⟨g1875, 0, none⟩ = some (.int .i64 a1868) := blk_cellv (HS.out.at0) 0 rfl
                replace HS : Aside0 (Sep (fps []) w [] w1936) := ⟨HS.out.sub (.cons _ .slnil)⟩
                go_wp2_with fail
                clear hc1945
                go_ret
                rw [← some_eq H]
                exact ⟨(by first | rfl | (simp [IntKind.wrap_u32]; done)), HS.out⟩

set_option maxHeartbeats 30000000 in
set_option maxRecDepth 100000 in
theorem pack_total.calls (k : Nat) (l2066 : List Int) (A2067 : Option Addr) (n2068 : Nat) (r : Int) (w : World) (HR2069 : Aside0 (Rd (Kd.int .i64) (fps []) w A2067 l2066.length l2066)) (HGl0 : Aside0 (Gl 0 #[.int .i64 0, .int .i64 0, .int .i64 0, .int .i64 0, .int .i64 0] (fps []) w)) (HS : Aside0 (Sep (fps []) w [] w)) (H : Aside0 (pack_total.f k l2066 = some r)) :
    Calls Tryd.prog 125 #[.slice A2067 l2066.length n2068] w fun e w' => e = .returned (.int .i64 r) ∧ Sep (fps []) w [] w' := by
  unfold pack_total.f at H
  go_enter Tryd.func125, Tryd.ntmps125
  go_wp2_with fail
  obtain ⟨o2082, AL2083, H⟩ := bind_some H
  go_loopg [3, 8] k (fun kq v3 v8 wc => ∃ (x2086 : Int) (x2087 : Int), v3 = .int .i64 x2086 ∧ v8 = .int .i64 x2087 ∧ Aside0 (pack_total.lo0 kq l2066 x2086 x2087 = some o2082) ∧ Aside0 (Sep (fps []) w [] wc))
  case atStart => exact ⟨(0), (0), (by first | rfl | (simp [IntKind.wrap_u32]; done)), (by first | rfl | (simp [IntKind.wrap_u32]; done)), AL2083, ⟨HS.out⟩⟩
  case round =>
    clear AL2083 HS
    obtain ⟨x2086, x2087, rfl, rfl, AL2083, HS⟩ := hrel
    obtain ⟨w2084, rfl⟩ : ∃ x : World, x = wr := ⟨_, rfl⟩
    cases gk with
    | zero => exact absurd AL2083.out (by simp [pack_total.lo0])
    | succ k2085 =>
      have AL0 := AL2083.out
      rw [pack_total.lo0] at AL0
      clear AL2083
      have AL2083 := Aside0.mk AL0
      clear AL0
      by_cases c2088 : x2087 < (l2066.length : Int)
      · replace AL2083 := if_yes c2088 AL2083
        have c2088b0 : decide (x2087 < (l2066.length : Int)) = true := decide_eq_true c2088
        clear c2088
        by_cases c2089 : 0 ≤ x2087
        · replace AL2083 := if_yes c2089 AL2083
          have c2089b0 : decide (0 ≤ x2087) = true := decide_eq_true c2089
          have c2089p : (0 ≤ x2087) = True := eq_true c2089
          clear c2089
          have ip2090 : (x2087 < (l2066.length : Int)) = True := eq_true (of_decide_eq_true c2088b0)
          by_cases c2092 : (rd l2066 x2087) < 1
          · replace AL2083 := if_yes c2092 AL2083
            have c2092b0 : decide ((rd l2066 x2087) < 1) = true := decide_eq_true c2092
            clear c2092
            obtain ⟨hx2091a, hx2091e, hx2091⟩ := Kd.at_int (Rd.read (fun _ _ _ _ h => h) HR2069.out HS.out.fr) x2087 (of_decide_eq_true c2089b0) (of_decide_eq_true c2088b0); cases hx2091e
            go_wp2_with fail
            clear hx2091
            have ho := some_eq AL2083
            subst ho
            have H := lp_ret H
            go_ret
            rw [← some_eq H]
            exact ⟨(by first | rfl | (simp [IntKind.wrap_u32]; done)), HS.out⟩
          · replace AL2083 := if_no c2092 AL2083
            have c2092b0 : decide ((rd l2066 x2087) < 1) = false := decide_eq_false c2092
            clear c2092
            by_cases c2093 : (rd l2066 x2087) > (wrap64 (32 - x2086))
            · replace AL2083 := if_yes c2093 AL2083
              have c2093b0 : decide ((wrap64 (32 - x2086)) < (rd l2066 x2087)) = true := decide_eq_true c2093
              clear c2093
              obtain ⟨hx2091a, hx2091e, hx2091⟩ := Kd.at_int (Rd.read (fun _ _ _ _ h => h) HR2069.out HS.out.fr) x2087 (of_decide_eq_true c2089b0) (of_decide_eq_true c2088b0); cases hx2091e
              go_wp2_with fail
              clear hx2091
              have ho := some_eq AL2083
              subst ho
              have H := lp_ret H
              go_ret
              rw [← some_eq H]
              exact ⟨(by first | rfl | (simp [IntKind.wrap_u32]; done)), HS.out⟩
            · replace AL2083 := if_no c2093 AL2083
              have c2093b0 : decide ((wrap64 (32 - x2086)) < (rd l2066 x2087)) = false := decide_eq_false c2093
              clear c2093
              obtain ⟨hx2091a, hx2091e, hx2091⟩ := Kd.at_int (Rd.read (fun _ _ _ _ h => h) HR2069.out HS.out.fr) x2087 (of_decide_eq_true c2089b0) (of_decide_eq_true c2088b0); cases hx2091e
              go_wp2_with fail
              clear hx2091
              go_roundg k2085
              case measure => exact Nat.lt_succ_self _
              case rel => exact ⟨(wrap64 (x2086 + (rd l2066 x2087))), (wrap64 (x2087 + 1)), (by first | rfl | (simp [IntKind.wrap_u32]; done)), (by first | rfl | (simp [IntKind.wrap_u32]; done)), Aside0.mk AL2083.out, ⟨HS.out⟩⟩
        · replace AL2083 := if_no c2089 AL2083
          have c2089b0 : decide (0 ≤ x2087) = false := decide_eq_false c2089
          clear c2089
          exact (none_no AL2083).elim
      · replace AL2083 := if_no c2088 AL2083
        have c2088b0 : decide (x2087 < (l2066.length : Int)) = false := decide_eq_false c2088
        clear c2088
        have ho := some_eq AL2083
        subst ho
        clear AL2083
        have H := lp_out H
        go_wp2_with fail
        go_ret
        rw [← some_eq H]
        exact ⟨(by first | rfl | (simp [IntKind.wrap_u32]; done)), HS.out⟩

set_option maxHeartbeats 30000000 in
set_option maxRecDepth 100000 in
theorem pack_Fits.calls (a2122 : Int) (a2123 : Int) (r : Bool) (w : World)  (HGl0 : Aside0 (Gl 0 #[.int .i64 0, .int .i64 0, .int .i64 0, .int .i64 0, .int .i64 0] (fps []) w)) (HS : Aside0 (Sep (fps []) w [] w)) (H : Aside0 (pack_Fits.f a2122 a2123 = some r)) :
    Calls Tryd.prog 152 #[.int .u32 a2122, .int .i64 a2123] w fun e w' => e = .returned (.bool r) ∧ Sep (fps []) w [] w' := by
  unfold pack_Fits.f at H
  go_enter Tryd.func152, Tryd.ntmps152
  by_cases c2124 : a2123 ≥ 32
  · replace H := if_yes c2124 H
    have c2124b0 : decide (32 ≤ a2123) = true := decide_eq_true c2124
    clear c2124
    go_wp2_with fail
    go_ret
    rw [← some_eq H]
    exact ⟨(by first | rfl | (simp [IntKind.wrap_u32]; done)), HS.out⟩
  · replace H := if_no c2124 H
    have c2124b0 : decide (32 ≤ a2123) = false := decide_eq_false c2124
    clear c2124
    by_cases c2125 : a2123 < 0
    · replace H := if_yes c2125 H
      have c2125b0 : decide (a2123 < 0) = true := decide_eq_true c2125
      skip
      go_wp2_with fail
      clear c2125
      go_ret
      rw [← some_eq H]
      exact ⟨(by first | rfl | (simp [IntKind.wrap_u32]; done)), HS.out⟩
    · replace H := if_no c2125 H
      have c2125b0 : decide (a2123 < 0) = false := decide_eq_false c2125
      by_cases c2126 : 0 ≤ (IntKind.u64.wrap (a2123))
      · replace H := if_yes c2126 H
        have c2126b0 : decide (0 ≤ (IntKind.u64.wrap (a2123))) = true := decide_eq_true c2126
        skip
        skip
        go_wp2_with fail
        clear c2125 c2126
        go_ret
        rw [← some_eq H]
        exact ⟨(by first | rfl | (simp [IntKind.wrap_u32]; done)), HS.out⟩
      · replace H := if_no c2126 H
        have c2126b0 : decide (0 ≤ (IntKind.u64.wrap (a2123))) = false := decide_eq_false c2126
        exact (none_no H).elim

set_option maxHeartbeats 30000000 in
set_option maxRecDepth 100000 in
theorem pack_Put.calls (a2114 : Int) (a2115 : Int) (a2116 : Int) (a2117 : Int) (r : Int × Int) (w : World)  (HGl0 : Aside0 (Gl 0 #[.int .i64 0, .int .i64 0, .int .i64 0, .int .i64 0, .int .i64 0] (fps []) w)) (HS : Aside0 (Sep (fps []) w [] w)) (H : Aside0 (pack_Put.f a2114 a2115 a2116 a2117 = some r)) :
    Calls Tryd.prog 126 #[.int .u32 a2114, .int .i64 a2115, .int .i64 a2116, .int .u32 a2117] w fun e w' => e = .returned (.tuple #[.int .u32 r.1, .int .i64 r.2]) ∧ Sep (fps []) w [] w' := by
  unfold pack_Put.f at H
  go_enter Tryd.func126, Tryd.ntmps126
  go_wp2_with fail
  obtain ⟨t2118, HA2119, H⟩ := bind_some H
  refine (pack_isPiece.calls a2115 a2116 t2118 _ ⟨HGl0.out.pass (l := []) HS.out⟩ ⟨Sep.start _⟩ HA2119).mono ?_
  rintro e_ w2120 ⟨rfl, hS⟩
  replace HS : Aside0 (Sep (fps []) w [] w2120) := ⟨HS.out.call hS⟩
  clear hS
  by_cases c2121 : t2118 = true
  · replace H := if_yes c2121 H
    have c2121b0 : t2118 = true := c2121
    have c2121b1 : (!t2118) = false := by rw [c2121b0]; rfl
    try rw [c2121b1]
    clear c2121
    go_wp2_with fail
    obtain ⟨t2127, HA2128, H⟩ := bind_some H
    refine (pack_Fits.calls a2117 a2116 t2127 _ ⟨HGl0.out.pass (l := []) HS.out⟩ ⟨Sep.start _⟩ HA2128).mono ?_
    rintro e_ w2129 ⟨rfl, hS⟩
    replace HS : Aside0 (Sep (fps []) w [] w2129) := ⟨HS.out.call hS⟩
    clear hS
    by_cases c2130 : t2127 = true
    · replace H := if_yes c2130 H
      have c2130b0 : t2127 = true := c2130
      have c2130b1 : (!t2127) = false := by rw [c2130b0]; rfl
      try rw [c2130b1]
      clear c2130
      go_wp2_with fail
      obtain ⟨t2131, HA2132, H⟩ := bind_some H
      refine (pack_mask.calls a2115 a2116 t2131 _ ⟨HGl0.out.pass (l := []) HS.out⟩ ⟨Sep.start _⟩ HA2132).mono ?_
      rintro e_ w2133 ⟨rfl, hS⟩
      replace HS : Aside0 (Sep (fps []) w [] w2133) := ⟨HS.out.call hS⟩
      clear hS
      by_cases c2134 : 0 ≤ (IntKind.u64.wrap (a2115))
      · replace H := if_yes c2134 H
        have c2134b0 : decide (0 ≤ (IntKind.u64.wrap (a2115))) = true := decide_eq_true c2134
        skip
        go_wp2_with fail
        clear c2134
        go_ret2
        rw [← some_eq H]
        exact ⟨(by first | rfl | (simp [IntKind.wrap_u32]; done)), HS.out⟩
      · replace H := if_no c2134 H
        have c2134b0 : decide (0 ≤ (IntKind.u64.wrap (a2115))) = false := decide_eq_false c2134
        exact (none_no H).elim
    · replace H := if_no c2130 H
      have c2130b0 : t2127 = false := by simpa using c2130
      have c2130b1 : (!t2127) = true := by rw [c2130b0]; rfl
      try rw [c2130b1]
      clear c2130
      go_wp2_with fail
      go_ret2
      rw [← some_eq H]
      exact ⟨(by first | rfl | (simp [IntKind.wrap_u32]; done)), HS.out⟩
  · replace H := if_no c2121 H
    have c2121b0 : t2118 = false := by simpa using c2121
    have c2121b1 : (!t2118) = true := by rw [c2121b0]; rfl
    try rw [c2121b1]
    clear c2121
    go_wp2_with fail
    go_ret2
    rw [← some_eq H]
    exact ⟨(by first | rfl | (simp [IntKind.wrap_u32]; done)), HS.out⟩

set_option maxHeartbeats 30000000 in
set_option maxRecDepth 100000 in
theorem pack_Join.calls (k : Nat) (l2058 : List Int) (l2062 : List Int) (A2059 : Option Addr) (n2060 : Nat) (A2063 : Option Addr) (n2064 : Nat) (r : Int × Int) (w : World) (HR2061 : Aside0 (Rd (Kd.int .u32) (fps []) w A2059 l2058.length l2058)) (HR2065 : Aside0 (Rd (Kd.int .i64) (fps []) w A2063 l2062.length l2062)) (HGl0 : Aside0 (Gl 0 #[.int .i64 0, .int .i64 0, .int .i64 0, .int .i64 0, .int .i64 0] (fps []) w)) (HS : Aside0 (Sep (fps []) w [] w)) (H : Aside0 (pack_Join.f k l2058 l2062 = some r)) :
    Calls Tryd.prog 69 #[.slice A2059 l2058.length n2060, .slice A2063 l2062.length n2064] w fun e w' => e = .returned (.tuple #[.int .u32 r.1, .int .i64 r.2]) ∧ Sep (fps []) w [] w' := by
  unfold pack_Join.f at H
  go_enter Tryd.func69, Tryd.ntmps69
  go_wp2_with fail
  obtain ⟨t2095, HA2096, H⟩ := bind_some H
  refine (pack_total.calls _ l2062 A2063 n2064 t2095 _ ⟨Rd.pass (l := []) (by decide) (fun _ _ _ _ h => h) HR2065.out HS.out⟩ ⟨HGl0.out.pass (l := []) HS.out⟩ ⟨Sep.start _⟩ HA2096).mono ?_
  rintro e_ w2097 ⟨rfl, hS⟩
  replace HS : Aside0 (Sep (fps []) w [] w2097) := ⟨HS.out.call hS⟩
  clear hS
  by_cases c2098 : t2095 < 0
  · replace H := if_yes c2098 H
    have c2098b0 : decide (t2095 < 0) = true := decide_eq_true c2098
    clear c2098
    go_wp2_with fail
    go_ret2
    rw [← some_eq H]
    exact ⟨(by first | rfl | (simp [IntKind.wrap_u32]; done)), HS.out⟩
  · replace H := if_no c2098 H
    have c2098b0 : decide (t2095 < 0) = false := decide_eq_false c2098
    clear c2098
    by_cases c2099 : (l2058.length : Int) = (l2062.length : Int)
    · replace H := if_yes c2099 H
      have c2099b0 : ((l2058.length : Int) == (l2062.length : Int)) = true := beq_iff_eq.mpr c2099
      have c2099b1 : ((l2058.length : Int) != (l2062.length : Int)) = false := bne_eq_false_iff_eq.mpr c2099
      clear c2099
      go_wp2_with fail
      obtain ⟨o2139, AL2140, H⟩ := bind_some H
      go_loopg [6, 7, 24] k (fun kq v6 v7 v24 wc => ∃ (x2143 : Int) (x2144 : Int) (x2145 : Int), v6 = .int .u32 x2143 ∧ v7 = .int .i64 x2144 ∧ v24 = .int .i64 x2145 ∧ Aside0 (pack_Join.lo0 kq l2058 l2062 x2143 x2144 x2145 = some o2139) ∧ Aside0 (Sep (fps []) w [] wc))
      case atStart => exact ⟨(0), (0), (0), (by first | rfl | (simp [IntKind.wrap_u32]; done)), (by first | rfl | (simp [IntKind.wrap_u32]; done)), (by first | rfl | (simp [IntKind.wrap_u32]; done)), AL2140, ⟨HS.out⟩⟩
      case round =>
        clear AL2140 HS
        obtain ⟨x2143, x2144, x2145, rfl, rfl, rfl, AL2140, HS⟩ := hrel
        obtain ⟨w2141, rfl⟩ : ∃ x : World, x = wr := ⟨_, rfl⟩
        cases gk with
        | zero => exact absurd AL2140.out (by simp [pack_Join.lo0])
        | succ k2142 =>
          have AL0 := AL2140.out
          rw [pack_Join.lo0] at AL0
          clear AL2140
          have AL2140 := Aside0.mk AL0
          clear AL0
          by_cases c2146 : x2145 < (l2062.length : Int)
          · replace AL2140 := if_yes c2146 AL2140
            have c2146b0 : decide (x2145 < (l2062.length : Int)) = true := decide_eq_true c2146
            clear c2146
            by_cases c2147 : 0 ≤ x2145
            · replace AL2140 := if_yes c2147 AL2140
              have c2147b0 : decide (0 ≤ x2145) = true := decide_eq_true c2147
              have c2147p : (0 ≤ x2145) = True := eq_true c2147
              clear c2147
              have ip2148 : (x2145 < (l2062.length : Int)) = True := eq_true (of_decide_eq_true c2146b0)
              by_cases c2150 : x2145 < (l2058.length : Int)
              · replace AL2140 := if_yes c2150 AL2140
                have c2150b0 : decide (x2145 < (l2058.length : Int)) = true := decide_eq_true c2150
                have c2150p : (x2145 < (l2058.length : Int)) = True := eq_true c2150
                clear c2150
                obtain ⟨hx2149a, hx2149e, hx2149⟩ := Kd.at_int (Rd.read (fun _ _ _ _ h => h) HR2065.out HS.out.fr) x2145 (of_decide_eq_true c2147b0) (of_decide_eq_true c2146b0); cases hx2149e
                obtain ⟨hx2151a, hx2151e, hx2151⟩ := Kd.at_int (Rd.read (fun _ _ _ _ h => h) HR2061.out HS.out.fr) x2145 (of_decide_eq_true c2147b0) (of_decide_eq_true c2150b0); cases hx2151e
                go_wp2_with fail
                clear hx2149 hx2151
                obtain ⟨t2135, HA2152, AL2140⟩ := bind_some AL2140
                refine (pack_Put.calls x2143 x2144 (rd l2062 x2145) (rd l2058 x2145) t2135 _ ⟨HGl0.out.pass (l := []) HS.out⟩ ⟨Sep.start _⟩ HA2152).mono ?_
                rintro e_ w2153 ⟨rfl, hS⟩
                replace HS : Aside0 (Sep (fps []) w [] w2153) := ⟨HS.out.call hS⟩
                clear hS
                by_cases c2154 : t2135.2 = 0
                · replace AL2140 := if_yes c2154 AL2140
                  have c2154b0 : (t2135.2 == 0) = true := beq_iff_eq.mpr c2154
                  have c2154b1 : (t2135.2 != 0) = false := bne_eq_false_iff_eq.mpr c2154
                  clear c2154
                  go_wp2_with fail
                  go_roundg k2142
                  case measure => exact Nat.lt_succ_self _
                  case rel => exact ⟨(t2135.1), (wrap64 (x2144 + (rd l2062 x2145))), (wrap64 (x2145 + 1)), (by first | rfl | (simp [IntKind.wrap_u32]; done)), (by first | rfl | (simp [IntKind.wrap_u32]; done)), (by first | rfl | (simp [IntKind.wrap_u32]; done)), Aside0.mk AL2140.out, ⟨HS.out⟩⟩
                · replace AL2140 := if_no c2154 AL2140
                  have c2154b0 : (t2135.2 == 0) = false := beq_eq_false_iff_ne.mpr c2154
                  have c2154b1 : (t2135.2 != 0) = true := bne_iff_ne.mpr c2154
                  clear c2154
                  go_wp2_with fail
                  have ho := some_eq AL2140
                  subst ho
                  have H := lp_ret H
                  go_ret2
                  rw [← some_eq H]
                  exact ⟨(by first | rfl | (simp [IntKind.wrap_u32]; done)), HS.out⟩
              · replace AL2140 := if_no c2150 AL2140
                have c2150b0 : decide (x2145 < (l2058.length : Int)) = false := decide_eq_false c2150
                clear c2150
                exact (none_no AL2140).elim
            · replace AL2140 := if_no c2147 AL2140
              have c2147b0 : decide (0 ≤ x2145) = false := decide_eq_false c2147
              clear c2147
              exact (none_no AL2140).elim
          · replace AL2140 := if_no c2146 AL2140
            have c2146b0 : decide (x2145 < (l2062.length : Int)) = false := decide_eq_false c2146
            clear c2146
            have ho := some_eq AL2140
            subst ho
            clear AL2140
            have H := lp_out H
            go_wp2_with fail
            go_ret2
            rw [← some_eq H]
            exact ⟨(by first | rfl | (simp [IntKind.wrap_u32]; done)), HS.out⟩
    · replace H := if_no c2099 H
      have c2099b0 : ((l2058.length : Int) == (l2062.length : Int)) = false := beq_eq_false_iff_ne.mpr c2099
      have c2099b1 : ((l2058.length : Int) != (l2062.length : Int)) = true := bne_iff_ne.mpr c2099
      clear c2099
      go_wp2_with fail
      go_ret2
      rw [← some_eq H]
      exact ⟨(by first | rfl | (simp [IntKind.wrap_u32]; done)), HS.out⟩

set_option maxHeartbeats 30000000 in
set_option maxRecDepth 100000 in
theorem tag_Pack.calls (k : Nat) (a1851 : Int) (a1852 : Int) (a1853 : Int) (a1854 : Int) (a1855 : Int) (a1856 : Int) (a1857 : Int) (r : Int × Int) (w : World)  (HGl0 : Aside0 (Gl 0 #[.int .i64 0, .int .i64 0, .int .i64 0, .int .i64 0, .int .i64 0] (fps []) w)) (HS : Aside0 (Sep (fps []) w [] w)) (H : Aside0 (tag_Pack.f k a1851 a1852 a1853 a1854 a1855 a1856 a1857 = some r)) :
    Calls Tryd.prog 16 #[.agg #[.int .i64 a1851, .int .i64 a1852, .int .i64 a1853, .int .i64 a1854, .int .i64 a1855, .int .i64 a1856, .int .i64 a1857]] w fun e w' => e = .returned (.tuple #[.int .u32 r.1, .int .i64 r.2]) ∧ Sep (fps []) w [] w' := by
  unfold tag_Pack.f at H
  go_enter Tryd.func16, Tryd.ntmps16
  go_wp2_with (first | ((with_reducible refine gate_dst (N := 1) rfl ?_); refine box_on ?hg (N := 1) ?hd (cs := #[.int .i64 a1851, .int .i64 a1852, .int .i64 a1853, .int .i64 a1854, .int .i64 a1855, .int .i64 a1856, .int .i64 a1857]) (t := 32) ?hr ?_; (case hd => rfl); (case hg => rfl); (case hr => first | (go_simp; done) | (go_simp; rfl)); intro g1858 hg w1859 hbox hb; replace HS : Aside0 (Sep (fps []) w [b9 g1858 a1851 a1852 a1853 a1854 a1855 a1856 a1857] w1859) := ⟨HS.out.box hg hbox hb⟩; clear hg hbox hb; have hc1861 : w1859.cell? ⟨g1858, 0, none⟩ = some (.int .i64 a1851) := blk_cellv (HS.out.at0) 0 rfl; have hc1862 : w1859.cell? ⟨g1858, 1, none⟩ = some (.int .i64 a1852) := blk_cellv (HS.out.at0) 1 rfl; have hc1863 : w1859.cell? ⟨g1858, 2, none⟩ = some (.int .i64 a1853) := blk_cellv (HS.out.at0) 2 rfl; have hc1864 : w1859.cell? ⟨g1858, 3, none⟩ = some (.int .i64 a1854) := blk_cellv (HS.out.at0) 3 rfl; have hc1865 : w1859.cell? ⟨g1858, 4, none⟩ = some (.int .i64 a1855) := blk_cellv (HS.out.at0) 4 rfl; have hc1866 : w1859.cell? ⟨g1858, 5, none⟩ = some (.int .i64 a1856) := blk_cellv (HS.out.at0) 5 rfl; have hc1867 : w1859.cell? ⟨g1858, 6, none⟩ = some (.int .i64 a1857) := blk_cellv (HS.out.at0) 6 rfl))
  clear hc1861 hc1862 hc1863 hc1864 hc1865 hc1866 hc1867
  obtain ⟨t2000, HA2001, H⟩ := bind_some H
  refine (tag_Right.calls _ a1851 a1852 a1853 a1854 a1855 a1856 a1857 t2000 _ ⟨HGl0.out.pass (l := []) HS.out⟩ ⟨Sep.start _⟩ HA2001).mono ?_
  rintro e_ w2002 ⟨rfl, hS⟩
  replace HS : Aside0 (Sep (fps []) w [b9 g1858 a1851 a1852 a1853 a1854 a1855 a1856 a1857] w2002) := ⟨HS.out.call hS⟩
  clear hS
  by_cases c2003 : t2000 = true
  · replace H := if_yes c2003 H
    have c2003b0 : t2000 = true := c2003
    have c2003b1 : (!t2000) = false := by rw [c2003b0]; rfl
    try rw [c2003b1]
    clear c2003
    have hc2004 : w2002.cell? ⟨g1858, 0, none⟩ = some (.int .i64 a1851) := blk_cellv (HS.out.at0) 0 rfl
    go_wp2_with (first | ((with_reducible refine gate_dst (N := 13) rfl ?_); refine slice_on (n := 1) ?hg (N := 13) ?hd (cs := #[.int .u32 ((a1851) % 4294967296)]) (t := 33) ?hr ?_; (case hd => rfl); (case hg => rfl); (case hr => first | (go_simp; done) | (go_simp; rfl)); intro g2005 hg w2006 hbox hb; clear hc2004; replace HS : Aside0 (Sep (fps []) w [b9 g1858 a1851 a1852 a1853 a1854 a1855 a1856 a1857, b10 g2005 ((a1851) % 4294967296)] w2006) := ⟨HS.out.box hg hbox hb⟩; clear hg hbox hb; have hc2008 : w2006.cell? ⟨g1858, 0, none⟩ = some (.int .i64 a1851) := blk_cellv (HS.out.at0) 0 rfl; have hc2009 : w2006.cell? ⟨g1858, 1, none⟩ = some (.int .i64 a1852) := blk_cellv (HS.out.at0) 1 rfl; have hc2010 : w2006.cell? ⟨g1858, 2, none⟩ = some (.int .i64 a1853) := blk_cellv (HS.out.at0) 2 rfl; have hc2011 : w2006.cell? ⟨g1858, 3, none⟩ = some (.int .i64 a1854) := blk_cellv (HS.out.at0) 3 rfl; have hc2012 : w2006.cell? ⟨g1858, 4, none⟩ = some (.int .i64 a1855) := blk_cellv (HS.out.at0) 4 rfl; have hc2013 : w2006.cell? ⟨g1858, 5, none⟩ = some (.int .i64 a1856) := blk_cellv (HS.out.at0) 5 rfl; have hc2014 : w2006.cell? ⟨g1858, 6, none⟩ = some (.int .i64 a1857) := blk_cellv (HS.out.at0) 6 rfl))
    clear hc2008 hc2009 hc2010 hc2011 hc2012 hc2013 hc2014
    obtain ⟨t2015, HA2016, H⟩ := bind_some H
    refine (tag_marks.calls a1851 a1852 a1853 a1854 a1855 a1856 a1857 t2015 _ ⟨HGl0.out.pass (l := []) HS.out⟩ ⟨Sep.start _⟩ HA2016).mono ?_
    rintro e_ w2017 ⟨rfl, hS⟩
    replace HS : Aside0 (Sep (fps []) w [b9 g1858 a1851 a1852 a1853 a1854 a1855 a1856 a1857, b10 g2005 ((a1851) % 4294967296)] w2017) := ⟨HS.out.call hS⟩
    clear hS
    go_wp2_with fail
    replace HS : Aside0 (Sep (fps []) w [b9 g1858 a1851 a1852 a1853 a1854 a1855 a1856 a1857, r6 (some ⟨g2005, 0, none⟩) 1 1 [(a1851) % 4294967296]] w2017) := ⟨Sep.litrow (l1 := [b9 g1858 a1851 a1852 a1853 a1854 a1855 a1856 a1857]) (l2 := []) (enc := Value.int .u32) (xs := [(a1851) % 4294967296]) (n := 1) HS.out rfl (by decide)⟩
    obtain ⟨o2019, AL2020, H⟩ := bind_some H
    go_loopg [4, 16] k (fun kq v4 v16 wc => ∃ (x2024 : Int) (x2025 : List Int) (A2026 : Option Addr) (m2027 : Nat) (n2028 : Nat), v4 = .slice A2026 m2027 n2028 ∧ v16 = .int .i64 x2024 ∧ Aside0 (tag_Pack.lo0 kq t2015 x2024 x2025 = some o2019) ∧ Aside0 (Sep (fps []) w [b9 g1858 a1851 a1852 a1853 a1854 a1855 a1856 a1857, r6 A2026 m2027 n2028 x2025] wc))
    case atStart => exact ⟨(0), ([(a1851) % 4294967296]), ((some ⟨g2005, 0, none⟩)), (1), (1), (by first | rfl | (simp [IntKind.wrap_u32]; done)), (by first | rfl | (simp [IntKind.wrap_u32]; done)), AL2020, ⟨HS.out⟩⟩
    case round =>
      clear AL2020 HS
      obtain ⟨x2024, x2025, A2026, m2027, n2028, rfl, rfl, AL2020, HS⟩ := hrel
      obtain ⟨w2021, rfl⟩ : ∃ x : World, x = wr := ⟨_, rfl⟩
      obtain rfl := (row_len (HS.out.at1)).symm
      cases gk with
      | zero => exact absurd AL2020.out (by simp [tag_Pack.lo0])
      | succ k2022 =>
        have AL0 := AL2020.out
        rw [tag_Pack.lo0] at AL0
        clear AL2020
        have AL2020 := Aside0.mk AL0
        clear AL0
        by_cases c2030 : x2024 < 5
        · replace AL2020 := if_yes c2030 AL2020
          have c2030b0 : decide (x2024 < 5) = true := decide_eq_true c2030
          clear c2030
          by_cases c2031 : 0 ≤ x2024
          · replace AL2020 := if_yes c2031 AL2020
            have c2031b0 : decide (0 ≤ x2024) = true := decide_eq_true c2031
            have c2031p : (0 ≤ x2024) = True := eq_true c2031
            clear c2031
            have ip2032 : (x2024 < 5) = True := eq_true (of_decide_eq_true c2030b0)
            have ix2033 : ∀ w, (Instr.index 108 (.agg #[.int .i64 t2015.1, .int .i64 t2015.2.1, .int .i64 t2015.2.2.1, .int .i64 t2015.2.2.2.1, .int .i64 t2015.2.2.2.2]) (.int .i64 x2024)).run Tryd.prog w = .ok (.int .i64 (rd [t2015.1, t2015.2.1, t2015.2.2.1, t2015.2.2.2.1, t2015.2.2.2.2] x2024)) w := run_index_ints 108 3 5 .i64 .i64 [t2015.1, t2015.2.1, t2015.2.2.1, t2015.2.2.2.1, t2015.2.2.2.2] x2024 Tryd.underlying108 (fun _ => by kernel_rfl) (fun _ => by kernel_rfl) rfl (of_decide_eq_true c2031b0) (of_decide_eq_true c2030b0)
            by_cases c2037 : x2025.length < 35184372088832
            · replace AL2020 := if_yes c2037 AL2020
              have c2037b0 : decide (x2025.length < 35184372088832) = true := decide_eq_true c2037
              clear c2037
              obtain ⟨y2041, HA2042, AL2020⟩ := bind_some AL2020
              go_wp2_with (first | ((with_reducible refine gate_dst (N := 22) rfl ?_); refine slice_on (n := 1) ?hg (N := 22) ?hd (cs := #[.int .u32 ((rd [t2015.1, t2015.2.1, t2015.2.2.1, t2015.2.2.2.1, t2015.2.2.2.2] x2024) % 4294967296)]) (t := 33) ?hr ?_; (case hd => rfl); (case hg => rfl); (case hr => first | (go_simp; done) | (go_simp; rfl)); intro g2034 hg w2035 hbox hb; replace HS : Aside0 (Sep (fps []) w [b9 g1858 a1851 a1852 a1853 a1854 a1855 a1856 a1857, r6 A2026 x2025.length n2028 x2025, b10 g2034 ((rd [t2015.1, t2015.2.1, t2015.2.2.1, t2015.2.2.2.1, t2015.2.2.2.2] x2024) % 4294967296)] w2035) := ⟨HS.out.box hg hbox hb⟩; clear hg hbox hb) | ((with_reducible refine gate_dst (N := 23) rfl ?_); refine append_event (l1 := [b9 g1858 a1851 a1852 a1853 a1854 a1855 a1856 a1857]) (l2 := [b10 g2034 ((rd [t2015.1, t2015.2.1, t2015.2.2.1, t2015.2.2.2.1, t2015.2.2.2.2] x2024) % 4294967296)]) rfl (.tmp 19) (.tmp 22) 69 33 (.int .u32 0) 4 rfl Tryd.underlying69 (by kernel_rfl) rfl (by decide) (Value.int .u32) (fun _ => rfl) (.slice A2026 x2025.length n2028) (x2025 : List Int) [(rd [t2015.1, t2015.2.1, t2015.2.2.1, t2015.2.2.2.1, t2015.2.2.2.2] x2024) % 4294967296] ⟨g2034, 0, none⟩ 1 rfl rfl (blk_news (xs := [(rd [t2015.1, t2015.2.1, t2015.2.2.1, t2015.2.2.2.1, t2015.2.2.2.2] x2024) % 4294967296]) (HS.out.at2)) HS.out (by have := of_decide_eq_true c2037b0; simp only [List.length_cons, List.length_nil]; omega) HA2042 ?_; intro A2038 n2039 w2040 HS1; replace HS : Aside0 (Sep (fps []) w [b9 g1858 a1851 a1852 a1853 a1854 a1855 a1856 a1857, r6 A2038 y2041.length n2039 y2041, b10 g2034 ((rd [t2015.1, t2015.2.1, t2015.2.2.1, t2015.2.2.2.1, t2015.2.2.2.2] x2024) % 4294967296)] w2040) := ⟨HS1⟩; clear HS1; replace HS : Aside0 (Sep (fps []) w [b9 g1858 a1851 a1852 a1853 a1854 a1855 a1856 a1857, r6 A2038 y2041.length n2039 y2041] w2040) := ⟨HS.out.sub (.cons_cons _ (.cons_cons _ (.cons _ .slnil)))⟩))
              go_roundg k2022
              case measure => exact Nat.lt_succ_self _
              case rel => exact ⟨(wrap64 (x2024 + 1)), (y2041), (A2038), (y2041.length), (n2039), (by first | rfl | (simp [IntKind.wrap_u32]; done)), (by first | rfl | (simp [IntKind.wrap_u32]; done)), Aside0.mk AL2020.out, ⟨HS.out⟩⟩
            · replace AL2020 := if_no c2037 AL2020
              have c2037b0 : decide (x2025.length < 35184372088832) = false := decide_eq_false c2037
              clear c2037
              exact (none_no AL2020).elim
          · replace AL2020 := if_no c2031 AL2020
            have c2031b0 : decide (0 ≤ x2024) = false := decide_eq_false c2031
            clear c2031
            exact (none_no AL2020).elim
        · replace AL2020 := if_no c2030 AL2020
          have c2030b0 : decide (x2024 < 5) = false := decide_eq_false c2030
          clear c2030
          have ho := some_eq AL2020
          subst ho
          clear AL2020
          by_cases c2048 : x2025.length < 35184372088831
          · replace H := if_yes c2048 H
            have c2048b0 : decide (x2025.length < 35184372088831) = true := decide_eq_true c2048
            clear c2048
            obtain ⟨y2052, HA2053, H⟩ := bind_some H
            have hc2044 : w2021.cell? ⟨g1858, 6, none⟩ = some (.int .i64 a1857) := blk_cellv (HS.out.at0) 6 rfl
            go_wp2_with (first | ((with_reducible refine gate_dst (N := 29) rfl ?_); refine slice_on (n := 2) ?hg (N := 29) ?hd (cs := #[.int .u32 0, .int .u32 ((a1857) % 4294967296)]) (t := 33) ?hr ?_; (case hd => rfl); (case hg => rfl); (case hr => first | (go_simp; done) | (go_simp; rfl)); intro g2045 hg w2046 hbox hb; clear hc2044; replace HS : Aside0 (Sep (fps []) w [b9 g1858 a1851 a1852 a1853 a1854 a1855 a1856 a1857, r6 A2026 x2025.length n2028 x2025, b12 g2045 0 ((a1857) % 4294967296)] w2046) := ⟨HS.out.box hg hbox hb⟩; clear hg hbox hb) | ((with_reducible refine gate_dst (N := 30) rfl ?_); refine append_event (l1 := [b9 g1858 a1851 a1852 a1853 a1854 a1855 a1856 a1857]) (l2 := [b12 g2045 0 ((a1857) % 4294967296)]) rfl (.tmp 25) (.tmp 29) 69 33 (.int .u32 0) 4 rfl Tryd.underlying69 (by kernel_rfl) rfl (by decide) (Value.int .u32) (fun _ => rfl) (.slice A2026 x2025.length n2028) (x2025 : List Int) [0, (a1857) % 4294967296] ⟨g2045, 0, none⟩ 2 rfl rfl (blk_news (xs := [0, (a1857) % 4294967296]) (HS.out.at2)) HS.out (by have := of_decide_eq_true c2048b0; simp only [List.length_cons, List.length_nil]; omega) HA2053 ?_; intro A2049 n2050 w2051 HS1; replace HS : Aside0 (Sep (fps []) w [b9 g1858 a1851 a1852 a1853 a1854 a1855 a1856 a1857, r6 A2049 y2052.length n2050 y2052, b12 g2045 0 ((a1857) % 4294967296)] w2051) := ⟨HS1⟩; clear HS1) | ((with_reducible refine gate_dst (N := 31) rfl ?_); refine slice_on (n := 8) ?hg (N := 31) ?hd (cs := #[.int .i64 2, .int .i64 1, .int .i64 1, .int .i64 1, .int .i64 1, .int .i64 1, .int .i64 1, .int .i64 24]) (t := 3) ?hr ?_; (case hd => rfl); (case hg => rfl); (case hr => first | (go_simp; done) | (go_simp; rfl)); intro g2055 hg w2056 hbox hb; replace HS : Aside0 (Sep (fps []) w [b9 g1858 a1851 a1852 a1853 a1854 a1855 a1856 a1857, r6 A2049 y2052.length n2050 y2052, b12 g2045 0 ((a1857) % 4294967296), b13 g2055 2 1 1 1 1 1 1 24] w2056) := ⟨HS.out.box hg hbox hb⟩; clear hg hbox hb))
            obtain ⟨t2156, HA2157, H⟩ := bind_some H
            refine (pack_Join.calls _ y2052 [2, 1, 1, 1, 1, 1, 1, 24] A2049 n2050 (some ⟨g2055, 0, none⟩) 8 t2156 _ ⟨Rd.ownI (l := []) HS.out 1 rfl⟩ ⟨Rd.lit (l := []) (xs := [2, 1, 1, 1, 1, 1, 1, 24]) HS.out 3 rfl (by simp)⟩ ⟨HGl0.out.pass (l := []) HS.out⟩ ⟨Sep.start _⟩ HA2157).mono ?_
            rintro e_ w2158 ⟨rfl, hS⟩
            replace HS : Aside0 (Sep (fps []) w [b9 g1858 a1851 a1852 a1853 a1854 a1855 a1856 a1857, r6 A2049 y2052.length n2050 y2052, b12 g2045 0 ((a1857) % 4294967296), b13 g2055 2 1 1 1 1 1 1 24] w2158) := ⟨HS.out.call hS⟩
            clear hS
            replace HS : Aside0 (Sep (fps []) w [] w2158) := ⟨HS.out.sub (.cons _ (.cons _ (.cons _ (.cons _ .slnil))))⟩
            go_wp2_with fail
            go_ret2
            rw [← some_eq H]
            exact ⟨(by first | rfl | (simp [IntKind.wrap_u32]; done)), HS.out⟩
          · replace H := if_no c2048 H
            have c2048b0 : decide (x2025.length < 35184372088831) = false := decide_eq_false c2048
            clear c2048
            exact (none_no H).elim
  · replace H := if_no c2003 H
    have c2003b0 : t2000 = false := by simpa using c2003
    have c2003b1 : (!t2000) = true := by rw [c2003b0]; rfl
    try rw [c2003b1]
    clear c2003
    replace HS : Aside0 (Sep (fps []) w [] w2002) := ⟨HS.out.sub (.cons _ .slnil)⟩
    go_wp2_with fail
    go_ret2
    rw [← some_eq H]
    exact ⟨(by first | rfl | (simp [IntKind.wrap_u32]; done)), HS.out⟩

set_option maxHeartbeats 30000000 in
set_option maxRecDepth 100000 in
theorem ring_mark.calls (k : Nat) (l1819 : List Int) (a1824 : Int) (a1825 : Int) (a1826 : Int) (a1827 : Int) (a1828 : Int) (a1829 : Int) (a1830 : Int) (a1831 : Int) (a1832 : Int) (a1833 : Int) (a1834 : Int) (a1835 : Int) (a1836 : Int) (a1837 : Int) (g1815 : Nat) (g1817 : Nat) (A1820 : Option Addr) (m1821 : Nat) (n1822 : Nat) (r : Int × List Int) (w : World)  (HGl0 : Aside0 (Gl 0 #[.int .i64 0, .int .i64 0, .int .i64 0, .int .i64 0, .int .i64 0] (fps [b8 g1815 g1817 a1825 a1826 a1827 a1828, b7 g1817 A1820 m1821 n1822 a1824, r6 A1820 m1821 n1822 l1819]) w)) (HS : Aside0 (Sep (fps [b8 g1815 g1817 a1825 a1826 a1827 a1828, b7 g1817 A1820 m1821 n1822 a1824, r6 A1820 m1821 n1822 l1819]) w [b8 g1815 g1817 a1825 a1826 a1827 a1828, b7 g1817 A1820 m1821 n1822 a1824, r6 A1820 m1821 n1822 l1819] w)) (H : Aside0 (ring_mark.f k l1819 a1824 a1825 a1826 a1827 a1828 a1829 a1830 a1831 a1832 a1833 a1834 a1835 a1836 a1837 = some r)) :
    Calls Tryd.prog 80 #[.pointer (some ⟨g1815, 0, none⟩), .int .i64 a1829, .agg #[.int .i64 a1830, .int .i64 a1831, .int .i64 a1832, .int .i64 a1833, .int .i64 a1834, .int .i64 a1835, .int .i64 a1836], .int .i64 a1837] w fun e w' => e = .returned (.tuple #[]) ∧ Sep (fps [b8 g1815 g1817 a1825 a1826 a1827 a1828, b7 g1817 A1820 m1821 n1822 a1824, r6 A1820 m1821 n1822 l1819]) w [b8 g1815 g1817 a1825 a1826 a1827 a1828, b7 g1817 A1820 m1821 n1822 r.1, r6 A1820 m1821 n1822 r.2] w' := by
  generalize (fps [b8 g1815 g1817 a1825 a1826 a1827 a1828, b7 g1817 A1820 m1821 n1822 a1824, r6 A1820 m1821 n1822 l1819]) = FF at HS HGl0 ⊢
  obtain rfl := (row_len (HS.out.at2)).symm
  unfold ring_mark.f at H
  go_enter Tryd.func80, Tryd.ntmps80
  go_wp2_with (first | ((with_reducible refine gate_dst (N := 6) rfl ?_); refine box_on ?hg (N := 6) ?hd (cs := #[.int .i64 a1830, .int .i64 a1831, .int .i64 a1832, .int .i64 a1833, .int .i64 a1834, .int .i64 a1835, .int .i64 a1836]) (t := 32) ?hr ?_; (case hd => rfl); (case hg => rfl); (case hr => first | (go_simp; done) | (go_simp; rfl)); intro g2185 hg w2186 hbox hb; replace HS : Aside0 (Sep FF w [b8 g1815 g1817 a1825 a1826 a1827 a1828, b7 g1817 A1820 l1819.length n1822 a1824, r6 A1820 l1819.length n1822 l1819, b9 g2185 a1830 a1831 a1832 a1833 a1834 a1835 a1836] w2186) := ⟨HS.out.box hg hbox hb⟩; clear hg hbox hb; have hc2188 : w2186.cell? ⟨g2185, 5, none⟩ = some (.int .i64 a1835) := blk_cellv (HS.out.at3) 5 rfl; have hz2189 : w2186.frozen? ⟨g2185, 5, none⟩ = false := blk_fz (HS.out.at3) 5) | ((with_reducible refine gate_store (t := 3) (p := 11) rfl ?_); refine store_event (w1 := (World.setCell w2186 ⟨g2185, 5, none⟩ (.int .i64 a1837))) rfl (t := 3) (p := 11) rfl rfl ?hr ?_; (case hr => first | (go_simp; done) | (go_simp; rfl)); intro w2190 hst; clear hc2188 hz2189; have hq0 : Sep FF w [b8 g1815 g1817 a1825 a1826 a1827 a1828, b7 g1817 A1820 l1819.length n1822 a1824, r6 A1820 l1819.length n1822 l1819, b9 g2185 a1830 a1831 a1832 a1833 a1834 a1837 a1836] (World.setCell w2186 ⟨g2185, 5, none⟩ (.int .i64 a1837)) := (HS.out).set1 (l1 := [b8 g1815 g1817 a1825 a1826 a1827 a1828, b7 g1817 A1820 l1819.length n1822 a1824, r6 A1820 l1819.length n1822 l1819]) (l2 := []) 5 (.int .i64 a1837); replace HS : Aside0 (Sep FF w [b8 g1815 g1817 a1825 a1826 a1827 a1828, b7 g1817 A1820 l1819.length n1822 a1824, r6 A1820 l1819.length n1822 l1819, b9 g2185 a1830 a1831 a1832 a1833 a1834 a1837 a1836] w2190) := ⟨by rw [hst]; exact hq0⟩; clear hq0; clear hst; have hc2191 : w2190.cell? ⟨g2185, 0, none⟩ = some (.int .i64 a1830) := blk_cellv (HS.out.at3) 0 rfl; have hc2192 : w2190.cell? ⟨g2185, 1, none⟩ = some (.int .i64 a1831) := blk_cellv (HS.out.at3) 1 rfl; have hc2193 : w2190.cell? ⟨g2185, 2, none⟩ = some (.int .i64 a1832) := blk_cellv (HS.out.at3) 2 rfl; have hc2194 : w2190.cell? ⟨g2185, 3, none⟩ = some (.int .i64 a1833) := blk_cellv (HS.out.at3) 3 rfl; have hc2195 : w2190.cell? ⟨g2185, 4, none⟩ = some (.int .i64 a1834) := blk_cellv (HS.out.at3) 4 rfl; have hc2196 : w2190.cell? ⟨g2185, 5, none⟩ = some (.int .i64 a1837) := blk_cellv (HS.out.at3) 5 rfl; have hc2197 : w2190.cell? ⟨g2185, 6, none⟩ = some (.int .i64 a1836) := blk_cellv (HS.out.at3) 6 rfl))
  clear hc2191 hc2192 hc2193 hc2194 hc2195 hc2196 hc2197
  obtain ⟨t2198, HA2199, H⟩ := bind_some H
  refine (tag_Pack.calls _ a1830 a1831 a1832 a1833 a1834 a1837 a1836 t2198 _ ⟨HGl0.out.pass (l := []) HS.out⟩ ⟨Sep.start _⟩ HA2199).mono ?_
  rintro e_ w2200 ⟨rfl, hS⟩
  replace HS : Aside0 (Sep FF w [b8 g1815 g1817 a1825 a1826 a1827 a1828, b7 g1817 A1820 l1819.length n1822 a1824, r6 A1820 l1819.length n1822 l1819, b9 g2185 a1830 a1831 a1832 a1833 a1834 a1837 a1836] w2200) := ⟨HS.out.call hS⟩
  clear hS
  by_cases c2201 : t2198.2 = 0
  · replace H := if_yes c2201 H
    have c2201b0 : (t2198.2 == 0) = true := beq_iff_eq.mpr c2201
    have c2201b1 : (t2198.2 != 0) = false := bne_eq_false_iff_eq.mpr c2201
    clear c2201
    replace HS : Aside0 (Sep FF w [b8 g1815 g1817 a1825 a1826 a1827 a1828, b7 g1817 A1820 l1819.length n1822 a1824, r6 A1820 l1819.length n1822 l1819] w2200) := ⟨HS.out.sub (.cons_cons _ (.cons_cons _ (.cons_cons _ (.cons _ .slnil))))⟩
    go_wp2_with fail
    obtain ⟨t2202, HA2203, H⟩ := bind_some H
    refine (ground_Ground_SetWord.calls l1819 a1824 a1825 a1826 a1827 a1828 a1829 0 t2198.1 g1815 g1817 A1820 l1819.length n1822 t2202 _ ⟨HGl0.out.pass HS.out⟩ ⟨HS.out.begin⟩ HA2203).mono ?_
    rintro e_ w2204 ⟨rfl, hS⟩
    replace HS : Aside0 (Sep FF w [b8 g1815 g1817 a1825 a1826 a1827 a1828, b7 g1817 A1820 l1819.length n1822 t2202.2.1, r6 A1820 l1819.length n1822 t2202.2.2] w2204) := ⟨HS.out.call hS⟩
    clear hS
    go_wp2_with fail
    first | go_end0 | refine bodyPost_ret (results_none rfl _ _ _) rfl ?_
    rw [← some_eq H]
    exact ⟨rfl, HS.out⟩
  · replace H := if_no c2201 H
    have c2201b0 : (t2198.2 == 0) = false := beq_eq_false_iff_ne.mpr c2201
    have c2201b1 : (t2198.2 != 0) = true := bne_iff_ne.mpr c2201
    clear c2201
    replace HS : Aside0 (Sep FF w [b8 g1815 g1817 a1825 a1826 a1827 a1828, b7 g1817 A1820 l1819.length n1822 a1824, r6 A1820 l1819.length n1822 l1819] w2200) := ⟨HS.out.sub (.cons_cons _ (.cons_cons _ (.cons_cons _ (.cons _ .slnil))))⟩
    go_wp2_with fail
    first | go_end0 | refine bodyPost_ret (results_none rfl _ _ _) rfl ?_
    rw [← some_eq H]
    exact ⟨rfl, HS.out⟩

set_option maxHeartbeats 30000000 in
set_option maxRecDepth 100000 in
theorem ground_reg.calls (a2227 : Int) (r : Int) (w : World)  (HGl0 : Aside0 (Gl 0 #[.int .i64 0, .int .i64 0, .int .i64 0, .int .i64 0, .int .i64 0] (fps []) w)) (HS : Aside0 (Sep (fps []) w [] w)) (H : Aside0 (ground_reg.f a2227 = some r)) :
    Calls Tryd.prog 131 #[.int .i64 a2227] w fun e w' => e = .returned (.int .i64 r) ∧ Sep (fps []) w [] w' := by
  unfold ground_reg.f at H
  go_enter Tryd.func131, Tryd.ntmps131
  go_wp2_with fail
  obtain ⟨t2228, HA2229, H⟩ := bind_some H
  refine (ground_within.calls a2227 24 0 t2228 _ ⟨HGl0.out.pass (l := []) HS.out⟩ ⟨Sep.start _⟩ HA2229).mono ?_
  rintro e_ w2230 ⟨rfl, hS⟩
  replace HS : Aside0 (Sep (fps []) w [] w2230) := ⟨HS.out.call hS⟩
  clear hS
  go_wp2_with fail
  go_ret
  rw [← some_eq H]
  exact ⟨(by first | rfl | (simp [IntKind.wrap_u32]; done)), HS.out⟩

set_option maxHeartbeats 30000000 in
set_option maxRecDepth 100000 in
theorem ground_Ground_Reg.calls (l2213 : List Int) (a2218 : Int) (a2219 : Int) (a2220 : Int) (a2221 : Int) (a2222 : Int) (a2223 : Int) (g2209 : Nat) (g2211 : Nat) (A2214 : Option Addr) (m2215 : Nat) (n2216 : Nat) (r : Int × Int) (w : World)  (HGl0 : Aside0 (Gl 0 #[.int .i64 0, .int .i64 0, .int .i64 0, .int .i64 0, .int .i64 0] (fps [b8 g2209 g2211 a2219 a2220 a2221 a2222, b7 g2211 A2214 m2215 n2216 a2218, r6 A2214 m2215 n2216 l2213]) w)) (HS : Aside0 (Sep (fps [b8 g2209 g2211 a2219 a2220 a2221 a2222, b7 g2211 A2214 m2215 n2216 a2218, r6 A2214 m2215 n2216 l2213]) w [b8 g2209 g2211 a2219 a2220 a2221 a2222, b7 g2211 A2214 m2215 n2216 a2218, r6 A2214 m2215 n2216 l2213] w)) (H : Aside0 (ground_Ground_Reg.f l2213 a2218 a2219 a2220 a2221 a2222 a2223 = some r)) :
    Calls Tryd.prog 81 #[.pointer (some ⟨g2209, 0, none⟩), .int .i64 a2223] w fun e w' => e = .returned (.int .i64 r.1) ∧ Sep (fps [b8 g2209 g2211 a2219 a2220 a2221 a2222, b7 g2211 A2214 m2215 n2216 a2218, r6 A2214 m2215 n2216 l2213]) w [b8 g2209 g2211 a2219 a2220 a2221 a2222, b7 g2211 A2214 m2215 n2216 r.2, r6 A2214 m2215 n2216 l2213] w' := by
  generalize (fps [b8 g2209 g2211 a2219 a2220 a2221 a2222, b7 g2211 A2214 m2215 n2216 a2218, r6 A2214 m2215 n2216 l2213]) = FF at HS HGl0 ⊢
  obtain rfl := (row_len (HS.out.at2)).symm
  unfold ground_Ground_Reg.f at H
  go_enter Tryd.func81, Tryd.ntmps81
  go_wp2_with fail
  obtain ⟨t2237, HA2238, H⟩ := bind_some H
  refine (ground_Ground_all.calls l2213 a2218 a2219 a2220 a2221 a2222 g2209 g2211 A2214 l2213.length n2216 t2237 _ ⟨HGl0.out.pass HS.out⟩ ⟨HS.out.begin⟩ HA2238).mono ?_
  rintro e_ w2239 ⟨rfl, hS⟩
  replace HS : Aside0 (Sep FF w [b8 g2209 g2211 a2219 a2220 a2221 a2222, b7 g2211 A2214 l2213.length n2216 a2218, r6 A2214 l2213.length n2216 l2213] w2239) := ⟨HS.out.call hS⟩
  clear hS
  go_wp2_with fail
  obtain ⟨t2240, HA2241, H⟩ := bind_some H
  refine (ground_reg.calls a2223 t2240 _ ⟨HGl0.out.pass (l := []) HS.out⟩ ⟨Sep.start _⟩ HA2241).mono ?_
  rintro e_ w2242 ⟨rfl, hS⟩
  replace HS : Aside0 (Sep FF w [b8 g2209 g2211 a2219 a2220 a2221 a2222, b7 g2211 A2214 l2213.length n2216 a2218, r6 A2214 l2213.length n2216 l2213] w2242) := ⟨HS.out.call hS⟩
  clear hS
  go_wp2_with fail
  replace HS : Aside0 (Sep FF w [r6 A2214 l2213.length n2216 l2213, b8 g2209 g2211 a2219 a2220 a2221 a2222, b7 g2211 A2214 l2213.length n2216 a2218] w2242) := ⟨HS.out.front 2 (by simp)⟩
  replace HS : Aside0 (Sep FF w [b7 g2211 A2214 l2213.length n2216 a2218, r6 A2214 l2213.length n2216 l2213, b8 g2209 g2211 a2219 a2220 a2221 a2222] w2242) := ⟨HS.out.front 2 (by simp)⟩
  obtain ⟨t2243, HA2244, H⟩ := bind_some H
  refine (store_Store_Get.calls l2213 a2218 t2240 g2211 A2214 l2213.length n2216 t2243 _ ⟨HGl0.out.pass HS.out⟩ ⟨HS.out.begin⟩ HA2244).mono ?_
  rintro e_ w2245 ⟨rfl, hS⟩
  replace HS : Aside0 (Sep FF w [b7 g2211 A2214 l2213.length n2216 t2243.2, r6 A2214 l2213.length n2216 l2213, b8 g2209 g2211 a2219 a2220 a2221 a2222] w2245) := ⟨HS.out.call hS⟩
  clear hS
  go_wp2_with fail
  go_ret
  rw [← some_eq H]
  exact ⟨(by first | rfl | (simp [IntKind.wrap_u32]; done)), ((((HS.out).front 1 (by simp)).front 1 (by simp)).front 2 (by simp)).keep (l := [b8 g2209 g2211 a2219 a2220 a2221 a2222, b7 g2211 A2214 l2213.length n2216 t2243.2, r6 A2214 l2213.length n2216 l2213]) (rest := [])⟩

set_option maxHeartbeats 30000000 in
set_option maxRecDepth 100000 in
theorem ground_Ground_set.calls (l2300 : List Int) (a2305 : Int) (a2306 : Int) (a2307 : Int) (a2308 : Int) (a2309 : Int) (a2310 : Int) (a2311 : Int) (g2296 : Nat) (g2298 : Nat) (A2301 : Option Addr) (m2302 : Nat) (n2303 : Nat) (r : Bool × Int × List Int) (w : World)  (HGl0 : Aside0 (Gl 0 #[.int .i64 0, .int .i64 0, .int .i64 0, .int .i64 0, .int .i64 0] (fps [b8 g2296 g2298 a2306 a2307 a2308 a2309, b7 g2298 A2301 m2302 n2303 a2305, r6 A2301 m2302 n2303 l2300]) w)) (HS : Aside0 (Sep (fps [b8 g2296 g2298 a2306 a2307 a2308 a2309, b7 g2298 A2301 m2302 n2303 a2305, r6 A2301 m2302 n2303 l2300]) w [b8 g2296 g2298 a2306 a2307 a2308 a2309, b7 g2298 A2301 m2302 n2303 a2305, r6 A2301 m2302 n2303 l2300] w)) (H : Aside0 (ground_Ground_set.f l2300 a2305 a2306 a2307 a2308 a2309 a2310 a2311 = some r)) :
    Calls Tryd.prog 132 #[.pointer (some ⟨g2296, 0, none⟩), .int .i64 a2310, .int .i64 a2311] w fun e w' => e = .returned (.bool r.1) ∧ Sep (fps [b8 g2296 g2298 a2306 a2307 a2308 a2309, b7 g2298 A2301 m2302 n2303 a2305, r6 A2301 m2302 n2303 l2300]) w [b8 g2296 g2298 a2306 a2307 a2308 a2309, b7 g2298 A2301 m2302 n2303 r.2.1, r6 A2301 m2302 n2303 r.2.2] w' := by
  generalize (fps [b8 g2296 g2298 a2306 a2307 a2308 a2309, b7 g2298 A2301 m2302 n2303 a2305, r6 A2301 m2302 n2303 l2300]) = FF at HS HGl0 ⊢
  obtain rfl := (row_len (HS.out.at2)).symm
  unfold ground_Ground_set.f at H
  go_enter Tryd.func132, Tryd.ntmps132
  by_cases c2320 : a2311 < 0
  · replace H := if_yes c2320 H
    have c2320b0 : decide (a2311 < 0) = true := decide_eq_true c2320
    clear c2320
    go_wp2_with fail
    go_ret
    rw [← some_eq H]
    exact ⟨(by first | rfl | (simp [IntKind.wrap_u32]; done)), HS.out⟩
  · replace H := if_no c2320 H
    have c2320b0 : decide (a2311 < 0) = false := decide_eq_false c2320
    clear c2320
    by_cases c2321 : a2311 > 4294967295
    · replace H := if_yes c2321 H
      have c2321b0 : decide (4294967295 < a2311) = true := decide_eq_true c2321
      clear c2321
      go_wp2_with fail
      go_ret
      rw [← some_eq H]
      exact ⟨(by first | rfl | (simp [IntKind.wrap_u32]; done)), HS.out⟩
    · replace H := if_no c2321 H
      have c2321b0 : decide (4294967295 < a2311) = false := decide_eq_false c2321
      clear c2321
      go_wp2_with fail
      obtain ⟨t2322, HA2323, H⟩ := bind_some H
      refine (ground_Ground_all.calls l2300 a2305 a2306 a2307 a2308 a2309 g2296 g2298 A2301 l2300.length n2303 t2322 _ ⟨HGl0.out.pass HS.out⟩ ⟨HS.out.begin⟩ HA2323).mono ?_
      rintro e_ w2324 ⟨rfl, hS⟩
      replace HS : Aside0 (Sep FF w [b8 g2296 g2298 a2306 a2307 a2308 a2309, b7 g2298 A2301 l2300.length n2303 a2305, r6 A2301 l2300.length n2303 l2300] w2324) := ⟨HS.out.call hS⟩
      clear hS
      go_wp2_with fail
      replace HS : Aside0 (Sep FF w [r6 A2301 l2300.length n2303 l2300, b8 g2296 g2298 a2306 a2307 a2308 a2309, b7 g2298 A2301 l2300.length n2303 a2305] w2324) := ⟨HS.out.front 2 (by simp)⟩
      replace HS : Aside0 (Sep FF w [b7 g2298 A2301 l2300.length n2303 a2305, r6 A2301 l2300.length n2303 l2300, b8 g2296 g2298 a2306 a2307 a2308 a2309] w2324) := ⟨HS.out.front 2 (by simp)⟩
      obtain ⟨t2325, HA2326, H⟩ := bind_some H
      refine (store_Store_Put.calls l2300 a2305 a2310 ((a2311) % 4294967296) g2298 A2301 l2300.length n2303 t2325 _ ⟨HGl0.out.pass HS.out⟩ ⟨HS.out.begin⟩ HA2326).mono ?_
      rintro e_ w2327 ⟨rfl, hS⟩
      replace HS : Aside0 (Sep FF w [b7 g2298 A2301 l2300.length n2303 t2325.2.1, r6 A2301 l2300.length n2303 t2325.2.2, b8 g2296 g2298 a2306 a2307 a2308 a2309] w2327) := ⟨HS.out.call hS⟩
      clear hS
      go_wp2_with fail
      go_ret
      rw [← some_eq H]
      exact ⟨(by first | rfl | (simp [IntKind.wrap_u32]; done)), ((((HS.out).front 1 (by simp)).front 1 (by simp)).front 2 (by simp)).keep (l := [b8 g2296 g2298 a2306 a2307 a2308 a2309, b7 g2298 A2301 l2300.length n2303 t2325.2.1, r6 A2301 l2300.length n2303 t2325.2.2]) (rest := [])⟩

set_option maxHeartbeats 30000000 in
set_option maxRecDepth 100000 in
theorem ground_Ground_SetReg.calls (l2280 : List Int) (a2285 : Int) (a2286 : Int) (a2287 : Int) (a2288 : Int) (a2289 : Int) (a2290 : Int) (a2291 : Int) (g2276 : Nat) (g2278 : Nat) (A2281 : Option Addr) (m2282 : Nat) (n2283 : Nat) (r : Bool × Int × List Int) (w : World)  (HGl0 : Aside0 (Gl 0 #[.int .i64 0, .int .i64 0, .int .i64 0, .int .i64 0, .int .i64 0] (fps [b8 g2276 g2278 a2286 a2287 a2288 a2289, b7 g2278 A2281 m2282 n2283 a2285, r6 A2281 m2282 n2283 l2280]) w)) (HS : Aside0 (Sep (fps [b8 g2276 g2278 a2286 a2287 a2288 a2289, b7 g2278 A2281 m2282 n2283 a2285, r6 A2281 m2282 n2283 l2280]) w [b8 g2276 g2278 a2286 a2287 a2288 a2289, b7 g2278 A2281 m2282 n2283 a2285, r6 A2281 m2282 n2283 l2280] w)) (H : Aside0 (ground_Ground_SetReg.f l2280 a2285 a2286 a2287 a2288 a2289 a2290 a2291 = some r)) :
    Calls Tryd.prog 83 #[.pointer (some ⟨g2276, 0, none⟩), .int .i64 a2290, .int .i64 a2291] w fun e w' => e = .returned (.bool r.1) ∧ Sep (fps [b8 g2276 g2278 a2286 a2287 a2288 a2289, b7 g2278 A2281 m2282 n2283 a2285, r6 A2281 m2282 n2283 l2280]) w [b8 g2276 g2278 a2286 a2287 a2288 a2289, b7 g2278 A2281 m2282 n2283 r.2.1, r6 A2281 m2282 n2283 r.2.2] w' := by
  generalize (fps [b8 g2276 g2278 a2286 a2287 a2288 a2289, b7 g2278 A2281 m2282 n2283 a2285, r6 A2281 m2282 n2283 l2280]) = FF at HS HGl0 ⊢
  obtain rfl := (row_len (HS.out.at2)).symm
  unfold ground_Ground_SetReg.f at H
  go_enter Tryd.func83, Tryd.ntmps83
  go_wp2_with fail
  obtain ⟨t2331, HA2332, H⟩ := bind_some H
  refine (ground_reg.calls a2290 t2331 _ ⟨HGl0.out.pass (l := []) HS.out⟩ ⟨Sep.start _⟩ HA2332).mono ?_
  rintro e_ w2333 ⟨rfl, hS⟩
  replace HS : Aside0 (Sep FF w [b8 g2276 g2278 a2286 a2287 a2288 a2289, b7 g2278 A2281 l2280.length n2283 a2285, r6 A2281 l2280.length n2283 l2280] w2333) := ⟨HS.out.call hS⟩
  clear hS
  go_wp2_with fail
  obtain ⟨t2334, HA2335, H⟩ := bind_some H
  refine (ground_Ground_set.calls l2280 a2285 a2286 a2287 a2288 a2289 t2331 a2291 g2276 g2278 A2281 l2280.length n2283 t2334 _ ⟨HGl0.out.pass HS.out⟩ ⟨HS.out.begin⟩ HA2335).mono ?_
  rintro e_ w2336 ⟨rfl, hS⟩
  replace HS : Aside0 (Sep FF w [b8 g2276 g2278 a2286 a2287 a2288 a2289, b7 g2278 A2281 l2280.length n2283 t2334.2.1, r6 A2281 l2280.length n2283 t2334.2.2] w2336) := ⟨HS.out.call hS⟩
  clear hS
  go_wp2_with fail
  go_ret
  rw [← some_eq H]
  exact ⟨(by first | rfl | (simp [IntKind.wrap_u32]; done)), HS.out⟩

set_option maxHeartbeats 30000000 in
set_option maxRecDepth 100000 in
theorem ring_link.calls (l2260 : List Int) (a2265 : Int) (a2266 : Int) (a2267 : Int) (a2268 : Int) (a2269 : Int) (a2270 : Int) (a2271 : Int) (a2272 : Int) (a2273 : Int) (g2256 : Nat) (g2258 : Nat) (A2261 : Option Addr) (m2262 : Nat) (n2263 : Nat) (r : Int × List Int) (w : World)  (HGl0 : Aside0 (Gl 0 #[.int .i64 0, .int .i64 0, .int .i64 0, .int .i64 0, .int .i64 0] (fps [b8 g2256 g2258 a2266 a2267 a2268 a2269, b7 g2258 A2261 m2262 n2263 a2265, r6 A2261 m2262 n2263 l2260]) w)) (HS : Aside0 (Sep (fps [b8 g2256 g2258 a2266 a2267 a2268 a2269, b7 g2258 A2261 m2262 n2263 a2265, r6 A2261 m2262 n2263 l2260]) w [b8 g2256 g2258 a2266 a2267 a2268 a2269, b7 g2258 A2261 m2262 n2263 a2265, r6 A2261 m2262 n2263 l2260] w)) (H : Aside0 (ring_link.f l2260 a2265 a2266 a2267 a2268 a2269 a2270 a2271 a2272 a2273 = some r)) :
    Calls Tryd.prog 82 #[.pointer (some ⟨g2256, 0, none⟩), .int .i64 a2270, .int .i64 a2271, .int .i64 a2272, .int .i64 a2273] w fun e w' => e = .returned (.tuple #[]) ∧ Sep (fps [b8 g2256 g2258 a2266 a2267 a2268 a2269, b7 g2258 A2261 m2262 n2263 a2265, r6 A2261 m2262 n2263 l2260]) w [b8 g2256 g2258 a2266 a2267 a2268 a2269, b7 g2258 A2261 m2262 n2263 r.1, r6 A2261 m2262 n2263 r.2] w' := by
  generalize (fps [b8 g2256 g2258 a2266 a2267 a2268 a2269, b7 g2258 A2261 m2262 n2263 a2265, r6 A2261 m2262 n2263 l2260]) = FF at HS HGl0 ⊢
  obtain rfl := (row_len (HS.out.at2)).symm
  unfold ring_link.f at H
  go_enter Tryd.func82, Tryd.ntmps82
  by_cases c2340 : a2270 = 0
  · replace H := if_yes c2340 H
    have c2340b0 : (a2270 == 0) = true := beq_iff_eq.mpr c2340
    have c2340b1 : (a2270 != 0) = false := bne_eq_false_iff_eq.mpr c2340
    clear c2340
    go_wp2_with fail
    obtain ⟨t2341, HA2342, H⟩ := bind_some H
    refine (ground_Ground_SetReg.calls l2260 a2265 a2266 a2267 a2268 a2269 a2272 a2273 g2256 g2258 A2261 l2260.length n2263 t2341 _ ⟨HGl0.out.pass HS.out⟩ ⟨HS.out.begin⟩ HA2342).mono ?_
    rintro e_ w2343 ⟨rfl, hS⟩
    replace HS : Aside0 (Sep FF w [b8 g2256 g2258 a2266 a2267 a2268 a2269, b7 g2258 A2261 l2260.length n2263 t2341.2.1, r6 A2261 l2260.length n2263 t2341.2.2] w2343) := ⟨HS.out.call hS⟩
    clear hS
    go_wp2_with fail
    first | go_end0 | refine bodyPost_ret (results_none rfl _ _ _) rfl ?_
    rw [← some_eq H]
    exact ⟨rfl, HS.out⟩
  · replace H := if_no c2340 H
    have c2340b0 : (a2270 == 0) = false := beq_eq_false_iff_ne.mpr c2340
    have c2340b1 : (a2270 != 0) = true := bne_iff_ne.mpr c2340
    clear c2340
    go_wp2_with fail
    obtain ⟨t2344, HA2345, H⟩ := bind_some H
    refine (ground_Ground_SetWord.calls l2260 a2265 a2266 a2267 a2268 a2269 (wrap64 (a2270 - 1)) a2271 ((a2273) % 4294967296) g2256 g2258 A2261 l2260.length n2263 t2344 _ ⟨HGl0.out.pass HS.out⟩ ⟨HS.out.begin⟩ HA2345).mono ?_
    rintro e_ w2346 ⟨rfl, hS⟩
    replace HS : Aside0 (Sep FF w [b8 g2256 g2258 a2266 a2267 a2268 a2269, b7 g2258 A2261 l2260.length n2263 t2344.2.1, r6 A2261 l2260.length n2263 t2344.2.2] w2346) := ⟨HS.out.call hS⟩
    clear hS
    go_wp2_with fail
    first | go_end0 | refine bodyPost_ret (results_none rfl _ _ _) rfl ?_
    rw [← some_eq H]
    exact ⟨rfl, HS.out⟩

set_option maxHeartbeats 30000000 in
set_option maxRecDepth 100000 in
theorem ring_Add.calls (k : Nat) (l1358 : List Int) (a1363 : Int) (a1364 : Int) (a1365 : Int) (a1366 : Int) (a1367 : Int) (a1368 : Int) (g1354 : Nat) (g1356 : Nat) (A1359 : Option Addr) (m1360 : Nat) (n1361 : Nat) (r : Bool × Int × List Int) (w : World)  (HGl0 : Aside0 (Gl 0 #[.int .i64 0, .int .i64 0, .int .i64 0, .int .i64 0, .int .i64 0] (fps [b8 g1354 g1356 a1364 a1365 a1366 a1367, b7 g1356 A1359 m1360 n1361 a1363, r6 A1359 m1360 n1361 l1358]) w)) (HS : Aside0 (Sep (fps [b8 g1354 g1356 a1364 a1365 a1366 a1367, b7 g1356 A1359 m1360 n1361 a1363, r6 A1359 m1360 n1361 l1358]) w [b8 g1354 g1356 a1364 a1365 a1366 a1367, b7 g1356 A1359 m1360 n1361 a1363, r6 A1359 m1360 n1361 l1358] w)) (H : Aside0 (ring_Add.f k l1358 a1363 a1364 a1365 a1366 a1367 a1368 = some r)) :
    Calls Tryd.prog 23 #[.pointer (some ⟨g1354, 0, none⟩), .int .i64 a1368] w fun e w' => e = .returned (.bool r.1) ∧ Sep (fps [b8 g1354 g1356 a1364 a1365 a1366 a1367, b7 g1356 A1359 m1360 n1361 a1363, r6 A1359 m1360 n1361 l1358]) w [b8 g1354 g1356 a1364 a1365 a1366 a1367, b7 g1356 A1359 m1360 n1361 r.2.1, r6 A1359 m1360 n1361 r.2.2] w' := by
  generalize (fps [b8 g1354 g1356 a1364 a1365 a1366 a1367, b7 g1356 A1359 m1360 n1361 a1363, r6 A1359 m1360 n1361 l1358]) = FF at HS HGl0 ⊢
  obtain rfl := (row_len (HS.out.at2)).symm
  unfold ring_Add.f at H
  go_enter Tryd.func23, Tryd.ntmps23
  go_wp2_with fail
  obtain ⟨t2359, HA2360, H⟩ := bind_some H
  refine (ring_marked.calls l1358 a1363 a1364 a1365 a1366 a1367 a1368 0 g1354 g1356 A1359 l1358.length n1361 t2359 _ ⟨HGl0.out.pass HS.out⟩ ⟨HS.out.begin⟩ HA2360).mono ?_
  rintro e_ w2361 ⟨rfl, hS⟩
  replace HS : Aside0 (Sep FF w [b8 g1354 g1356 a1364 a1365 a1366 a1367, b7 g1356 A1359 l1358.length n1361 t2359.2.2.2.2.2.2.2.2, r6 A1359 l1358.length n1361 l1358] w2361) := ⟨HS.out.call hS⟩
  clear hS
  by_cases c2380 : t2359.2.2.2.2.2.2.2.1 = true
  · replace H := if_yes c2380 H
    have c2380b0 : t2359.2.2.2.2.2.2.2.1 = true := c2380
    have c2380b1 : (!t2359.2.2.2.2.2.2.2.1) = false := by rw [c2380b0]; rfl
    try rw [c2380b1]
    clear c2380
    go_wp2_with (first | ((with_reducible refine gate_dst (N := 5) rfl ?_); refine box_on ?hg (N := 5) ?hd (cs := #[.int .i64 0, .int .i64 0, .int .i64 0, .int .i64 0, .int .i64 0, .int .i64 0, .int .i64 0]) (t := 32) ?hr ?_; (case hd => rfl); (case hg => rfl); (case hr => first | (go_simp; done) | (go_simp; rfl)); intro g2362 hg w2363 hbox hb; replace HS : Aside0 (Sep FF w [b8 g1354 g1356 a1364 a1365 a1366 a1367, b7 g1356 A1359 l1358.length n1361 t2359.2.2.2.2.2.2.2.2, r6 A1359 l1358.length n1361 l1358, b9 g2362 0 0 0 0 0 0 0] w2363) := ⟨HS.out.box hg hbox hb⟩; clear hg hbox hb; have hc2365 : w2363.cell? ⟨g2362, 0, none⟩ = some (.int .i64 0) := blk_cellv (HS.out.at3) 0 rfl; have hz2366 : w2363.frozen? ⟨g2362, 0, none⟩ = false := blk_fz (HS.out.at3) 0; have hc2367 : w2363.cell? ⟨g2362, 1, none⟩ = some (.int .i64 0) := blk_cellv (HS.out.at3) 1 rfl; have hz2368 : w2363.frozen? ⟨g2362, 1, none⟩ = false := blk_fz (HS.out.at3) 1; have hc2369 : w2363.cell? ⟨g2362, 2, none⟩ = some (.int .i64 0) := blk_cellv (HS.out.at3) 2 rfl; have hz2370 : w2363.frozen? ⟨g2362, 2, none⟩ = false := blk_fz (HS.out.at3) 2; have hc2371 : w2363.cell? ⟨g2362, 3, none⟩ = some (.int .i64 0) := blk_cellv (HS.out.at3) 3 rfl; have hz2372 : w2363.frozen? ⟨g2362, 3, none⟩ = false := blk_fz (HS.out.at3) 3; have hc2373 : w2363.cell? ⟨g2362, 4, none⟩ = some (.int .i64 0) := blk_cellv (HS.out.at3) 4 rfl; have hz2374 : w2363.frozen? ⟨g2362, 4, none⟩ = false := blk_fz (HS.out.at3) 4; have hc2375 : w2363.cell? ⟨g2362, 5, none⟩ = some (.int .i64 0) := blk_cellv (HS.out.at3) 5 rfl; have hz2376 : w2363.frozen? ⟨g2362, 5, none⟩ = false := blk_fz (HS.out.at3) 5; have hc2377 : w2363.cell? ⟨g2362, 6, none⟩ = some (.int .i64 0) := blk_cellv (HS.out.at3) 6 rfl; have hz2378 : w2363.frozen? ⟨g2362, 6, none⟩ = false := blk_fz (HS.out.at3) 6) | ((with_reducible refine gate_store (t := 32) (p := 5) rfl ?_); refine store_event (w1 := (World.setCell (World.setCell (World.setCell (World.setCell (World.setCell (World.setCell (World.setCell w2363 ⟨g2362, 0, none⟩ (.int .i64 t2359.1)) ⟨g2362, 1, none⟩ (.int .i64 t2359.2.1)) ⟨g2362, 2, none⟩ (.int .i64 t2359.2.2.1)) ⟨g2362, 3, none⟩ (.int .i64 t2359.2.2.2.1)) ⟨g2362, 4, none⟩ (.int .i64 t2359.2.2.2.2.1)) ⟨g2362, 5, none⟩ (.int .i64 t2359.2.2.2.2.2.1)) ⟨g2362, 6, none⟩ (.int .i64 t2359.2.2.2.2.2.2.1))) rfl (t := 32) (p := 5) rfl rfl ?hr ?_; (case hr => first | (go_simp; done) | (go_simp; rfl)); intro w2379 hst; clear hc2365 hz2366 hc2367 hz2368 hc2369 hz2370 hc2371 hz2372 hc2373 hz2374 hc2375 hz2376 hc2377 hz2378; replace HS : Aside0 (Sep FF w [b8 g1354 g1356 a1364 a1365 a1366 a1367, b7 g1356 A1359 l1358.length n1361 t2359.2.2.2.2.2.2.2.2, r6 A1359 l1358.length n1361 l1358, b9 g2362 t2359.1 t2359.2.1 t2359.2.2.1 t2359.2.2.2.1 t2359.2.2.2.2.1 t2359.2.2.2.2.2.1 t2359.2.2.2.2.2.2.1] w2379) := ⟨by rw [hst]; exact HS.out.setAll (l1 := [b8 g1354 g1356 a1364 a1365 a1366 a1367, b7 g1356 A1359 l1358.length n1361 t2359.2.2.2.2.2.2.2.2, r6 A1359 l1358.length n1361 l1358]) (l2 := []) [.int .i64 t2359.1, .int .i64 t2359.2.1, .int .i64 t2359.2.2.1, .int .i64 t2359.2.2.2.1, .int .i64 t2359.2.2.2.2.1, .int .i64 t2359.2.2.2.2.2.1, .int .i64 t2359.2.2.2.2.2.2.1] rfl⟩; clear hst; have hc2381 : w2379.cell? ⟨g2362, 0, none⟩ = some (.int .i64 t2359.1) := blk_cellv (HS.out.at3) 0 rfl; have hc2382 : w2379.cell? ⟨g2362, 1, none⟩ = some (.int .i64 t2359.2.1) := blk_cellv (HS.out.at3) 1 rfl; have hc2383 : w2379.cell? ⟨g2362, 2, none⟩ = some (.int .i64 t2359.2.2.1) := blk_cellv (HS.out.at3) 2 rfl; have hc2384 : w2379.cell? ⟨g2362, 3, none⟩ = some (.int .i64 t2359.2.2.2.1) := blk_cellv (HS.out.at3) 3 rfl; have hc2385 : w2379.cell? ⟨g2362, 4, none⟩ = some (.int .i64 t2359.2.2.2.2.1) := blk_cellv (HS.out.at3) 4 rfl; have hc2386 : w2379.cell? ⟨g2362, 5, none⟩ = some (.int .i64 t2359.2.2.2.2.2.1) := blk_cellv (HS.out.at3) 5 rfl; have hc2387 : w2379.cell? ⟨g2362, 6, none⟩ = some (.int .i64 t2359.2.2.2.2.2.2.1) := blk_cellv (HS.out.at3) 6 rfl))
    clear hc2381 hc2382 hc2383 hc2384 hc2385 hc2386 hc2387
    obtain ⟨t2388, HA2389, H⟩ := bind_some H
    refine (ring_mark.calls _ l1358 t2359.2.2.2.2.2.2.2.2 a1364 a1365 a1366 a1367 a1368 t2359.1 t2359.2.1 t2359.2.2.1 t2359.2.2.2.1 t2359.2.2.2.2.1 t2359.2.2.2.2.2.1 t2359.2.2.2.2.2.2.1 1 g1354 g1356 A1359 l1358.length n1361 t2388 _ ⟨HGl0.out.pass HS.out⟩ ⟨HS.out.begin⟩ HA2389).mono ?_
    rintro e_ w2390 ⟨rfl, hS⟩
    replace HS : Aside0 (Sep FF w [b8 g1354 g1356 a1364 a1365 a1366 a1367, b7 g1356 A1359 l1358.length n1361 t2388.1, r6 A1359 l1358.length n1361 t2388.2, b9 g2362 t2359.1 t2359.2.1 t2359.2.2.1 t2359.2.2.2.1 t2359.2.2.2.2.1 t2359.2.2.2.2.2.1 t2359.2.2.2.2.2.2.1] w2390) := ⟨HS.out.call hS⟩
    clear hS
    replace HS : Aside0 (Sep FF w [b8 g1354 g1356 a1364 a1365 a1366 a1367, b7 g1356 A1359 l1358.length n1361 t2388.1, r6 A1359 l1358.length n1361 t2388.2] w2390) := ⟨HS.out.sub (.cons_cons _ (.cons_cons _ (.cons_cons _ (.cons _ .slnil))))⟩
    go_wp2_with fail
    obtain ⟨t2391, HA2392, H⟩ := bind_some H
    refine (ground_Ground_Reg.calls t2388.2 t2388.1 a1364 a1365 a1366 a1367 8 g1354 g1356 A1359 l1358.length n1361 t2391 _ ⟨HGl0.out.pass HS.out⟩ ⟨HS.out.begin⟩ HA2392).mono ?_
    rintro e_ w2393 ⟨rfl, hS⟩
    replace HS : Aside0 (Sep FF w [b8 g1354 g1356 a1364 a1365 a1366 a1367, b7 g1356 A1359 l1358.length n1361 t2391.2, r6 A1359 l1358.length n1361 t2388.2] w2393) := ⟨HS.out.call hS⟩
    clear hS
    go_wp2_with fail
    obtain ⟨t2394, HA2395, H⟩ := bind_some H
    refine (ground_Ground_SetWord.calls t2388.2 t2391.2 a1364 a1365 a1366 a1367 a1368 6 ((t2391.1) % 4294967296) g1354 g1356 A1359 l1358.length n1361 t2394 _ ⟨HGl0.out.pass HS.out⟩ ⟨HS.out.begin⟩ HA2395).mono ?_
    rintro e_ w2396 ⟨rfl, hS⟩
    replace HS : Aside0 (Sep FF w [b8 g1354 g1356 a1364 a1365 a1366 a1367, b7 g1356 A1359 l1358.length n1361 t2394.2.1, r6 A1359 l1358.length n1361 t2394.2.2] w2396) := ⟨HS.out.call hS⟩
    clear hS
    go_wp2_with fail
    obtain ⟨t2397, HA2398, H⟩ := bind_some H
    refine (ground_Ground_SetWord.calls t2394.2.2 t2394.2.1 a1364 a1365 a1366 a1367 a1368 7 0 g1354 g1356 A1359 l1358.length n1361 t2397 _ ⟨HGl0.out.pass HS.out⟩ ⟨HS.out.begin⟩ HA2398).mono ?_
    rintro e_ w2399 ⟨rfl, hS⟩
    replace HS : Aside0 (Sep FF w [b8 g1354 g1356 a1364 a1365 a1366 a1367, b7 g1356 A1359 l1358.length n1361 t2397.2.1, r6 A1359 l1358.length n1361 t2397.2.2] w2399) := ⟨HS.out.call hS⟩
    clear hS
    go_wp2_with fail
    obtain ⟨t2400, HA2401, H⟩ := bind_some H
    refine (ring_link.calls t2397.2.2 t2397.2.1 a1364 a1365 a1366 a1367 t2391.1 7 7 (wrap64 (a1368 + 1)) g1354 g1356 A1359 l1358.length n1361 t2400 _ ⟨HGl0.out.pass HS.out⟩ ⟨HS.out.begin⟩ HA2401).mono ?_
    rintro e_ w2402 ⟨rfl, hS⟩
    replace HS : Aside0 (Sep FF w [b8 g1354 g1356 a1364 a1365 a1366 a1367, b7 g1356 A1359 l1358.length n1361 t2400.1, r6 A1359 l1358.length n1361 t2400.2] w2402) := ⟨HS.out.call hS⟩
    clear hS
    go_wp2_with fail
    obtain ⟨t2403, HA2404, H⟩ := bind_some H
    refine (ground_Ground_SetReg.calls t2400.2 t2400.1 a1364 a1365 a1366 a1367 8 (wrap64 (a1368 + 1)) g1354 g1356 A1359 l1358.length n1361 t2403 _ ⟨HGl0.out.pass HS.out⟩ ⟨HS.out.begin⟩ HA2404).mono ?_
    rintro e_ w2405 ⟨rfl, hS⟩
    replace HS : Aside0 (Sep FF w [b8 g1354 g1356 a1364 a1365 a1366 a1367, b7 g1356 A1359 l1358.length n1361 t2403.2.1, r6 A1359 l1358.length n1361 t2403.2.2] w2405) := ⟨HS.out.call hS⟩
    clear hS
    go_wp2_with fail
    obtain ⟨t2406, HA2407, H⟩ := bind_some H
    refine (ground_Ground_Reg.calls t2403.2.2 t2403.2.1 a1364 a1365 a1366 a1367 9 g1354 g1356 A1359 l1358.length n1361 t2406 _ ⟨HGl0.out.pass HS.out⟩ ⟨HS.out.begin⟩ HA2407).mono ?_
    rintro e_ w2408 ⟨rfl, hS⟩
    replace HS : Aside0 (Sep FF w [b8 g1354 g1356 a1364 a1365 a1366 a1367, b7 g1356 A1359 l1358.length n1361 t2406.2, r6 A1359 l1358.length n1361 t2403.2.2] w2408) := ⟨HS.out.call hS⟩
    clear hS
    go_wp2_with fail
    obtain ⟨t2409, HA2410, H⟩ := bind_some H
    refine (ground_Ground_SetReg.calls t2403.2.2 t2406.2 a1364 a1365 a1366 a1367 9 (wrap64 (t2406.1 + 1)) g1354 g1356 A1359 l1358.length n1361 t2409 _ ⟨HGl0.out.pass HS.out⟩ ⟨HS.out.begin⟩ HA2410).mono ?_
    rintro e_ w2411 ⟨rfl, hS⟩
    replace HS : Aside0 (Sep FF w [b8 g1354 g1356 a1364 a1365 a1366 a1367, b7 g1356 A1359 l1358.length n1361 t2409.2.1, r6 A1359 l1358.length n1361 t2409.2.2] w2411) := ⟨HS.out.call hS⟩
    clear hS
    go_wp2_with fail
    go_ret
    rw [← some_eq H]
    exact ⟨(by first | rfl | (simp [IntKind.wrap_u32]; done)), HS.out⟩
  · replace H := if_no c2380 H
    have c2380b0 : t2359.2.2.2.2.2.2.2.1 = false := by simpa using c2380
    have c2380b1 : (!t2359.2.2.2.2.2.2.2.1) = true := by rw [c2380b0]; rfl
    try rw [c2380b1]
    clear c2380
    go_wp2_with (first | ((with_reducible refine gate_dst (N := 5) rfl ?_); refine box_on ?hg (N := 5) ?hd (cs := #[.int .i64 0, .int .i64 0, .int .i64 0, .int .i64 0, .int .i64 0, .int .i64 0, .int .i64 0]) (t := 32) ?hr ?_; (case hd => rfl); (case hg => rfl); (case hr => first | (go_simp; done) | (go_simp; rfl)); intro g2362 hg w2363 hbox hb; replace HS : Aside0 (Sep FF w [b8 g1354 g1356 a1364 a1365 a1366 a1367, b7 g1356 A1359 l1358.length n1361 t2359.2.2.2.2.2.2.2.2, r6 A1359 l1358.length n1361 l1358, b9 g2362 0 0 0 0 0 0 0] w2363) := ⟨HS.out.box hg hbox hb⟩; clear hg hbox hb; have hc2365 : w2363.cell? ⟨g2362, 0, none⟩ = some (.int .i64 0) := blk_cellv (HS.out.at3) 0 rfl; have hz2366 : w2363.frozen? ⟨g2362, 0, none⟩ = false := blk_fz (HS.out.at3) 0; have hc2367 : w2363.cell? ⟨g2362, 1, none⟩ = some (.int .i64 0) := blk_cellv (HS.out.at3) 1 rfl; have hz2368 : w2363.frozen? ⟨g2362, 1, none⟩ = false := blk_fz (HS.out.at3) 1; have hc2369 : w2363.cell? ⟨g2362, 2, none⟩ = some (.int .i64 0) := blk_cellv (HS.out.at3) 2 rfl; have hz2370 : w2363.frozen? ⟨g2362, 2, none⟩ = false := blk_fz (HS.out.at3) 2; have hc2371 : w2363.cell? ⟨g2362, 3, none⟩ = some (.int .i64 0) := blk_cellv (HS.out.at3) 3 rfl; have hz2372 : w2363.frozen? ⟨g2362, 3, none⟩ = false := blk_fz (HS.out.at3) 3; have hc2373 : w2363.cell? ⟨g2362, 4, none⟩ = some (.int .i64 0) := blk_cellv (HS.out.at3) 4 rfl; have hz2374 : w2363.frozen? ⟨g2362, 4, none⟩ = false := blk_fz (HS.out.at3) 4; have hc2375 : w2363.cell? ⟨g2362, 5, none⟩ = some (.int .i64 0) := blk_cellv (HS.out.at3) 5 rfl; have hz2376 : w2363.frozen? ⟨g2362, 5, none⟩ = false := blk_fz (HS.out.at3) 5; have hc2377 : w2363.cell? ⟨g2362, 6, none⟩ = some (.int .i64 0) := blk_cellv (HS.out.at3) 6 rfl; have hz2378 : w2363.frozen? ⟨g2362, 6, none⟩ = false := blk_fz (HS.out.at3) 6) | ((with_reducible refine gate_store (t := 32) (p := 5) rfl ?_); refine store_event (w1 := (World.setCell (World.setCell (World.setCell (World.setCell (World.setCell (World.setCell (World.setCell w2363 ⟨g2362, 0, none⟩ (.int .i64 t2359.1)) ⟨g2362, 1, none⟩ (.int .i64 t2359.2.1)) ⟨g2362, 2, none⟩ (.int .i64 t2359.2.2.1)) ⟨g2362, 3, none⟩ (.int .i64 t2359.2.2.2.1)) ⟨g2362, 4, none⟩ (.int .i64 t2359.2.2.2.2.1)) ⟨g2362, 5, none⟩ (.int .i64 t2359.2.2.2.2.2.1)) ⟨g2362, 6, none⟩ (.int .i64 t2359.2.2.2.2.2.2.1))) rfl (t := 32) (p := 5) rfl rfl ?hr ?_; (case hr => first | (go_simp; done) | (go_simp; rfl)); intro w2379 hst; clear hc2365 hz2366 hc2367 hz2368 hc2369 hz2370 hc2371 hz2372 hc2373 hz2374 hc2375 hz2376 hc2377 hz2378; replace HS : Aside0 (Sep FF w [b8 g1354 g1356 a1364 a1365 a1366 a1367, b7 g1356 A1359 l1358.length n1361 t2359.2.2.2.2.2.2.2.2, r6 A1359 l1358.length n1361 l1358, b9 g2362 t2359.1 t2359.2.1 t2359.2.2.1 t2359.2.2.2.1 t2359.2.2.2.2.1 t2359.2.2.2.2.2.1 t2359.2.2.2.2.2.2.1] w2379) := ⟨by rw [hst]; exact HS.out.setAll (l1 := [b8 g1354 g1356 a1364 a1365 a1366 a1367, b7 g1356 A1359 l1358.length n1361 t2359.2.2.2.2.2.2.2.2, r6 A1359 l1358.length n1361 l1358]) (l2 := []) [.int .i64 t2359.1, .int .i64 t2359.2.1, .int .i64 t2359.2.2.1, .int .i64 t2359.2.2.2.1, .int .i64 t2359.2.2.2.2.1, .int .i64 t2359.2.2.2.2.2.1, .int .i64 t2359.2.2.2.2.2.2.1] rfl⟩; clear hst; replace HS : Aside0 (Sep FF w [b8 g1354 g1356 a1364 a1365 a1366 a1367, b7 g1356 A1359 l1358.length n1361 t2359.2.2.2.2.2.2.2.2, r6 A1359 l1358.length n1361 l1358] w2379) := ⟨HS.out.sub (.cons_cons _ (.cons_cons _ (.cons_cons _ (.cons _ .slnil))))⟩))
    go_ret
    rw [← some_eq H]
    exact ⟨(by first | rfl | (simp [IntKind.wrap_u32]; done)), HS.out⟩
end Go.Proofs.YtobeonkddamnoaaDoor.C

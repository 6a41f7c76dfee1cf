/- Each function of the group RO does what its plain function says, and changes nothing that was there; proved by walking its code. No condition. -/
import Derived.Test.YtobeonkddamnoaaDoorQw
import Derived.Test.YtobeonkddamnoaaDoorMRO
import Derived.Test.YtobeonkddamnoaaDoorGRO0
namespace Go.Proofs.YtobeonkddamnoaaDoor.C
open Go.RowKit Go.Proofs.YtobeonkddamnoaaDoorW.PrintWords Go.Proofs.YtobeonkddamnoaaDoorW.PrintLast Go.Proofs.YtobeonkddamnoaaDoor.Q Go.Proofs.YtobeonkddamnoaaDoor.M
set_option linter.unusedVariables false
set_option linter.unusedSimpArgs false
set_option maxHeartbeats 30000000 in
set_option maxRecDepth 100000 in
theorem tag_Unpack_1.calls (a1517 : Int) (a1518 : Int) (a1521 : Int) (g1520 : Nat) (r : Int) (w : World)  (HGl0 : Aside0 (Gl 0 #[.int .i64 0, .int .i64 0, .int .i64 0, .int .i64 0, .int .i64 0] (fps [b10 g1520 a1521]) w)) (HS : Aside0 (Sep (fps [b10 g1520 a1521]) w [b10 g1520 a1521] w)) (H : Aside0 (tag_Unpack_1.f a1517 a1518 a1521 = some r)) :
    Calls Tryd.prog 74 #[.int .i64 a1517, .int .i64 a1518, .pointer (some ⟨g1520, 0, none⟩)] w fun e w' => e = .returned (.int .i64 r) ∧ Sep (fps [b10 g1520 a1521]) w [b10 g1520 a1521] w' := by
  generalize (fps [b10 g1520 a1521]) = FF at HS HGl0 ⊢
  unfold tag_Unpack_1.f at H
  go_enter Tryd.func74, Tryd.ntmps74
  have hc1522 : w.cell? ⟨g1520, 0, none⟩ = some (.int .u32 a1521) := blk_cellv (HS.out.at0) 0 rfl
  go_wp2_with fail
  clear hc1522
  obtain ⟨t1543, HA1544, H⟩ := bind_some H
  refine (pack_Get.calls a1521 a1517 a1518 t1543 _ ⟨HGl0.out.pass (l := []) HS.out⟩ ⟨Sep.start _⟩ HA1544).mono ?_
  rintro e_ w1545 ⟨rfl, hS⟩
  replace HS : Aside0 (Sep FF w [b10 g1520 a1521] w1545) := ⟨HS.out.call hS⟩
  clear hS
  go_wp2_with fail
  go_ret
  rw [← some_eq H]
  exact ⟨(by first | rfl | (simp [IntKind.wrap_u32]; done)), HS.out⟩

set_option maxHeartbeats 30000000 in
set_option maxRecDepth 100000 in
theorem tag_Unpack.calls (a1510 : Int) (r : Int × Int × Int × Int × Int × Int × Int) (w : World)  (HGl0 : Aside0 (Gl 0 #[.int .i64 0, .int .i64 0, .int .i64 0, .int .i64 0, .int .i64 0] (fps []) w)) (HS : Aside0 (Sep (fps []) w [] w)) (H : Aside0 (tag_Unpack.f a1510 = some r)) :
    Calls Tryd.prog 19 #[.int .u32 a1510] w fun e w' => e = .returned (.agg #[.int .i64 r.1, .int .i64 r.2.1, .int .i64 r.2.2.1, .int .i64 r.2.2.2.1, .int .i64 r.2.2.2.2.1, .int .i64 r.2.2.2.2.2.1, .int .i64 r.2.2.2.2.2.2]) ∧ Sep (fps []) w [] w' := by
  unfold tag_Unpack.f at H
  go_enter Tryd.func19, Tryd.ntmps19
  go_wp2_with (first | ((with_reducible refine gate_dst (N := 1) rfl ?_); refine box_on ?hg (N := 1) ?hd (cs := #[.int .u32 a1510]) (t := 33) ?hr ?_; (case hd => rfl); (case hg => rfl); (case hr => first | (go_simp; done) | (go_simp; rfl)); intro g1511 hg w1512 hbox hb; replace HS : Aside0 (Sep (fps []) w [b10 g1511 a1510] w1512) := ⟨HS.out.box hg hbox hb⟩; clear hg hbox hb) | ((with_reducible refine gate_dst (N := 2) rfl ?_); refine box_on ?hg (N := 2) ?hd (cs := #[.int .i64 0, .int .i64 0, .int .i64 0, .int .i64 0, .int .i64 0, .int .i64 0, .int .i64 0]) (t := 32) ?hr ?_; (case hd => rfl); (case hg => rfl); (case hr => first | (go_simp; done) | (go_simp; rfl)); intro g1514 hg w1515 hbox hb; replace HS : Aside0 (Sep (fps []) w [b10 g1511 a1510, b9 g1514 0 0 0 0 0 0 0] w1515) := ⟨HS.out.box hg hbox hb⟩; clear hg hbox hb))
  obtain ⟨t1546, HA1547, H⟩ := bind_some H
  refine (tag_Unpack_1.calls 0 2 a1510 g1511 t1546 _ ⟨HGl0.out.pass HS.out⟩ ⟨HS.out.begin⟩ HA1547).mono ?_
  rintro e_ w1548 ⟨rfl, hS⟩
  replace HS : Aside0 (Sep (fps []) w [b10 g1511 a1510, b9 g1514 0 0 0 0 0 0 0] w1548) := ⟨HS.out.call hS⟩
  clear hS
  go_wp2_with fail
  obtain ⟨t1549, HA1550, H⟩ := bind_some H
  refine (tag_Unpack_1.calls 2 1 a1510 g1511 t1549 _ ⟨HGl0.out.pass HS.out⟩ ⟨HS.out.begin⟩ HA1550).mono ?_
  rintro e_ w1551 ⟨rfl, hS⟩
  replace HS : Aside0 (Sep (fps []) w [b10 g1511 a1510, b9 g1514 0 0 0 0 0 0 0] w1551) := ⟨HS.out.call hS⟩
  clear hS
  go_wp2_with fail
  obtain ⟨t1552, HA1553, H⟩ := bind_some H
  refine (tag_Unpack_1.calls 3 1 a1510 g1511 t1552 _ ⟨HGl0.out.pass HS.out⟩ ⟨HS.out.begin⟩ HA1553).mono ?_
  rintro e_ w1554 ⟨rfl, hS⟩
  replace HS : Aside0 (Sep (fps []) w [b10 g1511 a1510, b9 g1514 0 0 0 0 0 0 0] w1554) := ⟨HS.out.call hS⟩
  clear hS
  go_wp2_with fail
  obtain ⟨t1555, HA1556, H⟩ := bind_some H
  refine (tag_Unpack_1.calls 4 1 a1510 g1511 t1555 _ ⟨HGl0.out.pass HS.out⟩ ⟨HS.out.begin⟩ HA1556).mono ?_
  rintro e_ w1557 ⟨rfl, hS⟩
  replace HS : Aside0 (Sep (fps []) w [b10 g1511 a1510, b9 g1514 0 0 0 0 0 0 0] w1557) := ⟨HS.out.call hS⟩
  clear hS
  go_wp2_with fail
  obtain ⟨t1558, HA1559, H⟩ := bind_some H
  refine (tag_Unpack_1.calls 5 1 a1510 g1511 t1558 _ ⟨HGl0.out.pass HS.out⟩ ⟨HS.out.begin⟩ HA1559).mono ?_
  rintro e_ w1560 ⟨rfl, hS⟩
  replace HS : Aside0 (Sep (fps []) w [b10 g1511 a1510, b9 g1514 0 0 0 0 0 0 0] w1560) := ⟨HS.out.call hS⟩
  clear hS
  go_wp2_with fail
  obtain ⟨t1561, HA1562, H⟩ := bind_some H
  refine (tag_Unpack_1.calls 6 1 a1510 g1511 t1561 _ ⟨HGl0.out.pass HS.out⟩ ⟨HS.out.begin⟩ HA1562).mono ?_
  rintro e_ w1563 ⟨rfl, hS⟩
  replace HS : Aside0 (Sep (fps []) w [b10 g1511 a1510, b9 g1514 0 0 0 0 0 0 0] w1563) := ⟨HS.out.call hS⟩
  clear hS
  go_wp2_with fail
  obtain ⟨t1564, HA1565, H⟩ := bind_some H
  refine (tag_Unpack_1.calls 8 24 a1510 g1511 t1564 _ ⟨HGl0.out.pass HS.out⟩ ⟨HS.out.begin⟩ HA1565).mono ?_
  rintro e_ w1566 ⟨rfl, hS⟩
  replace HS : Aside0 (Sep (fps []) w [b10 g1511 a1510, b9 g1514 0 0 0 0 0 0 0] w1566) := ⟨HS.out.call hS⟩
  clear hS
  have hc1567 : w1566.cell? ⟨g1514, 0, none⟩ = some (.int .i64 0) := blk_cellv (HS.out.at1) 0 rfl
  have hz1568 : w1566.frozen? ⟨g1514, 0, none⟩ = false := blk_fz (HS.out.at1) 0
  have hc1569 : w1566.cell? ⟨g1514, 1, none⟩ = some (.int .i64 0) := blk_cellv (HS.out.at1) 1 rfl
  have hz1570 : w1566.frozen? ⟨g1514, 1, none⟩ = false := blk_fz (HS.out.at1) 1
  have hc1571 : w1566.cell? ⟨g1514, 2, none⟩ = some (.int .i64 0) := blk_cellv (HS.out.at1) 2 rfl
  have hz1572 : w1566.frozen? ⟨g1514, 2, none⟩ = false := blk_fz (HS.out.at1) 2
  have hc1573 : w1566.cell? ⟨g1514, 3, none⟩ = some (.int .i64 0) := blk_cellv (HS.out.at1) 3 rfl
  have hz1574 : w1566.frozen? ⟨g1514, 3, none⟩ = false := blk_fz (HS.out.at1) 3
  have hc1575 : w1566.cell? ⟨g1514, 4, none⟩ = some (.int .i64 0) := blk_cellv (HS.out.at1) 4 rfl
  have hz1576 : w1566.frozen? ⟨g1514, 4, none⟩ = false := blk_fz (HS.out.at1) 4
  have hc1577 : w1566.cell? ⟨g1514, 5, none⟩ = some (.int .i64 0) := blk_cellv (HS.out.at1) 5 rfl
  have hz1578 : w1566.frozen? ⟨g1514, 5, none⟩ = false := blk_fz (HS.out.at1) 5
  have hc1579 : w1566.cell? ⟨g1514, 6, none⟩ = some (.int .i64 0) := blk_cellv (HS.out.at1) 6 rfl
  have hz1580 : w1566.frozen? ⟨g1514, 6, none⟩ = false := blk_fz (HS.out.at1) 6
  go_wp2_with (first | ((with_reducible refine gate_store (t := 32) (p := 2) rfl ?_); refine store_event (w1 := (World.setCell (World.setCell (World.setCell (World.setCell (World.setCell (World.setCell (World.setCell w1566 ⟨g1514, 0, none⟩ (.int .i64 t1546)) ⟨g1514, 1, none⟩ (.int .i64 t1549)) ⟨g1514, 2, none⟩ (.int .i64 t1552)) ⟨g1514, 3, none⟩ (.int .i64 t1555)) ⟨g1514, 4, none⟩ (.int .i64 t1558)) ⟨g1514, 5, none⟩ (.int .i64 t1561)) ⟨g1514, 6, none⟩ (.int .i64 t1564))) rfl (t := 32) (p := 2) rfl rfl ?hr ?_; (case hr => first | (go_simp; done) | (go_simp; rfl)); intro w1581 hst; clear hc1567 hz1568 hc1569 hz1570 hc1571 hz1572 hc1573 hz1574 hc1575 hz1576 hc1577 hz1578 hc1579 hz1580; replace HS : Aside0 (Sep (fps []) w [b10 g1511 a1510, b9 g1514 t1546 t1549 t1552 t1555 t1558 t1561 t1564] w1581) := ⟨by rw [hst]; exact HS.out.setAll (l1 := [b10 g1511 a1510]) (l2 := []) [.int .i64 t1546, .int .i64 t1549, .int .i64 t1552, .int .i64 t1555, .int .i64 t1558, .int .i64 t1561, .int .i64 t1564] rfl⟩; clear hst; replace HS : Aside0 (Sep (fps []) w [b9 g1514 t1546 t1549 t1552 t1555 t1558 t1561 t1564] w1581) := ⟨HS.out.sub (.cons _ (.cons_cons _ .slnil))⟩))
  have hc1582 : w1581.cell? ⟨g1514, 0, none⟩ = some (.int .i64 t1546) := blk_cellv (HS.out.at0) 0 rfl
  have hc1583 : w1581.cell? ⟨g1514, 1, none⟩ = some (.int .i64 t1549) := blk_cellv (HS.out.at0) 1 rfl
  have hc1584 : w1581.cell? ⟨g1514, 2, none⟩ = some (.int .i64 t1552) := blk_cellv (HS.out.at0) 2 rfl
  have hc1585 : w1581.cell? ⟨g1514, 3, none⟩ = some (.int .i64 t1555) := blk_cellv (HS.out.at0) 3 rfl
  have hc1586 : w1581.cell? ⟨g1514, 4, none⟩ = some (.int .i64 t1558) := blk_cellv (HS.out.at0) 4 rfl
  have hc1587 : w1581.cell? ⟨g1514, 5, none⟩ = some (.int .i64 t1561) := blk_cellv (HS.out.at0) 5 rfl
  have hc1588 : w1581.cell? ⟨g1514, 6, none⟩ = some (.int .i64 t1564) := blk_cellv (HS.out.at0) 6 rfl
  refine bodyPost_ret (v := .agg #[.int .i64 t1546, .int .i64 t1549, .int .i64 t1552, .int .i64 t1555, .int .i64 t1558, .int .i64 t1561, .int .i64 t1564]) (by simp [results, Tryd.results19, go_sem, hc1582, hc1583, hc1584, hc1585, hc1586, hc1587, hc1588]) rfl ?_
  rw [← some_eq H]
  exact ⟨(by first | rfl | (simp [IntKind.wrap_u32]; done)), HS.out.sub (.cons _ .slnil)⟩

set_option maxHeartbeats 30000000 in
set_option maxRecDepth 100000 in
theorem ring_marked.calls (l1371 : List Int) (a1376 : Int) (a1377 : Int) (a1378 : Int) (a1379 : Int) (a1380 : Int) (a1381 : Int) (a1382 : Int) (g1367 : Nat) (g1369 : Nat) (A1372 : Option Addr) (m1373 : Nat) (n1374 : Nat) (r : Int × Int × Int × Int × Int × Int × Int × Bool × Int) (w : World)  (HGl0 : Aside0 (Gl 0 #[.int .i64 0, .int .i64 0, .int .i64 0, .int .i64 0, .int .i64 0] (fps [b8 g1367 g1369 a1377 a1378 a1379 a1380, b7 g1369 A1372 m1373 n1374 a1376, r6 A1372 m1373 n1374 l1371]) w)) (HS : Aside0 (Sep (fps [b8 g1367 g1369 a1377 a1378 a1379 a1380, b7 g1369 A1372 m1373 n1374 a1376, r6 A1372 m1373 n1374 l1371]) w [b8 g1367 g1369 a1377 a1378 a1379 a1380, b7 g1369 A1372 m1373 n1374 a1376, r6 A1372 m1373 n1374 l1371] w)) (H : Aside0 (ring_marked.f l1371 a1376 a1377 a1378 a1379 a1380 a1381 a1382 = some r)) :
    Calls Tryd.prog 79 #[.pointer (some ⟨g1367, 0, none⟩), .int .i64 a1381, .int .i64 a1382] w fun e w' => e = .returned (.tuple #[.agg #[.int .i64 r.1, .int .i64 r.2.1, .int .i64 r.2.2.1, .int .i64 r.2.2.2.1, .int .i64 r.2.2.2.2.1, .int .i64 r.2.2.2.2.2.1, .int .i64 r.2.2.2.2.2.2.1], .bool r.2.2.2.2.2.2.2.1]) ∧ Sep (fps [b8 g1367 g1369 a1377 a1378 a1379 a1380, b7 g1369 A1372 m1373 n1374 a1376, r6 A1372 m1373 n1374 l1371]) w [b8 g1367 g1369 a1377 a1378 a1379 a1380, b7 g1369 A1372 m1373 n1374 r.2.2.2.2.2.2.2.2, r6 A1372 m1373 n1374 l1371] w' := by
  generalize (fps [b8 g1367 g1369 a1377 a1378 a1379 a1380, b7 g1369 A1372 m1373 n1374 a1376, r6 A1372 m1373 n1374 l1371]) = FF at HS HGl0 ⊢
  obtain rfl := (row_len (HS.out.at2)).symm
  unfold ring_marked.f at H
  go_enter Tryd.func79, Tryd.ntmps79
  by_cases c1638 : a1381 < 0
  · replace H := if_yes c1638 H
    have c1638b0 : decide (a1381 < 0) = true := decide_eq_true c1638
    clear c1638
    go_wp2_with (first | ((with_reducible refine gate_dst (N := 6) rfl ?_); refine box_on ?hg (N := 6) ?hd (cs := #[.int .i64 0, .int .i64 0, .int .i64 0, .int .i64 0, .int .i64 0, .int .i64 0, .int .i64 0]) (t := 32) ?hr ?_; (case hd => rfl); (case hg => rfl); (case hr => first | (go_simp; done) | (go_simp; rfl)); intro g1635 hg w1636 hbox hb; replace HS : Aside0 (Sep FF w [b8 g1367 g1369 a1377 a1378 a1379 a1380, b7 g1369 A1372 l1371.length n1374 a1376, r6 A1372 l1371.length n1374 l1371, b9 g1635 0 0 0 0 0 0 0] w1636) := ⟨HS.out.box hg hbox hb⟩; clear hg hbox hb; have hc1639 : w1636.cell? ⟨g1635, 0, none⟩ = some (.int .i64 0) := blk_cellv (HS.out.at3) 0 rfl; have hz1640 : w1636.frozen? ⟨g1635, 0, none⟩ = false := blk_fz (HS.out.at3) 0; have hc1641 : w1636.cell? ⟨g1635, 1, none⟩ = some (.int .i64 0) := blk_cellv (HS.out.at3) 1 rfl; have hz1642 : w1636.frozen? ⟨g1635, 1, none⟩ = false := blk_fz (HS.out.at3) 1; have hc1643 : w1636.cell? ⟨g1635, 2, none⟩ = some (.int .i64 0) := blk_cellv (HS.out.at3) 2 rfl; have hz1644 : w1636.frozen? ⟨g1635, 2, none⟩ = false := blk_fz (HS.out.at3) 2; have hc1645 : w1636.cell? ⟨g1635, 3, none⟩ = some (.int .i64 0) := blk_cellv (HS.out.at3) 3 rfl; have hz1646 : w1636.frozen? ⟨g1635, 3, none⟩ = false := blk_fz (HS.out.at3) 3; have hc1647 : w1636.cell? ⟨g1635, 4, none⟩ = some (.int .i64 0) := blk_cellv (HS.out.at3) 4 rfl; have hz1648 : w1636.frozen? ⟨g1635, 4, none⟩ = false := blk_fz (HS.out.at3) 4; have hc1649 : w1636.cell? ⟨g1635, 5, none⟩ = some (.int .i64 0) := blk_cellv (HS.out.at3) 5 rfl; have hz1650 : w1636.frozen? ⟨g1635, 5, none⟩ = false := blk_fz (HS.out.at3) 5; have hc1651 : w1636.cell? ⟨g1635, 6, none⟩ = some (.int .i64 0) := blk_cellv (HS.out.at3) 6 rfl; have hz1652 : w1636.frozen? ⟨g1635, 6, none⟩ = false := blk_fz (HS.out.at3) 6) | ((with_reducible refine gate_store (t := 32) (p := 6) rfl ?_); refine store_event (w1 := (World.setCell (World.setCell (World.setCell (World.setCell (World.setCell (World.setCell (World.setCell w1636 ⟨g1635, 0, none⟩ (.int .i64 0)) ⟨g1635, 1, none⟩ (.int .i64 0)) ⟨g1635, 2, none⟩ (.int .i64 0)) ⟨g1635, 3, none⟩ (.int .i64 0)) ⟨g1635, 4, none⟩ (.int .i64 0)) ⟨g1635, 5, none⟩ (.int .i64 0)) ⟨g1635, 6, none⟩ (.int .i64 0))) rfl (t := 32) (p := 6) rfl rfl ?hr ?_; (case hr => first | (go_simp; done) | (go_simp; rfl)); intro w1653 hst; clear hc1639 hz1640 hc1641 hz1642 hc1643 hz1644 hc1645 hz1646 hc1647 hz1648 hc1649 hz1650 hc1651 hz1652; replace HS : Aside0 (Sep FF w [b8 g1367 g1369 a1377 a1378 a1379 a1380, b7 g1369 A1372 l1371.length n1374 a1376, r6 A1372 l1371.length n1374 l1371, b9 g1635 0 0 0 0 0 0 0] w1653) := ⟨by rw [hst]; exact HS.out.setAll (l1 := [b8 g1367 g1369 a1377 a1378 a1379 a1380, b7 g1369 A1372 l1371.length n1374 a1376, r6 A1372 l1371.length n1374 l1371]) (l2 := []) [.int .i64 0, .int .i64 0, .int .i64 0, .int .i64 0, .int .i64 0, .int .i64 0, .int .i64 0] rfl⟩; clear hst))
    have hc1654 : w1653.cell? ⟨g1635, 0, none⟩ = some (.int .i64 0) := blk_cellv (HS.out.at3) 0 rfl
    have hc1655 : w1653.cell? ⟨g1635, 1, none⟩ = some (.int .i64 0) := blk_cellv (HS.out.at3) 1 rfl
    have hc1656 : w1653.cell? ⟨g1635, 2, none⟩ = some (.int .i64 0) := blk_cellv (HS.out.at3) 2 rfl
    have hc1657 : w1653.cell? ⟨g1635, 3, none⟩ = some (.int .i64 0) := blk_cellv (HS.out.at3) 3 rfl
    have hc1658 : w1653.cell? ⟨g1635, 4, none⟩ = some (.int .i64 0) := blk_cellv (HS.out.at3) 4 rfl
    have hc1659 : w1653.cell? ⟨g1635, 5, none⟩ = some (.int .i64 0) := blk_cellv (HS.out.at3) 5 rfl
    have hc1660 : w1653.cell? ⟨g1635, 6, none⟩ = some (.int .i64 0) := blk_cellv (HS.out.at3) 6 rfl
    refine bodyPost_ret (v := .tuple #[.agg #[.int .i64 0, .int .i64 0, .int .i64 0, .int .i64 0, .int .i64 0, .int .i64 0, .int .i64 0], .bool false]) (by simp [results, Tryd.results79, go_sem, hc1654, hc1655, hc1656, hc1657, hc1658, hc1659, hc1660]) rfl ?_
    rw [← some_eq H]
    exact ⟨(by first | rfl | (simp [IntKind.wrap_u32]; done)), HS.out.sub (.cons_cons _ (.cons_cons _ (.cons_cons _ (.cons _ .slnil))))⟩
  · replace H := if_no c1638 H
    have c1638b0 : decide (a1381 < 0) = false := decide_eq_false c1638
    clear c1638
    go_wp2_with (first | ((with_reducible refine gate_dst (N := 6) rfl ?_); refine box_on ?hg (N := 6) ?hd (cs := #[.int .i64 0, .int .i64 0, .int .i64 0, .int .i64 0, .int .i64 0, .int .i64 0, .int .i64 0]) (t := 32) ?hr ?_; (case hd => rfl); (case hg => rfl); (case hr => first | (go_simp; done) | (go_simp; rfl)); intro g1635 hg w1636 hbox hb; replace HS : Aside0 (Sep FF w [b8 g1367 g1369 a1377 a1378 a1379 a1380, b7 g1369 A1372 l1371.length n1374 a1376, r6 A1372 l1371.length n1374 l1371, b9 g1635 0 0 0 0 0 0 0] w1636) := ⟨HS.out.box hg hbox hb⟩; clear hg hbox hb))
    obtain ⟨t1661, HA1662, H⟩ := bind_some H
    refine (ground_Ground_Conf.calls l1371 a1376 a1377 a1378 a1379 a1380 g1367 g1369 A1372 l1371.length n1374 t1661 _ ⟨HGl0.out.pass HS.out⟩ ⟨HS.out.begin⟩ HA1662).mono ?_
    rintro e_ w1663 ⟨rfl, hS⟩
    replace HS : Aside0 (Sep FF w [b8 g1367 g1369 a1377 a1378 a1379 a1380, b7 g1369 A1372 l1371.length n1374 a1376, r6 A1372 l1371.length n1374 l1371, b9 g1635 0 0 0 0 0 0 0] w1663) := ⟨HS.out.call hS⟩
    clear hS
    by_cases c1665 : a1381 ≥ t1661.1
    · replace H := if_yes c1665 H
      have c1665b0 : decide (t1661.1 ≤ a1381) = true := decide_eq_true c1665
      clear c1665
      have fl1664 : ∀ w, (Instr.field 30 (.agg #[.int .i64 t1661.1, .int .i64 t1661.2.1, .int .i64 t1661.2.2.1, .int .i64 t1661.2.2.2]) 0).run Tryd.prog w = .ok (.int .i64 t1661.1) w := fun _ => by kernel_rfl
      have hc1666 : w1663.cell? ⟨g1635, 0, none⟩ = some (.int .i64 0) := blk_cellv (HS.out.at3) 0 rfl
      have hz1667 : w1663.frozen? ⟨g1635, 0, none⟩ = false := blk_fz (HS.out.at3) 0
      have hc1668 : w1663.cell? ⟨g1635, 1, none⟩ = some (.int .i64 0) := blk_cellv (HS.out.at3) 1 rfl
      have hz1669 : w1663.frozen? ⟨g1635, 1, none⟩ = false := blk_fz (HS.out.at3) 1
      have hc1670 : w1663.cell? ⟨g1635, 2, none⟩ = some (.int .i64 0) := blk_cellv (HS.out.at3) 2 rfl
      have hz1671 : w1663.frozen? ⟨g1635, 2, none⟩ = false := blk_fz (HS.out.at3) 2
      have hc1672 : w1663.cell? ⟨g1635, 3, none⟩ = some (.int .i64 0) := blk_cellv (HS.out.at3) 3 rfl
      have hz1673 : w1663.frozen? ⟨g1635, 3, none⟩ = false := blk_fz (HS.out.at3) 3
      have hc1674 : w1663.cell? ⟨g1635, 4, none⟩ = some (.int .i64 0) := blk_cellv (HS.out.at3) 4 rfl
      have hz1675 : w1663.frozen? ⟨g1635, 4, none⟩ = false := blk_fz (HS.out.at3) 4
      have hc1676 : w1663.cell? ⟨g1635, 5, none⟩ = some (.int .i64 0) := blk_cellv (HS.out.at3) 5 rfl
      have hz1677 : w1663.frozen? ⟨g1635, 5, none⟩ = false := blk_fz (HS.out.at3) 5
      have hc1678 : w1663.cell? ⟨g1635, 6, none⟩ = some (.int .i64 0) := blk_cellv (HS.out.at3) 6 rfl
      have hz1679 : w1663.frozen? ⟨g1635, 6, none⟩ = false := blk_fz (HS.out.at3) 6
      go_wp2_with (first | ((with_reducible refine gate_store (t := 32) (p := 6) rfl ?_); refine store_event (w1 := (World.setCell (World.setCell (World.setCell (World.setCell (World.setCell (World.setCell (World.setCell w1663 ⟨g1635, 0, none⟩ (.int .i64 0)) ⟨g1635, 1, none⟩ (.int .i64 0)) ⟨g1635, 2, none⟩ (.int .i64 0)) ⟨g1635, 3, none⟩ (.int .i64 0)) ⟨g1635, 4, none⟩ (.int .i64 0)) ⟨g1635, 5, none⟩ (.int .i64 0)) ⟨g1635, 6, none⟩ (.int .i64 0))) rfl (t := 32) (p := 6) rfl rfl ?hr ?_; (case hr => first | (go_simp; done) | (go_simp; rfl)); intro w1680 hst; clear fl1664 hc1666 hz1667 hc1668 hz1669 hc1670 hz1671 hc1672 hz1673 hc1674 hz1675 hc1676 hz1677 hc1678 hz1679; replace HS : Aside0 (Sep FF w [b8 g1367 g1369 a1377 a1378 a1379 a1380, b7 g1369 A1372 l1371.length n1374 a1376, r6 A1372 l1371.length n1374 l1371, b9 g1635 0 0 0 0 0 0 0] w1680) := ⟨by rw [hst]; exact HS.out.setAll (l1 := [b8 g1367 g1369 a1377 a1378 a1379 a1380, b7 g1369 A1372 l1371.length n1374 a1376, r6 A1372 l1371.length n1374 l1371]) (l2 := []) [.int .i64 0, .int .i64 0, .int .i64 0, .int .i64 0, .int .i64 0, .int .i64 0, .int .i64 0] rfl⟩; clear hst))
      have hc1681 : w1680.cell? ⟨g1635, 0, none⟩ = some (.int .i64 0) := blk_cellv (HS.out.at3) 0 rfl
      have hc1682 : w1680.cell? ⟨g1635, 1, none⟩ = some (.int .i64 0) := blk_cellv (HS.out.at3) 1 rfl
      have hc1683 : w1680.cell? ⟨g1635, 2, none⟩ = some (.int .i64 0) := blk_cellv (HS.out.at3) 2 rfl
      have hc1684 : w1680.cell? ⟨g1635, 3, none⟩ = some (.int .i64 0) := blk_cellv (HS.out.at3) 3 rfl
      have hc1685 : w1680.cell? ⟨g1635, 4, none⟩ = some (.int .i64 0) := blk_cellv (HS.out.at3) 4 rfl
      have hc1686 : w1680.cell? ⟨g1635, 5, none⟩ = some (.int .i64 0) := blk_cellv (HS.out.at3) 5 rfl
      have hc1687 : w1680.cell? ⟨g1635, 6, none⟩ = some (.int .i64 0) := blk_cellv (HS.out.at3) 6 rfl
      refine bodyPost_ret (v := .tuple #[.agg #[.int .i64 0, .int .i64 0, .int .i64 0, .int .i64 0, .int .i64 0, .int .i64 0, .int .i64 0], .bool false]) (by simp [results, Tryd.results79, go_sem, hc1681, hc1682, hc1683, hc1684, hc1685, hc1686, hc1687]) rfl ?_
      rw [← some_eq H]
      exact ⟨(by first | rfl | (simp [IntKind.wrap_u32]; done)), HS.out.sub (.cons_cons _ (.cons_cons _ (.cons_cons _ (.cons _ .slnil))))⟩
    · replace H := if_no c1665 H
      have c1665b0 : decide (t1661.1 ≤ a1381) = false := decide_eq_false c1665
      clear c1665
      have fl1664 : ∀ w, (Instr.field 30 (.agg #[.int .i64 t1661.1, .int .i64 t1661.2.1, .int .i64 t1661.2.2.1, .int .i64 t1661.2.2.2]) 0).run Tryd.prog w = .ok (.int .i64 t1661.1) w := fun _ => by kernel_rfl
      go_wp2_with fail
      clear fl1664
      obtain ⟨t1688, HA1689, H⟩ := bind_some H
      refine (ground_Ground_Word.calls l1371 a1376 a1377 a1378 a1379 a1380 a1381 0 g1367 g1369 A1372 l1371.length n1374 t1688 _ ⟨HGl0.out.pass HS.out⟩ ⟨HS.out.begin⟩ HA1689).mono ?_
      rintro e_ w1690 ⟨rfl, hS⟩
      replace HS : Aside0 (Sep FF w [b8 g1367 g1369 a1377 a1378 a1379 a1380, b7 g1369 A1372 l1371.length n1374 t1688.2, r6 A1372 l1371.length n1374 l1371, b9 g1635 0 0 0 0 0 0 0] w1690) := ⟨HS.out.call hS⟩
      clear hS
      go_wp2_with fail
      obtain ⟨t1691, HA1692, H⟩ := bind_some H
      refine (tag_Unpack.calls t1688.1 t1691 _ ⟨HGl0.out.pass (l := []) HS.out⟩ ⟨Sep.start _⟩ HA1692).mono ?_
      rintro e_ w1693 ⟨rfl, hS⟩
      replace HS : Aside0 (Sep FF w [b8 g1367 g1369 a1377 a1378 a1379 a1380, b7 g1369 A1372 l1371.length n1374 t1688.2, r6 A1372 l1371.length n1374 l1371, b9 g1635 0 0 0 0 0 0 0] w1693) := ⟨HS.out.call hS⟩
      clear hS
      go_wp2_with (first | ((with_reducible refine gate_dst (N := 8) rfl ?_); refine box_on ?hg (N := 8) ?hd (cs := #[.int .i64 0, .int .i64 0, .int .i64 0, .int .i64 0, .int .i64 0, .int .i64 0, .int .i64 0]) (t := 32) ?hr ?_; (case hd => rfl); (case hg => rfl); (case hr => first | (go_simp; done) | (go_simp; rfl)); intro g1694 hg w1695 hbox hb; replace HS : Aside0 (Sep FF w [b8 g1367 g1369 a1377 a1378 a1379 a1380, b7 g1369 A1372 l1371.length n1374 t1688.2, r6 A1372 l1371.length n1374 l1371, b9 g1635 0 0 0 0 0 0 0, b9 g1694 0 0 0 0 0 0 0] w1695) := ⟨HS.out.box hg hbox hb⟩; clear hg hbox hb; have hc1697 : w1695.cell? ⟨g1694, 0, none⟩ = some (.int .i64 0) := blk_cellv (HS.out.at4) 0 rfl; have hz1698 : w1695.frozen? ⟨g1694, 0, none⟩ = false := blk_fz (HS.out.at4) 0; have hc1699 : w1695.cell? ⟨g1694, 1, none⟩ = some (.int .i64 0) := blk_cellv (HS.out.at4) 1 rfl; have hz1700 : w1695.frozen? ⟨g1694, 1, none⟩ = false := blk_fz (HS.out.at4) 1; have hc1701 : w1695.cell? ⟨g1694, 2, none⟩ = some (.int .i64 0) := blk_cellv (HS.out.at4) 2 rfl; have hz1702 : w1695.frozen? ⟨g1694, 2, none⟩ = false := blk_fz (HS.out.at4) 2; have hc1703 : w1695.cell? ⟨g1694, 3, none⟩ = some (.int .i64 0) := blk_cellv (HS.out.at4) 3 rfl; have hz1704 : w1695.frozen? ⟨g1694, 3, none⟩ = false := blk_fz (HS.out.at4) 3; have hc1705 : w1695.cell? ⟨g1694, 4, none⟩ = some (.int .i64 0) := blk_cellv (HS.out.at4) 4 rfl; have hz1706 : w1695.frozen? ⟨g1694, 4, none⟩ = false := blk_fz (HS.out.at4) 4; have hc1707 : w1695.cell? ⟨g1694, 5, none⟩ = some (.int .i64 0) := blk_cellv (HS.out.at4) 5 rfl; have hz1708 : w1695.frozen? ⟨g1694, 5, none⟩ = false := blk_fz (HS.out.at4) 5; have hc1709 : w1695.cell? ⟨g1694, 6, none⟩ = some (.int .i64 0) := blk_cellv (HS.out.at4) 6 rfl; have hz1710 : w1695.frozen? ⟨g1694, 6, none⟩ = false := blk_fz (HS.out.at4) 6) | ((with_reducible refine gate_store (t := 32) (p := 8) rfl ?_); refine store_event (w1 := (World.setCell (World.setCell (World.setCell (World.setCell (World.setCell (World.setCell (World.setCell w1695 ⟨g1694, 0, none⟩ (.int .i64 t1691.1)) ⟨g1694, 1, none⟩ (.int .i64 t1691.2.1)) ⟨g1694, 2, none⟩ (.int .i64 t1691.2.2.1)) ⟨g1694, 3, none⟩ (.int .i64 t1691.2.2.2.1)) ⟨g1694, 4, none⟩ (.int .i64 t1691.2.2.2.2.1)) ⟨g1694, 5, none⟩ (.int .i64 t1691.2.2.2.2.2.1)) ⟨g1694, 6, none⟩ (.int .i64 t1691.2.2.2.2.2.2))) rfl (t := 32) (p := 8) rfl rfl ?hr ?_; (case hr => first | (go_simp; done) | (go_simp; rfl)); intro w1711 hst; clear hc1697 hz1698 hc1699 hz1700 hc1701 hz1702 hc1703 hz1704 hc1705 hz1706 hc1707 hz1708 hc1709 hz1710; replace HS : Aside0 (Sep FF w [b8 g1367 g1369 a1377 a1378 a1379 a1380, b7 g1369 A1372 l1371.length n1374 t1688.2, r6 A1372 l1371.length n1374 l1371, b9 g1635 0 0 0 0 0 0 0, b9 g1694 t1691.1 t1691.2.1 t1691.2.2.1 t1691.2.2.2.1 t1691.2.2.2.2.1 t1691.2.2.2.2.2.1 t1691.2.2.2.2.2.2] w1711) := ⟨by rw [hst]; exact HS.out.setAll (l1 := [b8 g1367 g1369 a1377 a1378 a1379 a1380, b7 g1369 A1372 l1371.length n1374 t1688.2, r6 A1372 l1371.length n1374 l1371, b9 g1635 0 0 0 0 0 0 0]) (l2 := []) [.int .i64 t1691.1, .int .i64 t1691.2.1, .int .i64 t1691.2.2.1, .int .i64 t1691.2.2.2.1, .int .i64 t1691.2.2.2.2.1, .int .i64 t1691.2.2.2.2.2.1, .int .i64 t1691.2.2.2.2.2.2] rfl⟩; clear hst))
      refine start_ (n := 17) (S := (fun w' => w'.cell? ⟨g1694, 0, none⟩ = some (.int .i64 t1691.1) ∧ w'.cell? ⟨g1694, 1, none⟩ = some (.int .i64 t1691.2.1) ∧ w'.cell? ⟨g1694, 2, none⟩ = some (.int .i64 t1691.2.2.1) ∧ w'.cell? ⟨g1694, 3, none⟩ = some (.int .i64 t1691.2.2.2.1) ∧ w'.cell? ⟨g1694, 4, none⟩ = some (.int .i64 t1691.2.2.2.2.1) ∧ w'.cell? ⟨g1694, 5, none⟩ = some (.int .i64 t1691.2.2.2.2.2.1) ∧ w'.cell? ⟨g1694, 6, none⟩ = some (.int .i64 t1691.2.2.2.2.2.2))) (ds := []) #[false, false, false, false, false, false, false, false, false, false, false, false, false, false, false, false, false] (by kernel_rfl) rfl rfl (⟨blk_cellv ((HS.out.drew).at4) 0 rfl, blk_cellv ((HS.out.drew).at4) 1 rfl, blk_cellv ((HS.out.drew).at4) 2 rfl, blk_cellv ((HS.out.drew).at4) 3 rfl, blk_cellv ((HS.out.drew).at4) 4 rfl, blk_cellv ((HS.out.drew).at4) 5 rfl, blk_cellv ((HS.out.drew).at4) 6 rfl⟩) (fun hHeld => ?_)
      have HS_ := Aside0.mk HS.out.drew
      clear HS
      generalize World.drew _ = w1713 at HS_ hHeld ⊢
      have HS := HS_
      clear HS_
      refine pure_ (i := 1) (N := some 28) (v := ?_) (a' := ?_) #[false, true, false, false, false, false, false, false, false, false, false, false, false, false, false, false, false] rfl rfl (by kernel_rfl) (fun _ _ _ h => h) (Or.inl ⟨by rfl, ?_⟩) ?_ ?_
      rotate_left
      · intro w'
        go_simp
        with_reducible rfl
      rotate_left
      · simp only [Act.put, List.setIfInBounds_toArray, List.set_cons_zero, List.set_cons_succ, i64_w, i32_w]
        rfl
      refine take_ (i := 0) (N := some 27) (v := ?_) (a' := ?_) #[true, true, false, false, false, false, false, false, false, false, false, false, false, false, false, false, false] rfl rfl (by kernel_rfl) (fun _ _ _ h => h) (Or.inl ⟨by rfl, ?_⟩) hHeld ?_ ?_
      rotate_left
      · rintro w' hS'
        obtain ⟨s0, s1, s2, s3, s4, s5, s6⟩ := hS'
        go_simp
        with_reducible rfl
      rotate_left
      · simp only [Act.put, List.setIfInBounds_toArray, List.set_cons_zero, List.set_cons_succ, i64_w, i32_w]
        rfl
      refine take_ (i := 2) (N := some 29) (v := ?_) (a' := ?_) #[true, true, true, false, false, false, false, false, false, false, false, false, false, false, false, false, false] rfl rfl (by kernel_rfl) (fun _ _ _ h => h) (Or.inl ⟨by rfl, ?_⟩) hHeld ?_ ?_
      rotate_left
      · rintro w' hS'
        obtain ⟨s0, s1, s2, s3, s4, s5, s6⟩ := hS'
        go_simp
        with_reducible rfl
      rotate_left
      · simp only [Act.put, List.setIfInBounds_toArray, List.set_cons_zero, List.set_cons_succ, i64_w, i32_w]
        rfl
      refine pure_ (i := 3) (N := some 30) (v := ?_) (a' := ?_) #[true, true, true, true, false, false, false, false, false, false, false, false, false, false, false, false, false] rfl rfl (by kernel_rfl) (fun _ _ _ h => h) (Or.inl ⟨by rfl, ?_⟩) ?_ ?_
      rotate_left
      · intro w'
        go_simp
        with_reducible rfl
      rotate_left
      · simp only [Act.put, List.setIfInBounds_toArray, List.set_cons_zero, List.set_cons_succ, i64_w, i32_w]
        rfl
      refine pure_ (i := 4) (N := some 31) (v := ?_) (a' := ?_) #[true, true, true, true, true, false, false, false, false, false, false, false, false, false, false, false, false] rfl rfl (by kernel_rfl) (fun _ _ _ h => h) (Or.inl ⟨by rfl, ?_⟩) ?_ ?_
      rotate_left
      · intro w'
        go_simp
        with_reducible rfl
      rotate_left
      · simp only [Act.put, List.setIfInBounds_toArray, List.set_cons_zero, List.set_cons_succ, i64_w, i32_w]
        rfl
      by_cases c1714 : t1691.1 = 1
      · replace H := if_yes c1714 H
        have c1714b0 : (t1691.1 == 1) = true := beq_iff_eq.mpr c1714
        have c1714b1 : (t1691.1 != 1) = false := bne_eq_false_iff_eq.mpr c1714
        clear c1714
        try simp only [c1714b0, c1714b1, Bool.not_true, Bool.not_false]
        refine pure_ (i := 5) (N := some 32) (v := undef) (a' := ?_) #[true, true, true, true, true, true, false, false, false, false, false, false, false, false, false, false, false] rfl rfl (by kernel_rfl) (fun _ _ _ h => h) (Or.inr ⟨by rfl, rfl⟩) ?_ ?_
        rotate_left
        · simp only [Act.put, List.setIfInBounds_toArray, List.set_cons_zero, List.set_cons_succ, i64_w, i32_w]
          rfl
        try simp only [c1714b0, c1714b1, Bool.not_true, Bool.not_false]
        refine pure_ (i := 6) (N := some 33) (v := undef) (a' := ?_) #[true, true, true, true, true, true, true, false, false, false, false, false, false, false, false, false, false] rfl rfl (by kernel_rfl) (fun _ _ _ h => h) (Or.inr ⟨by rfl, rfl⟩) ?_ ?_
        rotate_left
        · simp only [Act.put, List.setIfInBounds_toArray, List.set_cons_zero, List.set_cons_succ, i64_w, i32_w]
          rfl
        try simp only [c1714b0, c1714b1, Bool.not_true, Bool.not_false]
        refine pure_ (i := 7) (N := some 34) (v := undef) (a' := ?_) #[true, true, true, true, true, true, true, true, false, false, false, false, false, false, false, false, false] rfl rfl (by kernel_rfl) (fun _ _ _ h => h) (Or.inr ⟨by rfl, rfl⟩) ?_ ?_
        rotate_left
        · simp only [Act.put, List.setIfInBounds_toArray, List.set_cons_zero, List.set_cons_succ, i64_w, i32_w]
          rfl
        refine pure_ (i := 8) (N := some 35) (v := ?_) (a' := ?_) #[true, true, true, true, true, true, true, true, true, false, false, false, false, false, false, false, false] rfl rfl (by kernel_rfl) (fun _ _ _ h => h) (Or.inl ⟨by rfl, ?_⟩) ?_ ?_
        rotate_left
        · intro w'
          go_simp
          with_reducible rfl
        rotate_left
        · simp only [Act.put, List.setIfInBounds_toArray, List.set_cons_zero, List.set_cons_succ, i64_w, i32_w]
          rfl
        refine pure_ (i := 9) (N := some 36) (v := ?_) (a' := ?_) #[true, true, true, true, true, true, true, true, true, true, false, false, false, false, false, false, false] rfl rfl (by kernel_rfl) (fun _ _ _ h => h) (Or.inl ⟨by rfl, ?_⟩) ?_ ?_
        rotate_left
        · intro w'
          go_simp
          with_reducible rfl
        rotate_left
        · simp only [Act.put, List.setIfInBounds_toArray, List.set_cons_zero, List.set_cons_succ, i64_w, i32_w]
          rfl
        refine pure_ (i := 10) (N := some 37) (v := ?_) (a' := ?_) #[true, true, true, true, true, true, true, true, true, true, true, false, false, false, false, false, false] rfl rfl (by kernel_rfl) (fun _ _ _ h => h) (Or.inl ⟨by rfl, ?_⟩) ?_ ?_
        rotate_left
        · intro w'
          go_simp
          with_reducible rfl
        rotate_left
        · simp only [Act.put, List.setIfInBounds_toArray, List.set_cons_zero, List.set_cons_succ, i64_w, i32_w]
          rfl
        refine pure_ (i := 12) (N := some 39) (v := ?_) (a' := ?_) #[true, true, true, true, true, true, true, true, true, true, true, false, true, false, false, false, false] rfl rfl (by kernel_rfl) (fun _ _ _ h => h) (Or.inl ⟨by rfl, ?_⟩) ?_ ?_
        rotate_left
        · intro w'
          go_simp
          with_reducible rfl
        rotate_left
        · simp only [Act.put, List.setIfInBounds_toArray, List.set_cons_zero, List.set_cons_succ, i64_w, i32_w]
          rfl
        refine take_ (i := 11) (N := some 38) (v := ?_) (a' := ?_) #[true, true, true, true, true, true, true, true, true, true, true, true, true, false, false, false, false] rfl rfl (by kernel_rfl) (fun _ _ _ h => h) (Or.inl ⟨by rfl, ?_⟩) hHeld ?_ ?_
        rotate_left
        · rintro w' hS'
          obtain ⟨s0, s1, s2, s3, s4, s5, s6⟩ := hS'
          go_simp
          with_reducible rfl
        rotate_left
        · simp only [Act.put, List.setIfInBounds_toArray, List.set_cons_zero, List.set_cons_succ, i64_w, i32_w]
          rfl
        refine pure_ (i := 13) (N := some 40) (v := ?_) (a' := ?_) #[true, true, true, true, true, true, true, true, true, true, true, true, true, true, false, false, false] rfl rfl (by kernel_rfl) (fun _ _ _ h => h) (Or.inl ⟨by rfl, ?_⟩) ?_ ?_
        rotate_left
        · intro w'
          go_simp
          with_reducible rfl
        rotate_left
        · simp only [Act.put, List.setIfInBounds_toArray, List.set_cons_zero, List.set_cons_succ, i64_w, i32_w]
          rfl
        refine pure_ (i := 14) (N := some 41) (v := ?_) (a' := ?_) #[true, true, true, true, true, true, true, true, true, true, true, true, true, true, true, false, false] rfl rfl (by kernel_rfl) (fun _ _ _ h => h) (Or.inl ⟨by rfl, ?_⟩) ?_ ?_
        rotate_left
        · intro w'
          go_simp
          with_reducible rfl
        rotate_left
        · simp only [Act.put, List.setIfInBounds_toArray, List.set_cons_zero, List.set_cons_succ, i64_w, i32_w]
          rfl
        refine one_ (i := 15) (N := none) #[true, true, true, true, true, true, true, true, true, true, true, true, true, true, true, true, false] rfl rfl (by kernel_rfl) (by decide) (fun K hK => ?_)
        have hc1716 := blk_cellv (v := .int .i64 0) (HS.out.at3) 0 rfl
        have hz1717 := blk_fz (HS.out.at3) 0
        have hc1718 := blk_cellv (v := .int .i64 0) (HS.out.at3) 1 rfl
        have hz1719 := blk_fz (HS.out.at3) 1
        have hc1720 := blk_cellv (v := .int .i64 0) (HS.out.at3) 2 rfl
        have hz1721 := blk_fz (HS.out.at3) 2
        have hc1722 := blk_cellv (v := .int .i64 0) (HS.out.at3) 3 rfl
        have hz1723 := blk_fz (HS.out.at3) 3
        have hc1724 := blk_cellv (v := .int .i64 0) (HS.out.at3) 4 rfl
        have hz1725 := blk_fz (HS.out.at3) 4
        have hc1726 := blk_cellv (v := .int .i64 0) (HS.out.at3) 5 rfl
        have hz1727 := blk_fz (HS.out.at3) 5
        have hc1728 := blk_cellv (v := .int .i64 0) (HS.out.at3) 6 rfl
        have hz1729 := blk_fz (HS.out.at3) 6
        refine store_step (w1 := (World.setCell (World.setCell (World.setCell (World.setCell (World.setCell (World.setCell (World.setCell w1713 ⟨g1635, 0, none⟩ (.int .i64 t1691.1)) ⟨g1635, 1, none⟩ (.int .i64 t1691.2.1)) ⟨g1635, 2, none⟩ (.int .i64 t1691.2.2.1)) ⟨g1635, 3, none⟩ (.int .i64 t1691.2.2.2.1)) ⟨g1635, 4, none⟩ (.int .i64 t1691.2.2.2.2.1)) ⟨g1635, 5, none⟩ (.int .i64 t1691.2.2.2.2.2.1)) ⟨g1635, 6, none⟩ (.int .i64 t1691.2.2.2.2.2.2))) (by rfl) rfl ?hr ?_
        case hr => first | (go_simp; done) | (go_simp; rfl)
        clear hc1716 hz1717 hc1718 hz1719 hc1720 hz1721 hc1722 hz1723 hc1724 hz1725 hc1726 hz1727 hc1728 hz1729
        intro w1715 hst
        replace HS : Aside0 (Sep FF w [b8 g1367 g1369 a1377 a1378 a1379 a1380, b7 g1369 A1372 l1371.length n1374 t1688.2, r6 A1372 l1371.length n1374 l1371, b9 g1635 t1691.1 t1691.2.1 t1691.2.2.1 t1691.2.2.2.1 t1691.2.2.2.2.1 t1691.2.2.2.2.2.1 t1691.2.2.2.2.2.2, b9 g1694 t1691.1 t1691.2.1 t1691.2.2.1 t1691.2.2.2.1 t1691.2.2.2.2.1 t1691.2.2.2.2.2.1 t1691.2.2.2.2.2.2] w1715) := ⟨by rw [hst]; exact HS.out.setAll (l1 := [b8 g1367 g1369 a1377 a1378 a1379 a1380, b7 g1369 A1372 l1371.length n1374 t1688.2, r6 A1372 l1371.length n1374 l1371]) (l2 := [b9 g1694 t1691.1 t1691.2.1 t1691.2.2.1 t1691.2.2.2.1 t1691.2.2.2.2.1 t1691.2.2.2.2.2.1 t1691.2.2.2.2.2.2]) [.int .i64 t1691.1, .int .i64 t1691.2.1, .int .i64 t1691.2.2.1, .int .i64 t1691.2.2.2.1, .int .i64 t1691.2.2.2.2.1, .int .i64 t1691.2.2.2.2.2.1, .int .i64 t1691.2.2.2.2.2.2] rfl⟩
        clear hst
        refine hK.out _ _ (⟨blk_cellv (HS.out.at4) 0 rfl, blk_cellv (HS.out.at4) 1 rfl, blk_cellv (HS.out.at4) 2 rfl, blk_cellv (HS.out.at4) 3 rfl, blk_cellv (HS.out.at4) 4 rfl, blk_cellv (HS.out.at4) 5 rfl, blk_cellv (HS.out.at4) 6 rfl⟩) (fun hHeld => ?_)
        clear hK K
        refine pure_ (i := 16) (N := some 7) (v := ?_) (a' := ?_) #[true, true, true, true, true, true, true, true, true, true, true, true, true, true, true, true, true] rfl rfl (by kernel_rfl) (fun _ _ _ h => h) (Or.inl ⟨by rfl, ?_⟩) ?_ ?_
        rotate_left
        · intro w'
          go_simp
          with_reducible rfl
        rotate_left
        · simp only [Act.put, List.setIfInBounds_toArray, List.set_cons_zero, List.set_cons_succ, i64_w, i32_w]
          rfl
        refine done_ (by kernel_rfl) ?_
        replace HS : Aside0 (Sep FF w [b8 g1367 g1369 a1377 a1378 a1379 a1380, b7 g1369 A1372 l1371.length n1374 t1688.2, r6 A1372 l1371.length n1374 l1371, b9 g1635 t1691.1 t1691.2.1 t1691.2.2.1 t1691.2.2.2.1 t1691.2.2.2.2.1 t1691.2.2.2.2.2.1 t1691.2.2.2.2.2.2] w1715) := ⟨HS.out.sub (.cons_cons _ (.cons_cons _ (.cons_cons _ (.cons_cons _ (.cons _ .slnil)))))⟩
        go_wp2_with fail
        have hc1730 : w1715.cell? ⟨g1635, 0, none⟩ = some (.int .i64 t1691.1) := blk_cellv (HS.out.at3) 0 rfl
        have hc1731 : w1715.cell? ⟨g1635, 1, none⟩ = some (.int .i64 t1691.2.1) := blk_cellv (HS.out.at3) 1 rfl
        have hc1732 : w1715.cell? ⟨g1635, 2, none⟩ = some (.int .i64 t1691.2.2.1) := blk_cellv (HS.out.at3) 2 rfl
        have hc1733 : w1715.cell? ⟨g1635, 3, none⟩ = some (.int .i64 t1691.2.2.2.1) := blk_cellv (HS.out.at3) 3 rfl
        have hc1734 : w1715.cell? ⟨g1635, 4, none⟩ = some (.int .i64 t1691.2.2.2.2.1) := blk_cellv (HS.out.at3) 4 rfl
        have hc1735 : w1715.cell? ⟨g1635, 5, none⟩ = some (.int .i64 t1691.2.2.2.2.2.1) := blk_cellv (HS.out.at3) 5 rfl
        have hc1736 : w1715.cell? ⟨g1635, 6, none⟩ = some (.int .i64 t1691.2.2.2.2.2.2) := blk_cellv (HS.out.at3) 6 rfl
        refine bodyPost_ret (v := .tuple #[.agg #[.int .i64 t1691.1, .int .i64 t1691.2.1, .int .i64 t1691.2.2.1, .int .i64 t1691.2.2.2.1, .int .i64 t1691.2.2.2.2.1, .int .i64 t1691.2.2.2.2.2.1, .int .i64 t1691.2.2.2.2.2.2], .bool (t1691.2.2.2.2.2.1 == a1382)]) (by simp [results, Tryd.results79, go_sem, hc1730, hc1731, hc1732, hc1733, hc1734, hc1735, hc1736]) rfl ?_
        rw [← some_eq H]
        exact ⟨(by first | rfl | (simp [IntKind.wrap_u32]; done)), HS.out.sub (.cons_cons _ (.cons_cons _ (.cons_cons _ (.cons _ .slnil))))⟩
      · replace H := if_no c1714 H
        have c1714b0 : (t1691.1 == 1) = false := beq_eq_false_iff_ne.mpr c1714
        have c1714b1 : (t1691.1 != 1) = true := bne_iff_ne.mpr c1714
        clear c1714
        try simp only [c1714b0, c1714b1, Bool.not_true, Bool.not_false]
        refine pure_ (i := 5) (N := some 32) (v := ?_) (a' := ?_) #[true, true, true, true, true, true, false, false, false, false, false, false, false, false, false, false, false] rfl rfl (by kernel_rfl) (fun _ _ _ h => h) (Or.inl ⟨by rfl, ?_⟩) ?_ ?_
        rotate_left
        · intro w'
          go_simp
          with_reducible rfl
        rotate_left
        · simp only [Act.put, List.setIfInBounds_toArray, List.set_cons_zero, List.set_cons_succ, i64_w, i32_w]
          rfl
        try simp only [c1714b0, c1714b1, Bool.not_true, Bool.not_false]
        refine take_ (i := 6) (N := some 33) (v := ?_) (a' := ?_) #[true, true, true, true, true, true, true, false, false, false, false, false, false, false, false, false, false] rfl rfl (by kernel_rfl) (fun _ _ _ h => h) (Or.inl ⟨by rfl, ?_⟩) hHeld ?_ ?_
        rotate_left
        · rintro w' hS'
          obtain ⟨s0, s1, s2, s3, s4, s5, s6⟩ := hS'
          go_simp
          with_reducible rfl
        rotate_left
        · simp only [Act.put, List.setIfInBounds_toArray, List.set_cons_zero, List.set_cons_succ, i64_w, i32_w]
          rfl
        try simp only [c1714b0, c1714b1, Bool.not_true, Bool.not_false]
        refine pure_ (i := 7) (N := some 34) (v := ?_) (a' := ?_) #[true, true, true, true, true, true, true, true, false, false, false, false, false, false, false, false, false] rfl rfl (by kernel_rfl) (fun _ _ _ h => h) (Or.inl ⟨by rfl, ?_⟩) ?_ ?_
        rotate_left
        · intro w'
          go_simp
          with_reducible rfl
        rotate_left
        · simp only [Act.put, List.setIfInBounds_toArray, List.set_cons_zero, List.set_cons_succ, i64_w, i32_w]
          rfl
        refine pure_ (i := 8) (N := some 35) (v := ?_) (a' := ?_) #[true, true, true, true, true, true, true, true, true, false, false, false, false, false, false, false, false] rfl rfl (by kernel_rfl) (fun _ _ _ h => h) (Or.inl ⟨by rfl, ?_⟩) ?_ ?_
        rotate_left
        · intro w'
          go_simp
          with_reducible rfl
        rotate_left
        · simp only [Act.put, List.setIfInBounds_toArray, List.set_cons_zero, List.set_cons_succ, i64_w, i32_w]
          rfl
        refine pure_ (i := 9) (N := some 36) (v := ?_) (a' := ?_) #[true, true, true, true, true, true, true, true, true, true, false, false, false, false, false, false, false] rfl rfl (by kernel_rfl) (fun _ _ _ h => h) (Or.inl ⟨by rfl, ?_⟩) ?_ ?_
        rotate_left
        · intro w'
          go_simp
          with_reducible rfl
        rotate_left
        · simp only [Act.put, List.setIfInBounds_toArray, List.set_cons_zero, List.set_cons_succ, i64_w, i32_w]
          rfl
        by_cases c1737 : t1691.1 = 2
        · replace H := if_yes c1737 H
          have c1737b0 : (t1691.1 == 2) = true := beq_iff_eq.mpr c1737
          have c1737b1 : (t1691.1 != 2) = false := bne_eq_false_iff_eq.mpr c1737
          clear c1737
          try simp only [c1737b0, c1737b1, Bool.not_true, Bool.not_false]
          refine pure_ (i := 10) (N := some 37) (v := ?_) (a' := ?_) #[true, true, true, true, true, true, true, true, true, true, true, false, false, false, false, false, false] rfl rfl (by kernel_rfl) (fun _ _ _ h => h) (Or.inl ⟨by rfl, ?_⟩) ?_ ?_
          rotate_left
          · intro w'
            go_simp
            with_reducible rfl
          rotate_left
          · simp only [Act.put, List.setIfInBounds_toArray, List.set_cons_zero, List.set_cons_succ, i64_w, i32_w]
            rfl
          try simp only [c1737b0, c1737b1, Bool.not_true, Bool.not_false]
          refine pure_ (i := 12) (N := some 39) (v := ?_) (a' := ?_) #[true, true, true, true, true, true, true, true, true, true, true, false, true, false, false, false, false] rfl rfl (by kernel_rfl) (fun _ _ _ h => h) (Or.inl ⟨by rfl, ?_⟩) ?_ ?_
          rotate_left
          · intro w'
            go_simp
            with_reducible rfl
          rotate_left
          · simp only [Act.put, List.setIfInBounds_toArray, List.set_cons_zero, List.set_cons_succ, i64_w, i32_w]
            rfl
          try simp only [c1737b0, c1737b1, Bool.not_true, Bool.not_false]
          refine take_ (i := 11) (N := some 38) (v := ?_) (a' := ?_) #[true, true, true, true, true, true, true, true, true, true, true, true, true, false, false, false, false] rfl rfl (by kernel_rfl) (fun _ _ _ h => h) (Or.inl ⟨by rfl, ?_⟩) hHeld ?_ ?_
          rotate_left
          · rintro w' hS'
            obtain ⟨s0, s1, s2, s3, s4, s5, s6⟩ := hS'
            go_simp
            with_reducible rfl
          rotate_left
          · simp only [Act.put, List.setIfInBounds_toArray, List.set_cons_zero, List.set_cons_succ, i64_w, i32_w]
            rfl
          try simp only [c1737b0, c1737b1, Bool.not_true, Bool.not_false]
          refine pure_ (i := 13) (N := some 40) (v := ?_) (a' := ?_) #[true, true, true, true, true, true, true, true, true, true, true, true, true, true, false, false, false] rfl rfl (by kernel_rfl) (fun _ _ _ h => h) (Or.inl ⟨by rfl, ?_⟩) ?_ ?_
          rotate_left
          · intro w'
            go_simp
            with_reducible rfl
          rotate_left
          · simp only [Act.put, List.setIfInBounds_toArray, List.set_cons_zero, List.set_cons_succ, i64_w, i32_w]
            rfl
          refine pure_ (i := 14) (N := some 41) (v := ?_) (a' := ?_) #[true, true, true, true, true, true, true, true, true, true, true, true, true, true, true, false, false] rfl rfl (by kernel_rfl) (fun _ _ _ h => h) (Or.inl ⟨by rfl, ?_⟩) ?_ ?_
          rotate_left
          · intro w'
            go_simp
            with_reducible rfl
          rotate_left
          · simp only [Act.put, List.setIfInBounds_toArray, List.set_cons_zero, List.set_cons_succ, i64_w, i32_w]
            rfl
          refine one_ (i := 15) (N := none) #[true, true, true, true, true, true, true, true, true, true, true, true, true, true, true, true, false] rfl rfl (by kernel_rfl) (by decide) (fun K hK => ?_)
          have hc1739 := blk_cellv (v := .int .i64 0) (HS.out.at3) 0 rfl
          have hz1740 := blk_fz (HS.out.at3) 0
          have hc1741 := blk_cellv (v := .int .i64 0) (HS.out.at3) 1 rfl
          have hz1742 := blk_fz (HS.out.at3) 1
          have hc1743 := blk_cellv (v := .int .i64 0) (HS.out.at3) 2 rfl
          have hz1744 := blk_fz (HS.out.at3) 2
          have hc1745 := blk_cellv (v := .int .i64 0) (HS.out.at3) 3 rfl
          have hz1746 := blk_fz (HS.out.at3) 3
          have hc1747 := blk_cellv (v := .int .i64 0) (HS.out.at3) 4 rfl
          have hz1748 := blk_fz (HS.out.at3) 4
          have hc1749 := blk_cellv (v := .int .i64 0) (HS.out.at3) 5 rfl
          have hz1750 := blk_fz (HS.out.at3) 5
          have hc1751 := blk_cellv (v := .int .i64 0) (HS.out.at3) 6 rfl
          have hz1752 := blk_fz (HS.out.at3) 6
          refine store_step (w1 := (World.setCell (World.setCell (World.setCell (World.setCell (World.setCell (World.setCell (World.setCell w1713 ⟨g1635, 0, none⟩ (.int .i64 t1691.1)) ⟨g1635, 1, none⟩ (.int .i64 t1691.2.1)) ⟨g1635, 2, none⟩ (.int .i64 t1691.2.2.1)) ⟨g1635, 3, none⟩ (.int .i64 t1691.2.2.2.1)) ⟨g1635, 4, none⟩ (.int .i64 t1691.2.2.2.2.1)) ⟨g1635, 5, none⟩ (.int .i64 t1691.2.2.2.2.2.1)) ⟨g1635, 6, none⟩ (.int .i64 t1691.2.2.2.2.2.2))) (by rfl) rfl ?hr ?_
          case hr => first | (go_simp; done) | (go_simp; rfl)
          clear hc1739 hz1740 hc1741 hz1742 hc1743 hz1744 hc1745 hz1746 hc1747 hz1748 hc1749 hz1750 hc1751 hz1752
          intro w1738 hst
          replace HS : Aside0 (Sep FF w [b8 g1367 g1369 a1377 a1378 a1379 a1380, b7 g1369 A1372 l1371.length n1374 t1688.2, r6 A1372 l1371.length n1374 l1371, b9 g1635 t1691.1 t1691.2.1 t1691.2.2.1 t1691.2.2.2.1 t1691.2.2.2.2.1 t1691.2.2.2.2.2.1 t1691.2.2.2.2.2.2, b9 g1694 t1691.1 t1691.2.1 t1691.2.2.1 t1691.2.2.2.1 t1691.2.2.2.2.1 t1691.2.2.2.2.2.1 t1691.2.2.2.2.2.2] w1738) := ⟨by rw [hst]; exact HS.out.setAll (l1 := [b8 g1367 g1369 a1377 a1378 a1379 a1380, b7 g1369 A1372 l1371.length n1374 t1688.2, r6 A1372 l1371.length n1374 l1371]) (l2 := [b9 g1694 t1691.1 t1691.2.1 t1691.2.2.1 t1691.2.2.2.1 t1691.2.2.2.2.1 t1691.2.2.2.2.2.1 t1691.2.2.2.2.2.2]) [.int .i64 t1691.1, .int .i64 t1691.2.1, .int .i64 t1691.2.2.1, .int .i64 t1691.2.2.2.1, .int .i64 t1691.2.2.2.2.1, .int .i64 t1691.2.2.2.2.2.1, .int .i64 t1691.2.2.2.2.2.2] rfl⟩
          clear hst
          refine hK.out _ _ (⟨blk_cellv (HS.out.at4) 0 rfl, blk_cellv (HS.out.at4) 1 rfl, blk_cellv (HS.out.at4) 2 rfl, blk_cellv (HS.out.at4) 3 rfl, blk_cellv (HS.out.at4) 4 rfl, blk_cellv (HS.out.at4) 5 rfl, blk_cellv (HS.out.at4) 6 rfl⟩) (fun hHeld => ?_)
          clear hK K
          refine pure_ (i := 16) (N := some 7) (v := ?_) (a' := ?_) #[true, true, true, true, true, true, true, true, true, true, true, true, true, true, true, true, true] rfl rfl (by kernel_rfl) (fun _ _ _ h => h) (Or.inl ⟨by rfl, ?_⟩) ?_ ?_
          rotate_left
          · intro w'
            go_simp
            with_reducible rfl
          rotate_left
          · simp only [Act.put, List.setIfInBounds_toArray, List.set_cons_zero, List.set_cons_succ, i64_w, i32_w]
            rfl
          refine done_ (by kernel_rfl) ?_
          replace HS : Aside0 (Sep FF w [b8 g1367 g1369 a1377 a1378 a1379 a1380, b7 g1369 A1372 l1371.length n1374 t1688.2, r6 A1372 l1371.length n1374 l1371, b9 g1635 t1691.1 t1691.2.1 t1691.2.2.1 t1691.2.2.2.1 t1691.2.2.2.2.1 t1691.2.2.2.2.2.1 t1691.2.2.2.2.2.2] w1738) := ⟨HS.out.sub (.cons_cons _ (.cons_cons _ (.cons_cons _ (.cons_cons _ (.cons _ .slnil)))))⟩
          go_wp2_with fail
          have hc1753 : w1738.cell? ⟨g1635, 0, none⟩ = some (.int .i64 t1691.1) := blk_cellv (HS.out.at3) 0 rfl
          have hc1754 : w1738.cell? ⟨g1635, 1, none⟩ = some (.int .i64 t1691.2.1) := blk_cellv (HS.out.at3) 1 rfl
          have hc1755 : w1738.cell? ⟨g1635, 2, none⟩ = some (.int .i64 t1691.2.2.1) := blk_cellv (HS.out.at3) 2 rfl
          have hc1756 : w1738.cell? ⟨g1635, 3, none⟩ = some (.int .i64 t1691.2.2.2.1) := blk_cellv (HS.out.at3) 3 rfl
          have hc1757 : w1738.cell? ⟨g1635, 4, none⟩ = some (.int .i64 t1691.2.2.2.2.1) := blk_cellv (HS.out.at3) 4 rfl
          have hc1758 : w1738.cell? ⟨g1635, 5, none⟩ = some (.int .i64 t1691.2.2.2.2.2.1) := blk_cellv (HS.out.at3) 5 rfl
          have hc1759 : w1738.cell? ⟨g1635, 6, none⟩ = some (.int .i64 t1691.2.2.2.2.2.2) := blk_cellv (HS.out.at3) 6 rfl
          refine bodyPost_ret (v := .tuple #[.agg #[.int .i64 t1691.1, .int .i64 t1691.2.1, .int .i64 t1691.2.2.1, .int .i64 t1691.2.2.2.1, .int .i64 t1691.2.2.2.2.1, .int .i64 t1691.2.2.2.2.2.1, .int .i64 t1691.2.2.2.2.2.2], .bool (t1691.2.2.2.2.2.1 == a1382)]) (by simp [results, Tryd.results79, go_sem, hc1753, hc1754, hc1755, hc1756, hc1757, hc1758, hc1759]) rfl ?_
          rw [← some_eq H]
          exact ⟨(by first | rfl | (simp [IntKind.wrap_u32]; done)), HS.out.sub (.cons_cons _ (.cons_cons _ (.cons_cons _ (.cons _ .slnil))))⟩
        · replace H := if_no c1737 H
          have c1737b0 : (t1691.1 == 2) = false := beq_eq_false_iff_ne.mpr c1737
          have c1737b1 : (t1691.1 != 2) = true := bne_iff_ne.mpr c1737
          clear c1737
          try simp only [c1737b0, c1737b1, Bool.not_true, Bool.not_false]
          refine pure_ (i := 10) (N := some 37) (v := undef) (a' := ?_) #[true, true, true, true, true, true, true, true, true, true, true, false, false, false, false, false, false] rfl rfl (by kernel_rfl) (fun _ _ _ h => h) (Or.inr ⟨by rfl, rfl⟩) ?_ ?_
          rotate_left
          · simp only [Act.put, List.setIfInBounds_toArray, List.set_cons_zero, List.set_cons_succ, i64_w, i32_w]
            rfl
          try simp only [c1737b0, c1737b1, Bool.not_true, Bool.not_false]
          refine pure_ (i := 11) (N := some 38) (v := undef) (a' := ?_) #[true, true, true, true, true, true, true, true, true, true, true, true, false, false, false, false, false] rfl rfl (by kernel_rfl) (fun _ _ _ h => h) (Or.inr ⟨by rfl, rfl⟩) ?_ ?_
          rotate_left
          · simp only [Act.put, List.setIfInBounds_toArray, List.set_cons_zero, List.set_cons_succ, i64_w, i32_w]
            rfl
          try simp only [c1737b0, c1737b1, Bool.not_true, Bool.not_false]
          refine pure_ (i := 12) (N := some 39) (v := undef) (a' := ?_) #[true, true, true, true, true, true, true, true, true, true, true, true, true, false, false, false, false] rfl rfl (by kernel_rfl) (fun _ _ _ h => h) (Or.inr ⟨by rfl, rfl⟩) ?_ ?_
          rotate_left
          · simp only [Act.put, List.setIfInBounds_toArray, List.set_cons_zero, List.set_cons_succ, i64_w, i32_w]
            rfl
          try simp only [c1737b0, c1737b1, Bool.not_true, Bool.not_false]
          refine pure_ (i := 13) (N := some 40) (v := undef) (a' := ?_) #[true, true, true, true, true, true, true, true, true, true, true, true, true, true, false, false, false] rfl rfl (by kernel_rfl) (fun _ _ _ h => h) (Or.inr ⟨by rfl, rfl⟩) ?_ ?_
          rotate_left
          · simp only [Act.put, List.setIfInBounds_toArray, List.set_cons_zero, List.set_cons_succ, i64_w, i32_w]
            rfl
          refine pure_ (i := 14) (N := some 41) (v := ?_) (a' := ?_) #[true, true, true, true, true, true, true, true, true, true, true, true, true, true, true, false, false] rfl rfl (by kernel_rfl) (fun _ _ _ h => h) (Or.inl ⟨by rfl, ?_⟩) ?_ ?_
          rotate_left
          · intro w'
            go_simp
            with_reducible rfl
          rotate_left
          · simp only [Act.put, List.setIfInBounds_toArray, List.set_cons_zero, List.set_cons_succ, i64_w, i32_w]
            rfl
          refine one_ (i := 15) (N := none) #[true, true, true, true, true, true, true, true, true, true, true, true, true, true, true, true, false] rfl rfl (by kernel_rfl) (by decide) (fun K hK => ?_)
          have hc1761 := blk_cellv (v := .int .i64 0) (HS.out.at3) 0 rfl
          have hz1762 := blk_fz (HS.out.at3) 0
          have hc1763 := blk_cellv (v := .int .i64 0) (HS.out.at3) 1 rfl
          have hz1764 := blk_fz (HS.out.at3) 1
          have hc1765 := blk_cellv (v := .int .i64 0) (HS.out.at3) 2 rfl
          have hz1766 := blk_fz (HS.out.at3) 2
          have hc1767 := blk_cellv (v := .int .i64 0) (HS.out.at3) 3 rfl
          have hz1768 := blk_fz (HS.out.at3) 3
          have hc1769 := blk_cellv (v := .int .i64 0) (HS.out.at3) 4 rfl
          have hz1770 := blk_fz (HS.out.at3) 4
          have hc1771 := blk_cellv (v := .int .i64 0) (HS.out.at3) 5 rfl
          have hz1772 := blk_fz (HS.out.at3) 5
          have hc1773 := blk_cellv (v := .int .i64 0) (HS.out.at3) 6 rfl
          have hz1774 := blk_fz (HS.out.at3) 6
          refine store_step (w1 := (World.setCell (World.setCell (World.setCell (World.setCell (World.setCell (World.setCell (World.setCell w1713 ⟨g1635, 0, none⟩ (.int .i64 t1691.1)) ⟨g1635, 1, none⟩ (.int .i64 t1691.2.1)) ⟨g1635, 2, none⟩ (.int .i64 t1691.2.2.1)) ⟨g1635, 3, none⟩ (.int .i64 t1691.2.2.2.1)) ⟨g1635, 4, none⟩ (.int .i64 t1691.2.2.2.2.1)) ⟨g1635, 5, none⟩ (.int .i64 t1691.2.2.2.2.2.1)) ⟨g1635, 6, none⟩ (.int .i64 t1691.2.2.2.2.2.2))) (by rfl) rfl ?hr ?_
          case hr => first | (go_simp; done) | (go_simp; rfl)
          clear hc1761 hz1762 hc1763 hz1764 hc1765 hz1766 hc1767 hz1768 hc1769 hz1770 hc1771 hz1772 hc1773 hz1774
          intro w1760 hst
          replace HS : Aside0 (Sep FF w [b8 g1367 g1369 a1377 a1378 a1379 a1380, b7 g1369 A1372 l1371.length n1374 t1688.2, r6 A1372 l1371.length n1374 l1371, b9 g1635 t1691.1 t1691.2.1 t1691.2.2.1 t1691.2.2.2.1 t1691.2.2.2.2.1 t1691.2.2.2.2.2.1 t1691.2.2.2.2.2.2, b9 g1694 t1691.1 t1691.2.1 t1691.2.2.1 t1691.2.2.2.1 t1691.2.2.2.2.1 t1691.2.2.2.2.2.1 t1691.2.2.2.2.2.2] w1760) := ⟨by rw [hst]; exact HS.out.setAll (l1 := [b8 g1367 g1369 a1377 a1378 a1379 a1380, b7 g1369 A1372 l1371.length n1374 t1688.2, r6 A1372 l1371.length n1374 l1371]) (l2 := [b9 g1694 t1691.1 t1691.2.1 t1691.2.2.1 t1691.2.2.2.1 t1691.2.2.2.2.1 t1691.2.2.2.2.2.1 t1691.2.2.2.2.2.2]) [.int .i64 t1691.1, .int .i64 t1691.2.1, .int .i64 t1691.2.2.1, .int .i64 t1691.2.2.2.1, .int .i64 t1691.2.2.2.2.1, .int .i64 t1691.2.2.2.2.2.1, .int .i64 t1691.2.2.2.2.2.2] rfl⟩
          clear hst
          refine hK.out _ _ (⟨blk_cellv (HS.out.at4) 0 rfl, blk_cellv (HS.out.at4) 1 rfl, blk_cellv (HS.out.at4) 2 rfl, blk_cellv (HS.out.at4) 3 rfl, blk_cellv (HS.out.at4) 4 rfl, blk_cellv (HS.out.at4) 5 rfl, blk_cellv (HS.out.at4) 6 rfl⟩) (fun hHeld => ?_)
          clear hK K
          refine pure_ (i := 16) (N := some 7) (v := ?_) (a' := ?_) #[true, true, true, true, true, true, true, true, true, true, true, true, true, true, true, true, true] rfl rfl (by kernel_rfl) (fun _ _ _ h => h) (Or.inl ⟨by rfl, ?_⟩) ?_ ?_
          rotate_left
          · intro w'
            go_simp
            with_reducible rfl
          rotate_left
          · simp only [Act.put, List.setIfInBounds_toArray, List.set_cons_zero, List.set_cons_succ, i64_w, i32_w]
            rfl
          refine done_ (by kernel_rfl) ?_
          replace HS : Aside0 (Sep FF w [b8 g1367 g1369 a1377 a1378 a1379 a1380, b7 g1369 A1372 l1371.length n1374 t1688.2, r6 A1372 l1371.length n1374 l1371, b9 g1635 t1691.1 t1691.2.1 t1691.2.2.1 t1691.2.2.2.1 t1691.2.2.2.2.1 t1691.2.2.2.2.2.1 t1691.2.2.2.2.2.2] w1760) := ⟨HS.out.sub (.cons_cons _ (.cons_cons _ (.cons_cons _ (.cons_cons _ (.cons _ .slnil)))))⟩
          go_wp2_with fail
          have hc1775 : w1760.cell? ⟨g1635, 0, none⟩ = some (.int .i64 t1691.1) := blk_cellv (HS.out.at3) 0 rfl
          have hc1776 : w1760.cell? ⟨g1635, 1, none⟩ = some (.int .i64 t1691.2.1) := blk_cellv (HS.out.at3) 1 rfl
          have hc1777 : w1760.cell? ⟨g1635, 2, none⟩ = some (.int .i64 t1691.2.2.1) := blk_cellv (HS.out.at3) 2 rfl
          have hc1778 : w1760.cell? ⟨g1635, 3, none⟩ = some (.int .i64 t1691.2.2.2.1) := blk_cellv (HS.out.at3) 3 rfl
          have hc1779 : w1760.cell? ⟨g1635, 4, none⟩ = some (.int .i64 t1691.2.2.2.2.1) := blk_cellv (HS.out.at3) 4 rfl
          have hc1780 : w1760.cell? ⟨g1635, 5, none⟩ = some (.int .i64 t1691.2.2.2.2.2.1) := blk_cellv (HS.out.at3) 5 rfl
          have hc1781 : w1760.cell? ⟨g1635, 6, none⟩ = some (.int .i64 t1691.2.2.2.2.2.2) := blk_cellv (HS.out.at3) 6 rfl
          refine bodyPost_ret (v := .tuple #[.agg #[.int .i64 t1691.1, .int .i64 t1691.2.1, .int .i64 t1691.2.2.1, .int .i64 t1691.2.2.2.1, .int .i64 t1691.2.2.2.2.1, .int .i64 t1691.2.2.2.2.2.1, .int .i64 t1691.2.2.2.2.2.2], .bool false]) (by simp [results, Tryd.results79, go_sem, hc1775, hc1776, hc1777, hc1778, hc1779, hc1780, hc1781]) rfl ?_
          rw [← some_eq H]
          exact ⟨(by first | rfl | (simp [IntKind.wrap_u32]; done)), HS.out.sub (.cons_cons _ (.cons_cons _ (.cons_cons _ (.cons _ .slnil))))⟩

set_option maxHeartbeats 30000000 in
set_option maxRecDepth 100000 in
theorem tag_marks.calls (a1882 : Int) (a1883 : Int) (a1884 : Int) (a1885 : Int) (a1886 : Int) (a1887 : Int) (a1888 : Int) (r : Int × Int × Int × Int × Int) (w : World)  (HGl0 : Aside0 (Gl 0 #[.int .i64 0, .int .i64 0, .int .i64 0, .int .i64 0, .int .i64 0] (fps []) w)) (HS : Aside0 (Sep (fps []) w [] w)) (H : Aside0 (tag_marks.f a1882 a1883 a1884 a1885 a1886 a1887 a1888 = some r)) :
    Calls Tryd.prog 68 #[.agg #[.int .i64 a1882, .int .i64 a1883, .int .i64 a1884, .int .i64 a1885, .int .i64 a1886, .int .i64 a1887, .int .i64 a1888]] w fun e w' => e = .returned (.agg #[.int .i64 r.1, .int .i64 r.2.1, .int .i64 r.2.2.1, .int .i64 r.2.2.2.1, .int .i64 r.2.2.2.2]) ∧ Sep (fps []) w [] w' := by
  unfold tag_marks.f at H
  go_enter Tryd.func68, Tryd.ntmps68
  go_wp2_with (first | ((with_reducible refine gate_dst (N := 1) rfl ?_); refine box_on ?hg (N := 1) ?hd (cs := #[.int .i64 a1882, .int .i64 a1883, .int .i64 a1884, .int .i64 a1885, .int .i64 a1886, .int .i64 a1887, .int .i64 a1888]) (t := 32) ?hr ?_; (case hd => rfl); (case hg => rfl); (case hr => first | (go_simp; done) | (go_simp; rfl)); intro g1889 hg w1890 hbox hb; replace HS : Aside0 (Sep (fps []) w [b9 g1889 a1882 a1883 a1884 a1885 a1886 a1887 a1888] w1890) := ⟨HS.out.box hg hbox hb⟩; clear hg hbox hb) | ((with_reducible refine gate_dst (N := 2) rfl ?_); refine box_on ?hg (N := 2) ?hd (cs := #[.int .i64 0, .int .i64 0, .int .i64 0, .int .i64 0, .int .i64 0]) (t := 108) ?hr ?_; (case hd => rfl); (case hg => rfl); (case hr => first | (go_simp; done) | (go_simp; rfl)); intro g1892 hg w1893 hbox hb; replace HS : Aside0 (Sep (fps []) w [b9 g1889 a1882 a1883 a1884 a1885 a1886 a1887 a1888, b11 g1892 0 0 0 0 0] w1893) := ⟨HS.out.box hg hbox hb⟩; clear hg hbox hb; have hc1895 : w1893.cell? ⟨g1889, 1, none⟩ = some (.int .i64 a1883) := blk_cellv (HS.out.at0) 1 rfl; have hc1896 : w1893.cell? ⟨g1889, 2, none⟩ = some (.int .i64 a1884) := blk_cellv (HS.out.at0) 2 rfl; have hc1897 : w1893.cell? ⟨g1889, 3, none⟩ = some (.int .i64 a1885) := blk_cellv (HS.out.at0) 3 rfl; have hc1898 : w1893.cell? ⟨g1889, 4, none⟩ = some (.int .i64 a1886) := blk_cellv (HS.out.at0) 4 rfl; have hc1899 : w1893.cell? ⟨g1889, 5, none⟩ = some (.int .i64 a1887) := blk_cellv (HS.out.at0) 5 rfl; have hc1900 : w1893.cell? ⟨g1892, 0, none⟩ = some (.int .i64 0) := blk_cellv (HS.out.at1) 0 rfl; have hz1901 : w1893.frozen? ⟨g1892, 0, none⟩ = false := blk_fz (HS.out.at1) 0; have hc1902 : w1893.cell? ⟨g1892, 1, none⟩ = some (.int .i64 0) := blk_cellv (HS.out.at1) 1 rfl; have hz1903 : w1893.frozen? ⟨g1892, 1, none⟩ = false := blk_fz (HS.out.at1) 1; have hc1904 : w1893.cell? ⟨g1892, 2, none⟩ = some (.int .i64 0) := blk_cellv (HS.out.at1) 2 rfl; have hz1905 : w1893.frozen? ⟨g1892, 2, none⟩ = false := blk_fz (HS.out.at1) 2; have hc1906 : w1893.cell? ⟨g1892, 3, none⟩ = some (.int .i64 0) := blk_cellv (HS.out.at1) 3 rfl; have hz1907 : w1893.frozen? ⟨g1892, 3, none⟩ = false := blk_fz (HS.out.at1) 3; have hc1908 : w1893.cell? ⟨g1892, 4, none⟩ = some (.int .i64 0) := blk_cellv (HS.out.at1) 4 rfl; have hz1909 : w1893.frozen? ⟨g1892, 4, none⟩ = false := blk_fz (HS.out.at1) 4) | ((with_reducible refine gate_store (t := 108) (p := 2) rfl ?_); refine store_event (w1 := (World.setCell (World.setCell (World.setCell (World.setCell (World.setCell w1893 ⟨g1892, 0, none⟩ (.int .i64 a1883)) ⟨g1892, 1, none⟩ (.int .i64 a1884)) ⟨g1892, 2, none⟩ (.int .i64 a1885)) ⟨g1892, 3, none⟩ (.int .i64 a1886)) ⟨g1892, 4, none⟩ (.int .i64 a1887))) rfl (t := 108) (p := 2) rfl rfl ?hr ?_; (case hr => first | (go_simp; done) | (go_simp; rfl)); intro w1910 hst; clear hc1895 hc1896 hc1897 hc1898 hc1899 hc1900 hz1901 hc1902 hz1903 hc1904 hz1905 hc1906 hz1907 hc1908 hz1909; replace HS : Aside0 (Sep (fps []) w [b9 g1889 a1882 a1883 a1884 a1885 a1886 a1887 a1888, b11 g1892 a1883 a1884 a1885 a1886 a1887] w1910) := ⟨by rw [hst]; exact HS.out.setAll (l1 := [b9 g1889 a1882 a1883 a1884 a1885 a1886 a1887 a1888]) (l2 := []) [.int .i64 a1883, .int .i64 a1884, .int .i64 a1885, .int .i64 a1886, .int .i64 a1887] rfl⟩; clear hst; replace HS : Aside0 (Sep (fps []) w [b11 g1892 a1883 a1884 a1885 a1886 a1887] w1910) := ⟨HS.out.sub (.cons _ (.cons_cons _ .slnil))⟩))
  have hc1911 : w1910.cell? ⟨g1892, 0, none⟩ = some (.int .i64 a1883) := blk_cellv (HS.out.at0) 0 rfl
  have hc1912 : w1910.cell? ⟨g1892, 1, none⟩ = some (.int .i64 a1884) := blk_cellv (HS.out.at0) 1 rfl
  have hc1913 : w1910.cell? ⟨g1892, 2, none⟩ = some (.int .i64 a1885) := blk_cellv (HS.out.at0) 2 rfl
  have hc1914 : w1910.cell? ⟨g1892, 3, none⟩ = some (.int .i64 a1886) := blk_cellv (HS.out.at0) 3 rfl
  have hc1915 : w1910.cell? ⟨g1892, 4, none⟩ = some (.int .i64 a1887) := blk_cellv (HS.out.at0) 4 rfl
  refine bodyPost_ret (v := .agg #[.int .i64 a1883, .int .i64 a1884, .int .i64 a1885, .int .i64 a1886, .int .i64 a1887]) (by simp [results, Tryd.results68, go_sem, hc1911, hc1912, hc1913, hc1914, hc1915]) rfl ?_
  rw [← some_eq H]
  exact ⟨(by first | rfl | (simp [IntKind.wrap_u32]; done)), HS.out.sub (.cons _ .slnil)⟩

set_option maxHeartbeats 30000000 in
set_option maxRecDepth 100000 in
theorem tag_Right.calls (k : Nat) (a1865 : Int) (a1866 : Int) (a1867 : Int) (a1868 : Int) (a1869 : Int) (a1870 : Int) (a1871 : Int) (r : Bool) (w : World)  (HGl0 : Aside0 (Gl 0 #[.int .i64 0, .int .i64 0, .int .i64 0, .int .i64 0, .int .i64 0] (fps []) w)) (HS : Aside0 (Sep (fps []) w [] w)) (H : Aside0 (tag_Right.f k a1865 a1866 a1867 a1868 a1869 a1870 a1871 = some r)) :
    Calls Tryd.prog 67 #[.agg #[.int .i64 a1865, .int .i64 a1866, .int .i64 a1867, .int .i64 a1868, .int .i64 a1869, .int .i64 a1870, .int .i64 a1871]] w fun e w' => e = .returned (.bool r) ∧ Sep (fps []) w [] w' := by
  unfold tag_Right.f at H
  go_enter Tryd.func67, Tryd.ntmps67
  go_wp2_with (first | ((with_reducible refine gate_dst (N := 1) rfl ?_); refine box_on ?hg (N := 1) ?hd (cs := #[.int .i64 a1865, .int .i64 a1866, .int .i64 a1867, .int .i64 a1868, .int .i64 a1869, .int .i64 a1870, .int .i64 a1871]) (t := 32) ?hr ?_; (case hd => rfl); (case hg => rfl); (case hr => first | (go_simp; done) | (go_simp; rfl)); intro g1872 hg w1873 hbox hb; replace HS : Aside0 (Sep (fps []) w [b9 g1872 a1865 a1866 a1867 a1868 a1869 a1870 a1871] w1873) := ⟨HS.out.box hg hbox hb⟩; clear hg hbox hb; have hc1875 : w1873.cell? ⟨g1872, 0, none⟩ = some (.int .i64 a1865) := blk_cellv (HS.out.at0) 0 rfl; have hc1876 : w1873.cell? ⟨g1872, 1, none⟩ = some (.int .i64 a1866) := blk_cellv (HS.out.at0) 1 rfl; have hc1877 : w1873.cell? ⟨g1872, 2, none⟩ = some (.int .i64 a1867) := blk_cellv (HS.out.at0) 2 rfl; have hc1878 : w1873.cell? ⟨g1872, 3, none⟩ = some (.int .i64 a1868) := blk_cellv (HS.out.at0) 3 rfl; have hc1879 : w1873.cell? ⟨g1872, 4, none⟩ = some (.int .i64 a1869) := blk_cellv (HS.out.at0) 4 rfl; have hc1880 : w1873.cell? ⟨g1872, 5, none⟩ = some (.int .i64 a1870) := blk_cellv (HS.out.at0) 5 rfl; have hc1881 : w1873.cell? ⟨g1872, 6, none⟩ = some (.int .i64 a1871) := blk_cellv (HS.out.at0) 6 rfl))
  clear hc1875 hc1876 hc1877 hc1878 hc1879 hc1880 hc1881
  obtain ⟨t1916, HA1917, H⟩ := bind_some H
  refine (tag_marks.calls a1865 a1866 a1867 a1868 a1869 a1870 a1871 t1916 _ ⟨HGl0.out.pass (l := []) HS.out⟩ ⟨Sep.start _⟩ HA1917).mono ?_
  rintro e_ w1918 ⟨rfl, hS⟩
  replace HS : Aside0 (Sep (fps []) w [b9 g1872 a1865 a1866 a1867 a1868 a1869 a1870 a1871] w1918) := ⟨HS.out.call hS⟩
  clear hS
  go_wp2_with fail
  obtain ⟨o1931, AL1932, H⟩ := bind_some H
  go_loopg [7] k (fun kq v7 wc => ∃ (x1935 : Int), v7 = .int .i64 x1935 ∧ Aside0 (tag_Right.lo0 kq t1916 x1935 = some o1931) ∧ Aside0 (Sep (fps []) w [b9 g1872 a1865 a1866 a1867 a1868 a1869 a1870 a1871] wc))
  case atStart => exact ⟨(0), (by first | rfl | (simp [IntKind.wrap_u32]; done)), AL1932, ⟨HS.out⟩⟩
  case round =>
    clear AL1932 HS
    obtain ⟨x1935, rfl, AL1932, HS⟩ := hrel
    obtain ⟨w1933, rfl⟩ : ∃ x : World, x = wr := ⟨_, rfl⟩
    cases gk with
    | zero => exact absurd AL1932.out (by simp [tag_Right.lo0])
    | succ k1934 =>
      have AL0 := AL1932.out
      rw [tag_Right.lo0] at AL0
      clear AL1932
      have AL1932 := Aside0.mk AL0
      clear AL0
      by_cases c1936 : x1935 < 5
      · replace AL1932 := if_yes c1936 AL1932
        have c1936b0 : decide (x1935 < 5) = true := decide_eq_true c1936
        clear c1936
        by_cases c1937 : 0 ≤ x1935
        · replace AL1932 := if_yes c1937 AL1932
          have c1937b0 : decide (0 ≤ x1935) = true := decide_eq_true c1937
          have c1937p : (0 ≤ x1935) = True := eq_true c1937
          clear c1937
          have ip1938 : (x1935 < 5) = True := eq_true (of_decide_eq_true c1936b0)
          have ix1939 : ∀ w, (Instr.index 108 (.agg #[.int .i64 t1916.1, .int .i64 t1916.2.1, .int .i64 t1916.2.2.1, .int .i64 t1916.2.2.2.1, .int .i64 t1916.2.2.2.2]) (.int .i64 x1935)).run Tryd.prog w = .ok (.int .i64 (rd [t1916.1, t1916.2.1, t1916.2.2.1, t1916.2.2.2.1, t1916.2.2.2.2] x1935)) w := run_index_ints 108 3 5 .i64 .i64 [t1916.1, t1916.2.1, t1916.2.2.1, t1916.2.2.2.1, t1916.2.2.2.2] x1935 Tryd.underlying108 (fun _ => by kernel_rfl) (fun _ => by kernel_rfl) rfl (of_decide_eq_true c1937b0) (of_decide_eq_true c1936b0)
          by_cases c1940 : (rd [t1916.1, t1916.2.1, t1916.2.2.1, t1916.2.2.2.1, t1916.2.2.2.2] x1935) = 0
          · replace AL1932 := if_yes c1940 AL1932
            have c1940b0 : ((rd [t1916.1, t1916.2.1, t1916.2.2.1, t1916.2.2.2.1, t1916.2.2.2.2] x1935) == 0) = true := beq_iff_eq.mpr c1940
            have c1940b1 : ((rd [t1916.1, t1916.2.1, t1916.2.2.1, t1916.2.2.2.1, t1916.2.2.2.2] x1935) != 0) = false := bne_eq_false_iff_eq.mpr c1940
            clear c1940
            go_wp2_with fail
            go_roundg k1934
            case measure => exact Nat.lt_succ_self _
            case rel => exact ⟨(wrap64 (x1935 + 1)), (by first | rfl | (simp [IntKind.wrap_u32]; done)), Aside0.mk AL1932.out, ⟨HS.out⟩⟩
          · replace AL1932 := if_no c1940 AL1932
            have c1940b0 : ((rd [t1916.1, t1916.2.1, t1916.2.2.1, t1916.2.2.2.1, t1916.2.2.2.2] x1935) == 0) = false := beq_eq_false_iff_ne.mpr c1940
            have c1940b1 : ((rd [t1916.1, t1916.2.1, t1916.2.2.1, t1916.2.2.2.1, t1916.2.2.2.2] x1935) != 0) = true := bne_iff_ne.mpr c1940
            clear c1940
            by_cases c1941 : (rd [t1916.1, t1916.2.1, t1916.2.2.1, t1916.2.2.2.1, t1916.2.2.2.2] x1935) = 1
            · replace AL1932 := if_yes c1941 AL1932
              have c1941b0 : ((rd [t1916.1, t1916.2.1, t1916.2.2.1, t1916.2.2.2.1, t1916.2.2.2.2] x1935) == 1) = true := beq_iff_eq.mpr c1941
              have c1941b1 : ((rd [t1916.1, t1916.2.1, t1916.2.2.1, t1916.2.2.2.1, t1916.2.2.2.2] x1935) != 1) = false := bne_eq_false_iff_eq.mpr c1941
              clear c1941
              go_wp2_with fail
              go_roundg k1934
              case measure => exact Nat.lt_succ_self _
              case rel => exact ⟨(wrap64 (x1935 + 1)), (by first | rfl | (simp [IntKind.wrap_u32]; done)), Aside0.mk AL1932.out, ⟨HS.out⟩⟩
            · replace AL1932 := if_no c1941 AL1932
              have c1941b0 : ((rd [t1916.1, t1916.2.1, t1916.2.2.1, t1916.2.2.2.1, t1916.2.2.2.2] x1935) == 1) = false := beq_eq_false_iff_ne.mpr c1941
              have c1941b1 : ((rd [t1916.1, t1916.2.1, t1916.2.2.1, t1916.2.2.2.1, t1916.2.2.2.2] x1935) != 1) = true := bne_iff_ne.mpr c1941
              clear c1941
              go_wp2_with fail
              have ho := some_eq AL1932
              subst ho
              have H := lp_ret H
              go_ret
              rw [← some_eq H]
              exact ⟨(by first | rfl | (simp [IntKind.wrap_u32]; done)), HS.out.sub (.cons _ .slnil)⟩
        · replace AL1932 := if_no c1937 AL1932
          have c1937b0 : decide (0 ≤ x1935) = false := decide_eq_false c1937
          clear c1937
          exact (none_no AL1932).elim
      · replace AL1932 := if_no c1936 AL1932
        have c1936b0 : decide (x1935 < 5) = false := decide_eq_false c1936
        clear c1936
        have ho := some_eq AL1932
        subst ho
        clear AL1932
        have H := lp_out H
        by_cases c1943 : a1865 = 1
        · replace H := if_yes c1943 H
          have c1943b0 : (a1865 == 1) = true := beq_iff_eq.mpr c1943
          have c1943b1 : (a1865 != 1) = false := bne_eq_false_iff_eq.mpr c1943
          clear c1943
          have hc1942 : w1933.cell? ⟨g1872, 0, none⟩ = some (.int .i64 a1865) := blk_cellv (HS.out.at0) 0 rfl
          have hc1944 : w1933.cell? ⟨g1872, 6, none⟩ = some (.int .i64 a1871) := blk_cellv (HS.out.at0) 6 rfl
          replace HS : Aside0 (Sep (fps []) w [] w1933) := ⟨HS.out.sub (.cons _ .slnil)⟩
          go_wp2_with fail
          clear hc1942 hc1944
          go_ret
          rw [← some_eq H]
          exact ⟨(by first | rfl | (simp [IntKind.wrap_u32]; done)), HS.out⟩
        · replace H := if_no c1943 H
          have c1943b0 : (a1865 == 1) = false := beq_eq_false_iff_ne.mpr c1943
          have c1943b1 : (a1865 != 1) = true := bne_iff_ne.mpr c1943
          clear c1943
          by_cases c1945 : a1865 = 2
          · replace H := if_yes c1945 H
            have c1945b0 : (a1865 == 2) = true := beq_iff_eq.mpr c1945
            have c1945b1 : (a1865 != 2) = false := bne_eq_false_iff_eq.mpr c1945
            clear c1945
            have hc1942 : w1933.cell? ⟨g1872, 0, none⟩ = some (.int .i64 a1865) := blk_cellv (HS.out.at0) 0 rfl
            have hc1946 : w1933.cell? ⟨g1872, 6, none⟩ = some (.int .i64 a1871) := blk_cellv (HS.out.at0) 6 rfl
            replace HS : Aside0 (Sep (fps []) w [] w1933) := ⟨HS.out.sub (.cons _ .slnil)⟩
            go_wp2_with fail
            clear hc1942 hc1946
            go_ret
            rw [← some_eq H]
            exact ⟨(by first | rfl | (simp [IntKind.wrap_u32]; done)), HS.out⟩
          · replace H := if_no c1945 H
            have c1945b0 : (a1865 == 2) = false := beq_eq_false_iff_ne.mpr c1945
            have c1945b1 : (a1865 != 2) = true := bne_iff_ne.mpr c1945
            clear c1945
            by_cases c1947 : a1865 = 0
            · replace H := if_yes c1947 H
              have c1947b0 : (a1865 == 0) = true := beq_iff_eq.mpr c1947
              have c1947b1 : (a1865 != 0) = false := bne_eq_false_iff_eq.mpr c1947
              clear c1947
              have hc1942 : w1933.cell? ⟨g1872, 0, none⟩ = some (.int .i64 a1865) := blk_cellv (HS.out.at0) 0 rfl
              go_wp2_with fail
              clear hc1942
              refine start_ (n := 25) (S := (fun w' => w'.cell? ⟨g1872, 0, none⟩ = some (.int .i64 a1865) ∧ w'.cell? ⟨g1872, 1, none⟩ = some (.int .i64 a1866) ∧ w'.cell? ⟨g1872, 2, none⟩ = some (.int .i64 a1867) ∧ w'.cell? ⟨g1872, 3, none⟩ = some (.int .i64 a1868) ∧ w'.cell? ⟨g1872, 4, none⟩ = some (.int .i64 a1869) ∧ w'.cell? ⟨g1872, 5, none⟩ = some (.int .i64 a1870) ∧ w'.cell? ⟨g1872, 6, none⟩ = some (.int .i64 a1871) ∧ w'.cell? ⟨0, 0, none⟩ = some (.int .i64 0) ∧ w'.cell? ⟨0, 1, none⟩ = some (.int .i64 0) ∧ w'.cell? ⟨0, 2, none⟩ = some (.int .i64 0) ∧ w'.cell? ⟨0, 3, none⟩ = some (.int .i64 0) ∧ w'.cell? ⟨0, 4, none⟩ = some (.int .i64 0))) (ds := []) #[false, false, false, false, false, false, false, false, false, false, false, false, false, false, false, false, false, false, false, false, false, false, false, false, false] (by kernel_rfl) rfl rfl (⟨blk_cellv ((HS.out.drew).at0) 0 rfl, blk_cellv ((HS.out.drew).at0) 1 rfl, blk_cellv ((HS.out.drew).at0) 2 rfl, blk_cellv ((HS.out.drew).at0) 3 rfl, blk_cellv ((HS.out.drew).at0) 4 rfl, blk_cellv ((HS.out.drew).at0) 5 rfl, blk_cellv ((HS.out.drew).at0) 6 rfl, Gl.cell HGl0.out (HS.out.drew).fr 0 rfl, Gl.cell HGl0.out (HS.out.drew).fr 1 rfl, Gl.cell HGl0.out (HS.out.drew).fr 2 rfl, Gl.cell HGl0.out (HS.out.drew).fr 3 rfl, Gl.cell HGl0.out (HS.out.drew).fr 4 rfl⟩) (fun hHeld => ?_)
              have HS_ := Aside0.mk HS.out.drew
              clear HS
              generalize World.drew _ = w1949 at HS_ hHeld ⊢
              have HS := HS_
              clear HS_
              refine take_ (i := 0) (N := some 28) (v := ?_) (a' := ?_) #[true, false, false, false, false, false, false, false, false, false, false, false, false, false, false, false, false, false, false, false, false, false, false, false, false] rfl rfl (by kernel_rfl) (fun _ _ _ h => h) (Or.inl ⟨by rfl, ?_⟩) hHeld ?_ ?_
              rotate_left
              · rintro w' hS'
                obtain ⟨s0, s1, s2, s3, s4, s5, s6, s7, s8, s9, s10, s11⟩ := hS'
                go_simp
                with_reducible rfl
              rotate_left
              · simp only [Act.put, List.setIfInBounds_toArray, List.set_cons_zero, List.set_cons_succ, i64_w, i32_w]
                rfl
              refine take_ (i := 2) (N := some 30) (v := ?_) (a' := ?_) #[true, false, true, false, false, false, false, false, false, false, false, false, false, false, false, false, false, false, false, false, false, false, false, false, false] rfl rfl (by kernel_rfl) (fun _ _ _ h => h) (Or.inl ⟨by rfl, ?_⟩) hHeld ?_ ?_
              rotate_left
              · rintro w' hS'
                obtain ⟨s0, s1, s2, s3, s4, s5, s6, s7, s8, s9, s10, s11⟩ := hS'
                go_simp
                with_reducible rfl
              rotate_left
              · simp only [Act.put, List.setIfInBounds_toArray, List.set_cons_zero, List.set_cons_succ, i64_w, i32_w]
                rfl
              refine one_ (i := 1) (N := some 29) #[true, true, true, false, false, false, false, false, false, false, false, false, false, false, false, false, false, false, false, false, false, false, false, false, false] rfl rfl (by kernel_rfl) (by decide) (fun K hK => ?_)
              obtain ⟨t1950, HA1951, H⟩ := bind_some H
              refine goes_ Tryd.func68 (by kernel_rfl) rfl #[.agg #[.int .i64 a1865, .int .i64 a1866, .int .i64 a1867, .int .i64 a1868, .int .i64 a1869, .int .i64 a1870, .int .i64 a1871]] (by rfl) rfl rfl (by (try simp only [List.map_toArray, List.map_cons, List.map_nil]); first | done | rfl) ?_
              refine (tag_marks.calls a1865 a1866 a1867 a1868 a1869 a1870 a1871 t1950 _ ⟨HGl0.out.pass (l := []) HS.out⟩ ⟨Sep.start _⟩ HA1951).mono ?_
              rintro e_ w1952 ⟨rfl, hS⟩
              replace HS : Aside0 (Sep (fps []) w [b9 g1872 a1865 a1866 a1867 a1868 a1869 a1870 a1871] w1952) := ⟨HS.out.call hS⟩
              clear hS
              refine ⟨_, rfl, ?_⟩
              refine hK.out _ _ (⟨blk_cellv (HS.out.at0) 0 rfl, blk_cellv (HS.out.at0) 1 rfl, blk_cellv (HS.out.at0) 2 rfl, blk_cellv (HS.out.at0) 3 rfl, blk_cellv (HS.out.at0) 4 rfl, blk_cellv (HS.out.at0) 5 rfl, blk_cellv (HS.out.at0) 6 rfl, Gl.cell HGl0.out HS.out.fr 0 rfl, Gl.cell HGl0.out HS.out.fr 1 rfl, Gl.cell HGl0.out HS.out.fr 2 rfl, Gl.cell HGl0.out HS.out.fr 3 rfl, Gl.cell HGl0.out HS.out.fr 4 rfl⟩) (fun hHeld => ?_)
              clear hK K
              refine norm_ (a' := ?_) ?_ ?_
              rotate_left
              · show Act.put _ (some 29) _ = _
                simp only [Act.put, List.setIfInBounds_toArray, List.set_cons_zero, List.set_cons_succ, i64_w, i32_w]
                rfl
              obtain ⟨b1954, HA1955, H⟩ := bind_some H
              have eb1953 : ∀ w, (Op.equalIn 10000 108 (.agg #[.int .i64 t1950.1, .int .i64 t1950.2.1, .int .i64 t1950.2.2.1, .int .i64 t1950.2.2.2.1, .int .i64 t1950.2.2.2.2]) (.agg #[.int .i64 0, .int .i64 0, .int .i64 0, .int .i64 0, .int .i64 0])).run Tryd.prog w = .ok b1954 w := some_eq HA1955 ▸ run_eq_ints 9998 108 3 5 .i64 [t1950.1, t1950.2.1, t1950.2.2.1, t1950.2.2.2.1, t1950.2.2.2.2] [0, 0, 0, 0, 0] Tryd.underlying108 (by kernel_rfl) (by kernel_rfl) Tryd.underlying3 (fun _ => by kernel_rfl) rfl rfl
              refine pure_ (i := 3) (N := some 31) (v := ?_) (a' := ?_) #[true, true, true, true, false, false, false, false, false, false, false, false, false, false, false, false, false, false, false, false, false, false, false, false, false] rfl rfl (by kernel_rfl) (fun _ _ _ h => h) (Or.inl ⟨by rfl, ?_⟩) ?_ ?_
              rotate_left
              · intro w'
                go_simp
                with_reducible rfl
              rotate_left
              · simp only [Act.put, List.setIfInBounds_toArray, List.set_cons_zero, List.set_cons_succ, i64_w, i32_w]
                rfl
              refine pure_ (i := 4) (N := some 32) (v := ?_) (a' := ?_) #[true, true, true, true, true, false, false, false, false, false, false, false, false, false, false, false, false, false, false, false, false, false, false, false, false] rfl rfl (by kernel_rfl) (fun _ _ _ h => h) (Or.inl ⟨by rfl, ?_⟩) ?_ ?_
              rotate_left
              · intro w'
                go_simp
                with_reducible rfl
              rotate_left
              · simp only [Act.put, List.setIfInBounds_toArray, List.set_cons_zero, List.set_cons_succ, i64_w, i32_w]
                rfl
              by_cases c1956 : b1954 = true
              · replace H := if_yes c1956 H
                have c1956b0 : b1954 = true := c1956
                have c1956b1 : (!b1954) = false := by rw [c1956b0]; rfl
                clear c1956
                try simp only [c1956b0, Bool.not_true, Bool.not_false]
                refine pure_ (i := 5) (N := some 33) (v := ?_) (a' := ?_) #[true, true, true, true, true, true, false, false, false, false, false, false, false, false, false, false, false, false, false, false, false, false, false, false, false] rfl rfl (by kernel_rfl) (fun _ _ _ h => h) (Or.inl ⟨by rfl, ?_⟩) ?_ ?_
                rotate_left
                · intro w'
                  go_simp
                  with_reducible rfl
                rotate_left
                · simp only [Act.put, List.setIfInBounds_toArray, List.set_cons_zero, List.set_cons_succ, i64_w, i32_w]
                  rfl
                try simp only [c1956b0, Bool.not_true, Bool.not_false]
                refine take_ (i := 6) (N := some 34) (v := ?_) (a' := ?_) #[true, true, true, true, true, true, true, false, false, false, false, false, false, false, false, false, false, false, false, false, false, false, false, false, false] rfl rfl (by kernel_rfl) (fun _ _ _ h => h) (Or.inl ⟨by rfl, ?_⟩) hHeld ?_ ?_
                rotate_left
                · rintro w' hS'
                  obtain ⟨s0, s1, s2, s3, s4, s5, s6, s7, s8, s9, s10, s11⟩ := hS'
                  go_simp
                  with_reducible rfl
                rotate_left
                · simp only [Act.put, List.setIfInBounds_toArray, List.set_cons_zero, List.set_cons_succ, i64_w, i32_w]
                  rfl
                try simp only [c1956b0, Bool.not_true, Bool.not_false]
                refine pure_ (i := 7) (N := some 35) (v := ?_) (a' := ?_) #[true, true, true, true, true, true, true, true, false, false, false, false, false, false, false, false, false, false, false, false, false, false, false, false, false] rfl rfl (by kernel_rfl) (fun _ _ _ h => h) (Or.inl ⟨by rfl, ?_⟩) ?_ ?_
                rotate_left
                · intro w'
                  go_simp
                  with_reducible rfl
                rotate_left
                · simp only [Act.put, List.setIfInBounds_toArray, List.set_cons_zero, List.set_cons_succ, i64_w, i32_w]
                  rfl
                refine pure_ (i := 8) (N := some 36) (v := ?_) (a' := ?_) #[true, true, true, true, true, true, true, true, true, false, false, false, false, false, false, false, false, false, false, false, false, false, false, false, false] rfl rfl (by kernel_rfl) (fun _ _ _ h => h) (Or.inl ⟨by rfl, ?_⟩) ?_ ?_
                rotate_left
                · intro w'
                  go_simp
                  with_reducible rfl
                rotate_left
                · simp only [Act.put, List.setIfInBounds_toArray, List.set_cons_zero, List.set_cons_succ, i64_w, i32_w]
                  rfl
                refine pure_ (i := 9) (N := some 37) (v := ?_) (a' := ?_) #[true, true, true, true, true, true, true, true, true, true, false, false, false, false, false, false, false, false, false, false, false, false, false, false, false] rfl rfl (by kernel_rfl) (fun _ _ _ h => h) (Or.inl ⟨by rfl, ?_⟩) ?_ ?_
                rotate_left
                · intro w'
                  go_simp
                  with_reducible rfl
                rotate_left
                · simp only [Act.put, List.setIfInBounds_toArray, List.set_cons_zero, List.set_cons_succ, i64_w, i32_w]
                  rfl
                by_cases c1957 : a1871 ≥ 0
                · replace H := if_yes c1957 H
                  have c1957b0 : decide (0 ≤ a1871) = true := decide_eq_true c1957
                  clear c1957
                  try simp only [c1957b0, Bool.not_true, Bool.not_false]
                  refine pure_ (i := 10) (N := some 38) (v := ?_) (a' := ?_) #[true, true, true, true, true, true, true, true, true, true, true, false, false, false, false, false, false, false, false, false, false, false, false, false, false] rfl rfl (by kernel_rfl) (fun _ _ _ h => h) (Or.inl ⟨by rfl, ?_⟩) ?_ ?_
                  rotate_left
                  · intro w'
                    go_simp
                    with_reducible rfl
                  rotate_left
                  · simp only [Act.put, List.setIfInBounds_toArray, List.set_cons_zero, List.set_cons_succ, i64_w, i32_w]
                    rfl
                  try simp only [c1957b0, Bool.not_true, Bool.not_false]
                  refine take_ (i := 11) (N := some 39) (v := ?_) (a' := ?_) #[true, true, true, true, true, true, true, true, true, true, true, true, false, false, false, false, false, false, false, false, false, false, false, false, false] rfl rfl (by kernel_rfl) (fun _ _ _ h => h) (Or.inl ⟨by rfl, ?_⟩) hHeld ?_ ?_
                  rotate_left
                  · rintro w' hS'
                    obtain ⟨s0, s1, s2, s3, s4, s5, s6, s7, s8, s9, s10, s11⟩ := hS'
                    go_simp
                    with_reducible rfl
                  rotate_left
                  · simp only [Act.put, List.setIfInBounds_toArray, List.set_cons_zero, List.set_cons_succ, i64_w, i32_w]
                    rfl
                  try simp only [c1957b0, Bool.not_true, Bool.not_false]
                  refine pure_ (i := 12) (N := some 40) (v := ?_) (a' := ?_) #[true, true, true, true, true, true, true, true, true, true, true, true, true, false, false, false, false, false, false, false, false, false, false, false, false] rfl rfl (by kernel_rfl) (fun _ _ _ h => h) (Or.inl ⟨by rfl, ?_⟩) ?_ ?_
                  rotate_left
                  · intro w'
                    go_simp
                    with_reducible rfl
                  rotate_left
                  · simp only [Act.put, List.setIfInBounds_toArray, List.set_cons_zero, List.set_cons_succ, i64_w, i32_w]
                    rfl
                  refine pure_ (i := 13) (N := some 41) (v := ?_) (a' := ?_) #[true, true, true, true, true, true, true, true, true, true, true, true, true, true, false, false, false, false, false, false, false, false, false, false, false] rfl rfl (by kernel_rfl) (fun _ _ _ h => h) (Or.inl ⟨by rfl, ?_⟩) ?_ ?_
                  rotate_left
                  · intro w'
                    go_simp
                    with_reducible rfl
                  rotate_left
                  · simp only [Act.put, List.setIfInBounds_toArray, List.set_cons_zero, List.set_cons_succ, i64_w, i32_w]
                    rfl
                  refine pure_ (i := 14) (N := some 42) (v := ?_) (a' := ?_) #[true, true, true, true, true, true, true, true, true, true, true, true, true, true, true, false, false, false, false, false, false, false, false, false, false] rfl rfl (by kernel_rfl) (fun _ _ _ h => h) (Or.inl ⟨by rfl, ?_⟩) ?_ ?_
                  rotate_left
                  · intro w'
                    go_simp
                    with_reducible rfl
                  rotate_left
                  · simp only [Act.put, List.setIfInBounds_toArray, List.set_cons_zero, List.set_cons_succ, i64_w, i32_w]
                    rfl
                  by_cases c1958 : a1871 < 1048576
                  · replace H := if_yes c1958 H
                    have c1958b0 : decide (a1871 < 1048576) = true := decide_eq_true c1958
                    clear c1958
                    try simp only [c1958b0, Bool.not_true, Bool.not_false]
                    refine pure_ (i := 15) (N := some 43) (v := ?_) (a' := ?_) #[true, true, true, true, true, true, true, true, true, true, true, true, true, true, true, true, false, false, false, false, false, false, false, false, false] rfl rfl (by kernel_rfl) (fun _ _ _ h => h) (Or.inl ⟨by rfl, ?_⟩) ?_ ?_
                    rotate_left
                    · intro w'
                      go_simp
                      with_reducible rfl
                    rotate_left
                    · simp only [Act.put, List.setIfInBounds_toArray, List.set_cons_zero, List.set_cons_succ, i64_w, i32_w]
                      rfl
                    try simp only [c1958b0, Bool.not_true, Bool.not_false]
                    refine take_ (i := 16) (N := some 44) (v := ?_) (a' := ?_) #[true, true, true, true, true, true, true, true, true, true, true, true, true, true, true, true, true, false, false, false, false, false, false, false, false] rfl rfl (by kernel_rfl) (fun _ _ _ h => h) (Or.inl ⟨by rfl, ?_⟩) hHeld ?_ ?_
                    rotate_left
                    · rintro w' hS'
                      obtain ⟨s0, s1, s2, s3, s4, s5, s6, s7, s8, s9, s10, s11⟩ := hS'
                      go_simp
                      with_reducible rfl
                    rotate_left
                    · simp only [Act.put, List.setIfInBounds_toArray, List.set_cons_zero, List.set_cons_succ, i64_w, i32_w]
                      rfl
                    try simp only [c1958b0, Bool.not_true, Bool.not_false]
                    refine pure_ (i := 17) (N := some 45) (v := ?_) (a' := ?_) #[true, true, true, true, true, true, true, true, true, true, true, true, true, true, true, true, true, true, false, false, false, false, false, false, false] rfl rfl (by kernel_rfl) (fun _ _ _ h => h) (Or.inl ⟨by rfl, ?_⟩) ?_ ?_
                    rotate_left
                    · intro w'
                      go_simp
                      with_reducible rfl
                    rotate_left
                    · simp only [Act.put, List.setIfInBounds_toArray, List.set_cons_zero, List.set_cons_succ, i64_w, i32_w]
                      rfl
                    try simp only [c1958b0, Bool.not_true, Bool.not_false]
                    refine pure_ (i := 18) (N := some 46) (v := ?_) (a' := ?_) #[true, true, true, true, true, true, true, true, true, true, true, true, true, true, true, true, true, true, true, false, false, false, false, false, false] rfl rfl (by kernel_rfl) (fun _ _ _ h => h) (Or.inl ⟨by rfl, ?_⟩) ?_ ?_
                    rotate_left
                    · intro w'
                      go_simp
                      with_reducible rfl
                    rotate_left
                    · simp only [Act.put, List.setIfInBounds_toArray, List.set_cons_zero, List.set_cons_succ, i64_w, i32_w]
                      rfl
                    by_cases c1959 : a1865 = 3
                    · replace H := if_yes c1959 H
                      have c1959b0 : (a1865 == 3) = true := beq_iff_eq.mpr c1959
                      have c1959b1 : (a1865 != 3) = false := bne_eq_false_iff_eq.mpr c1959
                      clear c1959
                      try simp only [c1959b0, c1959b1, Bool.not_true, Bool.not_false]
                      refine pure_ (i := 19) (N := some 47) (v := undef) (a' := ?_) #[true, true, true, true, true, true, true, true, true, true, true, true, true, true, true, true, true, true, true, true, false, false, false, false, false] rfl rfl (by kernel_rfl) (fun _ _ _ h => h) (Or.inr ⟨by rfl, rfl⟩) ?_ ?_
                      rotate_left
                      · simp only [Act.put, List.setIfInBounds_toArray, List.set_cons_zero, List.set_cons_succ, i64_w, i32_w]
                        rfl
                      try simp only [c1959b0, c1959b1, Bool.not_true, Bool.not_false]
                      refine pure_ (i := 20) (N := some 48) (v := undef) (a' := ?_) #[true, true, true, true, true, true, true, true, true, true, true, true, true, true, true, true, true, true, true, true, true, false, false, false, false] rfl rfl (by kernel_rfl) (fun _ _ _ h => h) (Or.inr ⟨by rfl, rfl⟩) ?_ ?_
                      rotate_left
                      · simp only [Act.put, List.setIfInBounds_toArray, List.set_cons_zero, List.set_cons_succ, i64_w, i32_w]
                        rfl
                      try simp only [c1959b0, c1959b1, Bool.not_true, Bool.not_false]
                      refine pure_ (i := 21) (N := some 49) (v := undef) (a' := ?_) #[true, true, true, true, true, true, true, true, true, true, true, true, true, true, true, true, true, true, true, true, true, true, false, false, false] rfl rfl (by kernel_rfl) (fun _ _ _ h => h) (Or.inr ⟨by rfl, rfl⟩) ?_ ?_
                      rotate_left
                      · simp only [Act.put, List.setIfInBounds_toArray, List.set_cons_zero, List.set_cons_succ, i64_w, i32_w]
                        rfl
                      try simp only [c1958b0, Bool.not_true, Bool.not_false]
                      refine pure_ (i := 22) (N := some 50) (v := ?_) (a' := ?_) #[true, true, true, true, true, true, true, true, true, true, true, true, true, true, true, true, true, true, true, true, true, true, true, false, false] rfl rfl (by kernel_rfl) (fun _ _ _ h => h) (Or.inl ⟨by rfl, ?_⟩) ?_ ?_
                      rotate_left
                      · intro w'
                        go_simp
                        with_reducible rfl
                      rotate_left
                      · simp only [Act.put, List.setIfInBounds_toArray, List.set_cons_zero, List.set_cons_succ, i64_w, i32_w]
                        rfl
                      refine pure_ (i := 23) (N := some 51) (v := ?_) (a' := ?_) #[true, true, true, true, true, true, true, true, true, true, true, true, true, true, true, true, true, true, true, true, true, true, true, true, false] rfl rfl (by kernel_rfl) (fun _ _ _ h => h) (Or.inl ⟨by rfl, ?_⟩) ?_ ?_
                      rotate_left
                      · intro w'
                        go_simp
                        with_reducible rfl
                      rotate_left
                      · simp only [Act.put, List.setIfInBounds_toArray, List.set_cons_zero, List.set_cons_succ, i64_w, i32_w]
                        rfl
                      refine pure_ (i := 24) (N := some 2) (v := ?_) (a' := ?_) #[true, true, true, true, true, true, true, true, true, true, true, true, true, true, true, true, true, true, true, true, true, true, true, true, true] rfl rfl (by kernel_rfl) (fun _ _ _ h => h) (Or.inl ⟨by rfl, ?_⟩) ?_ ?_
                      rotate_left
                      · intro w'
                        go_simp
                        with_reducible rfl
                      rotate_left
                      · simp only [Act.put, List.setIfInBounds_toArray, List.set_cons_zero, List.set_cons_succ, i64_w, i32_w]
                        rfl
                      refine done_ (by kernel_rfl) ?_
                      replace HS : Aside0 (Sep (fps []) w [] w1952) := ⟨HS.out.sub (.cons _ .slnil)⟩
                      go_wp2_with fail
                      go_ret
                      rw [← some_eq H]
                      exact ⟨(by first | rfl | (simp [IntKind.wrap_u32]; done)), HS.out⟩
                    · replace H := if_no c1959 H
                      have c1959b0 : (a1865 == 3) = false := beq_eq_false_iff_ne.mpr c1959
                      have c1959b1 : (a1865 != 3) = true := bne_iff_ne.mpr c1959
                      clear c1959
                      try simp only [c1959b0, c1959b1, Bool.not_true, Bool.not_false]
                      refine pure_ (i := 19) (N := some 47) (v := ?_) (a' := ?_) #[true, true, true, true, true, true, true, true, true, true, true, true, true, true, true, true, true, true, true, true, false, false, false, false, false] rfl rfl (by kernel_rfl) (fun _ _ _ h => h) (Or.inl ⟨by rfl, ?_⟩) ?_ ?_
                      rotate_left
                      · intro w'
                        go_simp
                        with_reducible rfl
                      rotate_left
                      · simp only [Act.put, List.setIfInBounds_toArray, List.set_cons_zero, List.set_cons_succ, i64_w, i32_w]
                        rfl
                      try simp only [c1959b0, c1959b1, Bool.not_true, Bool.not_false]
                      refine take_ (i := 20) (N := some 48) (v := ?_) (a' := ?_) #[true, true, true, true, true, true, true, true, true, true, true, true, true, true, true, true, true, true, true, true, true, false, false, false, false] rfl rfl (by kernel_rfl) (fun _ _ _ h => h) (Or.inl ⟨by rfl, ?_⟩) hHeld ?_ ?_
                      rotate_left
                      · rintro w' hS'
                        obtain ⟨s0, s1, s2, s3, s4, s5, s6, s7, s8, s9, s10, s11⟩ := hS'
                        go_simp
                        with_reducible rfl
                      rotate_left
                      · simp only [Act.put, List.setIfInBounds_toArray, List.set_cons_zero, List.set_cons_succ, i64_w, i32_w]
                        rfl
                      try simp only [c1959b0, c1959b1, Bool.not_true, Bool.not_false]
                      refine pure_ (i := 21) (N := some 49) (v := ?_) (a' := ?_) #[true, true, true, true, true, true, true, true, true, true, true, true, true, true, true, true, true, true, true, true, true, true, false, false, false] rfl rfl (by kernel_rfl) (fun _ _ _ h => h) (Or.inl ⟨by rfl, ?_⟩) ?_ ?_
                      rotate_left
                      · intro w'
                        go_simp
                        with_reducible rfl
                      rotate_left
                      · simp only [Act.put, List.setIfInBounds_toArray, List.set_cons_zero, List.set_cons_succ, i64_w, i32_w]
                        rfl
                      try simp only [c1958b0, Bool.not_true, Bool.not_false]
                      refine pure_ (i := 22) (N := some 50) (v := ?_) (a' := ?_) #[true, true, true, true, true, true, true, true, true, true, true, true, true, true, true, true, true, true, true, true, true, true, true, false, false] rfl rfl (by kernel_rfl) (fun _ _ _ h => h) (Or.inl ⟨by rfl, ?_⟩) ?_ ?_
                      rotate_left
                      · intro w'
                        go_simp
                        with_reducible rfl
                      rotate_left
                      · simp only [Act.put, List.setIfInBounds_toArray, List.set_cons_zero, List.set_cons_succ, i64_w, i32_w]
                        rfl
                      refine pure_ (i := 23) (N := some 51) (v := ?_) (a' := ?_) #[true, true, true, true, true, true, true, true, true, true, true, true, true, true, true, true, true, true, true, true, true, true, true, true, false] rfl rfl (by kernel_rfl) (fun _ _ _ h => h) (Or.inl ⟨by rfl, ?_⟩) ?_ ?_
                      rotate_left
                      · intro w'
                        go_simp
                        with_reducible rfl
                      rotate_left
                      · simp only [Act.put, List.setIfInBounds_toArray, List.set_cons_zero, List.set_cons_succ, i64_w, i32_w]
                        rfl
                      refine pure_ (i := 24) (N := some 2) (v := ?_) (a' := ?_) #[true, true, true, true, true, true, true, true, true, true, true, true, true, true, true, true, true, true, true, true, true, true, true, true, true] rfl rfl (by kernel_rfl) (fun _ _ _ h => h) (Or.inl ⟨by rfl, ?_⟩) ?_ ?_
                      rotate_left
                      · intro w'
                        go_simp
                        with_reducible rfl
                      rotate_left
                      · simp only [Act.put, List.setIfInBounds_toArray, List.set_cons_zero, List.set_cons_succ, i64_w, i32_w]
                        rfl
                      refine done_ (by kernel_rfl) ?_
                      replace HS : Aside0 (Sep (fps []) w [] w1952) := ⟨HS.out.sub (.cons _ .slnil)⟩
                      go_wp2_with fail
                      go_ret
                      rw [← some_eq H]
                      exact ⟨(by first | rfl | (simp [IntKind.wrap_u32]; done)), HS.out⟩
                  · replace H := if_no c1958 H
                    have c1958b0 : decide (a1871 < 1048576) = false := decide_eq_false c1958
                    clear c1958
                    try simp only [c1958b0, Bool.not_true, Bool.not_false]
                    refine pure_ (i := 15) (N := some 43) (v := undef) (a' := ?_) #[true, true, true, true, true, true, true, true, true, true, true, true, true, true, true, true, false, false, false, false, false, false, false, false, false] rfl rfl (by kernel_rfl) (fun _ _ _ h => h) (Or.inr ⟨by rfl, rfl⟩) ?_ ?_
                    rotate_left
                    · simp only [Act.put, List.setIfInBounds_toArray, List.set_cons_zero, List.set_cons_succ, i64_w, i32_w]
                      rfl
                    try simp only [c1958b0, Bool.not_true, Bool.not_false]
                    refine pure_ (i := 16) (N := some 44) (v := undef) (a' := ?_) #[true, true, true, true, true, true, true, true, true, true, true, true, true, true, true, true, true, false, false, false, false, false, false, false, false] rfl rfl (by kernel_rfl) (fun _ _ _ h => h) (Or.inr ⟨by rfl, rfl⟩) ?_ ?_
                    rotate_left
                    · simp only [Act.put, List.setIfInBounds_toArray, List.set_cons_zero, List.set_cons_succ, i64_w, i32_w]
                      rfl
                    try simp only [c1958b0, Bool.not_true, Bool.not_false]
                    refine pure_ (i := 17) (N := some 45) (v := undef) (a' := ?_) #[true, true, true, true, true, true, true, true, true, true, true, true, true, true, true, true, true, true, false, false, false, false, false, false, false] rfl rfl (by kernel_rfl) (fun _ _ _ h => h) (Or.inr ⟨by rfl, rfl⟩) ?_ ?_
                    rotate_left
                    · simp only [Act.put, List.setIfInBounds_toArray, List.set_cons_zero, List.set_cons_succ, i64_w, i32_w]
                      rfl
                    try simp only [c1958b0, Bool.not_true, Bool.not_false]
                    refine pure_ (i := 18) (N := some 46) (v := undef) (a' := ?_) #[true, true, true, true, true, true, true, true, true, true, true, true, true, true, true, true, true, true, true, false, false, false, false, false, false] rfl rfl (by kernel_rfl) (fun _ _ _ h => h) (Or.inr ⟨by rfl, rfl⟩) ?_ ?_
                    rotate_left
                    · simp only [Act.put, List.setIfInBounds_toArray, List.set_cons_zero, List.set_cons_succ, i64_w, i32_w]
                      rfl
                    refine pure_ (i := 19) (N := some 47) (v := undef) (a' := ?_) #[true, true, true, true, true, true, true, true, true, true, true, true, true, true, true, true, true, true, true, true, false, false, false, false, false] rfl rfl (by kernel_rfl) (fun _ _ _ h => h) (Or.inr ⟨by rfl, rfl⟩) ?_ ?_
                    rotate_left
                    · simp only [Act.put, List.setIfInBounds_toArray, List.set_cons_zero, List.set_cons_succ, i64_w, i32_w]
                      rfl
                    refine pure_ (i := 20) (N := some 48) (v := undef) (a' := ?_) #[true, true, true, true, true, true, true, true, true, true, true, true, true, true, true, true, true, true, true, true, true, false, false, false, false] rfl rfl (by kernel_rfl) (fun _ _ _ h => h) (Or.inr ⟨by rfl, rfl⟩) ?_ ?_
                    rotate_left
                    · simp only [Act.put, List.setIfInBounds_toArray, List.set_cons_zero, List.set_cons_succ, i64_w, i32_w]
                      rfl
                    refine pure_ (i := 21) (N := some 49) (v := undef) (a' := ?_) #[true, true, true, true, true, true, true, true, true, true, true, true, true, true, true, true, true, true, true, true, true, true, false, false, false] rfl rfl (by kernel_rfl) (fun _ _ _ h => h) (Or.inr ⟨by rfl, rfl⟩) ?_ ?_
                    rotate_left
                    · simp only [Act.put, List.setIfInBounds_toArray, List.set_cons_zero, List.set_cons_succ, i64_w, i32_w]
                      rfl
                    try simp only [c1958b0, Bool.not_true, Bool.not_false]
                    refine pure_ (i := 22) (N := some 50) (v := undef) (a' := ?_) #[true, true, true, true, true, true, true, true, true, true, true, true, true, true, true, true, true, true, true, true, true, true, true, false, false] rfl rfl (by kernel_rfl) (fun _ _ _ h => h) (Or.inr ⟨by rfl, rfl⟩) ?_ ?_
                    rotate_left
                    · simp only [Act.put, List.setIfInBounds_toArray, List.set_cons_zero, List.set_cons_succ, i64_w, i32_w]
                      rfl
                    refine pure_ (i := 23) (N := some 51) (v := ?_) (a' := ?_) #[true, true, true, true, true, true, true, true, true, true, true, true, true, true, true, true, true, true, true, true, true, true, true, true, false] rfl rfl (by kernel_rfl) (fun _ _ _ h => h) (Or.inl ⟨by rfl, ?_⟩) ?_ ?_
                    rotate_left
                    · intro w'
                      go_simp
                      with_reducible rfl
                    rotate_left
                    · simp only [Act.put, List.setIfInBounds_toArray, List.set_cons_zero, List.set_cons_succ, i64_w, i32_w]
                      rfl
                    refine pure_ (i := 24) (N := some 2) (v := ?_) (a' := ?_) #[true, true, true, true, true, true, true, true, true, true, true, true, true, true, true, true, true, true, true, true, true, true, true, true, true] rfl rfl (by kernel_rfl) (fun _ _ _ h => h) (Or.inl ⟨by rfl, ?_⟩) ?_ ?_
                    rotate_left
                    · intro w'
                      go_simp
                      with_reducible rfl
                    rotate_left
                    · simp only [Act.put, List.setIfInBounds_toArray, List.set_cons_zero, List.set_cons_succ, i64_w, i32_w]
                      rfl
                    refine done_ (by kernel_rfl) ?_
                    replace HS : Aside0 (Sep (fps []) w [] w1952) := ⟨HS.out.sub (.cons _ .slnil)⟩
                    go_wp2_with fail
                    go_ret
                    rw [← some_eq H]
                    exact ⟨(by first | rfl | (simp [IntKind.wrap_u32]; done)), HS.out⟩
                · replace H := if_no c1957 H
                  have c1957b0 : decide (0 ≤ a1871) = false := decide_eq_false c1957
                  clear c1957
                  try simp only [c1957b0, Bool.not_true, Bool.not_false]
                  refine pure_ (i := 10) (N := some 38) (v := undef) (a' := ?_) #[true, true, true, true, true, true, true, true, true, true, true, false, false, false, false, false, false, false, false, false, false, false, false, false, false] rfl rfl (by kernel_rfl) (fun _ _ _ h => h) (Or.inr ⟨by rfl, rfl⟩) ?_ ?_
                  rotate_left
                  · simp only [Act.put, List.setIfInBounds_toArray, List.set_cons_zero, List.set_cons_succ, i64_w, i32_w]
                    rfl
                  try simp only [c1957b0, Bool.not_true, Bool.not_false]
                  refine pure_ (i := 11) (N := some 39) (v := undef) (a' := ?_) #[true, true, true, true, true, true, true, true, true, true, true, true, false, false, false, false, false, false, false, false, false, false, false, false, false] rfl rfl (by kernel_rfl) (fun _ _ _ h => h) (Or.inr ⟨by rfl, rfl⟩) ?_ ?_
                  rotate_left
                  · simp only [Act.put, List.setIfInBounds_toArray, List.set_cons_zero, List.set_cons_succ, i64_w, i32_w]
                    rfl
                  try simp only [c1957b0, Bool.not_true, Bool.not_false]
                  refine pure_ (i := 12) (N := some 40) (v := undef) (a' := ?_) #[true, true, true, true, true, true, true, true, true, true, true, true, true, false, false, false, false, false, false, false, false, false, false, false, false] rfl rfl (by kernel_rfl) (fun _ _ _ h => h) (Or.inr ⟨by rfl, rfl⟩) ?_ ?_
                  rotate_left
                  · simp only [Act.put, List.setIfInBounds_toArray, List.set_cons_zero, List.set_cons_succ, i64_w, i32_w]
                    rfl
                  refine pure_ (i := 13) (N := some 41) (v := ?_) (a' := ?_) #[true, true, true, true, true, true, true, true, true, true, true, true, true, true, false, false, false, false, false, false, false, false, false, false, false] rfl rfl (by kernel_rfl) (fun _ _ _ h => h) (Or.inl ⟨by rfl, ?_⟩) ?_ ?_
                  rotate_left
                  · intro w'
                    go_simp
                    with_reducible rfl
                  rotate_left
                  · simp only [Act.put, List.setIfInBounds_toArray, List.set_cons_zero, List.set_cons_succ, i64_w, i32_w]
                    rfl
                  refine pure_ (i := 14) (N := some 42) (v := ?_) (a' := ?_) #[true, true, true, true, true, true, true, true, true, true, true, true, true, true, true, false, false, false, false, false, false, false, false, false, false] rfl rfl (by kernel_rfl) (fun _ _ _ h => h) (Or.inl ⟨by rfl, ?_⟩) ?_ ?_
                  rotate_left
                  · intro w'
                    go_simp
                    with_reducible rfl
                  rotate_left
                  · simp only [Act.put, List.setIfInBounds_toArray, List.set_cons_zero, List.set_cons_succ, i64_w, i32_w]
                    rfl
                  refine pure_ (i := 15) (N := some 43) (v := undef) (a' := ?_) #[true, true, true, true, true, true, true, true, true, true, true, true, true, true, true, true, false, false, false, false, false, false, false, false, false] rfl rfl (by kernel_rfl) (fun _ _ _ h => h) (Or.inr ⟨by rfl, rfl⟩) ?_ ?_
                  rotate_left
                  · simp only [Act.put, List.setIfInBounds_toArray, List.set_cons_zero, List.set_cons_succ, i64_w, i32_w]
                    rfl
                  refine pure_ (i := 16) (N := some 44) (v := undef) (a' := ?_) #[true, true, true, true, true, true, true, true, true, true, true, true, true, true, true, true, true, false, false, false, false, false, false, false, false] rfl rfl (by kernel_rfl) (fun _ _ _ h => h) (Or.inr ⟨by rfl, rfl⟩) ?_ ?_
                  rotate_left
                  · simp only [Act.put, List.setIfInBounds_toArray, List.set_cons_zero, List.set_cons_succ, i64_w, i32_w]
                    rfl
                  refine pure_ (i := 17) (N := some 45) (v := undef) (a' := ?_) #[true, true, true, true, true, true, true, true, true, true, true, true, true, true, true, true, true, true, false, false, false, false, false, false, false] rfl rfl (by kernel_rfl) (fun _ _ _ h => h) (Or.inr ⟨by rfl, rfl⟩) ?_ ?_
                  rotate_left
                  · simp only [Act.put, List.setIfInBounds_toArray, List.set_cons_zero, List.set_cons_succ, i64_w, i32_w]
                    rfl
                  refine pure_ (i := 18) (N := some 46) (v := undef) (a' := ?_) #[true, true, true, true, true, true, true, true, true, true, true, true, true, true, true, true, true, true, true, false, false, false, false, false, false] rfl rfl (by kernel_rfl) (fun _ _ _ h => h) (Or.inr ⟨by rfl, rfl⟩) ?_ ?_
                  rotate_left
                  · simp only [Act.put, List.setIfInBounds_toArray, List.set_cons_zero, List.set_cons_succ, i64_w, i32_w]
                    rfl
                  refine pure_ (i := 19) (N := some 47) (v := undef) (a' := ?_) #[true, true, true, true, true, true, true, true, true, true, true, true, true, true, true, true, true, true, true, true, false, false, false, false, false] rfl rfl (by kernel_rfl) (fun _ _ _ h => h) (Or.inr ⟨by rfl, rfl⟩) ?_ ?_
                  rotate_left
                  · simp only [Act.put, List.setIfInBounds_toArray, List.set_cons_zero, List.set_cons_succ, i64_w, i32_w]
                    rfl
                  refine pure_ (i := 20) (N := some 48) (v := undef) (a' := ?_) #[true, true, true, true, true, true, true, true, true, true, true, true, true, true, true, true, true, true, true, true, true, false, false, false, false] rfl rfl (by kernel_rfl) (fun _ _ _ h => h) (Or.inr ⟨by rfl, rfl⟩) ?_ ?_
                  rotate_left
                  · simp only [Act.put, List.setIfInBounds_toArray, List.set_cons_zero, List.set_cons_succ, i64_w, i32_w]
                    rfl
                  refine pure_ (i := 21) (N := some 49) (v := undef) (a' := ?_) #[true, true, true, true, true, true, true, true, true, true, true, true, true, true, true, true, true, true, true, true, true, true, false, false, false] rfl rfl (by kernel_rfl) (fun _ _ _ h => h) (Or.inr ⟨by rfl, rfl⟩) ?_ ?_
                  rotate_left
                  · simp only [Act.put, List.setIfInBounds_toArray, List.set_cons_zero, List.set_cons_succ, i64_w, i32_w]
                    rfl
                  refine pure_ (i := 22) (N := some 50) (v := undef) (a' := ?_) #[true, true, true, true, true, true, true, true, true, true, true, true, true, true, true, true, true, true, true, true, true, true, true, false, false] rfl rfl (by kernel_rfl) (fun _ _ _ h => h) (Or.inr ⟨by rfl, rfl⟩) ?_ ?_
                  rotate_left
                  · simp only [Act.put, List.setIfInBounds_toArray, List.set_cons_zero, List.set_cons_succ, i64_w, i32_w]
                    rfl
                  refine pure_ (i := 23) (N := some 51) (v := ?_) (a' := ?_) #[true, true, true, true, true, true, true, true, true, true, true, true, true, true, true, true, true, true, true, true, true, true, true, true, false] rfl rfl (by kernel_rfl) (fun _ _ _ h => h) (Or.inl ⟨by rfl, ?_⟩) ?_ ?_
                  rotate_left
                  · intro w'
                    go_simp
                    with_reducible rfl
                  rotate_left
                  · simp only [Act.put, List.setIfInBounds_toArray, List.set_cons_zero, List.set_cons_succ, i64_w, i32_w]
                    rfl
                  refine pure_ (i := 24) (N := some 2) (v := ?_) (a' := ?_) #[true, true, true, true, true, true, true, true, true, true, true, true, true, true, true, true, true, true, true, true, true, true, true, true, true] rfl rfl (by kernel_rfl) (fun _ _ _ h => h) (Or.inl ⟨by rfl, ?_⟩) ?_ ?_
                  rotate_left
                  · intro w'
                    go_simp
                    with_reducible rfl
                  rotate_left
                  · simp only [Act.put, List.setIfInBounds_toArray, List.set_cons_zero, List.set_cons_succ, i64_w, i32_w]
                    rfl
                  refine done_ (by kernel_rfl) ?_
                  replace HS : Aside0 (Sep (fps []) w [] w1952) := ⟨HS.out.sub (.cons _ .slnil)⟩
                  go_wp2_with fail
                  go_ret
                  rw [← some_eq H]
                  exact ⟨(by first | rfl | (simp [IntKind.wrap_u32]; done)), HS.out⟩
              · replace H := if_no c1956 H
                have c1956b0 : b1954 = false := by simpa using c1956
                have c1956b1 : (!b1954) = true := by rw [c1956b0]; rfl
                clear c1956
                try simp only [c1956b0, Bool.not_true, Bool.not_false]
                refine pure_ (i := 5) (N := some 33) (v := undef) (a' := ?_) #[true, true, true, true, true, true, false, false, false, false, false, false, false, false, false, false, false, false, false, false, false, false, false, false, false] rfl rfl (by kernel_rfl) (fun _ _ _ h => h) (Or.inr ⟨by rfl, rfl⟩) ?_ ?_
                rotate_left
                · simp only [Act.put, List.setIfInBounds_toArray, List.set_cons_zero, List.set_cons_succ, i64_w, i32_w]
                  rfl
                try simp only [c1956b0, Bool.not_true, Bool.not_false]
                refine pure_ (i := 6) (N := some 34) (v := undef) (a' := ?_) #[true, true, true, true, true, true, true, false, false, false, false, false, false, false, false, false, false, false, false, false, false, false, false, false, false] rfl rfl (by kernel_rfl) (fun _ _ _ h => h) (Or.inr ⟨by rfl, rfl⟩) ?_ ?_
                rotate_left
                · simp only [Act.put, List.setIfInBounds_toArray, List.set_cons_zero, List.set_cons_succ, i64_w, i32_w]
                  rfl
                try simp only [c1956b0, Bool.not_true, Bool.not_false]
                refine pure_ (i := 7) (N := some 35) (v := undef) (a' := ?_) #[true, true, true, true, true, true, true, true, false, false, false, false, false, false, false, false, false, false, false, false, false, false, false, false, false] rfl rfl (by kernel_rfl) (fun _ _ _ h => h) (Or.inr ⟨by rfl, rfl⟩) ?_ ?_
                rotate_left
                · simp only [Act.put, List.setIfInBounds_toArray, List.set_cons_zero, List.set_cons_succ, i64_w, i32_w]
                  rfl
                refine pure_ (i := 8) (N := some 36) (v := ?_) (a' := ?_) #[true, true, true, true, true, true, true, true, true, false, false, false, false, false, false, false, false, false, false, false, false, false, false, false, false] rfl rfl (by kernel_rfl) (fun _ _ _ h => h) (Or.inl ⟨by rfl, ?_⟩) ?_ ?_
                rotate_left
                · intro w'
                  go_simp
                  with_reducible rfl
                rotate_left
                · simp only [Act.put, List.setIfInBounds_toArray, List.set_cons_zero, List.set_cons_succ, i64_w, i32_w]
                  rfl
                refine pure_ (i := 9) (N := some 37) (v := ?_) (a' := ?_) #[true, true, true, true, true, true, true, true, true, true, false, false, false, false, false, false, false, false, false, false, false, false, false, false, false] rfl rfl (by kernel_rfl) (fun _ _ _ h => h) (Or.inl ⟨by rfl, ?_⟩) ?_ ?_
                rotate_left
                · intro w'
                  go_simp
                  with_reducible rfl
                rotate_left
                · simp only [Act.put, List.setIfInBounds_toArray, List.set_cons_zero, List.set_cons_succ, i64_w, i32_w]
                  rfl
                refine pure_ (i := 10) (N := some 38) (v := undef) (a' := ?_) #[true, true, true, true, true, true, true, true, true, true, true, false, false, false, false, false, false, false, false, false, false, false, false, false, false] rfl rfl (by kernel_rfl) (fun _ _ _ h => h) (Or.inr ⟨by rfl, rfl⟩) ?_ ?_
                rotate_left
                · simp only [Act.put, List.setIfInBounds_toArray, List.set_cons_zero, List.set_cons_succ, i64_w, i32_w]
                  rfl
                refine pure_ (i := 11) (N := some 39) (v := undef) (a' := ?_) #[true, true, true, true, true, true, true, true, true, true, true, true, false, false, false, false, false, false, false, false, false, false, false, false, false] rfl rfl (by kernel_rfl) (fun _ _ _ h => h) (Or.inr ⟨by rfl, rfl⟩) ?_ ?_
                rotate_left
                · simp only [Act.put, List.setIfInBounds_toArray, List.set_cons_zero, List.set_cons_succ, i64_w, i32_w]
                  rfl
                refine pure_ (i := 12) (N := some 40) (v := undef) (a' := ?_) #[true, true, true, true, true, true, true, true, true, true, true, true, true, false, false, false, false, false, false, false, false, false, false, false, false] rfl rfl (by kernel_rfl) (fun _ _ _ h => h) (Or.inr ⟨by rfl, rfl⟩) ?_ ?_
                rotate_left
                · simp only [Act.put, List.setIfInBounds_toArray, List.set_cons_zero, List.set_cons_succ, i64_w, i32_w]
                  rfl
                refine pure_ (i := 13) (N := some 41) (v := ?_) (a' := ?_) #[true, true, true, true, true, true, true, true, true, true, true, true, true, true, false, false, false, false, false, false, false, false, false, false, false] rfl rfl (by kernel_rfl) (fun _ _ _ h => h) (Or.inl ⟨by rfl, ?_⟩) ?_ ?_
                rotate_left
                · intro w'
                  go_simp
                  with_reducible rfl
                rotate_left
                · simp only [Act.put, List.setIfInBounds_toArray, List.set_cons_zero, List.set_cons_succ, i64_w, i32_w]
                  rfl
                refine pure_ (i := 14) (N := some 42) (v := ?_) (a' := ?_) #[true, true, true, true, true, true, true, true, true, true, true, true, true, true, true, false, false, false, false, false, false, false, false, false, false] rfl rfl (by kernel_rfl) (fun _ _ _ h => h) (Or.inl ⟨by rfl, ?_⟩) ?_ ?_
                rotate_left
                · intro w'
                  go_simp
                  with_reducible rfl
                rotate_left
                · simp only [Act.put, List.setIfInBounds_toArray, List.set_cons_zero, List.set_cons_succ, i64_w, i32_w]
                  rfl
                refine pure_ (i := 15) (N := some 43) (v := undef) (a' := ?_) #[true, true, true, true, true, true, true, true, true, true, true, true, true, true, true, true, false, false, false, false, false, false, false, false, false] rfl rfl (by kernel_rfl) (fun _ _ _ h => h) (Or.inr ⟨by rfl, rfl⟩) ?_ ?_
                rotate_left
                · simp only [Act.put, List.setIfInBounds_toArray, List.set_cons_zero, List.set_cons_succ, i64_w, i32_w]
                  rfl
                refine pure_ (i := 16) (N := some 44) (v := undef) (a' := ?_) #[true, true, true, true, true, true, true, true, true, true, true, true, true, true, true, true, true, false, false, false, false, false, false, false, false] rfl rfl (by kernel_rfl) (fun _ _ _ h => h) (Or.inr ⟨by rfl, rfl⟩) ?_ ?_
                rotate_left
                · simp only [Act.put, List.setIfInBounds_toArray, List.set_cons_zero, List.set_cons_succ, i64_w, i32_w]
                  rfl
                refine pure_ (i := 17) (N := some 45) (v := undef) (a' := ?_) #[true, true, true, true, true, true, true, true, true, true, true, true, true, true, true, true, true, true, false, false, false, false, false, false, false] rfl rfl (by kernel_rfl) (fun _ _ _ h => h) (Or.inr ⟨by rfl, rfl⟩) ?_ ?_
                rotate_left
                · simp only [Act.put, List.setIfInBounds_toArray, List.set_cons_zero, List.set_cons_succ, i64_w, i32_w]
                  rfl
                refine pure_ (i := 18) (N := some 46) (v := undef) (a' := ?_) #[true, true, true, true, true, true, true, true, true, true, true, true, true, true, true, true, true, true, true, false, false, false, false, false, false] rfl rfl (by kernel_rfl) (fun _ _ _ h => h) (Or.inr ⟨by rfl, rfl⟩) ?_ ?_
                rotate_left
                · simp only [Act.put, List.setIfInBounds_toArray, List.set_cons_zero, List.set_cons_succ, i64_w, i32_w]
                  rfl
                refine pure_ (i := 19) (N := some 47) (v := undef) (a' := ?_) #[true, true, true, true, true, true, true, true, true, true, true, true, true, true, true, true, true, true, true, true, false, false, false, false, false] rfl rfl (by kernel_rfl) (fun _ _ _ h => h) (Or.inr ⟨by rfl, rfl⟩) ?_ ?_
                rotate_left
                · simp only [Act.put, List.setIfInBounds_toArray, List.set_cons_zero, List.set_cons_succ, i64_w, i32_w]
                  rfl
                refine pure_ (i := 20) (N := some 48) (v := undef) (a' := ?_) #[true, true, true, true, true, true, true, true, true, true, true, true, true, true, true, true, true, true, true, true, true, false, false, false, false] rfl rfl (by kernel_rfl) (fun _ _ _ h => h) (Or.inr ⟨by rfl, rfl⟩) ?_ ?_
                rotate_left
                · simp only [Act.put, List.setIfInBounds_toArray, List.set_cons_zero, List.set_cons_succ, i64_w, i32_w]
                  rfl
                refine pure_ (i := 21) (N := some 49) (v := undef) (a' := ?_) #[true, true, true, true, true, true, true, true, true, true, true, true, true, true, true, true, true, true, true, true, true, true, false, false, false] rfl rfl (by kernel_rfl) (fun _ _ _ h => h) (Or.inr ⟨by rfl, rfl⟩) ?_ ?_
                rotate_left
                · simp only [Act.put, List.setIfInBounds_toArray, List.set_cons_zero, List.set_cons_succ, i64_w, i32_w]
                  rfl
                refine pure_ (i := 22) (N := some 50) (v := undef) (a' := ?_) #[true, true, true, true, true, true, true, true, true, true, true, true, true, true, true, true, true, true, true, true, true, true, true, false, false] rfl rfl (by kernel_rfl) (fun _ _ _ h => h) (Or.inr ⟨by rfl, rfl⟩) ?_ ?_
                rotate_left
                · simp only [Act.put, List.setIfInBounds_toArray, List.set_cons_zero, List.set_cons_succ, i64_w, i32_w]
                  rfl
                refine pure_ (i := 23) (N := some 51) (v := ?_) (a' := ?_) #[true, true, true, true, true, true, true, true, true, true, true, true, true, true, true, true, true, true, true, true, true, true, true, true, false] rfl rfl (by kernel_rfl) (fun _ _ _ h => h) (Or.inl ⟨by rfl, ?_⟩) ?_ ?_
                rotate_left
                · intro w'
                  go_simp
                  with_reducible rfl
                rotate_left
                · simp only [Act.put, List.setIfInBounds_toArray, List.set_cons_zero, List.set_cons_succ, i64_w, i32_w]
                  rfl
                refine pure_ (i := 24) (N := some 2) (v := ?_) (a' := ?_) #[true, true, true, true, true, true, true, true, true, true, true, true, true, true, true, true, true, true, true, true, true, true, true, true, true] rfl rfl (by kernel_rfl) (fun _ _ _ h => h) (Or.inl ⟨by rfl, ?_⟩) ?_ ?_
                rotate_left
                · intro w'
                  go_simp
                  with_reducible rfl
                rotate_left
                · simp only [Act.put, List.setIfInBounds_toArray, List.set_cons_zero, List.set_cons_succ, i64_w, i32_w]
                  rfl
                refine done_ (by kernel_rfl) ?_
                replace HS : Aside0 (Sep (fps []) w [] w1952) := ⟨HS.out.sub (.cons _ .slnil)⟩
                go_wp2_with fail
                go_ret
                rw [← some_eq H]
                exact ⟨(by first | rfl | (simp [IntKind.wrap_u32]; done)), HS.out⟩
            · replace H := if_no c1947 H
              have c1947b0 : (a1865 == 0) = false := beq_eq_false_iff_ne.mpr c1947
              have c1947b1 : (a1865 != 0) = true := bne_iff_ne.mpr c1947
              clear c1947
              by_cases c1960 : a1865 = 3
              · replace H := if_yes c1960 H
                have c1960b0 : (a1865 == 3) = true := beq_iff_eq.mpr c1960
                have c1960b1 : (a1865 != 3) = false := bne_eq_false_iff_eq.mpr c1960
                clear c1960
                have hc1942 : w1933.cell? ⟨g1872, 0, none⟩ = some (.int .i64 a1865) := blk_cellv (HS.out.at0) 0 rfl
                go_wp2_with fail
                clear hc1942
                refine start_ (n := 25) (S := (fun w' => w'.cell? ⟨g1872, 0, none⟩ = some (.int .i64 a1865) ∧ w'.cell? ⟨g1872, 1, none⟩ = some (.int .i64 a1866) ∧ w'.cell? ⟨g1872, 2, none⟩ = some (.int .i64 a1867) ∧ w'.cell? ⟨g1872, 3, none⟩ = some (.int .i64 a1868) ∧ w'.cell? ⟨g1872, 4, none⟩ = some (.int .i64 a1869) ∧ w'.cell? ⟨g1872, 5, none⟩ = some (.int .i64 a1870) ∧ w'.cell? ⟨g1872, 6, none⟩ = some (.int .i64 a1871) ∧ w'.cell? ⟨0, 0, none⟩ = some (.int .i64 0) ∧ w'.cell? ⟨0, 1, none⟩ = some (.int .i64 0) ∧ w'.cell? ⟨0, 2, none⟩ = some (.int .i64 0) ∧ w'.cell? ⟨0, 3, none⟩ = some (.int .i64 0) ∧ w'.cell? ⟨0, 4, none⟩ = some (.int .i64 0))) (ds := []) #[false, false, false, false, false, false, false, false, false, false, false, false, false, false, false, false, false, false, false, false, false, false, false, false, false] (by kernel_rfl) rfl rfl (⟨blk_cellv ((HS.out.drew).at0) 0 rfl, blk_cellv ((HS.out.drew).at0) 1 rfl, blk_cellv ((HS.out.drew).at0) 2 rfl, blk_cellv ((HS.out.drew).at0) 3 rfl, blk_cellv ((HS.out.drew).at0) 4 rfl, blk_cellv ((HS.out.drew).at0) 5 rfl, blk_cellv ((HS.out.drew).at0) 6 rfl, Gl.cell HGl0.out (HS.out.drew).fr 0 rfl, Gl.cell HGl0.out (HS.out.drew).fr 1 rfl, Gl.cell HGl0.out (HS.out.drew).fr 2 rfl, Gl.cell HGl0.out (HS.out.drew).fr 3 rfl, Gl.cell HGl0.out (HS.out.drew).fr 4 rfl⟩) (fun hHeld => ?_)
                have HS_ := Aside0.mk HS.out.drew
                clear HS
                generalize World.drew _ = w1962 at HS_ hHeld ⊢
                have HS := HS_
                clear HS_
                refine take_ (i := 0) (N := some 28) (v := ?_) (a' := ?_) #[true, false, false, false, false, false, false, false, false, false, false, false, false, false, false, false, false, false, false, false, false, false, false, false, false] rfl rfl (by kernel_rfl) (fun _ _ _ h => h) (Or.inl ⟨by rfl, ?_⟩) hHeld ?_ ?_
                rotate_left
                · rintro w' hS'
                  obtain ⟨s0, s1, s2, s3, s4, s5, s6, s7, s8, s9, s10, s11⟩ := hS'
                  go_simp
                  with_reducible rfl
                rotate_left
                · simp only [Act.put, List.setIfInBounds_toArray, List.set_cons_zero, List.set_cons_succ, i64_w, i32_w]
                  rfl
                refine take_ (i := 2) (N := some 30) (v := ?_) (a' := ?_) #[true, false, true, false, false, false, false, false, false, false, false, false, false, false, false, false, false, false, false, false, false, false, false, false, false] rfl rfl (by kernel_rfl) (fun _ _ _ h => h) (Or.inl ⟨by rfl, ?_⟩) hHeld ?_ ?_
                rotate_left
                · rintro w' hS'
                  obtain ⟨s0, s1, s2, s3, s4, s5, s6, s7, s8, s9, s10, s11⟩ := hS'
                  go_simp
                  with_reducible rfl
                rotate_left
                · simp only [Act.put, List.setIfInBounds_toArray, List.set_cons_zero, List.set_cons_succ, i64_w, i32_w]
                  rfl
                refine one_ (i := 1) (N := some 29) #[true, true, true, false, false, false, false, false, false, false, false, false, false, false, false, false, false, false, false, false, false, false, false, false, false] rfl rfl (by kernel_rfl) (by decide) (fun K hK => ?_)
                obtain ⟨t1950, HA1963, H⟩ := bind_some H
                refine goes_ Tryd.func68 (by kernel_rfl) rfl #[.agg #[.int .i64 a1865, .int .i64 a1866, .int .i64 a1867, .int .i64 a1868, .int .i64 a1869, .int .i64 a1870, .int .i64 a1871]] (by rfl) rfl rfl (by (try simp only [List.map_toArray, List.map_cons, List.map_nil]); first | done | rfl) ?_
                refine (tag_marks.calls a1865 a1866 a1867 a1868 a1869 a1870 a1871 t1950 _ ⟨HGl0.out.pass (l := []) HS.out⟩ ⟨Sep.start _⟩ HA1963).mono ?_
                rintro e_ w1964 ⟨rfl, hS⟩
                replace HS : Aside0 (Sep (fps []) w [b9 g1872 a1865 a1866 a1867 a1868 a1869 a1870 a1871] w1964) := ⟨HS.out.call hS⟩
                clear hS
                refine ⟨_, rfl, ?_⟩
                refine hK.out _ _ (⟨blk_cellv (HS.out.at0) 0 rfl, blk_cellv (HS.out.at0) 1 rfl, blk_cellv (HS.out.at0) 2 rfl, blk_cellv (HS.out.at0) 3 rfl, blk_cellv (HS.out.at0) 4 rfl, blk_cellv (HS.out.at0) 5 rfl, blk_cellv (HS.out.at0) 6 rfl, Gl.cell HGl0.out HS.out.fr 0 rfl, Gl.cell HGl0.out HS.out.fr 1 rfl, Gl.cell HGl0.out HS.out.fr 2 rfl, Gl.cell HGl0.out HS.out.fr 3 rfl, Gl.cell HGl0.out HS.out.fr 4 rfl⟩) (fun hHeld => ?_)
                clear hK K
                refine norm_ (a' := ?_) ?_ ?_
                rotate_left
                · show Act.put _ (some 29) _ = _
                  simp only [Act.put, List.setIfInBounds_toArray, List.set_cons_zero, List.set_cons_succ, i64_w, i32_w]
                  rfl
                obtain ⟨b1954, HA1966, H⟩ := bind_some H
                have eb1965 : ∀ w, (Op.equalIn 10000 108 (.agg #[.int .i64 t1950.1, .int .i64 t1950.2.1, .int .i64 t1950.2.2.1, .int .i64 t1950.2.2.2.1, .int .i64 t1950.2.2.2.2]) (.agg #[.int .i64 0, .int .i64 0, .int .i64 0, .int .i64 0, .int .i64 0])).run Tryd.prog w = .ok b1954 w := some_eq HA1966 ▸ run_eq_ints 9998 108 3 5 .i64 [t1950.1, t1950.2.1, t1950.2.2.1, t1950.2.2.2.1, t1950.2.2.2.2] [0, 0, 0, 0, 0] Tryd.underlying108 (by kernel_rfl) (by kernel_rfl) Tryd.underlying3 (fun _ => by kernel_rfl) rfl rfl
                refine pure_ (i := 3) (N := some 31) (v := ?_) (a' := ?_) #[true, true, true, true, false, false, false, false, false, false, false, false, false, false, false, false, false, false, false, false, false, false, false, false, false] rfl rfl (by kernel_rfl) (fun _ _ _ h => h) (Or.inl ⟨by rfl, ?_⟩) ?_ ?_
                rotate_left
                · intro w'
                  go_simp
                  with_reducible rfl
                rotate_left
                · simp only [Act.put, List.setIfInBounds_toArray, List.set_cons_zero, List.set_cons_succ, i64_w, i32_w]
                  rfl
                refine pure_ (i := 4) (N := some 32) (v := ?_) (a' := ?_) #[true, true, true, true, true, false, false, false, false, false, false, false, false, false, false, false, false, false, false, false, false, false, false, false, false] rfl rfl (by kernel_rfl) (fun _ _ _ h => h) (Or.inl ⟨by rfl, ?_⟩) ?_ ?_
                rotate_left
                · intro w'
                  go_simp
                  with_reducible rfl
                rotate_left
                · simp only [Act.put, List.setIfInBounds_toArray, List.set_cons_zero, List.set_cons_succ, i64_w, i32_w]
                  rfl
                by_cases c1967 : b1954 = true
                · replace H := if_yes c1967 H
                  have c1967b0 : b1954 = true := c1967
                  have c1967b1 : (!b1954) = false := by rw [c1967b0]; rfl
                  clear c1967
                  try simp only [c1967b0, Bool.not_true, Bool.not_false]
                  refine pure_ (i := 5) (N := some 33) (v := ?_) (a' := ?_) #[true, true, true, true, true, true, false, false, false, false, false, false, false, false, false, false, false, false, false, false, false, false, false, false, false] rfl rfl (by kernel_rfl) (fun _ _ _ h => h) (Or.inl ⟨by rfl, ?_⟩) ?_ ?_
                  rotate_left
                  · intro w'
                    go_simp
                    with_reducible rfl
                  rotate_left
                  · simp only [Act.put, List.setIfInBounds_toArray, List.set_cons_zero, List.set_cons_succ, i64_w, i32_w]
                    rfl
                  try simp only [c1967b0, Bool.not_true, Bool.not_false]
                  refine take_ (i := 6) (N := some 34) (v := ?_) (a' := ?_) #[true, true, true, true, true, true, true, false, false, false, false, false, false, false, false, false, false, false, false, false, false, false, false, false, false] rfl rfl (by kernel_rfl) (fun _ _ _ h => h) (Or.inl ⟨by rfl, ?_⟩) hHeld ?_ ?_
                  rotate_left
                  · rintro w' hS'
                    obtain ⟨s0, s1, s2, s3, s4, s5, s6, s7, s8, s9, s10, s11⟩ := hS'
                    go_simp
                    with_reducible rfl
                  rotate_left
                  · simp only [Act.put, List.setIfInBounds_toArray, List.set_cons_zero, List.set_cons_succ, i64_w, i32_w]
                    rfl
                  try simp only [c1967b0, Bool.not_true, Bool.not_false]
                  refine pure_ (i := 7) (N := some 35) (v := ?_) (a' := ?_) #[true, true, true, true, true, true, true, true, false, false, false, false, false, false, false, false, false, false, false, false, false, false, false, false, false] rfl rfl (by kernel_rfl) (fun _ _ _ h => h) (Or.inl ⟨by rfl, ?_⟩) ?_ ?_
                  rotate_left
                  · intro w'
                    go_simp
                    with_reducible rfl
                  rotate_left
                  · simp only [Act.put, List.setIfInBounds_toArray, List.set_cons_zero, List.set_cons_succ, i64_w, i32_w]
                    rfl
                  refine pure_ (i := 8) (N := some 36) (v := ?_) (a' := ?_) #[true, true, true, true, true, true, true, true, true, false, false, false, false, false, false, false, false, false, false, false, false, false, false, false, false] rfl rfl (by kernel_rfl) (fun _ _ _ h => h) (Or.inl ⟨by rfl, ?_⟩) ?_ ?_
                  rotate_left
                  · intro w'
                    go_simp
                    with_reducible rfl
                  rotate_left
                  · simp only [Act.put, List.setIfInBounds_toArray, List.set_cons_zero, List.set_cons_succ, i64_w, i32_w]
                    rfl
                  refine pure_ (i := 9) (N := some 37) (v := ?_) (a' := ?_) #[true, true, true, true, true, true, true, true, true, true, false, false, false, false, false, false, false, false, false, false, false, false, false, false, false] rfl rfl (by kernel_rfl) (fun _ _ _ h => h) (Or.inl ⟨by rfl, ?_⟩) ?_ ?_
                  rotate_left
                  · intro w'
                    go_simp
                    with_reducible rfl
                  rotate_left
                  · simp only [Act.put, List.setIfInBounds_toArray, List.set_cons_zero, List.set_cons_succ, i64_w, i32_w]
                    rfl
                  by_cases c1968 : a1871 ≥ 0
                  · replace H := if_yes c1968 H
                    have c1968b0 : decide (0 ≤ a1871) = true := decide_eq_true c1968
                    clear c1968
                    try simp only [c1968b0, Bool.not_true, Bool.not_false]
                    refine pure_ (i := 10) (N := some 38) (v := ?_) (a' := ?_) #[true, true, true, true, true, true, true, true, true, true, true, false, false, false, false, false, false, false, false, false, false, false, false, false, false] rfl rfl (by kernel_rfl) (fun _ _ _ h => h) (Or.inl ⟨by rfl, ?_⟩) ?_ ?_
                    rotate_left
                    · intro w'
                      go_simp
                      with_reducible rfl
                    rotate_left
                    · simp only [Act.put, List.setIfInBounds_toArray, List.set_cons_zero, List.set_cons_succ, i64_w, i32_w]
                      rfl
                    try simp only [c1968b0, Bool.not_true, Bool.not_false]
                    refine take_ (i := 11) (N := some 39) (v := ?_) (a' := ?_) #[true, true, true, true, true, true, true, true, true, true, true, true, false, false, false, false, false, false, false, false, false, false, false, false, false] rfl rfl (by kernel_rfl) (fun _ _ _ h => h) (Or.inl ⟨by rfl, ?_⟩) hHeld ?_ ?_
                    rotate_left
                    · rintro w' hS'
                      obtain ⟨s0, s1, s2, s3, s4, s5, s6, s7, s8, s9, s10, s11⟩ := hS'
                      go_simp
                      with_reducible rfl
                    rotate_left
                    · simp only [Act.put, List.setIfInBounds_toArray, List.set_cons_zero, List.set_cons_succ, i64_w, i32_w]
                      rfl
                    try simp only [c1968b0, Bool.not_true, Bool.not_false]
                    refine pure_ (i := 12) (N := some 40) (v := ?_) (a' := ?_) #[true, true, true, true, true, true, true, true, true, true, true, true, true, false, false, false, false, false, false, false, false, false, false, false, false] rfl rfl (by kernel_rfl) (fun _ _ _ h => h) (Or.inl ⟨by rfl, ?_⟩) ?_ ?_
                    rotate_left
                    · intro w'
                      go_simp
                      with_reducible rfl
                    rotate_left
                    · simp only [Act.put, List.setIfInBounds_toArray, List.set_cons_zero, List.set_cons_succ, i64_w, i32_w]
                      rfl
                    refine pure_ (i := 13) (N := some 41) (v := ?_) (a' := ?_) #[true, true, true, true, true, true, true, true, true, true, true, true, true, true, false, false, false, false, false, false, false, false, false, false, false] rfl rfl (by kernel_rfl) (fun _ _ _ h => h) (Or.inl ⟨by rfl, ?_⟩) ?_ ?_
                    rotate_left
                    · intro w'
                      go_simp
                      with_reducible rfl
                    rotate_left
                    · simp only [Act.put, List.setIfInBounds_toArray, List.set_cons_zero, List.set_cons_succ, i64_w, i32_w]
                      rfl
                    refine pure_ (i := 14) (N := some 42) (v := ?_) (a' := ?_) #[true, true, true, true, true, true, true, true, true, true, true, true, true, true, true, false, false, false, false, false, false, false, false, false, false] rfl rfl (by kernel_rfl) (fun _ _ _ h => h) (Or.inl ⟨by rfl, ?_⟩) ?_ ?_
                    rotate_left
                    · intro w'
                      go_simp
                      with_reducible rfl
                    rotate_left
                    · simp only [Act.put, List.setIfInBounds_toArray, List.set_cons_zero, List.set_cons_succ, i64_w, i32_w]
                      rfl
                    by_cases c1969 : a1871 < 1048576
                    · replace H := if_yes c1969 H
                      have c1969b0 : decide (a1871 < 1048576) = true := decide_eq_true c1969
                      clear c1969
                      try simp only [c1969b0, Bool.not_true, Bool.not_false]
                      refine pure_ (i := 15) (N := some 43) (v := ?_) (a' := ?_) #[true, true, true, true, true, true, true, true, true, true, true, true, true, true, true, true, false, false, false, false, false, false, false, false, false] rfl rfl (by kernel_rfl) (fun _ _ _ h => h) (Or.inl ⟨by rfl, ?_⟩) ?_ ?_
                      rotate_left
                      · intro w'
                        go_simp
                        with_reducible rfl
                      rotate_left
                      · simp only [Act.put, List.setIfInBounds_toArray, List.set_cons_zero, List.set_cons_succ, i64_w, i32_w]
                        rfl
                      try simp only [c1969b0, Bool.not_true, Bool.not_false]
                      refine take_ (i := 16) (N := some 44) (v := ?_) (a' := ?_) #[true, true, true, true, true, true, true, true, true, true, true, true, true, true, true, true, true, false, false, false, false, false, false, false, false] rfl rfl (by kernel_rfl) (fun _ _ _ h => h) (Or.inl ⟨by rfl, ?_⟩) hHeld ?_ ?_
                      rotate_left
                      · rintro w' hS'
                        obtain ⟨s0, s1, s2, s3, s4, s5, s6, s7, s8, s9, s10, s11⟩ := hS'
                        go_simp
                        with_reducible rfl
                      rotate_left
                      · simp only [Act.put, List.setIfInBounds_toArray, List.set_cons_zero, List.set_cons_succ, i64_w, i32_w]
                        rfl
                      try simp only [c1969b0, Bool.not_true, Bool.not_false]
                      refine pure_ (i := 17) (N := some 45) (v := ?_) (a' := ?_) #[true, true, true, true, true, true, true, true, true, true, true, true, true, true, true, true, true, true, false, false, false, false, false, false, false] rfl rfl (by kernel_rfl) (fun _ _ _ h => h) (Or.inl ⟨by rfl, ?_⟩) ?_ ?_
                      rotate_left
                      · intro w'
                        go_simp
                        with_reducible rfl
                      rotate_left
                      · simp only [Act.put, List.setIfInBounds_toArray, List.set_cons_zero, List.set_cons_succ, i64_w, i32_w]
                        rfl
                      try simp only [c1969b0, Bool.not_true, Bool.not_false]
                      refine pure_ (i := 18) (N := some 46) (v := ?_) (a' := ?_) #[true, true, true, true, true, true, true, true, true, true, true, true, true, true, true, true, true, true, true, false, false, false, false, false, false] rfl rfl (by kernel_rfl) (fun _ _ _ h => h) (Or.inl ⟨by rfl, ?_⟩) ?_ ?_
                      rotate_left
                      · intro w'
                        go_simp
                        with_reducible rfl
                      rotate_left
                      · simp only [Act.put, List.setIfInBounds_toArray, List.set_cons_zero, List.set_cons_succ, i64_w, i32_w]
                        rfl
                      try simp only [c1960b0, c1960b1, Bool.not_true, Bool.not_false]
                      refine pure_ (i := 19) (N := some 47) (v := undef) (a' := ?_) #[true, true, true, true, true, true, true, true, true, true, true, true, true, true, true, true, true, true, true, true, false, false, false, false, false] rfl rfl (by kernel_rfl) (fun _ _ _ h => h) (Or.inr ⟨by rfl, rfl⟩) ?_ ?_
                      rotate_left
                      · simp only [Act.put, List.setIfInBounds_toArray, List.set_cons_zero, List.set_cons_succ, i64_w, i32_w]
                        rfl
                      try simp only [c1960b0, c1960b1, Bool.not_true, Bool.not_false]
                      refine pure_ (i := 20) (N := some 48) (v := undef) (a' := ?_) #[true, true, true, true, true, true, true, true, true, true, true, true, true, true, true, true, true, true, true, true, true, false, false, false, false] rfl rfl (by kernel_rfl) (fun _ _ _ h => h) (Or.inr ⟨by rfl, rfl⟩) ?_ ?_
                      rotate_left
                      · simp only [Act.put, List.setIfInBounds_toArray, List.set_cons_zero, List.set_cons_succ, i64_w, i32_w]
                        rfl
                      try simp only [c1960b0, c1960b1, Bool.not_true, Bool.not_false]
                      refine pure_ (i := 21) (N := some 49) (v := undef) (a' := ?_) #[true, true, true, true, true, true, true, true, true, true, true, true, true, true, true, true, true, true, true, true, true, true, false, false, false] rfl rfl (by kernel_rfl) (fun _ _ _ h => h) (Or.inr ⟨by rfl, rfl⟩) ?_ ?_
                      rotate_left
                      · simp only [Act.put, List.setIfInBounds_toArray, List.set_cons_zero, List.set_cons_succ, i64_w, i32_w]
                        rfl
                      try simp only [c1969b0, Bool.not_true, Bool.not_false]
                      refine pure_ (i := 22) (N := some 50) (v := ?_) (a' := ?_) #[true, true, true, true, true, true, true, true, true, true, true, true, true, true, true, true, true, true, true, true, true, true, true, false, false] rfl rfl (by kernel_rfl) (fun _ _ _ h => h) (Or.inl ⟨by rfl, ?_⟩) ?_ ?_
                      rotate_left
                      · intro w'
                        go_simp
                        with_reducible rfl
                      rotate_left
                      · simp only [Act.put, List.setIfInBounds_toArray, List.set_cons_zero, List.set_cons_succ, i64_w, i32_w]
                        rfl
                      refine pure_ (i := 23) (N := some 51) (v := ?_) (a' := ?_) #[true, true, true, true, true, true, true, true, true, true, true, true, true, true, true, true, true, true, true, true, true, true, true, true, false] rfl rfl (by kernel_rfl) (fun _ _ _ h => h) (Or.inl ⟨by rfl, ?_⟩) ?_ ?_
                      rotate_left
                      · intro w'
                        go_simp
                        with_reducible rfl
                      rotate_left
                      · simp only [Act.put, List.setIfInBounds_toArray, List.set_cons_zero, List.set_cons_succ, i64_w, i32_w]
                        rfl
                      refine pure_ (i := 24) (N := some 2) (v := ?_) (a' := ?_) #[true, true, true, true, true, true, true, true, true, true, true, true, true, true, true, true, true, true, true, true, true, true, true, true, true] rfl rfl (by kernel_rfl) (fun _ _ _ h => h) (Or.inl ⟨by rfl, ?_⟩) ?_ ?_
                      rotate_left
                      · intro w'
                        go_simp
                        with_reducible rfl
                      rotate_left
                      · simp only [Act.put, List.setIfInBounds_toArray, List.set_cons_zero, List.set_cons_succ, i64_w, i32_w]
                        rfl
                      refine done_ (by kernel_rfl) ?_
                      replace HS : Aside0 (Sep (fps []) w [] w1964) := ⟨HS.out.sub (.cons _ .slnil)⟩
                      go_wp2_with fail
                      go_ret
                      rw [← some_eq H]
                      exact ⟨(by first | rfl | (simp [IntKind.wrap_u32]; done)), HS.out⟩
                    · replace H := if_no c1969 H
                      have c1969b0 : decide (a1871 < 1048576) = false := decide_eq_false c1969
                      clear c1969
                      try simp only [c1969b0, Bool.not_true, Bool.not_false]
                      refine pure_ (i := 15) (N := some 43) (v := undef) (a' := ?_) #[true, true, true, true, true, true, true, true, true, true, true, true, true, true, true, true, false, false, false, false, false, false, false, false, false] rfl rfl (by kernel_rfl) (fun _ _ _ h => h) (Or.inr ⟨by rfl, rfl⟩) ?_ ?_
                      rotate_left
                      · simp only [Act.put, List.setIfInBounds_toArray, List.set_cons_zero, List.set_cons_succ, i64_w, i32_w]
                        rfl
                      try simp only [c1969b0, Bool.not_true, Bool.not_false]
                      refine pure_ (i := 16) (N := some 44) (v := undef) (a' := ?_) #[true, true, true, true, true, true, true, true, true, true, true, true, true, true, true, true, true, false, false, false, false, false, false, false, false] rfl rfl (by kernel_rfl) (fun _ _ _ h => h) (Or.inr ⟨by rfl, rfl⟩) ?_ ?_
                      rotate_left
                      · simp only [Act.put, List.setIfInBounds_toArray, List.set_cons_zero, List.set_cons_succ, i64_w, i32_w]
                        rfl
                      try simp only [c1969b0, Bool.not_true, Bool.not_false]
                      refine pure_ (i := 17) (N := some 45) (v := undef) (a' := ?_) #[true, true, true, true, true, true, true, true, true, true, true, true, true, true, true, true, true, true, false, false, false, false, false, false, false] rfl rfl (by kernel_rfl) (fun _ _ _ h => h) (Or.inr ⟨by rfl, rfl⟩) ?_ ?_
                      rotate_left
                      · simp only [Act.put, List.setIfInBounds_toArray, List.set_cons_zero, List.set_cons_succ, i64_w, i32_w]
                        rfl
                      try simp only [c1969b0, Bool.not_true, Bool.not_false]
                      refine pure_ (i := 18) (N := some 46) (v := undef) (a' := ?_) #[true, true, true, true, true, true, true, true, true, true, true, true, true, true, true, true, true, true, true, false, false, false, false, false, false] rfl rfl (by kernel_rfl) (fun _ _ _ h => h) (Or.inr ⟨by rfl, rfl⟩) ?_ ?_
                      rotate_left
                      · simp only [Act.put, List.setIfInBounds_toArray, List.set_cons_zero, List.set_cons_succ, i64_w, i32_w]
                        rfl
                      refine pure_ (i := 19) (N := some 47) (v := undef) (a' := ?_) #[true, true, true, true, true, true, true, true, true, true, true, true, true, true, true, true, true, true, true, true, false, false, false, false, false] rfl rfl (by kernel_rfl) (fun _ _ _ h => h) (Or.inr ⟨by rfl, rfl⟩) ?_ ?_
                      rotate_left
                      · simp only [Act.put, List.setIfInBounds_toArray, List.set_cons_zero, List.set_cons_succ, i64_w, i32_w]
                        rfl
                      refine pure_ (i := 20) (N := some 48) (v := undef) (a' := ?_) #[true, true, true, true, true, true, true, true, true, true, true, true, true, true, true, true, true, true, true, true, true, false, false, false, false] rfl rfl (by kernel_rfl) (fun _ _ _ h => h) (Or.inr ⟨by rfl, rfl⟩) ?_ ?_
                      rotate_left
                      · simp only [Act.put, List.setIfInBounds_toArray, List.set_cons_zero, List.set_cons_succ, i64_w, i32_w]
                        rfl
                      refine pure_ (i := 21) (N := some 49) (v := undef) (a' := ?_) #[true, true, true, true, true, true, true, true, true, true, true, true, true, true, true, true, true, true, true, true, true, true, false, false, false] rfl rfl (by kernel_rfl) (fun _ _ _ h => h) (Or.inr ⟨by rfl, rfl⟩) ?_ ?_
                      rotate_left
                      · simp only [Act.put, List.setIfInBounds_toArray, List.set_cons_zero, List.set_cons_succ, i64_w, i32_w]
                        rfl
                      try simp only [c1969b0, Bool.not_true, Bool.not_false]
                      refine pure_ (i := 22) (N := some 50) (v := undef) (a' := ?_) #[true, true, true, true, true, true, true, true, true, true, true, true, true, true, true, true, true, true, true, true, true, true, true, false, false] rfl rfl (by kernel_rfl) (fun _ _ _ h => h) (Or.inr ⟨by rfl, rfl⟩) ?_ ?_
                      rotate_left
                      · simp only [Act.put, List.setIfInBounds_toArray, List.set_cons_zero, List.set_cons_succ, i64_w, i32_w]
                        rfl
                      refine pure_ (i := 23) (N := some 51) (v := ?_) (a' := ?_) #[true, true, true, true, true, true, true, true, true, true, true, true, true, true, true, true, true, true, true, true, true, true, true, true, false] rfl rfl (by kernel_rfl) (fun _ _ _ h => h) (Or.inl ⟨by rfl, ?_⟩) ?_ ?_
                      rotate_left
                      · intro w'
                        go_simp
                        with_reducible rfl
                      rotate_left
                      · simp only [Act.put, List.setIfInBounds_toArray, List.set_cons_zero, List.set_cons_succ, i64_w, i32_w]
                        rfl
                      refine pure_ (i := 24) (N := some 2) (v := ?_) (a' := ?_) #[true, true, true, true, true, true, true, true, true, true, true, true, true, true, true, true, true, true, true, true, true, true, true, true, true] rfl rfl (by kernel_rfl) (fun _ _ _ h => h) (Or.inl ⟨by rfl, ?_⟩) ?_ ?_
                      rotate_left
                      · intro w'
                        go_simp
                        with_reducible rfl
                      rotate_left
                      · simp only [Act.put, List.setIfInBounds_toArray, List.set_cons_zero, List.set_cons_succ, i64_w, i32_w]
                        rfl
                      refine done_ (by kernel_rfl) ?_
                      replace HS : Aside0 (Sep (fps []) w [] w1964) := ⟨HS.out.sub (.cons _ .slnil)⟩
                      go_wp2_with fail
                      go_ret
                      rw [← some_eq H]
                      exact ⟨(by first | rfl | (simp [IntKind.wrap_u32]; done)), HS.out⟩
                  · replace H := if_no c1968 H
                    have c1968b0 : decide (0 ≤ a1871) = false := decide_eq_false c1968
                    clear c1968
                    try simp only [c1968b0, Bool.not_true, Bool.not_false]
                    refine pure_ (i := 10) (N := some 38) (v := undef) (a' := ?_) #[true, true, true, true, true, true, true, true, true, true, true, false, false, false, false, false, false, false, false, false, false, false, false, false, false] rfl rfl (by kernel_rfl) (fun _ _ _ h => h) (Or.inr ⟨by rfl, rfl⟩) ?_ ?_
                    rotate_left
                    · simp only [Act.put, List.setIfInBounds_toArray, List.set_cons_zero, List.set_cons_succ, i64_w, i32_w]
                      rfl
                    try simp only [c1968b0, Bool.not_true, Bool.not_false]
                    refine pure_ (i := 11) (N := some 39) (v := undef) (a' := ?_) #[true, true, true, true, true, true, true, true, true, true, true, true, false, false, false, false, false, false, false, false, false, false, false, false, false] rfl rfl (by kernel_rfl) (fun _ _ _ h => h) (Or.inr ⟨by rfl, rfl⟩) ?_ ?_
                    rotate_left
                    · simp only [Act.put, List.setIfInBounds_toArray, List.set_cons_zero, List.set_cons_succ, i64_w, i32_w]
                      rfl
                    try simp only [c1968b0, Bool.not_true, Bool.not_false]
                    refine pure_ (i := 12) (N := some 40) (v := undef) (a' := ?_) #[true, true, true, true, true, true, true, true, true, true, true, true, true, false, false, false, false, false, false, false, false, false, false, false, false] rfl rfl (by kernel_rfl) (fun _ _ _ h => h) (Or.inr ⟨by rfl, rfl⟩) ?_ ?_
                    rotate_left
                    · simp only [Act.put, List.setIfInBounds_toArray, List.set_cons_zero, List.set_cons_succ, i64_w, i32_w]
                      rfl
                    refine pure_ (i := 13) (N := some 41) (v := ?_) (a' := ?_) #[true, true, true, true, true, true, true, true, true, true, true, true, true, true, false, false, false, false, false, false, false, false, false, false, false] rfl rfl (by kernel_rfl) (fun _ _ _ h => h) (Or.inl ⟨by rfl, ?_⟩) ?_ ?_
                    rotate_left
                    · intro w'
                      go_simp
                      with_reducible rfl
                    rotate_left
                    · simp only [Act.put, List.setIfInBounds_toArray, List.set_cons_zero, List.set_cons_succ, i64_w, i32_w]
                      rfl
                    refine pure_ (i := 14) (N := some 42) (v := ?_) (a' := ?_) #[true, true, true, true, true, true, true, true, true, true, true, true, true, true, true, false, false, false, false, false, false, false, false, false, false] rfl rfl (by kernel_rfl) (fun _ _ _ h => h) (Or.inl ⟨by rfl, ?_⟩) ?_ ?_
                    rotate_left
                    · intro w'
                      go_simp
                      with_reducible rfl
                    rotate_left
                    · simp only [Act.put, List.setIfInBounds_toArray, List.set_cons_zero, List.set_cons_succ, i64_w, i32_w]
                      rfl
                    refine pure_ (i := 15) (N := some 43) (v := undef) (a' := ?_) #[true, true, true, true, true, true, true, true, true, true, true, true, true, true, true, true, false, false, false, false, false, false, false, false, false] rfl rfl (by kernel_rfl) (fun _ _ _ h => h) (Or.inr ⟨by rfl, rfl⟩) ?_ ?_
                    rotate_left
                    · simp only [Act.put, List.setIfInBounds_toArray, List.set_cons_zero, List.set_cons_succ, i64_w, i32_w]
                      rfl
                    refine pure_ (i := 16) (N := some 44) (v := undef) (a' := ?_) #[true, true, true, true, true, true, true, true, true, true, true, true, true, true, true, true, true, false, false, false, false, false, false, false, false] rfl rfl (by kernel_rfl) (fun _ _ _ h => h) (Or.inr ⟨by rfl, rfl⟩) ?_ ?_
                    rotate_left
                    · simp only [Act.put, List.setIfInBounds_toArray, List.set_cons_zero, List.set_cons_succ, i64_w, i32_w]
                      rfl
                    refine pure_ (i := 17) (N := some 45) (v := undef) (a' := ?_) #[true, true, true, true, true, true, true, true, true, true, true, true, true, true, true, true, true, true, false, false, false, false, false, false, false] rfl rfl (by kernel_rfl) (fun _ _ _ h => h) (Or.inr ⟨by rfl, rfl⟩) ?_ ?_
                    rotate_left
                    · simp only [Act.put, List.setIfInBounds_toArray, List.set_cons_zero, List.set_cons_succ, i64_w, i32_w]
                      rfl
                    refine pure_ (i := 18) (N := some 46) (v := undef) (a' := ?_) #[true, true, true, true, true, true, true, true, true, true, true, true, true, true, true, true, true, true, true, false, false, false, false, false, false] rfl rfl (by kernel_rfl) (fun _ _ _ h => h) (Or.inr ⟨by rfl, rfl⟩) ?_ ?_
                    rotate_left
                    · simp only [Act.put, List.setIfInBounds_toArray, List.set_cons_zero, List.set_cons_succ, i64_w, i32_w]
                      rfl
                    refine pure_ (i := 19) (N := some 47) (v := undef) (a' := ?_) #[true, true, true, true, true, true, true, true, true, true, true, true, true, true, true, true, true, true, true, true, false, false, false, false, false] rfl rfl (by kernel_rfl) (fun _ _ _ h => h) (Or.inr ⟨by rfl, rfl⟩) ?_ ?_
                    rotate_left
                    · simp only [Act.put, List.setIfInBounds_toArray, List.set_cons_zero, List.set_cons_succ, i64_w, i32_w]
                      rfl
                    refine pure_ (i := 20) (N := some 48) (v := undef) (a' := ?_) #[true, true, true, true, true, true, true, true, true, true, true, true, true, true, true, true, true, true, true, true, true, false, false, false, false] rfl rfl (by kernel_rfl) (fun _ _ _ h => h) (Or.inr ⟨by rfl, rfl⟩) ?_ ?_
                    rotate_left
                    · simp only [Act.put, List.setIfInBounds_toArray, List.set_cons_zero, List.set_cons_succ, i64_w, i32_w]
                      rfl
                    refine pure_ (i := 21) (N := some 49) (v := undef) (a' := ?_) #[true, true, true, true, true, true, true, true, true, true, true, true, true, true, true, true, true, true, true, true, true, true, false, false, false] rfl rfl (by kernel_rfl) (fun _ _ _ h => h) (Or.inr ⟨by rfl, rfl⟩) ?_ ?_
                    rotate_left
                    · simp only [Act.put, List.setIfInBounds_toArray, List.set_cons_zero, List.set_cons_succ, i64_w, i32_w]
                      rfl
                    refine pure_ (i := 22) (N := some 50) (v := undef) (a' := ?_) #[true, true, true, true, true, true, true, true, true, true, true, true, true, true, true, true, true, true, true, true, true, true, true, false, false] rfl rfl (by kernel_rfl) (fun _ _ _ h => h) (Or.inr ⟨by rfl, rfl⟩) ?_ ?_
                    rotate_left
                    · simp only [Act.put, List.setIfInBounds_toArray, List.set_cons_zero, List.set_cons_succ, i64_w, i32_w]
                      rfl
                    refine pure_ (i := 23) (N := some 51) (v := ?_) (a' := ?_) #[true, true, true, true, true, true, true, true, true, true, true, true, true, true, true, true, true, true, true, true, true, true, true, true, false] rfl rfl (by kernel_rfl) (fun _ _ _ h => h) (Or.inl ⟨by rfl, ?_⟩) ?_ ?_
                    rotate_left
                    · intro w'
                      go_simp
                      with_reducible rfl
                    rotate_left
                    · simp only [Act.put, List.setIfInBounds_toArray, List.set_cons_zero, List.set_cons_succ, i64_w, i32_w]
                      rfl
                    refine pure_ (i := 24) (N := some 2) (v := ?_) (a' := ?_) #[true, true, true, true, true, true, true, true, true, true, true, true, true, true, true, true, true, true, true, true, true, true, true, true, true] rfl rfl (by kernel_rfl) (fun _ _ _ h => h) (Or.inl ⟨by rfl, ?_⟩) ?_ ?_
                    rotate_left
                    · intro w'
                      go_simp
                      with_reducible rfl
                    rotate_left
                    · simp only [Act.put, List.setIfInBounds_toArray, List.set_cons_zero, List.set_cons_succ, i64_w, i32_w]
                      rfl
                    refine done_ (by kernel_rfl) ?_
                    replace HS : Aside0 (Sep (fps []) w [] w1964) := ⟨HS.out.sub (.cons _ .slnil)⟩
                    go_wp2_with fail
                    go_ret
                    rw [← some_eq H]
                    exact ⟨(by first | rfl | (simp [IntKind.wrap_u32]; done)), HS.out⟩
                · replace H := if_no c1967 H
                  have c1967b0 : b1954 = false := by simpa using c1967
                  have c1967b1 : (!b1954) = true := by rw [c1967b0]; rfl
                  clear c1967
                  try simp only [c1967b0, Bool.not_true, Bool.not_false]
                  refine pure_ (i := 5) (N := some 33) (v := undef) (a' := ?_) #[true, true, true, true, true, true, false, false, false, false, false, false, false, false, false, false, false, false, false, false, false, false, false, false, false] rfl rfl (by kernel_rfl) (fun _ _ _ h => h) (Or.inr ⟨by rfl, rfl⟩) ?_ ?_
                  rotate_left
                  · simp only [Act.put, List.setIfInBounds_toArray, List.set_cons_zero, List.set_cons_succ, i64_w, i32_w]
                    rfl
                  try simp only [c1967b0, Bool.not_true, Bool.not_false]
                  refine pure_ (i := 6) (N := some 34) (v := undef) (a' := ?_) #[true, true, true, true, true, true, true, false, false, false, false, false, false, false, false, false, false, false, false, false, false, false, false, false, false] rfl rfl (by kernel_rfl) (fun _ _ _ h => h) (Or.inr ⟨by rfl, rfl⟩) ?_ ?_
                  rotate_left
                  · simp only [Act.put, List.setIfInBounds_toArray, List.set_cons_zero, List.set_cons_succ, i64_w, i32_w]
                    rfl
                  try simp only [c1967b0, Bool.not_true, Bool.not_false]
                  refine pure_ (i := 7) (N := some 35) (v := undef) (a' := ?_) #[true, true, true, true, true, true, true, true, false, false, false, false, false, false, false, false, false, false, false, false, false, false, false, false, false] rfl rfl (by kernel_rfl) (fun _ _ _ h => h) (Or.inr ⟨by rfl, rfl⟩) ?_ ?_
                  rotate_left
                  · simp only [Act.put, List.setIfInBounds_toArray, List.set_cons_zero, List.set_cons_succ, i64_w, i32_w]
                    rfl
                  refine pure_ (i := 8) (N := some 36) (v := ?_) (a' := ?_) #[true, true, true, true, true, true, true, true, true, false, false, false, false, false, false, false, false, false, false, false, false, false, false, false, false] rfl rfl (by kernel_rfl) (fun _ _ _ h => h) (Or.inl ⟨by rfl, ?_⟩) ?_ ?_
                  rotate_left
                  · intro w'
                    go_simp
                    with_reducible rfl
                  rotate_left
                  · simp only [Act.put, List.setIfInBounds_toArray, List.set_cons_zero, List.set_cons_succ, i64_w, i32_w]
                    rfl
                  refine pure_ (i := 9) (N := some 37) (v := ?_) (a' := ?_) #[true, true, true, true, true, true, true, true, true, true, false, false, false, false, false, false, false, false, false, false, false, false, false, false, false] rfl rfl (by kernel_rfl) (fun _ _ _ h => h) (Or.inl ⟨by rfl, ?_⟩) ?_ ?_
                  rotate_left
                  · intro w'
                    go_simp
                    with_reducible rfl
                  rotate_left
                  · simp only [Act.put, List.setIfInBounds_toArray, List.set_cons_zero, List.set_cons_succ, i64_w, i32_w]
                    rfl
                  refine pure_ (i := 10) (N := some 38) (v := undef) (a' := ?_) #[true, true, true, true, true, true, true, true, true, true, true, false, false, false, false, false, false, false, false, false, false, false, false, false, false] rfl rfl (by kernel_rfl) (fun _ _ _ h => h) (Or.inr ⟨by rfl, rfl⟩) ?_ ?_
                  rotate_left
                  · simp only [Act.put, List.setIfInBounds_toArray, List.set_cons_zero, List.set_cons_succ, i64_w, i32_w]
                    rfl
                  refine pure_ (i := 11) (N := some 39) (v := undef) (a' := ?_) #[true, true, true, true, true, true, true, true, true, true, true, true, false, false, false, false, false, false, false, false, false, false, false, false, false] rfl rfl (by kernel_rfl) (fun _ _ _ h => h) (Or.inr ⟨by rfl, rfl⟩) ?_ ?_
                  rotate_left
                  · simp only [Act.put, List.setIfInBounds_toArray, List.set_cons_zero, List.set_cons_succ, i64_w, i32_w]
                    rfl
                  refine pure_ (i := 12) (N := some 40) (v := undef) (a' := ?_) #[true, true, true, true, true, true, true, true, true, true, true, true, true, false, false, false, false, false, false, false, false, false, false, false, false] rfl rfl (by kernel_rfl) (fun _ _ _ h => h) (Or.inr ⟨by rfl, rfl⟩) ?_ ?_
                  rotate_left
                  · simp only [Act.put, List.setIfInBounds_toArray, List.set_cons_zero, List.set_cons_succ, i64_w, i32_w]
                    rfl
                  refine pure_ (i := 13) (N := some 41) (v := ?_) (a' := ?_) #[true, true, true, true, true, true, true, true, true, true, true, true, true, true, false, false, false, false, false, false, false, false, false, false, false] rfl rfl (by kernel_rfl) (fun _ _ _ h => h) (Or.inl ⟨by rfl, ?_⟩) ?_ ?_
                  rotate_left
                  · intro w'
                    go_simp
                    with_reducible rfl
                  rotate_left
                  · simp only [Act.put, List.setIfInBounds_toArray, List.set_cons_zero, List.set_cons_succ, i64_w, i32_w]
                    rfl
                  refine pure_ (i := 14) (N := some 42) (v := ?_) (a' := ?_) #[true, true, true, true, true, true, true, true, true, true, true, true, true, true, true, false, false, false, false, false, false, false, false, false, false] rfl rfl (by kernel_rfl) (fun _ _ _ h => h) (Or.inl ⟨by rfl, ?_⟩) ?_ ?_
                  rotate_left
                  · intro w'
                    go_simp
                    with_reducible rfl
                  rotate_left
                  · simp only [Act.put, List.setIfInBounds_toArray, List.set_cons_zero, List.set_cons_succ, i64_w, i32_w]
                    rfl
                  refine pure_ (i := 15) (N := some 43) (v := undef) (a' := ?_) #[true, true, true, true, true, true, true, true, true, true, true, true, true, true, true, true, false, false, false, false, false, false, false, false, false] rfl rfl (by kernel_rfl) (fun _ _ _ h => h) (Or.inr ⟨by rfl, rfl⟩) ?_ ?_
                  rotate_left
                  · simp only [Act.put, List.setIfInBounds_toArray, List.set_cons_zero, List.set_cons_succ, i64_w, i32_w]
                    rfl
                  refine pure_ (i := 16) (N := some 44) (v := undef) (a' := ?_) #[true, true, true, true, true, true, true, true, true, true, true, true, true, true, true, true, true, false, false, false, false, false, false, false, false] rfl rfl (by kernel_rfl) (fun _ _ _ h => h) (Or.inr ⟨by rfl, rfl⟩) ?_ ?_
                  rotate_left
                  · simp only [Act.put, List.setIfInBounds_toArray, List.set_cons_zero, List.set_cons_succ, i64_w, i32_w]
                    rfl
                  refine pure_ (i := 17) (N := some 45) (v := undef) (a' := ?_) #[true, true, true, true, true, true, true, true, true, true, true, true, true, true, true, true, true, true, false, false, false, false, false, false, false] rfl rfl (by kernel_rfl) (fun _ _ _ h => h) (Or.inr ⟨by rfl, rfl⟩) ?_ ?_
                  rotate_left
                  · simp only [Act.put, List.setIfInBounds_toArray, List.set_cons_zero, List.set_cons_succ, i64_w, i32_w]
                    rfl
                  refine pure_ (i := 18) (N := some 46) (v := undef) (a' := ?_) #[true, true, true, true, true, true, true, true, true, true, true, true, true, true, true, true, true, true, true, false, false, false, false, false, false] rfl rfl (by kernel_rfl) (fun _ _ _ h => h) (Or.inr ⟨by rfl, rfl⟩) ?_ ?_
                  rotate_left
                  · simp only [Act.put, List.setIfInBounds_toArray, List.set_cons_zero, List.set_cons_succ, i64_w, i32_w]
                    rfl
                  refine pure_ (i := 19) (N := some 47) (v := undef) (a' := ?_) #[true, true, true, true, true, true, true, true, true, true, true, true, true, true, true, true, true, true, true, true, false, false, false, false, false] rfl rfl (by kernel_rfl) (fun _ _ _ h => h) (Or.inr ⟨by rfl, rfl⟩) ?_ ?_
                  rotate_left
                  · simp only [Act.put, List.setIfInBounds_toArray, List.set_cons_zero, List.set_cons_succ, i64_w, i32_w]
                    rfl
                  refine pure_ (i := 20) (N := some 48) (v := undef) (a' := ?_) #[true, true, true, true, true, true, true, true, true, true, true, true, true, true, true, true, true, true, true, true, true, false, false, false, false] rfl rfl (by kernel_rfl) (fun _ _ _ h => h) (Or.inr ⟨by rfl, rfl⟩) ?_ ?_
                  rotate_left
                  · simp only [Act.put, List.setIfInBounds_toArray, List.set_cons_zero, List.set_cons_succ, i64_w, i32_w]
                    rfl
                  refine pure_ (i := 21) (N := some 49) (v := undef) (a' := ?_) #[true, true, true, true, true, true, true, true, true, true, true, true, true, true, true, true, true, true, true, true, true, true, false, false, false] rfl rfl (by kernel_rfl) (fun _ _ _ h => h) (Or.inr ⟨by rfl, rfl⟩) ?_ ?_
                  rotate_left
                  · simp only [Act.put, List.setIfInBounds_toArray, List.set_cons_zero, List.set_cons_succ, i64_w, i32_w]
                    rfl
                  refine pure_ (i := 22) (N := some 50) (v := undef) (a' := ?_) #[true, true, true, true, true, true, true, true, true, true, true, true, true, true, true, true, true, true, true, true, true, true, true, false, false] rfl rfl (by kernel_rfl) (fun _ _ _ h => h) (Or.inr ⟨by rfl, rfl⟩) ?_ ?_
                  rotate_left
                  · simp only [Act.put, List.setIfInBounds_toArray, List.set_cons_zero, List.set_cons_succ, i64_w, i32_w]
                    rfl
                  refine pure_ (i := 23) (N := some 51) (v := ?_) (a' := ?_) #[true, true, true, true, true, true, true, true, true, true, true, true, true, true, true, true, true, true, true, true, true, true, true, true, false] rfl rfl (by kernel_rfl) (fun _ _ _ h => h) (Or.inl ⟨by rfl, ?_⟩) ?_ ?_
                  rotate_left
                  · intro w'
                    go_simp
                    with_reducible rfl
                  rotate_left
                  · simp only [Act.put, List.setIfInBounds_toArray, List.set_cons_zero, List.set_cons_succ, i64_w, i32_w]
                    rfl
                  refine pure_ (i := 24) (N := some 2) (v := ?_) (a' := ?_) #[true, true, true, true, true, true, true, true, true, true, true, true, true, true, true, true, true, true, true, true, true, true, true, true, true] rfl rfl (by kernel_rfl) (fun _ _ _ h => h) (Or.inl ⟨by rfl, ?_⟩) ?_ ?_
                  rotate_left
                  · intro w'
                    go_simp
                    with_reducible rfl
                  rotate_left
                  · simp only [Act.put, List.setIfInBounds_toArray, List.set_cons_zero, List.set_cons_succ, i64_w, i32_w]
                    rfl
                  refine done_ (by kernel_rfl) ?_
                  replace HS : Aside0 (Sep (fps []) w [] w1964) := ⟨HS.out.sub (.cons _ .slnil)⟩
                  go_wp2_with fail
                  go_ret
                  rw [← some_eq H]
                  exact ⟨(by first | rfl | (simp [IntKind.wrap_u32]; done)), HS.out⟩
              · replace H := if_no c1960 H
                have c1960b0 : (a1865 == 3) = false := beq_eq_false_iff_ne.mpr c1960
                have c1960b1 : (a1865 != 3) = true := bne_iff_ne.mpr c1960
                clear c1960
                have hc1942 : w1933.cell? ⟨g1872, 0, none⟩ = some (.int .i64 a1865) := blk_cellv (HS.out.at0) 0 rfl
                replace HS : Aside0 (Sep (fps []) w [] w1933) := ⟨HS.out.sub (.cons _ .slnil)⟩
                go_wp2_with fail
                clear hc1942
                go_ret
                rw [← some_eq H]
                exact ⟨(by first | rfl | (simp [IntKind.wrap_u32]; done)), HS.out⟩

set_option maxHeartbeats 30000000 in
set_option maxRecDepth 100000 in
theorem pack_total.calls (k : Nat) (l2063 : List Int) (A2064 : Option Addr) (n2065 : Nat) (r : Int) (w : World) (HR2066 : Aside0 (Rd (Kd.int .i64) (fps []) w A2064 l2063.length l2063)) (HGl0 : Aside0 (Gl 0 #[.int .i64 0, .int .i64 0, .int .i64 0, .int .i64 0, .int .i64 0] (fps []) w)) (HS : Aside0 (Sep (fps []) w [] w)) (H : Aside0 (pack_total.f k l2063 = some r)) :
    Calls Tryd.prog 125 #[.slice A2064 l2063.length n2065] w fun e w' => e = .returned (.int .i64 r) ∧ Sep (fps []) w [] w' := by
  unfold pack_total.f at H
  go_enter Tryd.func125, Tryd.ntmps125
  go_wp2_with fail
  obtain ⟨o2079, AL2080, H⟩ := bind_some H
  go_loopg [3, 8] k (fun kq v3 v8 wc => ∃ (x2083 : Int) (x2084 : Int), v3 = .int .i64 x2083 ∧ v8 = .int .i64 x2084 ∧ Aside0 (pack_total.lo0 kq l2063 x2083 x2084 = some o2079) ∧ Aside0 (Sep (fps []) w [] wc))
  case atStart => exact ⟨(0), (0), (by first | rfl | (simp [IntKind.wrap_u32]; done)), (by first | rfl | (simp [IntKind.wrap_u32]; done)), AL2080, ⟨HS.out⟩⟩
  case round =>
    clear AL2080 HS
    obtain ⟨x2083, x2084, rfl, rfl, AL2080, HS⟩ := hrel
    obtain ⟨w2081, rfl⟩ : ∃ x : World, x = wr := ⟨_, rfl⟩
    cases gk with
    | zero => exact absurd AL2080.out (by simp [pack_total.lo0])
    | succ k2082 =>
      have AL0 := AL2080.out
      rw [pack_total.lo0] at AL0
      clear AL2080
      have AL2080 := Aside0.mk AL0
      clear AL0
      by_cases c2085 : x2084 < (l2063.length : Int)
      · replace AL2080 := if_yes c2085 AL2080
        have c2085b0 : decide (x2084 < (l2063.length : Int)) = true := decide_eq_true c2085
        clear c2085
        by_cases c2086 : 0 ≤ x2084
        · replace AL2080 := if_yes c2086 AL2080
          have c2086b0 : decide (0 ≤ x2084) = true := decide_eq_true c2086
          have c2086p : (0 ≤ x2084) = True := eq_true c2086
          clear c2086
          have ip2087 : (x2084 < (l2063.length : Int)) = True := eq_true (of_decide_eq_true c2085b0)
          by_cases c2089 : (rd l2063 x2084) < 1
          · replace AL2080 := if_yes c2089 AL2080
            have c2089b0 : decide ((rd l2063 x2084) < 1) = true := decide_eq_true c2089
            clear c2089
            obtain ⟨hx2088a, hx2088e, hx2088⟩ := Kd.at_int (Rd.read (fun _ _ _ _ h => h) HR2066.out HS.out.fr) x2084 (of_decide_eq_true c2086b0) (of_decide_eq_true c2085b0); cases hx2088e
            go_wp2_with fail
            clear hx2088
            have ho := some_eq AL2080
            subst ho
            have H := lp_ret H
            go_ret
            rw [← some_eq H]
            exact ⟨(by first | rfl | (simp [IntKind.wrap_u32]; done)), HS.out⟩
          · replace AL2080 := if_no c2089 AL2080
            have c2089b0 : decide ((rd l2063 x2084) < 1) = false := decide_eq_false c2089
            clear c2089
            by_cases c2090 : (rd l2063 x2084) > (wrap64 (32 - x2083))
            · replace AL2080 := if_yes c2090 AL2080
              have c2090b0 : decide ((wrap64 (32 - x2083)) < (rd l2063 x2084)) = true := decide_eq_true c2090
              clear c2090
              obtain ⟨hx2088a, hx2088e, hx2088⟩ := Kd.at_int (Rd.read (fun _ _ _ _ h => h) HR2066.out HS.out.fr) x2084 (of_decide_eq_true c2086b0) (of_decide_eq_true c2085b0); cases hx2088e
              go_wp2_with fail
              clear hx2088
              have ho := some_eq AL2080
              subst ho
              have H := lp_ret H
              go_ret
              rw [← some_eq H]
              exact ⟨(by first | rfl | (simp [IntKind.wrap_u32]; done)), HS.out⟩
            · replace AL2080 := if_no c2090 AL2080
              have c2090b0 : decide ((wrap64 (32 - x2083)) < (rd l2063 x2084)) = false := decide_eq_false c2090
              clear c2090
              obtain ⟨hx2088a, hx2088e, hx2088⟩ := Kd.at_int (Rd.read (fun _ _ _ _ h => h) HR2066.out HS.out.fr) x2084 (of_decide_eq_true c2086b0) (of_decide_eq_true c2085b0); cases hx2088e
              go_wp2_with fail
              clear hx2088
              go_roundg k2082
              case measure => exact Nat.lt_succ_self _
              case rel => exact ⟨(wrap64 (x2083 + (rd l2063 x2084))), (wrap64 (x2084 + 1)), (by first | rfl | (simp [IntKind.wrap_u32]; done)), (by first | rfl | (simp [IntKind.wrap_u32]; done)), Aside0.mk AL2080.out, ⟨HS.out⟩⟩
        · replace AL2080 := if_no c2086 AL2080
          have c2086b0 : decide (0 ≤ x2084) = false := decide_eq_false c2086
          clear c2086
          exact (none_no AL2080).elim
      · replace AL2080 := if_no c2085 AL2080
        have c2085b0 : decide (x2084 < (l2063.length : Int)) = false := decide_eq_false c2085
        clear c2085
        have ho := some_eq AL2080
        subst ho
        clear AL2080
        have H := lp_out H
        go_wp2_with fail
        go_ret
        rw [← some_eq H]
        exact ⟨(by first | rfl | (simp [IntKind.wrap_u32]; done)), HS.out⟩

set_option maxHeartbeats 30000000 in
set_option maxRecDepth 100000 in
theorem pack_Fits.calls (a2119 : Int) (a2120 : Int) (r : Bool) (w : World)  (HGl0 : Aside0 (Gl 0 #[.int .i64 0, .int .i64 0, .int .i64 0, .int .i64 0, .int .i64 0] (fps []) w)) (HS : Aside0 (Sep (fps []) w [] w)) (H : Aside0 (pack_Fits.f a2119 a2120 = some r)) :
    Calls Tryd.prog 152 #[.int .u32 a2119, .int .i64 a2120] w fun e w' => e = .returned (.bool r) ∧ Sep (fps []) w [] w' := by
  unfold pack_Fits.f at H
  go_enter Tryd.func152, Tryd.ntmps152
  by_cases c2121 : a2120 ≥ 32
  · replace H := if_yes c2121 H
    have c2121b0 : decide (32 ≤ a2120) = true := decide_eq_true c2121
    clear c2121
    go_wp2_with fail
    go_ret
    rw [← some_eq H]
    exact ⟨(by first | rfl | (simp [IntKind.wrap_u32]; done)), HS.out⟩
  · replace H := if_no c2121 H
    have c2121b0 : decide (32 ≤ a2120) = false := decide_eq_false c2121
    clear c2121
    by_cases c2122 : a2120 < 0
    · replace H := if_yes c2122 H
      have c2122b0 : decide (a2120 < 0) = true := decide_eq_true c2122
      skip
      go_wp2_with fail
      clear c2122
      go_ret
      rw [← some_eq H]
      exact ⟨(by first | rfl | (simp [IntKind.wrap_u32]; done)), HS.out⟩
    · replace H := if_no c2122 H
      have c2122b0 : decide (a2120 < 0) = false := decide_eq_false c2122
      by_cases c2123 : 0 ≤ (IntKind.u64.wrap (a2120))
      · replace H := if_yes c2123 H
        have c2123b0 : decide (0 ≤ (IntKind.u64.wrap (a2120))) = true := decide_eq_true c2123
        skip
        skip
        go_wp2_with fail
        clear c2122 c2123
        go_ret
        rw [← some_eq H]
        exact ⟨(by first | rfl | (simp [IntKind.wrap_u32]; done)), HS.out⟩
      · replace H := if_no c2123 H
        have c2123b0 : decide (0 ≤ (IntKind.u64.wrap (a2120))) = false := decide_eq_false c2123
        exact (none_no H).elim

set_option maxHeartbeats 30000000 in
set_option maxRecDepth 100000 in
theorem pack_Put.calls (a2111 : Int) (a2112 : Int) (a2113 : Int) (a2114 : Int) (r : Int × Int) (w : World)  (HGl0 : Aside0 (Gl 0 #[.int .i64 0, .int .i64 0, .int .i64 0, .int .i64 0, .int .i64 0] (fps []) w)) (HS : Aside0 (Sep (fps []) w [] w)) (H : Aside0 (pack_Put.f a2111 a2112 a2113 a2114 = some r)) :
    Calls Tryd.prog 126 #[.int .u32 a2111, .int .i64 a2112, .int .i64 a2113, .int .u32 a2114] w fun e w' => e = .returned (.tuple #[.int .u32 r.1, .int .i64 r.2]) ∧ Sep (fps []) w [] w' := by
  unfold pack_Put.f at H
  go_enter Tryd.func126, Tryd.ntmps126
  go_wp2_with fail
  obtain ⟨t2115, HA2116, H⟩ := bind_some H
  refine (pack_isPiece.calls a2112 a2113 t2115 _ ⟨HGl0.out.pass (l := []) HS.out⟩ ⟨Sep.start _⟩ HA2116).mono ?_
  rintro e_ w2117 ⟨rfl, hS⟩
  replace HS : Aside0 (Sep (fps []) w [] w2117) := ⟨HS.out.call hS⟩
  clear hS
  by_cases c2118 : t2115 = true
  · replace H := if_yes c2118 H
    have c2118b0 : t2115 = true := c2118
    have c2118b1 : (!t2115) = false := by rw [c2118b0]; rfl
    try rw [c2118b1]
    clear c2118
    go_wp2_with fail
    obtain ⟨t2124, HA2125, H⟩ := bind_some H
    refine (pack_Fits.calls a2114 a2113 t2124 _ ⟨HGl0.out.pass (l := []) HS.out⟩ ⟨Sep.start _⟩ HA2125).mono ?_
    rintro e_ w2126 ⟨rfl, hS⟩
    replace HS : Aside0 (Sep (fps []) w [] w2126) := ⟨HS.out.call hS⟩
    clear hS
    by_cases c2127 : t2124 = true
    · replace H := if_yes c2127 H
      have c2127b0 : t2124 = true := c2127
      have c2127b1 : (!t2124) = false := by rw [c2127b0]; rfl
      try rw [c2127b1]
      clear c2127
      go_wp2_with fail
      obtain ⟨t2128, HA2129, H⟩ := bind_some H
      refine (pack_mask.calls a2112 a2113 t2128 _ ⟨HGl0.out.pass (l := []) HS.out⟩ ⟨Sep.start _⟩ HA2129).mono ?_
      rintro e_ w2130 ⟨rfl, hS⟩
      replace HS : Aside0 (Sep (fps []) w [] w2130) := ⟨HS.out.call hS⟩
      clear hS
      by_cases c2131 : 0 ≤ (IntKind.u64.wrap (a2112))
      · replace H := if_yes c2131 H
        have c2131b0 : decide (0 ≤ (IntKind.u64.wrap (a2112))) = true := decide_eq_true c2131
        skip
        go_wp2_with fail
        clear c2131
        go_ret2
        rw [← some_eq H]
        exact ⟨(by first | rfl | (simp [IntKind.wrap_u32]; done)), HS.out⟩
      · replace H := if_no c2131 H
        have c2131b0 : decide (0 ≤ (IntKind.u64.wrap (a2112))) = false := decide_eq_false c2131
        exact (none_no H).elim
    · replace H := if_no c2127 H
      have c2127b0 : t2124 = false := by simpa using c2127
      have c2127b1 : (!t2124) = true := by rw [c2127b0]; rfl
      try rw [c2127b1]
      clear c2127
      go_wp2_with fail
      go_ret2
      rw [← some_eq H]
      exact ⟨(by first | rfl | (simp [IntKind.wrap_u32]; done)), HS.out⟩
  · replace H := if_no c2118 H
    have c2118b0 : t2115 = false := by simpa using c2118
    have c2118b1 : (!t2115) = true := by rw [c2118b0]; rfl
    try rw [c2118b1]
    clear c2118
    go_wp2_with fail
    go_ret2
    rw [← some_eq H]
    exact ⟨(by first | rfl | (simp [IntKind.wrap_u32]; done)), HS.out⟩

set_option maxHeartbeats 30000000 in
set_option maxRecDepth 100000 in
theorem pack_Join.calls (k : Nat) (l2055 : List Int) (l2059 : List Int) (A2056 : Option Addr) (n2057 : Nat) (A2060 : Option Addr) (n2061 : Nat) (r : Int × Int) (w : World) (HR2058 : Aside0 (Rd (Kd.int .u32) (fps []) w A2056 l2055.length l2055)) (HR2062 : Aside0 (Rd (Kd.int .i64) (fps []) w A2060 l2059.length l2059)) (HGl0 : Aside0 (Gl 0 #[.int .i64 0, .int .i64 0, .int .i64 0, .int .i64 0, .int .i64 0] (fps []) w)) (HS : Aside0 (Sep (fps []) w [] w)) (H : Aside0 (pack_Join.f k l2055 l2059 = some r)) :
    Calls Tryd.prog 69 #[.slice A2056 l2055.length n2057, .slice A2060 l2059.length n2061] w fun e w' => e = .returned (.tuple #[.int .u32 r.1, .int .i64 r.2]) ∧ Sep (fps []) w [] w' := by
  unfold pack_Join.f at H
  go_enter Tryd.func69, Tryd.ntmps69
  go_wp2_with fail
  obtain ⟨t2092, HA2093, H⟩ := bind_some H
  refine (pack_total.calls _ l2059 A2060 n2061 t2092 _ ⟨Rd.pass (l := []) (by decide) (fun _ _ _ _ h => h) HR2062.out HS.out⟩ ⟨HGl0.out.pass (l := []) HS.out⟩ ⟨Sep.start _⟩ HA2093).mono ?_
  rintro e_ w2094 ⟨rfl, hS⟩
  replace HS : Aside0 (Sep (fps []) w [] w2094) := ⟨HS.out.call hS⟩
  clear hS
  by_cases c2095 : t2092 < 0
  · replace H := if_yes c2095 H
    have c2095b0 : decide (t2092 < 0) = true := decide_eq_true c2095
    clear c2095
    go_wp2_with fail
    go_ret2
    rw [← some_eq H]
    exact ⟨(by first | rfl | (simp [IntKind.wrap_u32]; done)), HS.out⟩
  · replace H := if_no c2095 H
    have c2095b0 : decide (t2092 < 0) = false := decide_eq_false c2095
    clear c2095
    by_cases c2096 : (l2055.length : Int) = (l2059.length : Int)
    · replace H := if_yes c2096 H
      have c2096b0 : ((l2055.length : Int) == (l2059.length : Int)) = true := beq_iff_eq.mpr c2096
      have c2096b1 : ((l2055.length : Int) != (l2059.length : Int)) = false := bne_eq_false_iff_eq.mpr c2096
      clear c2096
      go_wp2_with fail
      obtain ⟨o2136, AL2137, H⟩ := bind_some H
      go_loopg [6, 7, 24] k (fun kq v6 v7 v24 wc => ∃ (x2140 : Int) (x2141 : Int) (x2142 : Int), v6 = .int .u32 x2140 ∧ v7 = .int .i64 x2141 ∧ v24 = .int .i64 x2142 ∧ Aside0 (pack_Join.lo0 kq l2055 l2059 x2140 x2141 x2142 = some o2136) ∧ Aside0 (Sep (fps []) w [] wc))
      case atStart => exact ⟨(0), (0), (0), (by first | rfl | (simp [IntKind.wrap_u32]; done)), (by first | rfl | (simp [IntKind.wrap_u32]; done)), (by first | rfl | (simp [IntKind.wrap_u32]; done)), AL2137, ⟨HS.out⟩⟩
      case round =>
        clear AL2137 HS
        obtain ⟨x2140, x2141, x2142, rfl, rfl, rfl, AL2137, HS⟩ := hrel
        obtain ⟨w2138, rfl⟩ : ∃ x : World, x = wr := ⟨_, rfl⟩
        cases gk with
        | zero => exact absurd AL2137.out (by simp [pack_Join.lo0])
        | succ k2139 =>
          have AL0 := AL2137.out
          rw [pack_Join.lo0] at AL0
          clear AL2137
          have AL2137 := Aside0.mk AL0
          clear AL0
          by_cases c2143 : x2142 < (l2059.length : Int)
          · replace AL2137 := if_yes c2143 AL2137
            have c2143b0 : decide (x2142 < (l2059.length : Int)) = true := decide_eq_true c2143
            clear c2143
            by_cases c2144 : 0 ≤ x2142
            · replace AL2137 := if_yes c2144 AL2137
              have c2144b0 : decide (0 ≤ x2142) = true := decide_eq_true c2144
              have c2144p : (0 ≤ x2142) = True := eq_true c2144
              clear c2144
              have ip2145 : (x2142 < (l2059.length : Int)) = True := eq_true (of_decide_eq_true c2143b0)
              by_cases c2147 : x2142 < (l2055.length : Int)
              · replace AL2137 := if_yes c2147 AL2137
                have c2147b0 : decide (x2142 < (l2055.length : Int)) = true := decide_eq_true c2147
                have c2147p : (x2142 < (l2055.length : Int)) = True := eq_true c2147
                clear c2147
                obtain ⟨hx2146a, hx2146e, hx2146⟩ := Kd.at_int (Rd.read (fun _ _ _ _ h => h) HR2062.out HS.out.fr) x2142 (of_decide_eq_true c2144b0) (of_decide_eq_true c2143b0); cases hx2146e
                obtain ⟨hx2148a, hx2148e, hx2148⟩ := Kd.at_int (Rd.read (fun _ _ _ _ h => h) HR2058.out HS.out.fr) x2142 (of_decide_eq_true c2144b0) (of_decide_eq_true c2147b0); cases hx2148e
                go_wp2_with fail
                clear hx2146 hx2148
                obtain ⟨t2132, HA2149, AL2137⟩ := bind_some AL2137
                refine (pack_Put.calls x2140 x2141 (rd l2059 x2142) (rd l2055 x2142) t2132 _ ⟨HGl0.out.pass (l := []) HS.out⟩ ⟨Sep.start _⟩ HA2149).mono ?_
                rintro e_ w2150 ⟨rfl, hS⟩
                replace HS : Aside0 (Sep (fps []) w [] w2150) := ⟨HS.out.call hS⟩
                clear hS
                by_cases c2151 : t2132.2 = 0
                · replace AL2137 := if_yes c2151 AL2137
                  have c2151b0 : (t2132.2 == 0) = true := beq_iff_eq.mpr c2151
                  have c2151b1 : (t2132.2 != 0) = false := bne_eq_false_iff_eq.mpr c2151
                  clear c2151
                  go_wp2_with fail
                  go_roundg k2139
                  case measure => exact Nat.lt_succ_self _
                  case rel => exact ⟨(t2132.1), (wrap64 (x2141 + (rd l2059 x2142))), (wrap64 (x2142 + 1)), (by first | rfl | (simp [IntKind.wrap_u32]; done)), (by first | rfl | (simp [IntKind.wrap_u32]; done)), (by first | rfl | (simp [IntKind.wrap_u32]; done)), Aside0.mk AL2137.out, ⟨HS.out⟩⟩
                · replace AL2137 := if_no c2151 AL2137
                  have c2151b0 : (t2132.2 == 0) = false := beq_eq_false_iff_ne.mpr c2151
                  have c2151b1 : (t2132.2 != 0) = true := bne_iff_ne.mpr c2151
                  clear c2151
                  go_wp2_with fail
                  have ho := some_eq AL2137
                  subst ho
                  have H := lp_ret H
                  go_ret2
                  rw [← some_eq H]
                  exact ⟨(by first | rfl | (simp [IntKind.wrap_u32]; done)), HS.out⟩
              · replace AL2137 := if_no c2147 AL2137
                have c2147b0 : decide (x2142 < (l2055.length : Int)) = false := decide_eq_false c2147
                clear c2147
                exact (none_no AL2137).elim
            · replace AL2137 := if_no c2144 AL2137
              have c2144b0 : decide (0 ≤ x2142) = false := decide_eq_false c2144
              clear c2144
              exact (none_no AL2137).elim
          · replace AL2137 := if_no c2143 AL2137
            have c2143b0 : decide (x2142 < (l2059.length : Int)) = false := decide_eq_false c2143
            clear c2143
            have ho := some_eq AL2137
            subst ho
            clear AL2137
            have H := lp_out H
            go_wp2_with fail
            go_ret2
            rw [← some_eq H]
            exact ⟨(by first | rfl | (simp [IntKind.wrap_u32]; done)), HS.out⟩
    · replace H := if_no c2096 H
      have c2096b0 : ((l2055.length : Int) == (l2059.length : Int)) = false := beq_eq_false_iff_ne.mpr c2096
      have c2096b1 : ((l2055.length : Int) != (l2059.length : Int)) = true := bne_iff_ne.mpr c2096
      clear c2096
      go_wp2_with fail
      go_ret2
      rw [← some_eq H]
      exact ⟨(by first | rfl | (simp [IntKind.wrap_u32]; done)), HS.out⟩

set_option maxHeartbeats 30000000 in
set_option maxRecDepth 100000 in
theorem tag_Pack.calls (k : Nat) (a1848 : Int) (a1849 : Int) (a1850 : Int) (a1851 : Int) (a1852 : Int) (a1853 : Int) (a1854 : Int) (r : Int × Int) (w : World)  (HGl0 : Aside0 (Gl 0 #[.int .i64 0, .int .i64 0, .int .i64 0, .int .i64 0, .int .i64 0] (fps []) w)) (HS : Aside0 (Sep (fps []) w [] w)) (H : Aside0 (tag_Pack.f k a1848 a1849 a1850 a1851 a1852 a1853 a1854 = some r)) :
    Calls Tryd.prog 16 #[.agg #[.int .i64 a1848, .int .i64 a1849, .int .i64 a1850, .int .i64 a1851, .int .i64 a1852, .int .i64 a1853, .int .i64 a1854]] w fun e w' => e = .returned (.tuple #[.int .u32 r.1, .int .i64 r.2]) ∧ Sep (fps []) w [] w' := by
  unfold tag_Pack.f at H
  go_enter Tryd.func16, Tryd.ntmps16
  go_wp2_with (first | ((with_reducible refine gate_dst (N := 1) rfl ?_); refine box_on ?hg (N := 1) ?hd (cs := #[.int .i64 a1848, .int .i64 a1849, .int .i64 a1850, .int .i64 a1851, .int .i64 a1852, .int .i64 a1853, .int .i64 a1854]) (t := 32) ?hr ?_; (case hd => rfl); (case hg => rfl); (case hr => first | (go_simp; done) | (go_simp; rfl)); intro g1855 hg w1856 hbox hb; replace HS : Aside0 (Sep (fps []) w [b9 g1855 a1848 a1849 a1850 a1851 a1852 a1853 a1854] w1856) := ⟨HS.out.box hg hbox hb⟩; clear hg hbox hb; have hc1858 : w1856.cell? ⟨g1855, 0, none⟩ = some (.int .i64 a1848) := blk_cellv (HS.out.at0) 0 rfl; have hc1859 : w1856.cell? ⟨g1855, 1, none⟩ = some (.int .i64 a1849) := blk_cellv (HS.out.at0) 1 rfl; have hc1860 : w1856.cell? ⟨g1855, 2, none⟩ = some (.int .i64 a1850) := blk_cellv (HS.out.at0) 2 rfl; have hc1861 : w1856.cell? ⟨g1855, 3, none⟩ = some (.int .i64 a1851) := blk_cellv (HS.out.at0) 3 rfl; have hc1862 : w1856.cell? ⟨g1855, 4, none⟩ = some (.int .i64 a1852) := blk_cellv (HS.out.at0) 4 rfl; have hc1863 : w1856.cell? ⟨g1855, 5, none⟩ = some (.int .i64 a1853) := blk_cellv (HS.out.at0) 5 rfl; have hc1864 : w1856.cell? ⟨g1855, 6, none⟩ = some (.int .i64 a1854) := blk_cellv (HS.out.at0) 6 rfl))
  clear hc1858 hc1859 hc1860 hc1861 hc1862 hc1863 hc1864
  obtain ⟨t1997, HA1998, H⟩ := bind_some H
  refine (tag_Right.calls _ a1848 a1849 a1850 a1851 a1852 a1853 a1854 t1997 _ ⟨HGl0.out.pass (l := []) HS.out⟩ ⟨Sep.start _⟩ HA1998).mono ?_
  rintro e_ w1999 ⟨rfl, hS⟩
  replace HS : Aside0 (Sep (fps []) w [b9 g1855 a1848 a1849 a1850 a1851 a1852 a1853 a1854] w1999) := ⟨HS.out.call hS⟩
  clear hS
  by_cases c2000 : t1997 = true
  · replace H := if_yes c2000 H
    have c2000b0 : t1997 = true := c2000
    have c2000b1 : (!t1997) = false := by rw [c2000b0]; rfl
    try rw [c2000b1]
    clear c2000
    have hc2001 : w1999.cell? ⟨g1855, 0, none⟩ = some (.int .i64 a1848) := blk_cellv (HS.out.at0) 0 rfl
    go_wp2_with (first | ((with_reducible refine gate_dst (N := 13) rfl ?_); refine slice_on (n := 1) ?hg (N := 13) ?hd (cs := #[.int .u32 ((a1848) % 4294967296)]) (t := 33) ?hr ?_; (case hd => rfl); (case hg => rfl); (case hr => first | (go_simp; done) | (go_simp; rfl)); intro g2002 hg w2003 hbox hb; clear hc2001; replace HS : Aside0 (Sep (fps []) w [b9 g1855 a1848 a1849 a1850 a1851 a1852 a1853 a1854, b10 g2002 ((a1848) % 4294967296)] w2003) := ⟨HS.out.box hg hbox hb⟩; clear hg hbox hb; have hc2005 : w2003.cell? ⟨g1855, 0, none⟩ = some (.int .i64 a1848) := blk_cellv (HS.out.at0) 0 rfl; have hc2006 : w2003.cell? ⟨g1855, 1, none⟩ = some (.int .i64 a1849) := blk_cellv (HS.out.at0) 1 rfl; have hc2007 : w2003.cell? ⟨g1855, 2, none⟩ = some (.int .i64 a1850) := blk_cellv (HS.out.at0) 2 rfl; have hc2008 : w2003.cell? ⟨g1855, 3, none⟩ = some (.int .i64 a1851) := blk_cellv (HS.out.at0) 3 rfl; have hc2009 : w2003.cell? ⟨g1855, 4, none⟩ = some (.int .i64 a1852) := blk_cellv (HS.out.at0) 4 rfl; have hc2010 : w2003.cell? ⟨g1855, 5, none⟩ = some (.int .i64 a1853) := blk_cellv (HS.out.at0) 5 rfl; have hc2011 : w2003.cell? ⟨g1855, 6, none⟩ = some (.int .i64 a1854) := blk_cellv (HS.out.at0) 6 rfl))
    clear hc2005 hc2006 hc2007 hc2008 hc2009 hc2010 hc2011
    obtain ⟨t2012, HA2013, H⟩ := bind_some H
    refine (tag_marks.calls a1848 a1849 a1850 a1851 a1852 a1853 a1854 t2012 _ ⟨HGl0.out.pass (l := []) HS.out⟩ ⟨Sep.start _⟩ HA2013).mono ?_
    rintro e_ w2014 ⟨rfl, hS⟩
    replace HS : Aside0 (Sep (fps []) w [b9 g1855 a1848 a1849 a1850 a1851 a1852 a1853 a1854, b10 g2002 ((a1848) % 4294967296)] w2014) := ⟨HS.out.call hS⟩
    clear hS
    go_wp2_with fail
    replace HS : Aside0 (Sep (fps []) w [b9 g1855 a1848 a1849 a1850 a1851 a1852 a1853 a1854, r6 (some ⟨g2002, 0, none⟩) 1 1 [(a1848) % 4294967296]] w2014) := ⟨Sep.litrow (l1 := [b9 g1855 a1848 a1849 a1850 a1851 a1852 a1853 a1854]) (l2 := []) (enc := Value.int .u32) (xs := [(a1848) % 4294967296]) (n := 1) HS.out rfl (by decide)⟩
    obtain ⟨o2016, AL2017, H⟩ := bind_some H
    go_loopg [4, 16] k (fun kq v4 v16 wc => ∃ (x2021 : Int) (x2022 : List Int) (A2023 : Option Addr) (m2024 : Nat) (n2025 : Nat), v4 = .slice A2023 m2024 n2025 ∧ v16 = .int .i64 x2021 ∧ Aside0 (tag_Pack.lo0 kq t2012 x2021 x2022 = some o2016) ∧ Aside0 (Sep (fps []) w [b9 g1855 a1848 a1849 a1850 a1851 a1852 a1853 a1854, r6 A2023 m2024 n2025 x2022] wc))
    case atStart => exact ⟨(0), ([(a1848) % 4294967296]), ((some ⟨g2002, 0, none⟩)), (1), (1), (by first | rfl | (simp [IntKind.wrap_u32]; done)), (by first | rfl | (simp [IntKind.wrap_u32]; done)), AL2017, ⟨HS.out⟩⟩
    case round =>
      clear AL2017 HS
      obtain ⟨x2021, x2022, A2023, m2024, n2025, rfl, rfl, AL2017, HS⟩ := hrel
      obtain ⟨w2018, rfl⟩ : ∃ x : World, x = wr := ⟨_, rfl⟩
      obtain rfl := (row_len (HS.out.at1)).symm
      cases gk with
      | zero => exact absurd AL2017.out (by simp [tag_Pack.lo0])
      | succ k2019 =>
        have AL0 := AL2017.out
        rw [tag_Pack.lo0] at AL0
        clear AL2017
        have AL2017 := Aside0.mk AL0
        clear AL0
        by_cases c2027 : x2021 < 5
        · replace AL2017 := if_yes c2027 AL2017
          have c2027b0 : decide (x2021 < 5) = true := decide_eq_true c2027
          clear c2027
          by_cases c2028 : 0 ≤ x2021
          · replace AL2017 := if_yes c2028 AL2017
            have c2028b0 : decide (0 ≤ x2021) = true := decide_eq_true c2028
            have c2028p : (0 ≤ x2021) = True := eq_true c2028
            clear c2028
            have ip2029 : (x2021 < 5) = True := eq_true (of_decide_eq_true c2027b0)
            have ix2030 : ∀ w, (Instr.index 108 (.agg #[.int .i64 t2012.1, .int .i64 t2012.2.1, .int .i64 t2012.2.2.1, .int .i64 t2012.2.2.2.1, .int .i64 t2012.2.2.2.2]) (.int .i64 x2021)).run Tryd.prog w = .ok (.int .i64 (rd [t2012.1, t2012.2.1, t2012.2.2.1, t2012.2.2.2.1, t2012.2.2.2.2] x2021)) w := run_index_ints 108 3 5 .i64 .i64 [t2012.1, t2012.2.1, t2012.2.2.1, t2012.2.2.2.1, t2012.2.2.2.2] x2021 Tryd.underlying108 (fun _ => by kernel_rfl) (fun _ => by kernel_rfl) rfl (of_decide_eq_true c2028b0) (of_decide_eq_true c2027b0)
            by_cases c2034 : x2022.length < 35184372088832
            · replace AL2017 := if_yes c2034 AL2017
              have c2034b0 : decide (x2022.length < 35184372088832) = true := decide_eq_true c2034
              clear c2034
              obtain ⟨y2038, HA2039, AL2017⟩ := bind_some AL2017
              go_wp2_with (first | ((with_reducible refine gate_dst (N := 22) rfl ?_); refine slice_on (n := 1) ?hg (N := 22) ?hd (cs := #[.int .u32 ((rd [t2012.1, t2012.2.1, t2012.2.2.1, t2012.2.2.2.1, t2012.2.2.2.2] x2021) % 4294967296)]) (t := 33) ?hr ?_; (case hd => rfl); (case hg => rfl); (case hr => first | (go_simp; done) | (go_simp; rfl)); intro g2031 hg w2032 hbox hb; replace HS : Aside0 (Sep (fps []) w [b9 g1855 a1848 a1849 a1850 a1851 a1852 a1853 a1854, r6 A2023 x2022.length n2025 x2022, b10 g2031 ((rd [t2012.1, t2012.2.1, t2012.2.2.1, t2012.2.2.2.1, t2012.2.2.2.2] x2021) % 4294967296)] w2032) := ⟨HS.out.box hg hbox hb⟩; clear hg hbox hb) | ((with_reducible refine gate_dst (N := 23) rfl ?_); refine append_event (l1 := [b9 g1855 a1848 a1849 a1850 a1851 a1852 a1853 a1854]) (l2 := [b10 g2031 ((rd [t2012.1, t2012.2.1, t2012.2.2.1, t2012.2.2.2.1, t2012.2.2.2.2] x2021) % 4294967296)]) rfl (.tmp 19) (.tmp 22) 69 33 (.int .u32 0) 4 rfl Tryd.underlying69 (by kernel_rfl) rfl (by decide) (Value.int .u32) (fun _ => rfl) (.slice A2023 x2022.length n2025) (x2022 : List Int) [(rd [t2012.1, t2012.2.1, t2012.2.2.1, t2012.2.2.2.1, t2012.2.2.2.2] x2021) % 4294967296] ⟨g2031, 0, none⟩ 1 rfl rfl (blk_news (xs := [(rd [t2012.1, t2012.2.1, t2012.2.2.1, t2012.2.2.2.1, t2012.2.2.2.2] x2021) % 4294967296]) (HS.out.at2)) HS.out (by have := of_decide_eq_true c2034b0; simp only [List.length_cons, List.length_nil]; omega) HA2039 ?_; intro A2035 n2036 w2037 HS1; replace HS : Aside0 (Sep (fps []) w [b9 g1855 a1848 a1849 a1850 a1851 a1852 a1853 a1854, r6 A2035 y2038.length n2036 y2038, b10 g2031 ((rd [t2012.1, t2012.2.1, t2012.2.2.1, t2012.2.2.2.1, t2012.2.2.2.2] x2021) % 4294967296)] w2037) := ⟨HS1⟩; clear HS1; replace HS : Aside0 (Sep (fps []) w [b9 g1855 a1848 a1849 a1850 a1851 a1852 a1853 a1854, r6 A2035 y2038.length n2036 y2038] w2037) := ⟨HS.out.sub (.cons_cons _ (.cons_cons _ (.cons _ .slnil)))⟩))
              go_roundg k2019
              case measure => exact Nat.lt_succ_self _
              case rel => exact ⟨(wrap64 (x2021 + 1)), (y2038), (A2035), (y2038.length), (n2036), (by first | rfl | (simp [IntKind.wrap_u32]; done)), (by first | rfl | (simp [IntKind.wrap_u32]; done)), Aside0.mk AL2017.out, ⟨HS.out⟩⟩
            · replace AL2017 := if_no c2034 AL2017
              have c2034b0 : decide (x2022.length < 35184372088832) = false := decide_eq_false c2034
              clear c2034
              exact (none_no AL2017).elim
          · replace AL2017 := if_no c2028 AL2017
            have c2028b0 : decide (0 ≤ x2021) = false := decide_eq_false c2028
            clear c2028
            exact (none_no AL2017).elim
        · replace AL2017 := if_no c2027 AL2017
          have c2027b0 : decide (x2021 < 5) = false := decide_eq_false c2027
          clear c2027
          have ho := some_eq AL2017
          subst ho
          clear AL2017
          by_cases c2045 : x2022.length < 35184372088831
          · replace H := if_yes c2045 H
            have c2045b0 : decide (x2022.length < 35184372088831) = true := decide_eq_true c2045
            clear c2045
            obtain ⟨y2049, HA2050, H⟩ := bind_some H
            have hc2041 : w2018.cell? ⟨g1855, 6, none⟩ = some (.int .i64 a1854) := blk_cellv (HS.out.at0) 6 rfl
            go_wp2_with (first | ((with_reducible refine gate_dst (N := 29) rfl ?_); refine slice_on (n := 2) ?hg (N := 29) ?hd (cs := #[.int .u32 0, .int .u32 ((a1854) % 4294967296)]) (t := 33) ?hr ?_; (case hd => rfl); (case hg => rfl); (case hr => first | (go_simp; done) | (go_simp; rfl)); intro g2042 hg w2043 hbox hb; clear hc2041; replace HS : Aside0 (Sep (fps []) w [b9 g1855 a1848 a1849 a1850 a1851 a1852 a1853 a1854, r6 A2023 x2022.length n2025 x2022, b12 g2042 0 ((a1854) % 4294967296)] w2043) := ⟨HS.out.box hg hbox hb⟩; clear hg hbox hb) | ((with_reducible refine gate_dst (N := 30) rfl ?_); refine append_event (l1 := [b9 g1855 a1848 a1849 a1850 a1851 a1852 a1853 a1854]) (l2 := [b12 g2042 0 ((a1854) % 4294967296)]) rfl (.tmp 25) (.tmp 29) 69 33 (.int .u32 0) 4 rfl Tryd.underlying69 (by kernel_rfl) rfl (by decide) (Value.int .u32) (fun _ => rfl) (.slice A2023 x2022.length n2025) (x2022 : List Int) [0, (a1854) % 4294967296] ⟨g2042, 0, none⟩ 2 rfl rfl (blk_news (xs := [0, (a1854) % 4294967296]) (HS.out.at2)) HS.out (by have := of_decide_eq_true c2045b0; simp only [List.length_cons, List.length_nil]; omega) HA2050 ?_; intro A2046 n2047 w2048 HS1; replace HS : Aside0 (Sep (fps []) w [b9 g1855 a1848 a1849 a1850 a1851 a1852 a1853 a1854, r6 A2046 y2049.length n2047 y2049, b12 g2042 0 ((a1854) % 4294967296)] w2048) := ⟨HS1⟩; clear HS1) | ((with_reducible refine gate_dst (N := 31) rfl ?_); refine slice_on (n := 8) ?hg (N := 31) ?hd (cs := #[.int .i64 2, .int .i64 1, .int .i64 1, .int .i64 1, .int .i64 1, .int .i64 1, .int .i64 1, .int .i64 24]) (t := 3) ?hr ?_; (case hd => rfl); (case hg => rfl); (case hr => first | (go_simp; done) | (go_simp; rfl)); intro g2052 hg w2053 hbox hb; replace HS : Aside0 (Sep (fps []) w [b9 g1855 a1848 a1849 a1850 a1851 a1852 a1853 a1854, r6 A2046 y2049.length n2047 y2049, b12 g2042 0 ((a1854) % 4294967296), b13 g2052 2 1 1 1 1 1 1 24] w2053) := ⟨HS.out.box hg hbox hb⟩; clear hg hbox hb))
            obtain ⟨t2153, HA2154, H⟩ := bind_some H
            refine (pack_Join.calls _ y2049 [2, 1, 1, 1, 1, 1, 1, 24] A2046 n2047 (some ⟨g2052, 0, none⟩) 8 t2153 _ ⟨Rd.ownI (l := []) HS.out 1 rfl⟩ ⟨Rd.lit (l := []) (xs := [2, 1, 1, 1, 1, 1, 1, 24]) HS.out 3 rfl (by simp)⟩ ⟨HGl0.out.pass (l := []) HS.out⟩ ⟨Sep.start _⟩ HA2154).mono ?_
            rintro e_ w2155 ⟨rfl, hS⟩
            replace HS : Aside0 (Sep (fps []) w [b9 g1855 a1848 a1849 a1850 a1851 a1852 a1853 a1854, r6 A2046 y2049.length n2047 y2049, b12 g2042 0 ((a1854) % 4294967296), b13 g2052 2 1 1 1 1 1 1 24] w2155) := ⟨HS.out.call hS⟩
            clear hS
            replace HS : Aside0 (Sep (fps []) w [] w2155) := ⟨HS.out.sub (.cons _ (.cons _ (.cons _ (.cons _ .slnil))))⟩
            go_wp2_with fail
            go_ret2
            rw [← some_eq H]
            exact ⟨(by first | rfl | (simp [IntKind.wrap_u32]; done)), HS.out⟩
          · replace H := if_no c2045 H
            have c2045b0 : decide (x2022.length < 35184372088831) = false := decide_eq_false c2045
            clear c2045
            exact (none_no H).elim
  · replace H := if_no c2000 H
    have c2000b0 : t1997 = false := by simpa using c2000
    have c2000b1 : (!t1997) = true := by rw [c2000b0]; rfl
    try rw [c2000b1]
    clear c2000
    replace HS : Aside0 (Sep (fps []) w [] w1999) := ⟨HS.out.sub (.cons _ .slnil)⟩
    go_wp2_with fail
    go_ret2
    rw [← some_eq H]
    exact ⟨(by first | rfl | (simp [IntKind.wrap_u32]; done)), HS.out⟩

set_option maxHeartbeats 30000000 in
set_option maxRecDepth 100000 in
theorem ring_mark.calls (k : Nat) (l1816 : List Int) (a1821 : Int) (a1822 : Int) (a1823 : Int) (a1824 : Int) (a1825 : Int) (a1826 : Int) (a1827 : Int) (a1828 : Int) (a1829 : Int) (a1830 : Int) (a1831 : Int) (a1832 : Int) (a1833 : Int) (a1834 : Int) (g1812 : Nat) (g1814 : Nat) (A1817 : Option Addr) (m1818 : Nat) (n1819 : Nat) (r : Int × List Int) (w : World)  (HGl0 : Aside0 (Gl 0 #[.int .i64 0, .int .i64 0, .int .i64 0, .int .i64 0, .int .i64 0] (fps [b8 g1812 g1814 a1822 a1823 a1824 a1825, b7 g1814 A1817 m1818 n1819 a1821, r6 A1817 m1818 n1819 l1816]) w)) (HS : Aside0 (Sep (fps [b8 g1812 g1814 a1822 a1823 a1824 a1825, b7 g1814 A1817 m1818 n1819 a1821, r6 A1817 m1818 n1819 l1816]) w [b8 g1812 g1814 a1822 a1823 a1824 a1825, b7 g1814 A1817 m1818 n1819 a1821, r6 A1817 m1818 n1819 l1816] w)) (H : Aside0 (ring_mark.f k l1816 a1821 a1822 a1823 a1824 a1825 a1826 a1827 a1828 a1829 a1830 a1831 a1832 a1833 a1834 = some r)) :
    Calls Tryd.prog 80 #[.pointer (some ⟨g1812, 0, none⟩), .int .i64 a1826, .agg #[.int .i64 a1827, .int .i64 a1828, .int .i64 a1829, .int .i64 a1830, .int .i64 a1831, .int .i64 a1832, .int .i64 a1833], .int .i64 a1834] w fun e w' => e = .returned (.tuple #[]) ∧ Sep (fps [b8 g1812 g1814 a1822 a1823 a1824 a1825, b7 g1814 A1817 m1818 n1819 a1821, r6 A1817 m1818 n1819 l1816]) w [b8 g1812 g1814 a1822 a1823 a1824 a1825, b7 g1814 A1817 m1818 n1819 r.1, r6 A1817 m1818 n1819 r.2] w' := by
  generalize (fps [b8 g1812 g1814 a1822 a1823 a1824 a1825, b7 g1814 A1817 m1818 n1819 a1821, r6 A1817 m1818 n1819 l1816]) = FF at HS HGl0 ⊢
  obtain rfl := (row_len (HS.out.at2)).symm
  unfold ring_mark.f at H
  go_enter Tryd.func80, Tryd.ntmps80
  go_wp2_with (first | ((with_reducible refine gate_dst (N := 6) rfl ?_); refine box_on ?hg (N := 6) ?hd (cs := #[.int .i64 a1827, .int .i64 a1828, .int .i64 a1829, .int .i64 a1830, .int .i64 a1831, .int .i64 a1832, .int .i64 a1833]) (t := 32) ?hr ?_; (case hd => rfl); (case hg => rfl); (case hr => first | (go_simp; done) | (go_simp; rfl)); intro g2182 hg w2183 hbox hb; replace HS : Aside0 (Sep FF w [b8 g1812 g1814 a1822 a1823 a1824 a1825, b7 g1814 A1817 l1816.length n1819 a1821, r6 A1817 l1816.length n1819 l1816, b9 g2182 a1827 a1828 a1829 a1830 a1831 a1832 a1833] w2183) := ⟨HS.out.box hg hbox hb⟩; clear hg hbox hb; have hc2185 : w2183.cell? ⟨g2182, 5, none⟩ = some (.int .i64 a1832) := blk_cellv (HS.out.at3) 5 rfl; have hz2186 : w2183.frozen? ⟨g2182, 5, none⟩ = false := blk_fz (HS.out.at3) 5) | ((with_reducible refine gate_store (t := 3) (p := 11) rfl ?_); refine store_event (w1 := (World.setCell w2183 ⟨g2182, 5, none⟩ (.int .i64 a1834))) rfl (t := 3) (p := 11) rfl rfl ?hr ?_; (case hr => first | (go_simp; done) | (go_simp; rfl)); intro w2187 hst; clear hc2185 hz2186; have hq0 : Sep FF w [b8 g1812 g1814 a1822 a1823 a1824 a1825, b7 g1814 A1817 l1816.length n1819 a1821, r6 A1817 l1816.length n1819 l1816, b9 g2182 a1827 a1828 a1829 a1830 a1831 a1834 a1833] (World.setCell w2183 ⟨g2182, 5, none⟩ (.int .i64 a1834)) := (HS.out).set1 (l1 := [b8 g1812 g1814 a1822 a1823 a1824 a1825, b7 g1814 A1817 l1816.length n1819 a1821, r6 A1817 l1816.length n1819 l1816]) (l2 := []) 5 (.int .i64 a1834); replace HS : Aside0 (Sep FF w [b8 g1812 g1814 a1822 a1823 a1824 a1825, b7 g1814 A1817 l1816.length n1819 a1821, r6 A1817 l1816.length n1819 l1816, b9 g2182 a1827 a1828 a1829 a1830 a1831 a1834 a1833] w2187) := ⟨by rw [hst]; exact hq0⟩; clear hq0; clear hst; have hc2188 : w2187.cell? ⟨g2182, 0, none⟩ = some (.int .i64 a1827) := blk_cellv (HS.out.at3) 0 rfl; have hc2189 : w2187.cell? ⟨g2182, 1, none⟩ = some (.int .i64 a1828) := blk_cellv (HS.out.at3) 1 rfl; have hc2190 : w2187.cell? ⟨g2182, 2, none⟩ = some (.int .i64 a1829) := blk_cellv (HS.out.at3) 2 rfl; have hc2191 : w2187.cell? ⟨g2182, 3, none⟩ = some (.int .i64 a1830) := blk_cellv (HS.out.at3) 3 rfl; have hc2192 : w2187.cell? ⟨g2182, 4, none⟩ = some (.int .i64 a1831) := blk_cellv (HS.out.at3) 4 rfl; have hc2193 : w2187.cell? ⟨g2182, 5, none⟩ = some (.int .i64 a1834) := blk_cellv (HS.out.at3) 5 rfl; have hc2194 : w2187.cell? ⟨g2182, 6, none⟩ = some (.int .i64 a1833) := blk_cellv (HS.out.at3) 6 rfl))
  clear hc2188 hc2189 hc2190 hc2191 hc2192 hc2193 hc2194
  obtain ⟨t2195, HA2196, H⟩ := bind_some H
  refine (tag_Pack.calls _ a1827 a1828 a1829 a1830 a1831 a1834 a1833 t2195 _ ⟨HGl0.out.pass (l := []) HS.out⟩ ⟨Sep.start _⟩ HA2196).mono ?_
  rintro e_ w2197 ⟨rfl, hS⟩
  replace HS : Aside0 (Sep FF w [b8 g1812 g1814 a1822 a1823 a1824 a1825, b7 g1814 A1817 l1816.length n1819 a1821, r6 A1817 l1816.length n1819 l1816, b9 g2182 a1827 a1828 a1829 a1830 a1831 a1834 a1833] w2197) := ⟨HS.out.call hS⟩
  clear hS
  by_cases c2198 : t2195.2 = 0
  · replace H := if_yes c2198 H
    have c2198b0 : (t2195.2 == 0) = true := beq_iff_eq.mpr c2198
    have c2198b1 : (t2195.2 != 0) = false := bne_eq_false_iff_eq.mpr c2198
    clear c2198
    replace HS : Aside0 (Sep FF w [b8 g1812 g1814 a1822 a1823 a1824 a1825, b7 g1814 A1817 l1816.length n1819 a1821, r6 A1817 l1816.length n1819 l1816] w2197) := ⟨HS.out.sub (.cons_cons _ (.cons_cons _ (.cons_cons _ (.cons _ .slnil))))⟩
    go_wp2_with fail
    obtain ⟨t2199, HA2200, H⟩ := bind_some H
    refine (ground_Ground_SetWord.calls l1816 a1821 a1822 a1823 a1824 a1825 a1826 0 t2195.1 g1812 g1814 A1817 l1816.length n1819 t2199 _ ⟨HGl0.out.pass HS.out⟩ ⟨HS.out.begin⟩ HA2200).mono ?_
    rintro e_ w2201 ⟨rfl, hS⟩
    replace HS : Aside0 (Sep FF w [b8 g1812 g1814 a1822 a1823 a1824 a1825, b7 g1814 A1817 l1816.length n1819 t2199.2.1, r6 A1817 l1816.length n1819 t2199.2.2] w2201) := ⟨HS.out.call hS⟩
    clear hS
    go_wp2_with fail
    first | go_end0 | refine bodyPost_ret (results_none rfl _ _ _) rfl ?_
    rw [← some_eq H]
    exact ⟨rfl, HS.out⟩
  · replace H := if_no c2198 H
    have c2198b0 : (t2195.2 == 0) = false := beq_eq_false_iff_ne.mpr c2198
    have c2198b1 : (t2195.2 != 0) = true := bne_iff_ne.mpr c2198
    clear c2198
    replace HS : Aside0 (Sep FF w [b8 g1812 g1814 a1822 a1823 a1824 a1825, b7 g1814 A1817 l1816.length n1819 a1821, r6 A1817 l1816.length n1819 l1816] w2197) := ⟨HS.out.sub (.cons_cons _ (.cons_cons _ (.cons_cons _ (.cons _ .slnil))))⟩
    go_wp2_with fail
    first | go_end0 | refine bodyPost_ret (results_none rfl _ _ _) rfl ?_
    rw [← some_eq H]
    exact ⟨rfl, HS.out⟩

set_option maxHeartbeats 30000000 in
set_option maxRecDepth 100000 in
theorem ground_reg.calls (a2224 : Int) (r : Int) (w : World)  (HGl0 : Aside0 (Gl 0 #[.int .i64 0, .int .i64 0, .int .i64 0, .int .i64 0, .int .i64 0] (fps []) w)) (HS : Aside0 (Sep (fps []) w [] w)) (H : Aside0 (ground_reg.f a2224 = some r)) :
    Calls Tryd.prog 131 #[.int .i64 a2224] w fun e w' => e = .returned (.int .i64 r) ∧ Sep (fps []) w [] w' := by
  unfold ground_reg.f at H
  go_enter Tryd.func131, Tryd.ntmps131
  go_wp2_with fail
  obtain ⟨t2225, HA2226, H⟩ := bind_some H
  refine (ground_within.calls a2224 24 0 t2225 _ ⟨HGl0.out.pass (l := []) HS.out⟩ ⟨Sep.start _⟩ HA2226).mono ?_
  rintro e_ w2227 ⟨rfl, hS⟩
  replace HS : Aside0 (Sep (fps []) w [] w2227) := ⟨HS.out.call hS⟩
  clear hS
  go_wp2_with fail
  go_ret
  rw [← some_eq H]
  exact ⟨(by first | rfl | (simp [IntKind.wrap_u32]; done)), HS.out⟩

set_option maxHeartbeats 30000000 in
set_option maxRecDepth 100000 in
theorem ground_Ground_Reg.calls (l2210 : List Int) (a2215 : Int) (a2216 : Int) (a2217 : Int) (a2218 : Int) (a2219 : Int) (a2220 : Int) (g2206 : Nat) (g2208 : Nat) (A2211 : Option Addr) (m2212 : Nat) (n2213 : Nat) (r : Int × Int) (w : World)  (HGl0 : Aside0 (Gl 0 #[.int .i64 0, .int .i64 0, .int .i64 0, .int .i64 0, .int .i64 0] (fps [b8 g2206 g2208 a2216 a2217 a2218 a2219, b7 g2208 A2211 m2212 n2213 a2215, r6 A2211 m2212 n2213 l2210]) w)) (HS : Aside0 (Sep (fps [b8 g2206 g2208 a2216 a2217 a2218 a2219, b7 g2208 A2211 m2212 n2213 a2215, r6 A2211 m2212 n2213 l2210]) w [b8 g2206 g2208 a2216 a2217 a2218 a2219, b7 g2208 A2211 m2212 n2213 a2215, r6 A2211 m2212 n2213 l2210] w)) (H : Aside0 (ground_Ground_Reg.f l2210 a2215 a2216 a2217 a2218 a2219 a2220 = some r)) :
    Calls Tryd.prog 81 #[.pointer (some ⟨g2206, 0, none⟩), .int .i64 a2220] w fun e w' => e = .returned (.int .i64 r.1) ∧ Sep (fps [b8 g2206 g2208 a2216 a2217 a2218 a2219, b7 g2208 A2211 m2212 n2213 a2215, r6 A2211 m2212 n2213 l2210]) w [b8 g2206 g2208 a2216 a2217 a2218 a2219, b7 g2208 A2211 m2212 n2213 r.2, r6 A2211 m2212 n2213 l2210] w' := by
  generalize (fps [b8 g2206 g2208 a2216 a2217 a2218 a2219, b7 g2208 A2211 m2212 n2213 a2215, r6 A2211 m2212 n2213 l2210]) = FF at HS HGl0 ⊢
  obtain rfl := (row_len (HS.out.at2)).symm
  unfold ground_Ground_Reg.f at H
  go_enter Tryd.func81, Tryd.ntmps81
  go_wp2_with fail
  obtain ⟨t2234, HA2235, H⟩ := bind_some H
  refine (ground_Ground_all.calls l2210 a2215 a2216 a2217 a2218 a2219 g2206 g2208 A2211 l2210.length n2213 t2234 _ ⟨HGl0.out.pass HS.out⟩ ⟨HS.out.begin⟩ HA2235).mono ?_
  rintro e_ w2236 ⟨rfl, hS⟩
  replace HS : Aside0 (Sep FF w [b8 g2206 g2208 a2216 a2217 a2218 a2219, b7 g2208 A2211 l2210.length n2213 a2215, r6 A2211 l2210.length n2213 l2210] w2236) := ⟨HS.out.call hS⟩
  clear hS
  go_wp2_with fail
  obtain ⟨t2237, HA2238, H⟩ := bind_some H
  refine (ground_reg.calls a2220 t2237 _ ⟨HGl0.out.pass (l := []) HS.out⟩ ⟨Sep.start _⟩ HA2238).mono ?_
  rintro e_ w2239 ⟨rfl, hS⟩
  replace HS : Aside0 (Sep FF w [b8 g2206 g2208 a2216 a2217 a2218 a2219, b7 g2208 A2211 l2210.length n2213 a2215, r6 A2211 l2210.length n2213 l2210] w2239) := ⟨HS.out.call hS⟩
  clear hS
  go_wp2_with fail
  replace HS : Aside0 (Sep FF w [r6 A2211 l2210.length n2213 l2210, b8 g2206 g2208 a2216 a2217 a2218 a2219, b7 g2208 A2211 l2210.length n2213 a2215] w2239) := ⟨HS.out.front 2 (by simp)⟩
  replace HS : Aside0 (Sep FF w [b7 g2208 A2211 l2210.length n2213 a2215, r6 A2211 l2210.length n2213 l2210, b8 g2206 g2208 a2216 a2217 a2218 a2219] w2239) := ⟨HS.out.front 2 (by simp)⟩
  obtain ⟨t2240, HA2241, H⟩ := bind_some H
  refine (store_Store_Get.calls l2210 a2215 t2237 g2208 A2211 l2210.length n2213 t2240 _ ⟨HGl0.out.pass HS.out⟩ ⟨HS.out.begin⟩ HA2241).mono ?_
  rintro e_ w2242 ⟨rfl, hS⟩
  replace HS : Aside0 (Sep FF w [b7 g2208 A2211 l2210.length n2213 t2240.2, r6 A2211 l2210.length n2213 l2210, b8 g2206 g2208 a2216 a2217 a2218 a2219] w2242) := ⟨HS.out.call hS⟩
  clear hS
  go_wp2_with fail
  go_ret
  rw [← some_eq H]
  exact ⟨(by first | rfl | (simp [IntKind.wrap_u32]; done)), ((((HS.out).front 1 (by simp)).front 1 (by simp)).front 2 (by simp)).keep (l := [b8 g2206 g2208 a2216 a2217 a2218 a2219, b7 g2208 A2211 l2210.length n2213 t2240.2, r6 A2211 l2210.length n2213 l2210]) (rest := [])⟩

set_option maxHeartbeats 30000000 in
set_option maxRecDepth 100000 in
theorem ground_Ground_set.calls (l2297 : List Int) (a2302 : Int) (a2303 : Int) (a2304 : Int) (a2305 : Int) (a2306 : Int) (a2307 : Int) (a2308 : Int) (g2293 : Nat) (g2295 : Nat) (A2298 : Option Addr) (m2299 : Nat) (n2300 : Nat) (r : Bool × Int × List Int) (w : World)  (HGl0 : Aside0 (Gl 0 #[.int .i64 0, .int .i64 0, .int .i64 0, .int .i64 0, .int .i64 0] (fps [b8 g2293 g2295 a2303 a2304 a2305 a2306, b7 g2295 A2298 m2299 n2300 a2302, r6 A2298 m2299 n2300 l2297]) w)) (HS : Aside0 (Sep (fps [b8 g2293 g2295 a2303 a2304 a2305 a2306, b7 g2295 A2298 m2299 n2300 a2302, r6 A2298 m2299 n2300 l2297]) w [b8 g2293 g2295 a2303 a2304 a2305 a2306, b7 g2295 A2298 m2299 n2300 a2302, r6 A2298 m2299 n2300 l2297] w)) (H : Aside0 (ground_Ground_set.f l2297 a2302 a2303 a2304 a2305 a2306 a2307 a2308 = some r)) :
    Calls Tryd.prog 132 #[.pointer (some ⟨g2293, 0, none⟩), .int .i64 a2307, .int .i64 a2308] w fun e w' => e = .returned (.bool r.1) ∧ Sep (fps [b8 g2293 g2295 a2303 a2304 a2305 a2306, b7 g2295 A2298 m2299 n2300 a2302, r6 A2298 m2299 n2300 l2297]) w [b8 g2293 g2295 a2303 a2304 a2305 a2306, b7 g2295 A2298 m2299 n2300 r.2.1, r6 A2298 m2299 n2300 r.2.2] w' := by
  generalize (fps [b8 g2293 g2295 a2303 a2304 a2305 a2306, b7 g2295 A2298 m2299 n2300 a2302, r6 A2298 m2299 n2300 l2297]) = FF at HS HGl0 ⊢
  obtain rfl := (row_len (HS.out.at2)).symm
  unfold ground_Ground_set.f at H
  go_enter Tryd.func132, Tryd.ntmps132
  by_cases c2317 : a2308 < 0
  · replace H := if_yes c2317 H
    have c2317b0 : decide (a2308 < 0) = true := decide_eq_true c2317
    clear c2317
    go_wp2_with fail
    go_ret
    rw [← some_eq H]
    exact ⟨(by first | rfl | (simp [IntKind.wrap_u32]; done)), HS.out⟩
  · replace H := if_no c2317 H
    have c2317b0 : decide (a2308 < 0) = false := decide_eq_false c2317
    clear c2317
    by_cases c2318 : a2308 > 4294967295
    · replace H := if_yes c2318 H
      have c2318b0 : decide (4294967295 < a2308) = true := decide_eq_true c2318
      clear c2318
      go_wp2_with fail
      go_ret
      rw [← some_eq H]
      exact ⟨(by first | rfl | (simp [IntKind.wrap_u32]; done)), HS.out⟩
    · replace H := if_no c2318 H
      have c2318b0 : decide (4294967295 < a2308) = false := decide_eq_false c2318
      clear c2318
      go_wp2_with fail
      obtain ⟨t2319, HA2320, H⟩ := bind_some H
      refine (ground_Ground_all.calls l2297 a2302 a2303 a2304 a2305 a2306 g2293 g2295 A2298 l2297.length n2300 t2319 _ ⟨HGl0.out.pass HS.out⟩ ⟨HS.out.begin⟩ HA2320).mono ?_
      rintro e_ w2321 ⟨rfl, hS⟩
      replace HS : Aside0 (Sep FF w [b8 g2293 g2295 a2303 a2304 a2305 a2306, b7 g2295 A2298 l2297.length n2300 a2302, r6 A2298 l2297.length n2300 l2297] w2321) := ⟨HS.out.call hS⟩
      clear hS
      go_wp2_with fail
      replace HS : Aside0 (Sep FF w [r6 A2298 l2297.length n2300 l2297, b8 g2293 g2295 a2303 a2304 a2305 a2306, b7 g2295 A2298 l2297.length n2300 a2302] w2321) := ⟨HS.out.front 2 (by simp)⟩
      replace HS : Aside0 (Sep FF w [b7 g2295 A2298 l2297.length n2300 a2302, r6 A2298 l2297.length n2300 l2297, b8 g2293 g2295 a2303 a2304 a2305 a2306] w2321) := ⟨HS.out.front 2 (by simp)⟩
      obtain ⟨t2322, HA2323, H⟩ := bind_some H
      refine (store_Store_Put.calls l2297 a2302 a2307 ((a2308) % 4294967296) g2295 A2298 l2297.length n2300 t2322 _ ⟨HGl0.out.pass HS.out⟩ ⟨HS.out.begin⟩ HA2323).mono ?_
      rintro e_ w2324 ⟨rfl, hS⟩
      replace HS : Aside0 (Sep FF w [b7 g2295 A2298 l2297.length n2300 t2322.2.1, r6 A2298 l2297.length n2300 t2322.2.2, b8 g2293 g2295 a2303 a2304 a2305 a2306] w2324) := ⟨HS.out.call hS⟩
      clear hS
      go_wp2_with fail
      go_ret
      rw [← some_eq H]
      exact ⟨(by first | rfl | (simp [IntKind.wrap_u32]; done)), ((((HS.out).front 1 (by simp)).front 1 (by simp)).front 2 (by simp)).keep (l := [b8 g2293 g2295 a2303 a2304 a2305 a2306, b7 g2295 A2298 l2297.length n2300 t2322.2.1, r6 A2298 l2297.length n2300 t2322.2.2]) (rest := [])⟩

set_option maxHeartbeats 30000000 in
set_option maxRecDepth 100000 in
theorem ground_Ground_SetReg.calls (l2277 : List Int) (a2282 : Int) (a2283 : Int) (a2284 : Int) (a2285 : Int) (a2286 : Int) (a2287 : Int) (a2288 : Int) (g2273 : Nat) (g2275 : Nat) (A2278 : Option Addr) (m2279 : Nat) (n2280 : Nat) (r : Bool × Int × List Int) (w : World)  (HGl0 : Aside0 (Gl 0 #[.int .i64 0, .int .i64 0, .int .i64 0, .int .i64 0, .int .i64 0] (fps [b8 g2273 g2275 a2283 a2284 a2285 a2286, b7 g2275 A2278 m2279 n2280 a2282, r6 A2278 m2279 n2280 l2277]) w)) (HS : Aside0 (Sep (fps [b8 g2273 g2275 a2283 a2284 a2285 a2286, b7 g2275 A2278 m2279 n2280 a2282, r6 A2278 m2279 n2280 l2277]) w [b8 g2273 g2275 a2283 a2284 a2285 a2286, b7 g2275 A2278 m2279 n2280 a2282, r6 A2278 m2279 n2280 l2277] w)) (H : Aside0 (ground_Ground_SetReg.f l2277 a2282 a2283 a2284 a2285 a2286 a2287 a2288 = some r)) :
    Calls Tryd.prog 83 #[.pointer (some ⟨g2273, 0, none⟩), .int .i64 a2287, .int .i64 a2288] w fun e w' => e = .returned (.bool r.1) ∧ Sep (fps [b8 g2273 g2275 a2283 a2284 a2285 a2286, b7 g2275 A2278 m2279 n2280 a2282, r6 A2278 m2279 n2280 l2277]) w [b8 g2273 g2275 a2283 a2284 a2285 a2286, b7 g2275 A2278 m2279 n2280 r.2.1, r6 A2278 m2279 n2280 r.2.2] w' := by
  generalize (fps [b8 g2273 g2275 a2283 a2284 a2285 a2286, b7 g2275 A2278 m2279 n2280 a2282, r6 A2278 m2279 n2280 l2277]) = FF at HS HGl0 ⊢
  obtain rfl := (row_len (HS.out.at2)).symm
  unfold ground_Ground_SetReg.f at H
  go_enter Tryd.func83, Tryd.ntmps83
  go_wp2_with fail
  obtain ⟨t2328, HA2329, H⟩ := bind_some H
  refine (ground_reg.calls a2287 t2328 _ ⟨HGl0.out.pass (l := []) HS.out⟩ ⟨Sep.start _⟩ HA2329).mono ?_
  rintro e_ w2330 ⟨rfl, hS⟩
  replace HS : Aside0 (Sep FF w [b8 g2273 g2275 a2283 a2284 a2285 a2286, b7 g2275 A2278 l2277.length n2280 a2282, r6 A2278 l2277.length n2280 l2277] w2330) := ⟨HS.out.call hS⟩
  clear hS
  go_wp2_with fail
  obtain ⟨t2331, HA2332, H⟩ := bind_some H
  refine (ground_Ground_set.calls l2277 a2282 a2283 a2284 a2285 a2286 t2328 a2288 g2273 g2275 A2278 l2277.length n2280 t2331 _ ⟨HGl0.out.pass HS.out⟩ ⟨HS.out.begin⟩ HA2332).mono ?_
  rintro e_ w2333 ⟨rfl, hS⟩
  replace HS : Aside0 (Sep FF w [b8 g2273 g2275 a2283 a2284 a2285 a2286, b7 g2275 A2278 l2277.length n2280 t2331.2.1, r6 A2278 l2277.length n2280 t2331.2.2] w2333) := ⟨HS.out.call hS⟩
  clear hS
  go_wp2_with fail
  go_ret
  rw [← some_eq H]
  exact ⟨(by first | rfl | (simp [IntKind.wrap_u32]; done)), HS.out⟩

set_option maxHeartbeats 30000000 in
set_option maxRecDepth 100000 in
theorem ring_link.calls (l2257 : List Int) (a2262 : Int) (a2263 : Int) (a2264 : Int) (a2265 : Int) (a2266 : Int) (a2267 : Int) (a2268 : Int) (a2269 : Int) (a2270 : Int) (g2253 : Nat) (g2255 : Nat) (A2258 : Option Addr) (m2259 : Nat) (n2260 : Nat) (r : Int × List Int) (w : World)  (HGl0 : Aside0 (Gl 0 #[.int .i64 0, .int .i64 0, .int .i64 0, .int .i64 0, .int .i64 0] (fps [b8 g2253 g2255 a2263 a2264 a2265 a2266, b7 g2255 A2258 m2259 n2260 a2262, r6 A2258 m2259 n2260 l2257]) w)) (HS : Aside0 (Sep (fps [b8 g2253 g2255 a2263 a2264 a2265 a2266, b7 g2255 A2258 m2259 n2260 a2262, r6 A2258 m2259 n2260 l2257]) w [b8 g2253 g2255 a2263 a2264 a2265 a2266, b7 g2255 A2258 m2259 n2260 a2262, r6 A2258 m2259 n2260 l2257] w)) (H : Aside0 (ring_link.f l2257 a2262 a2263 a2264 a2265 a2266 a2267 a2268 a2269 a2270 = some r)) :
    Calls Tryd.prog 82 #[.pointer (some ⟨g2253, 0, none⟩), .int .i64 a2267, .int .i64 a2268, .int .i64 a2269, .int .i64 a2270] w fun e w' => e = .returned (.tuple #[]) ∧ Sep (fps [b8 g2253 g2255 a2263 a2264 a2265 a2266, b7 g2255 A2258 m2259 n2260 a2262, r6 A2258 m2259 n2260 l2257]) w [b8 g2253 g2255 a2263 a2264 a2265 a2266, b7 g2255 A2258 m2259 n2260 r.1, r6 A2258 m2259 n2260 r.2] w' := by
  generalize (fps [b8 g2253 g2255 a2263 a2264 a2265 a2266, b7 g2255 A2258 m2259 n2260 a2262, r6 A2258 m2259 n2260 l2257]) = FF at HS HGl0 ⊢
  obtain rfl := (row_len (HS.out.at2)).symm
  unfold ring_link.f at H
  go_enter Tryd.func82, Tryd.ntmps82
  by_cases c2337 : a2267 = 0
  · replace H := if_yes c2337 H
    have c2337b0 : (a2267 == 0) = true := beq_iff_eq.mpr c2337
    have c2337b1 : (a2267 != 0) = false := bne_eq_false_iff_eq.mpr c2337
    clear c2337
    go_wp2_with fail
    obtain ⟨t2338, HA2339, H⟩ := bind_some H
    refine (ground_Ground_SetReg.calls l2257 a2262 a2263 a2264 a2265 a2266 a2269 a2270 g2253 g2255 A2258 l2257.length n2260 t2338 _ ⟨HGl0.out.pass HS.out⟩ ⟨HS.out.begin⟩ HA2339).mono ?_
    rintro e_ w2340 ⟨rfl, hS⟩
    replace HS : Aside0 (Sep FF w [b8 g2253 g2255 a2263 a2264 a2265 a2266, b7 g2255 A2258 l2257.length n2260 t2338.2.1, r6 A2258 l2257.length n2260 t2338.2.2] w2340) := ⟨HS.out.call hS⟩
    clear hS
    go_wp2_with fail
    first | go_end0 | refine bodyPost_ret (results_none rfl _ _ _) rfl ?_
    rw [← some_eq H]
    exact ⟨rfl, HS.out⟩
  · replace H := if_no c2337 H
    have c2337b0 : (a2267 == 0) = false := beq_eq_false_iff_ne.mpr c2337
    have c2337b1 : (a2267 != 0) = true := bne_iff_ne.mpr c2337
    clear c2337
    go_wp2_with fail
    obtain ⟨t2341, HA2342, H⟩ := bind_some H
    refine (ground_Ground_SetWord.calls l2257 a2262 a2263 a2264 a2265 a2266 (wrap64 (a2267 - 1)) a2268 ((a2270) % 4294967296) g2253 g2255 A2258 l2257.length n2260 t2341 _ ⟨HGl0.out.pass HS.out⟩ ⟨HS.out.begin⟩ HA2342).mono ?_
    rintro e_ w2343 ⟨rfl, hS⟩
    replace HS : Aside0 (Sep FF w [b8 g2253 g2255 a2263 a2264 a2265 a2266, b7 g2255 A2258 l2257.length n2260 t2341.2.1, r6 A2258 l2257.length n2260 t2341.2.2] w2343) := ⟨HS.out.call hS⟩
    clear hS
    go_wp2_with fail
    first | go_end0 | refine bodyPost_ret (results_none rfl _ _ _) rfl ?_
    rw [← some_eq H]
    exact ⟨rfl, HS.out⟩

set_option maxHeartbeats 30000000 in
set_option maxRecDepth 100000 in
theorem ring_Add.calls (k : Nat) (l1355 : List Int) (a1360 : Int) (a1361 : Int) (a1362 : Int) (a1363 : Int) (a1364 : Int) (a1365 : Int) (g1351 : Nat) (g1353 : Nat) (A1356 : Option Addr) (m1357 : Nat) (n1358 : Nat) (r : Bool × Int × List Int) (w : World)  (HGl0 : Aside0 (Gl 0 #[.int .i64 0, .int .i64 0, .int .i64 0, .int .i64 0, .int .i64 0] (fps [b8 g1351 g1353 a1361 a1362 a1363 a1364, b7 g1353 A1356 m1357 n1358 a1360, r6 A1356 m1357 n1358 l1355]) w)) (HS : Aside0 (Sep (fps [b8 g1351 g1353 a1361 a1362 a1363 a1364, b7 g1353 A1356 m1357 n1358 a1360, r6 A1356 m1357 n1358 l1355]) w [b8 g1351 g1353 a1361 a1362 a1363 a1364, b7 g1353 A1356 m1357 n1358 a1360, r6 A1356 m1357 n1358 l1355] w)) (H : Aside0 (ring_Add.f k l1355 a1360 a1361 a1362 a1363 a1364 a1365 = some r)) :
    Calls Tryd.prog 23 #[.pointer (some ⟨g1351, 0, none⟩), .int .i64 a1365] w fun e w' => e = .returned (.bool r.1) ∧ Sep (fps [b8 g1351 g1353 a1361 a1362 a1363 a1364, b7 g1353 A1356 m1357 n1358 a1360, r6 A1356 m1357 n1358 l1355]) w [b8 g1351 g1353 a1361 a1362 a1363 a1364, b7 g1353 A1356 m1357 n1358 r.2.1, r6 A1356 m1357 n1358 r.2.2] w' := by
  generalize (fps [b8 g1351 g1353 a1361 a1362 a1363 a1364, b7 g1353 A1356 m1357 n1358 a1360, r6 A1356 m1357 n1358 l1355]) = FF at HS HGl0 ⊢
  obtain rfl := (row_len (HS.out.at2)).symm
  unfold ring_Add.f at H
  go_enter Tryd.func23, Tryd.ntmps23
  go_wp2_with fail
  obtain ⟨t2356, HA2357, H⟩ := bind_some H
  refine (ring_marked.calls l1355 a1360 a1361 a1362 a1363 a1364 a1365 0 g1351 g1353 A1356 l1355.length n1358 t2356 _ ⟨HGl0.out.pass HS.out⟩ ⟨HS.out.begin⟩ HA2357).mono ?_
  rintro e_ w2358 ⟨rfl, hS⟩
  replace HS : Aside0 (Sep FF w [b8 g1351 g1353 a1361 a1362 a1363 a1364, b7 g1353 A1356 l1355.length n1358 t2356.2.2.2.2.2.2.2.2, r6 A1356 l1355.length n1358 l1355] w2358) := ⟨HS.out.call hS⟩
  clear hS
  by_cases c2377 : t2356.2.2.2.2.2.2.2.1 = true
  · replace H := if_yes c2377 H
    have c2377b0 : t2356.2.2.2.2.2.2.2.1 = true := c2377
    have c2377b1 : (!t2356.2.2.2.2.2.2.2.1) = false := by rw [c2377b0]; rfl
    try rw [c2377b1]
    clear c2377
    go_wp2_with (first | ((with_reducible refine gate_dst (N := 5) rfl ?_); refine box_on ?hg (N := 5) ?hd (cs := #[.int .i64 0, .int .i64 0, .int .i64 0, .int .i64 0, .int .i64 0, .int .i64 0, .int .i64 0]) (t := 32) ?hr ?_; (case hd => rfl); (case hg => rfl); (case hr => first | (go_simp; done) | (go_simp; rfl)); intro g2359 hg w2360 hbox hb; replace HS : Aside0 (Sep FF w [b8 g1351 g1353 a1361 a1362 a1363 a1364, b7 g1353 A1356 l1355.length n1358 t2356.2.2.2.2.2.2.2.2, r6 A1356 l1355.length n1358 l1355, b9 g2359 0 0 0 0 0 0 0] w2360) := ⟨HS.out.box hg hbox hb⟩; clear hg hbox hb; have hc2362 : w2360.cell? ⟨g2359, 0, none⟩ = some (.int .i64 0) := blk_cellv (HS.out.at3) 0 rfl; have hz2363 : w2360.frozen? ⟨g2359, 0, none⟩ = false := blk_fz (HS.out.at3) 0; have hc2364 : w2360.cell? ⟨g2359, 1, none⟩ = some (.int .i64 0) := blk_cellv (HS.out.at3) 1 rfl; have hz2365 : w2360.frozen? ⟨g2359, 1, none⟩ = false := blk_fz (HS.out.at3) 1; have hc2366 : w2360.cell? ⟨g2359, 2, none⟩ = some (.int .i64 0) := blk_cellv (HS.out.at3) 2 rfl; have hz2367 : w2360.frozen? ⟨g2359, 2, none⟩ = false := blk_fz (HS.out.at3) 2; have hc2368 : w2360.cell? ⟨g2359, 3, none⟩ = some (.int .i64 0) := blk_cellv (HS.out.at3) 3 rfl; have hz2369 : w2360.frozen? ⟨g2359, 3, none⟩ = false := blk_fz (HS.out.at3) 3; have hc2370 : w2360.cell? ⟨g2359, 4, none⟩ = some (.int .i64 0) := blk_cellv (HS.out.at3) 4 rfl; have hz2371 : w2360.frozen? ⟨g2359, 4, none⟩ = false := blk_fz (HS.out.at3) 4; have hc2372 : w2360.cell? ⟨g2359, 5, none⟩ = some (.int .i64 0) := blk_cellv (HS.out.at3) 5 rfl; have hz2373 : w2360.frozen? ⟨g2359, 5, none⟩ = false := blk_fz (HS.out.at3) 5; have hc2374 : w2360.cell? ⟨g2359, 6, none⟩ = some (.int .i64 0) := blk_cellv (HS.out.at3) 6 rfl; have hz2375 : w2360.frozen? ⟨g2359, 6, none⟩ = false := blk_fz (HS.out.at3) 6) | ((with_reducible refine gate_store (t := 32) (p := 5) rfl ?_); refine store_event (w1 := (World.setCell (World.setCell (World.setCell (World.setCell (World.setCell (World.setCell (World.setCell w2360 ⟨g2359, 0, none⟩ (.int .i64 t2356.1)) ⟨g2359, 1, none⟩ (.int .i64 t2356.2.1)) ⟨g2359, 2, none⟩ (.int .i64 t2356.2.2.1)) ⟨g2359, 3, none⟩ (.int .i64 t2356.2.2.2.1)) ⟨g2359, 4, none⟩ (.int .i64 t2356.2.2.2.2.1)) ⟨g2359, 5, none⟩ (.int .i64 t2356.2.2.2.2.2.1)) ⟨g2359, 6, none⟩ (.int .i64 t2356.2.2.2.2.2.2.1))) rfl (t := 32) (p := 5) rfl rfl ?hr ?_; (case hr => first | (go_simp; done) | (go_simp; rfl)); intro w2376 hst; clear hc2362 hz2363 hc2364 hz2365 hc2366 hz2367 hc2368 hz2369 hc2370 hz2371 hc2372 hz2373 hc2374 hz2375; replace HS : Aside0 (Sep FF w [b8 g1351 g1353 a1361 a1362 a1363 a1364, b7 g1353 A1356 l1355.length n1358 t2356.2.2.2.2.2.2.2.2, r6 A1356 l1355.length n1358 l1355, b9 g2359 t2356.1 t2356.2.1 t2356.2.2.1 t2356.2.2.2.1 t2356.2.2.2.2.1 t2356.2.2.2.2.2.1 t2356.2.2.2.2.2.2.1] w2376) := ⟨by rw [hst]; exact HS.out.setAll (l1 := [b8 g1351 g1353 a1361 a1362 a1363 a1364, b7 g1353 A1356 l1355.length n1358 t2356.2.2.2.2.2.2.2.2, r6 A1356 l1355.length n1358 l1355]) (l2 := []) [.int .i64 t2356.1, .int .i64 t2356.2.1, .int .i64 t2356.2.2.1, .int .i64 t2356.2.2.2.1, .int .i64 t2356.2.2.2.2.1, .int .i64 t2356.2.2.2.2.2.1, .int .i64 t2356.2.2.2.2.2.2.1] rfl⟩; clear hst; have hc2378 : w2376.cell? ⟨g2359, 0, none⟩ = some (.int .i64 t2356.1) := blk_cellv (HS.out.at3) 0 rfl; have hc2379 : w2376.cell? ⟨g2359, 1, none⟩ = some (.int .i64 t2356.2.1) := blk_cellv (HS.out.at3) 1 rfl; have hc2380 : w2376.cell? ⟨g2359, 2, none⟩ = some (.int .i64 t2356.2.2.1) := blk_cellv (HS.out.at3) 2 rfl; have hc2381 : w2376.cell? ⟨g2359, 3, none⟩ = some (.int .i64 t2356.2.2.2.1) := blk_cellv (HS.out.at3) 3 rfl; have hc2382 : w2376.cell? ⟨g2359, 4, none⟩ = some (.int .i64 t2356.2.2.2.2.1) := blk_cellv (HS.out.at3) 4 rfl; have hc2383 : w2376.cell? ⟨g2359, 5, none⟩ = some (.int .i64 t2356.2.2.2.2.2.1) := blk_cellv (HS.out.at3) 5 rfl; have hc2384 : w2376.cell? ⟨g2359, 6, none⟩ = some (.int .i64 t2356.2.2.2.2.2.2.1) := blk_cellv (HS.out.at3) 6 rfl))
    clear hc2378 hc2379 hc2380 hc2381 hc2382 hc2383 hc2384
    obtain ⟨t2385, HA2386, H⟩ := bind_some H
    refine (ring_mark.calls _ l1355 t2356.2.2.2.2.2.2.2.2 a1361 a1362 a1363 a1364 a1365 t2356.1 t2356.2.1 t2356.2.2.1 t2356.2.2.2.1 t2356.2.2.2.2.1 t2356.2.2.2.2.2.1 t2356.2.2.2.2.2.2.1 1 g1351 g1353 A1356 l1355.length n1358 t2385 _ ⟨HGl0.out.pass HS.out⟩ ⟨HS.out.begin⟩ HA2386).mono ?_
    rintro e_ w2387 ⟨rfl, hS⟩
    replace HS : Aside0 (Sep FF w [b8 g1351 g1353 a1361 a1362 a1363 a1364, b7 g1353 A1356 l1355.length n1358 t2385.1, r6 A1356 l1355.length n1358 t2385.2, b9 g2359 t2356.1 t2356.2.1 t2356.2.2.1 t2356.2.2.2.1 t2356.2.2.2.2.1 t2356.2.2.2.2.2.1 t2356.2.2.2.2.2.2.1] w2387) := ⟨HS.out.call hS⟩
    clear hS
    replace HS : Aside0 (Sep FF w [b8 g1351 g1353 a1361 a1362 a1363 a1364, b7 g1353 A1356 l1355.length n1358 t2385.1, r6 A1356 l1355.length n1358 t2385.2] w2387) := ⟨HS.out.sub (.cons_cons _ (.cons_cons _ (.cons_cons _ (.cons _ .slnil))))⟩
    go_wp2_with fail
    obtain ⟨t2388, HA2389, H⟩ := bind_some H
    refine (ground_Ground_Reg.calls t2385.2 t2385.1 a1361 a1362 a1363 a1364 8 g1351 g1353 A1356 l1355.length n1358 t2388 _ ⟨HGl0.out.pass HS.out⟩ ⟨HS.out.begin⟩ HA2389).mono ?_
    rintro e_ w2390 ⟨rfl, hS⟩
    replace HS : Aside0 (Sep FF w [b8 g1351 g1353 a1361 a1362 a1363 a1364, b7 g1353 A1356 l1355.length n1358 t2388.2, r6 A1356 l1355.length n1358 t2385.2] w2390) := ⟨HS.out.call hS⟩
    clear hS
    go_wp2_with fail
    obtain ⟨t2391, HA2392, H⟩ := bind_some H
    refine (ground_Ground_SetWord.calls t2385.2 t2388.2 a1361 a1362 a1363 a1364 a1365 6 ((t2388.1) % 4294967296) g1351 g1353 A1356 l1355.length n1358 t2391 _ ⟨HGl0.out.pass HS.out⟩ ⟨HS.out.begin⟩ HA2392).mono ?_
    rintro e_ w2393 ⟨rfl, hS⟩
    replace HS : Aside0 (Sep FF w [b8 g1351 g1353 a1361 a1362 a1363 a1364, b7 g1353 A1356 l1355.length n1358 t2391.2.1, r6 A1356 l1355.length n1358 t2391.2.2] w2393) := ⟨HS.out.call hS⟩
    clear hS
    go_wp2_with fail
    obtain ⟨t2394, HA2395, H⟩ := bind_some H
    refine (ground_Ground_SetWord.calls t2391.2.2 t2391.2.1 a1361 a1362 a1363 a1364 a1365 7 0 g1351 g1353 A1356 l1355.length n1358 t2394 _ ⟨HGl0.out.pass HS.out⟩ ⟨HS.out.begin⟩ HA2395).mono ?_
    rintro e_ w2396 ⟨rfl, hS⟩
    replace HS : Aside0 (Sep FF w [b8 g1351 g1353 a1361 a1362 a1363 a1364, b7 g1353 A1356 l1355.length n1358 t2394.2.1, r6 A1356 l1355.length n1358 t2394.2.2] w2396) := ⟨HS.out.call hS⟩
    clear hS
    go_wp2_with fail
    obtain ⟨t2397, HA2398, H⟩ := bind_some H
    refine (ring_link.calls t2394.2.2 t2394.2.1 a1361 a1362 a1363 a1364 t2388.1 7 7 (wrap64 (a1365 + 1)) g1351 g1353 A1356 l1355.length n1358 t2397 _ ⟨HGl0.out.pass HS.out⟩ ⟨HS.out.begin⟩ HA2398).mono ?_
    rintro e_ w2399 ⟨rfl, hS⟩
    replace HS : Aside0 (Sep FF w [b8 g1351 g1353 a1361 a1362 a1363 a1364, b7 g1353 A1356 l1355.length n1358 t2397.1, r6 A1356 l1355.length n1358 t2397.2] w2399) := ⟨HS.out.call hS⟩
    clear hS
    go_wp2_with fail
    obtain ⟨t2400, HA2401, H⟩ := bind_some H
    refine (ground_Ground_SetReg.calls t2397.2 t2397.1 a1361 a1362 a1363 a1364 8 (wrap64 (a1365 + 1)) g1351 g1353 A1356 l1355.length n1358 t2400 _ ⟨HGl0.out.pass HS.out⟩ ⟨HS.out.begin⟩ HA2401).mono ?_
    rintro e_ w2402 ⟨rfl, hS⟩
    replace HS : Aside0 (Sep FF w [b8 g1351 g1353 a1361 a1362 a1363 a1364, b7 g1353 A1356 l1355.length n1358 t2400.2.1, r6 A1356 l1355.length n1358 t2400.2.2] w2402) := ⟨HS.out.call hS⟩
    clear hS
    go_wp2_with fail
    obtain ⟨t2403, HA2404, H⟩ := bind_some H
    refine (ground_Ground_Reg.calls t2400.2.2 t2400.2.1 a1361 a1362 a1363 a1364 9 g1351 g1353 A1356 l1355.length n1358 t2403 _ ⟨HGl0.out.pass HS.out⟩ ⟨HS.out.begin⟩ HA2404).mono ?_
    rintro e_ w2405 ⟨rfl, hS⟩
    replace HS : Aside0 (Sep FF w [b8 g1351 g1353 a1361 a1362 a1363 a1364, b7 g1353 A1356 l1355.length n1358 t2403.2, r6 A1356 l1355.length n1358 t2400.2.2] w2405) := ⟨HS.out.call hS⟩
    clear hS
    go_wp2_with fail
    obtain ⟨t2406, HA2407, H⟩ := bind_some H
    refine (ground_Ground_SetReg.calls t2400.2.2 t2403.2 a1361 a1362 a1363 a1364 9 (wrap64 (t2403.1 + 1)) g1351 g1353 A1356 l1355.length n1358 t2406 _ ⟨HGl0.out.pass HS.out⟩ ⟨HS.out.begin⟩ HA2407).mono ?_
    rintro e_ w2408 ⟨rfl, hS⟩
    replace HS : Aside0 (Sep FF w [b8 g1351 g1353 a1361 a1362 a1363 a1364, b7 g1353 A1356 l1355.length n1358 t2406.2.1, r6 A1356 l1355.length n1358 t2406.2.2] w2408) := ⟨HS.out.call hS⟩
    clear hS
    go_wp2_with fail
    go_ret
    rw [← some_eq H]
    exact ⟨(by first | rfl | (simp [IntKind.wrap_u32]; done)), HS.out⟩
  · replace H := if_no c2377 H
    have c2377b0 : t2356.2.2.2.2.2.2.2.1 = false := by simpa using c2377
    have c2377b1 : (!t2356.2.2.2.2.2.2.2.1) = true := by rw [c2377b0]; rfl
    try rw [c2377b1]
    clear c2377
    go_wp2_with (first | ((with_reducible refine gate_dst (N := 5) rfl ?_); refine box_on ?hg (N := 5) ?hd (cs := #[.int .i64 0, .int .i64 0, .int .i64 0, .int .i64 0, .int .i64 0, .int .i64 0, .int .i64 0]) (t := 32) ?hr ?_; (case hd => rfl); (case hg => rfl); (case hr => first | (go_simp; done) | (go_simp; rfl)); intro g2359 hg w2360 hbox hb; replace HS : Aside0 (Sep FF w [b8 g1351 g1353 a1361 a1362 a1363 a1364, b7 g1353 A1356 l1355.length n1358 t2356.2.2.2.2.2.2.2.2, r6 A1356 l1355.length n1358 l1355, b9 g2359 0 0 0 0 0 0 0] w2360) := ⟨HS.out.box hg hbox hb⟩; clear hg hbox hb; have hc2362 : w2360.cell? ⟨g2359, 0, none⟩ = some (.int .i64 0) := blk_cellv (HS.out.at3) 0 rfl; have hz2363 : w2360.frozen? ⟨g2359, 0, none⟩ = false := blk_fz (HS.out.at3) 0; have hc2364 : w2360.cell? ⟨g2359, 1, none⟩ = some (.int .i64 0) := blk_cellv (HS.out.at3) 1 rfl; have hz2365 : w2360.frozen? ⟨g2359, 1, none⟩ = false := blk_fz (HS.out.at3) 1; have hc2366 : w2360.cell? ⟨g2359, 2, none⟩ = some (.int .i64 0) := blk_cellv (HS.out.at3) 2 rfl; have hz2367 : w2360.frozen? ⟨g2359, 2, none⟩ = false := blk_fz (HS.out.at3) 2; have hc2368 : w2360.cell? ⟨g2359, 3, none⟩ = some (.int .i64 0) := blk_cellv (HS.out.at3) 3 rfl; have hz2369 : w2360.frozen? ⟨g2359, 3, none⟩ = false := blk_fz (HS.out.at3) 3; have hc2370 : w2360.cell? ⟨g2359, 4, none⟩ = some (.int .i64 0) := blk_cellv (HS.out.at3) 4 rfl; have hz2371 : w2360.frozen? ⟨g2359, 4, none⟩ = false := blk_fz (HS.out.at3) 4; have hc2372 : w2360.cell? ⟨g2359, 5, none⟩ = some (.int .i64 0) := blk_cellv (HS.out.at3) 5 rfl; have hz2373 : w2360.frozen? ⟨g2359, 5, none⟩ = false := blk_fz (HS.out.at3) 5; have hc2374 : w2360.cell? ⟨g2359, 6, none⟩ = some (.int .i64 0) := blk_cellv (HS.out.at3) 6 rfl; have hz2375 : w2360.frozen? ⟨g2359, 6, none⟩ = false := blk_fz (HS.out.at3) 6) | ((with_reducible refine gate_store (t := 32) (p := 5) rfl ?_); refine store_event (w1 := (World.setCell (World.setCell (World.setCell (World.setCell (World.setCell (World.setCell (World.setCell w2360 ⟨g2359, 0, none⟩ (.int .i64 t2356.1)) ⟨g2359, 1, none⟩ (.int .i64 t2356.2.1)) ⟨g2359, 2, none⟩ (.int .i64 t2356.2.2.1)) ⟨g2359, 3, none⟩ (.int .i64 t2356.2.2.2.1)) ⟨g2359, 4, none⟩ (.int .i64 t2356.2.2.2.2.1)) ⟨g2359, 5, none⟩ (.int .i64 t2356.2.2.2.2.2.1)) ⟨g2359, 6, none⟩ (.int .i64 t2356.2.2.2.2.2.2.1))) rfl (t := 32) (p := 5) rfl rfl ?hr ?_; (case hr => first | (go_simp; done) | (go_simp; rfl)); intro w2376 hst; clear hc2362 hz2363 hc2364 hz2365 hc2366 hz2367 hc2368 hz2369 hc2370 hz2371 hc2372 hz2373 hc2374 hz2375; replace HS : Aside0 (Sep FF w [b8 g1351 g1353 a1361 a1362 a1363 a1364, b7 g1353 A1356 l1355.length n1358 t2356.2.2.2.2.2.2.2.2, r6 A1356 l1355.length n1358 l1355, b9 g2359 t2356.1 t2356.2.1 t2356.2.2.1 t2356.2.2.2.1 t2356.2.2.2.2.1 t2356.2.2.2.2.2.1 t2356.2.2.2.2.2.2.1] w2376) := ⟨by rw [hst]; exact HS.out.setAll (l1 := [b8 g1351 g1353 a1361 a1362 a1363 a1364, b7 g1353 A1356 l1355.length n1358 t2356.2.2.2.2.2.2.2.2, r6 A1356 l1355.length n1358 l1355]) (l2 := []) [.int .i64 t2356.1, .int .i64 t2356.2.1, .int .i64 t2356.2.2.1, .int .i64 t2356.2.2.2.1, .int .i64 t2356.2.2.2.2.1, .int .i64 t2356.2.2.2.2.2.1, .int .i64 t2356.2.2.2.2.2.2.1] rfl⟩; clear hst; replace HS : Aside0 (Sep FF w [b8 g1351 g1353 a1361 a1362 a1363 a1364, b7 g1353 A1356 l1355.length n1358 t2356.2.2.2.2.2.2.2.2, r6 A1356 l1355.length n1358 l1355] w2376) := ⟨HS.out.sub (.cons_cons _ (.cons_cons _ (.cons_cons _ (.cons _ .slnil))))⟩))
    go_ret
    rw [← some_eq H]
    exact ⟨(by first | rfl | (simp [IntKind.wrap_u32]; done)), HS.out⟩
end Go.Proofs.YtobeonkddamnoaaDoor.C

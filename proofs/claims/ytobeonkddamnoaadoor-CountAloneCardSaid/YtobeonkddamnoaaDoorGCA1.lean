/- Each function of the group CA does what its plain function says, and changes nothing that was there; proved by walking its code. No condition. -/
import Derived.Test.YtobeonkddamnoaaDoorQw
import Derived.Test.YtobeonkddamnoaaDoorMCA
import Derived.Test.YtobeonkddamnoaaDoorGCA0
namespace Go.Proofs.YtobeonkddamnoaaDoor.C
open Go.RowKit Go.Proofs.YtobeonkddamnoaaDoorW.PrintWords Go.Proofs.YtobeonkddamnoaaDoorW.PrintLast Go.Proofs.YtobeonkddamnoaaDoor.Q Go.Proofs.YtobeonkddamnoaaDoor.M
set_option linter.unusedVariables false
set_option linter.unusedSimpArgs false
set_option maxHeartbeats 30000000 in
set_option maxRecDepth 100000 in
theorem chain_put_F143.calls (l1159 : List Int) (a1164 : Int) (a1165 : Int) (a1166 : Int) (a1167 : Int) (a1168 : Int) (a1169 : Int) (a1170 : Int) (a1175 : Int) (g1155 : Nat) (g1157 : Nat) (A1160 : Option Addr) (m1161 : Nat) (n1162 : Nat) (g1172 : Nat) (g1174 : Nat) (r : Bool × Int × List Int) (w : World)  (HGl0 : Aside0 (Gl 0 #[.int .i64 0, .int .i64 0, .int .i64 0, .int .i64 0, .int .i64 0] (fps [b8 g1155 g1157 a1165 a1166 a1167 a1168, b7 g1157 A1160 m1161 n1162 a1164, r6 A1160 m1161 n1162 l1159, b10 g1172 g1155, b11 g1174 a1175]) w)) (HS : Aside0 (Sep (fps [b8 g1155 g1157 a1165 a1166 a1167 a1168, b7 g1157 A1160 m1161 n1162 a1164, r6 A1160 m1161 n1162 l1159, b10 g1172 g1155, b11 g1174 a1175]) w [b8 g1155 g1157 a1165 a1166 a1167 a1168, b7 g1157 A1160 m1161 n1162 a1164, r6 A1160 m1161 n1162 l1159, b10 g1172 g1155, b11 g1174 a1175] w)) (H : Aside0 (chain_put_F143.f l1159 a1164 a1165 a1166 a1167 a1168 a1169 a1170 a1175 = some r)) :
    Calls Tryd.prog 142 #[.pointer (some ⟨g1155, 0, none⟩), .int .i64 a1169, .int .i64 a1170, .func (.func 143) #[] #[.pointer (some ⟨g1172, 0, none⟩), .pointer (some ⟨g1174, 0, none⟩)]] w fun e w' => e = .returned (.bool r.1) ∧ Sep (fps [b8 g1155 g1157 a1165 a1166 a1167 a1168, b7 g1157 A1160 m1161 n1162 a1164, r6 A1160 m1161 n1162 l1159, b10 g1172 g1155, b11 g1174 a1175]) w [b8 g1155 g1157 a1165 a1166 a1167 a1168, b7 g1157 A1160 m1161 n1162 r.2.1, r6 A1160 m1161 n1162 r.2.2, b10 g1172 g1155, b11 g1174 a1175] w' := by
  generalize (fps [b8 g1155 g1157 a1165 a1166 a1167 a1168, b7 g1157 A1160 m1161 n1162 a1164, r6 A1160 m1161 n1162 l1159, b10 g1172 g1155, b11 g1174 a1175]) = FF at HS HGl0 ⊢
  obtain rfl := (row_len (HS.out.at2)).symm
  unfold chain_put_F143.f at H
  go_enter Tryd.func142, Tryd.ntmps142
  go_wp2_with fail
  obtain ⟨t1468, HA1469, H⟩ := bind_some H
  refine (chain_of.calls l1159 a1164 a1165 a1166 a1167 a1168 a1169 g1155 g1157 A1160 l1159.length n1162 t1468 _ ⟨HGl0.out.pass HS.out⟩ ⟨HS.out.begin⟩ HA1469).mono ?_
  rintro e_ w1470 ⟨rfl, hS⟩
  replace HS : Aside0 (Sep FF w [b8 g1155 g1157 a1165 a1166 a1167 a1168, b7 g1157 A1160 l1159.length n1162 a1164, r6 A1160 l1159.length n1162 l1159, b10 g1172 g1155, b11 g1174 a1175] w1470) := ⟨HS.out.call hS⟩
  clear hS
  by_cases c1481 : t1468.2.2.2 = true
  · replace H := if_yes c1481 H
    have c1481b0 : t1468.2.2.2 = true := c1481
    have c1481b1 : (!t1468.2.2.2) = false := by rw [c1481b0]; rfl
    try rw [c1481b1]
    clear c1481
    by_cases c1482 : a1170 < 0
    · replace H := if_yes c1482 H
      have c1482b0 : decide (a1170 < 0) = true := decide_eq_true c1482
      clear c1482
      go_wp2_with (first | ((with_reducible refine gate_dst (N := 9) rfl ?_); refine box_on ?hg (N := 9) ?hd (cs := #[.int .i64 0, .int .i64 0, .int .i64 0]) (t := 166) ?hr ?_; (case hd => rfl); (case hg => rfl); (case hr => first | (go_simp; done) | (go_simp; rfl)); intro g1471 hg w1472 hbox hb; replace HS : Aside0 (Sep FF w [b8 g1155 g1157 a1165 a1166 a1167 a1168, b7 g1157 A1160 l1159.length n1162 a1164, r6 A1160 l1159.length n1162 l1159, b10 g1172 g1155, b11 g1174 a1175, b9 g1471 0 0 0] w1472) := ⟨HS.out.box hg hbox hb⟩; clear hg hbox hb; have hc1474 : w1472.cell? ⟨g1471, 0, none⟩ = some (.int .i64 0) := blk_cellv (HS.out.at5) 0 rfl; have hz1475 : w1472.frozen? ⟨g1471, 0, none⟩ = false := blk_fz (HS.out.at5) 0; have hc1476 : w1472.cell? ⟨g1471, 1, none⟩ = some (.int .i64 0) := blk_cellv (HS.out.at5) 1 rfl; have hz1477 : w1472.frozen? ⟨g1471, 1, none⟩ = false := blk_fz (HS.out.at5) 1; have hc1478 : w1472.cell? ⟨g1471, 2, none⟩ = some (.int .i64 0) := blk_cellv (HS.out.at5) 2 rfl; have hz1479 : w1472.frozen? ⟨g1471, 2, none⟩ = false := blk_fz (HS.out.at5) 2) | ((with_reducible refine gate_store (t := 166) (p := 9) rfl ?_); refine store_event (w1 := (World.setCell (World.setCell (World.setCell w1472 ⟨g1471, 0, none⟩ (.int .i64 t1468.1)) ⟨g1471, 1, none⟩ (.int .i64 t1468.2.1)) ⟨g1471, 2, none⟩ (.int .i64 t1468.2.2.1))) rfl (t := 166) (p := 9) rfl rfl ?hr ?_; (case hr => first | (go_simp; done) | (go_simp; rfl)); intro w1480 hst; clear hc1474 hz1475 hc1476 hz1477 hc1478 hz1479; replace HS : Aside0 (Sep FF w [b8 g1155 g1157 a1165 a1166 a1167 a1168, b7 g1157 A1160 l1159.length n1162 a1164, r6 A1160 l1159.length n1162 l1159, b10 g1172 g1155, b11 g1174 a1175, b9 g1471 t1468.1 t1468.2.1 t1468.2.2.1] w1480) := ⟨by rw [hst]; exact HS.out.setAll (l1 := [b8 g1155 g1157 a1165 a1166 a1167 a1168, b7 g1157 A1160 l1159.length n1162 a1164, r6 A1160 l1159.length n1162 l1159, b10 g1172 g1155, b11 g1174 a1175]) (l2 := []) [.int .i64 t1468.1, .int .i64 t1468.2.1, .int .i64 t1468.2.2.1] rfl⟩; clear hst; replace HS : Aside0 (Sep FF w [b8 g1155 g1157 a1165 a1166 a1167 a1168, b7 g1157 A1160 l1159.length n1162 a1164, r6 A1160 l1159.length n1162 l1159, b10 g1172 g1155, b11 g1174 a1175] w1480) := ⟨HS.out.sub (.cons_cons _ (.cons_cons _ (.cons_cons _ (.cons_cons _ (.cons_cons _ (.cons _ .slnil))))))⟩))
      go_ret
      rw [← some_eq H]
      exact ⟨(by first | rfl | (simp [IntKind.wrap_u32]; done)), HS.out⟩
    · replace H := if_no c1482 H
      have c1482b0 : decide (a1170 < 0) = false := decide_eq_false c1482
      clear c1482
      go_wp2_with (first | ((with_reducible refine gate_dst (N := 9) rfl ?_); refine box_on ?hg (N := 9) ?hd (cs := #[.int .i64 0, .int .i64 0, .int .i64 0]) (t := 166) ?hr ?_; (case hd => rfl); (case hg => rfl); (case hr => first | (go_simp; done) | (go_simp; rfl)); intro g1471 hg w1472 hbox hb; replace HS : Aside0 (Sep FF w [b8 g1155 g1157 a1165 a1166 a1167 a1168, b7 g1157 A1160 l1159.length n1162 a1164, r6 A1160 l1159.length n1162 l1159, b10 g1172 g1155, b11 g1174 a1175, b9 g1471 0 0 0] w1472) := ⟨HS.out.box hg hbox hb⟩; clear hg hbox hb; have hc1474 : w1472.cell? ⟨g1471, 0, none⟩ = some (.int .i64 0) := blk_cellv (HS.out.at5) 0 rfl; have hz1475 : w1472.frozen? ⟨g1471, 0, none⟩ = false := blk_fz (HS.out.at5) 0; have hc1476 : w1472.cell? ⟨g1471, 1, none⟩ = some (.int .i64 0) := blk_cellv (HS.out.at5) 1 rfl; have hz1477 : w1472.frozen? ⟨g1471, 1, none⟩ = false := blk_fz (HS.out.at5) 1; have hc1478 : w1472.cell? ⟨g1471, 2, none⟩ = some (.int .i64 0) := blk_cellv (HS.out.at5) 2 rfl; have hz1479 : w1472.frozen? ⟨g1471, 2, none⟩ = false := blk_fz (HS.out.at5) 2) | ((with_reducible refine gate_store (t := 166) (p := 9) rfl ?_); refine store_event (w1 := (World.setCell (World.setCell (World.setCell w1472 ⟨g1471, 0, none⟩ (.int .i64 t1468.1)) ⟨g1471, 1, none⟩ (.int .i64 t1468.2.1)) ⟨g1471, 2, none⟩ (.int .i64 t1468.2.2.1))) rfl (t := 166) (p := 9) rfl rfl ?hr ?_; (case hr => first | (go_simp; done) | (go_simp; rfl)); intro w1480 hst; clear hc1474 hz1475 hc1476 hz1477 hc1478 hz1479; replace HS : Aside0 (Sep FF w [b8 g1155 g1157 a1165 a1166 a1167 a1168, b7 g1157 A1160 l1159.length n1162 a1164, r6 A1160 l1159.length n1162 l1159, b10 g1172 g1155, b11 g1174 a1175, b9 g1471 t1468.1 t1468.2.1 t1468.2.2.1] w1480) := ⟨by rw [hst]; exact HS.out.setAll (l1 := [b8 g1155 g1157 a1165 a1166 a1167 a1168, b7 g1157 A1160 l1159.length n1162 a1164, r6 A1160 l1159.length n1162 l1159, b10 g1172 g1155, b11 g1174 a1175]) (l2 := []) [.int .i64 t1468.1, .int .i64 t1468.2.1, .int .i64 t1468.2.2.1] rfl⟩; clear hst))
      obtain ⟨t1483, HA1484, H⟩ := bind_some H
      refine (ground_Ground_Conf.calls l1159 a1164 a1165 a1166 a1167 a1168 g1155 g1157 A1160 l1159.length n1162 t1483 _ ⟨HGl0.out.pass HS.out⟩ ⟨HS.out.begin⟩ HA1484).mono ?_
      rintro e_ w1485 ⟨rfl, hS⟩
      replace HS : Aside0 (Sep FF w [b8 g1155 g1157 a1165 a1166 a1167 a1168, b7 g1157 A1160 l1159.length n1162 a1164, r6 A1160 l1159.length n1162 l1159, b10 g1172 g1155, b11 g1174 a1175, b9 g1471 t1468.1 t1468.2.1 t1468.2.2.1] w1485) := ⟨HS.out.call hS⟩
      clear hS
      by_cases c1487 : a1170 ≥ t1483.1
      · replace H := if_yes c1487 H
        have c1487b0 : decide (t1483.1 ≤ a1170) = true := decide_eq_true c1487
        clear c1487
        have fl1486 : ∀ w, (Instr.field 30 (.agg #[.int .i64 t1483.1, .int .i64 t1483.2.1, .int .i64 t1483.2.2.1, .int .i64 t1483.2.2.2]) 0).run Tryd.prog w = .ok (.int .i64 t1483.1) w := fun _ => by kernel_rfl
        replace HS : Aside0 (Sep FF w [b8 g1155 g1157 a1165 a1166 a1167 a1168, b7 g1157 A1160 l1159.length n1162 a1164, r6 A1160 l1159.length n1162 l1159, b10 g1172 g1155, b11 g1174 a1175] w1485) := ⟨HS.out.sub (.cons_cons _ (.cons_cons _ (.cons_cons _ (.cons_cons _ (.cons_cons _ (.cons _ .slnil))))))⟩
        go_wp2_with fail
        clear fl1486
        go_ret
        rw [← some_eq H]
        exact ⟨(by first | rfl | (simp [IntKind.wrap_u32]; done)), HS.out⟩
      · replace H := if_no c1487 H
        have c1487b0 : decide (t1483.1 ≤ a1170) = false := decide_eq_false c1487
        clear c1487
        have fl1486 : ∀ w, (Instr.field 30 (.agg #[.int .i64 t1483.1, .int .i64 t1483.2.1, .int .i64 t1483.2.2.1, .int .i64 t1483.2.2.2]) 0).run Tryd.prog w = .ok (.int .i64 t1483.1) w := fun _ => by kernel_rfl
        have hc1488 : w1485.cell? ⟨g1471, 2, none⟩ = some (.int .i64 t1468.2.2.1) := blk_cellv (HS.out.at5) 2 rfl
        go_wp2_with fail
        clear fl1486 hc1488
        obtain ⟨t1489, HA1490, H⟩ := bind_some H
        refine (ground_Ground_Reg.calls l1159 a1164 a1165 a1166 a1167 a1168 t1468.2.2.1 g1155 g1157 A1160 l1159.length n1162 t1489 _ ⟨HGl0.out.pass HS.out⟩ ⟨HS.out.begin⟩ HA1490).mono ?_
        rintro e_ w1491 ⟨rfl, hS⟩
        replace HS : Aside0 (Sep FF w [b8 g1155 g1157 a1165 a1166 a1167 a1168, b7 g1157 A1160 l1159.length n1162 t1489.2, r6 A1160 l1159.length n1162 l1159, b10 g1172 g1155, b11 g1174 a1175, b9 g1471 t1468.1 t1468.2.1 t1468.2.2.1] w1491) := ⟨HS.out.call hS⟩
        clear hS
        have hc1492 : w1491.cell? ⟨g1471, 0, none⟩ = some (.int .i64 t1468.1) := blk_cellv (HS.out.at5) 0 rfl
        have hc1493 : w1491.cell? ⟨g1471, 1, none⟩ = some (.int .i64 t1468.2.1) := blk_cellv (HS.out.at5) 1 rfl
        have hc1494 : w1491.cell? ⟨g1471, 2, none⟩ = some (.int .i64 t1468.2.2.1) := blk_cellv (HS.out.at5) 2 rfl
        go_wp2_with fail
        clear hc1492 hc1493 hc1494
        replace HS : Aside0 (Sep FF w [b11 g1174 a1175, b8 g1155 g1157 a1165 a1166 a1167 a1168, b7 g1157 A1160 l1159.length n1162 t1489.2, r6 A1160 l1159.length n1162 l1159, b10 g1172 g1155, b9 g1471 t1468.1 t1468.2.1 t1468.2.2.1] w1491) := ⟨HS.out.front 4 (by simp)⟩
        replace HS : Aside0 (Sep FF w [r6 A1160 l1159.length n1162 l1159, b11 g1174 a1175, b8 g1155 g1157 a1165 a1166 a1167 a1168, b7 g1157 A1160 l1159.length n1162 t1489.2, b10 g1172 g1155, b9 g1471 t1468.1 t1468.2.1 t1468.2.2.1] w1491) := ⟨HS.out.front 3 (by simp)⟩
        replace HS : Aside0 (Sep FF w [b7 g1157 A1160 l1159.length n1162 t1489.2, r6 A1160 l1159.length n1162 l1159, b11 g1174 a1175, b8 g1155 g1157 a1165 a1166 a1167 a1168, b10 g1172 g1155, b9 g1471 t1468.1 t1468.2.1 t1468.2.2.1] w1491) := ⟨HS.out.front 3 (by simp)⟩
        replace HS : Aside0 (Sep FF w [b8 g1155 g1157 a1165 a1166 a1167 a1168, b7 g1157 A1160 l1159.length n1162 t1489.2, r6 A1160 l1159.length n1162 l1159, b11 g1174 a1175, b10 g1172 g1155, b9 g1471 t1468.1 t1468.2.1 t1468.2.2.1] w1491) := ⟨HS.out.front 3 (by simp)⟩
        replace HS : Aside0 (Sep FF w [b10 g1172 g1155, b8 g1155 g1157 a1165 a1166 a1167 a1168, b7 g1157 A1160 l1159.length n1162 t1489.2, r6 A1160 l1159.length n1162 l1159, b11 g1174 a1175, b9 g1471 t1468.1 t1468.2.1 t1468.2.2.1] w1491) := ⟨HS.out.front 4 (by simp)⟩
        obtain ⟨t1495, HA1496, H⟩ := bind_some H
        refine (chain_Add_1.calls t1468.1 t1468.2.1 t1468.2.2.1 (wrap64 (a1170 + 1)) t1489.1 l1159 t1489.2 a1165 a1166 a1167 a1168 a1175 g1172 g1155 g1157 A1160 l1159.length n1162 g1174 t1495 _ ⟨HGl0.out.pass HS.out⟩ ⟨HS.out.begin⟩ HA1496).mono ?_
        rintro e_ w1497 ⟨rfl, hS⟩
        replace HS : Aside0 (Sep FF w [b10 g1172 g1155, b8 g1155 g1157 a1165 a1166 a1167 a1168, b7 g1157 A1160 l1159.length n1162 t1495.1, r6 A1160 l1159.length n1162 t1495.2, b11 g1174 a1175, b9 g1471 t1468.1 t1468.2.1 t1468.2.2.1] w1497) := ⟨HS.out.call hS⟩
        clear hS
        have hc1498 : w1497.cell? ⟨g1471, 2, none⟩ = some (.int .i64 t1468.2.2.1) := blk_cellv (HS.out.at5) 2 rfl
        go_wp2_with fail
        clear hc1498
        replace HS : Aside0 (Sep FF w [r6 A1160 l1159.length n1162 t1495.2, b10 g1172 g1155, b8 g1155 g1157 a1165 a1166 a1167 a1168, b7 g1157 A1160 l1159.length n1162 t1495.1, b11 g1174 a1175, b9 g1471 t1468.1 t1468.2.1 t1468.2.2.1] w1497) := ⟨HS.out.front 3 (by simp)⟩
        replace HS : Aside0 (Sep FF w [b7 g1157 A1160 l1159.length n1162 t1495.1, r6 A1160 l1159.length n1162 t1495.2, b10 g1172 g1155, b8 g1155 g1157 a1165 a1166 a1167 a1168, b11 g1174 a1175, b9 g1471 t1468.1 t1468.2.1 t1468.2.2.1] w1497) := ⟨HS.out.front 3 (by simp)⟩
        replace HS : Aside0 (Sep FF w [b8 g1155 g1157 a1165 a1166 a1167 a1168, b7 g1157 A1160 l1159.length n1162 t1495.1, r6 A1160 l1159.length n1162 t1495.2, b10 g1172 g1155, b11 g1174 a1175, b9 g1471 t1468.1 t1468.2.1 t1468.2.2.1] w1497) := ⟨HS.out.front 3 (by simp)⟩
        obtain ⟨t1499, HA1500, H⟩ := bind_some H
        refine (ground_Ground_SetReg.calls t1495.2 t1495.1 a1165 a1166 a1167 a1168 t1468.2.2.1 (wrap64 (t1489.1 + 1)) g1155 g1157 A1160 l1159.length n1162 t1499 _ ⟨HGl0.out.pass HS.out⟩ ⟨HS.out.begin⟩ HA1500).mono ?_
        rintro e_ w1501 ⟨rfl, hS⟩
        replace HS : Aside0 (Sep FF w [b8 g1155 g1157 a1165 a1166 a1167 a1168, b7 g1157 A1160 l1159.length n1162 t1499.2.1, r6 A1160 l1159.length n1162 t1499.2.2, b10 g1172 g1155, b11 g1174 a1175, b9 g1471 t1468.1 t1468.2.1 t1468.2.2.1] w1501) := ⟨HS.out.call hS⟩
        clear hS
        replace HS : Aside0 (Sep FF w [b8 g1155 g1157 a1165 a1166 a1167 a1168, b7 g1157 A1160 l1159.length n1162 t1499.2.1, r6 A1160 l1159.length n1162 t1499.2.2, b10 g1172 g1155, b11 g1174 a1175] w1501) := ⟨HS.out.sub (.cons_cons _ (.cons_cons _ (.cons_cons _ (.cons_cons _ (.cons_cons _ (.cons _ .slnil))))))⟩
        go_wp2_with fail
        go_ret
        rw [← some_eq H]
        exact ⟨(by first | rfl | (simp [IntKind.wrap_u32]; done)), HS.out⟩
  · replace H := if_no c1481 H
    have c1481b0 : t1468.2.2.2 = false := by simpa using c1481
    have c1481b1 : (!t1468.2.2.2) = true := by rw [c1481b0]; rfl
    try rw [c1481b1]
    clear c1481
    go_wp2_with (first | ((with_reducible refine gate_dst (N := 9) rfl ?_); refine box_on ?hg (N := 9) ?hd (cs := #[.int .i64 0, .int .i64 0, .int .i64 0]) (t := 166) ?hr ?_; (case hd => rfl); (case hg => rfl); (case hr => first | (go_simp; done) | (go_simp; rfl)); intro g1471 hg w1472 hbox hb; replace HS : Aside0 (Sep FF w [b8 g1155 g1157 a1165 a1166 a1167 a1168, b7 g1157 A1160 l1159.length n1162 a1164, r6 A1160 l1159.length n1162 l1159, b10 g1172 g1155, b11 g1174 a1175, b9 g1471 0 0 0] w1472) := ⟨HS.out.box hg hbox hb⟩; clear hg hbox hb; have hc1474 : w1472.cell? ⟨g1471, 0, none⟩ = some (.int .i64 0) := blk_cellv (HS.out.at5) 0 rfl; have hz1475 : w1472.frozen? ⟨g1471, 0, none⟩ = false := blk_fz (HS.out.at5) 0; have hc1476 : w1472.cell? ⟨g1471, 1, none⟩ = some (.int .i64 0) := blk_cellv (HS.out.at5) 1 rfl; have hz1477 : w1472.frozen? ⟨g1471, 1, none⟩ = false := blk_fz (HS.out.at5) 1; have hc1478 : w1472.cell? ⟨g1471, 2, none⟩ = some (.int .i64 0) := blk_cellv (HS.out.at5) 2 rfl; have hz1479 : w1472.frozen? ⟨g1471, 2, none⟩ = false := blk_fz (HS.out.at5) 2) | ((with_reducible refine gate_store (t := 166) (p := 9) rfl ?_); refine store_event (w1 := (World.setCell (World.setCell (World.setCell w1472 ⟨g1471, 0, none⟩ (.int .i64 t1468.1)) ⟨g1471, 1, none⟩ (.int .i64 t1468.2.1)) ⟨g1471, 2, none⟩ (.int .i64 t1468.2.2.1))) rfl (t := 166) (p := 9) rfl rfl ?hr ?_; (case hr => first | (go_simp; done) | (go_simp; rfl)); intro w1480 hst; clear hc1474 hz1475 hc1476 hz1477 hc1478 hz1479; replace HS : Aside0 (Sep FF w [b8 g1155 g1157 a1165 a1166 a1167 a1168, b7 g1157 A1160 l1159.length n1162 a1164, r6 A1160 l1159.length n1162 l1159, b10 g1172 g1155, b11 g1174 a1175, b9 g1471 t1468.1 t1468.2.1 t1468.2.2.1] w1480) := ⟨by rw [hst]; exact HS.out.setAll (l1 := [b8 g1155 g1157 a1165 a1166 a1167 a1168, b7 g1157 A1160 l1159.length n1162 a1164, r6 A1160 l1159.length n1162 l1159, b10 g1172 g1155, b11 g1174 a1175]) (l2 := []) [.int .i64 t1468.1, .int .i64 t1468.2.1, .int .i64 t1468.2.2.1] rfl⟩; clear hst; replace HS : Aside0 (Sep FF w [b8 g1155 g1157 a1165 a1166 a1167 a1168, b7 g1157 A1160 l1159.length n1162 a1164, r6 A1160 l1159.length n1162 l1159, b10 g1172 g1155, b11 g1174 a1175] w1480) := ⟨HS.out.sub (.cons_cons _ (.cons_cons _ (.cons_cons _ (.cons_cons _ (.cons_cons _ (.cons _ .slnil))))))⟩))
    go_ret
    rw [← some_eq H]
    exact ⟨(by first | rfl | (simp [IntKind.wrap_u32]; done)), HS.out⟩

set_option maxHeartbeats 30000000 in
set_option maxRecDepth 100000 in
theorem chain_Add.calls (l1134 : List Int) (a1139 : Int) (a1140 : Int) (a1141 : Int) (a1142 : Int) (a1143 : Int) (a1144 : Int) (a1145 : Int) (g1130 : Nat) (g1132 : Nat) (A1135 : Option Addr) (m1136 : Nat) (n1137 : Nat) (r : Bool × Int × List Int) (w : World)  (HGl0 : Aside0 (Gl 0 #[.int .i64 0, .int .i64 0, .int .i64 0, .int .i64 0, .int .i64 0] (fps [b8 g1130 g1132 a1140 a1141 a1142 a1143, b7 g1132 A1135 m1136 n1137 a1139, r6 A1135 m1136 n1137 l1134]) w)) (HS : Aside0 (Sep (fps [b8 g1130 g1132 a1140 a1141 a1142 a1143, b7 g1132 A1135 m1136 n1137 a1139, r6 A1135 m1136 n1137 l1134]) w [b8 g1130 g1132 a1140 a1141 a1142 a1143, b7 g1132 A1135 m1136 n1137 a1139, r6 A1135 m1136 n1137 l1134] w)) (H : Aside0 (chain_Add.f l1134 a1139 a1140 a1141 a1142 a1143 a1144 a1145 = some r)) :
    Calls Tryd.prog 117 #[.pointer (some ⟨g1130, 0, none⟩), .int .i64 a1144, .int .i64 a1145] w fun e w' => e = .returned (.bool r.1) ∧ Sep (fps [b8 g1130 g1132 a1140 a1141 a1142 a1143, b7 g1132 A1135 m1136 n1137 a1139, r6 A1135 m1136 n1137 l1134]) w [b8 g1130 g1132 a1140 a1141 a1142 a1143, b7 g1132 A1135 m1136 n1137 r.2.1, r6 A1135 m1136 n1137 r.2.2] w' := by
  generalize (fps [b8 g1130 g1132 a1140 a1141 a1142 a1143, b7 g1132 A1135 m1136 n1137 a1139, r6 A1135 m1136 n1137 l1134]) = FF at HS HGl0 ⊢
  obtain rfl := (row_len (HS.out.at2)).symm
  unfold chain_Add.f at H
  go_enter Tryd.func117, Tryd.ntmps117
  go_wp2_with (first | ((with_reducible refine gate_dst (N := 3) rfl ?_); refine box_on ?hg (N := 3) ?hd (cs := #[.pointer (some ⟨g1130, 0, none⟩)]) (t := 25) ?hr ?_; (case hd => rfl); (case hg => rfl); (case hr => first | (go_simp; done) | (go_simp; rfl)); intro g1505 hg w1506 hbox hb; replace HS : Aside0 (Sep FF w [b8 g1130 g1132 a1140 a1141 a1142 a1143, b7 g1132 A1135 l1134.length n1137 a1139, r6 A1135 l1134.length n1137 l1134, b10 g1505 g1130] w1506) := ⟨HS.out.box hg hbox hb⟩; clear hg hbox hb) | ((with_reducible refine gate_dst (N := 5) rfl ?_); refine box_on ?hg (N := 5) ?hd (cs := #[.int .i64 a1145]) (t := 3) ?hr ?_; (case hd => rfl); (case hg => rfl); (case hr => first | (go_simp; done) | (go_simp; rfl)); intro g1508 hg w1509 hbox hb; replace HS : Aside0 (Sep FF w [b8 g1130 g1132 a1140 a1141 a1142 a1143, b7 g1132 A1135 l1134.length n1137 a1139, r6 A1135 l1134.length n1137 l1134, b10 g1505 g1130, b11 g1508 a1145] w1509) := ⟨HS.out.box hg hbox hb⟩; clear hg hbox hb; have hc1511 : w1509.cell? ⟨g1505, 0, none⟩ = some (.pointer (some ⟨g1130, 0, none⟩)) := blk_cellv (HS.out.at3) 0 rfl; have hc1512 : w1509.cell? ⟨g1508, 0, none⟩ = some (.int .i64 a1145) := blk_cellv (HS.out.at4) 0 rfl))
  clear hc1511 hc1512
  obtain ⟨t1513, HA1514, H⟩ := bind_some H
  refine (chain_put_F143.calls l1134 a1139 a1140 a1141 a1142 a1143 a1144 a1145 a1145 g1130 g1132 A1135 l1134.length n1137 g1505 g1508 t1513 _ ⟨HGl0.out.pass HS.out⟩ ⟨HS.out.begin⟩ HA1514).mono ?_
  rintro e_ w1515 ⟨rfl, hS⟩
  replace HS : Aside0 (Sep FF w [b8 g1130 g1132 a1140 a1141 a1142 a1143, b7 g1132 A1135 l1134.length n1137 t1513.2.1, r6 A1135 l1134.length n1137 t1513.2.2, b10 g1505 g1130, b11 g1508 a1145] w1515) := ⟨HS.out.call hS⟩
  clear hS
  replace HS : Aside0 (Sep FF w [b8 g1130 g1132 a1140 a1141 a1142 a1143, b7 g1132 A1135 l1134.length n1137 t1513.2.1, r6 A1135 l1134.length n1137 t1513.2.2] w1515) := ⟨HS.out.sub (.cons_cons _ (.cons_cons _ (.cons_cons _ (.cons _ (.cons _ .slnil)))))⟩
  go_wp2_with fail
  go_ret
  rw [← some_eq H]
  exact ⟨(by first | rfl | (simp [IntKind.wrap_u32]; done)), HS.out⟩

set_option maxHeartbeats 30000000 in
set_option maxRecDepth 100000 in
theorem pool_Open.calls (k : Nat) (l833 : List Int) (a838 : Int) (a839 : Int) (a840 : Int) (a841 : Int) (a842 : Int) (g829 : Nat) (g831 : Nat) (A834 : Option Addr) (m835 : Nat) (n836 : Nat) (r : Bool × Int × List Int) (w : World)  (HGl0 : Aside0 (Gl 0 #[.int .i64 0, .int .i64 0, .int .i64 0, .int .i64 0, .int .i64 0] (fps [b8 g829 g831 a839 a840 a841 a842, b7 g831 A834 m835 n836 a838, r6 A834 m835 n836 l833]) w)) (HS : Aside0 (Sep (fps [b8 g829 g831 a839 a840 a841 a842, b7 g831 A834 m835 n836 a838, r6 A834 m835 n836 l833]) w [b8 g829 g831 a839 a840 a841 a842, b7 g831 A834 m835 n836 a838, r6 A834 m835 n836 l833] w)) (H : Aside0 (pool_Open.f k l833 a838 a839 a840 a841 a842 = some r)) :
    Calls Tryd.prog 62 #[.pointer (some ⟨g829, 0, none⟩)] w fun e w' => e = .returned (.bool r.1) ∧ Sep (fps [b8 g829 g831 a839 a840 a841 a842, b7 g831 A834 m835 n836 a838, r6 A834 m835 n836 l833]) w [b8 g829 g831 a839 a840 a841 a842, b7 g831 A834 m835 n836 r.2.1, r6 A834 m835 n836 r.2.2] w' := by
  generalize (fps [b8 g829 g831 a839 a840 a841 a842, b7 g831 A834 m835 n836 a838, r6 A834 m835 n836 l833]) = FF at HS HGl0 ⊢
  obtain rfl := (row_len (HS.out.at2)).symm
  unfold pool_Open.f at H
  go_enter Tryd.func62, Tryd.ntmps62
  go_wp2_with fail
  obtain ⟨t1529, HA1530, H⟩ := bind_some H
  refine (chain_Len.calls l833 a838 a839 a840 a841 a842 0 g829 g831 A834 l833.length n836 t1529 _ ⟨HGl0.out.pass HS.out⟩ ⟨HS.out.begin⟩ HA1530).mono ?_
  rintro e_ w1531 ⟨rfl, hS⟩
  replace HS : Aside0 (Sep FF w [b8 g829 g831 a839 a840 a841 a842, b7 g831 A834 l833.length n836 t1529.2, r6 A834 l833.length n836 l833] w1531) := ⟨HS.out.call hS⟩
  clear hS
  by_cases c1532 : t1529.1 > 0
  · replace H := if_yes c1532 H
    have c1532b0 : decide (0 < t1529.1) = true := decide_eq_true c1532
    clear c1532
    go_wp2_with fail
    go_ret
    rw [← some_eq H]
    exact ⟨(by first | rfl | (simp [IntKind.wrap_u32]; done)), HS.out⟩
  · replace H := if_no c1532 H
    have c1532b0 : decide (0 < t1529.1) = false := decide_eq_false c1532
    clear c1532
    go_wp2_with fail
    obtain ⟨t1533, HA1534, H⟩ := bind_some H
    refine (ground_Ground_Conf.calls l833 t1529.2 a839 a840 a841 a842 g829 g831 A834 l833.length n836 t1533 _ ⟨HGl0.out.pass HS.out⟩ ⟨HS.out.begin⟩ HA1534).mono ?_
    rintro e_ w1535 ⟨rfl, hS⟩
    replace HS : Aside0 (Sep FF w [b8 g829 g831 a839 a840 a841 a842, b7 g831 A834 l833.length n836 t1529.2, r6 A834 l833.length n836 l833] w1535) := ⟨HS.out.call hS⟩
    clear hS
    have fl1536 : ∀ w, (Instr.field 30 (.agg #[.int .i64 t1533.1, .int .i64 t1533.2.1, .int .i64 t1533.2.2.1, .int .i64 t1533.2.2.2]) 0).run Tryd.prog w = .ok (.int .i64 t1533.1) w := fun _ => by kernel_rfl
    go_wp2_with fail
    clear fl1536
    obtain ⟨o1547, AL1548, H⟩ := bind_some H
    go_loopg [14] k (fun kq v14 wc => ∃ (x1551 : Int) (x1552 : List Int) (x1553 : Int), v14 = .int .i64 x1551 ∧ Aside0 (pool_Open.lo0 kq a839 a840 a841 a842 t1533 x1551 x1552 x1553 = some o1547) ∧ Aside0 (Sep FF w [b8 g829 g831 a839 a840 a841 a842, b7 g831 A834 l833.length n836 x1553, r6 A834 l833.length n836 x1552] wc))
    case atStart => exact ⟨(0), (l833), (t1529.2), (by first | rfl | (simp [IntKind.wrap_u32]; done)), AL1548, ⟨HS.out⟩⟩
    case round =>
      clear AL1548 HS
      obtain ⟨x1551, x1552, x1553, rfl, AL1548, HS⟩ := hrel
      obtain ⟨w1549, rfl⟩ : ∃ x : World, x = wr := ⟨_, rfl⟩
      cases gk with
      | zero => exact absurd AL1548.out (by simp [pool_Open.lo0])
      | succ k1550 =>
        have AL0 := AL1548.out
        rw [pool_Open.lo0] at AL0
        clear AL1548
        have AL1548 := Aside0.mk AL0
        clear AL0
        by_cases c1554 : x1551 < t1533.1
        · replace AL1548 := if_yes c1554 AL1548
          have c1554b0 : decide (x1551 < t1533.1) = true := decide_eq_true c1554
          clear c1554
          go_wp2_with fail
          obtain ⟨t1544, HA1555, AL1548⟩ := bind_some AL1548
          refine (chain_Add.calls x1552 x1553 a839 a840 a841 a842 0 x1551 g829 g831 A834 l833.length n836 t1544 _ ⟨HGl0.out.pass HS.out⟩ ⟨HS.out.begin⟩ HA1555).mono ?_
          rintro e_ w1556 ⟨rfl, hS⟩
          replace HS : Aside0 (Sep FF w [b8 g829 g831 a839 a840 a841 a842, b7 g831 A834 l833.length n836 t1544.2.1, r6 A834 l833.length n836 t1544.2.2] w1556) := ⟨HS.out.call hS⟩
          clear hS
          go_wp2_with fail
          go_roundg k1550
          case measure => exact Nat.lt_succ_self _
          case rel => exact ⟨(wrap64 (x1551 + 1)), (t1544.2.2), (t1544.2.1), (by first | rfl | (simp [IntKind.wrap_u32]; done)), Aside0.mk AL1548.out, ⟨HS.out⟩⟩
        · replace AL1548 := if_no c1554 AL1548
          have c1554b0 : decide (x1551 < t1533.1) = false := decide_eq_false c1554
          clear c1554
          have ho := some_eq AL1548
          subst ho
          clear AL1548
          go_wp2_with fail
          go_ret
          rw [← some_eq H]
          exact ⟨(by first | rfl | (simp [IntKind.wrap_u32]; done)), HS.out⟩

set_option maxHeartbeats 30000000 in
set_option maxRecDepth 100000 in
theorem quitrentref10_Open.calls (k : Nat) (a1568 : Int) (r : List Int) (w : World)  (HGl0 : Aside0 (Gl 0 #[.int .i64 0, .int .i64 0, .int .i64 0, .int .i64 0, .int .i64 0] (fps []) w)) (HS : Aside0 (Sep (fps []) w [] w)) (H : Aside0 (quitrentref10_Open.f k a1568 = some r)) :
    Calls Tryd.prog 155 #[.int .i64 a1568] w fun e w' => ∃ (A1608 : Option Addr) (m1609 : Nat) (n1610 : Nat), e = .returned (.slice A1608 m1609 n1610) ∧ Sep (fps []) w [r12 A1608 m1609 n1610 r] w' := by
  unfold quitrentref10_Open.f at H
  go_enter Tryd.func155, Tryd.ntmps155
  go_wp2_with fail
  replace HS : Aside0 (Sep (fps []) w [r12 none 0 0 []] w) := ⟨HS.out.nilrow 3 (Value.int .i64)⟩
  obtain ⟨o1570, AL1571, H⟩ := bind_some H
  go_loopg [3, 4] k (fun kq v3 v4 wc => ∃ (x1576 : Int) (x1577 : List Int) (A1578 : Option Addr) (m1579 : Nat) (n1580 : Nat), v3 = .slice A1578 m1579 n1580 ∧ v4 = .int .i64 x1576 ∧ Aside0 (quitrentref10_Open.lo0 kq a1568 x1576 x1577 = some o1570) ∧ Aside0 (Sep (fps []) w [r12 A1578 m1579 n1580 x1577] wc))
  case atStart => exact ⟨(0), (([] : List Int)), (none), (0), (0), (by first | rfl | (simp [IntKind.wrap_u32]; done)), (by first | rfl | (simp [IntKind.wrap_u32]; done)), AL1571, ⟨HS.out⟩⟩
  case round =>
    clear AL1571 HS
    obtain ⟨x1576, x1577, A1578, m1579, n1580, rfl, rfl, AL1571, HS⟩ := hrel
    obtain ⟨w1572, rfl⟩ : ∃ x : World, x = wr := ⟨_, rfl⟩
    obtain rfl := (row_len (HS.out.at0)).symm
    cases gk with
    | zero => exact absurd AL1571.out (by simp [quitrentref10_Open.lo0])
    | succ k1573 =>
      have AL0 := AL1571.out
      rw [quitrentref10_Open.lo0] at AL0
      clear AL1571
      have AL1571 := Aside0.mk AL0
      clear AL0
      by_cases c1582 : x1576 < a1568
      · replace AL1571 := if_yes c1582 AL1571
        have c1582b0 : decide (x1576 < a1568) = true := decide_eq_true c1582
        clear c1582
        by_cases c1586 : x1577.length < 17592186044416
        · replace AL1571 := if_yes c1586 AL1571
          have c1586b0 : decide (x1577.length < 17592186044416) = true := decide_eq_true c1586
          clear c1586
          obtain ⟨y1590, HA1591, AL1571⟩ := bind_some AL1571
          go_wp2_with (first | ((with_reducible refine gate_dst (N := 12) rfl ?_); refine slice_on (n := 1) ?hg (N := 12) ?hd (cs := #[.int .i64 x1576]) (t := 3) ?hr ?_; (case hd => rfl); (case hg => rfl); (case hr => first | (go_simp; done) | (go_simp; rfl)); intro g1583 hg w1584 hbox hb; replace HS : Aside0 (Sep (fps []) w [r12 A1578 x1577.length n1580 x1577, b11 g1583 x1576] w1584) := ⟨HS.out.box hg hbox hb⟩; clear hg hbox hb) | ((with_reducible refine gate_dst (N := 13) rfl ?_); refine append_event (l1 := []) (l2 := [b11 g1583 x1576]) rfl (.tmp 10) (.tmp 12) 49 3 (.int .i64 0) 8 rfl Tryd.underlying49 (by kernel_rfl) rfl (by decide) (Value.int .i64) (fun _ => rfl) (.slice A1578 x1577.length n1580) (x1577 : List Int) [x1576] ⟨g1583, 0, none⟩ 1 rfl rfl (blk_news (xs := [x1576]) (HS.out.at1)) HS.out (by have := of_decide_eq_true c1586b0; simp only [List.length_cons, List.length_nil]; omega) HA1591 ?_; intro A1587 n1588 w1589 HS1; replace HS : Aside0 (Sep (fps []) w [r12 A1587 y1590.length n1588 y1590, b11 g1583 x1576] w1589) := ⟨HS1⟩; clear HS1; replace HS : Aside0 (Sep (fps []) w [r12 A1587 y1590.length n1588 y1590] w1589) := ⟨HS.out.sub (.cons_cons _ (.cons _ .slnil))⟩))
          go_roundg k1573
          case measure => exact Nat.lt_succ_self _
          case rel => exact ⟨(wrap64 (x1576 + 1)), (y1590), (A1587), (y1590.length), (n1588), (by first | rfl | (simp [IntKind.wrap_u32]; done)), (by first | rfl | (simp [IntKind.wrap_u32]; done)), Aside0.mk AL1571.out, ⟨HS.out⟩⟩
        · replace AL1571 := if_no c1586 AL1571
          have c1586b0 : decide (x1577.length < 17592186044416) = false := decide_eq_false c1586
          clear c1586
          exact (none_no AL1571).elim
      · replace AL1571 := if_no c1582 AL1571
        have c1582b0 : decide (x1576 < a1568) = false := decide_eq_false c1582
        clear c1582
        have ho := some_eq AL1571
        subst ho
        clear AL1571
        go_wp2_with fail
        go_ret
        rw [← some_eq H]
        exact ⟨A1578, x1577.length, n1580, (by first | rfl | (simp [IntKind.wrap_u32]; done)), HS.out⟩

set_option maxHeartbeats 30000000 in
set_option maxRecDepth 100000 in
theorem quitrentref11_New.calls (k : Nat) (a1566 : Int) (a1567 : Int) (r : Int × Int × List Int) (w : World)  (HGl0 : Aside0 (Gl 0 #[.int .i64 0, .int .i64 0, .int .i64 0, .int .i64 0, .int .i64 0] (fps []) w)) (HS : Aside0 (Sep (fps []) w [] w)) (H : Aside0 (quitrentref11_New.f k a1566 a1567 = some r)) :
    Calls Tryd.prog 134 #[.int .i64 a1566, .int .i64 a1567] w fun e w' => ∃ (g1632 : Nat), e = .returned (.pointer (some ⟨g1632, 0, none⟩)) ∧ ∃ (A1633 : Option Addr) (m1634 : Nat) (n1635 : Nat), Sep (fps []) w [b13 g1632 r.1 r.2.1 A1633 m1634 n1635, r12 A1633 m1634 n1635 r.2.2] w' := by
  unfold quitrentref11_New.f at H
  go_enter Tryd.func134, Tryd.ntmps134
  go_wp2_with fail
  obtain ⟨t1612, HA1613, H⟩ := bind_some H
  refine (quitrentref10_Open.calls _ a1566 t1612 _ ⟨HGl0.out.pass (l := []) HS.out⟩ ⟨Sep.start _⟩ HA1613).mono ?_
  rintro e_ w1614 ⟨A1616, m1617, n1618, rfl, hS⟩
  replace HS : Aside0 (Sep (fps []) w [r12 A1616 m1617 n1618 t1612] w1614) := ⟨HS.out.call hS⟩
  clear hS
  obtain rfl := (row_len (HS.out.at0)).symm
  go_wp2_with (first | ((with_reducible refine gate_dst (N := 10) rfl ?_); refine box_on ?hg (N := 10) ?hd (cs := #[.int .i64 a1566, .int .i64 a1567, .slice A1616 t1612.length n1618, .slice none 0 0]) (t := 180) ?hr ?_; (case hd => rfl); (case hg => rfl); (case hr => first | (go_simp; done) | (go_simp; rfl)); intro g1620 hg w1621 hbox hb; replace HS : Aside0 (Sep (fps []) w [r12 A1616 t1612.length n1618 t1612, b13 g1620 a1566 a1567 A1616 t1612.length n1618] w1621) := ⟨HS.out.box hg hbox hb⟩; clear hg hbox hb))
  go_ret
  rw [← some_eq H]
  exact ⟨g1620, (by first | rfl | (simp [IntKind.wrap_u32]; done)), A1616, t1612.length, n1618, ((HS.out).front 1 (by simp)).keep (l := [b13 g1620 a1566 a1567 A1616 t1612.length n1618, r12 A1616 t1612.length n1618 t1612]) (rest := [])⟩

set_option maxHeartbeats 30000000 in
set_option maxRecDepth 100000 in
theorem quitrentref12_New.calls (k : Nat) (a1564 : Int) (a1565 : Int) (r : Int × Int × List Int × List Int × List Int) (w : World)  (HGl0 : Aside0 (Gl 0 #[.int .i64 0, .int .i64 0, .int .i64 0, .int .i64 0, .int .i64 0] (fps []) w)) (HS : Aside0 (Sep (fps []) w [] w)) (H : Aside0 (quitrentref12_New.f k a1564 a1565 = some r)) :
    Calls Tryd.prog 96 #[.int .i64 a1564, .int .i64 a1565] w fun e w' => ∃ (g1678 : Nat), e = .returned (.pointer (some ⟨g1678, 0, none⟩)) ∧ ∃ (g1679 : Nat) (A1680 : Option Addr) (m1681 : Nat) (n1682 : Nat) (A1684 : Option Addr) (m1685 : Nat) (n1686 : Nat) (A1688 : Option Addr) (m1689 : Nat) (n1690 : Nat), Sep (fps []) w [b16 g1678 g1679 0 0 0 0 0 0 0 0 0 A1680 m1681 n1682 A1684 m1685 n1686 0, b13 g1679 r.1 r.2.1 A1688 m1689 n1690, r12 A1680 m1681 n1682 r.2.2.1, r12 A1684 m1685 n1686 r.2.2.2.1, r12 A1688 m1689 n1690 r.2.2.2.2] w' := by
  unfold quitrentref12_New.f at H
  go_enter Tryd.func96, Tryd.ntmps96
  go_wp2_with fail
  obtain ⟨t1637, HA1638, H⟩ := bind_some H
  refine (quitrentref11_New.calls _ a1564 a1565 t1637 _ ⟨HGl0.out.pass (l := []) HS.out⟩ ⟨Sep.start _⟩ HA1638).mono ?_
  rintro e_ w1639 ⟨g1642, rfl, A1643, m1644, n1645, hS⟩
  replace HS : Aside0 (Sep (fps []) w [b13 g1642 t1637.1 t1637.2.1 A1643 m1644 n1645, r12 A1643 m1644 n1645 t1637.2.2] w1639) := ⟨HS.out.call hS⟩
  clear hS
  obtain rfl := (row_len (HS.out.at1)).symm
  go_wp2_with (first | ((with_reducible refine gate_dst (N := 9) rfl ?_); refine box_on ?hg (N := 9) ?hd (cs := #[.pointer (some ⟨g1642, 0, none⟩), .slice none 0 0, .int .i64 0, .int .i64 0, .int .i64 0, .int .i64 0, .int .i64 0, .int .i64 0, .int .i64 0, .int .i64 0, .int .i64 0, .slice none 0 0, .slice none 0 0, .int .i64 0]) (t := 162) ?hr ?_; (case hd => rfl); (case hg => rfl); (case hr => first | (go_simp; done) | (go_simp; rfl)); intro g1647 hg w1648 hbox hb; replace HS : Aside0 (Sep (fps []) w [b13 g1642 t1637.1 t1637.2.1 A1643 ((t1637.2.2).length) n1645, r12 A1643 ((t1637.2.2).length) n1645 t1637.2.2, b14 g1647 g1642 0 0 0 0 0 0 0 0 0 0] w1648) := ⟨HS.out.box hg hbox hb⟩; clear hg hbox hb; replace HS : Aside0 (Sep (fps []) w [r12 none 0 0 [], b13 g1642 t1637.1 t1637.2.1 A1643 ((t1637.2.2).length) n1645, r12 A1643 ((t1637.2.2).length) n1645 t1637.2.2, b15 g1647 g1642 0 0 0 0 0 0 0 0 0 none 0 0 0] w1648) := ⟨HS.out.nilrow 3 (Value.int .i64)⟩; replace HS : Aside0 (Sep (fps []) w [r12 none 0 0 [], r12 none 0 0 [], b13 g1642 t1637.1 t1637.2.1 A1643 ((t1637.2.2).length) n1645, r12 A1643 ((t1637.2.2).length) n1645 t1637.2.2, b16 g1647 g1642 0 0 0 0 0 0 0 0 0 none 0 0 none 0 0 0] w1648) := ⟨HS.out.nilrow 3 (Value.int .i64)⟩))
  go_ret
  rw [← some_eq H]
  exact ⟨g1647, (by first | rfl | (simp [IntKind.wrap_u32]; done)), g1642, none, 0, 0, none, 0, 0, A1643, ((t1637.2.2).length), n1645, ((((((HS.out).front 3 (by simp)).front 1 (by simp)).front 2 (by simp)).front 3 (by simp)).front 4 (by simp)).keep (l := [b16 g1647 g1642 0 0 0 0 0 0 0 0 0 none 0 0 none 0 0 0, b13 g1642 t1637.1 t1637.2.1 A1643 ((t1637.2.2).length) n1645, r12 none 0 0 [], r12 none 0 0 [], r12 A1643 ((t1637.2.2).length) n1645 t1637.2.2]) (rest := [])⟩

set_option maxHeartbeats 30000000 in
set_option maxRecDepth 100000 in
theorem quitrentlaw12_Opened.calls (k : Nat) (a13 : Int) (a14 : Int) (a15 : Int) (a16 : Int) (r : Bool ⊕ (Bool × Int × Int × Int × Int × Int × Int × Int × List Int × List Int × List Int × List Int)) (w : World)  (HGl0 : Aside0 (Gl 0 #[.int .i64 0, .int .i64 0, .int .i64 0, .int .i64 0, .int .i64 0] (fps []) w)) (HS : Aside0 (Sep (fps []) w [] w)) (H : Aside0 (quitrentlaw12_Opened.f k a13 a14 a15 a16 = some r)) :
    Calls Tryd.prog 33 #[.agg #[.int .i64 a13, .int .i64 a14, .int .i64 a15, .int .i64 a16]] w fun e w' => Sum.elim (fun (r : Bool) => e = .returned (.tuple #[.pointer none, .pointer none, .bool r]) ∧ Sep (fps []) w [] w') (fun (r : Bool × Int × Int × Int × Int × Int × Int × Int × List Int × List Int × List Int × List Int) => ∃ (g1803 : Nat) (g1804 : Nat), e = .returned (.tuple #[.pointer (some ⟨g1803, 0, none⟩), .pointer (some ⟨g1804, 0, none⟩), .bool r.1]) ∧ ∃ (g1805 : Nat) (g1806 : Nat) (A1807 : Option Addr) (m1808 : Nat) (n1809 : Nat) (A1811 : Option Addr) (m1812 : Nat) (n1813 : Nat) (A1815 : Option Addr) (m1816 : Nat) (n1817 : Nat) (A1819 : Option Addr) (m1820 : Nat) (n1821 : Nat), Sep (fps []) w [b8 g1803 g1805 r.2.1 r.2.2.1 r.2.2.2.1 r.2.2.2.2.1, b16 g1804 g1806 0 0 0 0 0 0 0 0 0 A1807 m1808 n1809 A1811 m1812 n1813 0, b7 g1805 A1815 m1816 n1817 r.2.2.2.2.2.1, b13 g1806 r.2.2.2.2.2.2.1 r.2.2.2.2.2.2.2.1 A1819 m1820 n1821, r12 A1807 m1808 n1809 r.2.2.2.2.2.2.2.2.1, r12 A1811 m1812 n1813 r.2.2.2.2.2.2.2.2.2.1, r6 A1815 m1816 n1817 r.2.2.2.2.2.2.2.2.2.2.1, r12 A1819 m1820 n1821 r.2.2.2.2.2.2.2.2.2.2.2] w') r := by
  unfold quitrentlaw12_Opened.f at H
  go_enter Tryd.func33, Tryd.ntmps33
  go_wp2_with (first | ((with_reducible refine gate_dst (N := 1) rfl ?_); refine box_on ?hg (N := 1) ?hd (cs := #[.int .i64 a13, .int .i64 a14, .int .i64 a15, .int .i64 a16]) (t := 30) ?hr ?_; (case hd => rfl); (case hg => rfl); (case hr => first | (go_simp; done) | (go_simp; rfl)); intro g1714 hg w1715 hbox hb; replace HS : Aside0 (Sep (fps []) w [b2 g1714 a13 a14 a15 a16] w1715) := ⟨HS.out.box hg hbox hb⟩; clear hg hbox hb; have hc1717 : w1715.cell? ⟨g1714, 0, none⟩ = some (.int .i64 a13) := blk_cellv (HS.out.at0) 0 rfl; have hc1718 : w1715.cell? ⟨g1714, 1, none⟩ = some (.int .i64 a14) := blk_cellv (HS.out.at0) 1 rfl; have hc1719 : w1715.cell? ⟨g1714, 2, none⟩ = some (.int .i64 a15) := blk_cellv (HS.out.at0) 2 rfl; have hc1720 : w1715.cell? ⟨g1714, 3, none⟩ = some (.int .i64 a16) := blk_cellv (HS.out.at0) 3 rfl))
  clear hc1717 hc1718 hc1719 hc1720
  obtain ⟨t1721, HA1722, H⟩ := bind_some H
  rcases t1721 with t1723 | (t1724 | t1725)
  · have H := sum_l H
    refine (ground_New.calls _ a13 a14 a15 a16 (.inl t1723) _ ⟨HGl0.out.pass (l := []) HS.out⟩ ⟨Sep.start _⟩ HA1722).mono ?_
    rintro e_ w1726 ⟨rfl, hS⟩
    replace HS : Aside0 (Sep (fps []) w [b2 g1714 a13 a14 a15 a16] w1726) := ⟨HS.out.call hS⟩
    clear hS
    replace HS : Aside0 (Sep (fps []) w [] w1726) := ⟨HS.out.sub (.cons _ .slnil)⟩
    go_wp2_with fail
    go_ret3
    rw [← some_eq H]
    exact ⟨(by first | rfl | (simp [IntKind.wrap_u32]; done)), HS.out⟩
  · have H := sum_r H
    have H := sum_l H
    refine (ground_New.calls _ a13 a14 a15 a16 (.inr (.inl t1724)) _ ⟨HGl0.out.pass (l := []) HS.out⟩ ⟨Sep.start _⟩ HA1722).mono ?_
    rintro e_ w1727 ⟨g1731, rfl, g1732, A1733, m1734, n1735, hS⟩
    replace HS : Aside0 (Sep (fps []) w [b8 g1731 g1732 t1724.1 t1724.2.1 t1724.2.2.1 t1724.2.2.2.1, b7 g1732 A1733 m1734 n1735 0, r6 A1733 m1734 n1735 t1724.2.2.2.2, b2 g1714 a13 a14 a15 a16] w1727) := ⟨HS.out.call hS⟩
    clear hS
    obtain rfl := (row_len (HS.out.at2)).symm
    go_wp2_with fail
    obtain ⟨t1737, HA1738, H⟩ := bind_some H
    refine (pool_Open.calls _ t1724.2.2.2.2 0 t1724.1 t1724.2.1 t1724.2.2.1 t1724.2.2.2.1 g1731 g1732 A1733 ((t1724.2.2.2.2).length) n1735 t1737 _ ⟨HGl0.out.pass HS.out⟩ ⟨HS.out.begin⟩ HA1738).mono ?_
    rintro e_ w1739 ⟨rfl, hS⟩
    replace HS : Aside0 (Sep (fps []) w [b8 g1731 g1732 t1724.1 t1724.2.1 t1724.2.2.1 t1724.2.2.2.1, b7 g1732 A1733 ((t1724.2.2.2.2).length) n1735 t1737.2.1, r6 A1733 ((t1724.2.2.2.2).length) n1735 t1737.2.2, b2 g1714 a13 a14 a15 a16] w1739) := ⟨HS.out.call hS⟩
    clear hS
    by_cases c1740 : t1737.1 = true
    · replace H := if_yes c1740 H
      have c1740b0 : t1737.1 = true := c1740
      have c1740b1 : (!t1737.1) = false := by rw [c1740b0]; rfl
      try rw [c1740b1]
      clear c1740
      have hc1741 : w1739.cell? ⟨g1714, 0, none⟩ = some (.int .i64 a13) := blk_cellv (HS.out.at3) 0 rfl
      have hc1742 : w1739.cell? ⟨g1714, 1, none⟩ = some (.int .i64 a14) := blk_cellv (HS.out.at3) 1 rfl
      go_wp2_with fail
      clear hc1741 hc1742
      obtain ⟨t1743, HA1744, H⟩ := bind_some H
      refine (quitrentref12_New.calls _ a13 a14 t1743 _ ⟨HGl0.out.pass (l := []) HS.out⟩ ⟨Sep.start _⟩ HA1744).mono ?_
      rintro e_ w1745 ⟨g1751, rfl, g1752, A1753, m1754, n1755, A1757, m1758, n1759, A1761, m1762, n1763, hS⟩
      replace HS : Aside0 (Sep (fps []) w [b16 g1751 g1752 0 0 0 0 0 0 0 0 0 A1753 m1754 n1755 A1757 m1758 n1759 0, b13 g1752 t1743.1 t1743.2.1 A1761 m1762 n1763, r12 A1753 m1754 n1755 t1743.2.2.1, r12 A1757 m1758 n1759 t1743.2.2.2.1, r12 A1761 m1762 n1763 t1743.2.2.2.2, b8 g1731 g1732 t1724.1 t1724.2.1 t1724.2.2.1 t1724.2.2.2.1, b7 g1732 A1733 ((t1724.2.2.2.2).length) n1735 t1737.2.1, r6 A1733 ((t1724.2.2.2.2).length) n1735 t1737.2.2, b2 g1714 a13 a14 a15 a16] w1745) := ⟨HS.out.call hS⟩
      clear hS
      obtain rfl := (row_len (HS.out.at2)).symm
      obtain rfl := (row_len (HS.out.at3)).symm
      obtain rfl := (row_len (HS.out.at4)).symm
      replace HS : Aside0 (Sep (fps []) w [b16 g1751 g1752 0 0 0 0 0 0 0 0 0 A1753 ((t1743.2.2.1).length) n1755 A1757 ((t1743.2.2.2.1).length) n1759 0, b13 g1752 t1743.1 t1743.2.1 A1761 ((t1743.2.2.2.2).length) n1763, r12 A1753 ((t1743.2.2.1).length) n1755 t1743.2.2.1, r12 A1757 ((t1743.2.2.2.1).length) n1759 t1743.2.2.2.1, r12 A1761 ((t1743.2.2.2.2).length) n1763 t1743.2.2.2.2, b8 g1731 g1732 t1724.1 t1724.2.1 t1724.2.2.1 t1724.2.2.2.1, b7 g1732 A1733 ((t1724.2.2.2.2).length) n1735 t1737.2.1, r6 A1733 ((t1724.2.2.2.2).length) n1735 t1737.2.2] w1745) := ⟨HS.out.sub (.cons_cons _ (.cons_cons _ (.cons_cons _ (.cons_cons _ (.cons_cons _ (.cons_cons _ (.cons_cons _ (.cons_cons _ (.cons _ .slnil)))))))))⟩
      go_wp2_with fail
      go_ret3
      rw [← some_eq H]
      exact ⟨g1731, g1751, (by first | rfl | (simp [IntKind.wrap_u32]; done)), g1732, g1752, A1753, ((t1743.2.2.1).length), n1755, A1757, ((t1743.2.2.2.1).length), n1759, A1733, ((t1724.2.2.2.2).length), n1735, A1761, ((t1743.2.2.2.2).length), n1763, (((((((((HS.out).front 4 (by simp)).front 7 (by simp)).front 5 (by simp)).front 5 (by simp)).front 5 (by simp)).front 7 (by simp)).front 6 (by simp)).front 7 (by simp)).keep (l := [b8 g1731 g1732 t1724.1 t1724.2.1 t1724.2.2.1 t1724.2.2.2.1, b16 g1751 g1752 0 0 0 0 0 0 0 0 0 A1753 ((t1743.2.2.1).length) n1755 A1757 ((t1743.2.2.2.1).length) n1759 0, b7 g1732 A1733 ((t1724.2.2.2.2).length) n1735 t1737.2.1, b13 g1752 t1743.1 t1743.2.1 A1761 ((t1743.2.2.2.2).length) n1763, r12 A1753 ((t1743.2.2.1).length) n1755 t1743.2.2.1, r12 A1757 ((t1743.2.2.2.1).length) n1759 t1743.2.2.2.1, r6 A1733 ((t1724.2.2.2.2).length) n1735 t1737.2.2, r12 A1761 ((t1743.2.2.2.2).length) n1763 t1743.2.2.2.2]) (rest := [])⟩
    · replace H := if_no c1740 H
      have c1740b0 : t1737.1 = false := by simpa using c1740
      have c1740b1 : (!t1737.1) = true := by rw [c1740b0]; rfl
      try rw [c1740b1]
      clear c1740
      replace HS : Aside0 (Sep (fps []) w [] w1739) := ⟨HS.out.sub (.cons _ (.cons _ (.cons _ (.cons _ .slnil))))⟩
      go_wp2_with fail
      go_ret3
      rw [← some_eq H]
      exact ⟨(by first | rfl | (simp [IntKind.wrap_u32]; done)), HS.out⟩
  · have H := sum_r H
    have H := sum_r H
    refine (ground_New.calls _ a13 a14 a15 a16 (.inr (.inr t1725)) _ ⟨HGl0.out.pass (l := []) HS.out⟩ ⟨Sep.start _⟩ HA1722).mono ?_
    rintro e_ w1793 ⟨rfl, hS⟩
    replace HS : Aside0 (Sep (fps []) w [b2 g1714 a13 a14 a15 a16] w1793) := ⟨HS.out.call hS⟩
    clear hS
    by_cases c1794 : t1725 = 0
    · replace H := if_yes c1794 H
      have c1794b0 : (t1725 == 0) = true := beq_iff_eq.mpr c1794
      have c1794b1 : (t1725 != 0) = false := bne_eq_false_iff_eq.mpr c1794
      clear c1794
      exact (none_no H).elim
    · replace H := if_no c1794 H
      have c1794b0 : (t1725 == 0) = false := beq_eq_false_iff_ne.mpr c1794
      have c1794b1 : (t1725 != 0) = true := bne_iff_ne.mpr c1794
      clear c1794
      replace HS : Aside0 (Sep (fps []) w [] w1793) := ⟨HS.out.sub (.cons _ .slnil)⟩
      go_wp2_with fail
      go_ret3
      rw [← some_eq H]
      exact ⟨(by first | rfl | (simp [IntKind.wrap_u32]; done)), HS.out⟩

set_option maxHeartbeats 30000000 in
set_option maxRecDepth 100000 in
theorem shape_isWidth.calls (a1895 : Int) (r : Bool) (w : World)  (HGl0 : Aside0 (Gl 0 #[.int .i64 0, .int .i64 0, .int .i64 0, .int .i64 0, .int .i64 0] (fps []) w)) (HS : Aside0 (Sep (fps []) w [] w)) (H : Aside0 (shape_isWidth.f a1895 = some r)) :
    Calls Tryd.prog 144 #[.int .i64 a1895] w fun e w' => e = .returned (.bool r) ∧ Sep (fps []) w [] w' := by
  unfold shape_isWidth.f at H
  go_enter Tryd.func144, Tryd.ntmps144
  by_cases c1896 : a1895 ≥ 16
  · replace H := if_yes c1896 H
    have c1896b0 : decide (16 ≤ a1895) = true := decide_eq_true c1896
    clear c1896
    go_wp2_with fail
    go_ret
    rw [← some_eq H]
    exact ⟨(by first | rfl | (simp [IntKind.wrap_u32]; done)), HS.out⟩
  · replace H := if_no c1896 H
    have c1896b0 : decide (16 ≤ a1895) = false := decide_eq_false c1896
    clear c1896
    go_wp2_with fail
    go_ret
    rw [← some_eq H]
    exact ⟨(by first | rfl | (simp [IntKind.wrap_u32]; done)), HS.out⟩

set_option maxHeartbeats 30000000 in
set_option maxRecDepth 100000 in
theorem shape_inHead.calls (a1902 : Int) (r : Int) (w : World)  (HGl0 : Aside0 (Gl 0 #[.int .i64 0, .int .i64 0, .int .i64 0, .int .i64 0, .int .i64 0] (fps []) w)) (HS : Aside0 (Sep (fps []) w [] w)) (H : Aside0 (shape_inHead.f a1902 = some r)) :
    Calls Tryd.prog 146 #[.int .i64 a1902] w fun e w' => e = .returned (.int .i64 r) ∧ Sep (fps []) w [] w' := by
  unfold shape_inHead.f at H
  go_enter Tryd.func146, Tryd.ntmps146
  go_wp2_with fail
  go_ret
  rw [← some_eq H]
  exact ⟨(by first | rfl | (simp [IntKind.wrap_u32]; done)), HS.out⟩

set_option maxHeartbeats 30000000 in
set_option maxRecDepth 100000 in
theorem shape_inLeaf.calls (a1906 : Int) (r : Int) (w : World)  (HGl0 : Aside0 (Gl 0 #[.int .i64 0, .int .i64 0, .int .i64 0, .int .i64 0, .int .i64 0] (fps []) w)) (HS : Aside0 (Sep (fps []) w [] w)) (H : Aside0 (shape_inLeaf.f a1906 = some r)) :
    Calls Tryd.prog 120 #[.int .i64 a1906] w fun e w' => e = .returned (.int .i64 r) ∧ Sep (fps []) w [] w' := by
  unfold shape_inLeaf.f at H
  go_enter Tryd.func120, Tryd.ntmps120
  go_wp2_with fail
  go_ret
  rw [← some_eq H]
  exact ⟨(by first | rfl | (simp [IntKind.wrap_u32]; done)), HS.out⟩

set_option maxHeartbeats 30000000 in
set_option maxRecDepth 100000 in
theorem shape_most.calls (a1901 : Int) (r : Int) (w : World)  (HGl0 : Aside0 (Gl 0 #[.int .i64 0, .int .i64 0, .int .i64 0, .int .i64 0, .int .i64 0] (fps []) w)) (HS : Aside0 (Sep (fps []) w [] w)) (H : Aside0 (shape_most.f a1901 = some r)) :
    Calls Tryd.prog 145 #[.int .i64 a1901] w fun e w' => e = .returned (.int .i64 r) ∧ Sep (fps []) w [] w' := by
  unfold shape_most.f at H
  go_enter Tryd.func145, Tryd.ntmps145
  go_wp2_with fail
  obtain ⟨t1903, HA1904, H⟩ := bind_some H
  refine (shape_inHead.calls a1901 t1903 _ ⟨HGl0.out.pass (l := []) HS.out⟩ ⟨Sep.start _⟩ HA1904).mono ?_
  rintro e_ w1905 ⟨rfl, hS⟩
  replace HS : Aside0 (Sep (fps []) w [] w1905) := ⟨HS.out.call hS⟩
  clear hS
  go_wp2_with fail
  obtain ⟨t1907, HA1908, H⟩ := bind_some H
  refine (shape_inLeaf.calls a1901 t1907 _ ⟨HGl0.out.pass (l := []) HS.out⟩ ⟨Sep.start _⟩ HA1908).mono ?_
  rintro e_ w1909 ⟨rfl, hS⟩
  replace HS : Aside0 (Sep (fps []) w [] w1909) := ⟨HS.out.call hS⟩
  clear hS
  go_wp2_with fail
  go_ret
  rw [← some_eq H]
  exact ⟨(by first | rfl | (simp [IntKind.wrap_u32]; done)), HS.out⟩

set_option maxHeartbeats 30000000 in
set_option maxRecDepth 100000 in
theorem shape_wrong.calls (k : Nat) (a1890 : Int) (l1891 : List Int) (A1892 : Option Addr) (n1893 : Nat) (r : Int) (w : World) (HR1894 : Aside0 (Rd (Kd.int .i64) (fps []) w A1892 l1891.length l1891)) (HGl0 : Aside0 (Gl 0 #[.int .i64 0, .int .i64 0, .int .i64 0, .int .i64 0, .int .i64 0] (fps []) w)) (HS : Aside0 (Sep (fps []) w [] w)) (H : Aside0 (shape_wrong.f k a1890 l1891 = some r)) :
    Calls Tryd.prog 118 #[.int .i64 a1890, .slice A1892 l1891.length n1893] w fun e w' => e = .returned (.int .i64 r) ∧ Sep (fps []) w [] w' := by
  unfold shape_wrong.f at H
  go_enter Tryd.func118, Tryd.ntmps118
  go_wp2_with fail
  obtain ⟨t1897, HA1898, H⟩ := bind_some H
  refine (shape_isWidth.calls a1890 t1897 _ ⟨HGl0.out.pass (l := []) HS.out⟩ ⟨Sep.start _⟩ HA1898).mono ?_
  rintro e_ w1899 ⟨rfl, hS⟩
  replace HS : Aside0 (Sep (fps []) w [] w1899) := ⟨HS.out.call hS⟩
  clear hS
  by_cases c1900 : t1897 = true
  · replace H := if_yes c1900 H
    have c1900b0 : t1897 = true := c1900
    have c1900b1 : (!t1897) = false := by rw [c1900b0]; rfl
    try rw [c1900b1]
    clear c1900
    go_wp2_with fail
    obtain ⟨t1910, HA1911, H⟩ := bind_some H
    refine (shape_most.calls a1890 t1910 _ ⟨HGl0.out.pass (l := []) HS.out⟩ ⟨Sep.start _⟩ HA1911).mono ?_
    rintro e_ w1912 ⟨rfl, hS⟩
    replace HS : Aside0 (Sep (fps []) w [] w1912) := ⟨HS.out.call hS⟩
    clear hS
    go_wp2_with fail
    obtain ⟨o1925, AL1926, H⟩ := bind_some H
    go_loopg [5, 15] k (fun kq v5 v15 wc => ∃ (x1929 : Int) (x1930 : Int), v5 = .int .i64 x1929 ∧ v15 = .int .i64 x1930 ∧ Aside0 (shape_wrong.lo0 kq l1891 x1929 x1930 = some o1925) ∧ Aside0 (Sep (fps []) w [] wc))
    case atStart => exact ⟨(t1910), (0), (by first | rfl | (simp [IntKind.wrap_u32]; done)), (by first | rfl | (simp [IntKind.wrap_u32]; done)), AL1926, ⟨HS.out⟩⟩
    case round =>
      clear AL1926 HS
      obtain ⟨x1929, x1930, rfl, rfl, AL1926, HS⟩ := hrel
      obtain ⟨w1927, rfl⟩ : ∃ x : World, x = wr := ⟨_, rfl⟩
      cases gk with
      | zero => exact absurd AL1926.out (by simp [shape_wrong.lo0])
      | succ k1928 =>
        have AL0 := AL1926.out
        rw [shape_wrong.lo0] at AL0
        clear AL1926
        have AL1926 := Aside0.mk AL0
        clear AL0
        by_cases c1931 : x1930 < (l1891.length : Int)
        · replace AL1926 := if_yes c1931 AL1926
          have c1931b0 : decide (x1930 < (l1891.length : Int)) = true := decide_eq_true c1931
          clear c1931
          by_cases c1932 : 0 ≤ x1930
          · replace AL1926 := if_yes c1932 AL1926
            have c1932b0 : decide (0 ≤ x1930) = true := decide_eq_true c1932
            have c1932p : (0 ≤ x1930) = True := eq_true c1932
            clear c1932
            have ip1933 : (x1930 < (l1891.length : Int)) = True := eq_true (of_decide_eq_true c1931b0)
            by_cases c1935 : (rd l1891 x1930) < 0
            · replace AL1926 := if_yes c1935 AL1926
              have c1935b0 : decide ((rd l1891 x1930) < 0) = true := decide_eq_true c1935
              clear c1935
              obtain ⟨hx1934a, hx1934e, hx1934⟩ := Kd.at_int (Rd.read (fun _ _ _ _ h => h) HR1894.out HS.out.fr) x1930 (of_decide_eq_true c1932b0) (of_decide_eq_true c1931b0); cases hx1934e
              go_wp2_with fail
              clear hx1934
              have ho := some_eq AL1926
              subst ho
              have H := lp_ret H
              go_ret
              rw [← some_eq H]
              exact ⟨(by first | rfl | (simp [IntKind.wrap_u32]; done)), HS.out⟩
            · replace AL1926 := if_no c1935 AL1926
              have c1935b0 : decide ((rd l1891 x1930) < 0) = false := decide_eq_false c1935
              clear c1935
              by_cases c1936 : (rd l1891 x1930) > x1929
              · replace AL1926 := if_yes c1936 AL1926
                have c1936b0 : decide (x1929 < (rd l1891 x1930)) = true := decide_eq_true c1936
                clear c1936
                obtain ⟨hx1934a, hx1934e, hx1934⟩ := Kd.at_int (Rd.read (fun _ _ _ _ h => h) HR1894.out HS.out.fr) x1930 (of_decide_eq_true c1932b0) (of_decide_eq_true c1931b0); cases hx1934e
                go_wp2_with fail
                clear hx1934
                have ho := some_eq AL1926
                subst ho
                have H := lp_ret H
                go_ret
                rw [← some_eq H]
                exact ⟨(by first | rfl | (simp [IntKind.wrap_u32]; done)), HS.out⟩
              · replace AL1926 := if_no c1936 AL1926
                have c1936b0 : decide (x1929 < (rd l1891 x1930)) = false := decide_eq_false c1936
                clear c1936
                obtain ⟨hx1934a, hx1934e, hx1934⟩ := Kd.at_int (Rd.read (fun _ _ _ _ h => h) HR1894.out HS.out.fr) x1930 (of_decide_eq_true c1932b0) (of_decide_eq_true c1931b0); cases hx1934e
                go_wp2_with fail
                clear hx1934
                go_roundg k1928
                case measure => exact Nat.lt_succ_self _
                case rel => exact ⟨(wrap64 (x1929 - (rd l1891 x1930))), (wrap64 (x1930 + 1)), (by first | rfl | (simp [IntKind.wrap_u32]; done)), (by first | rfl | (simp [IntKind.wrap_u32]; done)), Aside0.mk AL1926.out, ⟨HS.out⟩⟩
          · replace AL1926 := if_no c1932 AL1926
            have c1932b0 : decide (0 ≤ x1930) = false := decide_eq_false c1932
            clear c1932
            exact (none_no AL1926).elim
        · replace AL1926 := if_no c1931 AL1926
          have c1931b0 : decide (x1930 < (l1891.length : Int)) = false := decide_eq_false c1931
          clear c1931
          have ho := some_eq AL1926
          subst ho
          clear AL1926
          have H := lp_out H
          go_wp2_with fail
          go_ret
          rw [← some_eq H]
          exact ⟨(by first | rfl | (simp [IntKind.wrap_u32]; done)), HS.out⟩
  · replace H := if_no c1900 H
    have c1900b0 : t1897 = false := by simpa using c1900
    have c1900b1 : (!t1897) = true := by rw [c1900b0]; rfl
    try rw [c1900b1]
    clear c1900
    go_wp2_with fail
    go_ret
    rw [← some_eq H]
    exact ⟨(by first | rfl | (simp [IntKind.wrap_u32]; done)), HS.out⟩

set_option maxHeartbeats 30000000 in
set_option maxRecDepth 100000 in
theorem shape_leaves.calls (a1942 : Int) (a1943 : Int) (r : Int) (w : World)  (HGl0 : Aside0 (Gl 0 #[.int .i64 0, .int .i64 0, .int .i64 0, .int .i64 0, .int .i64 0] (fps []) w)) (HS : Aside0 (Sep (fps []) w [] w)) (H : Aside0 (shape_leaves.f a1942 a1943 = some r)) :
    Calls Tryd.prog 119 #[.int .i64 a1942, .int .i64 a1943] w fun e w' => e = .returned (.int .i64 r) ∧ Sep (fps []) w [] w' := by
  unfold shape_leaves.f at H
  go_enter Tryd.func119, Tryd.ntmps119
  go_wp2_with fail
  obtain ⟨t1944, HA1945, H⟩ := bind_some H
  refine (shape_inHead.calls a1942 t1944 _ ⟨HGl0.out.pass (l := []) HS.out⟩ ⟨Sep.start _⟩ HA1945).mono ?_
  rintro e_ w1946 ⟨rfl, hS⟩
  replace HS : Aside0 (Sep (fps []) w [] w1946) := ⟨HS.out.call hS⟩
  clear hS
  by_cases c1947 : a1943 ≤ t1944
  · replace H := if_yes c1947 H
    have c1947b0 : decide (a1943 ≤ t1944) = true := decide_eq_true c1947
    clear c1947
    go_wp2_with fail
    go_ret
    rw [← some_eq H]
    exact ⟨(by first | rfl | (simp [IntKind.wrap_u32]; done)), HS.out⟩
  · replace H := if_no c1947 H
    have c1947b0 : decide (a1943 ≤ t1944) = false := decide_eq_false c1947
    clear c1947
    go_wp2_with fail
    obtain ⟨t1948, HA1949, H⟩ := bind_some H
    refine (shape_inLeaf.calls a1942 t1948 _ ⟨HGl0.out.pass (l := []) HS.out⟩ ⟨Sep.start _⟩ HA1949).mono ?_
    rintro e_ w1950 ⟨rfl, hS⟩
    replace HS : Aside0 (Sep (fps []) w [] w1950) := ⟨HS.out.call hS⟩
    clear hS
    go_wp2_with fail
    obtain ⟨t1951, HA1952, H⟩ := bind_some H
    refine (ratio_Up.calls a1943 t1948 t1951 _ ⟨HGl0.out.pass (l := []) HS.out⟩ ⟨Sep.start _⟩ HA1952).mono ?_
    rintro e_ w1953 ⟨rfl, hS⟩
    replace HS : Aside0 (Sep (fps []) w [] w1953) := ⟨HS.out.call hS⟩
    clear hS
    go_wp2_with fail
    go_ret
    rw [← some_eq H]
    exact ⟨(by first | rfl | (simp [IntKind.wrap_u32]; done)), HS.out⟩

set_option maxHeartbeats 30000000 in
set_option maxRecDepth 100000 in
theorem shape_Blocks.calls (k : Nat) (a1884 : Int) (a1885 : Int) (a1886 : Int) (r : Int × Int) (w : World)  (HGl0 : Aside0 (Gl 0 #[.int .i64 0, .int .i64 0, .int .i64 0, .int .i64 0, .int .i64 0] (fps []) w)) (HS : Aside0 (Sep (fps []) w [] w)) (H : Aside0 (shape_Blocks.f k a1884 a1885 a1886 = some r)) :
    Calls Tryd.prog 97 #[.int .i64 a1884, .int .i64 a1885, .int .i64 a1886] w fun e w' => e = .returned (.tuple #[.int .i64 r.1, .int .i64 r.2]) ∧ Sep (fps []) w [] w' := by
  unfold shape_Blocks.f at H
  go_enter Tryd.func97, Tryd.ntmps97
  go_wp2_with (first | ((with_reducible refine gate_dst (N := 12) rfl ?_); refine slice_on (n := 2) ?hg (N := 12) ?hd (cs := #[.int .i64 a1885, .int .i64 a1886]) (t := 3) ?hr ?_; (case hd => rfl); (case hg => rfl); (case hr => first | (go_simp; done) | (go_simp; rfl)); intro g1887 hg w1888 hbox hb; replace HS : Aside0 (Sep (fps []) w [b4 g1887 a1885 a1886] w1888) := ⟨HS.out.box hg hbox hb⟩; clear hg hbox hb))
  obtain ⟨t1938, HA1939, H⟩ := bind_some H
  refine (shape_wrong.calls _ a1884 [a1885, a1886] (some ⟨g1887, 0, none⟩) 2 t1938 _ ⟨Rd.lit (l := []) (xs := [a1885, a1886]) HS.out 0 rfl (by simp)⟩ ⟨HGl0.out.pass (l := []) HS.out⟩ ⟨Sep.start _⟩ HA1939).mono ?_
  rintro e_ w1940 ⟨rfl, hS⟩
  replace HS : Aside0 (Sep (fps []) w [b4 g1887 a1885 a1886] w1940) := ⟨HS.out.call hS⟩
  clear hS
  by_cases c1941 : t1938 = 0
  · replace H := if_yes c1941 H
    have c1941b0 : (t1938 == 0) = true := beq_iff_eq.mpr c1941
    have c1941b1 : (t1938 != 0) = false := bne_eq_false_iff_eq.mpr c1941
    clear c1941
    replace HS : Aside0 (Sep (fps []) w [] w1940) := ⟨HS.out.sub (.cons _ .slnil)⟩
    go_wp2_with fail
    obtain ⟨t1954, HA1955, H⟩ := bind_some H
    refine (shape_leaves.calls a1884 (wrap64 (a1885 + a1886)) t1954 _ ⟨HGl0.out.pass (l := []) HS.out⟩ ⟨Sep.start _⟩ HA1955).mono ?_
    rintro e_ w1956 ⟨rfl, hS⟩
    replace HS : Aside0 (Sep (fps []) w [] w1956) := ⟨HS.out.call hS⟩
    clear hS
    go_wp2_with fail
    go_ret2
    rw [← some_eq H]
    exact ⟨(by first | rfl | (simp [IntKind.wrap_u32]; done)), HS.out⟩
  · replace H := if_no c1941 H
    have c1941b0 : (t1938 == 0) = false := beq_eq_false_iff_ne.mpr c1941
    have c1941b1 : (t1938 != 0) = true := bne_iff_ne.mpr c1941
    clear c1941
    replace HS : Aside0 (Sep (fps []) w [] w1940) := ⟨HS.out.sub (.cons _ .slnil)⟩
    go_wp2_with fail
    go_ret2
    rw [← some_eq H]
    exact ⟨(by first | rfl | (simp [IntKind.wrap_u32]; done)), HS.out⟩

set_option maxHeartbeats 30000000 in
set_option maxRecDepth 100000 in
theorem pool_Len.calls (l1966 : List Int) (a1971 : Int) (a1972 : Int) (a1973 : Int) (a1974 : Int) (a1975 : Int) (g1962 : Nat) (g1964 : Nat) (A1967 : Option Addr) (m1968 : Nat) (n1969 : Nat) (r : Int × Int) (w : World)  (HGl0 : Aside0 (Gl 0 #[.int .i64 0, .int .i64 0, .int .i64 0, .int .i64 0, .int .i64 0] (fps [b8 g1962 g1964 a1972 a1973 a1974 a1975, b7 g1964 A1967 m1968 n1969 a1971, r6 A1967 m1968 n1969 l1966]) w)) (HS : Aside0 (Sep (fps [b8 g1962 g1964 a1972 a1973 a1974 a1975, b7 g1964 A1967 m1968 n1969 a1971, r6 A1967 m1968 n1969 l1966]) w [b8 g1962 g1964 a1972 a1973 a1974 a1975, b7 g1964 A1967 m1968 n1969 a1971, r6 A1967 m1968 n1969 l1966] w)) (H : Aside0 (pool_Len.f l1966 a1971 a1972 a1973 a1974 a1975 = some r)) :
    Calls Tryd.prog 44 #[.pointer (some ⟨g1962, 0, none⟩)] w fun e w' => e = .returned (.int .i64 r.1) ∧ Sep (fps [b8 g1962 g1964 a1972 a1973 a1974 a1975, b7 g1964 A1967 m1968 n1969 a1971, r6 A1967 m1968 n1969 l1966]) w [b8 g1962 g1964 a1972 a1973 a1974 a1975, b7 g1964 A1967 m1968 n1969 r.2, r6 A1967 m1968 n1969 l1966] w' := by
  generalize (fps [b8 g1962 g1964 a1972 a1973 a1974 a1975, b7 g1964 A1967 m1968 n1969 a1971, r6 A1967 m1968 n1969 l1966]) = FF at HS HGl0 ⊢
  obtain rfl := (row_len (HS.out.at2)).symm
  unfold pool_Len.f at H
  go_enter Tryd.func44, Tryd.ntmps44
  go_wp2_with fail
  obtain ⟨t1979, HA1980, H⟩ := bind_some H
  refine (chain_Len.calls l1966 a1971 a1972 a1973 a1974 a1975 0 g1962 g1964 A1967 l1966.length n1969 t1979 _ ⟨HGl0.out.pass HS.out⟩ ⟨HS.out.begin⟩ HA1980).mono ?_
  rintro e_ w1981 ⟨rfl, hS⟩
  replace HS : Aside0 (Sep FF w [b8 g1962 g1964 a1972 a1973 a1974 a1975, b7 g1964 A1967 l1966.length n1969 t1979.2, r6 A1967 l1966.length n1969 l1966] w1981) := ⟨HS.out.call hS⟩
  clear hS
  go_wp2_with fail
  go_ret
  rw [← some_eq H]
  exact ⟨(by first | rfl | (simp [IntKind.wrap_u32]; done)), HS.out⟩

set_option maxHeartbeats 30000000 in
set_option maxRecDepth 100000 in
theorem ground_Ground_Word.calls (l2072 : List Int) (a2077 : Int) (a2078 : Int) (a2079 : Int) (a2080 : Int) (a2081 : Int) (a2082 : Int) (a2083 : Int) (g2068 : Nat) (g2070 : Nat) (A2073 : Option Addr) (m2074 : Nat) (n2075 : Nat) (r : Int × Int) (w : World)  (HGl0 : Aside0 (Gl 0 #[.int .i64 0, .int .i64 0, .int .i64 0, .int .i64 0, .int .i64 0] (fps [b8 g2068 g2070 a2078 a2079 a2080 a2081, b7 g2070 A2073 m2074 n2075 a2077, r6 A2073 m2074 n2075 l2072]) w)) (HS : Aside0 (Sep (fps [b8 g2068 g2070 a2078 a2079 a2080 a2081, b7 g2070 A2073 m2074 n2075 a2077, r6 A2073 m2074 n2075 l2072]) w [b8 g2068 g2070 a2078 a2079 a2080 a2081, b7 g2070 A2073 m2074 n2075 a2077, r6 A2073 m2074 n2075 l2072] w)) (H : Aside0 (ground_Ground_Word.f l2072 a2077 a2078 a2079 a2080 a2081 a2082 a2083 = some r)) :
    Calls Tryd.prog 84 #[.pointer (some ⟨g2068, 0, none⟩), .int .i64 a2082, .int .i64 a2083] w fun e w' => e = .returned (.int .u32 r.1) ∧ Sep (fps [b8 g2068 g2070 a2078 a2079 a2080 a2081, b7 g2070 A2073 m2074 n2075 a2077, r6 A2073 m2074 n2075 l2072]) w [b8 g2068 g2070 a2078 a2079 a2080 a2081, b7 g2070 A2073 m2074 n2075 r.2, r6 A2073 m2074 n2075 l2072] w' := by
  generalize (fps [b8 g2068 g2070 a2078 a2079 a2080 a2081, b7 g2070 A2073 m2074 n2075 a2077, r6 A2073 m2074 n2075 l2072]) = FF at HS HGl0 ⊢
  obtain rfl := (row_len (HS.out.at2)).symm
  unfold ground_Ground_Word.f at H
  go_enter Tryd.func84, Tryd.ntmps84
  go_wp2_with fail
  obtain ⟨t2093, HA2094, H⟩ := bind_some H
  refine (ground_Ground_all.calls l2072 a2077 a2078 a2079 a2080 a2081 g2068 g2070 A2073 l2072.length n2075 t2093 _ ⟨HGl0.out.pass HS.out⟩ ⟨HS.out.begin⟩ HA2094).mono ?_
  rintro e_ w2095 ⟨rfl, hS⟩
  replace HS : Aside0 (Sep FF w [b8 g2068 g2070 a2078 a2079 a2080 a2081, b7 g2070 A2073 l2072.length n2075 a2077, r6 A2073 l2072.length n2075 l2072] w2095) := ⟨HS.out.call hS⟩
  clear hS
  go_wp2_with fail
  obtain ⟨t2096, HA2097, H⟩ := bind_some H
  refine (ground_Ground_word.calls l2072 a2077 a2078 a2079 a2080 a2081 a2082 a2083 g2068 g2070 A2073 l2072.length n2075 t2096 _ ⟨HGl0.out.pass HS.out⟩ ⟨HS.out.begin⟩ HA2097).mono ?_
  rintro e_ w2098 ⟨rfl, hS⟩
  replace HS : Aside0 (Sep FF w [b8 g2068 g2070 a2078 a2079 a2080 a2081, b7 g2070 A2073 l2072.length n2075 a2077, r6 A2073 l2072.length n2075 l2072] w2098) := ⟨HS.out.call hS⟩
  clear hS
  go_wp2_with fail
  replace HS : Aside0 (Sep FF w [r6 A2073 l2072.length n2075 l2072, b8 g2068 g2070 a2078 a2079 a2080 a2081, b7 g2070 A2073 l2072.length n2075 a2077] w2098) := ⟨HS.out.front 2 (by simp)⟩
  replace HS : Aside0 (Sep FF w [b7 g2070 A2073 l2072.length n2075 a2077, r6 A2073 l2072.length n2075 l2072, b8 g2068 g2070 a2078 a2079 a2080 a2081] w2098) := ⟨HS.out.front 2 (by simp)⟩
  obtain ⟨t2099, HA2100, H⟩ := bind_some H
  refine (store_Store_Get.calls l2072 a2077 t2096 g2070 A2073 l2072.length n2075 t2099 _ ⟨HGl0.out.pass HS.out⟩ ⟨HS.out.begin⟩ HA2100).mono ?_
  rintro e_ w2101 ⟨rfl, hS⟩
  replace HS : Aside0 (Sep FF w [b7 g2070 A2073 l2072.length n2075 t2099.2, r6 A2073 l2072.length n2075 l2072, b8 g2068 g2070 a2078 a2079 a2080 a2081] w2101) := ⟨HS.out.call hS⟩
  clear hS
  go_wp2_with fail
  go_ret
  rw [← some_eq H]
  exact ⟨(by first | rfl | (simp [IntKind.wrap_u32]; done)), ((((HS.out).front 1 (by simp)).front 1 (by simp)).front 2 (by simp)).keep (l := [b8 g2068 g2070 a2078 a2079 a2080 a2081, b7 g2070 A2073 l2072.length n2075 t2099.2, r6 A2073 l2072.length n2075 l2072]) (rest := [])⟩

set_option maxHeartbeats 30000000 in
set_option maxRecDepth 100000 in
theorem chain_Take.calls (l2018 : List Int) (a2023 : Int) (a2024 : Int) (a2025 : Int) (a2026 : Int) (a2027 : Int) (a2028 : Int) (g2014 : Nat) (g2016 : Nat) (A2019 : Option Addr) (m2020 : Nat) (n2021 : Nat) (r : Int × Bool × Int × List Int) (w : World)  (HGl0 : Aside0 (Gl 0 #[.int .i64 0, .int .i64 0, .int .i64 0, .int .i64 0, .int .i64 0] (fps [b8 g2014 g2016 a2024 a2025 a2026 a2027, b7 g2016 A2019 m2020 n2021 a2023, r6 A2019 m2020 n2021 l2018]) w)) (HS : Aside0 (Sep (fps [b8 g2014 g2016 a2024 a2025 a2026 a2027, b7 g2016 A2019 m2020 n2021 a2023, r6 A2019 m2020 n2021 l2018]) w [b8 g2014 g2016 a2024 a2025 a2026 a2027, b7 g2016 A2019 m2020 n2021 a2023, r6 A2019 m2020 n2021 l2018] w)) (H : Aside0 (chain_Take.f l2018 a2023 a2024 a2025 a2026 a2027 a2028 = some r)) :
    Calls Tryd.prog 135 #[.pointer (some ⟨g2014, 0, none⟩), .int .i64 a2028] w fun e w' => e = .returned (.tuple #[.int .i64 r.1, .bool r.2.1]) ∧ Sep (fps [b8 g2014 g2016 a2024 a2025 a2026 a2027, b7 g2016 A2019 m2020 n2021 a2023, r6 A2019 m2020 n2021 l2018]) w [b8 g2014 g2016 a2024 a2025 a2026 a2027, b7 g2016 A2019 m2020 n2021 r.2.2.1, r6 A2019 m2020 n2021 r.2.2.2] w' := by
  generalize (fps [b8 g2014 g2016 a2024 a2025 a2026 a2027, b7 g2016 A2019 m2020 n2021 a2023, r6 A2019 m2020 n2021 l2018]) = FF at HS HGl0 ⊢
  obtain rfl := (row_len (HS.out.at2)).symm
  unfold chain_Take.f at H
  go_enter Tryd.func135, Tryd.ntmps135
  go_wp2_with fail
  obtain ⟨t2125, HA2126, H⟩ := bind_some H
  refine (chain_of.calls l2018 a2023 a2024 a2025 a2026 a2027 a2028 g2014 g2016 A2019 l2018.length n2021 t2125 _ ⟨HGl0.out.pass HS.out⟩ ⟨HS.out.begin⟩ HA2126).mono ?_
  rintro e_ w2127 ⟨rfl, hS⟩
  replace HS : Aside0 (Sep FF w [b8 g2014 g2016 a2024 a2025 a2026 a2027, b7 g2016 A2019 l2018.length n2021 a2023, r6 A2019 l2018.length n2021 l2018] w2127) := ⟨HS.out.call hS⟩
  clear hS
  by_cases c2138 : t2125.2.2.2 = true
  · replace H := if_yes c2138 H
    have c2138b0 : t2125.2.2.2 = true := c2138
    have c2138b1 : (!t2125.2.2.2) = false := by rw [c2138b0]; rfl
    try rw [c2138b1]
    clear c2138
    go_wp2_with (first | ((with_reducible refine gate_dst (N := 6) rfl ?_); refine box_on ?hg (N := 6) ?hd (cs := #[.int .i64 0, .int .i64 0, .int .i64 0]) (t := 166) ?hr ?_; (case hd => rfl); (case hg => rfl); (case hr => first | (go_simp; done) | (go_simp; rfl)); intro g2128 hg w2129 hbox hb; replace HS : Aside0 (Sep FF w [b8 g2014 g2016 a2024 a2025 a2026 a2027, b7 g2016 A2019 l2018.length n2021 a2023, r6 A2019 l2018.length n2021 l2018, b9 g2128 0 0 0] w2129) := ⟨HS.out.box hg hbox hb⟩; clear hg hbox hb; have hc2131 : w2129.cell? ⟨g2128, 0, none⟩ = some (.int .i64 0) := blk_cellv (HS.out.at3) 0 rfl; have hz2132 : w2129.frozen? ⟨g2128, 0, none⟩ = false := blk_fz (HS.out.at3) 0; have hc2133 : w2129.cell? ⟨g2128, 1, none⟩ = some (.int .i64 0) := blk_cellv (HS.out.at3) 1 rfl; have hz2134 : w2129.frozen? ⟨g2128, 1, none⟩ = false := blk_fz (HS.out.at3) 1; have hc2135 : w2129.cell? ⟨g2128, 2, none⟩ = some (.int .i64 0) := blk_cellv (HS.out.at3) 2 rfl; have hz2136 : w2129.frozen? ⟨g2128, 2, none⟩ = false := blk_fz (HS.out.at3) 2) | ((with_reducible refine gate_store (t := 166) (p := 6) rfl ?_); refine store_event (w1 := (World.setCell (World.setCell (World.setCell w2129 ⟨g2128, 0, none⟩ (.int .i64 t2125.1)) ⟨g2128, 1, none⟩ (.int .i64 t2125.2.1)) ⟨g2128, 2, none⟩ (.int .i64 t2125.2.2.1))) rfl (t := 166) (p := 6) rfl rfl ?hr ?_; (case hr => first | (go_simp; done) | (go_simp; rfl)); intro w2137 hst; clear hc2131 hz2132 hc2133 hz2134 hc2135 hz2136; replace HS : Aside0 (Sep FF w [b8 g2014 g2016 a2024 a2025 a2026 a2027, b7 g2016 A2019 l2018.length n2021 a2023, r6 A2019 l2018.length n2021 l2018, b9 g2128 t2125.1 t2125.2.1 t2125.2.2.1] w2137) := ⟨by rw [hst]; exact HS.out.setAll (l1 := [b8 g2014 g2016 a2024 a2025 a2026 a2027, b7 g2016 A2019 l2018.length n2021 a2023, r6 A2019 l2018.length n2021 l2018]) (l2 := []) [.int .i64 t2125.1, .int .i64 t2125.2.1, .int .i64 t2125.2.2.1] rfl⟩; clear hst; have hc2139 : w2137.cell? ⟨g2128, 0, none⟩ = some (.int .i64 t2125.1) := blk_cellv (HS.out.at3) 0 rfl))
    clear hc2139
    obtain ⟨t2140, HA2141, H⟩ := bind_some H
    refine (ground_Ground_Reg.calls l2018 a2023 a2024 a2025 a2026 a2027 t2125.1 g2014 g2016 A2019 l2018.length n2021 t2140 _ ⟨HGl0.out.pass HS.out⟩ ⟨HS.out.begin⟩ HA2141).mono ?_
    rintro e_ w2142 ⟨rfl, hS⟩
    replace HS : Aside0 (Sep FF w [b8 g2014 g2016 a2024 a2025 a2026 a2027, b7 g2016 A2019 l2018.length n2021 t2140.2, r6 A2019 l2018.length n2021 l2018, b9 g2128 t2125.1 t2125.2.1 t2125.2.2.1] w2142) := ⟨HS.out.call hS⟩
    clear hS
    by_cases c2143 : t2140.1 = 0
    · replace H := if_yes c2143 H
      have c2143b0 : (t2140.1 == 0) = true := beq_iff_eq.mpr c2143
      have c2143b1 : (t2140.1 != 0) = false := bne_eq_false_iff_eq.mpr c2143
      clear c2143
      replace HS : Aside0 (Sep FF w [b8 g2014 g2016 a2024 a2025 a2026 a2027, b7 g2016 A2019 l2018.length n2021 t2140.2, r6 A2019 l2018.length n2021 l2018] w2142) := ⟨HS.out.sub (.cons_cons _ (.cons_cons _ (.cons_cons _ (.cons _ .slnil))))⟩
      go_wp2_with fail
      go_ret2
      rw [← some_eq H]
      exact ⟨(by first | rfl | (simp [IntKind.wrap_u32]; done)), HS.out⟩
    · replace H := if_no c2143 H
      have c2143b0 : (t2140.1 == 0) = false := beq_eq_false_iff_ne.mpr c2143
      have c2143b1 : (t2140.1 != 0) = true := bne_iff_ne.mpr c2143
      clear c2143
      go_wp2_with fail
      obtain ⟨t2144, HA2145, H⟩ := bind_some H
      refine (ground_Ground_Word.calls l2018 t2140.2 a2024 a2025 a2026 a2027 (wrap64 (t2140.1 - 1)) 5 g2014 g2016 A2019 l2018.length n2021 t2144 _ ⟨HGl0.out.pass HS.out⟩ ⟨HS.out.begin⟩ HA2145).mono ?_
      rintro e_ w2146 ⟨rfl, hS⟩
      replace HS : Aside0 (Sep FF w [b8 g2014 g2016 a2024 a2025 a2026 a2027, b7 g2016 A2019 l2018.length n2021 t2144.2, r6 A2019 l2018.length n2021 l2018, b9 g2128 t2125.1 t2125.2.1 t2125.2.2.1] w2146) := ⟨HS.out.call hS⟩
      clear hS
      go_wp2_with fail
      obtain ⟨t2147, HA2148, H⟩ := bind_some H
      refine (ground_Ground_SetWord.calls l2018 t2144.2 a2024 a2025 a2026 a2027 (wrap64 (t2140.1 - 1)) 5 0 g2014 g2016 A2019 l2018.length n2021 t2147 _ ⟨HGl0.out.pass HS.out⟩ ⟨HS.out.begin⟩ HA2148).mono ?_
      rintro e_ w2149 ⟨rfl, hS⟩
      replace HS : Aside0 (Sep FF w [b8 g2014 g2016 a2024 a2025 a2026 a2027, b7 g2016 A2019 l2018.length n2021 t2147.2.1, r6 A2019 l2018.length n2021 t2147.2.2, b9 g2128 t2125.1 t2125.2.1 t2125.2.2.1] w2149) := ⟨HS.out.call hS⟩
      clear hS
      have hc2150 : w2149.cell? ⟨g2128, 0, none⟩ = some (.int .i64 t2125.1) := blk_cellv (HS.out.at3) 0 rfl
      go_wp2_with fail
      clear hc2150
      obtain ⟨t2151, HA2152, H⟩ := bind_some H
      refine (ground_Ground_SetReg.calls t2147.2.2 t2147.2.1 a2024 a2025 a2026 a2027 t2125.1 (wrap64 (t2144.1)) g2014 g2016 A2019 l2018.length n2021 t2151 _ ⟨HGl0.out.pass HS.out⟩ ⟨HS.out.begin⟩ HA2152).mono ?_
      rintro e_ w2153 ⟨rfl, hS⟩
      replace HS : Aside0 (Sep FF w [b8 g2014 g2016 a2024 a2025 a2026 a2027, b7 g2016 A2019 l2018.length n2021 t2151.2.1, r6 A2019 l2018.length n2021 t2151.2.2, b9 g2128 t2125.1 t2125.2.1 t2125.2.2.1] w2153) := ⟨HS.out.call hS⟩
      clear hS
      by_cases c2154 : (wrap64 (t2144.1)) = 0
      · replace H := if_yes c2154 H
        have c2154b0 : ((wrap64 (t2144.1)) == 0) = true := beq_iff_eq.mpr c2154
        have c2154b1 : ((wrap64 (t2144.1)) != 0) = false := bne_eq_false_iff_eq.mpr c2154
        clear c2154
        have hc2155 : w2153.cell? ⟨g2128, 1, none⟩ = some (.int .i64 t2125.2.1) := blk_cellv (HS.out.at3) 1 rfl
        go_wp2_with fail
        clear hc2155
        obtain ⟨t2156, HA2157, H⟩ := bind_some H
        refine (ground_Ground_SetReg.calls t2151.2.2 t2151.2.1 a2024 a2025 a2026 a2027 t2125.2.1 0 g2014 g2016 A2019 l2018.length n2021 t2156 _ ⟨HGl0.out.pass HS.out⟩ ⟨HS.out.begin⟩ HA2157).mono ?_
        rintro e_ w2158 ⟨rfl, hS⟩
        replace HS : Aside0 (Sep FF w [b8 g2014 g2016 a2024 a2025 a2026 a2027, b7 g2016 A2019 l2018.length n2021 t2156.2.1, r6 A2019 l2018.length n2021 t2156.2.2, b9 g2128 t2125.1 t2125.2.1 t2125.2.2.1] w2158) := ⟨HS.out.call hS⟩
        clear hS
        go_wp2_with fail
        refine start_ (n := 9) (S := (fun w' => w'.cell? ⟨g2128, 2, none⟩ = some (.int .i64 t2125.2.2.1))) (ds := []) #[false, false, false, false, false, false, false, false, false] (by kernel_rfl) rfl rfl (blk_cellv ((HS.out.drew).at3) 2 rfl) (fun hHeld => ?_)
        have HS_ := Aside0.mk HS.out.drew
        clear HS
        generalize World.drew _ = w2160 at HS_ hHeld ⊢
        have HS := HS_
        clear HS_
        refine pure_ (i := 0) (N := some 44) (v := ?_) (a' := ?_) #[true, false, false, false, false, false, false, false, false] rfl rfl (by kernel_rfl) (fun _ _ _ h => h) (Or.inl ⟨by rfl, ?_⟩) ?_ ?_
        rotate_left
        · intro w'
          go_simp
          with_reducible rfl
        rotate_left
        · simp only [Act.put, List.setIfInBounds_toArray, List.set_cons_zero, List.set_cons_succ, i64_w, i32_w]
          rfl
        refine pure_ (i := 1) (N := some 45) (v := ?_) (a' := ?_) #[true, true, false, false, false, false, false, false, false] rfl rfl (by kernel_rfl) (fun _ _ _ h => h) (Or.inl ⟨by rfl, ?_⟩) ?_ ?_
        rotate_left
        · intro w'
          go_simp
          with_reducible rfl
        rotate_left
        · simp only [Act.put, List.setIfInBounds_toArray, List.set_cons_zero, List.set_cons_succ, i64_w, i32_w]
          rfl
        refine pure_ (i := 3) (N := some 47) (v := ?_) (a' := ?_) #[true, true, false, true, false, false, false, false, false] rfl rfl (by kernel_rfl) (fun _ _ _ h => h) (Or.inl ⟨by rfl, ?_⟩) ?_ ?_
        rotate_left
        · intro w'
          go_simp
          with_reducible rfl
        rotate_left
        · simp only [Act.put, List.setIfInBounds_toArray, List.set_cons_zero, List.set_cons_succ, i64_w, i32_w]
          rfl
        refine pure_ (i := 4) (N := some 48) (v := ?_) (a' := ?_) #[true, true, false, true, true, false, false, false, false] rfl rfl (by kernel_rfl) (fun _ _ _ h => h) (Or.inl ⟨by rfl, ?_⟩) ?_ ?_
        rotate_left
        · intro w'
          go_simp
          with_reducible rfl
        rotate_left
        · simp only [Act.put, List.setIfInBounds_toArray, List.set_cons_zero, List.set_cons_succ, i64_w, i32_w]
          rfl
        refine take_ (i := 2) (N := some 46) (v := ?_) (a' := ?_) #[true, true, true, true, true, false, false, false, false] rfl rfl (by kernel_rfl) (fun _ _ _ h => h) (Or.inl ⟨by rfl, ?_⟩) hHeld ?_ ?_
        rotate_left
        · rintro w' hS'
          have s0 := hS'
          go_simp
          with_reducible rfl
        rotate_left
        · simp only [Act.put, List.setIfInBounds_toArray, List.set_cons_zero, List.set_cons_succ, i64_w, i32_w]
          rfl
        refine take_ (i := 5) (N := some 49) (v := ?_) (a' := ?_) #[true, true, true, true, true, true, false, false, false] rfl rfl (by kernel_rfl) (fun _ _ _ h => h) (Or.inl ⟨by rfl, ?_⟩) hHeld ?_ ?_
        rotate_left
        · rintro w' hS'
          have s0 := hS'
          go_simp
          with_reducible rfl
        rotate_left
        · simp only [Act.put, List.setIfInBounds_toArray, List.set_cons_zero, List.set_cons_succ, i64_w, i32_w]
          rfl
        refine one_ (i := 6) (N := some 50) #[true, true, true, true, true, true, true, false, false] rfl rfl (by kernel_rfl) (by decide) (fun K hK => ?_)
        obtain ⟨t2161, HA2162, H⟩ := bind_some H
        refine goes_ Tryd.func81 (by kernel_rfl) rfl #[.pointer (some ⟨g2014, 0, none⟩), .int .i64 t2125.2.2.1] (by rfl) rfl rfl (by (try simp only [List.map_toArray, List.map_cons, List.map_nil]); first | done | rfl) ?_
        refine (ground_Ground_Reg.calls t2156.2.2 t2156.2.1 a2024 a2025 a2026 a2027 t2125.2.2.1 g2014 g2016 A2019 l2018.length n2021 t2161 _ ⟨HGl0.out.pass HS.out⟩ ⟨HS.out.begin⟩ HA2162).mono ?_
        rintro e_ w2163 ⟨rfl, hS⟩
        replace HS : Aside0 (Sep FF w [b8 g2014 g2016 a2024 a2025 a2026 a2027, b7 g2016 A2019 l2018.length n2021 t2161.2, r6 A2019 l2018.length n2021 t2156.2.2, b9 g2128 t2125.1 t2125.2.1 t2125.2.2.1] w2163) := ⟨HS.out.call hS⟩
        clear hS
        refine ⟨_, rfl, ?_⟩
        refine hK.out _ _ (blk_cellv (HS.out.at3) 2 rfl) (fun hHeld => ?_)
        clear hK K
        refine norm_ (a' := ?_) ?_ ?_
        rotate_left
        · show Act.put _ (some 50) _ = _
          simp only [Act.put, List.setIfInBounds_toArray, List.set_cons_zero, List.set_cons_succ, i64_w, i32_w]
          rfl
        refine pure_ (i := 7) (N := some 51) (v := ?_) (a' := ?_) #[true, true, true, true, true, true, true, true, false] rfl rfl (by kernel_rfl) (fun _ _ _ h => h) (Or.inl ⟨by rfl, ?_⟩) ?_ ?_
        rotate_left
        · intro w'
          go_simp
          with_reducible rfl
        rotate_left
        · simp only [Act.put, List.setIfInBounds_toArray, List.set_cons_zero, List.set_cons_succ, i64_w, i32_w]
          rfl
        refine one_ (i := 8) (N := some 52) #[true, true, true, true, true, true, true, true, true] rfl rfl (by kernel_rfl) (by decide) (fun K hK => ?_)
        obtain ⟨t2164, HA2165, H⟩ := bind_some H
        refine goes_ Tryd.func83 (by kernel_rfl) rfl #[.pointer (some ⟨g2014, 0, none⟩), .int .i64 t2125.2.2.1, .int .i64 (wrap64 (t2161.1 - 1))] (by rfl) rfl rfl (by (try simp only [List.map_toArray, List.map_cons, List.map_nil]); first | done | rfl) ?_
        refine (ground_Ground_SetReg.calls t2156.2.2 t2161.2 a2024 a2025 a2026 a2027 t2125.2.2.1 (wrap64 (t2161.1 - 1)) g2014 g2016 A2019 l2018.length n2021 t2164 _ ⟨HGl0.out.pass HS.out⟩ ⟨HS.out.begin⟩ HA2165).mono ?_
        rintro e_ w2166 ⟨rfl, hS⟩
        replace HS : Aside0 (Sep FF w [b8 g2014 g2016 a2024 a2025 a2026 a2027, b7 g2016 A2019 l2018.length n2021 t2164.2.1, r6 A2019 l2018.length n2021 t2164.2.2, b9 g2128 t2125.1 t2125.2.1 t2125.2.2.1] w2166) := ⟨HS.out.call hS⟩
        clear hS
        refine ⟨_, rfl, ?_⟩
        refine hK.out _ _ (blk_cellv (HS.out.at3) 2 rfl) (fun hHeld => ?_)
        clear hK K
        refine norm_ (a' := ?_) ?_ ?_
        rotate_left
        · show Act.put _ (some 52) _ = _
          simp only [Act.put, List.setIfInBounds_toArray, List.set_cons_zero, List.set_cons_succ, i64_w, i32_w]
          rfl
        refine done_ (by kernel_rfl) ?_
        replace HS : Aside0 (Sep FF w [b8 g2014 g2016 a2024 a2025 a2026 a2027, b7 g2016 A2019 l2018.length n2021 t2164.2.1, r6 A2019 l2018.length n2021 t2164.2.2] w2166) := ⟨HS.out.sub (.cons_cons _ (.cons_cons _ (.cons_cons _ (.cons _ .slnil))))⟩
        go_wp2_with fail
        go_ret2
        rw [← some_eq H]
        exact ⟨(by first | rfl | (simp [IntKind.wrap_u32]; done)), HS.out⟩
      · replace H := if_no c2154 H
        have c2154b0 : ((wrap64 (t2144.1)) == 0) = false := beq_eq_false_iff_ne.mpr c2154
        have c2154b1 : ((wrap64 (t2144.1)) != 0) = true := bne_iff_ne.mpr c2154
        clear c2154
        go_wp2_with fail
        refine start_ (n := 9) (S := (fun w' => w'.cell? ⟨g2128, 2, none⟩ = some (.int .i64 t2125.2.2.1))) (ds := []) #[false, false, false, false, false, false, false, false, false] (by kernel_rfl) rfl rfl (blk_cellv ((HS.out.drew).at3) 2 rfl) (fun hHeld => ?_)
        have HS_ := Aside0.mk HS.out.drew
        clear HS
        generalize World.drew _ = w2168 at HS_ hHeld ⊢
        have HS := HS_
        clear HS_
        refine pure_ (i := 0) (N := some 44) (v := ?_) (a' := ?_) #[true, false, false, false, false, false, false, false, false] rfl rfl (by kernel_rfl) (fun _ _ _ h => h) (Or.inl ⟨by rfl, ?_⟩) ?_ ?_
        rotate_left
        · intro w'
          go_simp
          with_reducible rfl
        rotate_left
        · simp only [Act.put, List.setIfInBounds_toArray, List.set_cons_zero, List.set_cons_succ, i64_w, i32_w]
          rfl
        refine pure_ (i := 1) (N := some 45) (v := ?_) (a' := ?_) #[true, true, false, false, false, false, false, false, false] rfl rfl (by kernel_rfl) (fun _ _ _ h => h) (Or.inl ⟨by rfl, ?_⟩) ?_ ?_
        rotate_left
        · intro w'
          go_simp
          with_reducible rfl
        rotate_left
        · simp only [Act.put, List.setIfInBounds_toArray, List.set_cons_zero, List.set_cons_succ, i64_w, i32_w]
          rfl
        refine pure_ (i := 3) (N := some 47) (v := ?_) (a' := ?_) #[true, true, false, true, false, false, false, false, false] rfl rfl (by kernel_rfl) (fun _ _ _ h => h) (Or.inl ⟨by rfl, ?_⟩) ?_ ?_
        rotate_left
        · intro w'
          go_simp
          with_reducible rfl
        rotate_left
        · simp only [Act.put, List.setIfInBounds_toArray, List.set_cons_zero, List.set_cons_succ, i64_w, i32_w]
          rfl
        refine pure_ (i := 4) (N := some 48) (v := ?_) (a' := ?_) #[true, true, false, true, true, false, false, false, false] rfl rfl (by kernel_rfl) (fun _ _ _ h => h) (Or.inl ⟨by rfl, ?_⟩) ?_ ?_
        rotate_left
        · intro w'
          go_simp
          with_reducible rfl
        rotate_left
        · simp only [Act.put, List.setIfInBounds_toArray, List.set_cons_zero, List.set_cons_succ, i64_w, i32_w]
          rfl
        refine take_ (i := 2) (N := some 46) (v := ?_) (a' := ?_) #[true, true, true, true, true, false, false, false, false] rfl rfl (by kernel_rfl) (fun _ _ _ h => h) (Or.inl ⟨by rfl, ?_⟩) hHeld ?_ ?_
        rotate_left
        · rintro w' hS'
          have s0 := hS'
          go_simp
          with_reducible rfl
        rotate_left
        · simp only [Act.put, List.setIfInBounds_toArray, List.set_cons_zero, List.set_cons_succ, i64_w, i32_w]
          rfl
        refine take_ (i := 5) (N := some 49) (v := ?_) (a' := ?_) #[true, true, true, true, true, true, false, false, false] rfl rfl (by kernel_rfl) (fun _ _ _ h => h) (Or.inl ⟨by rfl, ?_⟩) hHeld ?_ ?_
        rotate_left
        · rintro w' hS'
          have s0 := hS'
          go_simp
          with_reducible rfl
        rotate_left
        · simp only [Act.put, List.setIfInBounds_toArray, List.set_cons_zero, List.set_cons_succ, i64_w, i32_w]
          rfl
        refine one_ (i := 6) (N := some 50) #[true, true, true, true, true, true, true, false, false] rfl rfl (by kernel_rfl) (by decide) (fun K hK => ?_)
        obtain ⟨t2161, HA2169, H⟩ := bind_some H
        refine goes_ Tryd.func81 (by kernel_rfl) rfl #[.pointer (some ⟨g2014, 0, none⟩), .int .i64 t2125.2.2.1] (by rfl) rfl rfl (by (try simp only [List.map_toArray, List.map_cons, List.map_nil]); first | done | rfl) ?_
        refine (ground_Ground_Reg.calls t2151.2.2 t2151.2.1 a2024 a2025 a2026 a2027 t2125.2.2.1 g2014 g2016 A2019 l2018.length n2021 t2161 _ ⟨HGl0.out.pass HS.out⟩ ⟨HS.out.begin⟩ HA2169).mono ?_
        rintro e_ w2170 ⟨rfl, hS⟩
        replace HS : Aside0 (Sep FF w [b8 g2014 g2016 a2024 a2025 a2026 a2027, b7 g2016 A2019 l2018.length n2021 t2161.2, r6 A2019 l2018.length n2021 t2151.2.2, b9 g2128 t2125.1 t2125.2.1 t2125.2.2.1] w2170) := ⟨HS.out.call hS⟩
        clear hS
        refine ⟨_, rfl, ?_⟩
        refine hK.out _ _ (blk_cellv (HS.out.at3) 2 rfl) (fun hHeld => ?_)
        clear hK K
        refine norm_ (a' := ?_) ?_ ?_
        rotate_left
        · show Act.put _ (some 50) _ = _
          simp only [Act.put, List.setIfInBounds_toArray, List.set_cons_zero, List.set_cons_succ, i64_w, i32_w]
          rfl
        refine pure_ (i := 7) (N := some 51) (v := ?_) (a' := ?_) #[true, true, true, true, true, true, true, true, false] rfl rfl (by kernel_rfl) (fun _ _ _ h => h) (Or.inl ⟨by rfl, ?_⟩) ?_ ?_
        rotate_left
        · intro w'
          go_simp
          with_reducible rfl
        rotate_left
        · simp only [Act.put, List.setIfInBounds_toArray, List.set_cons_zero, List.set_cons_succ, i64_w, i32_w]
          rfl
        refine one_ (i := 8) (N := some 52) #[true, true, true, true, true, true, true, true, true] rfl rfl (by kernel_rfl) (by decide) (fun K hK => ?_)
        obtain ⟨t2164, HA2171, H⟩ := bind_some H
        refine goes_ Tryd.func83 (by kernel_rfl) rfl #[.pointer (some ⟨g2014, 0, none⟩), .int .i64 t2125.2.2.1, .int .i64 (wrap64 (t2161.1 - 1))] (by rfl) rfl rfl (by (try simp only [List.map_toArray, List.map_cons, List.map_nil]); first | done | rfl) ?_
        refine (ground_Ground_SetReg.calls t2151.2.2 t2161.2 a2024 a2025 a2026 a2027 t2125.2.2.1 (wrap64 (t2161.1 - 1)) g2014 g2016 A2019 l2018.length n2021 t2164 _ ⟨HGl0.out.pass HS.out⟩ ⟨HS.out.begin⟩ HA2171).mono ?_
        rintro e_ w2172 ⟨rfl, hS⟩
        replace HS : Aside0 (Sep FF w [b8 g2014 g2016 a2024 a2025 a2026 a2027, b7 g2016 A2019 l2018.length n2021 t2164.2.1, r6 A2019 l2018.length n2021 t2164.2.2, b9 g2128 t2125.1 t2125.2.1 t2125.2.2.1] w2172) := ⟨HS.out.call hS⟩
        clear hS
        refine ⟨_, rfl, ?_⟩
        refine hK.out _ _ (blk_cellv (HS.out.at3) 2 rfl) (fun hHeld => ?_)
        clear hK K
        refine norm_ (a' := ?_) ?_ ?_
        rotate_left
        · show Act.put _ (some 52) _ = _
          simp only [Act.put, List.setIfInBounds_toArray, List.set_cons_zero, List.set_cons_succ, i64_w, i32_w]
          rfl
        refine done_ (by kernel_rfl) ?_
        replace HS : Aside0 (Sep FF w [b8 g2014 g2016 a2024 a2025 a2026 a2027, b7 g2016 A2019 l2018.length n2021 t2164.2.1, r6 A2019 l2018.length n2021 t2164.2.2] w2172) := ⟨HS.out.sub (.cons_cons _ (.cons_cons _ (.cons_cons _ (.cons _ .slnil))))⟩
        go_wp2_with fail
        go_ret2
        rw [← some_eq H]
        exact ⟨(by first | rfl | (simp [IntKind.wrap_u32]; done)), HS.out⟩
  · replace H := if_no c2138 H
    have c2138b0 : t2125.2.2.2 = false := by simpa using c2138
    have c2138b1 : (!t2125.2.2.2) = true := by rw [c2138b0]; rfl
    try rw [c2138b1]
    clear c2138
    go_wp2_with (first | ((with_reducible refine gate_dst (N := 6) rfl ?_); refine box_on ?hg (N := 6) ?hd (cs := #[.int .i64 0, .int .i64 0, .int .i64 0]) (t := 166) ?hr ?_; (case hd => rfl); (case hg => rfl); (case hr => first | (go_simp; done) | (go_simp; rfl)); intro g2128 hg w2129 hbox hb; replace HS : Aside0 (Sep FF w [b8 g2014 g2016 a2024 a2025 a2026 a2027, b7 g2016 A2019 l2018.length n2021 a2023, r6 A2019 l2018.length n2021 l2018, b9 g2128 0 0 0] w2129) := ⟨HS.out.box hg hbox hb⟩; clear hg hbox hb; have hc2131 : w2129.cell? ⟨g2128, 0, none⟩ = some (.int .i64 0) := blk_cellv (HS.out.at3) 0 rfl; have hz2132 : w2129.frozen? ⟨g2128, 0, none⟩ = false := blk_fz (HS.out.at3) 0; have hc2133 : w2129.cell? ⟨g2128, 1, none⟩ = some (.int .i64 0) := blk_cellv (HS.out.at3) 1 rfl; have hz2134 : w2129.frozen? ⟨g2128, 1, none⟩ = false := blk_fz (HS.out.at3) 1; have hc2135 : w2129.cell? ⟨g2128, 2, none⟩ = some (.int .i64 0) := blk_cellv (HS.out.at3) 2 rfl; have hz2136 : w2129.frozen? ⟨g2128, 2, none⟩ = false := blk_fz (HS.out.at3) 2) | ((with_reducible refine gate_store (t := 166) (p := 6) rfl ?_); refine store_event (w1 := (World.setCell (World.setCell (World.setCell w2129 ⟨g2128, 0, none⟩ (.int .i64 t2125.1)) ⟨g2128, 1, none⟩ (.int .i64 t2125.2.1)) ⟨g2128, 2, none⟩ (.int .i64 t2125.2.2.1))) rfl (t := 166) (p := 6) rfl rfl ?hr ?_; (case hr => first | (go_simp; done) | (go_simp; rfl)); intro w2137 hst; clear hc2131 hz2132 hc2133 hz2134 hc2135 hz2136; replace HS : Aside0 (Sep FF w [b8 g2014 g2016 a2024 a2025 a2026 a2027, b7 g2016 A2019 l2018.length n2021 a2023, r6 A2019 l2018.length n2021 l2018, b9 g2128 t2125.1 t2125.2.1 t2125.2.2.1] w2137) := ⟨by rw [hst]; exact HS.out.setAll (l1 := [b8 g2014 g2016 a2024 a2025 a2026 a2027, b7 g2016 A2019 l2018.length n2021 a2023, r6 A2019 l2018.length n2021 l2018]) (l2 := []) [.int .i64 t2125.1, .int .i64 t2125.2.1, .int .i64 t2125.2.2.1] rfl⟩; clear hst; replace HS : Aside0 (Sep FF w [b8 g2014 g2016 a2024 a2025 a2026 a2027, b7 g2016 A2019 l2018.length n2021 a2023, r6 A2019 l2018.length n2021 l2018] w2137) := ⟨HS.out.sub (.cons_cons _ (.cons_cons _ (.cons_cons _ (.cons _ .slnil))))⟩))
    go_ret2
    rw [← some_eq H]
    exact ⟨(by first | rfl | (simp [IntKind.wrap_u32]; done)), HS.out⟩

set_option maxHeartbeats 30000000 in
set_option maxRecDepth 100000 in
theorem ground_Ground_Wipe.calls (k : Nat) (l2182 : List Int) (a2187 : Int) (a2188 : Int) (a2189 : Int) (a2190 : Int) (a2191 : Int) (a2192 : Int) (g2178 : Nat) (g2180 : Nat) (A2183 : Option Addr) (m2184 : Nat) (n2185 : Nat) (r : Int × Int × List Int) (w : World)  (HGl0 : Aside0 (Gl 0 #[.int .i64 0, .int .i64 0, .int .i64 0, .int .i64 0, .int .i64 0] (fps [b8 g2178 g2180 a2188 a2189 a2190 a2191, b7 g2180 A2183 m2184 n2185 a2187, r6 A2183 m2184 n2185 l2182]) w)) (HS : Aside0 (Sep (fps [b8 g2178 g2180 a2188 a2189 a2190 a2191, b7 g2180 A2183 m2184 n2185 a2187, r6 A2183 m2184 n2185 l2182]) w [b8 g2178 g2180 a2188 a2189 a2190 a2191, b7 g2180 A2183 m2184 n2185 a2187, r6 A2183 m2184 n2185 l2182] w)) (H : Aside0 (ground_Ground_Wipe.f k l2182 a2187 a2188 a2189 a2190 a2191 a2192 = some r)) :
    Calls Tryd.prog 136 #[.pointer (some ⟨g2178, 0, none⟩), .int .i64 a2192] w fun e w' => e = .returned (.int .i64 r.1) ∧ Sep (fps [b8 g2178 g2180 a2188 a2189 a2190 a2191, b7 g2180 A2183 m2184 n2185 a2187, r6 A2183 m2184 n2185 l2182]) w [b8 g2178 g2180 a2188 a2189 a2190 a2191, b7 g2180 A2183 m2184 n2185 r.2.1, r6 A2183 m2184 n2185 r.2.2] w' := by
  generalize (fps [b8 g2178 g2180 a2188 a2189 a2190 a2191, b7 g2180 A2183 m2184 n2185 a2187, r6 A2183 m2184 n2185 l2182]) = FF at HS HGl0 ⊢
  obtain rfl := (row_len (HS.out.at2)).symm
  unfold ground_Ground_Wipe.f at H
  go_enter Tryd.func136, Tryd.ntmps136
  go_wp2_with fail
  obtain ⟨t2221, HA2222, H⟩ := bind_some H
  refine (ground_Ground_Conf.calls l2182 a2187 a2188 a2189 a2190 a2191 g2178 g2180 A2183 l2182.length n2185 t2221 _ ⟨HGl0.out.pass HS.out⟩ ⟨HS.out.begin⟩ HA2222).mono ?_
  rintro e_ w2223 ⟨rfl, hS⟩
  replace HS : Aside0 (Sep FF w [b8 g2178 g2180 a2188 a2189 a2190 a2191, b7 g2180 A2183 l2182.length n2185 a2187, r6 A2183 l2182.length n2185 l2182] w2223) := ⟨HS.out.call hS⟩
  clear hS
  have fl2224 : ∀ w, (Instr.field 30 (.agg #[.int .i64 t2221.1, .int .i64 t2221.2.1, .int .i64 t2221.2.2.1, .int .i64 t2221.2.2.2]) 1).run Tryd.prog w = .ok (.int .i64 t2221.2.1) w := fun _ => by kernel_rfl
  go_wp2_with fail
  clear fl2224
  obtain ⟨o2237, AL2238, H⟩ := bind_some H
  go_loopg [5, 10] k (fun kq v5 v10 wc => ∃ (x2241 : Int) (x2242 : Int) (x2243 : List Int) (x2244 : Int), v5 = .int .i64 x2241 ∧ v10 = .int .i64 x2242 ∧ Aside0 (ground_Ground_Wipe.lo0 kq a2188 a2189 a2190 a2191 a2192 t2221 x2241 x2242 x2243 x2244 = some o2237) ∧ Aside0 (Sep FF w [b8 g2178 g2180 a2188 a2189 a2190 a2191, b7 g2180 A2183 l2182.length n2185 x2244, r6 A2183 l2182.length n2185 x2243] wc))
  case atStart => exact ⟨(0), (0), (l2182), (a2187), (by first | rfl | (simp [IntKind.wrap_u32]; done)), (by first | rfl | (simp [IntKind.wrap_u32]; done)), AL2238, ⟨HS.out⟩⟩
  case round =>
    clear AL2238 HS
    obtain ⟨x2241, x2242, x2243, x2244, rfl, rfl, AL2238, HS⟩ := hrel
    obtain ⟨w2239, rfl⟩ : ∃ x : World, x = wr := ⟨_, rfl⟩
    cases gk with
    | zero => exact absurd AL2238.out (by simp [ground_Ground_Wipe.lo0])
    | succ k2240 =>
      have AL0 := AL2238.out
      rw [ground_Ground_Wipe.lo0] at AL0
      clear AL2238
      have AL2238 := Aside0.mk AL0
      clear AL0
      by_cases c2245 : x2242 < t2221.2.1
      · replace AL2238 := if_yes c2245 AL2238
        have c2245b0 : decide (x2242 < t2221.2.1) = true := decide_eq_true c2245
        clear c2245
        go_wp2_with fail
        obtain ⟨t2233, HA2246, AL2238⟩ := bind_some AL2238
        refine (ground_Ground_SetWord.calls x2243 x2244 a2188 a2189 a2190 a2191 a2192 x2242 0 g2178 g2180 A2183 l2182.length n2185 t2233 _ ⟨HGl0.out.pass HS.out⟩ ⟨HS.out.begin⟩ HA2246).mono ?_
        rintro e_ w2247 ⟨rfl, hS⟩
        replace HS : Aside0 (Sep FF w [b8 g2178 g2180 a2188 a2189 a2190 a2191, b7 g2180 A2183 l2182.length n2185 t2233.2.1, r6 A2183 l2182.length n2185 t2233.2.2] w2247) := ⟨HS.out.call hS⟩
        clear hS
        by_cases c2248 : t2233.1 = true
        · replace AL2238 := if_yes c2248 AL2238
          have c2248b0 : t2233.1 = true := c2248
          have c2248b1 : (!t2233.1) = false := by rw [c2248b0]; rfl
          clear c2248
          go_wp2_with fail
          go_roundg k2240
          case measure => exact Nat.lt_succ_self _
          case rel => exact ⟨(wrap64 (x2241 + 1)), (wrap64 (x2242 + 1)), (t2233.2.2), (t2233.2.1), (by first | rfl | (simp [IntKind.wrap_u32]; done)), (by first | rfl | (simp [IntKind.wrap_u32]; done)), Aside0.mk AL2238.out, ⟨HS.out⟩⟩
        · replace AL2238 := if_no c2248 AL2238
          have c2248b0 : t2233.1 = false := by simpa using c2248
          have c2248b1 : (!t2233.1) = true := by rw [c2248b0]; rfl
          clear c2248
          go_wp2_with fail
          go_roundg k2240
          case measure => exact Nat.lt_succ_self _
          case rel => exact ⟨(x2241), (wrap64 (x2242 + 1)), (t2233.2.2), (t2233.2.1), (by first | rfl | (simp [IntKind.wrap_u32]; done)), (by first | rfl | (simp [IntKind.wrap_u32]; done)), Aside0.mk AL2238.out, ⟨HS.out⟩⟩
      · replace AL2238 := if_no c2245 AL2238
        have c2245b0 : decide (x2242 < t2221.2.1) = false := decide_eq_false c2245
        clear c2245
        have ho := some_eq AL2238
        subst ho
        clear AL2238
        go_wp2_with fail
        go_ret
        rw [← some_eq H]
        exact ⟨(by first | rfl | (simp [IntKind.wrap_u32]; done)), HS.out⟩

set_option maxHeartbeats 30000000 in
set_option maxRecDepth 100000 in
theorem pool_Take.calls (k : Nat) (l2003 : List Int) (a2008 : Int) (a2009 : Int) (a2010 : Int) (a2011 : Int) (a2012 : Int) (g1999 : Nat) (g2001 : Nat) (A2004 : Option Addr) (m2005 : Nat) (n2006 : Nat) (r : Int × Bool × Int × List Int) (w : World)  (HGl0 : Aside0 (Gl 0 #[.int .i64 0, .int .i64 0, .int .i64 0, .int .i64 0, .int .i64 0] (fps [b8 g1999 g2001 a2009 a2010 a2011 a2012, b7 g2001 A2004 m2005 n2006 a2008, r6 A2004 m2005 n2006 l2003]) w)) (HS : Aside0 (Sep (fps [b8 g1999 g2001 a2009 a2010 a2011 a2012, b7 g2001 A2004 m2005 n2006 a2008, r6 A2004 m2005 n2006 l2003]) w [b8 g1999 g2001 a2009 a2010 a2011 a2012, b7 g2001 A2004 m2005 n2006 a2008, r6 A2004 m2005 n2006 l2003] w)) (H : Aside0 (pool_Take.f k l2003 a2008 a2009 a2010 a2011 a2012 = some r)) :
    Calls Tryd.prog 98 #[.pointer (some ⟨g1999, 0, none⟩)] w fun e w' => e = .returned (.tuple #[.int .i64 r.1, .bool r.2.1]) ∧ Sep (fps [b8 g1999 g2001 a2009 a2010 a2011 a2012, b7 g2001 A2004 m2005 n2006 a2008, r6 A2004 m2005 n2006 l2003]) w [b8 g1999 g2001 a2009 a2010 a2011 a2012, b7 g2001 A2004 m2005 n2006 r.2.2.1, r6 A2004 m2005 n2006 r.2.2.2] w' := by
  generalize (fps [b8 g1999 g2001 a2009 a2010 a2011 a2012, b7 g2001 A2004 m2005 n2006 a2008, r6 A2004 m2005 n2006 l2003]) = FF at HS HGl0 ⊢
  obtain rfl := (row_len (HS.out.at2)).symm
  unfold pool_Take.f at H
  go_enter Tryd.func98, Tryd.ntmps98
  go_wp2_with fail
  obtain ⟨t2253, HA2254, H⟩ := bind_some H
  refine (chain_Take.calls l2003 a2008 a2009 a2010 a2011 a2012 0 g1999 g2001 A2004 l2003.length n2006 t2253 _ ⟨HGl0.out.pass HS.out⟩ ⟨HS.out.begin⟩ HA2254).mono ?_
  rintro e_ w2255 ⟨rfl, hS⟩
  replace HS : Aside0 (Sep FF w [b8 g1999 g2001 a2009 a2010 a2011 a2012, b7 g2001 A2004 l2003.length n2006 t2253.2.2.1, r6 A2004 l2003.length n2006 t2253.2.2.2] w2255) := ⟨HS.out.call hS⟩
  clear hS
  by_cases c2256 : t2253.2.1 = true
  · replace H := if_yes c2256 H
    have c2256b0 : t2253.2.1 = true := c2256
    have c2256b1 : (!t2253.2.1) = false := by rw [c2256b0]; rfl
    try rw [c2256b1]
    clear c2256
    go_wp2_with fail
    obtain ⟨t2257, HA2258, H⟩ := bind_some H
    refine (ground_Ground_Wipe.calls _ t2253.2.2.2 t2253.2.2.1 a2009 a2010 a2011 a2012 t2253.1 g1999 g2001 A2004 l2003.length n2006 t2257 _ ⟨HGl0.out.pass HS.out⟩ ⟨HS.out.begin⟩ HA2258).mono ?_
    rintro e_ w2259 ⟨rfl, hS⟩
    replace HS : Aside0 (Sep FF w [b8 g1999 g2001 a2009 a2010 a2011 a2012, b7 g2001 A2004 l2003.length n2006 t2257.2.1, r6 A2004 l2003.length n2006 t2257.2.2] w2259) := ⟨HS.out.call hS⟩
    clear hS
    go_wp2_with fail
    go_ret2
    rw [← some_eq H]
    exact ⟨(by first | rfl | (simp [IntKind.wrap_u32]; done)), HS.out⟩
  · replace H := if_no c2256 H
    have c2256b0 : t2253.2.1 = false := by simpa using c2256
    have c2256b1 : (!t2253.2.1) = true := by rw [c2256b0]; rfl
    try rw [c2256b1]
    clear c2256
    go_wp2_with fail
    go_ret2
    rw [← some_eq H]
    exact ⟨(by first | rfl | (simp [IntKind.wrap_u32]; done)), HS.out⟩

set_option maxHeartbeats 30000000 in
set_option maxRecDepth 100000 in
theorem tag_marks.calls (a2331 : Int) (a2332 : Int) (a2333 : Int) (a2334 : Int) (a2335 : Int) (a2336 : Int) (a2337 : Int) (r : Int × Int × Int × Int × Int) (w : World)  (HGl0 : Aside0 (Gl 0 #[.int .i64 0, .int .i64 0, .int .i64 0, .int .i64 0, .int .i64 0] (fps []) w)) (HS : Aside0 (Sep (fps []) w [] w)) (H : Aside0 (tag_marks.f a2331 a2332 a2333 a2334 a2335 a2336 a2337 = some r)) :
    Calls Tryd.prog 68 #[.agg #[.int .i64 a2331, .int .i64 a2332, .int .i64 a2333, .int .i64 a2334, .int .i64 a2335, .int .i64 a2336, .int .i64 a2337]] w fun e w' => e = .returned (.agg #[.int .i64 r.1, .int .i64 r.2.1, .int .i64 r.2.2.1, .int .i64 r.2.2.2.1, .int .i64 r.2.2.2.2]) ∧ Sep (fps []) w [] w' := by
  unfold tag_marks.f at H
  go_enter Tryd.func68, Tryd.ntmps68
  go_wp2_with (first | ((with_reducible refine gate_dst (N := 1) rfl ?_); refine box_on ?hg (N := 1) ?hd (cs := #[.int .i64 a2331, .int .i64 a2332, .int .i64 a2333, .int .i64 a2334, .int .i64 a2335, .int .i64 a2336, .int .i64 a2337]) (t := 32) ?hr ?_; (case hd => rfl); (case hg => rfl); (case hr => first | (go_simp; done) | (go_simp; rfl)); intro g2338 hg w2339 hbox hb; replace HS : Aside0 (Sep (fps []) w [b17 g2338 a2331 a2332 a2333 a2334 a2335 a2336 a2337] w2339) := ⟨HS.out.box hg hbox hb⟩; clear hg hbox hb) | ((with_reducible refine gate_dst (N := 2) rfl ?_); refine box_on ?hg (N := 2) ?hd (cs := #[.int .i64 0, .int .i64 0, .int .i64 0, .int .i64 0, .int .i64 0]) (t := 108) ?hr ?_; (case hd => rfl); (case hg => rfl); (case hr => first | (go_simp; done) | (go_simp; rfl)); intro g2341 hg w2342 hbox hb; replace HS : Aside0 (Sep (fps []) w [b17 g2338 a2331 a2332 a2333 a2334 a2335 a2336 a2337, b18 g2341 0 0 0 0 0] w2342) := ⟨HS.out.box hg hbox hb⟩; clear hg hbox hb; have hc2344 : w2342.cell? ⟨g2338, 1, none⟩ = some (.int .i64 a2332) := blk_cellv (HS.out.at0) 1 rfl; have hc2345 : w2342.cell? ⟨g2338, 2, none⟩ = some (.int .i64 a2333) := blk_cellv (HS.out.at0) 2 rfl; have hc2346 : w2342.cell? ⟨g2338, 3, none⟩ = some (.int .i64 a2334) := blk_cellv (HS.out.at0) 3 rfl; have hc2347 : w2342.cell? ⟨g2338, 4, none⟩ = some (.int .i64 a2335) := blk_cellv (HS.out.at0) 4 rfl; have hc2348 : w2342.cell? ⟨g2338, 5, none⟩ = some (.int .i64 a2336) := blk_cellv (HS.out.at0) 5 rfl; have hc2349 : w2342.cell? ⟨g2341, 0, none⟩ = some (.int .i64 0) := blk_cellv (HS.out.at1) 0 rfl; have hz2350 : w2342.frozen? ⟨g2341, 0, none⟩ = false := blk_fz (HS.out.at1) 0; have hc2351 : w2342.cell? ⟨g2341, 1, none⟩ = some (.int .i64 0) := blk_cellv (HS.out.at1) 1 rfl; have hz2352 : w2342.frozen? ⟨g2341, 1, none⟩ = false := blk_fz (HS.out.at1) 1; have hc2353 : w2342.cell? ⟨g2341, 2, none⟩ = some (.int .i64 0) := blk_cellv (HS.out.at1) 2 rfl; have hz2354 : w2342.frozen? ⟨g2341, 2, none⟩ = false := blk_fz (HS.out.at1) 2; have hc2355 : w2342.cell? ⟨g2341, 3, none⟩ = some (.int .i64 0) := blk_cellv (HS.out.at1) 3 rfl; have hz2356 : w2342.frozen? ⟨g2341, 3, none⟩ = false := blk_fz (HS.out.at1) 3; have hc2357 : w2342.cell? ⟨g2341, 4, none⟩ = some (.int .i64 0) := blk_cellv (HS.out.at1) 4 rfl; have hz2358 : w2342.frozen? ⟨g2341, 4, none⟩ = false := blk_fz (HS.out.at1) 4) | ((with_reducible refine gate_store (t := 108) (p := 2) rfl ?_); refine store_event (w1 := (World.setCell (World.setCell (World.setCell (World.setCell (World.setCell w2342 ⟨g2341, 0, none⟩ (.int .i64 a2332)) ⟨g2341, 1, none⟩ (.int .i64 a2333)) ⟨g2341, 2, none⟩ (.int .i64 a2334)) ⟨g2341, 3, none⟩ (.int .i64 a2335)) ⟨g2341, 4, none⟩ (.int .i64 a2336))) rfl (t := 108) (p := 2) rfl rfl ?hr ?_; (case hr => first | (go_simp; done) | (go_simp; rfl)); intro w2359 hst; clear hc2344 hc2345 hc2346 hc2347 hc2348 hc2349 hz2350 hc2351 hz2352 hc2353 hz2354 hc2355 hz2356 hc2357 hz2358; replace HS : Aside0 (Sep (fps []) w [b17 g2338 a2331 a2332 a2333 a2334 a2335 a2336 a2337, b18 g2341 a2332 a2333 a2334 a2335 a2336] w2359) := ⟨by rw [hst]; exact HS.out.setAll (l1 := [b17 g2338 a2331 a2332 a2333 a2334 a2335 a2336 a2337]) (l2 := []) [.int .i64 a2332, .int .i64 a2333, .int .i64 a2334, .int .i64 a2335, .int .i64 a2336] rfl⟩; clear hst; replace HS : Aside0 (Sep (fps []) w [b18 g2341 a2332 a2333 a2334 a2335 a2336] w2359) := ⟨HS.out.sub (.cons _ (.cons_cons _ .slnil))⟩))
  have hc2360 : w2359.cell? ⟨g2341, 0, none⟩ = some (.int .i64 a2332) := blk_cellv (HS.out.at0) 0 rfl
  have hc2361 : w2359.cell? ⟨g2341, 1, none⟩ = some (.int .i64 a2333) := blk_cellv (HS.out.at0) 1 rfl
  have hc2362 : w2359.cell? ⟨g2341, 2, none⟩ = some (.int .i64 a2334) := blk_cellv (HS.out.at0) 2 rfl
  have hc2363 : w2359.cell? ⟨g2341, 3, none⟩ = some (.int .i64 a2335) := blk_cellv (HS.out.at0) 3 rfl
  have hc2364 : w2359.cell? ⟨g2341, 4, none⟩ = some (.int .i64 a2336) := blk_cellv (HS.out.at0) 4 rfl
  refine bodyPost_ret (v := .agg #[.int .i64 a2332, .int .i64 a2333, .int .i64 a2334, .int .i64 a2335, .int .i64 a2336]) (by simp [results, Tryd.results68, go_sem, hc2360, hc2361, hc2362, hc2363, hc2364]) rfl ?_
  rw [← some_eq H]
  exact ⟨(by first | rfl | (simp [IntKind.wrap_u32]; done)), HS.out.sub (.cons _ .slnil)⟩

set_option maxHeartbeats 30000000 in
set_option maxRecDepth 100000 in
theorem tag_Right.calls (k : Nat) (a2314 : Int) (a2315 : Int) (a2316 : Int) (a2317 : Int) (a2318 : Int) (a2319 : Int) (a2320 : Int) (r : Bool) (w : World)  (HGl0 : Aside0 (Gl 0 #[.int .i64 0, .int .i64 0, .int .i64 0, .int .i64 0, .int .i64 0] (fps []) w)) (HS : Aside0 (Sep (fps []) w [] w)) (H : Aside0 (tag_Right.f k a2314 a2315 a2316 a2317 a2318 a2319 a2320 = some r)) :
    Calls Tryd.prog 67 #[.agg #[.int .i64 a2314, .int .i64 a2315, .int .i64 a2316, .int .i64 a2317, .int .i64 a2318, .int .i64 a2319, .int .i64 a2320]] w fun e w' => e = .returned (.bool r) ∧ Sep (fps []) w [] w' := by
  unfold tag_Right.f at H
  go_enter Tryd.func67, Tryd.ntmps67
  go_wp2_with (first | ((with_reducible refine gate_dst (N := 1) rfl ?_); refine box_on ?hg (N := 1) ?hd (cs := #[.int .i64 a2314, .int .i64 a2315, .int .i64 a2316, .int .i64 a2317, .int .i64 a2318, .int .i64 a2319, .int .i64 a2320]) (t := 32) ?hr ?_; (case hd => rfl); (case hg => rfl); (case hr => first | (go_simp; done) | (go_simp; rfl)); intro g2321 hg w2322 hbox hb; replace HS : Aside0 (Sep (fps []) w [b17 g2321 a2314 a2315 a2316 a2317 a2318 a2319 a2320] w2322) := ⟨HS.out.box hg hbox hb⟩; clear hg hbox hb; have hc2324 : w2322.cell? ⟨g2321, 0, none⟩ = some (.int .i64 a2314) := blk_cellv (HS.out.at0) 0 rfl; have hc2325 : w2322.cell? ⟨g2321, 1, none⟩ = some (.int .i64 a2315) := blk_cellv (HS.out.at0) 1 rfl; have hc2326 : w2322.cell? ⟨g2321, 2, none⟩ = some (.int .i64 a2316) := blk_cellv (HS.out.at0) 2 rfl; have hc2327 : w2322.cell? ⟨g2321, 3, none⟩ = some (.int .i64 a2317) := blk_cellv (HS.out.at0) 3 rfl; have hc2328 : w2322.cell? ⟨g2321, 4, none⟩ = some (.int .i64 a2318) := blk_cellv (HS.out.at0) 4 rfl; have hc2329 : w2322.cell? ⟨g2321, 5, none⟩ = some (.int .i64 a2319) := blk_cellv (HS.out.at0) 5 rfl; have hc2330 : w2322.cell? ⟨g2321, 6, none⟩ = some (.int .i64 a2320) := blk_cellv (HS.out.at0) 6 rfl))
  clear hc2324 hc2325 hc2326 hc2327 hc2328 hc2329 hc2330
  obtain ⟨t2365, HA2366, H⟩ := bind_some H
  refine (tag_marks.calls a2314 a2315 a2316 a2317 a2318 a2319 a2320 t2365 _ ⟨HGl0.out.pass (l := []) HS.out⟩ ⟨Sep.start _⟩ HA2366).mono ?_
  rintro e_ w2367 ⟨rfl, hS⟩
  replace HS : Aside0 (Sep (fps []) w [b17 g2321 a2314 a2315 a2316 a2317 a2318 a2319 a2320] w2367) := ⟨HS.out.call hS⟩
  clear hS
  go_wp2_with fail
  obtain ⟨o2380, AL2381, H⟩ := bind_some H
  go_loopg [7] k (fun kq v7 wc => ∃ (x2384 : Int), v7 = .int .i64 x2384 ∧ Aside0 (tag_Right.lo0 kq t2365 x2384 = some o2380) ∧ Aside0 (Sep (fps []) w [b17 g2321 a2314 a2315 a2316 a2317 a2318 a2319 a2320] wc))
  case atStart => exact ⟨(0), (by first | rfl | (simp [IntKind.wrap_u32]; done)), AL2381, ⟨HS.out⟩⟩
  case round =>
    clear AL2381 HS
    obtain ⟨x2384, rfl, AL2381, HS⟩ := hrel
    obtain ⟨w2382, rfl⟩ : ∃ x : World, x = wr := ⟨_, rfl⟩
    cases gk with
    | zero => exact absurd AL2381.out (by simp [tag_Right.lo0])
    | succ k2383 =>
      have AL0 := AL2381.out
      rw [tag_Right.lo0] at AL0
      clear AL2381
      have AL2381 := Aside0.mk AL0
      clear AL0
      by_cases c2385 : x2384 < 5
      · replace AL2381 := if_yes c2385 AL2381
        have c2385b0 : decide (x2384 < 5) = true := decide_eq_true c2385
        clear c2385
        by_cases c2386 : 0 ≤ x2384
        · replace AL2381 := if_yes c2386 AL2381
          have c2386b0 : decide (0 ≤ x2384) = true := decide_eq_true c2386
          have c2386p : (0 ≤ x2384) = True := eq_true c2386
          clear c2386
          have ip2387 : (x2384 < 5) = True := eq_true (of_decide_eq_true c2385b0)
          have ix2388 : ∀ w, (Instr.index 108 (.agg #[.int .i64 t2365.1, .int .i64 t2365.2.1, .int .i64 t2365.2.2.1, .int .i64 t2365.2.2.2.1, .int .i64 t2365.2.2.2.2]) (.int .i64 x2384)).run Tryd.prog w = .ok (.int .i64 (rd [t2365.1, t2365.2.1, t2365.2.2.1, t2365.2.2.2.1, t2365.2.2.2.2] x2384)) w := run_index_ints 108 3 5 .i64 .i64 [t2365.1, t2365.2.1, t2365.2.2.1, t2365.2.2.2.1, t2365.2.2.2.2] x2384 Tryd.underlying108 (fun _ => by kernel_rfl) (fun _ => by kernel_rfl) rfl (of_decide_eq_true c2386b0) (of_decide_eq_true c2385b0)
          by_cases c2389 : (rd [t2365.1, t2365.2.1, t2365.2.2.1, t2365.2.2.2.1, t2365.2.2.2.2] x2384) = 0
          · replace AL2381 := if_yes c2389 AL2381
            have c2389b0 : ((rd [t2365.1, t2365.2.1, t2365.2.2.1, t2365.2.2.2.1, t2365.2.2.2.2] x2384) == 0) = true := beq_iff_eq.mpr c2389
            have c2389b1 : ((rd [t2365.1, t2365.2.1, t2365.2.2.1, t2365.2.2.2.1, t2365.2.2.2.2] x2384) != 0) = false := bne_eq_false_iff_eq.mpr c2389
            clear c2389
            go_wp2_with fail
            go_roundg k2383
            case measure => exact Nat.lt_succ_self _
            case rel => exact ⟨(wrap64 (x2384 + 1)), (by first | rfl | (simp [IntKind.wrap_u32]; done)), Aside0.mk AL2381.out, ⟨HS.out⟩⟩
          · replace AL2381 := if_no c2389 AL2381
            have c2389b0 : ((rd [t2365.1, t2365.2.1, t2365.2.2.1, t2365.2.2.2.1, t2365.2.2.2.2] x2384) == 0) = false := beq_eq_false_iff_ne.mpr c2389
            have c2389b1 : ((rd [t2365.1, t2365.2.1, t2365.2.2.1, t2365.2.2.2.1, t2365.2.2.2.2] x2384) != 0) = true := bne_iff_ne.mpr c2389
            clear c2389
            by_cases c2390 : (rd [t2365.1, t2365.2.1, t2365.2.2.1, t2365.2.2.2.1, t2365.2.2.2.2] x2384) = 1
            · replace AL2381 := if_yes c2390 AL2381
              have c2390b0 : ((rd [t2365.1, t2365.2.1, t2365.2.2.1, t2365.2.2.2.1, t2365.2.2.2.2] x2384) == 1) = true := beq_iff_eq.mpr c2390
              have c2390b1 : ((rd [t2365.1, t2365.2.1, t2365.2.2.1, t2365.2.2.2.1, t2365.2.2.2.2] x2384) != 1) = false := bne_eq_false_iff_eq.mpr c2390
              clear c2390
              go_wp2_with fail
              go_roundg k2383
              case measure => exact Nat.lt_succ_self _
              case rel => exact ⟨(wrap64 (x2384 + 1)), (by first | rfl | (simp [IntKind.wrap_u32]; done)), Aside0.mk AL2381.out, ⟨HS.out⟩⟩
            · replace AL2381 := if_no c2390 AL2381
              have c2390b0 : ((rd [t2365.1, t2365.2.1, t2365.2.2.1, t2365.2.2.2.1, t2365.2.2.2.2] x2384) == 1) = false := beq_eq_false_iff_ne.mpr c2390
              have c2390b1 : ((rd [t2365.1, t2365.2.1, t2365.2.2.1, t2365.2.2.2.1, t2365.2.2.2.2] x2384) != 1) = true := bne_iff_ne.mpr c2390
              clear c2390
              go_wp2_with fail
              have ho := some_eq AL2381
              subst ho
              have H := lp_ret H
              go_ret
              rw [← some_eq H]
              exact ⟨(by first | rfl | (simp [IntKind.wrap_u32]; done)), HS.out.sub (.cons _ .slnil)⟩
        · replace AL2381 := if_no c2386 AL2381
          have c2386b0 : decide (0 ≤ x2384) = false := decide_eq_false c2386
          clear c2386
          exact (none_no AL2381).elim
      · replace AL2381 := if_no c2385 AL2381
        have c2385b0 : decide (x2384 < 5) = false := decide_eq_false c2385
        clear c2385
        have ho := some_eq AL2381
        subst ho
        clear AL2381
        have H := lp_out H
        by_cases c2392 : a2314 = 1
        · replace H := if_yes c2392 H
          have c2392b0 : (a2314 == 1) = true := beq_iff_eq.mpr c2392
          have c2392b1 : (a2314 != 1) = false := bne_eq_false_iff_eq.mpr c2392
          clear c2392
          have hc2391 : w2382.cell? ⟨g2321, 0, none⟩ = some (.int .i64 a2314) := blk_cellv (HS.out.at0) 0 rfl
          have hc2393 : w2382.cell? ⟨g2321, 6, none⟩ = some (.int .i64 a2320) := blk_cellv (HS.out.at0) 6 rfl
          replace HS : Aside0 (Sep (fps []) w [] w2382) := ⟨HS.out.sub (.cons _ .slnil)⟩
          go_wp2_with fail
          clear hc2391 hc2393
          go_ret
          rw [← some_eq H]
          exact ⟨(by first | rfl | (simp [IntKind.wrap_u32]; done)), HS.out⟩
        · replace H := if_no c2392 H
          have c2392b0 : (a2314 == 1) = false := beq_eq_false_iff_ne.mpr c2392
          have c2392b1 : (a2314 != 1) = true := bne_iff_ne.mpr c2392
          clear c2392
          by_cases c2394 : a2314 = 2
          · replace H := if_yes c2394 H
            have c2394b0 : (a2314 == 2) = true := beq_iff_eq.mpr c2394
            have c2394b1 : (a2314 != 2) = false := bne_eq_false_iff_eq.mpr c2394
            clear c2394
            have hc2391 : w2382.cell? ⟨g2321, 0, none⟩ = some (.int .i64 a2314) := blk_cellv (HS.out.at0) 0 rfl
            have hc2395 : w2382.cell? ⟨g2321, 6, none⟩ = some (.int .i64 a2320) := blk_cellv (HS.out.at0) 6 rfl
            replace HS : Aside0 (Sep (fps []) w [] w2382) := ⟨HS.out.sub (.cons _ .slnil)⟩
            go_wp2_with fail
            clear hc2391 hc2395
            go_ret
            rw [← some_eq H]
            exact ⟨(by first | rfl | (simp [IntKind.wrap_u32]; done)), HS.out⟩
          · replace H := if_no c2394 H
            have c2394b0 : (a2314 == 2) = false := beq_eq_false_iff_ne.mpr c2394
            have c2394b1 : (a2314 != 2) = true := bne_iff_ne.mpr c2394
            clear c2394
            by_cases c2396 : a2314 = 0
            · replace H := if_yes c2396 H
              have c2396b0 : (a2314 == 0) = true := beq_iff_eq.mpr c2396
              have c2396b1 : (a2314 != 0) = false := bne_eq_false_iff_eq.mpr c2396
              clear c2396
              have hc2391 : w2382.cell? ⟨g2321, 0, none⟩ = some (.int .i64 a2314) := blk_cellv (HS.out.at0) 0 rfl
              go_wp2_with fail
              clear hc2391
              refine start_ (n := 25) (S := (fun w' => w'.cell? ⟨g2321, 0, none⟩ = some (.int .i64 a2314) ∧ w'.cell? ⟨g2321, 1, none⟩ = some (.int .i64 a2315) ∧ w'.cell? ⟨g2321, 2, none⟩ = some (.int .i64 a2316) ∧ w'.cell? ⟨g2321, 3, none⟩ = some (.int .i64 a2317) ∧ w'.cell? ⟨g2321, 4, none⟩ = some (.int .i64 a2318) ∧ w'.cell? ⟨g2321, 5, none⟩ = some (.int .i64 a2319) ∧ w'.cell? ⟨g2321, 6, none⟩ = some (.int .i64 a2320) ∧ w'.cell? ⟨0, 0, none⟩ = some (.int .i64 0) ∧ w'.cell? ⟨0, 1, none⟩ = some (.int .i64 0) ∧ w'.cell? ⟨0, 2, none⟩ = some (.int .i64 0) ∧ w'.cell? ⟨0, 3, none⟩ = some (.int .i64 0) ∧ w'.cell? ⟨0, 4, none⟩ = some (.int .i64 0))) (ds := []) #[false, false, false, false, false, false, false, false, false, false, false, false, false, false, false, false, false, false, false, false, false, false, false, false, false] (by kernel_rfl) rfl rfl (⟨blk_cellv ((HS.out.drew).at0) 0 rfl, blk_cellv ((HS.out.drew).at0) 1 rfl, blk_cellv ((HS.out.drew).at0) 2 rfl, blk_cellv ((HS.out.drew).at0) 3 rfl, blk_cellv ((HS.out.drew).at0) 4 rfl, blk_cellv ((HS.out.drew).at0) 5 rfl, blk_cellv ((HS.out.drew).at0) 6 rfl, Gl.cell HGl0.out (HS.out.drew).fr 0 rfl, Gl.cell HGl0.out (HS.out.drew).fr 1 rfl, Gl.cell HGl0.out (HS.out.drew).fr 2 rfl, Gl.cell HGl0.out (HS.out.drew).fr 3 rfl, Gl.cell HGl0.out (HS.out.drew).fr 4 rfl⟩) (fun hHeld => ?_)
              have HS_ := Aside0.mk HS.out.drew
              clear HS
              generalize World.drew _ = w2398 at HS_ hHeld ⊢
              have HS := HS_
              clear HS_
              refine take_ (i := 0) (N := some 28) (v := ?_) (a' := ?_) #[true, false, false, false, false, false, false, false, false, false, false, false, false, false, false, false, false, false, false, false, false, false, false, false, false] rfl rfl (by kernel_rfl) (fun _ _ _ h => h) (Or.inl ⟨by rfl, ?_⟩) hHeld ?_ ?_
              rotate_left
              · rintro w' hS'
                obtain ⟨s0, s1, s2, s3, s4, s5, s6, s7, s8, s9, s10, s11⟩ := hS'
                go_simp
                with_reducible rfl
              rotate_left
              · simp only [Act.put, List.setIfInBounds_toArray, List.set_cons_zero, List.set_cons_succ, i64_w, i32_w]
                rfl
              refine take_ (i := 2) (N := some 30) (v := ?_) (a' := ?_) #[true, false, true, false, false, false, false, false, false, false, false, false, false, false, false, false, false, false, false, false, false, false, false, false, false] rfl rfl (by kernel_rfl) (fun _ _ _ h => h) (Or.inl ⟨by rfl, ?_⟩) hHeld ?_ ?_
              rotate_left
              · rintro w' hS'
                obtain ⟨s0, s1, s2, s3, s4, s5, s6, s7, s8, s9, s10, s11⟩ := hS'
                go_simp
                with_reducible rfl
              rotate_left
              · simp only [Act.put, List.setIfInBounds_toArray, List.set_cons_zero, List.set_cons_succ, i64_w, i32_w]
                rfl
              refine one_ (i := 1) (N := some 29) #[true, true, true, false, false, false, false, false, false, false, false, false, false, false, false, false, false, false, false, false, false, false, false, false, false] rfl rfl (by kernel_rfl) (by decide) (fun K hK => ?_)
              obtain ⟨t2399, HA2400, H⟩ := bind_some H
              refine goes_ Tryd.func68 (by kernel_rfl) rfl #[.agg #[.int .i64 a2314, .int .i64 a2315, .int .i64 a2316, .int .i64 a2317, .int .i64 a2318, .int .i64 a2319, .int .i64 a2320]] (by rfl) rfl rfl (by (try simp only [List.map_toArray, List.map_cons, List.map_nil]); first | done | rfl) ?_
              refine (tag_marks.calls a2314 a2315 a2316 a2317 a2318 a2319 a2320 t2399 _ ⟨HGl0.out.pass (l := []) HS.out⟩ ⟨Sep.start _⟩ HA2400).mono ?_
              rintro e_ w2401 ⟨rfl, hS⟩
              replace HS : Aside0 (Sep (fps []) w [b17 g2321 a2314 a2315 a2316 a2317 a2318 a2319 a2320] w2401) := ⟨HS.out.call hS⟩
              clear hS
              refine ⟨_, rfl, ?_⟩
              refine hK.out _ _ (⟨blk_cellv (HS.out.at0) 0 rfl, blk_cellv (HS.out.at0) 1 rfl, blk_cellv (HS.out.at0) 2 rfl, blk_cellv (HS.out.at0) 3 rfl, blk_cellv (HS.out.at0) 4 rfl, blk_cellv (HS.out.at0) 5 rfl, blk_cellv (HS.out.at0) 6 rfl, Gl.cell HGl0.out HS.out.fr 0 rfl, Gl.cell HGl0.out HS.out.fr 1 rfl, Gl.cell HGl0.out HS.out.fr 2 rfl, Gl.cell HGl0.out HS.out.fr 3 rfl, Gl.cell HGl0.out HS.out.fr 4 rfl⟩) (fun hHeld => ?_)
              clear hK K
              refine norm_ (a' := ?_) ?_ ?_
              rotate_left
              · show Act.put _ (some 29) _ = _
                simp only [Act.put, List.setIfInBounds_toArray, List.set_cons_zero, List.set_cons_succ, i64_w, i32_w]
                rfl
              obtain ⟨b2403, HA2404, H⟩ := bind_some H
              have eb2402 : ∀ w, (Op.equalIn 10000 108 (.agg #[.int .i64 t2399.1, .int .i64 t2399.2.1, .int .i64 t2399.2.2.1, .int .i64 t2399.2.2.2.1, .int .i64 t2399.2.2.2.2]) (.agg #[.int .i64 0, .int .i64 0, .int .i64 0, .int .i64 0, .int .i64 0])).run Tryd.prog w = .ok b2403 w := some_eq HA2404 ▸ run_eq_ints 9998 108 3 5 .i64 [t2399.1, t2399.2.1, t2399.2.2.1, t2399.2.2.2.1, t2399.2.2.2.2] [0, 0, 0, 0, 0] Tryd.underlying108 (by kernel_rfl) (by kernel_rfl) Tryd.underlying3 (fun _ => by kernel_rfl) rfl rfl
              refine pure_ (i := 3) (N := some 31) (v := ?_) (a' := ?_) #[true, true, true, true, false, false, false, false, false, false, false, false, false, false, false, false, false, false, false, false, false, false, false, false, false] rfl rfl (by kernel_rfl) (fun _ _ _ h => h) (Or.inl ⟨by rfl, ?_⟩) ?_ ?_
              rotate_left
              · intro w'
                go_simp
                with_reducible rfl
              rotate_left
              · simp only [Act.put, List.setIfInBounds_toArray, List.set_cons_zero, List.set_cons_succ, i64_w, i32_w]
                rfl
              refine pure_ (i := 4) (N := some 32) (v := ?_) (a' := ?_) #[true, true, true, true, true, false, false, false, false, false, false, false, false, false, false, false, false, false, false, false, false, false, false, false, false] rfl rfl (by kernel_rfl) (fun _ _ _ h => h) (Or.inl ⟨by rfl, ?_⟩) ?_ ?_
              rotate_left
              · intro w'
                go_simp
                with_reducible rfl
              rotate_left
              · simp only [Act.put, List.setIfInBounds_toArray, List.set_cons_zero, List.set_cons_succ, i64_w, i32_w]
                rfl
              by_cases c2405 : b2403 = true
              · replace H := if_yes c2405 H
                have c2405b0 : b2403 = true := c2405
                have c2405b1 : (!b2403) = false := by rw [c2405b0]; rfl
                clear c2405
                try simp only [c2405b0, Bool.not_true, Bool.not_false]
                refine pure_ (i := 5) (N := some 33) (v := ?_) (a' := ?_) #[true, true, true, true, true, true, false, false, false, false, false, false, false, false, false, false, false, false, false, false, false, false, false, false, false] rfl rfl (by kernel_rfl) (fun _ _ _ h => h) (Or.inl ⟨by rfl, ?_⟩) ?_ ?_
                rotate_left
                · intro w'
                  go_simp
                  with_reducible rfl
                rotate_left
                · simp only [Act.put, List.setIfInBounds_toArray, List.set_cons_zero, List.set_cons_succ, i64_w, i32_w]
                  rfl
                try simp only [c2405b0, Bool.not_true, Bool.not_false]
                refine take_ (i := 6) (N := some 34) (v := ?_) (a' := ?_) #[true, true, true, true, true, true, true, false, false, false, false, false, false, false, false, false, false, false, false, false, false, false, false, false, false] rfl rfl (by kernel_rfl) (fun _ _ _ h => h) (Or.inl ⟨by rfl, ?_⟩) hHeld ?_ ?_
                rotate_left
                · rintro w' hS'
                  obtain ⟨s0, s1, s2, s3, s4, s5, s6, s7, s8, s9, s10, s11⟩ := hS'
                  go_simp
                  with_reducible rfl
                rotate_left
                · simp only [Act.put, List.setIfInBounds_toArray, List.set_cons_zero, List.set_cons_succ, i64_w, i32_w]
                  rfl
                try simp only [c2405b0, Bool.not_true, Bool.not_false]
                refine pure_ (i := 7) (N := some 35) (v := ?_) (a' := ?_) #[true, true, true, true, true, true, true, true, false, false, false, false, false, false, false, false, false, false, false, false, false, false, false, false, false] rfl rfl (by kernel_rfl) (fun _ _ _ h => h) (Or.inl ⟨by rfl, ?_⟩) ?_ ?_
                rotate_left
                · intro w'
                  go_simp
                  with_reducible rfl
                rotate_left
                · simp only [Act.put, List.setIfInBounds_toArray, List.set_cons_zero, List.set_cons_succ, i64_w, i32_w]
                  rfl
                refine pure_ (i := 8) (N := some 36) (v := ?_) (a' := ?_) #[true, true, true, true, true, true, true, true, true, false, false, false, false, false, false, false, false, false, false, false, false, false, false, false, false] rfl rfl (by kernel_rfl) (fun _ _ _ h => h) (Or.inl ⟨by rfl, ?_⟩) ?_ ?_
                rotate_left
                · intro w'
                  go_simp
                  with_reducible rfl
                rotate_left
                · simp only [Act.put, List.setIfInBounds_toArray, List.set_cons_zero, List.set_cons_succ, i64_w, i32_w]
                  rfl
                refine pure_ (i := 9) (N := some 37) (v := ?_) (a' := ?_) #[true, true, true, true, true, true, true, true, true, true, false, false, false, false, false, false, false, false, false, false, false, false, false, false, false] rfl rfl (by kernel_rfl) (fun _ _ _ h => h) (Or.inl ⟨by rfl, ?_⟩) ?_ ?_
                rotate_left
                · intro w'
                  go_simp
                  with_reducible rfl
                rotate_left
                · simp only [Act.put, List.setIfInBounds_toArray, List.set_cons_zero, List.set_cons_succ, i64_w, i32_w]
                  rfl
                by_cases c2406 : a2320 ≥ 0
                · replace H := if_yes c2406 H
                  have c2406b0 : decide (0 ≤ a2320) = true := decide_eq_true c2406
                  clear c2406
                  try simp only [c2406b0, Bool.not_true, Bool.not_false]
                  refine pure_ (i := 10) (N := some 38) (v := ?_) (a' := ?_) #[true, true, true, true, true, true, true, true, true, true, true, false, false, false, false, false, false, false, false, false, false, false, false, false, false] rfl rfl (by kernel_rfl) (fun _ _ _ h => h) (Or.inl ⟨by rfl, ?_⟩) ?_ ?_
                  rotate_left
                  · intro w'
                    go_simp
                    with_reducible rfl
                  rotate_left
                  · simp only [Act.put, List.setIfInBounds_toArray, List.set_cons_zero, List.set_cons_succ, i64_w, i32_w]
                    rfl
                  try simp only [c2406b0, Bool.not_true, Bool.not_false]
                  refine take_ (i := 11) (N := some 39) (v := ?_) (a' := ?_) #[true, true, true, true, true, true, true, true, true, true, true, true, false, false, false, false, false, false, false, false, false, false, false, false, false] rfl rfl (by kernel_rfl) (fun _ _ _ h => h) (Or.inl ⟨by rfl, ?_⟩) hHeld ?_ ?_
                  rotate_left
                  · rintro w' hS'
                    obtain ⟨s0, s1, s2, s3, s4, s5, s6, s7, s8, s9, s10, s11⟩ := hS'
                    go_simp
                    with_reducible rfl
                  rotate_left
                  · simp only [Act.put, List.setIfInBounds_toArray, List.set_cons_zero, List.set_cons_succ, i64_w, i32_w]
                    rfl
                  try simp only [c2406b0, Bool.not_true, Bool.not_false]
                  refine pure_ (i := 12) (N := some 40) (v := ?_) (a' := ?_) #[true, true, true, true, true, true, true, true, true, true, true, true, true, false, false, false, false, false, false, false, false, false, false, false, false] rfl rfl (by kernel_rfl) (fun _ _ _ h => h) (Or.inl ⟨by rfl, ?_⟩) ?_ ?_
                  rotate_left
                  · intro w'
                    go_simp
                    with_reducible rfl
                  rotate_left
                  · simp only [Act.put, List.setIfInBounds_toArray, List.set_cons_zero, List.set_cons_succ, i64_w, i32_w]
                    rfl
                  refine pure_ (i := 13) (N := some 41) (v := ?_) (a' := ?_) #[true, true, true, true, true, true, true, true, true, true, true, true, true, true, false, false, false, false, false, false, false, false, false, false, false] rfl rfl (by kernel_rfl) (fun _ _ _ h => h) (Or.inl ⟨by rfl, ?_⟩) ?_ ?_
                  rotate_left
                  · intro w'
                    go_simp
                    with_reducible rfl
                  rotate_left
                  · simp only [Act.put, List.setIfInBounds_toArray, List.set_cons_zero, List.set_cons_succ, i64_w, i32_w]
                    rfl
                  refine pure_ (i := 14) (N := some 42) (v := ?_) (a' := ?_) #[true, true, true, true, true, true, true, true, true, true, true, true, true, true, true, false, false, false, false, false, false, false, false, false, false] rfl rfl (by kernel_rfl) (fun _ _ _ h => h) (Or.inl ⟨by rfl, ?_⟩) ?_ ?_
                  rotate_left
                  · intro w'
                    go_simp
                    with_reducible rfl
                  rotate_left
                  · simp only [Act.put, List.setIfInBounds_toArray, List.set_cons_zero, List.set_cons_succ, i64_w, i32_w]
                    rfl
                  by_cases c2407 : a2320 < 1048576
                  · replace H := if_yes c2407 H
                    have c2407b0 : decide (a2320 < 1048576) = true := decide_eq_true c2407
                    clear c2407
                    try simp only [c2407b0, Bool.not_true, Bool.not_false]
                    refine pure_ (i := 15) (N := some 43) (v := ?_) (a' := ?_) #[true, true, true, true, true, true, true, true, true, true, true, true, true, true, true, true, false, false, false, false, false, false, false, false, false] rfl rfl (by kernel_rfl) (fun _ _ _ h => h) (Or.inl ⟨by rfl, ?_⟩) ?_ ?_
                    rotate_left
                    · intro w'
                      go_simp
                      with_reducible rfl
                    rotate_left
                    · simp only [Act.put, List.setIfInBounds_toArray, List.set_cons_zero, List.set_cons_succ, i64_w, i32_w]
                      rfl
                    try simp only [c2407b0, Bool.not_true, Bool.not_false]
                    refine take_ (i := 16) (N := some 44) (v := ?_) (a' := ?_) #[true, true, true, true, true, true, true, true, true, true, true, true, true, true, true, true, true, false, false, false, false, false, false, false, false] rfl rfl (by kernel_rfl) (fun _ _ _ h => h) (Or.inl ⟨by rfl, ?_⟩) hHeld ?_ ?_
                    rotate_left
                    · rintro w' hS'
                      obtain ⟨s0, s1, s2, s3, s4, s5, s6, s7, s8, s9, s10, s11⟩ := hS'
                      go_simp
                      with_reducible rfl
                    rotate_left
                    · simp only [Act.put, List.setIfInBounds_toArray, List.set_cons_zero, List.set_cons_succ, i64_w, i32_w]
                      rfl
                    try simp only [c2407b0, Bool.not_true, Bool.not_false]
                    refine pure_ (i := 17) (N := some 45) (v := ?_) (a' := ?_) #[true, true, true, true, true, true, true, true, true, true, true, true, true, true, true, true, true, true, false, false, false, false, false, false, false] rfl rfl (by kernel_rfl) (fun _ _ _ h => h) (Or.inl ⟨by rfl, ?_⟩) ?_ ?_
                    rotate_left
                    · intro w'
                      go_simp
                      with_reducible rfl
                    rotate_left
                    · simp only [Act.put, List.setIfInBounds_toArray, List.set_cons_zero, List.set_cons_succ, i64_w, i32_w]
                      rfl
                    try simp only [c2407b0, Bool.not_true, Bool.not_false]
                    refine pure_ (i := 18) (N := some 46) (v := ?_) (a' := ?_) #[true, true, true, true, true, true, true, true, true, true, true, true, true, true, true, true, true, true, true, false, false, false, false, false, false] rfl rfl (by kernel_rfl) (fun _ _ _ h => h) (Or.inl ⟨by rfl, ?_⟩) ?_ ?_
                    rotate_left
                    · intro w'
                      go_simp
                      with_reducible rfl
                    rotate_left
                    · simp only [Act.put, List.setIfInBounds_toArray, List.set_cons_zero, List.set_cons_succ, i64_w, i32_w]
                      rfl
                    by_cases c2408 : a2314 = 3
                    · replace H := if_yes c2408 H
                      have c2408b0 : (a2314 == 3) = true := beq_iff_eq.mpr c2408
                      have c2408b1 : (a2314 != 3) = false := bne_eq_false_iff_eq.mpr c2408
                      clear c2408
                      try simp only [c2408b0, c2408b1, Bool.not_true, Bool.not_false]
                      refine pure_ (i := 19) (N := some 47) (v := undef) (a' := ?_) #[true, true, true, true, true, true, true, true, true, true, true, true, true, true, true, true, true, true, true, true, false, false, false, false, false] rfl rfl (by kernel_rfl) (fun _ _ _ h => h) (Or.inr ⟨by rfl, rfl⟩) ?_ ?_
                      rotate_left
                      · simp only [Act.put, List.setIfInBounds_toArray, List.set_cons_zero, List.set_cons_succ, i64_w, i32_w]
                        rfl
                      try simp only [c2408b0, c2408b1, Bool.not_true, Bool.not_false]
                      refine pure_ (i := 20) (N := some 48) (v := undef) (a' := ?_) #[true, true, true, true, true, true, true, true, true, true, true, true, true, true, true, true, true, true, true, true, true, false, false, false, false] rfl rfl (by kernel_rfl) (fun _ _ _ h => h) (Or.inr ⟨by rfl, rfl⟩) ?_ ?_
                      rotate_left
                      · simp only [Act.put, List.setIfInBounds_toArray, List.set_cons_zero, List.set_cons_succ, i64_w, i32_w]
                        rfl
                      try simp only [c2408b0, c2408b1, Bool.not_true, Bool.not_false]
                      refine pure_ (i := 21) (N := some 49) (v := undef) (a' := ?_) #[true, true, true, true, true, true, true, true, true, true, true, true, true, true, true, true, true, true, true, true, true, true, false, false, false] rfl rfl (by kernel_rfl) (fun _ _ _ h => h) (Or.inr ⟨by rfl, rfl⟩) ?_ ?_
                      rotate_left
                      · simp only [Act.put, List.setIfInBounds_toArray, List.set_cons_zero, List.set_cons_succ, i64_w, i32_w]
                        rfl
                      try simp only [c2407b0, Bool.not_true, Bool.not_false]
                      refine pure_ (i := 22) (N := some 50) (v := ?_) (a' := ?_) #[true, true, true, true, true, true, true, true, true, true, true, true, true, true, true, true, true, true, true, true, true, true, true, false, false] rfl rfl (by kernel_rfl) (fun _ _ _ h => h) (Or.inl ⟨by rfl, ?_⟩) ?_ ?_
                      rotate_left
                      · intro w'
                        go_simp
                        with_reducible rfl
                      rotate_left
                      · simp only [Act.put, List.setIfInBounds_toArray, List.set_cons_zero, List.set_cons_succ, i64_w, i32_w]
                        rfl
                      refine pure_ (i := 23) (N := some 51) (v := ?_) (a' := ?_) #[true, true, true, true, true, true, true, true, true, true, true, true, true, true, true, true, true, true, true, true, true, true, true, true, false] rfl rfl (by kernel_rfl) (fun _ _ _ h => h) (Or.inl ⟨by rfl, ?_⟩) ?_ ?_
                      rotate_left
                      · intro w'
                        go_simp
                        with_reducible rfl
                      rotate_left
                      · simp only [Act.put, List.setIfInBounds_toArray, List.set_cons_zero, List.set_cons_succ, i64_w, i32_w]
                        rfl
                      refine pure_ (i := 24) (N := some 2) (v := ?_) (a' := ?_) #[true, true, true, true, true, true, true, true, true, true, true, true, true, true, true, true, true, true, true, true, true, true, true, true, true] rfl rfl (by kernel_rfl) (fun _ _ _ h => h) (Or.inl ⟨by rfl, ?_⟩) ?_ ?_
                      rotate_left
                      · intro w'
                        go_simp
                        with_reducible rfl
                      rotate_left
                      · simp only [Act.put, List.setIfInBounds_toArray, List.set_cons_zero, List.set_cons_succ, i64_w, i32_w]
                        rfl
                      refine done_ (by kernel_rfl) ?_
                      replace HS : Aside0 (Sep (fps []) w [] w2401) := ⟨HS.out.sub (.cons _ .slnil)⟩
                      go_wp2_with fail
                      go_ret
                      rw [← some_eq H]
                      exact ⟨(by first | rfl | (simp [IntKind.wrap_u32]; done)), HS.out⟩
                    · replace H := if_no c2408 H
                      have c2408b0 : (a2314 == 3) = false := beq_eq_false_iff_ne.mpr c2408
                      have c2408b1 : (a2314 != 3) = true := bne_iff_ne.mpr c2408
                      clear c2408
                      try simp only [c2408b0, c2408b1, Bool.not_true, Bool.not_false]
                      refine pure_ (i := 19) (N := some 47) (v := ?_) (a' := ?_) #[true, true, true, true, true, true, true, true, true, true, true, true, true, true, true, true, true, true, true, true, false, false, false, false, false] rfl rfl (by kernel_rfl) (fun _ _ _ h => h) (Or.inl ⟨by rfl, ?_⟩) ?_ ?_
                      rotate_left
                      · intro w'
                        go_simp
                        with_reducible rfl
                      rotate_left
                      · simp only [Act.put, List.setIfInBounds_toArray, List.set_cons_zero, List.set_cons_succ, i64_w, i32_w]
                        rfl
                      try simp only [c2408b0, c2408b1, Bool.not_true, Bool.not_false]
                      refine take_ (i := 20) (N := some 48) (v := ?_) (a' := ?_) #[true, true, true, true, true, true, true, true, true, true, true, true, true, true, true, true, true, true, true, true, true, false, false, false, false] rfl rfl (by kernel_rfl) (fun _ _ _ h => h) (Or.inl ⟨by rfl, ?_⟩) hHeld ?_ ?_
                      rotate_left
                      · rintro w' hS'
                        obtain ⟨s0, s1, s2, s3, s4, s5, s6, s7, s8, s9, s10, s11⟩ := hS'
                        go_simp
                        with_reducible rfl
                      rotate_left
                      · simp only [Act.put, List.setIfInBounds_toArray, List.set_cons_zero, List.set_cons_succ, i64_w, i32_w]
                        rfl
                      try simp only [c2408b0, c2408b1, Bool.not_true, Bool.not_false]
                      refine pure_ (i := 21) (N := some 49) (v := ?_) (a' := ?_) #[true, true, true, true, true, true, true, true, true, true, true, true, true, true, true, true, true, true, true, true, true, true, false, false, false] rfl rfl (by kernel_rfl) (fun _ _ _ h => h) (Or.inl ⟨by rfl, ?_⟩) ?_ ?_
                      rotate_left
                      · intro w'
                        go_simp
                        with_reducible rfl
                      rotate_left
                      · simp only [Act.put, List.setIfInBounds_toArray, List.set_cons_zero, List.set_cons_succ, i64_w, i32_w]
                        rfl
                      try simp only [c2407b0, Bool.not_true, Bool.not_false]
                      refine pure_ (i := 22) (N := some 50) (v := ?_) (a' := ?_) #[true, true, true, true, true, true, true, true, true, true, true, true, true, true, true, true, true, true, true, true, true, true, true, false, false] rfl rfl (by kernel_rfl) (fun _ _ _ h => h) (Or.inl ⟨by rfl, ?_⟩) ?_ ?_
                      rotate_left
                      · intro w'
                        go_simp
                        with_reducible rfl
                      rotate_left
                      · simp only [Act.put, List.setIfInBounds_toArray, List.set_cons_zero, List.set_cons_succ, i64_w, i32_w]
                        rfl
                      refine pure_ (i := 23) (N := some 51) (v := ?_) (a' := ?_) #[true, true, true, true, true, true, true, true, true, true, true, true, true, true, true, true, true, true, true, true, true, true, true, true, false] rfl rfl (by kernel_rfl) (fun _ _ _ h => h) (Or.inl ⟨by rfl, ?_⟩) ?_ ?_
                      rotate_left
                      · intro w'
                        go_simp
                        with_reducible rfl
                      rotate_left
                      · simp only [Act.put, List.setIfInBounds_toArray, List.set_cons_zero, List.set_cons_succ, i64_w, i32_w]
                        rfl
                      refine pure_ (i := 24) (N := some 2) (v := ?_) (a' := ?_) #[true, true, true, true, true, true, true, true, true, true, true, true, true, true, true, true, true, true, true, true, true, true, true, true, true] rfl rfl (by kernel_rfl) (fun _ _ _ h => h) (Or.inl ⟨by rfl, ?_⟩) ?_ ?_
                      rotate_left
                      · intro w'
                        go_simp
                        with_reducible rfl
                      rotate_left
                      · simp only [Act.put, List.setIfInBounds_toArray, List.set_cons_zero, List.set_cons_succ, i64_w, i32_w]
                        rfl
                      refine done_ (by kernel_rfl) ?_
                      replace HS : Aside0 (Sep (fps []) w [] w2401) := ⟨HS.out.sub (.cons _ .slnil)⟩
                      go_wp2_with fail
                      go_ret
                      rw [← some_eq H]
                      exact ⟨(by first | rfl | (simp [IntKind.wrap_u32]; done)), HS.out⟩
                  · replace H := if_no c2407 H
                    have c2407b0 : decide (a2320 < 1048576) = false := decide_eq_false c2407
                    clear c2407
                    try simp only [c2407b0, Bool.not_true, Bool.not_false]
                    refine pure_ (i := 15) (N := some 43) (v := undef) (a' := ?_) #[true, true, true, true, true, true, true, true, true, true, true, true, true, true, true, true, false, false, false, false, false, false, false, false, false] rfl rfl (by kernel_rfl) (fun _ _ _ h => h) (Or.inr ⟨by rfl, rfl⟩) ?_ ?_
                    rotate_left
                    · simp only [Act.put, List.setIfInBounds_toArray, List.set_cons_zero, List.set_cons_succ, i64_w, i32_w]
                      rfl
                    try simp only [c2407b0, Bool.not_true, Bool.not_false]
                    refine pure_ (i := 16) (N := some 44) (v := undef) (a' := ?_) #[true, true, true, true, true, true, true, true, true, true, true, true, true, true, true, true, true, false, false, false, false, false, false, false, false] rfl rfl (by kernel_rfl) (fun _ _ _ h => h) (Or.inr ⟨by rfl, rfl⟩) ?_ ?_
                    rotate_left
                    · simp only [Act.put, List.setIfInBounds_toArray, List.set_cons_zero, List.set_cons_succ, i64_w, i32_w]
                      rfl
                    try simp only [c2407b0, Bool.not_true, Bool.not_false]
                    refine pure_ (i := 17) (N := some 45) (v := undef) (a' := ?_) #[true, true, true, true, true, true, true, true, true, true, true, true, true, true, true, true, true, true, false, false, false, false, false, false, false] rfl rfl (by kernel_rfl) (fun _ _ _ h => h) (Or.inr ⟨by rfl, rfl⟩) ?_ ?_
                    rotate_left
                    · simp only [Act.put, List.setIfInBounds_toArray, List.set_cons_zero, List.set_cons_succ, i64_w, i32_w]
                      rfl
                    try simp only [c2407b0, Bool.not_true, Bool.not_false]
                    refine pure_ (i := 18) (N := some 46) (v := undef) (a' := ?_) #[true, true, true, true, true, true, true, true, true, true, true, true, true, true, true, true, true, true, true, false, false, false, false, false, false] rfl rfl (by kernel_rfl) (fun _ _ _ h => h) (Or.inr ⟨by rfl, rfl⟩) ?_ ?_
                    rotate_left
                    · simp only [Act.put, List.setIfInBounds_toArray, List.set_cons_zero, List.set_cons_succ, i64_w, i32_w]
                      rfl
                    refine pure_ (i := 19) (N := some 47) (v := undef) (a' := ?_) #[true, true, true, true, true, true, true, true, true, true, true, true, true, true, true, true, true, true, true, true, false, false, false, false, false] rfl rfl (by kernel_rfl) (fun _ _ _ h => h) (Or.inr ⟨by rfl, rfl⟩) ?_ ?_
                    rotate_left
                    · simp only [Act.put, List.setIfInBounds_toArray, List.set_cons_zero, List.set_cons_succ, i64_w, i32_w]
                      rfl
                    refine pure_ (i := 20) (N := some 48) (v := undef) (a' := ?_) #[true, true, true, true, true, true, true, true, true, true, true, true, true, true, true, true, true, true, true, true, true, false, false, false, false] rfl rfl (by kernel_rfl) (fun _ _ _ h => h) (Or.inr ⟨by rfl, rfl⟩) ?_ ?_
                    rotate_left
                    · simp only [Act.put, List.setIfInBounds_toArray, List.set_cons_zero, List.set_cons_succ, i64_w, i32_w]
                      rfl
                    refine pure_ (i := 21) (N := some 49) (v := undef) (a' := ?_) #[true, true, true, true, true, true, true, true, true, true, true, true, true, true, true, true, true, true, true, true, true, true, false, false, false] rfl rfl (by kernel_rfl) (fun _ _ _ h => h) (Or.inr ⟨by rfl, rfl⟩) ?_ ?_
                    rotate_left
                    · simp only [Act.put, List.setIfInBounds_toArray, List.set_cons_zero, List.set_cons_succ, i64_w, i32_w]
                      rfl
                    try simp only [c2407b0, Bool.not_true, Bool.not_false]
                    refine pure_ (i := 22) (N := some 50) (v := undef) (a' := ?_) #[true, true, true, true, true, true, true, true, true, true, true, true, true, true, true, true, true, true, true, true, true, true, true, false, false] rfl rfl (by kernel_rfl) (fun _ _ _ h => h) (Or.inr ⟨by rfl, rfl⟩) ?_ ?_
                    rotate_left
                    · simp only [Act.put, List.setIfInBounds_toArray, List.set_cons_zero, List.set_cons_succ, i64_w, i32_w]
                      rfl
                    refine pure_ (i := 23) (N := some 51) (v := ?_) (a' := ?_) #[true, true, true, true, true, true, true, true, true, true, true, true, true, true, true, true, true, true, true, true, true, true, true, true, false] rfl rfl (by kernel_rfl) (fun _ _ _ h => h) (Or.inl ⟨by rfl, ?_⟩) ?_ ?_
                    rotate_left
                    · intro w'
                      go_simp
                      with_reducible rfl
                    rotate_left
                    · simp only [Act.put, List.setIfInBounds_toArray, List.set_cons_zero, List.set_cons_succ, i64_w, i32_w]
                      rfl
                    refine pure_ (i := 24) (N := some 2) (v := ?_) (a' := ?_) #[true, true, true, true, true, true, true, true, true, true, true, true, true, true, true, true, true, true, true, true, true, true, true, true, true] rfl rfl (by kernel_rfl) (fun _ _ _ h => h) (Or.inl ⟨by rfl, ?_⟩) ?_ ?_
                    rotate_left
                    · intro w'
                      go_simp
                      with_reducible rfl
                    rotate_left
                    · simp only [Act.put, List.setIfInBounds_toArray, List.set_cons_zero, List.set_cons_succ, i64_w, i32_w]
                      rfl
                    refine done_ (by kernel_rfl) ?_
                    replace HS : Aside0 (Sep (fps []) w [] w2401) := ⟨HS.out.sub (.cons _ .slnil)⟩
                    go_wp2_with fail
                    go_ret
                    rw [← some_eq H]
                    exact ⟨(by first | rfl | (simp [IntKind.wrap_u32]; done)), HS.out⟩
                · replace H := if_no c2406 H
                  have c2406b0 : decide (0 ≤ a2320) = false := decide_eq_false c2406
                  clear c2406
                  try simp only [c2406b0, Bool.not_true, Bool.not_false]
                  refine pure_ (i := 10) (N := some 38) (v := undef) (a' := ?_) #[true, true, true, true, true, true, true, true, true, true, true, false, false, false, false, false, false, false, false, false, false, false, false, false, false] rfl rfl (by kernel_rfl) (fun _ _ _ h => h) (Or.inr ⟨by rfl, rfl⟩) ?_ ?_
                  rotate_left
                  · simp only [Act.put, List.setIfInBounds_toArray, List.set_cons_zero, List.set_cons_succ, i64_w, i32_w]
                    rfl
                  try simp only [c2406b0, Bool.not_true, Bool.not_false]
                  refine pure_ (i := 11) (N := some 39) (v := undef) (a' := ?_) #[true, true, true, true, true, true, true, true, true, true, true, true, false, false, false, false, false, false, false, false, false, false, false, false, false] rfl rfl (by kernel_rfl) (fun _ _ _ h => h) (Or.inr ⟨by rfl, rfl⟩) ?_ ?_
                  rotate_left
                  · simp only [Act.put, List.setIfInBounds_toArray, List.set_cons_zero, List.set_cons_succ, i64_w, i32_w]
                    rfl
                  try simp only [c2406b0, Bool.not_true, Bool.not_false]
                  refine pure_ (i := 12) (N := some 40) (v := undef) (a' := ?_) #[true, true, true, true, true, true, true, true, true, true, true, true, true, false, false, false, false, false, false, false, false, false, false, false, false] rfl rfl (by kernel_rfl) (fun _ _ _ h => h) (Or.inr ⟨by rfl, rfl⟩) ?_ ?_
                  rotate_left
                  · simp only [Act.put, List.setIfInBounds_toArray, List.set_cons_zero, List.set_cons_succ, i64_w, i32_w]
                    rfl
                  refine pure_ (i := 13) (N := some 41) (v := ?_) (a' := ?_) #[true, true, true, true, true, true, true, true, true, true, true, true, true, true, false, false, false, false, false, false, false, false, false, false, false] rfl rfl (by kernel_rfl) (fun _ _ _ h => h) (Or.inl ⟨by rfl, ?_⟩) ?_ ?_
                  rotate_left
                  · intro w'
                    go_simp
                    with_reducible rfl
                  rotate_left
                  · simp only [Act.put, List.setIfInBounds_toArray, List.set_cons_zero, List.set_cons_succ, i64_w, i32_w]
                    rfl
                  refine pure_ (i := 14) (N := some 42) (v := ?_) (a' := ?_) #[true, true, true, true, true, true, true, true, true, true, true, true, true, true, true, false, false, false, false, false, false, false, false, false, false] rfl rfl (by kernel_rfl) (fun _ _ _ h => h) (Or.inl ⟨by rfl, ?_⟩) ?_ ?_
                  rotate_left
                  · intro w'
                    go_simp
                    with_reducible rfl
                  rotate_left
                  · simp only [Act.put, List.setIfInBounds_toArray, List.set_cons_zero, List.set_cons_succ, i64_w, i32_w]
                    rfl
                  refine pure_ (i := 15) (N := some 43) (v := undef) (a' := ?_) #[true, true, true, true, true, true, true, true, true, true, true, true, true, true, true, true, false, false, false, false, false, false, false, false, false] rfl rfl (by kernel_rfl) (fun _ _ _ h => h) (Or.inr ⟨by rfl, rfl⟩) ?_ ?_
                  rotate_left
                  · simp only [Act.put, List.setIfInBounds_toArray, List.set_cons_zero, List.set_cons_succ, i64_w, i32_w]
                    rfl
                  refine pure_ (i := 16) (N := some 44) (v := undef) (a' := ?_) #[true, true, true, true, true, true, true, true, true, true, true, true, true, true, true, true, true, false, false, false, false, false, false, false, false] rfl rfl (by kernel_rfl) (fun _ _ _ h => h) (Or.inr ⟨by rfl, rfl⟩) ?_ ?_
                  rotate_left
                  · simp only [Act.put, List.setIfInBounds_toArray, List.set_cons_zero, List.set_cons_succ, i64_w, i32_w]
                    rfl
                  refine pure_ (i := 17) (N := some 45) (v := undef) (a' := ?_) #[true, true, true, true, true, true, true, true, true, true, true, true, true, true, true, true, true, true, false, false, false, false, false, false, false] rfl rfl (by kernel_rfl) (fun _ _ _ h => h) (Or.inr ⟨by rfl, rfl⟩) ?_ ?_
                  rotate_left
                  · simp only [Act.put, List.setIfInBounds_toArray, List.set_cons_zero, List.set_cons_succ, i64_w, i32_w]
                    rfl
                  refine pure_ (i := 18) (N := some 46) (v := undef) (a' := ?_) #[true, true, true, true, true, true, true, true, true, true, true, true, true, true, true, true, true, true, true, false, false, false, false, false, false] rfl rfl (by kernel_rfl) (fun _ _ _ h => h) (Or.inr ⟨by rfl, rfl⟩) ?_ ?_
                  rotate_left
                  · simp only [Act.put, List.setIfInBounds_toArray, List.set_cons_zero, List.set_cons_succ, i64_w, i32_w]
                    rfl
                  refine pure_ (i := 19) (N := some 47) (v := undef) (a' := ?_) #[true, true, true, true, true, true, true, true, true, true, true, true, true, true, true, true, true, true, true, true, false, false, false, false, false] rfl rfl (by kernel_rfl) (fun _ _ _ h => h) (Or.inr ⟨by rfl, rfl⟩) ?_ ?_
                  rotate_left
                  · simp only [Act.put, List.setIfInBounds_toArray, List.set_cons_zero, List.set_cons_succ, i64_w, i32_w]
                    rfl
                  refine pure_ (i := 20) (N := some 48) (v := undef) (a' := ?_) #[true, true, true, true, true, true, true, true, true, true, true, true, true, true, true, true, true, true, true, true, true, false, false, false, false] rfl rfl (by kernel_rfl) (fun _ _ _ h => h) (Or.inr ⟨by rfl, rfl⟩) ?_ ?_
                  rotate_left
                  · simp only [Act.put, List.setIfInBounds_toArray, List.set_cons_zero, List.set_cons_succ, i64_w, i32_w]
                    rfl
                  refine pure_ (i := 21) (N := some 49) (v := undef) (a' := ?_) #[true, true, true, true, true, true, true, true, true, true, true, true, true, true, true, true, true, true, true, true, true, true, false, false, false] rfl rfl (by kernel_rfl) (fun _ _ _ h => h) (Or.inr ⟨by rfl, rfl⟩) ?_ ?_
                  rotate_left
                  · simp only [Act.put, List.setIfInBounds_toArray, List.set_cons_zero, List.set_cons_succ, i64_w, i32_w]
                    rfl
                  refine pure_ (i := 22) (N := some 50) (v := undef) (a' := ?_) #[true, true, true, true, true, true, true, true, true, true, true, true, true, true, true, true, true, true, true, true, true, true, true, false, false] rfl rfl (by kernel_rfl) (fun _ _ _ h => h) (Or.inr ⟨by rfl, rfl⟩) ?_ ?_
                  rotate_left
                  · simp only [Act.put, List.setIfInBounds_toArray, List.set_cons_zero, List.set_cons_succ, i64_w, i32_w]
                    rfl
                  refine pure_ (i := 23) (N := some 51) (v := ?_) (a' := ?_) #[true, true, true, true, true, true, true, true, true, true, true, true, true, true, true, true, true, true, true, true, true, true, true, true, false] rfl rfl (by kernel_rfl) (fun _ _ _ h => h) (Or.inl ⟨by rfl, ?_⟩) ?_ ?_
                  rotate_left
                  · intro w'
                    go_simp
                    with_reducible rfl
                  rotate_left
                  · simp only [Act.put, List.setIfInBounds_toArray, List.set_cons_zero, List.set_cons_succ, i64_w, i32_w]
                    rfl
                  refine pure_ (i := 24) (N := some 2) (v := ?_) (a' := ?_) #[true, true, true, true, true, true, true, true, true, true, true, true, true, true, true, true, true, true, true, true, true, true, true, true, true] rfl rfl (by kernel_rfl) (fun _ _ _ h => h) (Or.inl ⟨by rfl, ?_⟩) ?_ ?_
                  rotate_left
                  · intro w'
                    go_simp
                    with_reducible rfl
                  rotate_left
                  · simp only [Act.put, List.setIfInBounds_toArray, List.set_cons_zero, List.set_cons_succ, i64_w, i32_w]
                    rfl
                  refine done_ (by kernel_rfl) ?_
                  replace HS : Aside0 (Sep (fps []) w [] w2401) := ⟨HS.out.sub (.cons _ .slnil)⟩
                  go_wp2_with fail
                  go_ret
                  rw [← some_eq H]
                  exact ⟨(by first | rfl | (simp [IntKind.wrap_u32]; done)), HS.out⟩
              · replace H := if_no c2405 H
                have c2405b0 : b2403 = false := by simpa using c2405
                have c2405b1 : (!b2403) = true := by rw [c2405b0]; rfl
                clear c2405
                try simp only [c2405b0, Bool.not_true, Bool.not_false]
                refine pure_ (i := 5) (N := some 33) (v := undef) (a' := ?_) #[true, true, true, true, true, true, false, false, false, false, false, false, false, false, false, false, false, false, false, false, false, false, false, false, false] rfl rfl (by kernel_rfl) (fun _ _ _ h => h) (Or.inr ⟨by rfl, rfl⟩) ?_ ?_
                rotate_left
                · simp only [Act.put, List.setIfInBounds_toArray, List.set_cons_zero, List.set_cons_succ, i64_w, i32_w]
                  rfl
                try simp only [c2405b0, Bool.not_true, Bool.not_false]
                refine pure_ (i := 6) (N := some 34) (v := undef) (a' := ?_) #[true, true, true, true, true, true, true, false, false, false, false, false, false, false, false, false, false, false, false, false, false, false, false, false, false] rfl rfl (by kernel_rfl) (fun _ _ _ h => h) (Or.inr ⟨by rfl, rfl⟩) ?_ ?_
                rotate_left
                · simp only [Act.put, List.setIfInBounds_toArray, List.set_cons_zero, List.set_cons_succ, i64_w, i32_w]
                  rfl
                try simp only [c2405b0, Bool.not_true, Bool.not_false]
                refine pure_ (i := 7) (N := some 35) (v := undef) (a' := ?_) #[true, true, true, true, true, true, true, true, false, false, false, false, false, false, false, false, false, false, false, false, false, false, false, false, false] rfl rfl (by kernel_rfl) (fun _ _ _ h => h) (Or.inr ⟨by rfl, rfl⟩) ?_ ?_
                rotate_left
                · simp only [Act.put, List.setIfInBounds_toArray, List.set_cons_zero, List.set_cons_succ, i64_w, i32_w]
                  rfl
                refine pure_ (i := 8) (N := some 36) (v := ?_) (a' := ?_) #[true, true, true, true, true, true, true, true, true, false, false, false, false, false, false, false, false, false, false, false, false, false, false, false, false] rfl rfl (by kernel_rfl) (fun _ _ _ h => h) (Or.inl ⟨by rfl, ?_⟩) ?_ ?_
                rotate_left
                · intro w'
                  go_simp
                  with_reducible rfl
                rotate_left
                · simp only [Act.put, List.setIfInBounds_toArray, List.set_cons_zero, List.set_cons_succ, i64_w, i32_w]
                  rfl
                refine pure_ (i := 9) (N := some 37) (v := ?_) (a' := ?_) #[true, true, true, true, true, true, true, true, true, true, false, false, false, false, false, false, false, false, false, false, false, false, false, false, false] rfl rfl (by kernel_rfl) (fun _ _ _ h => h) (Or.inl ⟨by rfl, ?_⟩) ?_ ?_
                rotate_left
                · intro w'
                  go_simp
                  with_reducible rfl
                rotate_left
                · simp only [Act.put, List.setIfInBounds_toArray, List.set_cons_zero, List.set_cons_succ, i64_w, i32_w]
                  rfl
                refine pure_ (i := 10) (N := some 38) (v := undef) (a' := ?_) #[true, true, true, true, true, true, true, true, true, true, true, false, false, false, false, false, false, false, false, false, false, false, false, false, false] rfl rfl (by kernel_rfl) (fun _ _ _ h => h) (Or.inr ⟨by rfl, rfl⟩) ?_ ?_
                rotate_left
                · simp only [Act.put, List.setIfInBounds_toArray, List.set_cons_zero, List.set_cons_succ, i64_w, i32_w]
                  rfl
                refine pure_ (i := 11) (N := some 39) (v := undef) (a' := ?_) #[true, true, true, true, true, true, true, true, true, true, true, true, false, false, false, false, false, false, false, false, false, false, false, false, false] rfl rfl (by kernel_rfl) (fun _ _ _ h => h) (Or.inr ⟨by rfl, rfl⟩) ?_ ?_
                rotate_left
                · simp only [Act.put, List.setIfInBounds_toArray, List.set_cons_zero, List.set_cons_succ, i64_w, i32_w]
                  rfl
                refine pure_ (i := 12) (N := some 40) (v := undef) (a' := ?_) #[true, true, true, true, true, true, true, true, true, true, true, true, true, false, false, false, false, false, false, false, false, false, false, false, false] rfl rfl (by kernel_rfl) (fun _ _ _ h => h) (Or.inr ⟨by rfl, rfl⟩) ?_ ?_
                rotate_left
                · simp only [Act.put, List.setIfInBounds_toArray, List.set_cons_zero, List.set_cons_succ, i64_w, i32_w]
                  rfl
                refine pure_ (i := 13) (N := some 41) (v := ?_) (a' := ?_) #[true, true, true, true, true, true, true, true, true, true, true, true, true, true, false, false, false, false, false, false, false, false, false, false, false] rfl rfl (by kernel_rfl) (fun _ _ _ h => h) (Or.inl ⟨by rfl, ?_⟩) ?_ ?_
                rotate_left
                · intro w'
                  go_simp
                  with_reducible rfl
                rotate_left
                · simp only [Act.put, List.setIfInBounds_toArray, List.set_cons_zero, List.set_cons_succ, i64_w, i32_w]
                  rfl
                refine pure_ (i := 14) (N := some 42) (v := ?_) (a' := ?_) #[true, true, true, true, true, true, true, true, true, true, true, true, true, true, true, false, false, false, false, false, false, false, false, false, false] rfl rfl (by kernel_rfl) (fun _ _ _ h => h) (Or.inl ⟨by rfl, ?_⟩) ?_ ?_
                rotate_left
                · intro w'
                  go_simp
                  with_reducible rfl
                rotate_left
                · simp only [Act.put, List.setIfInBounds_toArray, List.set_cons_zero, List.set_cons_succ, i64_w, i32_w]
                  rfl
                refine pure_ (i := 15) (N := some 43) (v := undef) (a' := ?_) #[true, true, true, true, true, true, true, true, true, true, true, true, true, true, true, true, false, false, false, false, false, false, false, false, false] rfl rfl (by kernel_rfl) (fun _ _ _ h => h) (Or.inr ⟨by rfl, rfl⟩) ?_ ?_
                rotate_left
                · simp only [Act.put, List.setIfInBounds_toArray, List.set_cons_zero, List.set_cons_succ, i64_w, i32_w]
                  rfl
                refine pure_ (i := 16) (N := some 44) (v := undef) (a' := ?_) #[true, true, true, true, true, true, true, true, true, true, true, true, true, true, true, true, true, false, false, false, false, false, false, false, false] rfl rfl (by kernel_rfl) (fun _ _ _ h => h) (Or.inr ⟨by rfl, rfl⟩) ?_ ?_
                rotate_left
                · simp only [Act.put, List.setIfInBounds_toArray, List.set_cons_zero, List.set_cons_succ, i64_w, i32_w]
                  rfl
                refine pure_ (i := 17) (N := some 45) (v := undef) (a' := ?_) #[true, true, true, true, true, true, true, true, true, true, true, true, true, true, true, true, true, true, false, false, false, false, false, false, false] rfl rfl (by kernel_rfl) (fun _ _ _ h => h) (Or.inr ⟨by rfl, rfl⟩) ?_ ?_
                rotate_left
                · simp only [Act.put, List.setIfInBounds_toArray, List.set_cons_zero, List.set_cons_succ, i64_w, i32_w]
                  rfl
                refine pure_ (i := 18) (N := some 46) (v := undef) (a' := ?_) #[true, true, true, true, true, true, true, true, true, true, true, true, true, true, true, true, true, true, true, false, false, false, false, false, false] rfl rfl (by kernel_rfl) (fun _ _ _ h => h) (Or.inr ⟨by rfl, rfl⟩) ?_ ?_
                rotate_left
                · simp only [Act.put, List.setIfInBounds_toArray, List.set_cons_zero, List.set_cons_succ, i64_w, i32_w]
                  rfl
                refine pure_ (i := 19) (N := some 47) (v := undef) (a' := ?_) #[true, true, true, true, true, true, true, true, true, true, true, true, true, true, true, true, true, true, true, true, false, false, false, false, false] rfl rfl (by kernel_rfl) (fun _ _ _ h => h) (Or.inr ⟨by rfl, rfl⟩) ?_ ?_
                rotate_left
                · simp only [Act.put, List.setIfInBounds_toArray, List.set_cons_zero, List.set_cons_succ, i64_w, i32_w]
                  rfl
                refine pure_ (i := 20) (N := some 48) (v := undef) (a' := ?_) #[true, true, true, true, true, true, true, true, true, true, true, true, true, true, true, true, true, true, true, true, true, false, false, false, false] rfl rfl (by kernel_rfl) (fun _ _ _ h => h) (Or.inr ⟨by rfl, rfl⟩) ?_ ?_
                rotate_left
                · simp only [Act.put, List.setIfInBounds_toArray, List.set_cons_zero, List.set_cons_succ, i64_w, i32_w]
                  rfl
                refine pure_ (i := 21) (N := some 49) (v := undef) (a' := ?_) #[true, true, true, true, true, true, true, true, true, true, true, true, true, true, true, true, true, true, true, true, true, true, false, false, false] rfl rfl (by kernel_rfl) (fun _ _ _ h => h) (Or.inr ⟨by rfl, rfl⟩) ?_ ?_
                rotate_left
                · simp only [Act.put, List.setIfInBounds_toArray, List.set_cons_zero, List.set_cons_succ, i64_w, i32_w]
                  rfl
                refine pure_ (i := 22) (N := some 50) (v := undef) (a' := ?_) #[true, true, true, true, true, true, true, true, true, true, true, true, true, true, true, true, true, true, true, true, true, true, true, false, false] rfl rfl (by kernel_rfl) (fun _ _ _ h => h) (Or.inr ⟨by rfl, rfl⟩) ?_ ?_
                rotate_left
                · simp only [Act.put, List.setIfInBounds_toArray, List.set_cons_zero, List.set_cons_succ, i64_w, i32_w]
                  rfl
                refine pure_ (i := 23) (N := some 51) (v := ?_) (a' := ?_) #[true, true, true, true, true, true, true, true, true, true, true, true, true, true, true, true, true, true, true, true, true, true, true, true, false] rfl rfl (by kernel_rfl) (fun _ _ _ h => h) (Or.inl ⟨by rfl, ?_⟩) ?_ ?_
                rotate_left
                · intro w'
                  go_simp
                  with_reducible rfl
                rotate_left
                · simp only [Act.put, List.setIfInBounds_toArray, List.set_cons_zero, List.set_cons_succ, i64_w, i32_w]
                  rfl
                refine pure_ (i := 24) (N := some 2) (v := ?_) (a' := ?_) #[true, true, true, true, true, true, true, true, true, true, true, true, true, true, true, true, true, true, true, true, true, true, true, true, true] rfl rfl (by kernel_rfl) (fun _ _ _ h => h) (Or.inl ⟨by rfl, ?_⟩) ?_ ?_
                rotate_left
                · intro w'
                  go_simp
                  with_reducible rfl
                rotate_left
                · simp only [Act.put, List.setIfInBounds_toArray, List.set_cons_zero, List.set_cons_succ, i64_w, i32_w]
                  rfl
                refine done_ (by kernel_rfl) ?_
                replace HS : Aside0 (Sep (fps []) w [] w2401) := ⟨HS.out.sub (.cons _ .slnil)⟩
                go_wp2_with fail
                go_ret
                rw [← some_eq H]
                exact ⟨(by first | rfl | (simp [IntKind.wrap_u32]; done)), HS.out⟩
            · replace H := if_no c2396 H
              have c2396b0 : (a2314 == 0) = false := beq_eq_false_iff_ne.mpr c2396
              have c2396b1 : (a2314 != 0) = true := bne_iff_ne.mpr c2396
              clear c2396
              by_cases c2409 : a2314 = 3
              · replace H := if_yes c2409 H
                have c2409b0 : (a2314 == 3) = true := beq_iff_eq.mpr c2409
                have c2409b1 : (a2314 != 3) = false := bne_eq_false_iff_eq.mpr c2409
                clear c2409
                have hc2391 : w2382.cell? ⟨g2321, 0, none⟩ = some (.int .i64 a2314) := blk_cellv (HS.out.at0) 0 rfl
                go_wp2_with fail
                clear hc2391
                refine start_ (n := 25) (S := (fun w' => w'.cell? ⟨g2321, 0, none⟩ = some (.int .i64 a2314) ∧ w'.cell? ⟨g2321, 1, none⟩ = some (.int .i64 a2315) ∧ w'.cell? ⟨g2321, 2, none⟩ = some (.int .i64 a2316) ∧ w'.cell? ⟨g2321, 3, none⟩ = some (.int .i64 a2317) ∧ w'.cell? ⟨g2321, 4, none⟩ = some (.int .i64 a2318) ∧ w'.cell? ⟨g2321, 5, none⟩ = some (.int .i64 a2319) ∧ w'.cell? ⟨g2321, 6, none⟩ = some (.int .i64 a2320) ∧ w'.cell? ⟨0, 0, none⟩ = some (.int .i64 0) ∧ w'.cell? ⟨0, 1, none⟩ = some (.int .i64 0) ∧ w'.cell? ⟨0, 2, none⟩ = some (.int .i64 0) ∧ w'.cell? ⟨0, 3, none⟩ = some (.int .i64 0) ∧ w'.cell? ⟨0, 4, none⟩ = some (.int .i64 0))) (ds := []) #[false, false, false, false, false, false, false, false, false, false, false, false, false, false, false, false, false, false, false, false, false, false, false, false, false] (by kernel_rfl) rfl rfl (⟨blk_cellv ((HS.out.drew).at0) 0 rfl, blk_cellv ((HS.out.drew).at0) 1 rfl, blk_cellv ((HS.out.drew).at0) 2 rfl, blk_cellv ((HS.out.drew).at0) 3 rfl, blk_cellv ((HS.out.drew).at0) 4 rfl, blk_cellv ((HS.out.drew).at0) 5 rfl, blk_cellv ((HS.out.drew).at0) 6 rfl, Gl.cell HGl0.out (HS.out.drew).fr 0 rfl, Gl.cell HGl0.out (HS.out.drew).fr 1 rfl, Gl.cell HGl0.out (HS.out.drew).fr 2 rfl, Gl.cell HGl0.out (HS.out.drew).fr 3 rfl, Gl.cell HGl0.out (HS.out.drew).fr 4 rfl⟩) (fun hHeld => ?_)
                have HS_ := Aside0.mk HS.out.drew
                clear HS
                generalize World.drew _ = w2411 at HS_ hHeld ⊢
                have HS := HS_
                clear HS_
                refine take_ (i := 0) (N := some 28) (v := ?_) (a' := ?_) #[true, false, false, false, false, false, false, false, false, false, false, false, false, false, false, false, false, false, false, false, false, false, false, false, false] rfl rfl (by kernel_rfl) (fun _ _ _ h => h) (Or.inl ⟨by rfl, ?_⟩) hHeld ?_ ?_
                rotate_left
                · rintro w' hS'
                  obtain ⟨s0, s1, s2, s3, s4, s5, s6, s7, s8, s9, s10, s11⟩ := hS'
                  go_simp
                  with_reducible rfl
                rotate_left
                · simp only [Act.put, List.setIfInBounds_toArray, List.set_cons_zero, List.set_cons_succ, i64_w, i32_w]
                  rfl
                refine take_ (i := 2) (N := some 30) (v := ?_) (a' := ?_) #[true, false, true, false, false, false, false, false, false, false, false, false, false, false, false, false, false, false, false, false, false, false, false, false, false] rfl rfl (by kernel_rfl) (fun _ _ _ h => h) (Or.inl ⟨by rfl, ?_⟩) hHeld ?_ ?_
                rotate_left
                · rintro w' hS'
                  obtain ⟨s0, s1, s2, s3, s4, s5, s6, s7, s8, s9, s10, s11⟩ := hS'
                  go_simp
                  with_reducible rfl
                rotate_left
                · simp only [Act.put, List.setIfInBounds_toArray, List.set_cons_zero, List.set_cons_succ, i64_w, i32_w]
                  rfl
                refine one_ (i := 1) (N := some 29) #[true, true, true, false, false, false, false, false, false, false, false, false, false, false, false, false, false, false, false, false, false, false, false, false, false] rfl rfl (by kernel_rfl) (by decide) (fun K hK => ?_)
                obtain ⟨t2399, HA2412, H⟩ := bind_some H
                refine goes_ Tryd.func68 (by kernel_rfl) rfl #[.agg #[.int .i64 a2314, .int .i64 a2315, .int .i64 a2316, .int .i64 a2317, .int .i64 a2318, .int .i64 a2319, .int .i64 a2320]] (by rfl) rfl rfl (by (try simp only [List.map_toArray, List.map_cons, List.map_nil]); first | done | rfl) ?_
                refine (tag_marks.calls a2314 a2315 a2316 a2317 a2318 a2319 a2320 t2399 _ ⟨HGl0.out.pass (l := []) HS.out⟩ ⟨Sep.start _⟩ HA2412).mono ?_
                rintro e_ w2413 ⟨rfl, hS⟩
                replace HS : Aside0 (Sep (fps []) w [b17 g2321 a2314 a2315 a2316 a2317 a2318 a2319 a2320] w2413) := ⟨HS.out.call hS⟩
                clear hS
                refine ⟨_, rfl, ?_⟩
                refine hK.out _ _ (⟨blk_cellv (HS.out.at0) 0 rfl, blk_cellv (HS.out.at0) 1 rfl, blk_cellv (HS.out.at0) 2 rfl, blk_cellv (HS.out.at0) 3 rfl, blk_cellv (HS.out.at0) 4 rfl, blk_cellv (HS.out.at0) 5 rfl, blk_cellv (HS.out.at0) 6 rfl, Gl.cell HGl0.out HS.out.fr 0 rfl, Gl.cell HGl0.out HS.out.fr 1 rfl, Gl.cell HGl0.out HS.out.fr 2 rfl, Gl.cell HGl0.out HS.out.fr 3 rfl, Gl.cell HGl0.out HS.out.fr 4 rfl⟩) (fun hHeld => ?_)
                clear hK K
                refine norm_ (a' := ?_) ?_ ?_
                rotate_left
                · show Act.put _ (some 29) _ = _
                  simp only [Act.put, List.setIfInBounds_toArray, List.set_cons_zero, List.set_cons_succ, i64_w, i32_w]
                  rfl
                obtain ⟨b2403, HA2415, H⟩ := bind_some H
                have eb2414 : ∀ w, (Op.equalIn 10000 108 (.agg #[.int .i64 t2399.1, .int .i64 t2399.2.1, .int .i64 t2399.2.2.1, .int .i64 t2399.2.2.2.1, .int .i64 t2399.2.2.2.2]) (.agg #[.int .i64 0, .int .i64 0, .int .i64 0, .int .i64 0, .int .i64 0])).run Tryd.prog w = .ok b2403 w := some_eq HA2415 ▸ run_eq_ints 9998 108 3 5 .i64 [t2399.1, t2399.2.1, t2399.2.2.1, t2399.2.2.2.1, t2399.2.2.2.2] [0, 0, 0, 0, 0] Tryd.underlying108 (by kernel_rfl) (by kernel_rfl) Tryd.underlying3 (fun _ => by kernel_rfl) rfl rfl
                refine pure_ (i := 3) (N := some 31) (v := ?_) (a' := ?_) #[true, true, true, true, false, false, false, false, false, false, false, false, false, false, false, false, false, false, false, false, false, false, false, false, false] rfl rfl (by kernel_rfl) (fun _ _ _ h => h) (Or.inl ⟨by rfl, ?_⟩) ?_ ?_
                rotate_left
                · intro w'
                  go_simp
                  with_reducible rfl
                rotate_left
                · simp only [Act.put, List.setIfInBounds_toArray, List.set_cons_zero, List.set_cons_succ, i64_w, i32_w]
                  rfl
                refine pure_ (i := 4) (N := some 32) (v := ?_) (a' := ?_) #[true, true, true, true, true, false, false, false, false, false, false, false, false, false, false, false, false, false, false, false, false, false, false, false, false] rfl rfl (by kernel_rfl) (fun _ _ _ h => h) (Or.inl ⟨by rfl, ?_⟩) ?_ ?_
                rotate_left
                · intro w'
                  go_simp
                  with_reducible rfl
                rotate_left
                · simp only [Act.put, List.setIfInBounds_toArray, List.set_cons_zero, List.set_cons_succ, i64_w, i32_w]
                  rfl
                by_cases c2416 : b2403 = true
                · replace H := if_yes c2416 H
                  have c2416b0 : b2403 = true := c2416
                  have c2416b1 : (!b2403) = false := by rw [c2416b0]; rfl
                  clear c2416
                  try simp only [c2416b0, Bool.not_true, Bool.not_false]
                  refine pure_ (i := 5) (N := some 33) (v := ?_) (a' := ?_) #[true, true, true, true, true, true, false, false, false, false, false, false, false, false, false, false, false, false, false, false, false, false, false, false, false] rfl rfl (by kernel_rfl) (fun _ _ _ h => h) (Or.inl ⟨by rfl, ?_⟩) ?_ ?_
                  rotate_left
                  · intro w'
                    go_simp
                    with_reducible rfl
                  rotate_left
                  · simp only [Act.put, List.setIfInBounds_toArray, List.set_cons_zero, List.set_cons_succ, i64_w, i32_w]
                    rfl
                  try simp only [c2416b0, Bool.not_true, Bool.not_false]
                  refine take_ (i := 6) (N := some 34) (v := ?_) (a' := ?_) #[true, true, true, true, true, true, true, false, false, false, false, false, false, false, false, false, false, false, false, false, false, false, false, false, false] rfl rfl (by kernel_rfl) (fun _ _ _ h => h) (Or.inl ⟨by rfl, ?_⟩) hHeld ?_ ?_
                  rotate_left
                  · rintro w' hS'
                    obtain ⟨s0, s1, s2, s3, s4, s5, s6, s7, s8, s9, s10, s11⟩ := hS'
                    go_simp
                    with_reducible rfl
                  rotate_left
                  · simp only [Act.put, List.setIfInBounds_toArray, List.set_cons_zero, List.set_cons_succ, i64_w, i32_w]
                    rfl
                  try simp only [c2416b0, Bool.not_true, Bool.not_false]
                  refine pure_ (i := 7) (N := some 35) (v := ?_) (a' := ?_) #[true, true, true, true, true, true, true, true, false, false, false, false, false, false, false, false, false, false, false, false, false, false, false, false, false] rfl rfl (by kernel_rfl) (fun _ _ _ h => h) (Or.inl ⟨by rfl, ?_⟩) ?_ ?_
                  rotate_left
                  · intro w'
                    go_simp
                    with_reducible rfl
                  rotate_left
                  · simp only [Act.put, List.setIfInBounds_toArray, List.set_cons_zero, List.set_cons_succ, i64_w, i32_w]
                    rfl
                  refine pure_ (i := 8) (N := some 36) (v := ?_) (a' := ?_) #[true, true, true, true, true, true, true, true, true, false, false, false, false, false, false, false, false, false, false, false, false, false, false, false, false] rfl rfl (by kernel_rfl) (fun _ _ _ h => h) (Or.inl ⟨by rfl, ?_⟩) ?_ ?_
                  rotate_left
                  · intro w'
                    go_simp
                    with_reducible rfl
                  rotate_left
                  · simp only [Act.put, List.setIfInBounds_toArray, List.set_cons_zero, List.set_cons_succ, i64_w, i32_w]
                    rfl
                  refine pure_ (i := 9) (N := some 37) (v := ?_) (a' := ?_) #[true, true, true, true, true, true, true, true, true, true, false, false, false, false, false, false, false, false, false, false, false, false, false, false, false] rfl rfl (by kernel_rfl) (fun _ _ _ h => h) (Or.inl ⟨by rfl, ?_⟩) ?_ ?_
                  rotate_left
                  · intro w'
                    go_simp
                    with_reducible rfl
                  rotate_left
                  · simp only [Act.put, List.setIfInBounds_toArray, List.set_cons_zero, List.set_cons_succ, i64_w, i32_w]
                    rfl
                  by_cases c2417 : a2320 ≥ 0
                  · replace H := if_yes c2417 H
                    have c2417b0 : decide (0 ≤ a2320) = true := decide_eq_true c2417
                    clear c2417
                    try simp only [c2417b0, Bool.not_true, Bool.not_false]
                    refine pure_ (i := 10) (N := some 38) (v := ?_) (a' := ?_) #[true, true, true, true, true, true, true, true, true, true, true, false, false, false, false, false, false, false, false, false, false, false, false, false, false] rfl rfl (by kernel_rfl) (fun _ _ _ h => h) (Or.inl ⟨by rfl, ?_⟩) ?_ ?_
                    rotate_left
                    · intro w'
                      go_simp
                      with_reducible rfl
                    rotate_left
                    · simp only [Act.put, List.setIfInBounds_toArray, List.set_cons_zero, List.set_cons_succ, i64_w, i32_w]
                      rfl
                    try simp only [c2417b0, Bool.not_true, Bool.not_false]
                    refine take_ (i := 11) (N := some 39) (v := ?_) (a' := ?_) #[true, true, true, true, true, true, true, true, true, true, true, true, false, false, false, false, false, false, false, false, false, false, false, false, false] rfl rfl (by kernel_rfl) (fun _ _ _ h => h) (Or.inl ⟨by rfl, ?_⟩) hHeld ?_ ?_
                    rotate_left
                    · rintro w' hS'
                      obtain ⟨s0, s1, s2, s3, s4, s5, s6, s7, s8, s9, s10, s11⟩ := hS'
                      go_simp
                      with_reducible rfl
                    rotate_left
                    · simp only [Act.put, List.setIfInBounds_toArray, List.set_cons_zero, List.set_cons_succ, i64_w, i32_w]
                      rfl
                    try simp only [c2417b0, Bool.not_true, Bool.not_false]
                    refine pure_ (i := 12) (N := some 40) (v := ?_) (a' := ?_) #[true, true, true, true, true, true, true, true, true, true, true, true, true, false, false, false, false, false, false, false, false, false, false, false, false] rfl rfl (by kernel_rfl) (fun _ _ _ h => h) (Or.inl ⟨by rfl, ?_⟩) ?_ ?_
                    rotate_left
                    · intro w'
                      go_simp
                      with_reducible rfl
                    rotate_left
                    · simp only [Act.put, List.setIfInBounds_toArray, List.set_cons_zero, List.set_cons_succ, i64_w, i32_w]
                      rfl
                    refine pure_ (i := 13) (N := some 41) (v := ?_) (a' := ?_) #[true, true, true, true, true, true, true, true, true, true, true, true, true, true, false, false, false, false, false, false, false, false, false, false, false] rfl rfl (by kernel_rfl) (fun _ _ _ h => h) (Or.inl ⟨by rfl, ?_⟩) ?_ ?_
                    rotate_left
                    · intro w'
                      go_simp
                      with_reducible rfl
                    rotate_left
                    · simp only [Act.put, List.setIfInBounds_toArray, List.set_cons_zero, List.set_cons_succ, i64_w, i32_w]
                      rfl
                    refine pure_ (i := 14) (N := some 42) (v := ?_) (a' := ?_) #[true, true, true, true, true, true, true, true, true, true, true, true, true, true, true, false, false, false, false, false, false, false, false, false, false] rfl rfl (by kernel_rfl) (fun _ _ _ h => h) (Or.inl ⟨by rfl, ?_⟩) ?_ ?_
                    rotate_left
                    · intro w'
                      go_simp
                      with_reducible rfl
                    rotate_left
                    · simp only [Act.put, List.setIfInBounds_toArray, List.set_cons_zero, List.set_cons_succ, i64_w, i32_w]
                      rfl
                    by_cases c2418 : a2320 < 1048576
                    · replace H := if_yes c2418 H
                      have c2418b0 : decide (a2320 < 1048576) = true := decide_eq_true c2418
                      clear c2418
                      try simp only [c2418b0, Bool.not_true, Bool.not_false]
                      refine pure_ (i := 15) (N := some 43) (v := ?_) (a' := ?_) #[true, true, true, true, true, true, true, true, true, true, true, true, true, true, true, true, false, false, false, false, false, false, false, false, false] rfl rfl (by kernel_rfl) (fun _ _ _ h => h) (Or.inl ⟨by rfl, ?_⟩) ?_ ?_
                      rotate_left
                      · intro w'
                        go_simp
                        with_reducible rfl
                      rotate_left
                      · simp only [Act.put, List.setIfInBounds_toArray, List.set_cons_zero, List.set_cons_succ, i64_w, i32_w]
                        rfl
                      try simp only [c2418b0, Bool.not_true, Bool.not_false]
                      refine take_ (i := 16) (N := some 44) (v := ?_) (a' := ?_) #[true, true, true, true, true, true, true, true, true, true, true, true, true, true, true, true, true, false, false, false, false, false, false, false, false] rfl rfl (by kernel_rfl) (fun _ _ _ h => h) (Or.inl ⟨by rfl, ?_⟩) hHeld ?_ ?_
                      rotate_left
                      · rintro w' hS'
                        obtain ⟨s0, s1, s2, s3, s4, s5, s6, s7, s8, s9, s10, s11⟩ := hS'
                        go_simp
                        with_reducible rfl
                      rotate_left
                      · simp only [Act.put, List.setIfInBounds_toArray, List.set_cons_zero, List.set_cons_succ, i64_w, i32_w]
                        rfl
                      try simp only [c2418b0, Bool.not_true, Bool.not_false]
                      refine pure_ (i := 17) (N := some 45) (v := ?_) (a' := ?_) #[true, true, true, true, true, true, true, true, true, true, true, true, true, true, true, true, true, true, false, false, false, false, false, false, false] rfl rfl (by kernel_rfl) (fun _ _ _ h => h) (Or.inl ⟨by rfl, ?_⟩) ?_ ?_
                      rotate_left
                      · intro w'
                        go_simp
                        with_reducible rfl
                      rotate_left
                      · simp only [Act.put, List.setIfInBounds_toArray, List.set_cons_zero, List.set_cons_succ, i64_w, i32_w]
                        rfl
                      try simp only [c2418b0, Bool.not_true, Bool.not_false]
                      refine pure_ (i := 18) (N := some 46) (v := ?_) (a' := ?_) #[true, true, true, true, true, true, true, true, true, true, true, true, true, true, true, true, true, true, true, false, false, false, false, false, false] rfl rfl (by kernel_rfl) (fun _ _ _ h => h) (Or.inl ⟨by rfl, ?_⟩) ?_ ?_
                      rotate_left
                      · intro w'
                        go_simp
                        with_reducible rfl
                      rotate_left
                      · simp only [Act.put, List.setIfInBounds_toArray, List.set_cons_zero, List.set_cons_succ, i64_w, i32_w]
                        rfl
                      try simp only [c2409b0, c2409b1, Bool.not_true, Bool.not_false]
                      refine pure_ (i := 19) (N := some 47) (v := undef) (a' := ?_) #[true, true, true, true, true, true, true, true, true, true, true, true, true, true, true, true, true, true, true, true, false, false, false, false, false] rfl rfl (by kernel_rfl) (fun _ _ _ h => h) (Or.inr ⟨by rfl, rfl⟩) ?_ ?_
                      rotate_left
                      · simp only [Act.put, List.setIfInBounds_toArray, List.set_cons_zero, List.set_cons_succ, i64_w, i32_w]
                        rfl
                      try simp only [c2409b0, c2409b1, Bool.not_true, Bool.not_false]
                      refine pure_ (i := 20) (N := some 48) (v := undef) (a' := ?_) #[true, true, true, true, true, true, true, true, true, true, true, true, true, true, true, true, true, true, true, true, true, false, false, false, false] rfl rfl (by kernel_rfl) (fun _ _ _ h => h) (Or.inr ⟨by rfl, rfl⟩) ?_ ?_
                      rotate_left
                      · simp only [Act.put, List.setIfInBounds_toArray, List.set_cons_zero, List.set_cons_succ, i64_w, i32_w]
                        rfl
                      try simp only [c2409b0, c2409b1, Bool.not_true, Bool.not_false]
                      refine pure_ (i := 21) (N := some 49) (v := undef) (a' := ?_) #[true, true, true, true, true, true, true, true, true, true, true, true, true, true, true, true, true, true, true, true, true, true, false, false, false] rfl rfl (by kernel_rfl) (fun _ _ _ h => h) (Or.inr ⟨by rfl, rfl⟩) ?_ ?_
                      rotate_left
                      · simp only [Act.put, List.setIfInBounds_toArray, List.set_cons_zero, List.set_cons_succ, i64_w, i32_w]
                        rfl
                      try simp only [c2418b0, Bool.not_true, Bool.not_false]
                      refine pure_ (i := 22) (N := some 50) (v := ?_) (a' := ?_) #[true, true, true, true, true, true, true, true, true, true, true, true, true, true, true, true, true, true, true, true, true, true, true, false, false] rfl rfl (by kernel_rfl) (fun _ _ _ h => h) (Or.inl ⟨by rfl, ?_⟩) ?_ ?_
                      rotate_left
                      · intro w'
                        go_simp
                        with_reducible rfl
                      rotate_left
                      · simp only [Act.put, List.setIfInBounds_toArray, List.set_cons_zero, List.set_cons_succ, i64_w, i32_w]
                        rfl
                      refine pure_ (i := 23) (N := some 51) (v := ?_) (a' := ?_) #[true, true, true, true, true, true, true, true, true, true, true, true, true, true, true, true, true, true, true, true, true, true, true, true, false] rfl rfl (by kernel_rfl) (fun _ _ _ h => h) (Or.inl ⟨by rfl, ?_⟩) ?_ ?_
                      rotate_left
                      · intro w'
                        go_simp
                        with_reducible rfl
                      rotate_left
                      · simp only [Act.put, List.setIfInBounds_toArray, List.set_cons_zero, List.set_cons_succ, i64_w, i32_w]
                        rfl
                      refine pure_ (i := 24) (N := some 2) (v := ?_) (a' := ?_) #[true, true, true, true, true, true, true, true, true, true, true, true, true, true, true, true, true, true, true, true, true, true, true, true, true] rfl rfl (by kernel_rfl) (fun _ _ _ h => h) (Or.inl ⟨by rfl, ?_⟩) ?_ ?_
                      rotate_left
                      · intro w'
                        go_simp
                        with_reducible rfl
                      rotate_left
                      · simp only [Act.put, List.setIfInBounds_toArray, List.set_cons_zero, List.set_cons_succ, i64_w, i32_w]
                        rfl
                      refine done_ (by kernel_rfl) ?_
                      replace HS : Aside0 (Sep (fps []) w [] w2413) := ⟨HS.out.sub (.cons _ .slnil)⟩
                      go_wp2_with fail
                      go_ret
                      rw [← some_eq H]
                      exact ⟨(by first | rfl | (simp [IntKind.wrap_u32]; done)), HS.out⟩
                    · replace H := if_no c2418 H
                      have c2418b0 : decide (a2320 < 1048576) = false := decide_eq_false c2418
                      clear c2418
                      try simp only [c2418b0, Bool.not_true, Bool.not_false]
                      refine pure_ (i := 15) (N := some 43) (v := undef) (a' := ?_) #[true, true, true, true, true, true, true, true, true, true, true, true, true, true, true, true, false, false, false, false, false, false, false, false, false] rfl rfl (by kernel_rfl) (fun _ _ _ h => h) (Or.inr ⟨by rfl, rfl⟩) ?_ ?_
                      rotate_left
                      · simp only [Act.put, List.setIfInBounds_toArray, List.set_cons_zero, List.set_cons_succ, i64_w, i32_w]
                        rfl
                      try simp only [c2418b0, Bool.not_true, Bool.not_false]
                      refine pure_ (i := 16) (N := some 44) (v := undef) (a' := ?_) #[true, true, true, true, true, true, true, true, true, true, true, true, true, true, true, true, true, false, false, false, false, false, false, false, false] rfl rfl (by kernel_rfl) (fun _ _ _ h => h) (Or.inr ⟨by rfl, rfl⟩) ?_ ?_
                      rotate_left
                      · simp only [Act.put, List.setIfInBounds_toArray, List.set_cons_zero, List.set_cons_succ, i64_w, i32_w]
                        rfl
                      try simp only [c2418b0, Bool.not_true, Bool.not_false]
                      refine pure_ (i := 17) (N := some 45) (v := undef) (a' := ?_) #[true, true, true, true, true, true, true, true, true, true, true, true, true, true, true, true, true, true, false, false, false, false, false, false, false] rfl rfl (by kernel_rfl) (fun _ _ _ h => h) (Or.inr ⟨by rfl, rfl⟩) ?_ ?_
                      rotate_left
                      · simp only [Act.put, List.setIfInBounds_toArray, List.set_cons_zero, List.set_cons_succ, i64_w, i32_w]
                        rfl
                      try simp only [c2418b0, Bool.not_true, Bool.not_false]
                      refine pure_ (i := 18) (N := some 46) (v := undef) (a' := ?_) #[true, true, true, true, true, true, true, true, true, true, true, true, true, true, true, true, true, true, true, false, false, false, false, false, false] rfl rfl (by kernel_rfl) (fun _ _ _ h => h) (Or.inr ⟨by rfl, rfl⟩) ?_ ?_
                      rotate_left
                      · simp only [Act.put, List.setIfInBounds_toArray, List.set_cons_zero, List.set_cons_succ, i64_w, i32_w]
                        rfl
                      refine pure_ (i := 19) (N := some 47) (v := undef) (a' := ?_) #[true, true, true, true, true, true, true, true, true, true, true, true, true, true, true, true, true, true, true, true, false, false, false, false, false] rfl rfl (by kernel_rfl) (fun _ _ _ h => h) (Or.inr ⟨by rfl, rfl⟩) ?_ ?_
                      rotate_left
                      · simp only [Act.put, List.setIfInBounds_toArray, List.set_cons_zero, List.set_cons_succ, i64_w, i32_w]
                        rfl
                      refine pure_ (i := 20) (N := some 48) (v := undef) (a' := ?_) #[true, true, true, true, true, true, true, true, true, true, true, true, true, true, true, true, true, true, true, true, true, false, false, false, false] rfl rfl (by kernel_rfl) (fun _ _ _ h => h) (Or.inr ⟨by rfl, rfl⟩) ?_ ?_
                      rotate_left
                      · simp only [Act.put, List.setIfInBounds_toArray, List.set_cons_zero, List.set_cons_succ, i64_w, i32_w]
                        rfl
                      refine pure_ (i := 21) (N := some 49) (v := undef) (a' := ?_) #[true, true, true, true, true, true, true, true, true, true, true, true, true, true, true, true, true, true, true, true, true, true, false, false, false] rfl rfl (by kernel_rfl) (fun _ _ _ h => h) (Or.inr ⟨by rfl, rfl⟩) ?_ ?_
                      rotate_left
                      · simp only [Act.put, List.setIfInBounds_toArray, List.set_cons_zero, List.set_cons_succ, i64_w, i32_w]
                        rfl
                      try simp only [c2418b0, Bool.not_true, Bool.not_false]
                      refine pure_ (i := 22) (N := some 50) (v := undef) (a' := ?_) #[true, true, true, true, true, true, true, true, true, true, true, true, true, true, true, true, true, true, true, true, true, true, true, false, false] rfl rfl (by kernel_rfl) (fun _ _ _ h => h) (Or.inr ⟨by rfl, rfl⟩) ?_ ?_
                      rotate_left
                      · simp only [Act.put, List.setIfInBounds_toArray, List.set_cons_zero, List.set_cons_succ, i64_w, i32_w]
                        rfl
                      refine pure_ (i := 23) (N := some 51) (v := ?_) (a' := ?_) #[true, true, true, true, true, true, true, true, true, true, true, true, true, true, true, true, true, true, true, true, true, true, true, true, false] rfl rfl (by kernel_rfl) (fun _ _ _ h => h) (Or.inl ⟨by rfl, ?_⟩) ?_ ?_
                      rotate_left
                      · intro w'
                        go_simp
                        with_reducible rfl
                      rotate_left
                      · simp only [Act.put, List.setIfInBounds_toArray, List.set_cons_zero, List.set_cons_succ, i64_w, i32_w]
                        rfl
                      refine pure_ (i := 24) (N := some 2) (v := ?_) (a' := ?_) #[true, true, true, true, true, true, true, true, true, true, true, true, true, true, true, true, true, true, true, true, true, true, true, true, true] rfl rfl (by kernel_rfl) (fun _ _ _ h => h) (Or.inl ⟨by rfl, ?_⟩) ?_ ?_
                      rotate_left
                      · intro w'
                        go_simp
                        with_reducible rfl
                      rotate_left
                      · simp only [Act.put, List.setIfInBounds_toArray, List.set_cons_zero, List.set_cons_succ, i64_w, i32_w]
                        rfl
                      refine done_ (by kernel_rfl) ?_
                      replace HS : Aside0 (Sep (fps []) w [] w2413) := ⟨HS.out.sub (.cons _ .slnil)⟩
                      go_wp2_with fail
                      go_ret
                      rw [← some_eq H]
                      exact ⟨(by first | rfl | (simp [IntKind.wrap_u32]; done)), HS.out⟩
                  · replace H := if_no c2417 H
                    have c2417b0 : decide (0 ≤ a2320) = false := decide_eq_false c2417
                    clear c2417
                    try simp only [c2417b0, Bool.not_true, Bool.not_false]
                    refine pure_ (i := 10) (N := some 38) (v := undef) (a' := ?_) #[true, true, true, true, true, true, true, true, true, true, true, false, false, false, false, false, false, false, false, false, false, false, false, false, false] rfl rfl (by kernel_rfl) (fun _ _ _ h => h) (Or.inr ⟨by rfl, rfl⟩) ?_ ?_
                    rotate_left
                    · simp only [Act.put, List.setIfInBounds_toArray, List.set_cons_zero, List.set_cons_succ, i64_w, i32_w]
                      rfl
                    try simp only [c2417b0, Bool.not_true, Bool.not_false]
                    refine pure_ (i := 11) (N := some 39) (v := undef) (a' := ?_) #[true, true, true, true, true, true, true, true, true, true, true, true, false, false, false, false, false, false, false, false, false, false, false, false, false] rfl rfl (by kernel_rfl) (fun _ _ _ h => h) (Or.inr ⟨by rfl, rfl⟩) ?_ ?_
                    rotate_left
                    · simp only [Act.put, List.setIfInBounds_toArray, List.set_cons_zero, List.set_cons_succ, i64_w, i32_w]
                      rfl
                    try simp only [c2417b0, Bool.not_true, Bool.not_false]
                    refine pure_ (i := 12) (N := some 40) (v := undef) (a' := ?_) #[true, true, true, true, true, true, true, true, true, true, true, true, true, false, false, false, false, false, false, false, false, false, false, false, false] rfl rfl (by kernel_rfl) (fun _ _ _ h => h) (Or.inr ⟨by rfl, rfl⟩) ?_ ?_
                    rotate_left
                    · simp only [Act.put, List.setIfInBounds_toArray, List.set_cons_zero, List.set_cons_succ, i64_w, i32_w]
                      rfl
                    refine pure_ (i := 13) (N := some 41) (v := ?_) (a' := ?_) #[true, true, true, true, true, true, true, true, true, true, true, true, true, true, false, false, false, false, false, false, false, false, false, false, false] rfl rfl (by kernel_rfl) (fun _ _ _ h => h) (Or.inl ⟨by rfl, ?_⟩) ?_ ?_
                    rotate_left
                    · intro w'
                      go_simp
                      with_reducible rfl
                    rotate_left
                    · simp only [Act.put, List.setIfInBounds_toArray, List.set_cons_zero, List.set_cons_succ, i64_w, i32_w]
                      rfl
                    refine pure_ (i := 14) (N := some 42) (v := ?_) (a' := ?_) #[true, true, true, true, true, true, true, true, true, true, true, true, true, true, true, false, false, false, false, false, false, false, false, false, false] rfl rfl (by kernel_rfl) (fun _ _ _ h => h) (Or.inl ⟨by rfl, ?_⟩) ?_ ?_
                    rotate_left
                    · intro w'
                      go_simp
                      with_reducible rfl
                    rotate_left
                    · simp only [Act.put, List.setIfInBounds_toArray, List.set_cons_zero, List.set_cons_succ, i64_w, i32_w]
                      rfl
                    refine pure_ (i := 15) (N := some 43) (v := undef) (a' := ?_) #[true, true, true, true, true, true, true, true, true, true, true, true, true, true, true, true, false, false, false, false, false, false, false, false, false] rfl rfl (by kernel_rfl) (fun _ _ _ h => h) (Or.inr ⟨by rfl, rfl⟩) ?_ ?_
                    rotate_left
                    · simp only [Act.put, List.setIfInBounds_toArray, List.set_cons_zero, List.set_cons_succ, i64_w, i32_w]
                      rfl
                    refine pure_ (i := 16) (N := some 44) (v := undef) (a' := ?_) #[true, true, true, true, true, true, true, true, true, true, true, true, true, true, true, true, true, false, false, false, false, false, false, false, false] rfl rfl (by kernel_rfl) (fun _ _ _ h => h) (Or.inr ⟨by rfl, rfl⟩) ?_ ?_
                    rotate_left
                    · simp only [Act.put, List.setIfInBounds_toArray, List.set_cons_zero, List.set_cons_succ, i64_w, i32_w]
                      rfl
                    refine pure_ (i := 17) (N := some 45) (v := undef) (a' := ?_) #[true, true, true, true, true, true, true, true, true, true, true, true, true, true, true, true, true, true, false, false, false, false, false, false, false] rfl rfl (by kernel_rfl) (fun _ _ _ h => h) (Or.inr ⟨by rfl, rfl⟩) ?_ ?_
                    rotate_left
                    · simp only [Act.put, List.setIfInBounds_toArray, List.set_cons_zero, List.set_cons_succ, i64_w, i32_w]
                      rfl
                    refine pure_ (i := 18) (N := some 46) (v := undef) (a' := ?_) #[true, true, true, true, true, true, true, true, true, true, true, true, true, true, true, true, true, true, true, false, false, false, false, false, false] rfl rfl (by kernel_rfl) (fun _ _ _ h => h) (Or.inr ⟨by rfl, rfl⟩) ?_ ?_
                    rotate_left
                    · simp only [Act.put, List.setIfInBounds_toArray, List.set_cons_zero, List.set_cons_succ, i64_w, i32_w]
                      rfl
                    refine pure_ (i := 19) (N := some 47) (v := undef) (a' := ?_) #[true, true, true, true, true, true, true, true, true, true, true, true, true, true, true, true, true, true, true, true, false, false, false, false, false] rfl rfl (by kernel_rfl) (fun _ _ _ h => h) (Or.inr ⟨by rfl, rfl⟩) ?_ ?_
                    rotate_left
                    · simp only [Act.put, List.setIfInBounds_toArray, List.set_cons_zero, List.set_cons_succ, i64_w, i32_w]
                      rfl
                    refine pure_ (i := 20) (N := some 48) (v := undef) (a' := ?_) #[true, true, true, true, true, true, true, true, true, true, true, true, true, true, true, true, true, true, true, true, true, false, false, false, false] rfl rfl (by kernel_rfl) (fun _ _ _ h => h) (Or.inr ⟨by rfl, rfl⟩) ?_ ?_
                    rotate_left
                    · simp only [Act.put, List.setIfInBounds_toArray, List.set_cons_zero, List.set_cons_succ, i64_w, i32_w]
                      rfl
                    refine pure_ (i := 21) (N := some 49) (v := undef) (a' := ?_) #[true, true, true, true, true, true, true, true, true, true, true, true, true, true, true, true, true, true, true, true, true, true, false, false, false] rfl rfl (by kernel_rfl) (fun _ _ _ h => h) (Or.inr ⟨by rfl, rfl⟩) ?_ ?_
                    rotate_left
                    · simp only [Act.put, List.setIfInBounds_toArray, List.set_cons_zero, List.set_cons_succ, i64_w, i32_w]
                      rfl
                    refine pure_ (i := 22) (N := some 50) (v := undef) (a' := ?_) #[true, true, true, true, true, true, true, true, true, true, true, true, true, true, true, true, true, true, true, true, true, true, true, false, false] rfl rfl (by kernel_rfl) (fun _ _ _ h => h) (Or.inr ⟨by rfl, rfl⟩) ?_ ?_
                    rotate_left
                    · simp only [Act.put, List.setIfInBounds_toArray, List.set_cons_zero, List.set_cons_succ, i64_w, i32_w]
                      rfl
                    refine pure_ (i := 23) (N := some 51) (v := ?_) (a' := ?_) #[true, true, true, true, true, true, true, true, true, true, true, true, true, true, true, true, true, true, true, true, true, true, true, true, false] rfl rfl (by kernel_rfl) (fun _ _ _ h => h) (Or.inl ⟨by rfl, ?_⟩) ?_ ?_
                    rotate_left
                    · intro w'
                      go_simp
                      with_reducible rfl
                    rotate_left
                    · simp only [Act.put, List.setIfInBounds_toArray, List.set_cons_zero, List.set_cons_succ, i64_w, i32_w]
                      rfl
                    refine pure_ (i := 24) (N := some 2) (v := ?_) (a' := ?_) #[true, true, true, true, true, true, true, true, true, true, true, true, true, true, true, true, true, true, true, true, true, true, true, true, true] rfl rfl (by kernel_rfl) (fun _ _ _ h => h) (Or.inl ⟨by rfl, ?_⟩) ?_ ?_
                    rotate_left
                    · intro w'
                      go_simp
                      with_reducible rfl
                    rotate_left
                    · simp only [Act.put, List.setIfInBounds_toArray, List.set_cons_zero, List.set_cons_succ, i64_w, i32_w]
                      rfl
                    refine done_ (by kernel_rfl) ?_
                    replace HS : Aside0 (Sep (fps []) w [] w2413) := ⟨HS.out.sub (.cons _ .slnil)⟩
                    go_wp2_with fail
                    go_ret
                    rw [← some_eq H]
                    exact ⟨(by first | rfl | (simp [IntKind.wrap_u32]; done)), HS.out⟩
                · replace H := if_no c2416 H
                  have c2416b0 : b2403 = false := by simpa using c2416
                  have c2416b1 : (!b2403) = true := by rw [c2416b0]; rfl
                  clear c2416
                  try simp only [c2416b0, Bool.not_true, Bool.not_false]
                  refine pure_ (i := 5) (N := some 33) (v := undef) (a' := ?_) #[true, true, true, true, true, true, false, false, false, false, false, false, false, false, false, false, false, false, false, false, false, false, false, false, false] rfl rfl (by kernel_rfl) (fun _ _ _ h => h) (Or.inr ⟨by rfl, rfl⟩) ?_ ?_
                  rotate_left
                  · simp only [Act.put, List.setIfInBounds_toArray, List.set_cons_zero, List.set_cons_succ, i64_w, i32_w]
                    rfl
                  try simp only [c2416b0, Bool.not_true, Bool.not_false]
                  refine pure_ (i := 6) (N := some 34) (v := undef) (a' := ?_) #[true, true, true, true, true, true, true, false, false, false, false, false, false, false, false, false, false, false, false, false, false, false, false, false, false] rfl rfl (by kernel_rfl) (fun _ _ _ h => h) (Or.inr ⟨by rfl, rfl⟩) ?_ ?_
                  rotate_left
                  · simp only [Act.put, List.setIfInBounds_toArray, List.set_cons_zero, List.set_cons_succ, i64_w, i32_w]
                    rfl
                  try simp only [c2416b0, Bool.not_true, Bool.not_false]
                  refine pure_ (i := 7) (N := some 35) (v := undef) (a' := ?_) #[true, true, true, true, true, true, true, true, false, false, false, false, false, false, false, false, false, false, false, false, false, false, false, false, false] rfl rfl (by kernel_rfl) (fun _ _ _ h => h) (Or.inr ⟨by rfl, rfl⟩) ?_ ?_
                  rotate_left
                  · simp only [Act.put, List.setIfInBounds_toArray, List.set_cons_zero, List.set_cons_succ, i64_w, i32_w]
                    rfl
                  refine pure_ (i := 8) (N := some 36) (v := ?_) (a' := ?_) #[true, true, true, true, true, true, true, true, true, false, false, false, false, false, false, false, false, false, false, false, false, false, false, false, false] rfl rfl (by kernel_rfl) (fun _ _ _ h => h) (Or.inl ⟨by rfl, ?_⟩) ?_ ?_
                  rotate_left
                  · intro w'
                    go_simp
                    with_reducible rfl
                  rotate_left
                  · simp only [Act.put, List.setIfInBounds_toArray, List.set_cons_zero, List.set_cons_succ, i64_w, i32_w]
                    rfl
                  refine pure_ (i := 9) (N := some 37) (v := ?_) (a' := ?_) #[true, true, true, true, true, true, true, true, true, true, false, false, false, false, false, false, false, false, false, false, false, false, false, false, false] rfl rfl (by kernel_rfl) (fun _ _ _ h => h) (Or.inl ⟨by rfl, ?_⟩) ?_ ?_
                  rotate_left
                  · intro w'
                    go_simp
                    with_reducible rfl
                  rotate_left
                  · simp only [Act.put, List.setIfInBounds_toArray, List.set_cons_zero, List.set_cons_succ, i64_w, i32_w]
                    rfl
                  refine pure_ (i := 10) (N := some 38) (v := undef) (a' := ?_) #[true, true, true, true, true, true, true, true, true, true, true, false, false, false, false, false, false, false, false, false, false, false, false, false, false] rfl rfl (by kernel_rfl) (fun _ _ _ h => h) (Or.inr ⟨by rfl, rfl⟩) ?_ ?_
                  rotate_left
                  · simp only [Act.put, List.setIfInBounds_toArray, List.set_cons_zero, List.set_cons_succ, i64_w, i32_w]
                    rfl
                  refine pure_ (i := 11) (N := some 39) (v := undef) (a' := ?_) #[true, true, true, true, true, true, true, true, true, true, true, true, false, false, false, false, false, false, false, false, false, false, false, false, false] rfl rfl (by kernel_rfl) (fun _ _ _ h => h) (Or.inr ⟨by rfl, rfl⟩) ?_ ?_
                  rotate_left
                  · simp only [Act.put, List.setIfInBounds_toArray, List.set_cons_zero, List.set_cons_succ, i64_w, i32_w]
                    rfl
                  refine pure_ (i := 12) (N := some 40) (v := undef) (a' := ?_) #[true, true, true, true, true, true, true, true, true, true, true, true, true, false, false, false, false, false, false, false, false, false, false, false, false] rfl rfl (by kernel_rfl) (fun _ _ _ h => h) (Or.inr ⟨by rfl, rfl⟩) ?_ ?_
                  rotate_left
                  · simp only [Act.put, List.setIfInBounds_toArray, List.set_cons_zero, List.set_cons_succ, i64_w, i32_w]
                    rfl
                  refine pure_ (i := 13) (N := some 41) (v := ?_) (a' := ?_) #[true, true, true, true, true, true, true, true, true, true, true, true, true, true, false, false, false, false, false, false, false, false, false, false, false] rfl rfl (by kernel_rfl) (fun _ _ _ h => h) (Or.inl ⟨by rfl, ?_⟩) ?_ ?_
                  rotate_left
                  · intro w'
                    go_simp
                    with_reducible rfl
                  rotate_left
                  · simp only [Act.put, List.setIfInBounds_toArray, List.set_cons_zero, List.set_cons_succ, i64_w, i32_w]
                    rfl
                  refine pure_ (i := 14) (N := some 42) (v := ?_) (a' := ?_) #[true, true, true, true, true, true, true, true, true, true, true, true, true, true, true, false, false, false, false, false, false, false, false, false, false] rfl rfl (by kernel_rfl) (fun _ _ _ h => h) (Or.inl ⟨by rfl, ?_⟩) ?_ ?_
                  rotate_left
                  · intro w'
                    go_simp
                    with_reducible rfl
                  rotate_left
                  · simp only [Act.put, List.setIfInBounds_toArray, List.set_cons_zero, List.set_cons_succ, i64_w, i32_w]
                    rfl
                  refine pure_ (i := 15) (N := some 43) (v := undef) (a' := ?_) #[true, true, true, true, true, true, true, true, true, true, true, true, true, true, true, true, false, false, false, false, false, false, false, false, false] rfl rfl (by kernel_rfl) (fun _ _ _ h => h) (Or.inr ⟨by rfl, rfl⟩) ?_ ?_
                  rotate_left
                  · simp only [Act.put, List.setIfInBounds_toArray, List.set_cons_zero, List.set_cons_succ, i64_w, i32_w]
                    rfl
                  refine pure_ (i := 16) (N := some 44) (v := undef) (a' := ?_) #[true, true, true, true, true, true, true, true, true, true, true, true, true, true, true, true, true, false, false, false, false, false, false, false, false] rfl rfl (by kernel_rfl) (fun _ _ _ h => h) (Or.inr ⟨by rfl, rfl⟩) ?_ ?_
                  rotate_left
                  · simp only [Act.put, List.setIfInBounds_toArray, List.set_cons_zero, List.set_cons_succ, i64_w, i32_w]
                    rfl
                  refine pure_ (i := 17) (N := some 45) (v := undef) (a' := ?_) #[true, true, true, true, true, true, true, true, true, true, true, true, true, true, true, true, true, true, false, false, false, false, false, false, false] rfl rfl (by kernel_rfl) (fun _ _ _ h => h) (Or.inr ⟨by rfl, rfl⟩) ?_ ?_
                  rotate_left
                  · simp only [Act.put, List.setIfInBounds_toArray, List.set_cons_zero, List.set_cons_succ, i64_w, i32_w]
                    rfl
                  refine pure_ (i := 18) (N := some 46) (v := undef) (a' := ?_) #[true, true, true, true, true, true, true, true, true, true, true, true, true, true, true, true, true, true, true, false, false, false, false, false, false] rfl rfl (by kernel_rfl) (fun _ _ _ h => h) (Or.inr ⟨by rfl, rfl⟩) ?_ ?_
                  rotate_left
                  · simp only [Act.put, List.setIfInBounds_toArray, List.set_cons_zero, List.set_cons_succ, i64_w, i32_w]
                    rfl
                  refine pure_ (i := 19) (N := some 47) (v := undef) (a' := ?_) #[true, true, true, true, true, true, true, true, true, true, true, true, true, true, true, true, true, true, true, true, false, false, false, false, false] rfl rfl (by kernel_rfl) (fun _ _ _ h => h) (Or.inr ⟨by rfl, rfl⟩) ?_ ?_
                  rotate_left
                  · simp only [Act.put, List.setIfInBounds_toArray, List.set_cons_zero, List.set_cons_succ, i64_w, i32_w]
                    rfl
                  refine pure_ (i := 20) (N := some 48) (v := undef) (a' := ?_) #[true, true, true, true, true, true, true, true, true, true, true, true, true, true, true, true, true, true, true, true, true, false, false, false, false] rfl rfl (by kernel_rfl) (fun _ _ _ h => h) (Or.inr ⟨by rfl, rfl⟩) ?_ ?_
                  rotate_left
                  · simp only [Act.put, List.setIfInBounds_toArray, List.set_cons_zero, List.set_cons_succ, i64_w, i32_w]
                    rfl
                  refine pure_ (i := 21) (N := some 49) (v := undef) (a' := ?_) #[true, true, true, true, true, true, true, true, true, true, true, true, true, true, true, true, true, true, true, true, true, true, false, false, false] rfl rfl (by kernel_rfl) (fun _ _ _ h => h) (Or.inr ⟨by rfl, rfl⟩) ?_ ?_
                  rotate_left
                  · simp only [Act.put, List.setIfInBounds_toArray, List.set_cons_zero, List.set_cons_succ, i64_w, i32_w]
                    rfl
                  refine pure_ (i := 22) (N := some 50) (v := undef) (a' := ?_) #[true, true, true, true, true, true, true, true, true, true, true, true, true, true, true, true, true, true, true, true, true, true, true, false, false] rfl rfl (by kernel_rfl) (fun _ _ _ h => h) (Or.inr ⟨by rfl, rfl⟩) ?_ ?_
                  rotate_left
                  · simp only [Act.put, List.setIfInBounds_toArray, List.set_cons_zero, List.set_cons_succ, i64_w, i32_w]
                    rfl
                  refine pure_ (i := 23) (N := some 51) (v := ?_) (a' := ?_) #[true, true, true, true, true, true, true, true, true, true, true, true, true, true, true, true, true, true, true, true, true, true, true, true, false] rfl rfl (by kernel_rfl) (fun _ _ _ h => h) (Or.inl ⟨by rfl, ?_⟩) ?_ ?_
                  rotate_left
                  · intro w'
                    go_simp
                    with_reducible rfl
                  rotate_left
                  · simp only [Act.put, List.setIfInBounds_toArray, List.set_cons_zero, List.set_cons_succ, i64_w, i32_w]
                    rfl
                  refine pure_ (i := 24) (N := some 2) (v := ?_) (a' := ?_) #[true, true, true, true, true, true, true, true, true, true, true, true, true, true, true, true, true, true, true, true, true, true, true, true, true] rfl rfl (by kernel_rfl) (fun _ _ _ h => h) (Or.inl ⟨by rfl, ?_⟩) ?_ ?_
                  rotate_left
                  · intro w'
                    go_simp
                    with_reducible rfl
                  rotate_left
                  · simp only [Act.put, List.setIfInBounds_toArray, List.set_cons_zero, List.set_cons_succ, i64_w, i32_w]
                    rfl
                  refine done_ (by kernel_rfl) ?_
                  replace HS : Aside0 (Sep (fps []) w [] w2413) := ⟨HS.out.sub (.cons _ .slnil)⟩
                  go_wp2_with fail
                  go_ret
                  rw [← some_eq H]
                  exact ⟨(by first | rfl | (simp [IntKind.wrap_u32]; done)), HS.out⟩
              · replace H := if_no c2409 H
                have c2409b0 : (a2314 == 3) = false := beq_eq_false_iff_ne.mpr c2409
                have c2409b1 : (a2314 != 3) = true := bne_iff_ne.mpr c2409
                clear c2409
                have hc2391 : w2382.cell? ⟨g2321, 0, none⟩ = some (.int .i64 a2314) := blk_cellv (HS.out.at0) 0 rfl
                replace HS : Aside0 (Sep (fps []) w [] w2382) := ⟨HS.out.sub (.cons _ .slnil)⟩
                go_wp2_with fail
                clear hc2391
                go_ret
                rw [← some_eq H]
                exact ⟨(by first | rfl | (simp [IntKind.wrap_u32]; done)), HS.out⟩

set_option maxHeartbeats 30000000 in
set_option maxRecDepth 100000 in
theorem pack_total.calls (k : Nat) (l2512 : List Int) (A2513 : Option Addr) (n2514 : Nat) (r : Int) (w : World) (HR2515 : Aside0 (Rd (Kd.int .i64) (fps []) w A2513 l2512.length l2512)) (HGl0 : Aside0 (Gl 0 #[.int .i64 0, .int .i64 0, .int .i64 0, .int .i64 0, .int .i64 0] (fps []) w)) (HS : Aside0 (Sep (fps []) w [] w)) (H : Aside0 (pack_total.f k l2512 = some r)) :
    Calls Tryd.prog 125 #[.slice A2513 l2512.length n2514] w fun e w' => e = .returned (.int .i64 r) ∧ Sep (fps []) w [] w' := by
  unfold pack_total.f at H
  go_enter Tryd.func125, Tryd.ntmps125
  go_wp2_with fail
  obtain ⟨o2528, AL2529, H⟩ := bind_some H
  go_loopg [3, 8] k (fun kq v3 v8 wc => ∃ (x2532 : Int) (x2533 : Int), v3 = .int .i64 x2532 ∧ v8 = .int .i64 x2533 ∧ Aside0 (pack_total.lo0 kq l2512 x2532 x2533 = some o2528) ∧ Aside0 (Sep (fps []) w [] wc))
  case atStart => exact ⟨(0), (0), (by first | rfl | (simp [IntKind.wrap_u32]; done)), (by first | rfl | (simp [IntKind.wrap_u32]; done)), AL2529, ⟨HS.out⟩⟩
  case round =>
    clear AL2529 HS
    obtain ⟨x2532, x2533, rfl, rfl, AL2529, HS⟩ := hrel
    obtain ⟨w2530, rfl⟩ : ∃ x : World, x = wr := ⟨_, rfl⟩
    cases gk with
    | zero => exact absurd AL2529.out (by simp [pack_total.lo0])
    | succ k2531 =>
      have AL0 := AL2529.out
      rw [pack_total.lo0] at AL0
      clear AL2529
      have AL2529 := Aside0.mk AL0
      clear AL0
      by_cases c2534 : x2533 < (l2512.length : Int)
      · replace AL2529 := if_yes c2534 AL2529
        have c2534b0 : decide (x2533 < (l2512.length : Int)) = true := decide_eq_true c2534
        clear c2534
        by_cases c2535 : 0 ≤ x2533
        · replace AL2529 := if_yes c2535 AL2529
          have c2535b0 : decide (0 ≤ x2533) = true := decide_eq_true c2535
          have c2535p : (0 ≤ x2533) = True := eq_true c2535
          clear c2535
          have ip2536 : (x2533 < (l2512.length : Int)) = True := eq_true (of_decide_eq_true c2534b0)
          by_cases c2538 : (rd l2512 x2533) < 1
          · replace AL2529 := if_yes c2538 AL2529
            have c2538b0 : decide ((rd l2512 x2533) < 1) = true := decide_eq_true c2538
            clear c2538
            obtain ⟨hx2537a, hx2537e, hx2537⟩ := Kd.at_int (Rd.read (fun _ _ _ _ h => h) HR2515.out HS.out.fr) x2533 (of_decide_eq_true c2535b0) (of_decide_eq_true c2534b0); cases hx2537e
            go_wp2_with fail
            clear hx2537
            have ho := some_eq AL2529
            subst ho
            have H := lp_ret H
            go_ret
            rw [← some_eq H]
            exact ⟨(by first | rfl | (simp [IntKind.wrap_u32]; done)), HS.out⟩
          · replace AL2529 := if_no c2538 AL2529
            have c2538b0 : decide ((rd l2512 x2533) < 1) = false := decide_eq_false c2538
            clear c2538
            by_cases c2539 : (rd l2512 x2533) > (wrap64 (32 - x2532))
            · replace AL2529 := if_yes c2539 AL2529
              have c2539b0 : decide ((wrap64 (32 - x2532)) < (rd l2512 x2533)) = true := decide_eq_true c2539
              clear c2539
              obtain ⟨hx2537a, hx2537e, hx2537⟩ := Kd.at_int (Rd.read (fun _ _ _ _ h => h) HR2515.out HS.out.fr) x2533 (of_decide_eq_true c2535b0) (of_decide_eq_true c2534b0); cases hx2537e
              go_wp2_with fail
              clear hx2537
              have ho := some_eq AL2529
              subst ho
              have H := lp_ret H
              go_ret
              rw [← some_eq H]
              exact ⟨(by first | rfl | (simp [IntKind.wrap_u32]; done)), HS.out⟩
            · replace AL2529 := if_no c2539 AL2529
              have c2539b0 : decide ((wrap64 (32 - x2532)) < (rd l2512 x2533)) = false := decide_eq_false c2539
              clear c2539
              obtain ⟨hx2537a, hx2537e, hx2537⟩ := Kd.at_int (Rd.read (fun _ _ _ _ h => h) HR2515.out HS.out.fr) x2533 (of_decide_eq_true c2535b0) (of_decide_eq_true c2534b0); cases hx2537e
              go_wp2_with fail
              clear hx2537
              go_roundg k2531
              case measure => exact Nat.lt_succ_self _
              case rel => exact ⟨(wrap64 (x2532 + (rd l2512 x2533))), (wrap64 (x2533 + 1)), (by first | rfl | (simp [IntKind.wrap_u32]; done)), (by first | rfl | (simp [IntKind.wrap_u32]; done)), Aside0.mk AL2529.out, ⟨HS.out⟩⟩
        · replace AL2529 := if_no c2535 AL2529
          have c2535b0 : decide (0 ≤ x2533) = false := decide_eq_false c2535
          clear c2535
          exact (none_no AL2529).elim
      · replace AL2529 := if_no c2534 AL2529
        have c2534b0 : decide (x2533 < (l2512.length : Int)) = false := decide_eq_false c2534
        clear c2534
        have ho := some_eq AL2529
        subst ho
        clear AL2529
        have H := lp_out H
        go_wp2_with fail
        go_ret
        rw [← some_eq H]
        exact ⟨(by first | rfl | (simp [IntKind.wrap_u32]; done)), HS.out⟩

set_option maxHeartbeats 30000000 in
set_option maxRecDepth 100000 in
theorem pack_isPiece.calls (a2564 : Int) (a2565 : Int) (r : Bool) (w : World)  (HGl0 : Aside0 (Gl 0 #[.int .i64 0, .int .i64 0, .int .i64 0, .int .i64 0, .int .i64 0] (fps []) w)) (HS : Aside0 (Sep (fps []) w [] w)) (H : Aside0 (pack_isPiece.f a2564 a2565 = some r)) :
    Calls Tryd.prog 75 #[.int .i64 a2564, .int .i64 a2565] w fun e w' => e = .returned (.bool r) ∧ Sep (fps []) w [] w' := by
  unfold pack_isPiece.f at H
  go_enter Tryd.func75, Tryd.ntmps75
  by_cases c2566 : a2564 ≥ 0
  · replace H := if_yes c2566 H
    have c2566b0 : decide (0 ≤ a2564) = true := decide_eq_true c2566
    clear c2566
    by_cases c2567 : a2565 ≥ 1
    · replace H := if_yes c2567 H
      have c2567b0 : decide (1 ≤ a2565) = true := decide_eq_true c2567
      clear c2567
      by_cases c2568 : a2565 ≤ 32
      · replace H := if_yes c2568 H
        have c2568b0 : decide (a2565 ≤ 32) = true := decide_eq_true c2568
        clear c2568
        go_wp2_with fail
        go_ret
        rw [← some_eq H]
        exact ⟨(by first | rfl | (simp [IntKind.wrap_u32]; done)), HS.out⟩
      · replace H := if_no c2568 H
        have c2568b0 : decide (a2565 ≤ 32) = false := decide_eq_false c2568
        clear c2568
        go_wp2_with fail
        go_ret
        rw [← some_eq H]
        exact ⟨(by first | rfl | (simp [IntKind.wrap_u32]; done)), HS.out⟩
    · replace H := if_no c2567 H
      have c2567b0 : decide (1 ≤ a2565) = false := decide_eq_false c2567
      clear c2567
      go_wp2_with fail
      go_ret
      rw [← some_eq H]
      exact ⟨(by first | rfl | (simp [IntKind.wrap_u32]; done)), HS.out⟩
  · replace H := if_no c2566 H
    have c2566b0 : decide (0 ≤ a2564) = false := decide_eq_false c2566
    clear c2566
    go_wp2_with fail
    go_ret
    rw [← some_eq H]
    exact ⟨(by first | rfl | (simp [IntKind.wrap_u32]; done)), HS.out⟩

set_option maxHeartbeats 30000000 in
set_option maxRecDepth 100000 in
theorem pack_Fits.calls (a2573 : Int) (a2574 : Int) (r : Bool) (w : World)  (HGl0 : Aside0 (Gl 0 #[.int .i64 0, .int .i64 0, .int .i64 0, .int .i64 0, .int .i64 0] (fps []) w)) (HS : Aside0 (Sep (fps []) w [] w)) (H : Aside0 (pack_Fits.f a2573 a2574 = some r)) :
    Calls Tryd.prog 152 #[.int .u32 a2573, .int .i64 a2574] w fun e w' => e = .returned (.bool r) ∧ Sep (fps []) w [] w' := by
  unfold pack_Fits.f at H
  go_enter Tryd.func152, Tryd.ntmps152
  by_cases c2575 : a2574 ≥ 32
  · replace H := if_yes c2575 H
    have c2575b0 : decide (32 ≤ a2574) = true := decide_eq_true c2575
    clear c2575
    go_wp2_with fail
    go_ret
    rw [← some_eq H]
    exact ⟨(by first | rfl | (simp [IntKind.wrap_u32]; done)), HS.out⟩
  · replace H := if_no c2575 H
    have c2575b0 : decide (32 ≤ a2574) = false := decide_eq_false c2575
    clear c2575
    by_cases c2576 : a2574 < 0
    · replace H := if_yes c2576 H
      have c2576b0 : decide (a2574 < 0) = true := decide_eq_true c2576
      skip
      go_wp2_with fail
      clear c2576
      go_ret
      rw [← some_eq H]
      exact ⟨(by first | rfl | (simp [IntKind.wrap_u32]; done)), HS.out⟩
    · replace H := if_no c2576 H
      have c2576b0 : decide (a2574 < 0) = false := decide_eq_false c2576
      by_cases c2577 : 0 ≤ (IntKind.u64.wrap (a2574))
      · replace H := if_yes c2577 H
        have c2577b0 : decide (0 ≤ (IntKind.u64.wrap (a2574))) = true := decide_eq_true c2577
        skip
        skip
        go_wp2_with fail
        clear c2576 c2577
        go_ret
        rw [← some_eq H]
        exact ⟨(by first | rfl | (simp [IntKind.wrap_u32]; done)), HS.out⟩
      · replace H := if_no c2577 H
        have c2577b0 : decide (0 ≤ (IntKind.u64.wrap (a2574))) = false := decide_eq_false c2577
        exact (none_no H).elim

set_option maxHeartbeats 30000000 in
set_option maxRecDepth 100000 in
theorem pack_mask.calls (a2582 : Int) (a2583 : Int) (r : Int) (w : World)  (HGl0 : Aside0 (Gl 0 #[.int .i64 0, .int .i64 0, .int .i64 0, .int .i64 0, .int .i64 0] (fps []) w)) (HS : Aside0 (Sep (fps []) w [] w)) (H : Aside0 (pack_mask.f a2582 a2583 = some r)) :
    Calls Tryd.prog 76 #[.int .i64 a2582, .int .i64 a2583] w fun e w' => e = .returned (.int .u32 r) ∧ Sep (fps []) w [] w' := by
  unfold pack_mask.f at H
  go_enter Tryd.func76, Tryd.ntmps76
  by_cases c2584 : 0 ≤ (IntKind.u64.wrap (a2583))
  · replace H := if_yes c2584 H
    have c2584b0 : decide (0 ≤ (IntKind.u64.wrap (a2583))) = true := decide_eq_true c2584
    by_cases c2585 : 0 ≤ (IntKind.u64.wrap (a2582))
    · replace H := if_yes c2585 H
      have c2585b0 : decide (0 ≤ (IntKind.u64.wrap (a2582))) = true := decide_eq_true c2585
      skip
      skip
      go_wp2_with fail
      clear c2584 c2585
      go_ret
      rw [← some_eq H]
      exact ⟨(by first | rfl | (simp [IntKind.wrap_u32]; done)), HS.out⟩
    · replace H := if_no c2585 H
      have c2585b0 : decide (0 ≤ (IntKind.u64.wrap (a2582))) = false := decide_eq_false c2585
      exact (none_no H).elim
  · replace H := if_no c2584 H
    have c2584b0 : decide (0 ≤ (IntKind.u64.wrap (a2583))) = false := decide_eq_false c2584
    exact (none_no H).elim

set_option maxHeartbeats 30000000 in
set_option maxRecDepth 100000 in
theorem pack_Put.calls (a2560 : Int) (a2561 : Int) (a2562 : Int) (a2563 : Int) (r : Int × Int) (w : World)  (HGl0 : Aside0 (Gl 0 #[.int .i64 0, .int .i64 0, .int .i64 0, .int .i64 0, .int .i64 0] (fps []) w)) (HS : Aside0 (Sep (fps []) w [] w)) (H : Aside0 (pack_Put.f a2560 a2561 a2562 a2563 = some r)) :
    Calls Tryd.prog 126 #[.int .u32 a2560, .int .i64 a2561, .int .i64 a2562, .int .u32 a2563] w fun e w' => e = .returned (.tuple #[.int .u32 r.1, .int .i64 r.2]) ∧ Sep (fps []) w [] w' := by
  unfold pack_Put.f at H
  go_enter Tryd.func126, Tryd.ntmps126
  go_wp2_with fail
  obtain ⟨t2569, HA2570, H⟩ := bind_some H
  refine (pack_isPiece.calls a2561 a2562 t2569 _ ⟨HGl0.out.pass (l := []) HS.out⟩ ⟨Sep.start _⟩ HA2570).mono ?_
  rintro e_ w2571 ⟨rfl, hS⟩
  replace HS : Aside0 (Sep (fps []) w [] w2571) := ⟨HS.out.call hS⟩
  clear hS
  by_cases c2572 : t2569 = true
  · replace H := if_yes c2572 H
    have c2572b0 : t2569 = true := c2572
    have c2572b1 : (!t2569) = false := by rw [c2572b0]; rfl
    try rw [c2572b1]
    clear c2572
    go_wp2_with fail
    obtain ⟨t2578, HA2579, H⟩ := bind_some H
    refine (pack_Fits.calls a2563 a2562 t2578 _ ⟨HGl0.out.pass (l := []) HS.out⟩ ⟨Sep.start _⟩ HA2579).mono ?_
    rintro e_ w2580 ⟨rfl, hS⟩
    replace HS : Aside0 (Sep (fps []) w [] w2580) := ⟨HS.out.call hS⟩
    clear hS
    by_cases c2581 : t2578 = true
    · replace H := if_yes c2581 H
      have c2581b0 : t2578 = true := c2581
      have c2581b1 : (!t2578) = false := by rw [c2581b0]; rfl
      try rw [c2581b1]
      clear c2581
      go_wp2_with fail
      obtain ⟨t2586, HA2587, H⟩ := bind_some H
      refine (pack_mask.calls a2561 a2562 t2586 _ ⟨HGl0.out.pass (l := []) HS.out⟩ ⟨Sep.start _⟩ HA2587).mono ?_
      rintro e_ w2588 ⟨rfl, hS⟩
      replace HS : Aside0 (Sep (fps []) w [] w2588) := ⟨HS.out.call hS⟩
      clear hS
      by_cases c2589 : 0 ≤ (IntKind.u64.wrap (a2561))
      · replace H := if_yes c2589 H
        have c2589b0 : decide (0 ≤ (IntKind.u64.wrap (a2561))) = true := decide_eq_true c2589
        skip
        go_wp2_with fail
        clear c2589
        go_ret2
        rw [← some_eq H]
        exact ⟨(by first | rfl | (simp [IntKind.wrap_u32]; done)), HS.out⟩
      · replace H := if_no c2589 H
        have c2589b0 : decide (0 ≤ (IntKind.u64.wrap (a2561))) = false := decide_eq_false c2589
        exact (none_no H).elim
    · replace H := if_no c2581 H
      have c2581b0 : t2578 = false := by simpa using c2581
      have c2581b1 : (!t2578) = true := by rw [c2581b0]; rfl
      try rw [c2581b1]
      clear c2581
      go_wp2_with fail
      go_ret2
      rw [← some_eq H]
      exact ⟨(by first | rfl | (simp [IntKind.wrap_u32]; done)), HS.out⟩
  · replace H := if_no c2572 H
    have c2572b0 : t2569 = false := by simpa using c2572
    have c2572b1 : (!t2569) = true := by rw [c2572b0]; rfl
    try rw [c2572b1]
    clear c2572
    go_wp2_with fail
    go_ret2
    rw [← some_eq H]
    exact ⟨(by first | rfl | (simp [IntKind.wrap_u32]; done)), HS.out⟩

set_option maxHeartbeats 30000000 in
set_option maxRecDepth 100000 in
theorem pack_Join.calls (k : Nat) (l2504 : List Int) (l2508 : List Int) (A2505 : Option Addr) (n2506 : Nat) (A2509 : Option Addr) (n2510 : Nat) (r : Int × Int) (w : World) (HR2507 : Aside0 (Rd (Kd.int .u32) (fps []) w A2505 l2504.length l2504)) (HR2511 : Aside0 (Rd (Kd.int .i64) (fps []) w A2509 l2508.length l2508)) (HGl0 : Aside0 (Gl 0 #[.int .i64 0, .int .i64 0, .int .i64 0, .int .i64 0, .int .i64 0] (fps []) w)) (HS : Aside0 (Sep (fps []) w [] w)) (H : Aside0 (pack_Join.f k l2504 l2508 = some r)) :
    Calls Tryd.prog 69 #[.slice A2505 l2504.length n2506, .slice A2509 l2508.length n2510] w fun e w' => e = .returned (.tuple #[.int .u32 r.1, .int .i64 r.2]) ∧ Sep (fps []) w [] w' := by
  unfold pack_Join.f at H
  go_enter Tryd.func69, Tryd.ntmps69
  go_wp2_with fail
  obtain ⟨t2541, HA2542, H⟩ := bind_some H
  refine (pack_total.calls _ l2508 A2509 n2510 t2541 _ ⟨Rd.pass (l := []) (by decide) (fun _ _ _ _ h => h) HR2511.out HS.out⟩ ⟨HGl0.out.pass (l := []) HS.out⟩ ⟨Sep.start _⟩ HA2542).mono ?_
  rintro e_ w2543 ⟨rfl, hS⟩
  replace HS : Aside0 (Sep (fps []) w [] w2543) := ⟨HS.out.call hS⟩
  clear hS
  by_cases c2544 : t2541 < 0
  · replace H := if_yes c2544 H
    have c2544b0 : decide (t2541 < 0) = true := decide_eq_true c2544
    clear c2544
    go_wp2_with fail
    go_ret2
    rw [← some_eq H]
    exact ⟨(by first | rfl | (simp [IntKind.wrap_u32]; done)), HS.out⟩
  · replace H := if_no c2544 H
    have c2544b0 : decide (t2541 < 0) = false := decide_eq_false c2544
    clear c2544
    by_cases c2545 : (l2504.length : Int) = (l2508.length : Int)
    · replace H := if_yes c2545 H
      have c2545b0 : ((l2504.length : Int) == (l2508.length : Int)) = true := beq_iff_eq.mpr c2545
      have c2545b1 : ((l2504.length : Int) != (l2508.length : Int)) = false := bne_eq_false_iff_eq.mpr c2545
      clear c2545
      go_wp2_with fail
      obtain ⟨o2594, AL2595, H⟩ := bind_some H
      go_loopg [6, 7, 24] k (fun kq v6 v7 v24 wc => ∃ (x2598 : Int) (x2599 : Int) (x2600 : Int), v6 = .int .u32 x2598 ∧ v7 = .int .i64 x2599 ∧ v24 = .int .i64 x2600 ∧ Aside0 (pack_Join.lo0 kq l2504 l2508 x2598 x2599 x2600 = some o2594) ∧ Aside0 (Sep (fps []) w [] wc))
      case atStart => exact ⟨(0), (0), (0), (by first | rfl | (simp [IntKind.wrap_u32]; done)), (by first | rfl | (simp [IntKind.wrap_u32]; done)), (by first | rfl | (simp [IntKind.wrap_u32]; done)), AL2595, ⟨HS.out⟩⟩
      case round =>
        clear AL2595 HS
        obtain ⟨x2598, x2599, x2600, rfl, rfl, rfl, AL2595, HS⟩ := hrel
        obtain ⟨w2596, rfl⟩ : ∃ x : World, x = wr := ⟨_, rfl⟩
        cases gk with
        | zero => exact absurd AL2595.out (by simp [pack_Join.lo0])
        | succ k2597 =>
          have AL0 := AL2595.out
          rw [pack_Join.lo0] at AL0
          clear AL2595
          have AL2595 := Aside0.mk AL0
          clear AL0
          by_cases c2601 : x2600 < (l2508.length : Int)
          · replace AL2595 := if_yes c2601 AL2595
            have c2601b0 : decide (x2600 < (l2508.length : Int)) = true := decide_eq_true c2601
            clear c2601
            by_cases c2602 : 0 ≤ x2600
            · replace AL2595 := if_yes c2602 AL2595
              have c2602b0 : decide (0 ≤ x2600) = true := decide_eq_true c2602
              have c2602p : (0 ≤ x2600) = True := eq_true c2602
              clear c2602
              have ip2603 : (x2600 < (l2508.length : Int)) = True := eq_true (of_decide_eq_true c2601b0)
              by_cases c2605 : x2600 < (l2504.length : Int)
              · replace AL2595 := if_yes c2605 AL2595
                have c2605b0 : decide (x2600 < (l2504.length : Int)) = true := decide_eq_true c2605
                have c2605p : (x2600 < (l2504.length : Int)) = True := eq_true c2605
                clear c2605
                obtain ⟨hx2604a, hx2604e, hx2604⟩ := Kd.at_int (Rd.read (fun _ _ _ _ h => h) HR2511.out HS.out.fr) x2600 (of_decide_eq_true c2602b0) (of_decide_eq_true c2601b0); cases hx2604e
                obtain ⟨hx2606a, hx2606e, hx2606⟩ := Kd.at_int (Rd.read (fun _ _ _ _ h => h) HR2507.out HS.out.fr) x2600 (of_decide_eq_true c2602b0) (of_decide_eq_true c2605b0); cases hx2606e
                go_wp2_with fail
                clear hx2604 hx2606
                obtain ⟨t2590, HA2607, AL2595⟩ := bind_some AL2595
                refine (pack_Put.calls x2598 x2599 (rd l2508 x2600) (rd l2504 x2600) t2590 _ ⟨HGl0.out.pass (l := []) HS.out⟩ ⟨Sep.start _⟩ HA2607).mono ?_
                rintro e_ w2608 ⟨rfl, hS⟩
                replace HS : Aside0 (Sep (fps []) w [] w2608) := ⟨HS.out.call hS⟩
                clear hS
                by_cases c2609 : t2590.2 = 0
                · replace AL2595 := if_yes c2609 AL2595
                  have c2609b0 : (t2590.2 == 0) = true := beq_iff_eq.mpr c2609
                  have c2609b1 : (t2590.2 != 0) = false := bne_eq_false_iff_eq.mpr c2609
                  clear c2609
                  go_wp2_with fail
                  go_roundg k2597
                  case measure => exact Nat.lt_succ_self _
                  case rel => exact ⟨(t2590.1), (wrap64 (x2599 + (rd l2508 x2600))), (wrap64 (x2600 + 1)), (by first | rfl | (simp [IntKind.wrap_u32]; done)), (by first | rfl | (simp [IntKind.wrap_u32]; done)), (by first | rfl | (simp [IntKind.wrap_u32]; done)), Aside0.mk AL2595.out, ⟨HS.out⟩⟩
                · replace AL2595 := if_no c2609 AL2595
                  have c2609b0 : (t2590.2 == 0) = false := beq_eq_false_iff_ne.mpr c2609
                  have c2609b1 : (t2590.2 != 0) = true := bne_iff_ne.mpr c2609
                  clear c2609
                  go_wp2_with fail
                  have ho := some_eq AL2595
                  subst ho
                  have H := lp_ret H
                  go_ret2
                  rw [← some_eq H]
                  exact ⟨(by first | rfl | (simp [IntKind.wrap_u32]; done)), HS.out⟩
              · replace AL2595 := if_no c2605 AL2595
                have c2605b0 : decide (x2600 < (l2504.length : Int)) = false := decide_eq_false c2605
                clear c2605
                exact (none_no AL2595).elim
            · replace AL2595 := if_no c2602 AL2595
              have c2602b0 : decide (0 ≤ x2600) = false := decide_eq_false c2602
              clear c2602
              exact (none_no AL2595).elim
          · replace AL2595 := if_no c2601 AL2595
            have c2601b0 : decide (x2600 < (l2508.length : Int)) = false := decide_eq_false c2601
            clear c2601
            have ho := some_eq AL2595
            subst ho
            clear AL2595
            have H := lp_out H
            go_wp2_with fail
            go_ret2
            rw [← some_eq H]
            exact ⟨(by first | rfl | (simp [IntKind.wrap_u32]; done)), HS.out⟩
    · replace H := if_no c2545 H
      have c2545b0 : ((l2504.length : Int) == (l2508.length : Int)) = false := beq_eq_false_iff_ne.mpr c2545
      have c2545b1 : ((l2504.length : Int) != (l2508.length : Int)) = true := bne_iff_ne.mpr c2545
      clear c2545
      go_wp2_with fail
      go_ret2
      rw [← some_eq H]
      exact ⟨(by first | rfl | (simp [IntKind.wrap_u32]; done)), HS.out⟩

set_option maxHeartbeats 30000000 in
set_option maxRecDepth 100000 in
theorem tag_Pack.calls (k : Nat) (a2297 : Int) (a2298 : Int) (a2299 : Int) (a2300 : Int) (a2301 : Int) (a2302 : Int) (a2303 : Int) (r : Int × Int) (w : World)  (HGl0 : Aside0 (Gl 0 #[.int .i64 0, .int .i64 0, .int .i64 0, .int .i64 0, .int .i64 0] (fps []) w)) (HS : Aside0 (Sep (fps []) w [] w)) (H : Aside0 (tag_Pack.f k a2297 a2298 a2299 a2300 a2301 a2302 a2303 = some r)) :
    Calls Tryd.prog 16 #[.agg #[.int .i64 a2297, .int .i64 a2298, .int .i64 a2299, .int .i64 a2300, .int .i64 a2301, .int .i64 a2302, .int .i64 a2303]] w fun e w' => e = .returned (.tuple #[.int .u32 r.1, .int .i64 r.2]) ∧ Sep (fps []) w [] w' := by
  unfold tag_Pack.f at H
  go_enter Tryd.func16, Tryd.ntmps16
  go_wp2_with (first | ((with_reducible refine gate_dst (N := 1) rfl ?_); refine box_on ?hg (N := 1) ?hd (cs := #[.int .i64 a2297, .int .i64 a2298, .int .i64 a2299, .int .i64 a2300, .int .i64 a2301, .int .i64 a2302, .int .i64 a2303]) (t := 32) ?hr ?_; (case hd => rfl); (case hg => rfl); (case hr => first | (go_simp; done) | (go_simp; rfl)); intro g2304 hg w2305 hbox hb; replace HS : Aside0 (Sep (fps []) w [b17 g2304 a2297 a2298 a2299 a2300 a2301 a2302 a2303] w2305) := ⟨HS.out.box hg hbox hb⟩; clear hg hbox hb; have hc2307 : w2305.cell? ⟨g2304, 0, none⟩ = some (.int .i64 a2297) := blk_cellv (HS.out.at0) 0 rfl; have hc2308 : w2305.cell? ⟨g2304, 1, none⟩ = some (.int .i64 a2298) := blk_cellv (HS.out.at0) 1 rfl; have hc2309 : w2305.cell? ⟨g2304, 2, none⟩ = some (.int .i64 a2299) := blk_cellv (HS.out.at0) 2 rfl; have hc2310 : w2305.cell? ⟨g2304, 3, none⟩ = some (.int .i64 a2300) := blk_cellv (HS.out.at0) 3 rfl; have hc2311 : w2305.cell? ⟨g2304, 4, none⟩ = some (.int .i64 a2301) := blk_cellv (HS.out.at0) 4 rfl; have hc2312 : w2305.cell? ⟨g2304, 5, none⟩ = some (.int .i64 a2302) := blk_cellv (HS.out.at0) 5 rfl; have hc2313 : w2305.cell? ⟨g2304, 6, none⟩ = some (.int .i64 a2303) := blk_cellv (HS.out.at0) 6 rfl))
  clear hc2307 hc2308 hc2309 hc2310 hc2311 hc2312 hc2313
  obtain ⟨t2446, HA2447, H⟩ := bind_some H
  refine (tag_Right.calls _ a2297 a2298 a2299 a2300 a2301 a2302 a2303 t2446 _ ⟨HGl0.out.pass (l := []) HS.out⟩ ⟨Sep.start _⟩ HA2447).mono ?_
  rintro e_ w2448 ⟨rfl, hS⟩
  replace HS : Aside0 (Sep (fps []) w [b17 g2304 a2297 a2298 a2299 a2300 a2301 a2302 a2303] w2448) := ⟨HS.out.call hS⟩
  clear hS
  by_cases c2449 : t2446 = true
  · replace H := if_yes c2449 H
    have c2449b0 : t2446 = true := c2449
    have c2449b1 : (!t2446) = false := by rw [c2449b0]; rfl
    try rw [c2449b1]
    clear c2449
    have hc2450 : w2448.cell? ⟨g2304, 0, none⟩ = some (.int .i64 a2297) := blk_cellv (HS.out.at0) 0 rfl
    go_wp2_with (first | ((with_reducible refine gate_dst (N := 13) rfl ?_); refine slice_on (n := 1) ?hg (N := 13) ?hd (cs := #[.int .u32 ((a2297) % 4294967296)]) (t := 33) ?hr ?_; (case hd => rfl); (case hg => rfl); (case hr => first | (go_simp; done) | (go_simp; rfl)); intro g2451 hg w2452 hbox hb; clear hc2450; replace HS : Aside0 (Sep (fps []) w [b17 g2304 a2297 a2298 a2299 a2300 a2301 a2302 a2303, b19 g2451 ((a2297) % 4294967296)] w2452) := ⟨HS.out.box hg hbox hb⟩; clear hg hbox hb; have hc2454 : w2452.cell? ⟨g2304, 0, none⟩ = some (.int .i64 a2297) := blk_cellv (HS.out.at0) 0 rfl; have hc2455 : w2452.cell? ⟨g2304, 1, none⟩ = some (.int .i64 a2298) := blk_cellv (HS.out.at0) 1 rfl; have hc2456 : w2452.cell? ⟨g2304, 2, none⟩ = some (.int .i64 a2299) := blk_cellv (HS.out.at0) 2 rfl; have hc2457 : w2452.cell? ⟨g2304, 3, none⟩ = some (.int .i64 a2300) := blk_cellv (HS.out.at0) 3 rfl; have hc2458 : w2452.cell? ⟨g2304, 4, none⟩ = some (.int .i64 a2301) := blk_cellv (HS.out.at0) 4 rfl; have hc2459 : w2452.cell? ⟨g2304, 5, none⟩ = some (.int .i64 a2302) := blk_cellv (HS.out.at0) 5 rfl; have hc2460 : w2452.cell? ⟨g2304, 6, none⟩ = some (.int .i64 a2303) := blk_cellv (HS.out.at0) 6 rfl))
    clear hc2454 hc2455 hc2456 hc2457 hc2458 hc2459 hc2460
    obtain ⟨t2461, HA2462, H⟩ := bind_some H
    refine (tag_marks.calls a2297 a2298 a2299 a2300 a2301 a2302 a2303 t2461 _ ⟨HGl0.out.pass (l := []) HS.out⟩ ⟨Sep.start _⟩ HA2462).mono ?_
    rintro e_ w2463 ⟨rfl, hS⟩
    replace HS : Aside0 (Sep (fps []) w [b17 g2304 a2297 a2298 a2299 a2300 a2301 a2302 a2303, b19 g2451 ((a2297) % 4294967296)] w2463) := ⟨HS.out.call hS⟩
    clear hS
    go_wp2_with fail
    replace HS : Aside0 (Sep (fps []) w [b17 g2304 a2297 a2298 a2299 a2300 a2301 a2302 a2303, r6 (some ⟨g2451, 0, none⟩) 1 1 [(a2297) % 4294967296]] w2463) := ⟨Sep.litrow (l1 := [b17 g2304 a2297 a2298 a2299 a2300 a2301 a2302 a2303]) (l2 := []) (enc := Value.int .u32) (xs := [(a2297) % 4294967296]) (n := 1) HS.out rfl (by decide)⟩
    obtain ⟨o2465, AL2466, H⟩ := bind_some H
    go_loopg [4, 16] k (fun kq v4 v16 wc => ∃ (x2470 : Int) (x2471 : List Int) (A2472 : Option Addr) (m2473 : Nat) (n2474 : Nat), v4 = .slice A2472 m2473 n2474 ∧ v16 = .int .i64 x2470 ∧ Aside0 (tag_Pack.lo0 kq t2461 x2470 x2471 = some o2465) ∧ Aside0 (Sep (fps []) w [b17 g2304 a2297 a2298 a2299 a2300 a2301 a2302 a2303, r6 A2472 m2473 n2474 x2471] wc))
    case atStart => exact ⟨(0), ([(a2297) % 4294967296]), ((some ⟨g2451, 0, none⟩)), (1), (1), (by first | rfl | (simp [IntKind.wrap_u32]; done)), (by first | rfl | (simp [IntKind.wrap_u32]; done)), AL2466, ⟨HS.out⟩⟩
    case round =>
      clear AL2466 HS
      obtain ⟨x2470, x2471, A2472, m2473, n2474, rfl, rfl, AL2466, HS⟩ := hrel
      obtain ⟨w2467, rfl⟩ : ∃ x : World, x = wr := ⟨_, rfl⟩
      obtain rfl := (row_len (HS.out.at1)).symm
      cases gk with
      | zero => exact absurd AL2466.out (by simp [tag_Pack.lo0])
      | succ k2468 =>
        have AL0 := AL2466.out
        rw [tag_Pack.lo0] at AL0
        clear AL2466
        have AL2466 := Aside0.mk AL0
        clear AL0
        by_cases c2476 : x2470 < 5
        · replace AL2466 := if_yes c2476 AL2466
          have c2476b0 : decide (x2470 < 5) = true := decide_eq_true c2476
          clear c2476
          by_cases c2477 : 0 ≤ x2470
          · replace AL2466 := if_yes c2477 AL2466
            have c2477b0 : decide (0 ≤ x2470) = true := decide_eq_true c2477
            have c2477p : (0 ≤ x2470) = True := eq_true c2477
            clear c2477
            have ip2478 : (x2470 < 5) = True := eq_true (of_decide_eq_true c2476b0)
            have ix2479 : ∀ w, (Instr.index 108 (.agg #[.int .i64 t2461.1, .int .i64 t2461.2.1, .int .i64 t2461.2.2.1, .int .i64 t2461.2.2.2.1, .int .i64 t2461.2.2.2.2]) (.int .i64 x2470)).run Tryd.prog w = .ok (.int .i64 (rd [t2461.1, t2461.2.1, t2461.2.2.1, t2461.2.2.2.1, t2461.2.2.2.2] x2470)) w := run_index_ints 108 3 5 .i64 .i64 [t2461.1, t2461.2.1, t2461.2.2.1, t2461.2.2.2.1, t2461.2.2.2.2] x2470 Tryd.underlying108 (fun _ => by kernel_rfl) (fun _ => by kernel_rfl) rfl (of_decide_eq_true c2477b0) (of_decide_eq_true c2476b0)
            by_cases c2483 : x2471.length < 35184372088832
            · replace AL2466 := if_yes c2483 AL2466
              have c2483b0 : decide (x2471.length < 35184372088832) = true := decide_eq_true c2483
              clear c2483
              obtain ⟨y2487, HA2488, AL2466⟩ := bind_some AL2466
              go_wp2_with (first | ((with_reducible refine gate_dst (N := 22) rfl ?_); refine slice_on (n := 1) ?hg (N := 22) ?hd (cs := #[.int .u32 ((rd [t2461.1, t2461.2.1, t2461.2.2.1, t2461.2.2.2.1, t2461.2.2.2.2] x2470) % 4294967296)]) (t := 33) ?hr ?_; (case hd => rfl); (case hg => rfl); (case hr => first | (go_simp; done) | (go_simp; rfl)); intro g2480 hg w2481 hbox hb; replace HS : Aside0 (Sep (fps []) w [b17 g2304 a2297 a2298 a2299 a2300 a2301 a2302 a2303, r6 A2472 x2471.length n2474 x2471, b19 g2480 ((rd [t2461.1, t2461.2.1, t2461.2.2.1, t2461.2.2.2.1, t2461.2.2.2.2] x2470) % 4294967296)] w2481) := ⟨HS.out.box hg hbox hb⟩; clear hg hbox hb) | ((with_reducible refine gate_dst (N := 23) rfl ?_); refine append_event (l1 := [b17 g2304 a2297 a2298 a2299 a2300 a2301 a2302 a2303]) (l2 := [b19 g2480 ((rd [t2461.1, t2461.2.1, t2461.2.2.1, t2461.2.2.2.1, t2461.2.2.2.2] x2470) % 4294967296)]) rfl (.tmp 19) (.tmp 22) 69 33 (.int .u32 0) 4 rfl Tryd.underlying69 (by kernel_rfl) rfl (by decide) (Value.int .u32) (fun _ => rfl) (.slice A2472 x2471.length n2474) (x2471 : List Int) [(rd [t2461.1, t2461.2.1, t2461.2.2.1, t2461.2.2.2.1, t2461.2.2.2.2] x2470) % 4294967296] ⟨g2480, 0, none⟩ 1 rfl rfl (blk_news (xs := [(rd [t2461.1, t2461.2.1, t2461.2.2.1, t2461.2.2.2.1, t2461.2.2.2.2] x2470) % 4294967296]) (HS.out.at2)) HS.out (by have := of_decide_eq_true c2483b0; simp only [List.length_cons, List.length_nil]; omega) HA2488 ?_; intro A2484 n2485 w2486 HS1; replace HS : Aside0 (Sep (fps []) w [b17 g2304 a2297 a2298 a2299 a2300 a2301 a2302 a2303, r6 A2484 y2487.length n2485 y2487, b19 g2480 ((rd [t2461.1, t2461.2.1, t2461.2.2.1, t2461.2.2.2.1, t2461.2.2.2.2] x2470) % 4294967296)] w2486) := ⟨HS1⟩; clear HS1; replace HS : Aside0 (Sep (fps []) w [b17 g2304 a2297 a2298 a2299 a2300 a2301 a2302 a2303, r6 A2484 y2487.length n2485 y2487] w2486) := ⟨HS.out.sub (.cons_cons _ (.cons_cons _ (.cons _ .slnil)))⟩))
              go_roundg k2468
              case measure => exact Nat.lt_succ_self _
              case rel => exact ⟨(wrap64 (x2470 + 1)), (y2487), (A2484), (y2487.length), (n2485), (by first | rfl | (simp [IntKind.wrap_u32]; done)), (by first | rfl | (simp [IntKind.wrap_u32]; done)), Aside0.mk AL2466.out, ⟨HS.out⟩⟩
            · replace AL2466 := if_no c2483 AL2466
              have c2483b0 : decide (x2471.length < 35184372088832) = false := decide_eq_false c2483
              clear c2483
              exact (none_no AL2466).elim
          · replace AL2466 := if_no c2477 AL2466
            have c2477b0 : decide (0 ≤ x2470) = false := decide_eq_false c2477
            clear c2477
            exact (none_no AL2466).elim
        · replace AL2466 := if_no c2476 AL2466
          have c2476b0 : decide (x2470 < 5) = false := decide_eq_false c2476
          clear c2476
          have ho := some_eq AL2466
          subst ho
          clear AL2466
          by_cases c2494 : x2471.length < 35184372088831
          · replace H := if_yes c2494 H
            have c2494b0 : decide (x2471.length < 35184372088831) = true := decide_eq_true c2494
            clear c2494
            obtain ⟨y2498, HA2499, H⟩ := bind_some H
            have hc2490 : w2467.cell? ⟨g2304, 6, none⟩ = some (.int .i64 a2303) := blk_cellv (HS.out.at0) 6 rfl
            go_wp2_with (first | ((with_reducible refine gate_dst (N := 29) rfl ?_); refine slice_on (n := 2) ?hg (N := 29) ?hd (cs := #[.int .u32 0, .int .u32 ((a2303) % 4294967296)]) (t := 33) ?hr ?_; (case hd => rfl); (case hg => rfl); (case hr => first | (go_simp; done) | (go_simp; rfl)); intro g2491 hg w2492 hbox hb; clear hc2490; replace HS : Aside0 (Sep (fps []) w [b17 g2304 a2297 a2298 a2299 a2300 a2301 a2302 a2303, r6 A2472 x2471.length n2474 x2471, b20 g2491 0 ((a2303) % 4294967296)] w2492) := ⟨HS.out.box hg hbox hb⟩; clear hg hbox hb) | ((with_reducible refine gate_dst (N := 30) rfl ?_); refine append_event (l1 := [b17 g2304 a2297 a2298 a2299 a2300 a2301 a2302 a2303]) (l2 := [b20 g2491 0 ((a2303) % 4294967296)]) rfl (.tmp 25) (.tmp 29) 69 33 (.int .u32 0) 4 rfl Tryd.underlying69 (by kernel_rfl) rfl (by decide) (Value.int .u32) (fun _ => rfl) (.slice A2472 x2471.length n2474) (x2471 : List Int) [0, (a2303) % 4294967296] ⟨g2491, 0, none⟩ 2 rfl rfl (blk_news (xs := [0, (a2303) % 4294967296]) (HS.out.at2)) HS.out (by have := of_decide_eq_true c2494b0; simp only [List.length_cons, List.length_nil]; omega) HA2499 ?_; intro A2495 n2496 w2497 HS1; replace HS : Aside0 (Sep (fps []) w [b17 g2304 a2297 a2298 a2299 a2300 a2301 a2302 a2303, r6 A2495 y2498.length n2496 y2498, b20 g2491 0 ((a2303) % 4294967296)] w2497) := ⟨HS1⟩; clear HS1) | ((with_reducible refine gate_dst (N := 31) rfl ?_); refine slice_on (n := 8) ?hg (N := 31) ?hd (cs := #[.int .i64 2, .int .i64 1, .int .i64 1, .int .i64 1, .int .i64 1, .int .i64 1, .int .i64 1, .int .i64 24]) (t := 3) ?hr ?_; (case hd => rfl); (case hg => rfl); (case hr => first | (go_simp; done) | (go_simp; rfl)); intro g2501 hg w2502 hbox hb; replace HS : Aside0 (Sep (fps []) w [b17 g2304 a2297 a2298 a2299 a2300 a2301 a2302 a2303, r6 A2495 y2498.length n2496 y2498, b20 g2491 0 ((a2303) % 4294967296), b21 g2501 2 1 1 1 1 1 1 24] w2502) := ⟨HS.out.box hg hbox hb⟩; clear hg hbox hb))
            obtain ⟨t2611, HA2612, H⟩ := bind_some H
            refine (pack_Join.calls _ y2498 [2, 1, 1, 1, 1, 1, 1, 24] A2495 n2496 (some ⟨g2501, 0, none⟩) 8 t2611 _ ⟨Rd.ownI (l := []) HS.out 1 rfl⟩ ⟨Rd.lit (l := []) (xs := [2, 1, 1, 1, 1, 1, 1, 24]) HS.out 3 rfl (by simp)⟩ ⟨HGl0.out.pass (l := []) HS.out⟩ ⟨Sep.start _⟩ HA2612).mono ?_
            rintro e_ w2613 ⟨rfl, hS⟩
            replace HS : Aside0 (Sep (fps []) w [b17 g2304 a2297 a2298 a2299 a2300 a2301 a2302 a2303, r6 A2495 y2498.length n2496 y2498, b20 g2491 0 ((a2303) % 4294967296), b21 g2501 2 1 1 1 1 1 1 24] w2613) := ⟨HS.out.call hS⟩
            clear hS
            replace HS : Aside0 (Sep (fps []) w [] w2613) := ⟨HS.out.sub (.cons _ (.cons _ (.cons _ (.cons _ .slnil))))⟩
            go_wp2_with fail
            go_ret2
            rw [← some_eq H]
            exact ⟨(by first | rfl | (simp [IntKind.wrap_u32]; done)), HS.out⟩
          · replace H := if_no c2494 H
            have c2494b0 : decide (x2471.length < 35184372088831) = false := decide_eq_false c2494
            clear c2494
            exact (none_no H).elim
  · replace H := if_no c2449 H
    have c2449b0 : t2446 = false := by simpa using c2449
    have c2449b1 : (!t2446) = true := by rw [c2449b0]; rfl
    try rw [c2449b1]
    clear c2449
    replace HS : Aside0 (Sep (fps []) w [] w2448) := ⟨HS.out.sub (.cons _ .slnil)⟩
    go_wp2_with fail
    go_ret2
    rw [← some_eq H]
    exact ⟨(by first | rfl | (simp [IntKind.wrap_u32]; done)), HS.out⟩

set_option maxHeartbeats 30000000 in
set_option maxRecDepth 100000 in
theorem obj_mark.calls (k : Nat) (l2269 : List Int) (a2274 : Int) (a2275 : Int) (a2276 : Int) (a2277 : Int) (a2278 : Int) (a2279 : Int) (a2280 : Int) (a2281 : Int) (a2282 : Int) (a2283 : Int) (a2284 : Int) (a2285 : Int) (a2286 : Int) (g2265 : Nat) (g2267 : Nat) (A2270 : Option Addr) (m2271 : Nat) (n2272 : Nat) (r : Int × List Int) (w : World)  (HGl0 : Aside0 (Gl 0 #[.int .i64 0, .int .i64 0, .int .i64 0, .int .i64 0, .int .i64 0] (fps [b8 g2265 g2267 a2275 a2276 a2277 a2278, b7 g2267 A2270 m2271 n2272 a2274, r6 A2270 m2271 n2272 l2269]) w)) (HS : Aside0 (Sep (fps [b8 g2265 g2267 a2275 a2276 a2277 a2278, b7 g2267 A2270 m2271 n2272 a2274, r6 A2270 m2271 n2272 l2269]) w [b8 g2265 g2267 a2275 a2276 a2277 a2278, b7 g2267 A2270 m2271 n2272 a2274, r6 A2270 m2271 n2272 l2269] w)) (H : Aside0 (obj_mark.f k l2269 a2274 a2275 a2276 a2277 a2278 a2279 a2280 a2281 a2282 a2283 a2284 a2285 a2286 = some r)) :
    Calls Tryd.prog 99 #[.pointer (some ⟨g2265, 0, none⟩), .int .i64 a2279, .agg #[.int .i64 a2280, .int .i64 a2281, .int .i64 a2282, .int .i64 a2283, .int .i64 a2284, .int .i64 a2285, .int .i64 a2286]] w fun e w' => e = .returned (.tuple #[]) ∧ Sep (fps [b8 g2265 g2267 a2275 a2276 a2277 a2278, b7 g2267 A2270 m2271 n2272 a2274, r6 A2270 m2271 n2272 l2269]) w [b8 g2265 g2267 a2275 a2276 a2277 a2278, b7 g2267 A2270 m2271 n2272 r.1, r6 A2270 m2271 n2272 r.2] w' := by
  generalize (fps [b8 g2265 g2267 a2275 a2276 a2277 a2278, b7 g2267 A2270 m2271 n2272 a2274, r6 A2270 m2271 n2272 l2269]) = FF at HS HGl0 ⊢
  obtain rfl := (row_len (HS.out.at2)).symm
  unfold obj_mark.f at H
  go_enter Tryd.func99, Tryd.ntmps99
  go_wp2_with (first | ((with_reducible refine gate_dst (N := 5) rfl ?_); refine box_on ?hg (N := 5) ?hd (cs := #[.int .i64 a2280, .int .i64 a2281, .int .i64 a2282, .int .i64 a2283, .int .i64 a2284, .int .i64 a2285, .int .i64 a2286]) (t := 32) ?hr ?_; (case hd => rfl); (case hg => rfl); (case hr => first | (go_simp; done) | (go_simp; rfl)); intro g2640 hg w2641 hbox hb; replace HS : Aside0 (Sep FF w [b8 g2265 g2267 a2275 a2276 a2277 a2278, b7 g2267 A2270 l2269.length n2272 a2274, r6 A2270 l2269.length n2272 l2269, b17 g2640 a2280 a2281 a2282 a2283 a2284 a2285 a2286] w2641) := ⟨HS.out.box hg hbox hb⟩; clear hg hbox hb; have hc2643 : w2641.cell? ⟨g2640, 0, none⟩ = some (.int .i64 a2280) := blk_cellv (HS.out.at3) 0 rfl; have hc2644 : w2641.cell? ⟨g2640, 1, none⟩ = some (.int .i64 a2281) := blk_cellv (HS.out.at3) 1 rfl; have hc2645 : w2641.cell? ⟨g2640, 2, none⟩ = some (.int .i64 a2282) := blk_cellv (HS.out.at3) 2 rfl; have hc2646 : w2641.cell? ⟨g2640, 3, none⟩ = some (.int .i64 a2283) := blk_cellv (HS.out.at3) 3 rfl; have hc2647 : w2641.cell? ⟨g2640, 4, none⟩ = some (.int .i64 a2284) := blk_cellv (HS.out.at3) 4 rfl; have hc2648 : w2641.cell? ⟨g2640, 5, none⟩ = some (.int .i64 a2285) := blk_cellv (HS.out.at3) 5 rfl; have hc2649 : w2641.cell? ⟨g2640, 6, none⟩ = some (.int .i64 a2286) := blk_cellv (HS.out.at3) 6 rfl))
  clear hc2643 hc2644 hc2645 hc2646 hc2647 hc2648 hc2649
  obtain ⟨t2650, HA2651, H⟩ := bind_some H
  refine (tag_Pack.calls _ a2280 a2281 a2282 a2283 a2284 a2285 a2286 t2650 _ ⟨HGl0.out.pass (l := []) HS.out⟩ ⟨Sep.start _⟩ HA2651).mono ?_
  rintro e_ w2652 ⟨rfl, hS⟩
  replace HS : Aside0 (Sep FF w [b8 g2265 g2267 a2275 a2276 a2277 a2278, b7 g2267 A2270 l2269.length n2272 a2274, r6 A2270 l2269.length n2272 l2269, b17 g2640 a2280 a2281 a2282 a2283 a2284 a2285 a2286] w2652) := ⟨HS.out.call hS⟩
  clear hS
  by_cases c2653 : t2650.2 = 0
  · replace H := if_yes c2653 H
    have c2653b0 : (t2650.2 == 0) = true := beq_iff_eq.mpr c2653
    have c2653b1 : (t2650.2 != 0) = false := bne_eq_false_iff_eq.mpr c2653
    clear c2653
    replace HS : Aside0 (Sep FF w [b8 g2265 g2267 a2275 a2276 a2277 a2278, b7 g2267 A2270 l2269.length n2272 a2274, r6 A2270 l2269.length n2272 l2269] w2652) := ⟨HS.out.sub (.cons_cons _ (.cons_cons _ (.cons_cons _ (.cons _ .slnil))))⟩
    go_wp2_with fail
    obtain ⟨t2654, HA2655, H⟩ := bind_some H
    refine (ground_Ground_SetWord.calls l2269 a2274 a2275 a2276 a2277 a2278 a2279 0 t2650.1 g2265 g2267 A2270 l2269.length n2272 t2654 _ ⟨HGl0.out.pass HS.out⟩ ⟨HS.out.begin⟩ HA2655).mono ?_
    rintro e_ w2656 ⟨rfl, hS⟩
    replace HS : Aside0 (Sep FF w [b8 g2265 g2267 a2275 a2276 a2277 a2278, b7 g2267 A2270 l2269.length n2272 t2654.2.1, r6 A2270 l2269.length n2272 t2654.2.2] w2656) := ⟨HS.out.call hS⟩
    clear hS
    go_wp2_with fail
    first | go_end0 | refine bodyPost_ret (results_none rfl _ _ _) rfl ?_
    rw [← some_eq H]
    exact ⟨rfl, HS.out⟩
  · replace H := if_no c2653 H
    have c2653b0 : (t2650.2 == 0) = false := beq_eq_false_iff_ne.mpr c2653
    have c2653b1 : (t2650.2 != 0) = true := bne_iff_ne.mpr c2653
    clear c2653
    replace HS : Aside0 (Sep FF w [b8 g2265 g2267 a2275 a2276 a2277 a2278, b7 g2267 A2270 l2269.length n2272 a2274, r6 A2270 l2269.length n2272 l2269] w2652) := ⟨HS.out.sub (.cons_cons _ (.cons_cons _ (.cons_cons _ (.cons _ .slnil))))⟩
    go_wp2_with fail
    first | go_end0 | refine bodyPost_ret (results_none rfl _ _ _) rfl ?_
    rw [← some_eq H]
    exact ⟨rfl, HS.out⟩
end Go.Proofs.YtobeonkddamnoaaDoor.C

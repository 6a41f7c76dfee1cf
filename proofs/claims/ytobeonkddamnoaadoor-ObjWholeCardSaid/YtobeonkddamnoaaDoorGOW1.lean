/- Each function of the group OW does what its plain function says, and changes nothing that was there; proved by walking its code. No condition. -/
import Derived.Test.YtobeonkddamnoaaDoorQw
import Derived.Test.YtobeonkddamnoaaDoorMOW
import Derived.Test.YtobeonkddamnoaaDoorGOW0
namespace Go.Proofs.YtobeonkddamnoaaDoor.C
open Go.RowKit Go.Proofs.YtobeonkddamnoaaDoorW.PrintWords Go.Proofs.YtobeonkddamnoaaDoorW.PrintLast Go.Proofs.YtobeonkddamnoaaDoor.Q Go.Proofs.YtobeonkddamnoaaDoor.M
set_option linter.unusedVariables false
set_option linter.unusedSimpArgs false
set_option maxHeartbeats 30000000 in
set_option maxRecDepth 100000 in
theorem chain_put_F143.calls (l1154 : List Int) (a1159 : Int) (a1160 : Int) (a1161 : Int) (a1162 : Int) (a1163 : Int) (a1164 : Int) (a1165 : Int) (a1170 : Int) (g1150 : Nat) (g1152 : Nat) (A1155 : Option Addr) (m1156 : Nat) (n1157 : Nat) (g1167 : Nat) (g1169 : Nat) (r : Bool × Int × List Int) (w : World)  (HGl0 : Aside0 (Gl 0 #[.int .i64 0, .int .i64 0, .int .i64 0, .int .i64 0, .int .i64 0] (fps [b7 g1150 g1152 a1160 a1161 a1162 a1163, b6 g1152 A1155 m1156 n1157 a1159, r5 A1155 m1156 n1157 l1154, b9 g1167 g1150, b10 g1169 a1170]) w)) (HS : Aside0 (Sep (fps [b7 g1150 g1152 a1160 a1161 a1162 a1163, b6 g1152 A1155 m1156 n1157 a1159, r5 A1155 m1156 n1157 l1154, b9 g1167 g1150, b10 g1169 a1170]) w [b7 g1150 g1152 a1160 a1161 a1162 a1163, b6 g1152 A1155 m1156 n1157 a1159, r5 A1155 m1156 n1157 l1154, b9 g1167 g1150, b10 g1169 a1170] w)) (H : Aside0 (chain_put_F143.f l1154 a1159 a1160 a1161 a1162 a1163 a1164 a1165 a1170 = some r)) :
    Calls Tryd.prog 142 #[.pointer (some ⟨g1150, 0, none⟩), .int .i64 a1164, .int .i64 a1165, .func (.func 143) #[] #[.pointer (some ⟨g1167, 0, none⟩), .pointer (some ⟨g1169, 0, none⟩)]] w fun e w' => e = .returned (.bool r.1) ∧ Sep (fps [b7 g1150 g1152 a1160 a1161 a1162 a1163, b6 g1152 A1155 m1156 n1157 a1159, r5 A1155 m1156 n1157 l1154, b9 g1167 g1150, b10 g1169 a1170]) w [b7 g1150 g1152 a1160 a1161 a1162 a1163, b6 g1152 A1155 m1156 n1157 r.2.1, r5 A1155 m1156 n1157 r.2.2, b9 g1167 g1150, b10 g1169 a1170] w' := by
  generalize (fps [b7 g1150 g1152 a1160 a1161 a1162 a1163, b6 g1152 A1155 m1156 n1157 a1159, r5 A1155 m1156 n1157 l1154, b9 g1167 g1150, b10 g1169 a1170]) = FF at HS HGl0 ⊢
  obtain rfl := (row_len (HS.out.at2)).symm
  unfold chain_put_F143.f at H
  go_enter Tryd.func142, Tryd.ntmps142
  go_wp2_with fail
  obtain ⟨t1463, HA1464, H⟩ := bind_some H
  refine (chain_of.calls l1154 a1159 a1160 a1161 a1162 a1163 a1164 g1150 g1152 A1155 l1154.length n1157 t1463 _ ⟨HGl0.out.pass HS.out⟩ ⟨HS.out.begin⟩ HA1464).mono ?_
  rintro e_ w1465 ⟨rfl, hS⟩
  replace HS : Aside0 (Sep FF w [b7 g1150 g1152 a1160 a1161 a1162 a1163, b6 g1152 A1155 l1154.length n1157 a1159, r5 A1155 l1154.length n1157 l1154, b9 g1167 g1150, b10 g1169 a1170] w1465) := ⟨HS.out.call hS⟩
  clear hS
  by_cases c1476 : t1463.2.2.2 = true
  · replace H := if_yes c1476 H
    have c1476b0 : t1463.2.2.2 = true := c1476
    have c1476b1 : (!t1463.2.2.2) = false := by rw [c1476b0]; rfl
    try rw [c1476b1]
    clear c1476
    by_cases c1477 : a1165 < 0
    · replace H := if_yes c1477 H
      have c1477b0 : decide (a1165 < 0) = true := decide_eq_true c1477
      clear c1477
      go_wp2_with (first | ((with_reducible refine gate_dst (N := 9) rfl ?_); refine box_on ?hg (N := 9) ?hd (cs := #[.int .i64 0, .int .i64 0, .int .i64 0]) (t := 166) ?hr ?_; (case hd => rfl); (case hg => rfl); (case hr => first | (go_simp; done) | (go_simp; rfl)); intro g1466 hg w1467 hbox hb; replace HS : Aside0 (Sep FF w [b7 g1150 g1152 a1160 a1161 a1162 a1163, b6 g1152 A1155 l1154.length n1157 a1159, r5 A1155 l1154.length n1157 l1154, b9 g1167 g1150, b10 g1169 a1170, b8 g1466 0 0 0] w1467) := ⟨HS.out.box hg hbox hb⟩; clear hg hbox hb; have hc1469 : w1467.cell? ⟨g1466, 0, none⟩ = some (.int .i64 0) := blk_cellv (HS.out.at5) 0 rfl; have hz1470 : w1467.frozen? ⟨g1466, 0, none⟩ = false := blk_fz (HS.out.at5) 0; have hc1471 : w1467.cell? ⟨g1466, 1, none⟩ = some (.int .i64 0) := blk_cellv (HS.out.at5) 1 rfl; have hz1472 : w1467.frozen? ⟨g1466, 1, none⟩ = false := blk_fz (HS.out.at5) 1; have hc1473 : w1467.cell? ⟨g1466, 2, none⟩ = some (.int .i64 0) := blk_cellv (HS.out.at5) 2 rfl; have hz1474 : w1467.frozen? ⟨g1466, 2, none⟩ = false := blk_fz (HS.out.at5) 2) | ((with_reducible refine gate_store (t := 166) (p := 9) rfl ?_); refine store_event (w1 := (World.setCell (World.setCell (World.setCell w1467 ⟨g1466, 0, none⟩ (.int .i64 t1463.1)) ⟨g1466, 1, none⟩ (.int .i64 t1463.2.1)) ⟨g1466, 2, none⟩ (.int .i64 t1463.2.2.1))) rfl (t := 166) (p := 9) rfl rfl ?hr ?_; (case hr => first | (go_simp; done) | (go_simp; rfl)); intro w1475 hst; clear hc1469 hz1470 hc1471 hz1472 hc1473 hz1474; replace HS : Aside0 (Sep FF w [b7 g1150 g1152 a1160 a1161 a1162 a1163, b6 g1152 A1155 l1154.length n1157 a1159, r5 A1155 l1154.length n1157 l1154, b9 g1167 g1150, b10 g1169 a1170, b8 g1466 t1463.1 t1463.2.1 t1463.2.2.1] w1475) := ⟨by rw [hst]; exact HS.out.setAll (l1 := [b7 g1150 g1152 a1160 a1161 a1162 a1163, b6 g1152 A1155 l1154.length n1157 a1159, r5 A1155 l1154.length n1157 l1154, b9 g1167 g1150, b10 g1169 a1170]) (l2 := []) [.int .i64 t1463.1, .int .i64 t1463.2.1, .int .i64 t1463.2.2.1] rfl⟩; clear hst; replace HS : Aside0 (Sep FF w [b7 g1150 g1152 a1160 a1161 a1162 a1163, b6 g1152 A1155 l1154.length n1157 a1159, r5 A1155 l1154.length n1157 l1154, b9 g1167 g1150, b10 g1169 a1170] w1475) := ⟨HS.out.sub (.cons_cons _ (.cons_cons _ (.cons_cons _ (.cons_cons _ (.cons_cons _ (.cons _ .slnil))))))⟩))
      go_ret
      rw [← some_eq H]
      exact ⟨(by first | rfl | (simp [IntKind.wrap_u32]; done)), HS.out⟩
    · replace H := if_no c1477 H
      have c1477b0 : decide (a1165 < 0) = false := decide_eq_false c1477
      clear c1477
      go_wp2_with (first | ((with_reducible refine gate_dst (N := 9) rfl ?_); refine box_on ?hg (N := 9) ?hd (cs := #[.int .i64 0, .int .i64 0, .int .i64 0]) (t := 166) ?hr ?_; (case hd => rfl); (case hg => rfl); (case hr => first | (go_simp; done) | (go_simp; rfl)); intro g1466 hg w1467 hbox hb; replace HS : Aside0 (Sep FF w [b7 g1150 g1152 a1160 a1161 a1162 a1163, b6 g1152 A1155 l1154.length n1157 a1159, r5 A1155 l1154.length n1157 l1154, b9 g1167 g1150, b10 g1169 a1170, b8 g1466 0 0 0] w1467) := ⟨HS.out.box hg hbox hb⟩; clear hg hbox hb; have hc1469 : w1467.cell? ⟨g1466, 0, none⟩ = some (.int .i64 0) := blk_cellv (HS.out.at5) 0 rfl; have hz1470 : w1467.frozen? ⟨g1466, 0, none⟩ = false := blk_fz (HS.out.at5) 0; have hc1471 : w1467.cell? ⟨g1466, 1, none⟩ = some (.int .i64 0) := blk_cellv (HS.out.at5) 1 rfl; have hz1472 : w1467.frozen? ⟨g1466, 1, none⟩ = false := blk_fz (HS.out.at5) 1; have hc1473 : w1467.cell? ⟨g1466, 2, none⟩ = some (.int .i64 0) := blk_cellv (HS.out.at5) 2 rfl; have hz1474 : w1467.frozen? ⟨g1466, 2, none⟩ = false := blk_fz (HS.out.at5) 2) | ((with_reducible refine gate_store (t := 166) (p := 9) rfl ?_); refine store_event (w1 := (World.setCell (World.setCell (World.setCell w1467 ⟨g1466, 0, none⟩ (.int .i64 t1463.1)) ⟨g1466, 1, none⟩ (.int .i64 t1463.2.1)) ⟨g1466, 2, none⟩ (.int .i64 t1463.2.2.1))) rfl (t := 166) (p := 9) rfl rfl ?hr ?_; (case hr => first | (go_simp; done) | (go_simp; rfl)); intro w1475 hst; clear hc1469 hz1470 hc1471 hz1472 hc1473 hz1474; replace HS : Aside0 (Sep FF w [b7 g1150 g1152 a1160 a1161 a1162 a1163, b6 g1152 A1155 l1154.length n1157 a1159, r5 A1155 l1154.length n1157 l1154, b9 g1167 g1150, b10 g1169 a1170, b8 g1466 t1463.1 t1463.2.1 t1463.2.2.1] w1475) := ⟨by rw [hst]; exact HS.out.setAll (l1 := [b7 g1150 g1152 a1160 a1161 a1162 a1163, b6 g1152 A1155 l1154.length n1157 a1159, r5 A1155 l1154.length n1157 l1154, b9 g1167 g1150, b10 g1169 a1170]) (l2 := []) [.int .i64 t1463.1, .int .i64 t1463.2.1, .int .i64 t1463.2.2.1] rfl⟩; clear hst))
      obtain ⟨t1478, HA1479, H⟩ := bind_some H
      refine (ground_Ground_Conf.calls l1154 a1159 a1160 a1161 a1162 a1163 g1150 g1152 A1155 l1154.length n1157 t1478 _ ⟨HGl0.out.pass HS.out⟩ ⟨HS.out.begin⟩ HA1479).mono ?_
      rintro e_ w1480 ⟨rfl, hS⟩
      replace HS : Aside0 (Sep FF w [b7 g1150 g1152 a1160 a1161 a1162 a1163, b6 g1152 A1155 l1154.length n1157 a1159, r5 A1155 l1154.length n1157 l1154, b9 g1167 g1150, b10 g1169 a1170, b8 g1466 t1463.1 t1463.2.1 t1463.2.2.1] w1480) := ⟨HS.out.call hS⟩
      clear hS
      by_cases c1482 : a1165 ≥ t1478.1
      · replace H := if_yes c1482 H
        have c1482b0 : decide (t1478.1 ≤ a1165) = true := decide_eq_true c1482
        clear c1482
        have fl1481 : ∀ w, (Instr.field 30 (.agg #[.int .i64 t1478.1, .int .i64 t1478.2.1, .int .i64 t1478.2.2.1, .int .i64 t1478.2.2.2]) 0).run Tryd.prog w = .ok (.int .i64 t1478.1) w := fun _ => by kernel_rfl
        replace HS : Aside0 (Sep FF w [b7 g1150 g1152 a1160 a1161 a1162 a1163, b6 g1152 A1155 l1154.length n1157 a1159, r5 A1155 l1154.length n1157 l1154, b9 g1167 g1150, b10 g1169 a1170] w1480) := ⟨HS.out.sub (.cons_cons _ (.cons_cons _ (.cons_cons _ (.cons_cons _ (.cons_cons _ (.cons _ .slnil))))))⟩
        go_wp2_with fail
        clear fl1481
        go_ret
        rw [← some_eq H]
        exact ⟨(by first | rfl | (simp [IntKind.wrap_u32]; done)), HS.out⟩
      · replace H := if_no c1482 H
        have c1482b0 : decide (t1478.1 ≤ a1165) = false := decide_eq_false c1482
        clear c1482
        have fl1481 : ∀ w, (Instr.field 30 (.agg #[.int .i64 t1478.1, .int .i64 t1478.2.1, .int .i64 t1478.2.2.1, .int .i64 t1478.2.2.2]) 0).run Tryd.prog w = .ok (.int .i64 t1478.1) w := fun _ => by kernel_rfl
        have hc1483 : w1480.cell? ⟨g1466, 2, none⟩ = some (.int .i64 t1463.2.2.1) := blk_cellv (HS.out.at5) 2 rfl
        go_wp2_with fail
        clear fl1481 hc1483
        obtain ⟨t1484, HA1485, H⟩ := bind_some H
        refine (ground_Ground_Reg.calls l1154 a1159 a1160 a1161 a1162 a1163 t1463.2.2.1 g1150 g1152 A1155 l1154.length n1157 t1484 _ ⟨HGl0.out.pass HS.out⟩ ⟨HS.out.begin⟩ HA1485).mono ?_
        rintro e_ w1486 ⟨rfl, hS⟩
        replace HS : Aside0 (Sep FF w [b7 g1150 g1152 a1160 a1161 a1162 a1163, b6 g1152 A1155 l1154.length n1157 t1484.2, r5 A1155 l1154.length n1157 l1154, b9 g1167 g1150, b10 g1169 a1170, b8 g1466 t1463.1 t1463.2.1 t1463.2.2.1] w1486) := ⟨HS.out.call hS⟩
        clear hS
        have hc1487 : w1486.cell? ⟨g1466, 0, none⟩ = some (.int .i64 t1463.1) := blk_cellv (HS.out.at5) 0 rfl
        have hc1488 : w1486.cell? ⟨g1466, 1, none⟩ = some (.int .i64 t1463.2.1) := blk_cellv (HS.out.at5) 1 rfl
        have hc1489 : w1486.cell? ⟨g1466, 2, none⟩ = some (.int .i64 t1463.2.2.1) := blk_cellv (HS.out.at5) 2 rfl
        go_wp2_with fail
        clear hc1487 hc1488 hc1489
        replace HS : Aside0 (Sep FF w [b10 g1169 a1170, b7 g1150 g1152 a1160 a1161 a1162 a1163, b6 g1152 A1155 l1154.length n1157 t1484.2, r5 A1155 l1154.length n1157 l1154, b9 g1167 g1150, b8 g1466 t1463.1 t1463.2.1 t1463.2.2.1] w1486) := ⟨HS.out.front 4 (by simp)⟩
        replace HS : Aside0 (Sep FF w [r5 A1155 l1154.length n1157 l1154, b10 g1169 a1170, b7 g1150 g1152 a1160 a1161 a1162 a1163, b6 g1152 A1155 l1154.length n1157 t1484.2, b9 g1167 g1150, b8 g1466 t1463.1 t1463.2.1 t1463.2.2.1] w1486) := ⟨HS.out.front 3 (by simp)⟩
        replace HS : Aside0 (Sep FF w [b6 g1152 A1155 l1154.length n1157 t1484.2, r5 A1155 l1154.length n1157 l1154, b10 g1169 a1170, b7 g1150 g1152 a1160 a1161 a1162 a1163, b9 g1167 g1150, b8 g1466 t1463.1 t1463.2.1 t1463.2.2.1] w1486) := ⟨HS.out.front 3 (by simp)⟩
        replace HS : Aside0 (Sep FF w [b7 g1150 g1152 a1160 a1161 a1162 a1163, b6 g1152 A1155 l1154.length n1157 t1484.2, r5 A1155 l1154.length n1157 l1154, b10 g1169 a1170, b9 g1167 g1150, b8 g1466 t1463.1 t1463.2.1 t1463.2.2.1] w1486) := ⟨HS.out.front 3 (by simp)⟩
        replace HS : Aside0 (Sep FF w [b9 g1167 g1150, b7 g1150 g1152 a1160 a1161 a1162 a1163, b6 g1152 A1155 l1154.length n1157 t1484.2, r5 A1155 l1154.length n1157 l1154, b10 g1169 a1170, b8 g1466 t1463.1 t1463.2.1 t1463.2.2.1] w1486) := ⟨HS.out.front 4 (by simp)⟩
        obtain ⟨t1490, HA1491, H⟩ := bind_some H
        refine (chain_Add_1.calls t1463.1 t1463.2.1 t1463.2.2.1 (wrap64 (a1165 + 1)) t1484.1 l1154 t1484.2 a1160 a1161 a1162 a1163 a1170 g1167 g1150 g1152 A1155 l1154.length n1157 g1169 t1490 _ ⟨HGl0.out.pass HS.out⟩ ⟨HS.out.begin⟩ HA1491).mono ?_
        rintro e_ w1492 ⟨rfl, hS⟩
        replace HS : Aside0 (Sep FF w [b9 g1167 g1150, b7 g1150 g1152 a1160 a1161 a1162 a1163, b6 g1152 A1155 l1154.length n1157 t1490.1, r5 A1155 l1154.length n1157 t1490.2, b10 g1169 a1170, b8 g1466 t1463.1 t1463.2.1 t1463.2.2.1] w1492) := ⟨HS.out.call hS⟩
        clear hS
        have hc1493 : w1492.cell? ⟨g1466, 2, none⟩ = some (.int .i64 t1463.2.2.1) := blk_cellv (HS.out.at5) 2 rfl
        go_wp2_with fail
        clear hc1493
        replace HS : Aside0 (Sep FF w [r5 A1155 l1154.length n1157 t1490.2, b9 g1167 g1150, b7 g1150 g1152 a1160 a1161 a1162 a1163, b6 g1152 A1155 l1154.length n1157 t1490.1, b10 g1169 a1170, b8 g1466 t1463.1 t1463.2.1 t1463.2.2.1] w1492) := ⟨HS.out.front 3 (by simp)⟩
        replace HS : Aside0 (Sep FF w [b6 g1152 A1155 l1154.length n1157 t1490.1, r5 A1155 l1154.length n1157 t1490.2, b9 g1167 g1150, b7 g1150 g1152 a1160 a1161 a1162 a1163, b10 g1169 a1170, b8 g1466 t1463.1 t1463.2.1 t1463.2.2.1] w1492) := ⟨HS.out.front 3 (by simp)⟩
        replace HS : Aside0 (Sep FF w [b7 g1150 g1152 a1160 a1161 a1162 a1163, b6 g1152 A1155 l1154.length n1157 t1490.1, r5 A1155 l1154.length n1157 t1490.2, b9 g1167 g1150, b10 g1169 a1170, b8 g1466 t1463.1 t1463.2.1 t1463.2.2.1] w1492) := ⟨HS.out.front 3 (by simp)⟩
        obtain ⟨t1494, HA1495, H⟩ := bind_some H
        refine (ground_Ground_SetReg.calls t1490.2 t1490.1 a1160 a1161 a1162 a1163 t1463.2.2.1 (wrap64 (t1484.1 + 1)) g1150 g1152 A1155 l1154.length n1157 t1494 _ ⟨HGl0.out.pass HS.out⟩ ⟨HS.out.begin⟩ HA1495).mono ?_
        rintro e_ w1496 ⟨rfl, hS⟩
        replace HS : Aside0 (Sep FF w [b7 g1150 g1152 a1160 a1161 a1162 a1163, b6 g1152 A1155 l1154.length n1157 t1494.2.1, r5 A1155 l1154.length n1157 t1494.2.2, b9 g1167 g1150, b10 g1169 a1170, b8 g1466 t1463.1 t1463.2.1 t1463.2.2.1] w1496) := ⟨HS.out.call hS⟩
        clear hS
        replace HS : Aside0 (Sep FF w [b7 g1150 g1152 a1160 a1161 a1162 a1163, b6 g1152 A1155 l1154.length n1157 t1494.2.1, r5 A1155 l1154.length n1157 t1494.2.2, b9 g1167 g1150, b10 g1169 a1170] w1496) := ⟨HS.out.sub (.cons_cons _ (.cons_cons _ (.cons_cons _ (.cons_cons _ (.cons_cons _ (.cons _ .slnil))))))⟩
        go_wp2_with fail
        go_ret
        rw [← some_eq H]
        exact ⟨(by first | rfl | (simp [IntKind.wrap_u32]; done)), HS.out⟩
  · replace H := if_no c1476 H
    have c1476b0 : t1463.2.2.2 = false := by simpa using c1476
    have c1476b1 : (!t1463.2.2.2) = true := by rw [c1476b0]; rfl
    try rw [c1476b1]
    clear c1476
    go_wp2_with (first | ((with_reducible refine gate_dst (N := 9) rfl ?_); refine box_on ?hg (N := 9) ?hd (cs := #[.int .i64 0, .int .i64 0, .int .i64 0]) (t := 166) ?hr ?_; (case hd => rfl); (case hg => rfl); (case hr => first | (go_simp; done) | (go_simp; rfl)); intro g1466 hg w1467 hbox hb; replace HS : Aside0 (Sep FF w [b7 g1150 g1152 a1160 a1161 a1162 a1163, b6 g1152 A1155 l1154.length n1157 a1159, r5 A1155 l1154.length n1157 l1154, b9 g1167 g1150, b10 g1169 a1170, b8 g1466 0 0 0] w1467) := ⟨HS.out.box hg hbox hb⟩; clear hg hbox hb; have hc1469 : w1467.cell? ⟨g1466, 0, none⟩ = some (.int .i64 0) := blk_cellv (HS.out.at5) 0 rfl; have hz1470 : w1467.frozen? ⟨g1466, 0, none⟩ = false := blk_fz (HS.out.at5) 0; have hc1471 : w1467.cell? ⟨g1466, 1, none⟩ = some (.int .i64 0) := blk_cellv (HS.out.at5) 1 rfl; have hz1472 : w1467.frozen? ⟨g1466, 1, none⟩ = false := blk_fz (HS.out.at5) 1; have hc1473 : w1467.cell? ⟨g1466, 2, none⟩ = some (.int .i64 0) := blk_cellv (HS.out.at5) 2 rfl; have hz1474 : w1467.frozen? ⟨g1466, 2, none⟩ = false := blk_fz (HS.out.at5) 2) | ((with_reducible refine gate_store (t := 166) (p := 9) rfl ?_); refine store_event (w1 := (World.setCell (World.setCell (World.setCell w1467 ⟨g1466, 0, none⟩ (.int .i64 t1463.1)) ⟨g1466, 1, none⟩ (.int .i64 t1463.2.1)) ⟨g1466, 2, none⟩ (.int .i64 t1463.2.2.1))) rfl (t := 166) (p := 9) rfl rfl ?hr ?_; (case hr => first | (go_simp; done) | (go_simp; rfl)); intro w1475 hst; clear hc1469 hz1470 hc1471 hz1472 hc1473 hz1474; replace HS : Aside0 (Sep FF w [b7 g1150 g1152 a1160 a1161 a1162 a1163, b6 g1152 A1155 l1154.length n1157 a1159, r5 A1155 l1154.length n1157 l1154, b9 g1167 g1150, b10 g1169 a1170, b8 g1466 t1463.1 t1463.2.1 t1463.2.2.1] w1475) := ⟨by rw [hst]; exact HS.out.setAll (l1 := [b7 g1150 g1152 a1160 a1161 a1162 a1163, b6 g1152 A1155 l1154.length n1157 a1159, r5 A1155 l1154.length n1157 l1154, b9 g1167 g1150, b10 g1169 a1170]) (l2 := []) [.int .i64 t1463.1, .int .i64 t1463.2.1, .int .i64 t1463.2.2.1] rfl⟩; clear hst; replace HS : Aside0 (Sep FF w [b7 g1150 g1152 a1160 a1161 a1162 a1163, b6 g1152 A1155 l1154.length n1157 a1159, r5 A1155 l1154.length n1157 l1154, b9 g1167 g1150, b10 g1169 a1170] w1475) := ⟨HS.out.sub (.cons_cons _ (.cons_cons _ (.cons_cons _ (.cons_cons _ (.cons_cons _ (.cons _ .slnil))))))⟩))
    go_ret
    rw [← some_eq H]
    exact ⟨(by first | rfl | (simp [IntKind.wrap_u32]; done)), HS.out⟩

set_option maxHeartbeats 30000000 in
set_option maxRecDepth 100000 in
theorem chain_Add.calls (l1129 : List Int) (a1134 : Int) (a1135 : Int) (a1136 : Int) (a1137 : Int) (a1138 : Int) (a1139 : Int) (a1140 : Int) (g1125 : Nat) (g1127 : Nat) (A1130 : Option Addr) (m1131 : Nat) (n1132 : Nat) (r : Bool × Int × List Int) (w : World)  (HGl0 : Aside0 (Gl 0 #[.int .i64 0, .int .i64 0, .int .i64 0, .int .i64 0, .int .i64 0] (fps [b7 g1125 g1127 a1135 a1136 a1137 a1138, b6 g1127 A1130 m1131 n1132 a1134, r5 A1130 m1131 n1132 l1129]) w)) (HS : Aside0 (Sep (fps [b7 g1125 g1127 a1135 a1136 a1137 a1138, b6 g1127 A1130 m1131 n1132 a1134, r5 A1130 m1131 n1132 l1129]) w [b7 g1125 g1127 a1135 a1136 a1137 a1138, b6 g1127 A1130 m1131 n1132 a1134, r5 A1130 m1131 n1132 l1129] w)) (H : Aside0 (chain_Add.f l1129 a1134 a1135 a1136 a1137 a1138 a1139 a1140 = some r)) :
    Calls Tryd.prog 117 #[.pointer (some ⟨g1125, 0, none⟩), .int .i64 a1139, .int .i64 a1140] w fun e w' => e = .returned (.bool r.1) ∧ Sep (fps [b7 g1125 g1127 a1135 a1136 a1137 a1138, b6 g1127 A1130 m1131 n1132 a1134, r5 A1130 m1131 n1132 l1129]) w [b7 g1125 g1127 a1135 a1136 a1137 a1138, b6 g1127 A1130 m1131 n1132 r.2.1, r5 A1130 m1131 n1132 r.2.2] w' := by
  generalize (fps [b7 g1125 g1127 a1135 a1136 a1137 a1138, b6 g1127 A1130 m1131 n1132 a1134, r5 A1130 m1131 n1132 l1129]) = FF at HS HGl0 ⊢
  obtain rfl := (row_len (HS.out.at2)).symm
  unfold chain_Add.f at H
  go_enter Tryd.func117, Tryd.ntmps117
  go_wp2_with (first | ((with_reducible refine gate_dst (N := 3) rfl ?_); refine box_on ?hg (N := 3) ?hd (cs := #[.pointer (some ⟨g1125, 0, none⟩)]) (t := 25) ?hr ?_; (case hd => rfl); (case hg => rfl); (case hr => first | (go_simp; done) | (go_simp; rfl)); intro g1500 hg w1501 hbox hb; replace HS : Aside0 (Sep FF w [b7 g1125 g1127 a1135 a1136 a1137 a1138, b6 g1127 A1130 l1129.length n1132 a1134, r5 A1130 l1129.length n1132 l1129, b9 g1500 g1125] w1501) := ⟨HS.out.box hg hbox hb⟩; clear hg hbox hb) | ((with_reducible refine gate_dst (N := 5) rfl ?_); refine box_on ?hg (N := 5) ?hd (cs := #[.int .i64 a1140]) (t := 3) ?hr ?_; (case hd => rfl); (case hg => rfl); (case hr => first | (go_simp; done) | (go_simp; rfl)); intro g1503 hg w1504 hbox hb; replace HS : Aside0 (Sep FF w [b7 g1125 g1127 a1135 a1136 a1137 a1138, b6 g1127 A1130 l1129.length n1132 a1134, r5 A1130 l1129.length n1132 l1129, b9 g1500 g1125, b10 g1503 a1140] w1504) := ⟨HS.out.box hg hbox hb⟩; clear hg hbox hb; have hc1506 : w1504.cell? ⟨g1500, 0, none⟩ = some (.pointer (some ⟨g1125, 0, none⟩)) := blk_cellv (HS.out.at3) 0 rfl; have hc1507 : w1504.cell? ⟨g1503, 0, none⟩ = some (.int .i64 a1140) := blk_cellv (HS.out.at4) 0 rfl))
  clear hc1506 hc1507
  obtain ⟨t1508, HA1509, H⟩ := bind_some H
  refine (chain_put_F143.calls l1129 a1134 a1135 a1136 a1137 a1138 a1139 a1140 a1140 g1125 g1127 A1130 l1129.length n1132 g1500 g1503 t1508 _ ⟨HGl0.out.pass HS.out⟩ ⟨HS.out.begin⟩ HA1509).mono ?_
  rintro e_ w1510 ⟨rfl, hS⟩
  replace HS : Aside0 (Sep FF w [b7 g1125 g1127 a1135 a1136 a1137 a1138, b6 g1127 A1130 l1129.length n1132 t1508.2.1, r5 A1130 l1129.length n1132 t1508.2.2, b9 g1500 g1125, b10 g1503 a1140] w1510) := ⟨HS.out.call hS⟩
  clear hS
  replace HS : Aside0 (Sep FF w [b7 g1125 g1127 a1135 a1136 a1137 a1138, b6 g1127 A1130 l1129.length n1132 t1508.2.1, r5 A1130 l1129.length n1132 t1508.2.2] w1510) := ⟨HS.out.sub (.cons_cons _ (.cons_cons _ (.cons_cons _ (.cons _ (.cons _ .slnil)))))⟩
  go_wp2_with fail
  go_ret
  rw [← some_eq H]
  exact ⟨(by first | rfl | (simp [IntKind.wrap_u32]; done)), HS.out⟩

set_option maxHeartbeats 30000000 in
set_option maxRecDepth 100000 in
theorem pool_Open.calls (k : Nat) (l828 : List Int) (a833 : Int) (a834 : Int) (a835 : Int) (a836 : Int) (a837 : Int) (g824 : Nat) (g826 : Nat) (A829 : Option Addr) (m830 : Nat) (n831 : Nat) (r : Bool × Int × List Int) (w : World)  (HGl0 : Aside0 (Gl 0 #[.int .i64 0, .int .i64 0, .int .i64 0, .int .i64 0, .int .i64 0] (fps [b7 g824 g826 a834 a835 a836 a837, b6 g826 A829 m830 n831 a833, r5 A829 m830 n831 l828]) w)) (HS : Aside0 (Sep (fps [b7 g824 g826 a834 a835 a836 a837, b6 g826 A829 m830 n831 a833, r5 A829 m830 n831 l828]) w [b7 g824 g826 a834 a835 a836 a837, b6 g826 A829 m830 n831 a833, r5 A829 m830 n831 l828] w)) (H : Aside0 (pool_Open.f k l828 a833 a834 a835 a836 a837 = some r)) :
    Calls Tryd.prog 62 #[.pointer (some ⟨g824, 0, none⟩)] w fun e w' => e = .returned (.bool r.1) ∧ Sep (fps [b7 g824 g826 a834 a835 a836 a837, b6 g826 A829 m830 n831 a833, r5 A829 m830 n831 l828]) w [b7 g824 g826 a834 a835 a836 a837, b6 g826 A829 m830 n831 r.2.1, r5 A829 m830 n831 r.2.2] w' := by
  generalize (fps [b7 g824 g826 a834 a835 a836 a837, b6 g826 A829 m830 n831 a833, r5 A829 m830 n831 l828]) = FF at HS HGl0 ⊢
  obtain rfl := (row_len (HS.out.at2)).symm
  unfold pool_Open.f at H
  go_enter Tryd.func62, Tryd.ntmps62
  go_wp2_with fail
  obtain ⟨t1524, HA1525, H⟩ := bind_some H
  refine (chain_Len.calls l828 a833 a834 a835 a836 a837 0 g824 g826 A829 l828.length n831 t1524 _ ⟨HGl0.out.pass HS.out⟩ ⟨HS.out.begin⟩ HA1525).mono ?_
  rintro e_ w1526 ⟨rfl, hS⟩
  replace HS : Aside0 (Sep FF w [b7 g824 g826 a834 a835 a836 a837, b6 g826 A829 l828.length n831 t1524.2, r5 A829 l828.length n831 l828] w1526) := ⟨HS.out.call hS⟩
  clear hS
  by_cases c1527 : t1524.1 > 0
  · replace H := if_yes c1527 H
    have c1527b0 : decide (0 < t1524.1) = true := decide_eq_true c1527
    clear c1527
    go_wp2_with fail
    go_ret
    rw [← some_eq H]
    exact ⟨(by first | rfl | (simp [IntKind.wrap_u32]; done)), HS.out⟩
  · replace H := if_no c1527 H
    have c1527b0 : decide (0 < t1524.1) = false := decide_eq_false c1527
    clear c1527
    go_wp2_with fail
    obtain ⟨t1528, HA1529, H⟩ := bind_some H
    refine (ground_Ground_Conf.calls l828 t1524.2 a834 a835 a836 a837 g824 g826 A829 l828.length n831 t1528 _ ⟨HGl0.out.pass HS.out⟩ ⟨HS.out.begin⟩ HA1529).mono ?_
    rintro e_ w1530 ⟨rfl, hS⟩
    replace HS : Aside0 (Sep FF w [b7 g824 g826 a834 a835 a836 a837, b6 g826 A829 l828.length n831 t1524.2, r5 A829 l828.length n831 l828] w1530) := ⟨HS.out.call hS⟩
    clear hS
    have fl1531 : ∀ w, (Instr.field 30 (.agg #[.int .i64 t1528.1, .int .i64 t1528.2.1, .int .i64 t1528.2.2.1, .int .i64 t1528.2.2.2]) 0).run Tryd.prog w = .ok (.int .i64 t1528.1) w := fun _ => by kernel_rfl
    go_wp2_with fail
    clear fl1531
    obtain ⟨o1542, AL1543, H⟩ := bind_some H
    go_loopg [14] k (fun kq v14 wc => ∃ (x1546 : Int) (x1547 : List Int) (x1548 : Int), v14 = .int .i64 x1546 ∧ Aside0 (pool_Open.lo0 kq a834 a835 a836 a837 t1528 x1546 x1547 x1548 = some o1542) ∧ Aside0 (Sep FF w [b7 g824 g826 a834 a835 a836 a837, b6 g826 A829 l828.length n831 x1548, r5 A829 l828.length n831 x1547] wc))
    case atStart => exact ⟨(0), (l828), (t1524.2), (by first | rfl | (simp [IntKind.wrap_u32]; done)), AL1543, ⟨HS.out⟩⟩
    case round =>
      clear AL1543 HS
      obtain ⟨x1546, x1547, x1548, rfl, AL1543, HS⟩ := hrel
      obtain ⟨w1544, rfl⟩ : ∃ x : World, x = wr := ⟨_, rfl⟩
      cases gk with
      | zero => exact absurd AL1543.out (by simp [pool_Open.lo0])
      | succ k1545 =>
        have AL0 := AL1543.out
        rw [pool_Open.lo0] at AL0
        clear AL1543
        have AL1543 := Aside0.mk AL0
        clear AL0
        by_cases c1549 : x1546 < t1528.1
        · replace AL1543 := if_yes c1549 AL1543
          have c1549b0 : decide (x1546 < t1528.1) = true := decide_eq_true c1549
          clear c1549
          go_wp2_with fail
          obtain ⟨t1539, HA1550, AL1543⟩ := bind_some AL1543
          refine (chain_Add.calls x1547 x1548 a834 a835 a836 a837 0 x1546 g824 g826 A829 l828.length n831 t1539 _ ⟨HGl0.out.pass HS.out⟩ ⟨HS.out.begin⟩ HA1550).mono ?_
          rintro e_ w1551 ⟨rfl, hS⟩
          replace HS : Aside0 (Sep FF w [b7 g824 g826 a834 a835 a836 a837, b6 g826 A829 l828.length n831 t1539.2.1, r5 A829 l828.length n831 t1539.2.2] w1551) := ⟨HS.out.call hS⟩
          clear hS
          go_wp2_with fail
          go_roundg k1545
          case measure => exact Nat.lt_succ_self _
          case rel => exact ⟨(wrap64 (x1546 + 1)), (t1539.2.2), (t1539.2.1), (by first | rfl | (simp [IntKind.wrap_u32]; done)), Aside0.mk AL1543.out, ⟨HS.out⟩⟩
        · replace AL1543 := if_no c1549 AL1543
          have c1549b0 : decide (x1546 < t1528.1) = false := decide_eq_false c1549
          clear c1549
          have ho := some_eq AL1543
          subst ho
          clear AL1543
          go_wp2_with fail
          go_ret
          rw [← some_eq H]
          exact ⟨(by first | rfl | (simp [IntKind.wrap_u32]; done)), HS.out⟩

set_option maxHeartbeats 30000000 in
set_option maxRecDepth 100000 in
theorem quitrentlaw11_opened.calls (k : Nat) (a8 : Int) (a9 : Int) (a10 : Int) (a11 : Int) (r : Bool ⊕ (Bool × Int × Int × Int × Int × Int × List Int)) (w : World)  (HGl0 : Aside0 (Gl 0 #[.int .i64 0, .int .i64 0, .int .i64 0, .int .i64 0, .int .i64 0] (fps []) w)) (HS : Aside0 (Sep (fps []) w [] w)) (H : Aside0 (quitrentlaw11_opened.f k a8 a9 a10 a11 = some r)) :
    Calls Tryd.prog 43 #[.agg #[.int .i64 a8, .int .i64 a9, .int .i64 a10, .int .i64 a11]] w fun e w' => Sum.elim (fun (r : Bool) => e = .returned (.tuple #[.pointer none, .bool r]) ∧ Sep (fps []) w [] w') (fun (r : Bool × Int × Int × Int × Int × Int × List Int) => ∃ (g1596 : Nat), e = .returned (.tuple #[.pointer (some ⟨g1596, 0, none⟩), .bool r.1]) ∧ ∃ (g1597 : Nat) (A1598 : Option Addr) (m1599 : Nat) (n1600 : Nat), Sep (fps []) w [b7 g1596 g1597 r.2.1 r.2.2.1 r.2.2.2.1 r.2.2.2.2.1, b6 g1597 A1598 m1599 n1600 r.2.2.2.2.2.1, r5 A1598 m1599 n1600 r.2.2.2.2.2.2] w') r := by
  unfold quitrentlaw11_opened.f at H
  go_enter Tryd.func43, Tryd.ntmps43
  go_wp2_with (first | ((with_reducible refine gate_dst (N := 1) rfl ?_); refine box_on ?hg (N := 1) ?hd (cs := #[.int .i64 a8, .int .i64 a9, .int .i64 a10, .int .i64 a11]) (t := 30) ?hr ?_; (case hd => rfl); (case hg => rfl); (case hr => first | (go_simp; done) | (go_simp; rfl)); intro g1556 hg w1557 hbox hb; replace HS : Aside0 (Sep (fps []) w [b1 g1556 a8 a9 a10 a11] w1557) := ⟨HS.out.box hg hbox hb⟩; clear hg hbox hb; have hc1559 : w1557.cell? ⟨g1556, 0, none⟩ = some (.int .i64 a8) := blk_cellv (HS.out.at0) 0 rfl; have hc1560 : w1557.cell? ⟨g1556, 1, none⟩ = some (.int .i64 a9) := blk_cellv (HS.out.at0) 1 rfl; have hc1561 : w1557.cell? ⟨g1556, 2, none⟩ = some (.int .i64 a10) := blk_cellv (HS.out.at0) 2 rfl; have hc1562 : w1557.cell? ⟨g1556, 3, none⟩ = some (.int .i64 a11) := blk_cellv (HS.out.at0) 3 rfl))
  clear hc1559 hc1560 hc1561 hc1562
  obtain ⟨t1563, HA1564, H⟩ := bind_some H
  rcases t1563 with t1565 | (t1566 | t1567)
  · have H := sum_l H
    refine (ground_New.calls _ a8 a9 a10 a11 (.inl t1565) _ ⟨HGl0.out.pass (l := []) HS.out⟩ ⟨Sep.start _⟩ HA1564).mono ?_
    rintro e_ w1568 ⟨rfl, hS⟩
    replace HS : Aside0 (Sep (fps []) w [b1 g1556 a8 a9 a10 a11] w1568) := ⟨HS.out.call hS⟩
    clear hS
    replace HS : Aside0 (Sep (fps []) w [] w1568) := ⟨HS.out.sub (.cons _ .slnil)⟩
    go_wp2_with fail
    go_ret2
    rw [← some_eq H]
    exact ⟨(by first | rfl | (simp [IntKind.wrap_u32]; done)), HS.out⟩
  · have H := sum_r H
    have H := sum_l H
    refine (ground_New.calls _ a8 a9 a10 a11 (.inr (.inl t1566)) _ ⟨HGl0.out.pass (l := []) HS.out⟩ ⟨Sep.start _⟩ HA1564).mono ?_
    rintro e_ w1569 ⟨g1573, rfl, g1574, A1575, m1576, n1577, hS⟩
    replace HS : Aside0 (Sep (fps []) w [b7 g1573 g1574 t1566.1 t1566.2.1 t1566.2.2.1 t1566.2.2.2.1, b6 g1574 A1575 m1576 n1577 0, r5 A1575 m1576 n1577 t1566.2.2.2.2, b1 g1556 a8 a9 a10 a11] w1569) := ⟨HS.out.call hS⟩
    clear hS
    obtain rfl := (row_len (HS.out.at2)).symm
    replace HS : Aside0 (Sep (fps []) w [b7 g1573 g1574 t1566.1 t1566.2.1 t1566.2.2.1 t1566.2.2.2.1, b6 g1574 A1575 ((t1566.2.2.2.2).length) n1577 0, r5 A1575 ((t1566.2.2.2.2).length) n1577 t1566.2.2.2.2] w1569) := ⟨HS.out.sub (.cons_cons _ (.cons_cons _ (.cons_cons _ (.cons _ .slnil))))⟩
    go_wp2_with fail
    obtain ⟨t1579, HA1580, H⟩ := bind_some H
    refine (pool_Open.calls _ t1566.2.2.2.2 0 t1566.1 t1566.2.1 t1566.2.2.1 t1566.2.2.2.1 g1573 g1574 A1575 ((t1566.2.2.2.2).length) n1577 t1579 _ ⟨HGl0.out.pass HS.out⟩ ⟨HS.out.begin⟩ HA1580).mono ?_
    rintro e_ w1581 ⟨rfl, hS⟩
    replace HS : Aside0 (Sep (fps []) w [b7 g1573 g1574 t1566.1 t1566.2.1 t1566.2.2.1 t1566.2.2.2.1, b6 g1574 A1575 ((t1566.2.2.2.2).length) n1577 t1579.2.1, r5 A1575 ((t1566.2.2.2.2).length) n1577 t1579.2.2] w1581) := ⟨HS.out.call hS⟩
    clear hS
    go_wp2_with fail
    go_ret2
    rw [← some_eq H]
    exact ⟨g1573, (by first | rfl | (simp [IntKind.wrap_u32]; done)), g1574, A1575, ((t1566.2.2.2.2).length), n1577, HS.out⟩
  · have H := sum_r H
    have H := sum_r H
    refine (ground_New.calls _ a8 a9 a10 a11 (.inr (.inr t1567)) _ ⟨HGl0.out.pass (l := []) HS.out⟩ ⟨Sep.start _⟩ HA1564).mono ?_
    rintro e_ w1591 ⟨rfl, hS⟩
    replace HS : Aside0 (Sep (fps []) w [b1 g1556 a8 a9 a10 a11] w1591) := ⟨HS.out.call hS⟩
    clear hS
    by_cases c1592 : t1567 = 0
    · replace H := if_yes c1592 H
      have c1592b0 : (t1567 == 0) = true := beq_iff_eq.mpr c1592
      have c1592b1 : (t1567 != 0) = false := bne_eq_false_iff_eq.mpr c1592
      clear c1592
      exact (none_no H).elim
    · replace H := if_no c1592 H
      have c1592b0 : (t1567 == 0) = false := beq_eq_false_iff_ne.mpr c1592
      have c1592b1 : (t1567 != 0) = true := bne_iff_ne.mpr c1592
      clear c1592
      replace HS : Aside0 (Sep (fps []) w [] w1591) := ⟨HS.out.sub (.cons _ .slnil)⟩
      go_wp2_with fail
      go_ret2
      rw [← some_eq H]
      exact ⟨(by first | rfl | (simp [IntKind.wrap_u32]; done)), HS.out⟩

set_option maxHeartbeats 30000000 in
set_option maxRecDepth 100000 in
theorem shape_isWidth.calls (a1651 : Int) (r : Bool) (w : World)  (HGl0 : Aside0 (Gl 0 #[.int .i64 0, .int .i64 0, .int .i64 0, .int .i64 0, .int .i64 0] (fps []) w)) (HS : Aside0 (Sep (fps []) w [] w)) (H : Aside0 (shape_isWidth.f a1651 = some r)) :
    Calls Tryd.prog 144 #[.int .i64 a1651] w fun e w' => e = .returned (.bool r) ∧ Sep (fps []) w [] w' := by
  unfold shape_isWidth.f at H
  go_enter Tryd.func144, Tryd.ntmps144
  by_cases c1652 : a1651 ≥ 16
  · replace H := if_yes c1652 H
    have c1652b0 : decide (16 ≤ a1651) = true := decide_eq_true c1652
    clear c1652
    go_wp2_with fail
    go_ret
    rw [← some_eq H]
    exact ⟨(by first | rfl | (simp [IntKind.wrap_u32]; done)), HS.out⟩
  · replace H := if_no c1652 H
    have c1652b0 : decide (16 ≤ a1651) = false := decide_eq_false c1652
    clear c1652
    go_wp2_with fail
    go_ret
    rw [← some_eq H]
    exact ⟨(by first | rfl | (simp [IntKind.wrap_u32]; done)), HS.out⟩

set_option maxHeartbeats 30000000 in
set_option maxRecDepth 100000 in
theorem shape_inHead.calls (a1658 : Int) (r : Int) (w : World)  (HGl0 : Aside0 (Gl 0 #[.int .i64 0, .int .i64 0, .int .i64 0, .int .i64 0, .int .i64 0] (fps []) w)) (HS : Aside0 (Sep (fps []) w [] w)) (H : Aside0 (shape_inHead.f a1658 = some r)) :
    Calls Tryd.prog 146 #[.int .i64 a1658] w fun e w' => e = .returned (.int .i64 r) ∧ Sep (fps []) w [] w' := by
  unfold shape_inHead.f at H
  go_enter Tryd.func146, Tryd.ntmps146
  go_wp2_with fail
  go_ret
  rw [← some_eq H]
  exact ⟨(by first | rfl | (simp [IntKind.wrap_u32]; done)), HS.out⟩

set_option maxHeartbeats 30000000 in
set_option maxRecDepth 100000 in
theorem shape_inLeaf.calls (a1662 : Int) (r : Int) (w : World)  (HGl0 : Aside0 (Gl 0 #[.int .i64 0, .int .i64 0, .int .i64 0, .int .i64 0, .int .i64 0] (fps []) w)) (HS : Aside0 (Sep (fps []) w [] w)) (H : Aside0 (shape_inLeaf.f a1662 = some r)) :
    Calls Tryd.prog 120 #[.int .i64 a1662] w fun e w' => e = .returned (.int .i64 r) ∧ Sep (fps []) w [] w' := by
  unfold shape_inLeaf.f at H
  go_enter Tryd.func120, Tryd.ntmps120
  go_wp2_with fail
  go_ret
  rw [← some_eq H]
  exact ⟨(by first | rfl | (simp [IntKind.wrap_u32]; done)), HS.out⟩

set_option maxHeartbeats 30000000 in
set_option maxRecDepth 100000 in
theorem shape_most.calls (a1657 : Int) (r : Int) (w : World)  (HGl0 : Aside0 (Gl 0 #[.int .i64 0, .int .i64 0, .int .i64 0, .int .i64 0, .int .i64 0] (fps []) w)) (HS : Aside0 (Sep (fps []) w [] w)) (H : Aside0 (shape_most.f a1657 = some r)) :
    Calls Tryd.prog 145 #[.int .i64 a1657] w fun e w' => e = .returned (.int .i64 r) ∧ Sep (fps []) w [] w' := by
  unfold shape_most.f at H
  go_enter Tryd.func145, Tryd.ntmps145
  go_wp2_with fail
  obtain ⟨t1659, HA1660, H⟩ := bind_some H
  refine (shape_inHead.calls a1657 t1659 _ ⟨HGl0.out.pass (l := []) HS.out⟩ ⟨Sep.start _⟩ HA1660).mono ?_
  rintro e_ w1661 ⟨rfl, hS⟩
  replace HS : Aside0 (Sep (fps []) w [] w1661) := ⟨HS.out.call hS⟩
  clear hS
  go_wp2_with fail
  obtain ⟨t1663, HA1664, H⟩ := bind_some H
  refine (shape_inLeaf.calls a1657 t1663 _ ⟨HGl0.out.pass (l := []) HS.out⟩ ⟨Sep.start _⟩ HA1664).mono ?_
  rintro e_ w1665 ⟨rfl, hS⟩
  replace HS : Aside0 (Sep (fps []) w [] w1665) := ⟨HS.out.call hS⟩
  clear hS
  go_wp2_with fail
  go_ret
  rw [← some_eq H]
  exact ⟨(by first | rfl | (simp [IntKind.wrap_u32]; done)), HS.out⟩

set_option maxHeartbeats 30000000 in
set_option maxRecDepth 100000 in
theorem shape_wrong.calls (k : Nat) (a1646 : Int) (l1647 : List Int) (A1648 : Option Addr) (n1649 : Nat) (r : Int) (w : World) (HR1650 : Aside0 (Rd (Kd.int .i64) (fps []) w A1648 l1647.length l1647)) (HGl0 : Aside0 (Gl 0 #[.int .i64 0, .int .i64 0, .int .i64 0, .int .i64 0, .int .i64 0] (fps []) w)) (HS : Aside0 (Sep (fps []) w [] w)) (H : Aside0 (shape_wrong.f k a1646 l1647 = some r)) :
    Calls Tryd.prog 118 #[.int .i64 a1646, .slice A1648 l1647.length n1649] w fun e w' => e = .returned (.int .i64 r) ∧ Sep (fps []) w [] w' := by
  unfold shape_wrong.f at H
  go_enter Tryd.func118, Tryd.ntmps118
  go_wp2_with fail
  obtain ⟨t1653, HA1654, H⟩ := bind_some H
  refine (shape_isWidth.calls a1646 t1653 _ ⟨HGl0.out.pass (l := []) HS.out⟩ ⟨Sep.start _⟩ HA1654).mono ?_
  rintro e_ w1655 ⟨rfl, hS⟩
  replace HS : Aside0 (Sep (fps []) w [] w1655) := ⟨HS.out.call hS⟩
  clear hS
  by_cases c1656 : t1653 = true
  · replace H := if_yes c1656 H
    have c1656b0 : t1653 = true := c1656
    have c1656b1 : (!t1653) = false := by rw [c1656b0]; rfl
    try rw [c1656b1]
    clear c1656
    go_wp2_with fail
    obtain ⟨t1666, HA1667, H⟩ := bind_some H
    refine (shape_most.calls a1646 t1666 _ ⟨HGl0.out.pass (l := []) HS.out⟩ ⟨Sep.start _⟩ HA1667).mono ?_
    rintro e_ w1668 ⟨rfl, hS⟩
    replace HS : Aside0 (Sep (fps []) w [] w1668) := ⟨HS.out.call hS⟩
    clear hS
    go_wp2_with fail
    obtain ⟨o1681, AL1682, H⟩ := bind_some H
    go_loopg [5, 15] k (fun kq v5 v15 wc => ∃ (x1685 : Int) (x1686 : Int), v5 = .int .i64 x1685 ∧ v15 = .int .i64 x1686 ∧ Aside0 (shape_wrong.lo0 kq l1647 x1685 x1686 = some o1681) ∧ Aside0 (Sep (fps []) w [] wc))
    case atStart => exact ⟨(t1666), (0), (by first | rfl | (simp [IntKind.wrap_u32]; done)), (by first | rfl | (simp [IntKind.wrap_u32]; done)), AL1682, ⟨HS.out⟩⟩
    case round =>
      clear AL1682 HS
      obtain ⟨x1685, x1686, rfl, rfl, AL1682, HS⟩ := hrel
      obtain ⟨w1683, rfl⟩ : ∃ x : World, x = wr := ⟨_, rfl⟩
      cases gk with
      | zero => exact absurd AL1682.out (by simp [shape_wrong.lo0])
      | succ k1684 =>
        have AL0 := AL1682.out
        rw [shape_wrong.lo0] at AL0
        clear AL1682
        have AL1682 := Aside0.mk AL0
        clear AL0
        by_cases c1687 : x1686 < (l1647.length : Int)
        · replace AL1682 := if_yes c1687 AL1682
          have c1687b0 : decide (x1686 < (l1647.length : Int)) = true := decide_eq_true c1687
          clear c1687
          by_cases c1688 : 0 ≤ x1686
          · replace AL1682 := if_yes c1688 AL1682
            have c1688b0 : decide (0 ≤ x1686) = true := decide_eq_true c1688
            have c1688p : (0 ≤ x1686) = True := eq_true c1688
            clear c1688
            have ip1689 : (x1686 < (l1647.length : Int)) = True := eq_true (of_decide_eq_true c1687b0)
            by_cases c1691 : (rd l1647 x1686) < 0
            · replace AL1682 := if_yes c1691 AL1682
              have c1691b0 : decide ((rd l1647 x1686) < 0) = true := decide_eq_true c1691
              clear c1691
              obtain ⟨hx1690a, hx1690e, hx1690⟩ := Kd.at_int (Rd.read (fun _ _ _ _ h => h) HR1650.out HS.out.fr) x1686 (of_decide_eq_true c1688b0) (of_decide_eq_true c1687b0); cases hx1690e
              go_wp2_with fail
              clear hx1690
              have ho := some_eq AL1682
              subst ho
              have H := lp_ret H
              go_ret
              rw [← some_eq H]
              exact ⟨(by first | rfl | (simp [IntKind.wrap_u32]; done)), HS.out⟩
            · replace AL1682 := if_no c1691 AL1682
              have c1691b0 : decide ((rd l1647 x1686) < 0) = false := decide_eq_false c1691
              clear c1691
              by_cases c1692 : (rd l1647 x1686) > x1685
              · replace AL1682 := if_yes c1692 AL1682
                have c1692b0 : decide (x1685 < (rd l1647 x1686)) = true := decide_eq_true c1692
                clear c1692
                obtain ⟨hx1690a, hx1690e, hx1690⟩ := Kd.at_int (Rd.read (fun _ _ _ _ h => h) HR1650.out HS.out.fr) x1686 (of_decide_eq_true c1688b0) (of_decide_eq_true c1687b0); cases hx1690e
                go_wp2_with fail
                clear hx1690
                have ho := some_eq AL1682
                subst ho
                have H := lp_ret H
                go_ret
                rw [← some_eq H]
                exact ⟨(by first | rfl | (simp [IntKind.wrap_u32]; done)), HS.out⟩
              · replace AL1682 := if_no c1692 AL1682
                have c1692b0 : decide (x1685 < (rd l1647 x1686)) = false := decide_eq_false c1692
                clear c1692
                obtain ⟨hx1690a, hx1690e, hx1690⟩ := Kd.at_int (Rd.read (fun _ _ _ _ h => h) HR1650.out HS.out.fr) x1686 (of_decide_eq_true c1688b0) (of_decide_eq_true c1687b0); cases hx1690e
                go_wp2_with fail
                clear hx1690
                go_roundg k1684
                case measure => exact Nat.lt_succ_self _
                case rel => exact ⟨(wrap64 (x1685 - (rd l1647 x1686))), (wrap64 (x1686 + 1)), (by first | rfl | (simp [IntKind.wrap_u32]; done)), (by first | rfl | (simp [IntKind.wrap_u32]; done)), Aside0.mk AL1682.out, ⟨HS.out⟩⟩
          · replace AL1682 := if_no c1688 AL1682
            have c1688b0 : decide (0 ≤ x1686) = false := decide_eq_false c1688
            clear c1688
            exact (none_no AL1682).elim
        · replace AL1682 := if_no c1687 AL1682
          have c1687b0 : decide (x1686 < (l1647.length : Int)) = false := decide_eq_false c1687
          clear c1687
          have ho := some_eq AL1682
          subst ho
          clear AL1682
          have H := lp_out H
          go_wp2_with fail
          go_ret
          rw [← some_eq H]
          exact ⟨(by first | rfl | (simp [IntKind.wrap_u32]; done)), HS.out⟩
  · replace H := if_no c1656 H
    have c1656b0 : t1653 = false := by simpa using c1656
    have c1656b1 : (!t1653) = true := by rw [c1656b0]; rfl
    try rw [c1656b1]
    clear c1656
    go_wp2_with fail
    go_ret
    rw [← some_eq H]
    exact ⟨(by first | rfl | (simp [IntKind.wrap_u32]; done)), HS.out⟩

set_option maxHeartbeats 30000000 in
set_option maxRecDepth 100000 in
theorem shape_leaves.calls (a1698 : Int) (a1699 : Int) (r : Int) (w : World)  (HGl0 : Aside0 (Gl 0 #[.int .i64 0, .int .i64 0, .int .i64 0, .int .i64 0, .int .i64 0] (fps []) w)) (HS : Aside0 (Sep (fps []) w [] w)) (H : Aside0 (shape_leaves.f a1698 a1699 = some r)) :
    Calls Tryd.prog 119 #[.int .i64 a1698, .int .i64 a1699] w fun e w' => e = .returned (.int .i64 r) ∧ Sep (fps []) w [] w' := by
  unfold shape_leaves.f at H
  go_enter Tryd.func119, Tryd.ntmps119
  go_wp2_with fail
  obtain ⟨t1700, HA1701, H⟩ := bind_some H
  refine (shape_inHead.calls a1698 t1700 _ ⟨HGl0.out.pass (l := []) HS.out⟩ ⟨Sep.start _⟩ HA1701).mono ?_
  rintro e_ w1702 ⟨rfl, hS⟩
  replace HS : Aside0 (Sep (fps []) w [] w1702) := ⟨HS.out.call hS⟩
  clear hS
  by_cases c1703 : a1699 ≤ t1700
  · replace H := if_yes c1703 H
    have c1703b0 : decide (a1699 ≤ t1700) = true := decide_eq_true c1703
    clear c1703
    go_wp2_with fail
    go_ret
    rw [← some_eq H]
    exact ⟨(by first | rfl | (simp [IntKind.wrap_u32]; done)), HS.out⟩
  · replace H := if_no c1703 H
    have c1703b0 : decide (a1699 ≤ t1700) = false := decide_eq_false c1703
    clear c1703
    go_wp2_with fail
    obtain ⟨t1704, HA1705, H⟩ := bind_some H
    refine (shape_inLeaf.calls a1698 t1704 _ ⟨HGl0.out.pass (l := []) HS.out⟩ ⟨Sep.start _⟩ HA1705).mono ?_
    rintro e_ w1706 ⟨rfl, hS⟩
    replace HS : Aside0 (Sep (fps []) w [] w1706) := ⟨HS.out.call hS⟩
    clear hS
    go_wp2_with fail
    obtain ⟨t1707, HA1708, H⟩ := bind_some H
    refine (ratio_Up.calls a1699 t1704 t1707 _ ⟨HGl0.out.pass (l := []) HS.out⟩ ⟨Sep.start _⟩ HA1708).mono ?_
    rintro e_ w1709 ⟨rfl, hS⟩
    replace HS : Aside0 (Sep (fps []) w [] w1709) := ⟨HS.out.call hS⟩
    clear hS
    go_wp2_with fail
    go_ret
    rw [← some_eq H]
    exact ⟨(by first | rfl | (simp [IntKind.wrap_u32]; done)), HS.out⟩

set_option maxHeartbeats 30000000 in
set_option maxRecDepth 100000 in
theorem shape_Blocks.calls (k : Nat) (a1640 : Int) (a1641 : Int) (a1642 : Int) (r : Int × Int) (w : World)  (HGl0 : Aside0 (Gl 0 #[.int .i64 0, .int .i64 0, .int .i64 0, .int .i64 0, .int .i64 0] (fps []) w)) (HS : Aside0 (Sep (fps []) w [] w)) (H : Aside0 (shape_Blocks.f k a1640 a1641 a1642 = some r)) :
    Calls Tryd.prog 97 #[.int .i64 a1640, .int .i64 a1641, .int .i64 a1642] w fun e w' => e = .returned (.tuple #[.int .i64 r.1, .int .i64 r.2]) ∧ Sep (fps []) w [] w' := by
  unfold shape_Blocks.f at H
  go_enter Tryd.func97, Tryd.ntmps97
  go_wp2_with (first | ((with_reducible refine gate_dst (N := 12) rfl ?_); refine slice_on (n := 2) ?hg (N := 12) ?hd (cs := #[.int .i64 a1641, .int .i64 a1642]) (t := 3) ?hr ?_; (case hd => rfl); (case hg => rfl); (case hr => first | (go_simp; done) | (go_simp; rfl)); intro g1643 hg w1644 hbox hb; replace HS : Aside0 (Sep (fps []) w [b3 g1643 a1641 a1642] w1644) := ⟨HS.out.box hg hbox hb⟩; clear hg hbox hb))
  obtain ⟨t1694, HA1695, H⟩ := bind_some H
  refine (shape_wrong.calls _ a1640 [a1641, a1642] (some ⟨g1643, 0, none⟩) 2 t1694 _ ⟨Rd.lit (l := []) (xs := [a1641, a1642]) HS.out 0 rfl (by simp)⟩ ⟨HGl0.out.pass (l := []) HS.out⟩ ⟨Sep.start _⟩ HA1695).mono ?_
  rintro e_ w1696 ⟨rfl, hS⟩
  replace HS : Aside0 (Sep (fps []) w [b3 g1643 a1641 a1642] w1696) := ⟨HS.out.call hS⟩
  clear hS
  by_cases c1697 : t1694 = 0
  · replace H := if_yes c1697 H
    have c1697b0 : (t1694 == 0) = true := beq_iff_eq.mpr c1697
    have c1697b1 : (t1694 != 0) = false := bne_eq_false_iff_eq.mpr c1697
    clear c1697
    replace HS : Aside0 (Sep (fps []) w [] w1696) := ⟨HS.out.sub (.cons _ .slnil)⟩
    go_wp2_with fail
    obtain ⟨t1710, HA1711, H⟩ := bind_some H
    refine (shape_leaves.calls a1640 (wrap64 (a1641 + a1642)) t1710 _ ⟨HGl0.out.pass (l := []) HS.out⟩ ⟨Sep.start _⟩ HA1711).mono ?_
    rintro e_ w1712 ⟨rfl, hS⟩
    replace HS : Aside0 (Sep (fps []) w [] w1712) := ⟨HS.out.call hS⟩
    clear hS
    go_wp2_with fail
    go_ret2
    rw [← some_eq H]
    exact ⟨(by first | rfl | (simp [IntKind.wrap_u32]; done)), HS.out⟩
  · replace H := if_no c1697 H
    have c1697b0 : (t1694 == 0) = false := beq_eq_false_iff_ne.mpr c1697
    have c1697b1 : (t1694 != 0) = true := bne_iff_ne.mpr c1697
    clear c1697
    replace HS : Aside0 (Sep (fps []) w [] w1696) := ⟨HS.out.sub (.cons _ .slnil)⟩
    go_wp2_with fail
    go_ret2
    rw [← some_eq H]
    exact ⟨(by first | rfl | (simp [IntKind.wrap_u32]; done)), HS.out⟩

set_option maxHeartbeats 30000000 in
set_option maxRecDepth 100000 in
theorem pool_Len.calls (l1722 : List Int) (a1727 : Int) (a1728 : Int) (a1729 : Int) (a1730 : Int) (a1731 : Int) (g1718 : Nat) (g1720 : Nat) (A1723 : Option Addr) (m1724 : Nat) (n1725 : Nat) (r : Int × Int) (w : World)  (HGl0 : Aside0 (Gl 0 #[.int .i64 0, .int .i64 0, .int .i64 0, .int .i64 0, .int .i64 0] (fps [b7 g1718 g1720 a1728 a1729 a1730 a1731, b6 g1720 A1723 m1724 n1725 a1727, r5 A1723 m1724 n1725 l1722]) w)) (HS : Aside0 (Sep (fps [b7 g1718 g1720 a1728 a1729 a1730 a1731, b6 g1720 A1723 m1724 n1725 a1727, r5 A1723 m1724 n1725 l1722]) w [b7 g1718 g1720 a1728 a1729 a1730 a1731, b6 g1720 A1723 m1724 n1725 a1727, r5 A1723 m1724 n1725 l1722] w)) (H : Aside0 (pool_Len.f l1722 a1727 a1728 a1729 a1730 a1731 = some r)) :
    Calls Tryd.prog 44 #[.pointer (some ⟨g1718, 0, none⟩)] w fun e w' => e = .returned (.int .i64 r.1) ∧ Sep (fps [b7 g1718 g1720 a1728 a1729 a1730 a1731, b6 g1720 A1723 m1724 n1725 a1727, r5 A1723 m1724 n1725 l1722]) w [b7 g1718 g1720 a1728 a1729 a1730 a1731, b6 g1720 A1723 m1724 n1725 r.2, r5 A1723 m1724 n1725 l1722] w' := by
  generalize (fps [b7 g1718 g1720 a1728 a1729 a1730 a1731, b6 g1720 A1723 m1724 n1725 a1727, r5 A1723 m1724 n1725 l1722]) = FF at HS HGl0 ⊢
  obtain rfl := (row_len (HS.out.at2)).symm
  unfold pool_Len.f at H
  go_enter Tryd.func44, Tryd.ntmps44
  go_wp2_with fail
  obtain ⟨t1735, HA1736, H⟩ := bind_some H
  refine (chain_Len.calls l1722 a1727 a1728 a1729 a1730 a1731 0 g1718 g1720 A1723 l1722.length n1725 t1735 _ ⟨HGl0.out.pass HS.out⟩ ⟨HS.out.begin⟩ HA1736).mono ?_
  rintro e_ w1737 ⟨rfl, hS⟩
  replace HS : Aside0 (Sep FF w [b7 g1718 g1720 a1728 a1729 a1730 a1731, b6 g1720 A1723 l1722.length n1725 t1735.2, r5 A1723 l1722.length n1725 l1722] w1737) := ⟨HS.out.call hS⟩
  clear hS
  go_wp2_with fail
  go_ret
  rw [← some_eq H]
  exact ⟨(by first | rfl | (simp [IntKind.wrap_u32]; done)), HS.out⟩

set_option maxHeartbeats 30000000 in
set_option maxRecDepth 100000 in
theorem ground_Ground_Word.calls (l1828 : List Int) (a1833 : Int) (a1834 : Int) (a1835 : Int) (a1836 : Int) (a1837 : Int) (a1838 : Int) (a1839 : Int) (g1824 : Nat) (g1826 : Nat) (A1829 : Option Addr) (m1830 : Nat) (n1831 : Nat) (r : Int × Int) (w : World)  (HGl0 : Aside0 (Gl 0 #[.int .i64 0, .int .i64 0, .int .i64 0, .int .i64 0, .int .i64 0] (fps [b7 g1824 g1826 a1834 a1835 a1836 a1837, b6 g1826 A1829 m1830 n1831 a1833, r5 A1829 m1830 n1831 l1828]) w)) (HS : Aside0 (Sep (fps [b7 g1824 g1826 a1834 a1835 a1836 a1837, b6 g1826 A1829 m1830 n1831 a1833, r5 A1829 m1830 n1831 l1828]) w [b7 g1824 g1826 a1834 a1835 a1836 a1837, b6 g1826 A1829 m1830 n1831 a1833, r5 A1829 m1830 n1831 l1828] w)) (H : Aside0 (ground_Ground_Word.f l1828 a1833 a1834 a1835 a1836 a1837 a1838 a1839 = some r)) :
    Calls Tryd.prog 84 #[.pointer (some ⟨g1824, 0, none⟩), .int .i64 a1838, .int .i64 a1839] w fun e w' => e = .returned (.int .u32 r.1) ∧ Sep (fps [b7 g1824 g1826 a1834 a1835 a1836 a1837, b6 g1826 A1829 m1830 n1831 a1833, r5 A1829 m1830 n1831 l1828]) w [b7 g1824 g1826 a1834 a1835 a1836 a1837, b6 g1826 A1829 m1830 n1831 r.2, r5 A1829 m1830 n1831 l1828] w' := by
  generalize (fps [b7 g1824 g1826 a1834 a1835 a1836 a1837, b6 g1826 A1829 m1830 n1831 a1833, r5 A1829 m1830 n1831 l1828]) = FF at HS HGl0 ⊢
  obtain rfl := (row_len (HS.out.at2)).symm
  unfold ground_Ground_Word.f at H
  go_enter Tryd.func84, Tryd.ntmps84
  go_wp2_with fail
  obtain ⟨t1849, HA1850, H⟩ := bind_some H
  refine (ground_Ground_all.calls l1828 a1833 a1834 a1835 a1836 a1837 g1824 g1826 A1829 l1828.length n1831 t1849 _ ⟨HGl0.out.pass HS.out⟩ ⟨HS.out.begin⟩ HA1850).mono ?_
  rintro e_ w1851 ⟨rfl, hS⟩
  replace HS : Aside0 (Sep FF w [b7 g1824 g1826 a1834 a1835 a1836 a1837, b6 g1826 A1829 l1828.length n1831 a1833, r5 A1829 l1828.length n1831 l1828] w1851) := ⟨HS.out.call hS⟩
  clear hS
  go_wp2_with fail
  obtain ⟨t1852, HA1853, H⟩ := bind_some H
  refine (ground_Ground_word.calls l1828 a1833 a1834 a1835 a1836 a1837 a1838 a1839 g1824 g1826 A1829 l1828.length n1831 t1852 _ ⟨HGl0.out.pass HS.out⟩ ⟨HS.out.begin⟩ HA1853).mono ?_
  rintro e_ w1854 ⟨rfl, hS⟩
  replace HS : Aside0 (Sep FF w [b7 g1824 g1826 a1834 a1835 a1836 a1837, b6 g1826 A1829 l1828.length n1831 a1833, r5 A1829 l1828.length n1831 l1828] w1854) := ⟨HS.out.call hS⟩
  clear hS
  go_wp2_with fail
  replace HS : Aside0 (Sep FF w [r5 A1829 l1828.length n1831 l1828, b7 g1824 g1826 a1834 a1835 a1836 a1837, b6 g1826 A1829 l1828.length n1831 a1833] w1854) := ⟨HS.out.front 2 (by simp)⟩
  replace HS : Aside0 (Sep FF w [b6 g1826 A1829 l1828.length n1831 a1833, r5 A1829 l1828.length n1831 l1828, b7 g1824 g1826 a1834 a1835 a1836 a1837] w1854) := ⟨HS.out.front 2 (by simp)⟩
  obtain ⟨t1855, HA1856, H⟩ := bind_some H
  refine (store_Store_Get.calls l1828 a1833 t1852 g1826 A1829 l1828.length n1831 t1855 _ ⟨HGl0.out.pass HS.out⟩ ⟨HS.out.begin⟩ HA1856).mono ?_
  rintro e_ w1857 ⟨rfl, hS⟩
  replace HS : Aside0 (Sep FF w [b6 g1826 A1829 l1828.length n1831 t1855.2, r5 A1829 l1828.length n1831 l1828, b7 g1824 g1826 a1834 a1835 a1836 a1837] w1857) := ⟨HS.out.call hS⟩
  clear hS
  go_wp2_with fail
  go_ret
  rw [← some_eq H]
  exact ⟨(by first | rfl | (simp [IntKind.wrap_u32]; done)), ((((HS.out).front 1 (by simp)).front 1 (by simp)).front 2 (by simp)).keep (l := [b7 g1824 g1826 a1834 a1835 a1836 a1837, b6 g1826 A1829 l1828.length n1831 t1855.2, r5 A1829 l1828.length n1831 l1828]) (rest := [])⟩

set_option maxHeartbeats 30000000 in
set_option maxRecDepth 100000 in
theorem chain_Take.calls (l1774 : List Int) (a1779 : Int) (a1780 : Int) (a1781 : Int) (a1782 : Int) (a1783 : Int) (a1784 : Int) (g1770 : Nat) (g1772 : Nat) (A1775 : Option Addr) (m1776 : Nat) (n1777 : Nat) (r : Int × Bool × Int × List Int) (w : World)  (HGl0 : Aside0 (Gl 0 #[.int .i64 0, .int .i64 0, .int .i64 0, .int .i64 0, .int .i64 0] (fps [b7 g1770 g1772 a1780 a1781 a1782 a1783, b6 g1772 A1775 m1776 n1777 a1779, r5 A1775 m1776 n1777 l1774]) w)) (HS : Aside0 (Sep (fps [b7 g1770 g1772 a1780 a1781 a1782 a1783, b6 g1772 A1775 m1776 n1777 a1779, r5 A1775 m1776 n1777 l1774]) w [b7 g1770 g1772 a1780 a1781 a1782 a1783, b6 g1772 A1775 m1776 n1777 a1779, r5 A1775 m1776 n1777 l1774] w)) (H : Aside0 (chain_Take.f l1774 a1779 a1780 a1781 a1782 a1783 a1784 = some r)) :
    Calls Tryd.prog 135 #[.pointer (some ⟨g1770, 0, none⟩), .int .i64 a1784] w fun e w' => e = .returned (.tuple #[.int .i64 r.1, .bool r.2.1]) ∧ Sep (fps [b7 g1770 g1772 a1780 a1781 a1782 a1783, b6 g1772 A1775 m1776 n1777 a1779, r5 A1775 m1776 n1777 l1774]) w [b7 g1770 g1772 a1780 a1781 a1782 a1783, b6 g1772 A1775 m1776 n1777 r.2.2.1, r5 A1775 m1776 n1777 r.2.2.2] w' := by
  generalize (fps [b7 g1770 g1772 a1780 a1781 a1782 a1783, b6 g1772 A1775 m1776 n1777 a1779, r5 A1775 m1776 n1777 l1774]) = FF at HS HGl0 ⊢
  obtain rfl := (row_len (HS.out.at2)).symm
  unfold chain_Take.f at H
  go_enter Tryd.func135, Tryd.ntmps135
  go_wp2_with fail
  obtain ⟨t1881, HA1882, H⟩ := bind_some H
  refine (chain_of.calls l1774 a1779 a1780 a1781 a1782 a1783 a1784 g1770 g1772 A1775 l1774.length n1777 t1881 _ ⟨HGl0.out.pass HS.out⟩ ⟨HS.out.begin⟩ HA1882).mono ?_
  rintro e_ w1883 ⟨rfl, hS⟩
  replace HS : Aside0 (Sep FF w [b7 g1770 g1772 a1780 a1781 a1782 a1783, b6 g1772 A1775 l1774.length n1777 a1779, r5 A1775 l1774.length n1777 l1774] w1883) := ⟨HS.out.call hS⟩
  clear hS
  by_cases c1894 : t1881.2.2.2 = true
  · replace H := if_yes c1894 H
    have c1894b0 : t1881.2.2.2 = true := c1894
    have c1894b1 : (!t1881.2.2.2) = false := by rw [c1894b0]; rfl
    try rw [c1894b1]
    clear c1894
    go_wp2_with (first | ((with_reducible refine gate_dst (N := 6) rfl ?_); refine box_on ?hg (N := 6) ?hd (cs := #[.int .i64 0, .int .i64 0, .int .i64 0]) (t := 166) ?hr ?_; (case hd => rfl); (case hg => rfl); (case hr => first | (go_simp; done) | (go_simp; rfl)); intro g1884 hg w1885 hbox hb; replace HS : Aside0 (Sep FF w [b7 g1770 g1772 a1780 a1781 a1782 a1783, b6 g1772 A1775 l1774.length n1777 a1779, r5 A1775 l1774.length n1777 l1774, b8 g1884 0 0 0] w1885) := ⟨HS.out.box hg hbox hb⟩; clear hg hbox hb; have hc1887 : w1885.cell? ⟨g1884, 0, none⟩ = some (.int .i64 0) := blk_cellv (HS.out.at3) 0 rfl; have hz1888 : w1885.frozen? ⟨g1884, 0, none⟩ = false := blk_fz (HS.out.at3) 0; have hc1889 : w1885.cell? ⟨g1884, 1, none⟩ = some (.int .i64 0) := blk_cellv (HS.out.at3) 1 rfl; have hz1890 : w1885.frozen? ⟨g1884, 1, none⟩ = false := blk_fz (HS.out.at3) 1; have hc1891 : w1885.cell? ⟨g1884, 2, none⟩ = some (.int .i64 0) := blk_cellv (HS.out.at3) 2 rfl; have hz1892 : w1885.frozen? ⟨g1884, 2, none⟩ = false := blk_fz (HS.out.at3) 2) | ((with_reducible refine gate_store (t := 166) (p := 6) rfl ?_); refine store_event (w1 := (World.setCell (World.setCell (World.setCell w1885 ⟨g1884, 0, none⟩ (.int .i64 t1881.1)) ⟨g1884, 1, none⟩ (.int .i64 t1881.2.1)) ⟨g1884, 2, none⟩ (.int .i64 t1881.2.2.1))) rfl (t := 166) (p := 6) rfl rfl ?hr ?_; (case hr => first | (go_simp; done) | (go_simp; rfl)); intro w1893 hst; clear hc1887 hz1888 hc1889 hz1890 hc1891 hz1892; replace HS : Aside0 (Sep FF w [b7 g1770 g1772 a1780 a1781 a1782 a1783, b6 g1772 A1775 l1774.length n1777 a1779, r5 A1775 l1774.length n1777 l1774, b8 g1884 t1881.1 t1881.2.1 t1881.2.2.1] w1893) := ⟨by rw [hst]; exact HS.out.setAll (l1 := [b7 g1770 g1772 a1780 a1781 a1782 a1783, b6 g1772 A1775 l1774.length n1777 a1779, r5 A1775 l1774.length n1777 l1774]) (l2 := []) [.int .i64 t1881.1, .int .i64 t1881.2.1, .int .i64 t1881.2.2.1] rfl⟩; clear hst; have hc1895 : w1893.cell? ⟨g1884, 0, none⟩ = some (.int .i64 t1881.1) := blk_cellv (HS.out.at3) 0 rfl))
    clear hc1895
    obtain ⟨t1896, HA1897, H⟩ := bind_some H
    refine (ground_Ground_Reg.calls l1774 a1779 a1780 a1781 a1782 a1783 t1881.1 g1770 g1772 A1775 l1774.length n1777 t1896 _ ⟨HGl0.out.pass HS.out⟩ ⟨HS.out.begin⟩ HA1897).mono ?_
    rintro e_ w1898 ⟨rfl, hS⟩
    replace HS : Aside0 (Sep FF w [b7 g1770 g1772 a1780 a1781 a1782 a1783, b6 g1772 A1775 l1774.length n1777 t1896.2, r5 A1775 l1774.length n1777 l1774, b8 g1884 t1881.1 t1881.2.1 t1881.2.2.1] w1898) := ⟨HS.out.call hS⟩
    clear hS
    by_cases c1899 : t1896.1 = 0
    · replace H := if_yes c1899 H
      have c1899b0 : (t1896.1 == 0) = true := beq_iff_eq.mpr c1899
      have c1899b1 : (t1896.1 != 0) = false := bne_eq_false_iff_eq.mpr c1899
      clear c1899
      replace HS : Aside0 (Sep FF w [b7 g1770 g1772 a1780 a1781 a1782 a1783, b6 g1772 A1775 l1774.length n1777 t1896.2, r5 A1775 l1774.length n1777 l1774] w1898) := ⟨HS.out.sub (.cons_cons _ (.cons_cons _ (.cons_cons _ (.cons _ .slnil))))⟩
      go_wp2_with fail
      go_ret2
      rw [← some_eq H]
      exact ⟨(by first | rfl | (simp [IntKind.wrap_u32]; done)), HS.out⟩
    · replace H := if_no c1899 H
      have c1899b0 : (t1896.1 == 0) = false := beq_eq_false_iff_ne.mpr c1899
      have c1899b1 : (t1896.1 != 0) = true := bne_iff_ne.mpr c1899
      clear c1899
      go_wp2_with fail
      obtain ⟨t1900, HA1901, H⟩ := bind_some H
      refine (ground_Ground_Word.calls l1774 t1896.2 a1780 a1781 a1782 a1783 (wrap64 (t1896.1 - 1)) 5 g1770 g1772 A1775 l1774.length n1777 t1900 _ ⟨HGl0.out.pass HS.out⟩ ⟨HS.out.begin⟩ HA1901).mono ?_
      rintro e_ w1902 ⟨rfl, hS⟩
      replace HS : Aside0 (Sep FF w [b7 g1770 g1772 a1780 a1781 a1782 a1783, b6 g1772 A1775 l1774.length n1777 t1900.2, r5 A1775 l1774.length n1777 l1774, b8 g1884 t1881.1 t1881.2.1 t1881.2.2.1] w1902) := ⟨HS.out.call hS⟩
      clear hS
      go_wp2_with fail
      obtain ⟨t1903, HA1904, H⟩ := bind_some H
      refine (ground_Ground_SetWord.calls l1774 t1900.2 a1780 a1781 a1782 a1783 (wrap64 (t1896.1 - 1)) 5 0 g1770 g1772 A1775 l1774.length n1777 t1903 _ ⟨HGl0.out.pass HS.out⟩ ⟨HS.out.begin⟩ HA1904).mono ?_
      rintro e_ w1905 ⟨rfl, hS⟩
      replace HS : Aside0 (Sep FF w [b7 g1770 g1772 a1780 a1781 a1782 a1783, b6 g1772 A1775 l1774.length n1777 t1903.2.1, r5 A1775 l1774.length n1777 t1903.2.2, b8 g1884 t1881.1 t1881.2.1 t1881.2.2.1] w1905) := ⟨HS.out.call hS⟩
      clear hS
      have hc1906 : w1905.cell? ⟨g1884, 0, none⟩ = some (.int .i64 t1881.1) := blk_cellv (HS.out.at3) 0 rfl
      go_wp2_with fail
      clear hc1906
      obtain ⟨t1907, HA1908, H⟩ := bind_some H
      refine (ground_Ground_SetReg.calls t1903.2.2 t1903.2.1 a1780 a1781 a1782 a1783 t1881.1 (wrap64 (t1900.1)) g1770 g1772 A1775 l1774.length n1777 t1907 _ ⟨HGl0.out.pass HS.out⟩ ⟨HS.out.begin⟩ HA1908).mono ?_
      rintro e_ w1909 ⟨rfl, hS⟩
      replace HS : Aside0 (Sep FF w [b7 g1770 g1772 a1780 a1781 a1782 a1783, b6 g1772 A1775 l1774.length n1777 t1907.2.1, r5 A1775 l1774.length n1777 t1907.2.2, b8 g1884 t1881.1 t1881.2.1 t1881.2.2.1] w1909) := ⟨HS.out.call hS⟩
      clear hS
      by_cases c1910 : (wrap64 (t1900.1)) = 0
      · replace H := if_yes c1910 H
        have c1910b0 : ((wrap64 (t1900.1)) == 0) = true := beq_iff_eq.mpr c1910
        have c1910b1 : ((wrap64 (t1900.1)) != 0) = false := bne_eq_false_iff_eq.mpr c1910
        clear c1910
        have hc1911 : w1909.cell? ⟨g1884, 1, none⟩ = some (.int .i64 t1881.2.1) := blk_cellv (HS.out.at3) 1 rfl
        go_wp2_with fail
        clear hc1911
        obtain ⟨t1912, HA1913, H⟩ := bind_some H
        refine (ground_Ground_SetReg.calls t1907.2.2 t1907.2.1 a1780 a1781 a1782 a1783 t1881.2.1 0 g1770 g1772 A1775 l1774.length n1777 t1912 _ ⟨HGl0.out.pass HS.out⟩ ⟨HS.out.begin⟩ HA1913).mono ?_
        rintro e_ w1914 ⟨rfl, hS⟩
        replace HS : Aside0 (Sep FF w [b7 g1770 g1772 a1780 a1781 a1782 a1783, b6 g1772 A1775 l1774.length n1777 t1912.2.1, r5 A1775 l1774.length n1777 t1912.2.2, b8 g1884 t1881.1 t1881.2.1 t1881.2.2.1] w1914) := ⟨HS.out.call hS⟩
        clear hS
        go_wp2_with fail
        refine start_ (n := 9) (S := (fun w' => w'.cell? ⟨g1884, 2, none⟩ = some (.int .i64 t1881.2.2.1))) (ds := []) #[false, false, false, false, false, false, false, false, false] (by kernel_rfl) rfl rfl (blk_cellv ((HS.out.drew).at3) 2 rfl) (fun hHeld => ?_)
        have HS_ := Aside0.mk HS.out.drew
        clear HS
        generalize World.drew _ = w1916 at HS_ hHeld ⊢
        have HS := HS_
        clear HS_
        refine pure_ (i := 0) (N := some 44) (v := ?_) (a' := ?_) #[true, false, false, false, false, false, false, false, false] rfl rfl (by kernel_rfl) (fun _ _ _ h => h) (Or.inl ⟨by rfl, ?_⟩) ?_ ?_
        rotate_left
        · intro w'
          go_simp
          with_reducible rfl
        rotate_left
        · simp only [Act.put, List.setIfInBounds_toArray, List.set_cons_zero, List.set_cons_succ, i64_w, i32_w]
          rfl
        refine pure_ (i := 1) (N := some 45) (v := ?_) (a' := ?_) #[true, true, false, false, false, false, false, false, false] rfl rfl (by kernel_rfl) (fun _ _ _ h => h) (Or.inl ⟨by rfl, ?_⟩) ?_ ?_
        rotate_left
        · intro w'
          go_simp
          with_reducible rfl
        rotate_left
        · simp only [Act.put, List.setIfInBounds_toArray, List.set_cons_zero, List.set_cons_succ, i64_w, i32_w]
          rfl
        refine pure_ (i := 3) (N := some 47) (v := ?_) (a' := ?_) #[true, true, false, true, false, false, false, false, false] rfl rfl (by kernel_rfl) (fun _ _ _ h => h) (Or.inl ⟨by rfl, ?_⟩) ?_ ?_
        rotate_left
        · intro w'
          go_simp
          with_reducible rfl
        rotate_left
        · simp only [Act.put, List.setIfInBounds_toArray, List.set_cons_zero, List.set_cons_succ, i64_w, i32_w]
          rfl
        refine pure_ (i := 4) (N := some 48) (v := ?_) (a' := ?_) #[true, true, false, true, true, false, false, false, false] rfl rfl (by kernel_rfl) (fun _ _ _ h => h) (Or.inl ⟨by rfl, ?_⟩) ?_ ?_
        rotate_left
        · intro w'
          go_simp
          with_reducible rfl
        rotate_left
        · simp only [Act.put, List.setIfInBounds_toArray, List.set_cons_zero, List.set_cons_succ, i64_w, i32_w]
          rfl
        refine take_ (i := 2) (N := some 46) (v := ?_) (a' := ?_) #[true, true, true, true, true, false, false, false, false] rfl rfl (by kernel_rfl) (fun _ _ _ h => h) (Or.inl ⟨by rfl, ?_⟩) hHeld ?_ ?_
        rotate_left
        · rintro w' hS'
          have s0 := hS'
          go_simp
          with_reducible rfl
        rotate_left
        · simp only [Act.put, List.setIfInBounds_toArray, List.set_cons_zero, List.set_cons_succ, i64_w, i32_w]
          rfl
        refine take_ (i := 5) (N := some 49) (v := ?_) (a' := ?_) #[true, true, true, true, true, true, false, false, false] rfl rfl (by kernel_rfl) (fun _ _ _ h => h) (Or.inl ⟨by rfl, ?_⟩) hHeld ?_ ?_
        rotate_left
        · rintro w' hS'
          have s0 := hS'
          go_simp
          with_reducible rfl
        rotate_left
        · simp only [Act.put, List.setIfInBounds_toArray, List.set_cons_zero, List.set_cons_succ, i64_w, i32_w]
          rfl
        refine one_ (i := 6) (N := some 50) #[true, true, true, true, true, true, true, false, false] rfl rfl (by kernel_rfl) (by decide) (fun K hK => ?_)
        obtain ⟨t1917, HA1918, H⟩ := bind_some H
        refine goes_ Tryd.func81 (by kernel_rfl) rfl #[.pointer (some ⟨g1770, 0, none⟩), .int .i64 t1881.2.2.1] (by rfl) rfl rfl (by (try simp only [List.map_toArray, List.map_cons, List.map_nil]); first | done | rfl) ?_
        refine (ground_Ground_Reg.calls t1912.2.2 t1912.2.1 a1780 a1781 a1782 a1783 t1881.2.2.1 g1770 g1772 A1775 l1774.length n1777 t1917 _ ⟨HGl0.out.pass HS.out⟩ ⟨HS.out.begin⟩ HA1918).mono ?_
        rintro e_ w1919 ⟨rfl, hS⟩
        replace HS : Aside0 (Sep FF w [b7 g1770 g1772 a1780 a1781 a1782 a1783, b6 g1772 A1775 l1774.length n1777 t1917.2, r5 A1775 l1774.length n1777 t1912.2.2, b8 g1884 t1881.1 t1881.2.1 t1881.2.2.1] w1919) := ⟨HS.out.call hS⟩
        clear hS
        refine ⟨_, rfl, ?_⟩
        refine hK.out _ _ (blk_cellv (HS.out.at3) 2 rfl) (fun hHeld => ?_)
        clear hK K
        refine norm_ (a' := ?_) ?_ ?_
        rotate_left
        · show Act.put _ (some 50) _ = _
          simp only [Act.put, List.setIfInBounds_toArray, List.set_cons_zero, List.set_cons_succ, i64_w, i32_w]
          rfl
        refine pure_ (i := 7) (N := some 51) (v := ?_) (a' := ?_) #[true, true, true, true, true, true, true, true, false] rfl rfl (by kernel_rfl) (fun _ _ _ h => h) (Or.inl ⟨by rfl, ?_⟩) ?_ ?_
        rotate_left
        · intro w'
          go_simp
          with_reducible rfl
        rotate_left
        · simp only [Act.put, List.setIfInBounds_toArray, List.set_cons_zero, List.set_cons_succ, i64_w, i32_w]
          rfl
        refine one_ (i := 8) (N := some 52) #[true, true, true, true, true, true, true, true, true] rfl rfl (by kernel_rfl) (by decide) (fun K hK => ?_)
        obtain ⟨t1920, HA1921, H⟩ := bind_some H
        refine goes_ Tryd.func83 (by kernel_rfl) rfl #[.pointer (some ⟨g1770, 0, none⟩), .int .i64 t1881.2.2.1, .int .i64 (wrap64 (t1917.1 - 1))] (by rfl) rfl rfl (by (try simp only [List.map_toArray, List.map_cons, List.map_nil]); first | done | rfl) ?_
        refine (ground_Ground_SetReg.calls t1912.2.2 t1917.2 a1780 a1781 a1782 a1783 t1881.2.2.1 (wrap64 (t1917.1 - 1)) g1770 g1772 A1775 l1774.length n1777 t1920 _ ⟨HGl0.out.pass HS.out⟩ ⟨HS.out.begin⟩ HA1921).mono ?_
        rintro e_ w1922 ⟨rfl, hS⟩
        replace HS : Aside0 (Sep FF w [b7 g1770 g1772 a1780 a1781 a1782 a1783, b6 g1772 A1775 l1774.length n1777 t1920.2.1, r5 A1775 l1774.length n1777 t1920.2.2, b8 g1884 t1881.1 t1881.2.1 t1881.2.2.1] w1922) := ⟨HS.out.call hS⟩
        clear hS
        refine ⟨_, rfl, ?_⟩
        refine hK.out _ _ (blk_cellv (HS.out.at3) 2 rfl) (fun hHeld => ?_)
        clear hK K
        refine norm_ (a' := ?_) ?_ ?_
        rotate_left
        · show Act.put _ (some 52) _ = _
          simp only [Act.put, List.setIfInBounds_toArray, List.set_cons_zero, List.set_cons_succ, i64_w, i32_w]
          rfl
        refine done_ (by kernel_rfl) ?_
        replace HS : Aside0 (Sep FF w [b7 g1770 g1772 a1780 a1781 a1782 a1783, b6 g1772 A1775 l1774.length n1777 t1920.2.1, r5 A1775 l1774.length n1777 t1920.2.2] w1922) := ⟨HS.out.sub (.cons_cons _ (.cons_cons _ (.cons_cons _ (.cons _ .slnil))))⟩
        go_wp2_with fail
        go_ret2
        rw [← some_eq H]
        exact ⟨(by first | rfl | (simp [IntKind.wrap_u32]; done)), HS.out⟩
      · replace H := if_no c1910 H
        have c1910b0 : ((wrap64 (t1900.1)) == 0) = false := beq_eq_false_iff_ne.mpr c1910
        have c1910b1 : ((wrap64 (t1900.1)) != 0) = true := bne_iff_ne.mpr c1910
        clear c1910
        go_wp2_with fail
        refine start_ (n := 9) (S := (fun w' => w'.cell? ⟨g1884, 2, none⟩ = some (.int .i64 t1881.2.2.1))) (ds := []) #[false, false, false, false, false, false, false, false, false] (by kernel_rfl) rfl rfl (blk_cellv ((HS.out.drew).at3) 2 rfl) (fun hHeld => ?_)
        have HS_ := Aside0.mk HS.out.drew
        clear HS
        generalize World.drew _ = w1924 at HS_ hHeld ⊢
        have HS := HS_
        clear HS_
        refine pure_ (i := 0) (N := some 44) (v := ?_) (a' := ?_) #[true, false, false, false, false, false, false, false, false] rfl rfl (by kernel_rfl) (fun _ _ _ h => h) (Or.inl ⟨by rfl, ?_⟩) ?_ ?_
        rotate_left
        · intro w'
          go_simp
          with_reducible rfl
        rotate_left
        · simp only [Act.put, List.setIfInBounds_toArray, List.set_cons_zero, List.set_cons_succ, i64_w, i32_w]
          rfl
        refine pure_ (i := 1) (N := some 45) (v := ?_) (a' := ?_) #[true, true, false, false, false, false, false, false, false] rfl rfl (by kernel_rfl) (fun _ _ _ h => h) (Or.inl ⟨by rfl, ?_⟩) ?_ ?_
        rotate_left
        · intro w'
          go_simp
          with_reducible rfl
        rotate_left
        · simp only [Act.put, List.setIfInBounds_toArray, List.set_cons_zero, List.set_cons_succ, i64_w, i32_w]
          rfl
        refine pure_ (i := 3) (N := some 47) (v := ?_) (a' := ?_) #[true, true, false, true, false, false, false, false, false] rfl rfl (by kernel_rfl) (fun _ _ _ h => h) (Or.inl ⟨by rfl, ?_⟩) ?_ ?_
        rotate_left
        · intro w'
          go_simp
          with_reducible rfl
        rotate_left
        · simp only [Act.put, List.setIfInBounds_toArray, List.set_cons_zero, List.set_cons_succ, i64_w, i32_w]
          rfl
        refine pure_ (i := 4) (N := some 48) (v := ?_) (a' := ?_) #[true, true, false, true, true, false, false, false, false] rfl rfl (by kernel_rfl) (fun _ _ _ h => h) (Or.inl ⟨by rfl, ?_⟩) ?_ ?_
        rotate_left
        · intro w'
          go_simp
          with_reducible rfl
        rotate_left
        · simp only [Act.put, List.setIfInBounds_toArray, List.set_cons_zero, List.set_cons_succ, i64_w, i32_w]
          rfl
        refine take_ (i := 2) (N := some 46) (v := ?_) (a' := ?_) #[true, true, true, true, true, false, false, false, false] rfl rfl (by kernel_rfl) (fun _ _ _ h => h) (Or.inl ⟨by rfl, ?_⟩) hHeld ?_ ?_
        rotate_left
        · rintro w' hS'
          have s0 := hS'
          go_simp
          with_reducible rfl
        rotate_left
        · simp only [Act.put, List.setIfInBounds_toArray, List.set_cons_zero, List.set_cons_succ, i64_w, i32_w]
          rfl
        refine take_ (i := 5) (N := some 49) (v := ?_) (a' := ?_) #[true, true, true, true, true, true, false, false, false] rfl rfl (by kernel_rfl) (fun _ _ _ h => h) (Or.inl ⟨by rfl, ?_⟩) hHeld ?_ ?_
        rotate_left
        · rintro w' hS'
          have s0 := hS'
          go_simp
          with_reducible rfl
        rotate_left
        · simp only [Act.put, List.setIfInBounds_toArray, List.set_cons_zero, List.set_cons_succ, i64_w, i32_w]
          rfl
        refine one_ (i := 6) (N := some 50) #[true, true, true, true, true, true, true, false, false] rfl rfl (by kernel_rfl) (by decide) (fun K hK => ?_)
        obtain ⟨t1917, HA1925, H⟩ := bind_some H
        refine goes_ Tryd.func81 (by kernel_rfl) rfl #[.pointer (some ⟨g1770, 0, none⟩), .int .i64 t1881.2.2.1] (by rfl) rfl rfl (by (try simp only [List.map_toArray, List.map_cons, List.map_nil]); first | done | rfl) ?_
        refine (ground_Ground_Reg.calls t1907.2.2 t1907.2.1 a1780 a1781 a1782 a1783 t1881.2.2.1 g1770 g1772 A1775 l1774.length n1777 t1917 _ ⟨HGl0.out.pass HS.out⟩ ⟨HS.out.begin⟩ HA1925).mono ?_
        rintro e_ w1926 ⟨rfl, hS⟩
        replace HS : Aside0 (Sep FF w [b7 g1770 g1772 a1780 a1781 a1782 a1783, b6 g1772 A1775 l1774.length n1777 t1917.2, r5 A1775 l1774.length n1777 t1907.2.2, b8 g1884 t1881.1 t1881.2.1 t1881.2.2.1] w1926) := ⟨HS.out.call hS⟩
        clear hS
        refine ⟨_, rfl, ?_⟩
        refine hK.out _ _ (blk_cellv (HS.out.at3) 2 rfl) (fun hHeld => ?_)
        clear hK K
        refine norm_ (a' := ?_) ?_ ?_
        rotate_left
        · show Act.put _ (some 50) _ = _
          simp only [Act.put, List.setIfInBounds_toArray, List.set_cons_zero, List.set_cons_succ, i64_w, i32_w]
          rfl
        refine pure_ (i := 7) (N := some 51) (v := ?_) (a' := ?_) #[true, true, true, true, true, true, true, true, false] rfl rfl (by kernel_rfl) (fun _ _ _ h => h) (Or.inl ⟨by rfl, ?_⟩) ?_ ?_
        rotate_left
        · intro w'
          go_simp
          with_reducible rfl
        rotate_left
        · simp only [Act.put, List.setIfInBounds_toArray, List.set_cons_zero, List.set_cons_succ, i64_w, i32_w]
          rfl
        refine one_ (i := 8) (N := some 52) #[true, true, true, true, true, true, true, true, true] rfl rfl (by kernel_rfl) (by decide) (fun K hK => ?_)
        obtain ⟨t1920, HA1927, H⟩ := bind_some H
        refine goes_ Tryd.func83 (by kernel_rfl) rfl #[.pointer (some ⟨g1770, 0, none⟩), .int .i64 t1881.2.2.1, .int .i64 (wrap64 (t1917.1 - 1))] (by rfl) rfl rfl (by (try simp only [List.map_toArray, List.map_cons, List.map_nil]); first | done | rfl) ?_
        refine (ground_Ground_SetReg.calls t1907.2.2 t1917.2 a1780 a1781 a1782 a1783 t1881.2.2.1 (wrap64 (t1917.1 - 1)) g1770 g1772 A1775 l1774.length n1777 t1920 _ ⟨HGl0.out.pass HS.out⟩ ⟨HS.out.begin⟩ HA1927).mono ?_
        rintro e_ w1928 ⟨rfl, hS⟩
        replace HS : Aside0 (Sep FF w [b7 g1770 g1772 a1780 a1781 a1782 a1783, b6 g1772 A1775 l1774.length n1777 t1920.2.1, r5 A1775 l1774.length n1777 t1920.2.2, b8 g1884 t1881.1 t1881.2.1 t1881.2.2.1] w1928) := ⟨HS.out.call hS⟩
        clear hS
        refine ⟨_, rfl, ?_⟩
        refine hK.out _ _ (blk_cellv (HS.out.at3) 2 rfl) (fun hHeld => ?_)
        clear hK K
        refine norm_ (a' := ?_) ?_ ?_
        rotate_left
        · show Act.put _ (some 52) _ = _
          simp only [Act.put, List.setIfInBounds_toArray, List.set_cons_zero, List.set_cons_succ, i64_w, i32_w]
          rfl
        refine done_ (by kernel_rfl) ?_
        replace HS : Aside0 (Sep FF w [b7 g1770 g1772 a1780 a1781 a1782 a1783, b6 g1772 A1775 l1774.length n1777 t1920.2.1, r5 A1775 l1774.length n1777 t1920.2.2] w1928) := ⟨HS.out.sub (.cons_cons _ (.cons_cons _ (.cons_cons _ (.cons _ .slnil))))⟩
        go_wp2_with fail
        go_ret2
        rw [← some_eq H]
        exact ⟨(by first | rfl | (simp [IntKind.wrap_u32]; done)), HS.out⟩
  · replace H := if_no c1894 H
    have c1894b0 : t1881.2.2.2 = false := by simpa using c1894
    have c1894b1 : (!t1881.2.2.2) = true := by rw [c1894b0]; rfl
    try rw [c1894b1]
    clear c1894
    go_wp2_with (first | ((with_reducible refine gate_dst (N := 6) rfl ?_); refine box_on ?hg (N := 6) ?hd (cs := #[.int .i64 0, .int .i64 0, .int .i64 0]) (t := 166) ?hr ?_; (case hd => rfl); (case hg => rfl); (case hr => first | (go_simp; done) | (go_simp; rfl)); intro g1884 hg w1885 hbox hb; replace HS : Aside0 (Sep FF w [b7 g1770 g1772 a1780 a1781 a1782 a1783, b6 g1772 A1775 l1774.length n1777 a1779, r5 A1775 l1774.length n1777 l1774, b8 g1884 0 0 0] w1885) := ⟨HS.out.box hg hbox hb⟩; clear hg hbox hb; have hc1887 : w1885.cell? ⟨g1884, 0, none⟩ = some (.int .i64 0) := blk_cellv (HS.out.at3) 0 rfl; have hz1888 : w1885.frozen? ⟨g1884, 0, none⟩ = false := blk_fz (HS.out.at3) 0; have hc1889 : w1885.cell? ⟨g1884, 1, none⟩ = some (.int .i64 0) := blk_cellv (HS.out.at3) 1 rfl; have hz1890 : w1885.frozen? ⟨g1884, 1, none⟩ = false := blk_fz (HS.out.at3) 1; have hc1891 : w1885.cell? ⟨g1884, 2, none⟩ = some (.int .i64 0) := blk_cellv (HS.out.at3) 2 rfl; have hz1892 : w1885.frozen? ⟨g1884, 2, none⟩ = false := blk_fz (HS.out.at3) 2) | ((with_reducible refine gate_store (t := 166) (p := 6) rfl ?_); refine store_event (w1 := (World.setCell (World.setCell (World.setCell w1885 ⟨g1884, 0, none⟩ (.int .i64 t1881.1)) ⟨g1884, 1, none⟩ (.int .i64 t1881.2.1)) ⟨g1884, 2, none⟩ (.int .i64 t1881.2.2.1))) rfl (t := 166) (p := 6) rfl rfl ?hr ?_; (case hr => first | (go_simp; done) | (go_simp; rfl)); intro w1893 hst; clear hc1887 hz1888 hc1889 hz1890 hc1891 hz1892; replace HS : Aside0 (Sep FF w [b7 g1770 g1772 a1780 a1781 a1782 a1783, b6 g1772 A1775 l1774.length n1777 a1779, r5 A1775 l1774.length n1777 l1774, b8 g1884 t1881.1 t1881.2.1 t1881.2.2.1] w1893) := ⟨by rw [hst]; exact HS.out.setAll (l1 := [b7 g1770 g1772 a1780 a1781 a1782 a1783, b6 g1772 A1775 l1774.length n1777 a1779, r5 A1775 l1774.length n1777 l1774]) (l2 := []) [.int .i64 t1881.1, .int .i64 t1881.2.1, .int .i64 t1881.2.2.1] rfl⟩; clear hst; replace HS : Aside0 (Sep FF w [b7 g1770 g1772 a1780 a1781 a1782 a1783, b6 g1772 A1775 l1774.length n1777 a1779, r5 A1775 l1774.length n1777 l1774] w1893) := ⟨HS.out.sub (.cons_cons _ (.cons_cons _ (.cons_cons _ (.cons _ .slnil))))⟩))
    go_ret2
    rw [← some_eq H]
    exact ⟨(by first | rfl | (simp [IntKind.wrap_u32]; done)), HS.out⟩

set_option maxHeartbeats 30000000 in
set_option maxRecDepth 100000 in
theorem ground_Ground_Wipe.calls (k : Nat) (l1938 : List Int) (a1943 : Int) (a1944 : Int) (a1945 : Int) (a1946 : Int) (a1947 : Int) (a1948 : Int) (g1934 : Nat) (g1936 : Nat) (A1939 : Option Addr) (m1940 : Nat) (n1941 : Nat) (r : Int × Int × List Int) (w : World)  (HGl0 : Aside0 (Gl 0 #[.int .i64 0, .int .i64 0, .int .i64 0, .int .i64 0, .int .i64 0] (fps [b7 g1934 g1936 a1944 a1945 a1946 a1947, b6 g1936 A1939 m1940 n1941 a1943, r5 A1939 m1940 n1941 l1938]) w)) (HS : Aside0 (Sep (fps [b7 g1934 g1936 a1944 a1945 a1946 a1947, b6 g1936 A1939 m1940 n1941 a1943, r5 A1939 m1940 n1941 l1938]) w [b7 g1934 g1936 a1944 a1945 a1946 a1947, b6 g1936 A1939 m1940 n1941 a1943, r5 A1939 m1940 n1941 l1938] w)) (H : Aside0 (ground_Ground_Wipe.f k l1938 a1943 a1944 a1945 a1946 a1947 a1948 = some r)) :
    Calls Tryd.prog 136 #[.pointer (some ⟨g1934, 0, none⟩), .int .i64 a1948] w fun e w' => e = .returned (.int .i64 r.1) ∧ Sep (fps [b7 g1934 g1936 a1944 a1945 a1946 a1947, b6 g1936 A1939 m1940 n1941 a1943, r5 A1939 m1940 n1941 l1938]) w [b7 g1934 g1936 a1944 a1945 a1946 a1947, b6 g1936 A1939 m1940 n1941 r.2.1, r5 A1939 m1940 n1941 r.2.2] w' := by
  generalize (fps [b7 g1934 g1936 a1944 a1945 a1946 a1947, b6 g1936 A1939 m1940 n1941 a1943, r5 A1939 m1940 n1941 l1938]) = FF at HS HGl0 ⊢
  obtain rfl := (row_len (HS.out.at2)).symm
  unfold ground_Ground_Wipe.f at H
  go_enter Tryd.func136, Tryd.ntmps136
  go_wp2_with fail
  obtain ⟨t1977, HA1978, H⟩ := bind_some H
  refine (ground_Ground_Conf.calls l1938 a1943 a1944 a1945 a1946 a1947 g1934 g1936 A1939 l1938.length n1941 t1977 _ ⟨HGl0.out.pass HS.out⟩ ⟨HS.out.begin⟩ HA1978).mono ?_
  rintro e_ w1979 ⟨rfl, hS⟩
  replace HS : Aside0 (Sep FF w [b7 g1934 g1936 a1944 a1945 a1946 a1947, b6 g1936 A1939 l1938.length n1941 a1943, r5 A1939 l1938.length n1941 l1938] w1979) := ⟨HS.out.call hS⟩
  clear hS
  have fl1980 : ∀ w, (Instr.field 30 (.agg #[.int .i64 t1977.1, .int .i64 t1977.2.1, .int .i64 t1977.2.2.1, .int .i64 t1977.2.2.2]) 1).run Tryd.prog w = .ok (.int .i64 t1977.2.1) w := fun _ => by kernel_rfl
  go_wp2_with fail
  clear fl1980
  obtain ⟨o1993, AL1994, H⟩ := bind_some H
  go_loopg [5, 10] k (fun kq v5 v10 wc => ∃ (x1997 : Int) (x1998 : Int) (x1999 : List Int) (x2000 : Int), v5 = .int .i64 x1997 ∧ v10 = .int .i64 x1998 ∧ Aside0 (ground_Ground_Wipe.lo0 kq a1944 a1945 a1946 a1947 a1948 t1977 x1997 x1998 x1999 x2000 = some o1993) ∧ Aside0 (Sep FF w [b7 g1934 g1936 a1944 a1945 a1946 a1947, b6 g1936 A1939 l1938.length n1941 x2000, r5 A1939 l1938.length n1941 x1999] wc))
  case atStart => exact ⟨(0), (0), (l1938), (a1943), (by first | rfl | (simp [IntKind.wrap_u32]; done)), (by first | rfl | (simp [IntKind.wrap_u32]; done)), AL1994, ⟨HS.out⟩⟩
  case round =>
    clear AL1994 HS
    obtain ⟨x1997, x1998, x1999, x2000, rfl, rfl, AL1994, HS⟩ := hrel
    obtain ⟨w1995, rfl⟩ : ∃ x : World, x = wr := ⟨_, rfl⟩
    cases gk with
    | zero => exact absurd AL1994.out (by simp [ground_Ground_Wipe.lo0])
    | succ k1996 =>
      have AL0 := AL1994.out
      rw [ground_Ground_Wipe.lo0] at AL0
      clear AL1994
      have AL1994 := Aside0.mk AL0
      clear AL0
      by_cases c2001 : x1998 < t1977.2.1
      · replace AL1994 := if_yes c2001 AL1994
        have c2001b0 : decide (x1998 < t1977.2.1) = true := decide_eq_true c2001
        clear c2001
        go_wp2_with fail
        obtain ⟨t1989, HA2002, AL1994⟩ := bind_some AL1994
        refine (ground_Ground_SetWord.calls x1999 x2000 a1944 a1945 a1946 a1947 a1948 x1998 0 g1934 g1936 A1939 l1938.length n1941 t1989 _ ⟨HGl0.out.pass HS.out⟩ ⟨HS.out.begin⟩ HA2002).mono ?_
        rintro e_ w2003 ⟨rfl, hS⟩
        replace HS : Aside0 (Sep FF w [b7 g1934 g1936 a1944 a1945 a1946 a1947, b6 g1936 A1939 l1938.length n1941 t1989.2.1, r5 A1939 l1938.length n1941 t1989.2.2] w2003) := ⟨HS.out.call hS⟩
        clear hS
        by_cases c2004 : t1989.1 = true
        · replace AL1994 := if_yes c2004 AL1994
          have c2004b0 : t1989.1 = true := c2004
          have c2004b1 : (!t1989.1) = false := by rw [c2004b0]; rfl
          clear c2004
          go_wp2_with fail
          go_roundg k1996
          case measure => exact Nat.lt_succ_self _
          case rel => exact ⟨(wrap64 (x1997 + 1)), (wrap64 (x1998 + 1)), (t1989.2.2), (t1989.2.1), (by first | rfl | (simp [IntKind.wrap_u32]; done)), (by first | rfl | (simp [IntKind.wrap_u32]; done)), Aside0.mk AL1994.out, ⟨HS.out⟩⟩
        · replace AL1994 := if_no c2004 AL1994
          have c2004b0 : t1989.1 = false := by simpa using c2004
          have c2004b1 : (!t1989.1) = true := by rw [c2004b0]; rfl
          clear c2004
          go_wp2_with fail
          go_roundg k1996
          case measure => exact Nat.lt_succ_self _
          case rel => exact ⟨(x1997), (wrap64 (x1998 + 1)), (t1989.2.2), (t1989.2.1), (by first | rfl | (simp [IntKind.wrap_u32]; done)), (by first | rfl | (simp [IntKind.wrap_u32]; done)), Aside0.mk AL1994.out, ⟨HS.out⟩⟩
      · replace AL1994 := if_no c2001 AL1994
        have c2001b0 : decide (x1998 < t1977.2.1) = false := decide_eq_false c2001
        clear c2001
        have ho := some_eq AL1994
        subst ho
        clear AL1994
        go_wp2_with fail
        go_ret
        rw [← some_eq H]
        exact ⟨(by first | rfl | (simp [IntKind.wrap_u32]; done)), HS.out⟩

set_option maxHeartbeats 30000000 in
set_option maxRecDepth 100000 in
theorem pool_Take.calls (k : Nat) (l1759 : List Int) (a1764 : Int) (a1765 : Int) (a1766 : Int) (a1767 : Int) (a1768 : Int) (g1755 : Nat) (g1757 : Nat) (A1760 : Option Addr) (m1761 : Nat) (n1762 : Nat) (r : Int × Bool × Int × List Int) (w : World)  (HGl0 : Aside0 (Gl 0 #[.int .i64 0, .int .i64 0, .int .i64 0, .int .i64 0, .int .i64 0] (fps [b7 g1755 g1757 a1765 a1766 a1767 a1768, b6 g1757 A1760 m1761 n1762 a1764, r5 A1760 m1761 n1762 l1759]) w)) (HS : Aside0 (Sep (fps [b7 g1755 g1757 a1765 a1766 a1767 a1768, b6 g1757 A1760 m1761 n1762 a1764, r5 A1760 m1761 n1762 l1759]) w [b7 g1755 g1757 a1765 a1766 a1767 a1768, b6 g1757 A1760 m1761 n1762 a1764, r5 A1760 m1761 n1762 l1759] w)) (H : Aside0 (pool_Take.f k l1759 a1764 a1765 a1766 a1767 a1768 = some r)) :
    Calls Tryd.prog 98 #[.pointer (some ⟨g1755, 0, none⟩)] w fun e w' => e = .returned (.tuple #[.int .i64 r.1, .bool r.2.1]) ∧ Sep (fps [b7 g1755 g1757 a1765 a1766 a1767 a1768, b6 g1757 A1760 m1761 n1762 a1764, r5 A1760 m1761 n1762 l1759]) w [b7 g1755 g1757 a1765 a1766 a1767 a1768, b6 g1757 A1760 m1761 n1762 r.2.2.1, r5 A1760 m1761 n1762 r.2.2.2] w' := by
  generalize (fps [b7 g1755 g1757 a1765 a1766 a1767 a1768, b6 g1757 A1760 m1761 n1762 a1764, r5 A1760 m1761 n1762 l1759]) = FF at HS HGl0 ⊢
  obtain rfl := (row_len (HS.out.at2)).symm
  unfold pool_Take.f at H
  go_enter Tryd.func98, Tryd.ntmps98
  go_wp2_with fail
  obtain ⟨t2009, HA2010, H⟩ := bind_some H
  refine (chain_Take.calls l1759 a1764 a1765 a1766 a1767 a1768 0 g1755 g1757 A1760 l1759.length n1762 t2009 _ ⟨HGl0.out.pass HS.out⟩ ⟨HS.out.begin⟩ HA2010).mono ?_
  rintro e_ w2011 ⟨rfl, hS⟩
  replace HS : Aside0 (Sep FF w [b7 g1755 g1757 a1765 a1766 a1767 a1768, b6 g1757 A1760 l1759.length n1762 t2009.2.2.1, r5 A1760 l1759.length n1762 t2009.2.2.2] w2011) := ⟨HS.out.call hS⟩
  clear hS
  by_cases c2012 : t2009.2.1 = true
  · replace H := if_yes c2012 H
    have c2012b0 : t2009.2.1 = true := c2012
    have c2012b1 : (!t2009.2.1) = false := by rw [c2012b0]; rfl
    try rw [c2012b1]
    clear c2012
    go_wp2_with fail
    obtain ⟨t2013, HA2014, H⟩ := bind_some H
    refine (ground_Ground_Wipe.calls _ t2009.2.2.2 t2009.2.2.1 a1765 a1766 a1767 a1768 t2009.1 g1755 g1757 A1760 l1759.length n1762 t2013 _ ⟨HGl0.out.pass HS.out⟩ ⟨HS.out.begin⟩ HA2014).mono ?_
    rintro e_ w2015 ⟨rfl, hS⟩
    replace HS : Aside0 (Sep FF w [b7 g1755 g1757 a1765 a1766 a1767 a1768, b6 g1757 A1760 l1759.length n1762 t2013.2.1, r5 A1760 l1759.length n1762 t2013.2.2] w2015) := ⟨HS.out.call hS⟩
    clear hS
    go_wp2_with fail
    go_ret2
    rw [← some_eq H]
    exact ⟨(by first | rfl | (simp [IntKind.wrap_u32]; done)), HS.out⟩
  · replace H := if_no c2012 H
    have c2012b0 : t2009.2.1 = false := by simpa using c2012
    have c2012b1 : (!t2009.2.1) = true := by rw [c2012b0]; rfl
    try rw [c2012b1]
    clear c2012
    go_wp2_with fail
    go_ret2
    rw [← some_eq H]
    exact ⟨(by first | rfl | (simp [IntKind.wrap_u32]; done)), HS.out⟩

set_option maxHeartbeats 30000000 in
set_option maxRecDepth 100000 in
theorem tag_marks.calls (a2087 : Int) (a2088 : Int) (a2089 : Int) (a2090 : Int) (a2091 : Int) (a2092 : Int) (a2093 : Int) (r : Int × Int × Int × Int × Int) (w : World)  (HGl0 : Aside0 (Gl 0 #[.int .i64 0, .int .i64 0, .int .i64 0, .int .i64 0, .int .i64 0] (fps []) w)) (HS : Aside0 (Sep (fps []) w [] w)) (H : Aside0 (tag_marks.f a2087 a2088 a2089 a2090 a2091 a2092 a2093 = some r)) :
    Calls Tryd.prog 68 #[.agg #[.int .i64 a2087, .int .i64 a2088, .int .i64 a2089, .int .i64 a2090, .int .i64 a2091, .int .i64 a2092, .int .i64 a2093]] w fun e w' => e = .returned (.agg #[.int .i64 r.1, .int .i64 r.2.1, .int .i64 r.2.2.1, .int .i64 r.2.2.2.1, .int .i64 r.2.2.2.2]) ∧ Sep (fps []) w [] w' := by
  unfold tag_marks.f at H
  go_enter Tryd.func68, Tryd.ntmps68
  go_wp2_with (first | ((with_reducible refine gate_dst (N := 1) rfl ?_); refine box_on ?hg (N := 1) ?hd (cs := #[.int .i64 a2087, .int .i64 a2088, .int .i64 a2089, .int .i64 a2090, .int .i64 a2091, .int .i64 a2092, .int .i64 a2093]) (t := 32) ?hr ?_; (case hd => rfl); (case hg => rfl); (case hr => first | (go_simp; done) | (go_simp; rfl)); intro g2094 hg w2095 hbox hb; replace HS : Aside0 (Sep (fps []) w [b11 g2094 a2087 a2088 a2089 a2090 a2091 a2092 a2093] w2095) := ⟨HS.out.box hg hbox hb⟩; clear hg hbox hb) | ((with_reducible refine gate_dst (N := 2) rfl ?_); refine box_on ?hg (N := 2) ?hd (cs := #[.int .i64 0, .int .i64 0, .int .i64 0, .int .i64 0, .int .i64 0]) (t := 108) ?hr ?_; (case hd => rfl); (case hg => rfl); (case hr => first | (go_simp; done) | (go_simp; rfl)); intro g2097 hg w2098 hbox hb; replace HS : Aside0 (Sep (fps []) w [b11 g2094 a2087 a2088 a2089 a2090 a2091 a2092 a2093, b12 g2097 0 0 0 0 0] w2098) := ⟨HS.out.box hg hbox hb⟩; clear hg hbox hb; have hc2100 : w2098.cell? ⟨g2094, 1, none⟩ = some (.int .i64 a2088) := blk_cellv (HS.out.at0) 1 rfl; have hc2101 : w2098.cell? ⟨g2094, 2, none⟩ = some (.int .i64 a2089) := blk_cellv (HS.out.at0) 2 rfl; have hc2102 : w2098.cell? ⟨g2094, 3, none⟩ = some (.int .i64 a2090) := blk_cellv (HS.out.at0) 3 rfl; have hc2103 : w2098.cell? ⟨g2094, 4, none⟩ = some (.int .i64 a2091) := blk_cellv (HS.out.at0) 4 rfl; have hc2104 : w2098.cell? ⟨g2094, 5, none⟩ = some (.int .i64 a2092) := blk_cellv (HS.out.at0) 5 rfl; have hc2105 : w2098.cell? ⟨g2097, 0, none⟩ = some (.int .i64 0) := blk_cellv (HS.out.at1) 0 rfl; have hz2106 : w2098.frozen? ⟨g2097, 0, none⟩ = false := blk_fz (HS.out.at1) 0; have hc2107 : w2098.cell? ⟨g2097, 1, none⟩ = some (.int .i64 0) := blk_cellv (HS.out.at1) 1 rfl; have hz2108 : w2098.frozen? ⟨g2097, 1, none⟩ = false := blk_fz (HS.out.at1) 1; have hc2109 : w2098.cell? ⟨g2097, 2, none⟩ = some (.int .i64 0) := blk_cellv (HS.out.at1) 2 rfl; have hz2110 : w2098.frozen? ⟨g2097, 2, none⟩ = false := blk_fz (HS.out.at1) 2; have hc2111 : w2098.cell? ⟨g2097, 3, none⟩ = some (.int .i64 0) := blk_cellv (HS.out.at1) 3 rfl; have hz2112 : w2098.frozen? ⟨g2097, 3, none⟩ = false := blk_fz (HS.out.at1) 3; have hc2113 : w2098.cell? ⟨g2097, 4, none⟩ = some (.int .i64 0) := blk_cellv (HS.out.at1) 4 rfl; have hz2114 : w2098.frozen? ⟨g2097, 4, none⟩ = false := blk_fz (HS.out.at1) 4) | ((with_reducible refine gate_store (t := 108) (p := 2) rfl ?_); refine store_event (w1 := (World.setCell (World.setCell (World.setCell (World.setCell (World.setCell w2098 ⟨g2097, 0, none⟩ (.int .i64 a2088)) ⟨g2097, 1, none⟩ (.int .i64 a2089)) ⟨g2097, 2, none⟩ (.int .i64 a2090)) ⟨g2097, 3, none⟩ (.int .i64 a2091)) ⟨g2097, 4, none⟩ (.int .i64 a2092))) rfl (t := 108) (p := 2) rfl rfl ?hr ?_; (case hr => first | (go_simp; done) | (go_simp; rfl)); intro w2115 hst; clear hc2100 hc2101 hc2102 hc2103 hc2104 hc2105 hz2106 hc2107 hz2108 hc2109 hz2110 hc2111 hz2112 hc2113 hz2114; replace HS : Aside0 (Sep (fps []) w [b11 g2094 a2087 a2088 a2089 a2090 a2091 a2092 a2093, b12 g2097 a2088 a2089 a2090 a2091 a2092] w2115) := ⟨by rw [hst]; exact HS.out.setAll (l1 := [b11 g2094 a2087 a2088 a2089 a2090 a2091 a2092 a2093]) (l2 := []) [.int .i64 a2088, .int .i64 a2089, .int .i64 a2090, .int .i64 a2091, .int .i64 a2092] rfl⟩; clear hst; replace HS : Aside0 (Sep (fps []) w [b12 g2097 a2088 a2089 a2090 a2091 a2092] w2115) := ⟨HS.out.sub (.cons _ (.cons_cons _ .slnil))⟩))
  have hc2116 : w2115.cell? ⟨g2097, 0, none⟩ = some (.int .i64 a2088) := blk_cellv (HS.out.at0) 0 rfl
  have hc2117 : w2115.cell? ⟨g2097, 1, none⟩ = some (.int .i64 a2089) := blk_cellv (HS.out.at0) 1 rfl
  have hc2118 : w2115.cell? ⟨g2097, 2, none⟩ = some (.int .i64 a2090) := blk_cellv (HS.out.at0) 2 rfl
  have hc2119 : w2115.cell? ⟨g2097, 3, none⟩ = some (.int .i64 a2091) := blk_cellv (HS.out.at0) 3 rfl
  have hc2120 : w2115.cell? ⟨g2097, 4, none⟩ = some (.int .i64 a2092) := blk_cellv (HS.out.at0) 4 rfl
  refine bodyPost_ret (v := .agg #[.int .i64 a2088, .int .i64 a2089, .int .i64 a2090, .int .i64 a2091, .int .i64 a2092]) (by simp [results, Tryd.results68, go_sem, hc2116, hc2117, hc2118, hc2119, hc2120]) rfl ?_
  rw [← some_eq H]
  exact ⟨(by first | rfl | (simp [IntKind.wrap_u32]; done)), HS.out.sub (.cons _ .slnil)⟩

set_option maxHeartbeats 30000000 in
set_option maxRecDepth 100000 in
theorem tag_Right.calls (k : Nat) (a2070 : Int) (a2071 : Int) (a2072 : Int) (a2073 : Int) (a2074 : Int) (a2075 : Int) (a2076 : Int) (r : Bool) (w : World)  (HGl0 : Aside0 (Gl 0 #[.int .i64 0, .int .i64 0, .int .i64 0, .int .i64 0, .int .i64 0] (fps []) w)) (HS : Aside0 (Sep (fps []) w [] w)) (H : Aside0 (tag_Right.f k a2070 a2071 a2072 a2073 a2074 a2075 a2076 = some r)) :
    Calls Tryd.prog 67 #[.agg #[.int .i64 a2070, .int .i64 a2071, .int .i64 a2072, .int .i64 a2073, .int .i64 a2074, .int .i64 a2075, .int .i64 a2076]] w fun e w' => e = .returned (.bool r) ∧ Sep (fps []) w [] w' := by
  unfold tag_Right.f at H
  go_enter Tryd.func67, Tryd.ntmps67
  go_wp2_with (first | ((with_reducible refine gate_dst (N := 1) rfl ?_); refine box_on ?hg (N := 1) ?hd (cs := #[.int .i64 a2070, .int .i64 a2071, .int .i64 a2072, .int .i64 a2073, .int .i64 a2074, .int .i64 a2075, .int .i64 a2076]) (t := 32) ?hr ?_; (case hd => rfl); (case hg => rfl); (case hr => first | (go_simp; done) | (go_simp; rfl)); intro g2077 hg w2078 hbox hb; replace HS : Aside0 (Sep (fps []) w [b11 g2077 a2070 a2071 a2072 a2073 a2074 a2075 a2076] w2078) := ⟨HS.out.box hg hbox hb⟩; clear hg hbox hb; have hc2080 : w2078.cell? ⟨g2077, 0, none⟩ = some (.int .i64 a2070) := blk_cellv (HS.out.at0) 0 rfl; have hc2081 : w2078.cell? ⟨g2077, 1, none⟩ = some (.int .i64 a2071) := blk_cellv (HS.out.at0) 1 rfl; have hc2082 : w2078.cell? ⟨g2077, 2, none⟩ = some (.int .i64 a2072) := blk_cellv (HS.out.at0) 2 rfl; have hc2083 : w2078.cell? ⟨g2077, 3, none⟩ = some (.int .i64 a2073) := blk_cellv (HS.out.at0) 3 rfl; have hc2084 : w2078.cell? ⟨g2077, 4, none⟩ = some (.int .i64 a2074) := blk_cellv (HS.out.at0) 4 rfl; have hc2085 : w2078.cell? ⟨g2077, 5, none⟩ = some (.int .i64 a2075) := blk_cellv (HS.out.at0) 5 rfl; have hc2086 : w2078.cell? ⟨g2077, 6, none⟩ = some (.int .i64 a2076) := blk_cellv (HS.out.at0) 6 rfl))
  clear hc2080 hc2081 hc2082 hc2083 hc2084 hc2085 hc2086
  obtain ⟨t2121, HA2122, H⟩ := bind_some H
  refine (tag_marks.calls a2070 a2071 a2072 a2073 a2074 a2075 a2076 t2121 _ ⟨HGl0.out.pass (l := []) HS.out⟩ ⟨Sep.start _⟩ HA2122).mono ?_
  rintro e_ w2123 ⟨rfl, hS⟩
  replace HS : Aside0 (Sep (fps []) w [b11 g2077 a2070 a2071 a2072 a2073 a2074 a2075 a2076] w2123) := ⟨HS.out.call hS⟩
  clear hS
  go_wp2_with fail
  obtain ⟨o2136, AL2137, H⟩ := bind_some H
  go_loopg [7] k (fun kq v7 wc => ∃ (x2140 : Int), v7 = .int .i64 x2140 ∧ Aside0 (tag_Right.lo0 kq t2121 x2140 = some o2136) ∧ Aside0 (Sep (fps []) w [b11 g2077 a2070 a2071 a2072 a2073 a2074 a2075 a2076] wc))
  case atStart => exact ⟨(0), (by first | rfl | (simp [IntKind.wrap_u32]; done)), AL2137, ⟨HS.out⟩⟩
  case round =>
    clear AL2137 HS
    obtain ⟨x2140, rfl, AL2137, HS⟩ := hrel
    obtain ⟨w2138, rfl⟩ : ∃ x : World, x = wr := ⟨_, rfl⟩
    cases gk with
    | zero => exact absurd AL2137.out (by simp [tag_Right.lo0])
    | succ k2139 =>
      have AL0 := AL2137.out
      rw [tag_Right.lo0] at AL0
      clear AL2137
      have AL2137 := Aside0.mk AL0
      clear AL0
      by_cases c2141 : x2140 < 5
      · replace AL2137 := if_yes c2141 AL2137
        have c2141b0 : decide (x2140 < 5) = true := decide_eq_true c2141
        clear c2141
        by_cases c2142 : 0 ≤ x2140
        · replace AL2137 := if_yes c2142 AL2137
          have c2142b0 : decide (0 ≤ x2140) = true := decide_eq_true c2142
          have c2142p : (0 ≤ x2140) = True := eq_true c2142
          clear c2142
          have ip2143 : (x2140 < 5) = True := eq_true (of_decide_eq_true c2141b0)
          have ix2144 : ∀ w, (Instr.index 108 (.agg #[.int .i64 t2121.1, .int .i64 t2121.2.1, .int .i64 t2121.2.2.1, .int .i64 t2121.2.2.2.1, .int .i64 t2121.2.2.2.2]) (.int .i64 x2140)).run Tryd.prog w = .ok (.int .i64 (rd [t2121.1, t2121.2.1, t2121.2.2.1, t2121.2.2.2.1, t2121.2.2.2.2] x2140)) w := run_index_ints 108 3 5 .i64 .i64 [t2121.1, t2121.2.1, t2121.2.2.1, t2121.2.2.2.1, t2121.2.2.2.2] x2140 Tryd.underlying108 (fun _ => by kernel_rfl) (fun _ => by kernel_rfl) rfl (of_decide_eq_true c2142b0) (of_decide_eq_true c2141b0)
          by_cases c2145 : (rd [t2121.1, t2121.2.1, t2121.2.2.1, t2121.2.2.2.1, t2121.2.2.2.2] x2140) = 0
          · replace AL2137 := if_yes c2145 AL2137
            have c2145b0 : ((rd [t2121.1, t2121.2.1, t2121.2.2.1, t2121.2.2.2.1, t2121.2.2.2.2] x2140) == 0) = true := beq_iff_eq.mpr c2145
            have c2145b1 : ((rd [t2121.1, t2121.2.1, t2121.2.2.1, t2121.2.2.2.1, t2121.2.2.2.2] x2140) != 0) = false := bne_eq_false_iff_eq.mpr c2145
            clear c2145
            go_wp2_with fail
            go_roundg k2139
            case measure => exact Nat.lt_succ_self _
            case rel => exact ⟨(wrap64 (x2140 + 1)), (by first | rfl | (simp [IntKind.wrap_u32]; done)), Aside0.mk AL2137.out, ⟨HS.out⟩⟩
          · replace AL2137 := if_no c2145 AL2137
            have c2145b0 : ((rd [t2121.1, t2121.2.1, t2121.2.2.1, t2121.2.2.2.1, t2121.2.2.2.2] x2140) == 0) = false := beq_eq_false_iff_ne.mpr c2145
            have c2145b1 : ((rd [t2121.1, t2121.2.1, t2121.2.2.1, t2121.2.2.2.1, t2121.2.2.2.2] x2140) != 0) = true := bne_iff_ne.mpr c2145
            clear c2145
            by_cases c2146 : (rd [t2121.1, t2121.2.1, t2121.2.2.1, t2121.2.2.2.1, t2121.2.2.2.2] x2140) = 1
            · replace AL2137 := if_yes c2146 AL2137
              have c2146b0 : ((rd [t2121.1, t2121.2.1, t2121.2.2.1, t2121.2.2.2.1, t2121.2.2.2.2] x2140) == 1) = true := beq_iff_eq.mpr c2146
              have c2146b1 : ((rd [t2121.1, t2121.2.1, t2121.2.2.1, t2121.2.2.2.1, t2121.2.2.2.2] x2140) != 1) = false := bne_eq_false_iff_eq.mpr c2146
              clear c2146
              go_wp2_with fail
              go_roundg k2139
              case measure => exact Nat.lt_succ_self _
              case rel => exact ⟨(wrap64 (x2140 + 1)), (by first | rfl | (simp [IntKind.wrap_u32]; done)), Aside0.mk AL2137.out, ⟨HS.out⟩⟩
            · replace AL2137 := if_no c2146 AL2137
              have c2146b0 : ((rd [t2121.1, t2121.2.1, t2121.2.2.1, t2121.2.2.2.1, t2121.2.2.2.2] x2140) == 1) = false := beq_eq_false_iff_ne.mpr c2146
              have c2146b1 : ((rd [t2121.1, t2121.2.1, t2121.2.2.1, t2121.2.2.2.1, t2121.2.2.2.2] x2140) != 1) = true := bne_iff_ne.mpr c2146
              clear c2146
              go_wp2_with fail
              have ho := some_eq AL2137
              subst ho
              have H := lp_ret H
              go_ret
              rw [← some_eq H]
              exact ⟨(by first | rfl | (simp [IntKind.wrap_u32]; done)), HS.out.sub (.cons _ .slnil)⟩
        · replace AL2137 := if_no c2142 AL2137
          have c2142b0 : decide (0 ≤ x2140) = false := decide_eq_false c2142
          clear c2142
          exact (none_no AL2137).elim
      · replace AL2137 := if_no c2141 AL2137
        have c2141b0 : decide (x2140 < 5) = false := decide_eq_false c2141
        clear c2141
        have ho := some_eq AL2137
        subst ho
        clear AL2137
        have H := lp_out H
        by_cases c2148 : a2070 = 1
        · replace H := if_yes c2148 H
          have c2148b0 : (a2070 == 1) = true := beq_iff_eq.mpr c2148
          have c2148b1 : (a2070 != 1) = false := bne_eq_false_iff_eq.mpr c2148
          clear c2148
          have hc2147 : w2138.cell? ⟨g2077, 0, none⟩ = some (.int .i64 a2070) := blk_cellv (HS.out.at0) 0 rfl
          have hc2149 : w2138.cell? ⟨g2077, 6, none⟩ = some (.int .i64 a2076) := blk_cellv (HS.out.at0) 6 rfl
          replace HS : Aside0 (Sep (fps []) w [] w2138) := ⟨HS.out.sub (.cons _ .slnil)⟩
          go_wp2_with fail
          clear hc2147 hc2149
          go_ret
          rw [← some_eq H]
          exact ⟨(by first | rfl | (simp [IntKind.wrap_u32]; done)), HS.out⟩
        · replace H := if_no c2148 H
          have c2148b0 : (a2070 == 1) = false := beq_eq_false_iff_ne.mpr c2148
          have c2148b1 : (a2070 != 1) = true := bne_iff_ne.mpr c2148
          clear c2148
          by_cases c2150 : a2070 = 2
          · replace H := if_yes c2150 H
            have c2150b0 : (a2070 == 2) = true := beq_iff_eq.mpr c2150
            have c2150b1 : (a2070 != 2) = false := bne_eq_false_iff_eq.mpr c2150
            clear c2150
            have hc2147 : w2138.cell? ⟨g2077, 0, none⟩ = some (.int .i64 a2070) := blk_cellv (HS.out.at0) 0 rfl
            have hc2151 : w2138.cell? ⟨g2077, 6, none⟩ = some (.int .i64 a2076) := blk_cellv (HS.out.at0) 6 rfl
            replace HS : Aside0 (Sep (fps []) w [] w2138) := ⟨HS.out.sub (.cons _ .slnil)⟩
            go_wp2_with fail
            clear hc2147 hc2151
            go_ret
            rw [← some_eq H]
            exact ⟨(by first | rfl | (simp [IntKind.wrap_u32]; done)), HS.out⟩
          · replace H := if_no c2150 H
            have c2150b0 : (a2070 == 2) = false := beq_eq_false_iff_ne.mpr c2150
            have c2150b1 : (a2070 != 2) = true := bne_iff_ne.mpr c2150
            clear c2150
            by_cases c2152 : a2070 = 0
            · replace H := if_yes c2152 H
              have c2152b0 : (a2070 == 0) = true := beq_iff_eq.mpr c2152
              have c2152b1 : (a2070 != 0) = false := bne_eq_false_iff_eq.mpr c2152
              clear c2152
              have hc2147 : w2138.cell? ⟨g2077, 0, none⟩ = some (.int .i64 a2070) := blk_cellv (HS.out.at0) 0 rfl
              go_wp2_with fail
              clear hc2147
              refine start_ (n := 25) (S := (fun w' => w'.cell? ⟨g2077, 0, none⟩ = some (.int .i64 a2070) ∧ w'.cell? ⟨g2077, 1, none⟩ = some (.int .i64 a2071) ∧ w'.cell? ⟨g2077, 2, none⟩ = some (.int .i64 a2072) ∧ w'.cell? ⟨g2077, 3, none⟩ = some (.int .i64 a2073) ∧ w'.cell? ⟨g2077, 4, none⟩ = some (.int .i64 a2074) ∧ w'.cell? ⟨g2077, 5, none⟩ = some (.int .i64 a2075) ∧ w'.cell? ⟨g2077, 6, none⟩ = some (.int .i64 a2076) ∧ w'.cell? ⟨0, 0, none⟩ = some (.int .i64 0) ∧ w'.cell? ⟨0, 1, none⟩ = some (.int .i64 0) ∧ w'.cell? ⟨0, 2, none⟩ = some (.int .i64 0) ∧ w'.cell? ⟨0, 3, none⟩ = some (.int .i64 0) ∧ w'.cell? ⟨0, 4, none⟩ = some (.int .i64 0))) (ds := []) #[false, false, false, false, false, false, false, false, false, false, false, false, false, false, false, false, false, false, false, false, false, false, false, false, false] (by kernel_rfl) rfl rfl (⟨blk_cellv ((HS.out.drew).at0) 0 rfl, blk_cellv ((HS.out.drew).at0) 1 rfl, blk_cellv ((HS.out.drew).at0) 2 rfl, blk_cellv ((HS.out.drew).at0) 3 rfl, blk_cellv ((HS.out.drew).at0) 4 rfl, blk_cellv ((HS.out.drew).at0) 5 rfl, blk_cellv ((HS.out.drew).at0) 6 rfl, Gl.cell HGl0.out (HS.out.drew).fr 0 rfl, Gl.cell HGl0.out (HS.out.drew).fr 1 rfl, Gl.cell HGl0.out (HS.out.drew).fr 2 rfl, Gl.cell HGl0.out (HS.out.drew).fr 3 rfl, Gl.cell HGl0.out (HS.out.drew).fr 4 rfl⟩) (fun hHeld => ?_)
              have HS_ := Aside0.mk HS.out.drew
              clear HS
              generalize World.drew _ = w2154 at HS_ hHeld ⊢
              have HS := HS_
              clear HS_
              refine take_ (i := 0) (N := some 28) (v := ?_) (a' := ?_) #[true, false, false, false, false, false, false, false, false, false, false, false, false, false, false, false, false, false, false, false, false, false, false, false, false] rfl rfl (by kernel_rfl) (fun _ _ _ h => h) (Or.inl ⟨by rfl, ?_⟩) hHeld ?_ ?_
              rotate_left
              · rintro w' hS'
                obtain ⟨s0, s1, s2, s3, s4, s5, s6, s7, s8, s9, s10, s11⟩ := hS'
                go_simp
                with_reducible rfl
              rotate_left
              · simp only [Act.put, List.setIfInBounds_toArray, List.set_cons_zero, List.set_cons_succ, i64_w, i32_w]
                rfl
              refine take_ (i := 2) (N := some 30) (v := ?_) (a' := ?_) #[true, false, true, false, false, false, false, false, false, false, false, false, false, false, false, false, false, false, false, false, false, false, false, false, false] rfl rfl (by kernel_rfl) (fun _ _ _ h => h) (Or.inl ⟨by rfl, ?_⟩) hHeld ?_ ?_
              rotate_left
              · rintro w' hS'
                obtain ⟨s0, s1, s2, s3, s4, s5, s6, s7, s8, s9, s10, s11⟩ := hS'
                go_simp
                with_reducible rfl
              rotate_left
              · simp only [Act.put, List.setIfInBounds_toArray, List.set_cons_zero, List.set_cons_succ, i64_w, i32_w]
                rfl
              refine one_ (i := 1) (N := some 29) #[true, true, true, false, false, false, false, false, false, false, false, false, false, false, false, false, false, false, false, false, false, false, false, false, false] rfl rfl (by kernel_rfl) (by decide) (fun K hK => ?_)
              obtain ⟨t2155, HA2156, H⟩ := bind_some H
              refine goes_ Tryd.func68 (by kernel_rfl) rfl #[.agg #[.int .i64 a2070, .int .i64 a2071, .int .i64 a2072, .int .i64 a2073, .int .i64 a2074, .int .i64 a2075, .int .i64 a2076]] (by rfl) rfl rfl (by (try simp only [List.map_toArray, List.map_cons, List.map_nil]); first | done | rfl) ?_
              refine (tag_marks.calls a2070 a2071 a2072 a2073 a2074 a2075 a2076 t2155 _ ⟨HGl0.out.pass (l := []) HS.out⟩ ⟨Sep.start _⟩ HA2156).mono ?_
              rintro e_ w2157 ⟨rfl, hS⟩
              replace HS : Aside0 (Sep (fps []) w [b11 g2077 a2070 a2071 a2072 a2073 a2074 a2075 a2076] w2157) := ⟨HS.out.call hS⟩
              clear hS
              refine ⟨_, rfl, ?_⟩
              refine hK.out _ _ (⟨blk_cellv (HS.out.at0) 0 rfl, blk_cellv (HS.out.at0) 1 rfl, blk_cellv (HS.out.at0) 2 rfl, blk_cellv (HS.out.at0) 3 rfl, blk_cellv (HS.out.at0) 4 rfl, blk_cellv (HS.out.at0) 5 rfl, blk_cellv (HS.out.at0) 6 rfl, Gl.cell HGl0.out HS.out.fr 0 rfl, Gl.cell HGl0.out HS.out.fr 1 rfl, Gl.cell HGl0.out HS.out.fr 2 rfl, Gl.cell HGl0.out HS.out.fr 3 rfl, Gl.cell HGl0.out HS.out.fr 4 rfl⟩) (fun hHeld => ?_)
              clear hK K
              refine norm_ (a' := ?_) ?_ ?_
              rotate_left
              · show Act.put _ (some 29) _ = _
                simp only [Act.put, List.setIfInBounds_toArray, List.set_cons_zero, List.set_cons_succ, i64_w, i32_w]
                rfl
              obtain ⟨b2159, HA2160, H⟩ := bind_some H
              have eb2158 : ∀ w, (Op.equalIn 10000 108 (.agg #[.int .i64 t2155.1, .int .i64 t2155.2.1, .int .i64 t2155.2.2.1, .int .i64 t2155.2.2.2.1, .int .i64 t2155.2.2.2.2]) (.agg #[.int .i64 0, .int .i64 0, .int .i64 0, .int .i64 0, .int .i64 0])).run Tryd.prog w = .ok b2159 w := some_eq HA2160 ▸ run_eq_ints 9998 108 3 5 .i64 [t2155.1, t2155.2.1, t2155.2.2.1, t2155.2.2.2.1, t2155.2.2.2.2] [0, 0, 0, 0, 0] Tryd.underlying108 (by kernel_rfl) (by kernel_rfl) Tryd.underlying3 (fun _ => by kernel_rfl) rfl rfl
              refine pure_ (i := 3) (N := some 31) (v := ?_) (a' := ?_) #[true, true, true, true, false, false, false, false, false, false, false, false, false, false, false, false, false, false, false, false, false, false, false, false, false] rfl rfl (by kernel_rfl) (fun _ _ _ h => h) (Or.inl ⟨by rfl, ?_⟩) ?_ ?_
              rotate_left
              · intro w'
                go_simp
                with_reducible rfl
              rotate_left
              · simp only [Act.put, List.setIfInBounds_toArray, List.set_cons_zero, List.set_cons_succ, i64_w, i32_w]
                rfl
              refine pure_ (i := 4) (N := some 32) (v := ?_) (a' := ?_) #[true, true, true, true, true, false, false, false, false, false, false, false, false, false, false, false, false, false, false, false, false, false, false, false, false] rfl rfl (by kernel_rfl) (fun _ _ _ h => h) (Or.inl ⟨by rfl, ?_⟩) ?_ ?_
              rotate_left
              · intro w'
                go_simp
                with_reducible rfl
              rotate_left
              · simp only [Act.put, List.setIfInBounds_toArray, List.set_cons_zero, List.set_cons_succ, i64_w, i32_w]
                rfl
              by_cases c2161 : b2159 = true
              · replace H := if_yes c2161 H
                have c2161b0 : b2159 = true := c2161
                have c2161b1 : (!b2159) = false := by rw [c2161b0]; rfl
                clear c2161
                try simp only [c2161b0, Bool.not_true, Bool.not_false]
                refine pure_ (i := 5) (N := some 33) (v := ?_) (a' := ?_) #[true, true, true, true, true, true, false, false, false, false, false, false, false, false, false, false, false, false, false, false, false, false, false, false, false] rfl rfl (by kernel_rfl) (fun _ _ _ h => h) (Or.inl ⟨by rfl, ?_⟩) ?_ ?_
                rotate_left
                · intro w'
                  go_simp
                  with_reducible rfl
                rotate_left
                · simp only [Act.put, List.setIfInBounds_toArray, List.set_cons_zero, List.set_cons_succ, i64_w, i32_w]
                  rfl
                try simp only [c2161b0, Bool.not_true, Bool.not_false]
                refine take_ (i := 6) (N := some 34) (v := ?_) (a' := ?_) #[true, true, true, true, true, true, true, false, false, false, false, false, false, false, false, false, false, false, false, false, false, false, false, false, false] rfl rfl (by kernel_rfl) (fun _ _ _ h => h) (Or.inl ⟨by rfl, ?_⟩) hHeld ?_ ?_
                rotate_left
                · rintro w' hS'
                  obtain ⟨s0, s1, s2, s3, s4, s5, s6, s7, s8, s9, s10, s11⟩ := hS'
                  go_simp
                  with_reducible rfl
                rotate_left
                · simp only [Act.put, List.setIfInBounds_toArray, List.set_cons_zero, List.set_cons_succ, i64_w, i32_w]
                  rfl
                try simp only [c2161b0, Bool.not_true, Bool.not_false]
                refine pure_ (i := 7) (N := some 35) (v := ?_) (a' := ?_) #[true, true, true, true, true, true, true, true, false, false, false, false, false, false, false, false, false, false, false, false, false, false, false, false, false] rfl rfl (by kernel_rfl) (fun _ _ _ h => h) (Or.inl ⟨by rfl, ?_⟩) ?_ ?_
                rotate_left
                · intro w'
                  go_simp
                  with_reducible rfl
                rotate_left
                · simp only [Act.put, List.setIfInBounds_toArray, List.set_cons_zero, List.set_cons_succ, i64_w, i32_w]
                  rfl
                refine pure_ (i := 8) (N := some 36) (v := ?_) (a' := ?_) #[true, true, true, true, true, true, true, true, true, false, false, false, false, false, false, false, false, false, false, false, false, false, false, false, false] rfl rfl (by kernel_rfl) (fun _ _ _ h => h) (Or.inl ⟨by rfl, ?_⟩) ?_ ?_
                rotate_left
                · intro w'
                  go_simp
                  with_reducible rfl
                rotate_left
                · simp only [Act.put, List.setIfInBounds_toArray, List.set_cons_zero, List.set_cons_succ, i64_w, i32_w]
                  rfl
                refine pure_ (i := 9) (N := some 37) (v := ?_) (a' := ?_) #[true, true, true, true, true, true, true, true, true, true, false, false, false, false, false, false, false, false, false, false, false, false, false, false, false] rfl rfl (by kernel_rfl) (fun _ _ _ h => h) (Or.inl ⟨by rfl, ?_⟩) ?_ ?_
                rotate_left
                · intro w'
                  go_simp
                  with_reducible rfl
                rotate_left
                · simp only [Act.put, List.setIfInBounds_toArray, List.set_cons_zero, List.set_cons_succ, i64_w, i32_w]
                  rfl
                by_cases c2162 : a2076 ≥ 0
                · replace H := if_yes c2162 H
                  have c2162b0 : decide (0 ≤ a2076) = true := decide_eq_true c2162
                  clear c2162
                  try simp only [c2162b0, Bool.not_true, Bool.not_false]
                  refine pure_ (i := 10) (N := some 38) (v := ?_) (a' := ?_) #[true, true, true, true, true, true, true, true, true, true, true, false, false, false, false, false, false, false, false, false, false, false, false, false, false] rfl rfl (by kernel_rfl) (fun _ _ _ h => h) (Or.inl ⟨by rfl, ?_⟩) ?_ ?_
                  rotate_left
                  · intro w'
                    go_simp
                    with_reducible rfl
                  rotate_left
                  · simp only [Act.put, List.setIfInBounds_toArray, List.set_cons_zero, List.set_cons_succ, i64_w, i32_w]
                    rfl
                  try simp only [c2162b0, Bool.not_true, Bool.not_false]
                  refine take_ (i := 11) (N := some 39) (v := ?_) (a' := ?_) #[true, true, true, true, true, true, true, true, true, true, true, true, false, false, false, false, false, false, false, false, false, false, false, false, false] rfl rfl (by kernel_rfl) (fun _ _ _ h => h) (Or.inl ⟨by rfl, ?_⟩) hHeld ?_ ?_
                  rotate_left
                  · rintro w' hS'
                    obtain ⟨s0, s1, s2, s3, s4, s5, s6, s7, s8, s9, s10, s11⟩ := hS'
                    go_simp
                    with_reducible rfl
                  rotate_left
                  · simp only [Act.put, List.setIfInBounds_toArray, List.set_cons_zero, List.set_cons_succ, i64_w, i32_w]
                    rfl
                  try simp only [c2162b0, Bool.not_true, Bool.not_false]
                  refine pure_ (i := 12) (N := some 40) (v := ?_) (a' := ?_) #[true, true, true, true, true, true, true, true, true, true, true, true, true, false, false, false, false, false, false, false, false, false, false, false, false] rfl rfl (by kernel_rfl) (fun _ _ _ h => h) (Or.inl ⟨by rfl, ?_⟩) ?_ ?_
                  rotate_left
                  · intro w'
                    go_simp
                    with_reducible rfl
                  rotate_left
                  · simp only [Act.put, List.setIfInBounds_toArray, List.set_cons_zero, List.set_cons_succ, i64_w, i32_w]
                    rfl
                  refine pure_ (i := 13) (N := some 41) (v := ?_) (a' := ?_) #[true, true, true, true, true, true, true, true, true, true, true, true, true, true, false, false, false, false, false, false, false, false, false, false, false] rfl rfl (by kernel_rfl) (fun _ _ _ h => h) (Or.inl ⟨by rfl, ?_⟩) ?_ ?_
                  rotate_left
                  · intro w'
                    go_simp
                    with_reducible rfl
                  rotate_left
                  · simp only [Act.put, List.setIfInBounds_toArray, List.set_cons_zero, List.set_cons_succ, i64_w, i32_w]
                    rfl
                  refine pure_ (i := 14) (N := some 42) (v := ?_) (a' := ?_) #[true, true, true, true, true, true, true, true, true, true, true, true, true, true, true, false, false, false, false, false, false, false, false, false, false] rfl rfl (by kernel_rfl) (fun _ _ _ h => h) (Or.inl ⟨by rfl, ?_⟩) ?_ ?_
                  rotate_left
                  · intro w'
                    go_simp
                    with_reducible rfl
                  rotate_left
                  · simp only [Act.put, List.setIfInBounds_toArray, List.set_cons_zero, List.set_cons_succ, i64_w, i32_w]
                    rfl
                  by_cases c2163 : a2076 < 1048576
                  · replace H := if_yes c2163 H
                    have c2163b0 : decide (a2076 < 1048576) = true := decide_eq_true c2163
                    clear c2163
                    try simp only [c2163b0, Bool.not_true, Bool.not_false]
                    refine pure_ (i := 15) (N := some 43) (v := ?_) (a' := ?_) #[true, true, true, true, true, true, true, true, true, true, true, true, true, true, true, true, false, false, false, false, false, false, false, false, false] rfl rfl (by kernel_rfl) (fun _ _ _ h => h) (Or.inl ⟨by rfl, ?_⟩) ?_ ?_
                    rotate_left
                    · intro w'
                      go_simp
                      with_reducible rfl
                    rotate_left
                    · simp only [Act.put, List.setIfInBounds_toArray, List.set_cons_zero, List.set_cons_succ, i64_w, i32_w]
                      rfl
                    try simp only [c2163b0, Bool.not_true, Bool.not_false]
                    refine take_ (i := 16) (N := some 44) (v := ?_) (a' := ?_) #[true, true, true, true, true, true, true, true, true, true, true, true, true, true, true, true, true, false, false, false, false, false, false, false, false] rfl rfl (by kernel_rfl) (fun _ _ _ h => h) (Or.inl ⟨by rfl, ?_⟩) hHeld ?_ ?_
                    rotate_left
                    · rintro w' hS'
                      obtain ⟨s0, s1, s2, s3, s4, s5, s6, s7, s8, s9, s10, s11⟩ := hS'
                      go_simp
                      with_reducible rfl
                    rotate_left
                    · simp only [Act.put, List.setIfInBounds_toArray, List.set_cons_zero, List.set_cons_succ, i64_w, i32_w]
                      rfl
                    try simp only [c2163b0, Bool.not_true, Bool.not_false]
                    refine pure_ (i := 17) (N := some 45) (v := ?_) (a' := ?_) #[true, true, true, true, true, true, true, true, true, true, true, true, true, true, true, true, true, true, false, false, false, false, false, false, false] rfl rfl (by kernel_rfl) (fun _ _ _ h => h) (Or.inl ⟨by rfl, ?_⟩) ?_ ?_
                    rotate_left
                    · intro w'
                      go_simp
                      with_reducible rfl
                    rotate_left
                    · simp only [Act.put, List.setIfInBounds_toArray, List.set_cons_zero, List.set_cons_succ, i64_w, i32_w]
                      rfl
                    try simp only [c2163b0, Bool.not_true, Bool.not_false]
                    refine pure_ (i := 18) (N := some 46) (v := ?_) (a' := ?_) #[true, true, true, true, true, true, true, true, true, true, true, true, true, true, true, true, true, true, true, false, false, false, false, false, false] rfl rfl (by kernel_rfl) (fun _ _ _ h => h) (Or.inl ⟨by rfl, ?_⟩) ?_ ?_
                    rotate_left
                    · intro w'
                      go_simp
                      with_reducible rfl
                    rotate_left
                    · simp only [Act.put, List.setIfInBounds_toArray, List.set_cons_zero, List.set_cons_succ, i64_w, i32_w]
                      rfl
                    by_cases c2164 : a2070 = 3
                    · replace H := if_yes c2164 H
                      have c2164b0 : (a2070 == 3) = true := beq_iff_eq.mpr c2164
                      have c2164b1 : (a2070 != 3) = false := bne_eq_false_iff_eq.mpr c2164
                      clear c2164
                      try simp only [c2164b0, c2164b1, Bool.not_true, Bool.not_false]
                      refine pure_ (i := 19) (N := some 47) (v := undef) (a' := ?_) #[true, true, true, true, true, true, true, true, true, true, true, true, true, true, true, true, true, true, true, true, false, false, false, false, false] rfl rfl (by kernel_rfl) (fun _ _ _ h => h) (Or.inr ⟨by rfl, rfl⟩) ?_ ?_
                      rotate_left
                      · simp only [Act.put, List.setIfInBounds_toArray, List.set_cons_zero, List.set_cons_succ, i64_w, i32_w]
                        rfl
                      try simp only [c2164b0, c2164b1, Bool.not_true, Bool.not_false]
                      refine pure_ (i := 20) (N := some 48) (v := undef) (a' := ?_) #[true, true, true, true, true, true, true, true, true, true, true, true, true, true, true, true, true, true, true, true, true, false, false, false, false] rfl rfl (by kernel_rfl) (fun _ _ _ h => h) (Or.inr ⟨by rfl, rfl⟩) ?_ ?_
                      rotate_left
                      · simp only [Act.put, List.setIfInBounds_toArray, List.set_cons_zero, List.set_cons_succ, i64_w, i32_w]
                        rfl
                      try simp only [c2164b0, c2164b1, Bool.not_true, Bool.not_false]
                      refine pure_ (i := 21) (N := some 49) (v := undef) (a' := ?_) #[true, true, true, true, true, true, true, true, true, true, true, true, true, true, true, true, true, true, true, true, true, true, false, false, false] rfl rfl (by kernel_rfl) (fun _ _ _ h => h) (Or.inr ⟨by rfl, rfl⟩) ?_ ?_
                      rotate_left
                      · simp only [Act.put, List.setIfInBounds_toArray, List.set_cons_zero, List.set_cons_succ, i64_w, i32_w]
                        rfl
                      try simp only [c2163b0, Bool.not_true, Bool.not_false]
                      refine pure_ (i := 22) (N := some 50) (v := ?_) (a' := ?_) #[true, true, true, true, true, true, true, true, true, true, true, true, true, true, true, true, true, true, true, true, true, true, true, false, false] rfl rfl (by kernel_rfl) (fun _ _ _ h => h) (Or.inl ⟨by rfl, ?_⟩) ?_ ?_
                      rotate_left
                      · intro w'
                        go_simp
                        with_reducible rfl
                      rotate_left
                      · simp only [Act.put, List.setIfInBounds_toArray, List.set_cons_zero, List.set_cons_succ, i64_w, i32_w]
                        rfl
                      refine pure_ (i := 23) (N := some 51) (v := ?_) (a' := ?_) #[true, true, true, true, true, true, true, true, true, true, true, true, true, true, true, true, true, true, true, true, true, true, true, true, false] rfl rfl (by kernel_rfl) (fun _ _ _ h => h) (Or.inl ⟨by rfl, ?_⟩) ?_ ?_
                      rotate_left
                      · intro w'
                        go_simp
                        with_reducible rfl
                      rotate_left
                      · simp only [Act.put, List.setIfInBounds_toArray, List.set_cons_zero, List.set_cons_succ, i64_w, i32_w]
                        rfl
                      refine pure_ (i := 24) (N := some 2) (v := ?_) (a' := ?_) #[true, true, true, true, true, true, true, true, true, true, true, true, true, true, true, true, true, true, true, true, true, true, true, true, true] rfl rfl (by kernel_rfl) (fun _ _ _ h => h) (Or.inl ⟨by rfl, ?_⟩) ?_ ?_
                      rotate_left
                      · intro w'
                        go_simp
                        with_reducible rfl
                      rotate_left
                      · simp only [Act.put, List.setIfInBounds_toArray, List.set_cons_zero, List.set_cons_succ, i64_w, i32_w]
                        rfl
                      refine done_ (by kernel_rfl) ?_
                      replace HS : Aside0 (Sep (fps []) w [] w2157) := ⟨HS.out.sub (.cons _ .slnil)⟩
                      go_wp2_with fail
                      go_ret
                      rw [← some_eq H]
                      exact ⟨(by first | rfl | (simp [IntKind.wrap_u32]; done)), HS.out⟩
                    · replace H := if_no c2164 H
                      have c2164b0 : (a2070 == 3) = false := beq_eq_false_iff_ne.mpr c2164
                      have c2164b1 : (a2070 != 3) = true := bne_iff_ne.mpr c2164
                      clear c2164
                      try simp only [c2164b0, c2164b1, Bool.not_true, Bool.not_false]
                      refine pure_ (i := 19) (N := some 47) (v := ?_) (a' := ?_) #[true, true, true, true, true, true, true, true, true, true, true, true, true, true, true, true, true, true, true, true, false, false, false, false, false] rfl rfl (by kernel_rfl) (fun _ _ _ h => h) (Or.inl ⟨by rfl, ?_⟩) ?_ ?_
                      rotate_left
                      · intro w'
                        go_simp
                        with_reducible rfl
                      rotate_left
                      · simp only [Act.put, List.setIfInBounds_toArray, List.set_cons_zero, List.set_cons_succ, i64_w, i32_w]
                        rfl
                      try simp only [c2164b0, c2164b1, Bool.not_true, Bool.not_false]
                      refine take_ (i := 20) (N := some 48) (v := ?_) (a' := ?_) #[true, true, true, true, true, true, true, true, true, true, true, true, true, true, true, true, true, true, true, true, true, false, false, false, false] rfl rfl (by kernel_rfl) (fun _ _ _ h => h) (Or.inl ⟨by rfl, ?_⟩) hHeld ?_ ?_
                      rotate_left
                      · rintro w' hS'
                        obtain ⟨s0, s1, s2, s3, s4, s5, s6, s7, s8, s9, s10, s11⟩ := hS'
                        go_simp
                        with_reducible rfl
                      rotate_left
                      · simp only [Act.put, List.setIfInBounds_toArray, List.set_cons_zero, List.set_cons_succ, i64_w, i32_w]
                        rfl
                      try simp only [c2164b0, c2164b1, Bool.not_true, Bool.not_false]
                      refine pure_ (i := 21) (N := some 49) (v := ?_) (a' := ?_) #[true, true, true, true, true, true, true, true, true, true, true, true, true, true, true, true, true, true, true, true, true, true, false, false, false] rfl rfl (by kernel_rfl) (fun _ _ _ h => h) (Or.inl ⟨by rfl, ?_⟩) ?_ ?_
                      rotate_left
                      · intro w'
                        go_simp
                        with_reducible rfl
                      rotate_left
                      · simp only [Act.put, List.setIfInBounds_toArray, List.set_cons_zero, List.set_cons_succ, i64_w, i32_w]
                        rfl
                      try simp only [c2163b0, Bool.not_true, Bool.not_false]
                      refine pure_ (i := 22) (N := some 50) (v := ?_) (a' := ?_) #[true, true, true, true, true, true, true, true, true, true, true, true, true, true, true, true, true, true, true, true, true, true, true, false, false] rfl rfl (by kernel_rfl) (fun _ _ _ h => h) (Or.inl ⟨by rfl, ?_⟩) ?_ ?_
                      rotate_left
                      · intro w'
                        go_simp
                        with_reducible rfl
                      rotate_left
                      · simp only [Act.put, List.setIfInBounds_toArray, List.set_cons_zero, List.set_cons_succ, i64_w, i32_w]
                        rfl
                      refine pure_ (i := 23) (N := some 51) (v := ?_) (a' := ?_) #[true, true, true, true, true, true, true, true, true, true, true, true, true, true, true, true, true, true, true, true, true, true, true, true, false] rfl rfl (by kernel_rfl) (fun _ _ _ h => h) (Or.inl ⟨by rfl, ?_⟩) ?_ ?_
                      rotate_left
                      · intro w'
                        go_simp
                        with_reducible rfl
                      rotate_left
                      · simp only [Act.put, List.setIfInBounds_toArray, List.set_cons_zero, List.set_cons_succ, i64_w, i32_w]
                        rfl
                      refine pure_ (i := 24) (N := some 2) (v := ?_) (a' := ?_) #[true, true, true, true, true, true, true, true, true, true, true, true, true, true, true, true, true, true, true, true, true, true, true, true, true] rfl rfl (by kernel_rfl) (fun _ _ _ h => h) (Or.inl ⟨by rfl, ?_⟩) ?_ ?_
                      rotate_left
                      · intro w'
                        go_simp
                        with_reducible rfl
                      rotate_left
                      · simp only [Act.put, List.setIfInBounds_toArray, List.set_cons_zero, List.set_cons_succ, i64_w, i32_w]
                        rfl
                      refine done_ (by kernel_rfl) ?_
                      replace HS : Aside0 (Sep (fps []) w [] w2157) := ⟨HS.out.sub (.cons _ .slnil)⟩
                      go_wp2_with fail
                      go_ret
                      rw [← some_eq H]
                      exact ⟨(by first | rfl | (simp [IntKind.wrap_u32]; done)), HS.out⟩
                  · replace H := if_no c2163 H
                    have c2163b0 : decide (a2076 < 1048576) = false := decide_eq_false c2163
                    clear c2163
                    try simp only [c2163b0, Bool.not_true, Bool.not_false]
                    refine pure_ (i := 15) (N := some 43) (v := undef) (a' := ?_) #[true, true, true, true, true, true, true, true, true, true, true, true, true, true, true, true, false, false, false, false, false, false, false, false, false] rfl rfl (by kernel_rfl) (fun _ _ _ h => h) (Or.inr ⟨by rfl, rfl⟩) ?_ ?_
                    rotate_left
                    · simp only [Act.put, List.setIfInBounds_toArray, List.set_cons_zero, List.set_cons_succ, i64_w, i32_w]
                      rfl
                    try simp only [c2163b0, Bool.not_true, Bool.not_false]
                    refine pure_ (i := 16) (N := some 44) (v := undef) (a' := ?_) #[true, true, true, true, true, true, true, true, true, true, true, true, true, true, true, true, true, false, false, false, false, false, false, false, false] rfl rfl (by kernel_rfl) (fun _ _ _ h => h) (Or.inr ⟨by rfl, rfl⟩) ?_ ?_
                    rotate_left
                    · simp only [Act.put, List.setIfInBounds_toArray, List.set_cons_zero, List.set_cons_succ, i64_w, i32_w]
                      rfl
                    try simp only [c2163b0, Bool.not_true, Bool.not_false]
                    refine pure_ (i := 17) (N := some 45) (v := undef) (a' := ?_) #[true, true, true, true, true, true, true, true, true, true, true, true, true, true, true, true, true, true, false, false, false, false, false, false, false] rfl rfl (by kernel_rfl) (fun _ _ _ h => h) (Or.inr ⟨by rfl, rfl⟩) ?_ ?_
                    rotate_left
                    · simp only [Act.put, List.setIfInBounds_toArray, List.set_cons_zero, List.set_cons_succ, i64_w, i32_w]
                      rfl
                    try simp only [c2163b0, Bool.not_true, Bool.not_false]
                    refine pure_ (i := 18) (N := some 46) (v := undef) (a' := ?_) #[true, true, true, true, true, true, true, true, true, true, true, true, true, true, true, true, true, true, true, false, false, false, false, false, false] rfl rfl (by kernel_rfl) (fun _ _ _ h => h) (Or.inr ⟨by rfl, rfl⟩) ?_ ?_
                    rotate_left
                    · simp only [Act.put, List.setIfInBounds_toArray, List.set_cons_zero, List.set_cons_succ, i64_w, i32_w]
                      rfl
                    refine pure_ (i := 19) (N := some 47) (v := undef) (a' := ?_) #[true, true, true, true, true, true, true, true, true, true, true, true, true, true, true, true, true, true, true, true, false, false, false, false, false] rfl rfl (by kernel_rfl) (fun _ _ _ h => h) (Or.inr ⟨by rfl, rfl⟩) ?_ ?_
                    rotate_left
                    · simp only [Act.put, List.setIfInBounds_toArray, List.set_cons_zero, List.set_cons_succ, i64_w, i32_w]
                      rfl
                    refine pure_ (i := 20) (N := some 48) (v := undef) (a' := ?_) #[true, true, true, true, true, true, true, true, true, true, true, true, true, true, true, true, true, true, true, true, true, false, false, false, false] rfl rfl (by kernel_rfl) (fun _ _ _ h => h) (Or.inr ⟨by rfl, rfl⟩) ?_ ?_
                    rotate_left
                    · simp only [Act.put, List.setIfInBounds_toArray, List.set_cons_zero, List.set_cons_succ, i64_w, i32_w]
                      rfl
                    refine pure_ (i := 21) (N := some 49) (v := undef) (a' := ?_) #[true, true, true, true, true, true, true, true, true, true, true, true, true, true, true, true, true, true, true, true, true, true, false, false, false] rfl rfl (by kernel_rfl) (fun _ _ _ h => h) (Or.inr ⟨by rfl, rfl⟩) ?_ ?_
                    rotate_left
                    · simp only [Act.put, List.setIfInBounds_toArray, List.set_cons_zero, List.set_cons_succ, i64_w, i32_w]
                      rfl
                    try simp only [c2163b0, Bool.not_true, Bool.not_false]
                    refine pure_ (i := 22) (N := some 50) (v := undef) (a' := ?_) #[true, true, true, true, true, true, true, true, true, true, true, true, true, true, true, true, true, true, true, true, true, true, true, false, false] rfl rfl (by kernel_rfl) (fun _ _ _ h => h) (Or.inr ⟨by rfl, rfl⟩) ?_ ?_
                    rotate_left
                    · simp only [Act.put, List.setIfInBounds_toArray, List.set_cons_zero, List.set_cons_succ, i64_w, i32_w]
                      rfl
                    refine pure_ (i := 23) (N := some 51) (v := ?_) (a' := ?_) #[true, true, true, true, true, true, true, true, true, true, true, true, true, true, true, true, true, true, true, true, true, true, true, true, false] rfl rfl (by kernel_rfl) (fun _ _ _ h => h) (Or.inl ⟨by rfl, ?_⟩) ?_ ?_
                    rotate_left
                    · intro w'
                      go_simp
                      with_reducible rfl
                    rotate_left
                    · simp only [Act.put, List.setIfInBounds_toArray, List.set_cons_zero, List.set_cons_succ, i64_w, i32_w]
                      rfl
                    refine pure_ (i := 24) (N := some 2) (v := ?_) (a' := ?_) #[true, true, true, true, true, true, true, true, true, true, true, true, true, true, true, true, true, true, true, true, true, true, true, true, true] rfl rfl (by kernel_rfl) (fun _ _ _ h => h) (Or.inl ⟨by rfl, ?_⟩) ?_ ?_
                    rotate_left
                    · intro w'
                      go_simp
                      with_reducible rfl
                    rotate_left
                    · simp only [Act.put, List.setIfInBounds_toArray, List.set_cons_zero, List.set_cons_succ, i64_w, i32_w]
                      rfl
                    refine done_ (by kernel_rfl) ?_
                    replace HS : Aside0 (Sep (fps []) w [] w2157) := ⟨HS.out.sub (.cons _ .slnil)⟩
                    go_wp2_with fail
                    go_ret
                    rw [← some_eq H]
                    exact ⟨(by first | rfl | (simp [IntKind.wrap_u32]; done)), HS.out⟩
                · replace H := if_no c2162 H
                  have c2162b0 : decide (0 ≤ a2076) = false := decide_eq_false c2162
                  clear c2162
                  try simp only [c2162b0, Bool.not_true, Bool.not_false]
                  refine pure_ (i := 10) (N := some 38) (v := undef) (a' := ?_) #[true, true, true, true, true, true, true, true, true, true, true, false, false, false, false, false, false, false, false, false, false, false, false, false, false] rfl rfl (by kernel_rfl) (fun _ _ _ h => h) (Or.inr ⟨by rfl, rfl⟩) ?_ ?_
                  rotate_left
                  · simp only [Act.put, List.setIfInBounds_toArray, List.set_cons_zero, List.set_cons_succ, i64_w, i32_w]
                    rfl
                  try simp only [c2162b0, Bool.not_true, Bool.not_false]
                  refine pure_ (i := 11) (N := some 39) (v := undef) (a' := ?_) #[true, true, true, true, true, true, true, true, true, true, true, true, false, false, false, false, false, false, false, false, false, false, false, false, false] rfl rfl (by kernel_rfl) (fun _ _ _ h => h) (Or.inr ⟨by rfl, rfl⟩) ?_ ?_
                  rotate_left
                  · simp only [Act.put, List.setIfInBounds_toArray, List.set_cons_zero, List.set_cons_succ, i64_w, i32_w]
                    rfl
                  try simp only [c2162b0, Bool.not_true, Bool.not_false]
                  refine pure_ (i := 12) (N := some 40) (v := undef) (a' := ?_) #[true, true, true, true, true, true, true, true, true, true, true, true, true, false, false, false, false, false, false, false, false, false, false, false, false] rfl rfl (by kernel_rfl) (fun _ _ _ h => h) (Or.inr ⟨by rfl, rfl⟩) ?_ ?_
                  rotate_left
                  · simp only [Act.put, List.setIfInBounds_toArray, List.set_cons_zero, List.set_cons_succ, i64_w, i32_w]
                    rfl
                  refine pure_ (i := 13) (N := some 41) (v := ?_) (a' := ?_) #[true, true, true, true, true, true, true, true, true, true, true, true, true, true, false, false, false, false, false, false, false, false, false, false, false] rfl rfl (by kernel_rfl) (fun _ _ _ h => h) (Or.inl ⟨by rfl, ?_⟩) ?_ ?_
                  rotate_left
                  · intro w'
                    go_simp
                    with_reducible rfl
                  rotate_left
                  · simp only [Act.put, List.setIfInBounds_toArray, List.set_cons_zero, List.set_cons_succ, i64_w, i32_w]
                    rfl
                  refine pure_ (i := 14) (N := some 42) (v := ?_) (a' := ?_) #[true, true, true, true, true, true, true, true, true, true, true, true, true, true, true, false, false, false, false, false, false, false, false, false, false] rfl rfl (by kernel_rfl) (fun _ _ _ h => h) (Or.inl ⟨by rfl, ?_⟩) ?_ ?_
                  rotate_left
                  · intro w'
                    go_simp
                    with_reducible rfl
                  rotate_left
                  · simp only [Act.put, List.setIfInBounds_toArray, List.set_cons_zero, List.set_cons_succ, i64_w, i32_w]
                    rfl
                  refine pure_ (i := 15) (N := some 43) (v := undef) (a' := ?_) #[true, true, true, true, true, true, true, true, true, true, true, true, true, true, true, true, false, false, false, false, false, false, false, false, false] rfl rfl (by kernel_rfl) (fun _ _ _ h => h) (Or.inr ⟨by rfl, rfl⟩) ?_ ?_
                  rotate_left
                  · simp only [Act.put, List.setIfInBounds_toArray, List.set_cons_zero, List.set_cons_succ, i64_w, i32_w]
                    rfl
                  refine pure_ (i := 16) (N := some 44) (v := undef) (a' := ?_) #[true, true, true, true, true, true, true, true, true, true, true, true, true, true, true, true, true, false, false, false, false, false, false, false, false] rfl rfl (by kernel_rfl) (fun _ _ _ h => h) (Or.inr ⟨by rfl, rfl⟩) ?_ ?_
                  rotate_left
                  · simp only [Act.put, List.setIfInBounds_toArray, List.set_cons_zero, List.set_cons_succ, i64_w, i32_w]
                    rfl
                  refine pure_ (i := 17) (N := some 45) (v := undef) (a' := ?_) #[true, true, true, true, true, true, true, true, true, true, true, true, true, true, true, true, true, true, false, false, false, false, false, false, false] rfl rfl (by kernel_rfl) (fun _ _ _ h => h) (Or.inr ⟨by rfl, rfl⟩) ?_ ?_
                  rotate_left
                  · simp only [Act.put, List.setIfInBounds_toArray, List.set_cons_zero, List.set_cons_succ, i64_w, i32_w]
                    rfl
                  refine pure_ (i := 18) (N := some 46) (v := undef) (a' := ?_) #[true, true, true, true, true, true, true, true, true, true, true, true, true, true, true, true, true, true, true, false, false, false, false, false, false] rfl rfl (by kernel_rfl) (fun _ _ _ h => h) (Or.inr ⟨by rfl, rfl⟩) ?_ ?_
                  rotate_left
                  · simp only [Act.put, List.setIfInBounds_toArray, List.set_cons_zero, List.set_cons_succ, i64_w, i32_w]
                    rfl
                  refine pure_ (i := 19) (N := some 47) (v := undef) (a' := ?_) #[true, true, true, true, true, true, true, true, true, true, true, true, true, true, true, true, true, true, true, true, false, false, false, false, false] rfl rfl (by kernel_rfl) (fun _ _ _ h => h) (Or.inr ⟨by rfl, rfl⟩) ?_ ?_
                  rotate_left
                  · simp only [Act.put, List.setIfInBounds_toArray, List.set_cons_zero, List.set_cons_succ, i64_w, i32_w]
                    rfl
                  refine pure_ (i := 20) (N := some 48) (v := undef) (a' := ?_) #[true, true, true, true, true, true, true, true, true, true, true, true, true, true, true, true, true, true, true, true, true, false, false, false, false] rfl rfl (by kernel_rfl) (fun _ _ _ h => h) (Or.inr ⟨by rfl, rfl⟩) ?_ ?_
                  rotate_left
                  · simp only [Act.put, List.setIfInBounds_toArray, List.set_cons_zero, List.set_cons_succ, i64_w, i32_w]
                    rfl
                  refine pure_ (i := 21) (N := some 49) (v := undef) (a' := ?_) #[true, true, true, true, true, true, true, true, true, true, true, true, true, true, true, true, true, true, true, true, true, true, false, false, false] rfl rfl (by kernel_rfl) (fun _ _ _ h => h) (Or.inr ⟨by rfl, rfl⟩) ?_ ?_
                  rotate_left
                  · simp only [Act.put, List.setIfInBounds_toArray, List.set_cons_zero, List.set_cons_succ, i64_w, i32_w]
                    rfl
                  refine pure_ (i := 22) (N := some 50) (v := undef) (a' := ?_) #[true, true, true, true, true, true, true, true, true, true, true, true, true, true, true, true, true, true, true, true, true, true, true, false, false] rfl rfl (by kernel_rfl) (fun _ _ _ h => h) (Or.inr ⟨by rfl, rfl⟩) ?_ ?_
                  rotate_left
                  · simp only [Act.put, List.setIfInBounds_toArray, List.set_cons_zero, List.set_cons_succ, i64_w, i32_w]
                    rfl
                  refine pure_ (i := 23) (N := some 51) (v := ?_) (a' := ?_) #[true, true, true, true, true, true, true, true, true, true, true, true, true, true, true, true, true, true, true, true, true, true, true, true, false] rfl rfl (by kernel_rfl) (fun _ _ _ h => h) (Or.inl ⟨by rfl, ?_⟩) ?_ ?_
                  rotate_left
                  · intro w'
                    go_simp
                    with_reducible rfl
                  rotate_left
                  · simp only [Act.put, List.setIfInBounds_toArray, List.set_cons_zero, List.set_cons_succ, i64_w, i32_w]
                    rfl
                  refine pure_ (i := 24) (N := some 2) (v := ?_) (a' := ?_) #[true, true, true, true, true, true, true, true, true, true, true, true, true, true, true, true, true, true, true, true, true, true, true, true, true] rfl rfl (by kernel_rfl) (fun _ _ _ h => h) (Or.inl ⟨by rfl, ?_⟩) ?_ ?_
                  rotate_left
                  · intro w'
                    go_simp
                    with_reducible rfl
                  rotate_left
                  · simp only [Act.put, List.setIfInBounds_toArray, List.set_cons_zero, List.set_cons_succ, i64_w, i32_w]
                    rfl
                  refine done_ (by kernel_rfl) ?_
                  replace HS : Aside0 (Sep (fps []) w [] w2157) := ⟨HS.out.sub (.cons _ .slnil)⟩
                  go_wp2_with fail
                  go_ret
                  rw [← some_eq H]
                  exact ⟨(by first | rfl | (simp [IntKind.wrap_u32]; done)), HS.out⟩
              · replace H := if_no c2161 H
                have c2161b0 : b2159 = false := by simpa using c2161
                have c2161b1 : (!b2159) = true := by rw [c2161b0]; rfl
                clear c2161
                try simp only [c2161b0, Bool.not_true, Bool.not_false]
                refine pure_ (i := 5) (N := some 33) (v := undef) (a' := ?_) #[true, true, true, true, true, true, false, false, false, false, false, false, false, false, false, false, false, false, false, false, false, false, false, false, false] rfl rfl (by kernel_rfl) (fun _ _ _ h => h) (Or.inr ⟨by rfl, rfl⟩) ?_ ?_
                rotate_left
                · simp only [Act.put, List.setIfInBounds_toArray, List.set_cons_zero, List.set_cons_succ, i64_w, i32_w]
                  rfl
                try simp only [c2161b0, Bool.not_true, Bool.not_false]
                refine pure_ (i := 6) (N := some 34) (v := undef) (a' := ?_) #[true, true, true, true, true, true, true, false, false, false, false, false, false, false, false, false, false, false, false, false, false, false, false, false, false] rfl rfl (by kernel_rfl) (fun _ _ _ h => h) (Or.inr ⟨by rfl, rfl⟩) ?_ ?_
                rotate_left
                · simp only [Act.put, List.setIfInBounds_toArray, List.set_cons_zero, List.set_cons_succ, i64_w, i32_w]
                  rfl
                try simp only [c2161b0, Bool.not_true, Bool.not_false]
                refine pure_ (i := 7) (N := some 35) (v := undef) (a' := ?_) #[true, true, true, true, true, true, true, true, false, false, false, false, false, false, false, false, false, false, false, false, false, false, false, false, false] rfl rfl (by kernel_rfl) (fun _ _ _ h => h) (Or.inr ⟨by rfl, rfl⟩) ?_ ?_
                rotate_left
                · simp only [Act.put, List.setIfInBounds_toArray, List.set_cons_zero, List.set_cons_succ, i64_w, i32_w]
                  rfl
                refine pure_ (i := 8) (N := some 36) (v := ?_) (a' := ?_) #[true, true, true, true, true, true, true, true, true, false, false, false, false, false, false, false, false, false, false, false, false, false, false, false, false] rfl rfl (by kernel_rfl) (fun _ _ _ h => h) (Or.inl ⟨by rfl, ?_⟩) ?_ ?_
                rotate_left
                · intro w'
                  go_simp
                  with_reducible rfl
                rotate_left
                · simp only [Act.put, List.setIfInBounds_toArray, List.set_cons_zero, List.set_cons_succ, i64_w, i32_w]
                  rfl
                refine pure_ (i := 9) (N := some 37) (v := ?_) (a' := ?_) #[true, true, true, true, true, true, true, true, true, true, false, false, false, false, false, false, false, false, false, false, false, false, false, false, false] rfl rfl (by kernel_rfl) (fun _ _ _ h => h) (Or.inl ⟨by rfl, ?_⟩) ?_ ?_
                rotate_left
                · intro w'
                  go_simp
                  with_reducible rfl
                rotate_left
                · simp only [Act.put, List.setIfInBounds_toArray, List.set_cons_zero, List.set_cons_succ, i64_w, i32_w]
                  rfl
                refine pure_ (i := 10) (N := some 38) (v := undef) (a' := ?_) #[true, true, true, true, true, true, true, true, true, true, true, false, false, false, false, false, false, false, false, false, false, false, false, false, false] rfl rfl (by kernel_rfl) (fun _ _ _ h => h) (Or.inr ⟨by rfl, rfl⟩) ?_ ?_
                rotate_left
                · simp only [Act.put, List.setIfInBounds_toArray, List.set_cons_zero, List.set_cons_succ, i64_w, i32_w]
                  rfl
                refine pure_ (i := 11) (N := some 39) (v := undef) (a' := ?_) #[true, true, true, true, true, true, true, true, true, true, true, true, false, false, false, false, false, false, false, false, false, false, false, false, false] rfl rfl (by kernel_rfl) (fun _ _ _ h => h) (Or.inr ⟨by rfl, rfl⟩) ?_ ?_
                rotate_left
                · simp only [Act.put, List.setIfInBounds_toArray, List.set_cons_zero, List.set_cons_succ, i64_w, i32_w]
                  rfl
                refine pure_ (i := 12) (N := some 40) (v := undef) (a' := ?_) #[true, true, true, true, true, true, true, true, true, true, true, true, true, false, false, false, false, false, false, false, false, false, false, false, false] rfl rfl (by kernel_rfl) (fun _ _ _ h => h) (Or.inr ⟨by rfl, rfl⟩) ?_ ?_
                rotate_left
                · simp only [Act.put, List.setIfInBounds_toArray, List.set_cons_zero, List.set_cons_succ, i64_w, i32_w]
                  rfl
                refine pure_ (i := 13) (N := some 41) (v := ?_) (a' := ?_) #[true, true, true, true, true, true, true, true, true, true, true, true, true, true, false, false, false, false, false, false, false, false, false, false, false] rfl rfl (by kernel_rfl) (fun _ _ _ h => h) (Or.inl ⟨by rfl, ?_⟩) ?_ ?_
                rotate_left
                · intro w'
                  go_simp
                  with_reducible rfl
                rotate_left
                · simp only [Act.put, List.setIfInBounds_toArray, List.set_cons_zero, List.set_cons_succ, i64_w, i32_w]
                  rfl
                refine pure_ (i := 14) (N := some 42) (v := ?_) (a' := ?_) #[true, true, true, true, true, true, true, true, true, true, true, true, true, true, true, false, false, false, false, false, false, false, false, false, false] rfl rfl (by kernel_rfl) (fun _ _ _ h => h) (Or.inl ⟨by rfl, ?_⟩) ?_ ?_
                rotate_left
                · intro w'
                  go_simp
                  with_reducible rfl
                rotate_left
                · simp only [Act.put, List.setIfInBounds_toArray, List.set_cons_zero, List.set_cons_succ, i64_w, i32_w]
                  rfl
                refine pure_ (i := 15) (N := some 43) (v := undef) (a' := ?_) #[true, true, true, true, true, true, true, true, true, true, true, true, true, true, true, true, false, false, false, false, false, false, false, false, false] rfl rfl (by kernel_rfl) (fun _ _ _ h => h) (Or.inr ⟨by rfl, rfl⟩) ?_ ?_
                rotate_left
                · simp only [Act.put, List.setIfInBounds_toArray, List.set_cons_zero, List.set_cons_succ, i64_w, i32_w]
                  rfl
                refine pure_ (i := 16) (N := some 44) (v := undef) (a' := ?_) #[true, true, true, true, true, true, true, true, true, true, true, true, true, true, true, true, true, false, false, false, false, false, false, false, false] rfl rfl (by kernel_rfl) (fun _ _ _ h => h) (Or.inr ⟨by rfl, rfl⟩) ?_ ?_
                rotate_left
                · simp only [Act.put, List.setIfInBounds_toArray, List.set_cons_zero, List.set_cons_succ, i64_w, i32_w]
                  rfl
                refine pure_ (i := 17) (N := some 45) (v := undef) (a' := ?_) #[true, true, true, true, true, true, true, true, true, true, true, true, true, true, true, true, true, true, false, false, false, false, false, false, false] rfl rfl (by kernel_rfl) (fun _ _ _ h => h) (Or.inr ⟨by rfl, rfl⟩) ?_ ?_
                rotate_left
                · simp only [Act.put, List.setIfInBounds_toArray, List.set_cons_zero, List.set_cons_succ, i64_w, i32_w]
                  rfl
                refine pure_ (i := 18) (N := some 46) (v := undef) (a' := ?_) #[true, true, true, true, true, true, true, true, true, true, true, true, true, true, true, true, true, true, true, false, false, false, false, false, false] rfl rfl (by kernel_rfl) (fun _ _ _ h => h) (Or.inr ⟨by rfl, rfl⟩) ?_ ?_
                rotate_left
                · simp only [Act.put, List.setIfInBounds_toArray, List.set_cons_zero, List.set_cons_succ, i64_w, i32_w]
                  rfl
                refine pure_ (i := 19) (N := some 47) (v := undef) (a' := ?_) #[true, true, true, true, true, true, true, true, true, true, true, true, true, true, true, true, true, true, true, true, false, false, false, false, false] rfl rfl (by kernel_rfl) (fun _ _ _ h => h) (Or.inr ⟨by rfl, rfl⟩) ?_ ?_
                rotate_left
                · simp only [Act.put, List.setIfInBounds_toArray, List.set_cons_zero, List.set_cons_succ, i64_w, i32_w]
                  rfl
                refine pure_ (i := 20) (N := some 48) (v := undef) (a' := ?_) #[true, true, true, true, true, true, true, true, true, true, true, true, true, true, true, true, true, true, true, true, true, false, false, false, false] rfl rfl (by kernel_rfl) (fun _ _ _ h => h) (Or.inr ⟨by rfl, rfl⟩) ?_ ?_
                rotate_left
                · simp only [Act.put, List.setIfInBounds_toArray, List.set_cons_zero, List.set_cons_succ, i64_w, i32_w]
                  rfl
                refine pure_ (i := 21) (N := some 49) (v := undef) (a' := ?_) #[true, true, true, true, true, true, true, true, true, true, true, true, true, true, true, true, true, true, true, true, true, true, false, false, false] rfl rfl (by kernel_rfl) (fun _ _ _ h => h) (Or.inr ⟨by rfl, rfl⟩) ?_ ?_
                rotate_left
                · simp only [Act.put, List.setIfInBounds_toArray, List.set_cons_zero, List.set_cons_succ, i64_w, i32_w]
                  rfl
                refine pure_ (i := 22) (N := some 50) (v := undef) (a' := ?_) #[true, true, true, true, true, true, true, true, true, true, true, true, true, true, true, true, true, true, true, true, true, true, true, false, false] rfl rfl (by kernel_rfl) (fun _ _ _ h => h) (Or.inr ⟨by rfl, rfl⟩) ?_ ?_
                rotate_left
                · simp only [Act.put, List.setIfInBounds_toArray, List.set_cons_zero, List.set_cons_succ, i64_w, i32_w]
                  rfl
                refine pure_ (i := 23) (N := some 51) (v := ?_) (a' := ?_) #[true, true, true, true, true, true, true, true, true, true, true, true, true, true, true, true, true, true, true, true, true, true, true, true, false] rfl rfl (by kernel_rfl) (fun _ _ _ h => h) (Or.inl ⟨by rfl, ?_⟩) ?_ ?_
                rotate_left
                · intro w'
                  go_simp
                  with_reducible rfl
                rotate_left
                · simp only [Act.put, List.setIfInBounds_toArray, List.set_cons_zero, List.set_cons_succ, i64_w, i32_w]
                  rfl
                refine pure_ (i := 24) (N := some 2) (v := ?_) (a' := ?_) #[true, true, true, true, true, true, true, true, true, true, true, true, true, true, true, true, true, true, true, true, true, true, true, true, true] rfl rfl (by kernel_rfl) (fun _ _ _ h => h) (Or.inl ⟨by rfl, ?_⟩) ?_ ?_
                rotate_left
                · intro w'
                  go_simp
                  with_reducible rfl
                rotate_left
                · simp only [Act.put, List.setIfInBounds_toArray, List.set_cons_zero, List.set_cons_succ, i64_w, i32_w]
                  rfl
                refine done_ (by kernel_rfl) ?_
                replace HS : Aside0 (Sep (fps []) w [] w2157) := ⟨HS.out.sub (.cons _ .slnil)⟩
                go_wp2_with fail
                go_ret
                rw [← some_eq H]
                exact ⟨(by first | rfl | (simp [IntKind.wrap_u32]; done)), HS.out⟩
            · replace H := if_no c2152 H
              have c2152b0 : (a2070 == 0) = false := beq_eq_false_iff_ne.mpr c2152
              have c2152b1 : (a2070 != 0) = true := bne_iff_ne.mpr c2152
              clear c2152
              by_cases c2165 : a2070 = 3
              · replace H := if_yes c2165 H
                have c2165b0 : (a2070 == 3) = true := beq_iff_eq.mpr c2165
                have c2165b1 : (a2070 != 3) = false := bne_eq_false_iff_eq.mpr c2165
                clear c2165
                have hc2147 : w2138.cell? ⟨g2077, 0, none⟩ = some (.int .i64 a2070) := blk_cellv (HS.out.at0) 0 rfl
                go_wp2_with fail
                clear hc2147
                refine start_ (n := 25) (S := (fun w' => w'.cell? ⟨g2077, 0, none⟩ = some (.int .i64 a2070) ∧ w'.cell? ⟨g2077, 1, none⟩ = some (.int .i64 a2071) ∧ w'.cell? ⟨g2077, 2, none⟩ = some (.int .i64 a2072) ∧ w'.cell? ⟨g2077, 3, none⟩ = some (.int .i64 a2073) ∧ w'.cell? ⟨g2077, 4, none⟩ = some (.int .i64 a2074) ∧ w'.cell? ⟨g2077, 5, none⟩ = some (.int .i64 a2075) ∧ w'.cell? ⟨g2077, 6, none⟩ = some (.int .i64 a2076) ∧ w'.cell? ⟨0, 0, none⟩ = some (.int .i64 0) ∧ w'.cell? ⟨0, 1, none⟩ = some (.int .i64 0) ∧ w'.cell? ⟨0, 2, none⟩ = some (.int .i64 0) ∧ w'.cell? ⟨0, 3, none⟩ = some (.int .i64 0) ∧ w'.cell? ⟨0, 4, none⟩ = some (.int .i64 0))) (ds := []) #[false, false, false, false, false, false, false, false, false, false, false, false, false, false, false, false, false, false, false, false, false, false, false, false, false] (by kernel_rfl) rfl rfl (⟨blk_cellv ((HS.out.drew).at0) 0 rfl, blk_cellv ((HS.out.drew).at0) 1 rfl, blk_cellv ((HS.out.drew).at0) 2 rfl, blk_cellv ((HS.out.drew).at0) 3 rfl, blk_cellv ((HS.out.drew).at0) 4 rfl, blk_cellv ((HS.out.drew).at0) 5 rfl, blk_cellv ((HS.out.drew).at0) 6 rfl, Gl.cell HGl0.out (HS.out.drew).fr 0 rfl, Gl.cell HGl0.out (HS.out.drew).fr 1 rfl, Gl.cell HGl0.out (HS.out.drew).fr 2 rfl, Gl.cell HGl0.out (HS.out.drew).fr 3 rfl, Gl.cell HGl0.out (HS.out.drew).fr 4 rfl⟩) (fun hHeld => ?_)
                have HS_ := Aside0.mk HS.out.drew
                clear HS
                generalize World.drew _ = w2167 at HS_ hHeld ⊢
                have HS := HS_
                clear HS_
                refine take_ (i := 0) (N := some 28) (v := ?_) (a' := ?_) #[true, false, false, false, false, false, false, false, false, false, false, false, false, false, false, false, false, false, false, false, false, false, false, false, false] rfl rfl (by kernel_rfl) (fun _ _ _ h => h) (Or.inl ⟨by rfl, ?_⟩) hHeld ?_ ?_
                rotate_left
                · rintro w' hS'
                  obtain ⟨s0, s1, s2, s3, s4, s5, s6, s7, s8, s9, s10, s11⟩ := hS'
                  go_simp
                  with_reducible rfl
                rotate_left
                · simp only [Act.put, List.setIfInBounds_toArray, List.set_cons_zero, List.set_cons_succ, i64_w, i32_w]
                  rfl
                refine take_ (i := 2) (N := some 30) (v := ?_) (a' := ?_) #[true, false, true, false, false, false, false, false, false, false, false, false, false, false, false, false, false, false, false, false, false, false, false, false, false] rfl rfl (by kernel_rfl) (fun _ _ _ h => h) (Or.inl ⟨by rfl, ?_⟩) hHeld ?_ ?_
                rotate_left
                · rintro w' hS'
                  obtain ⟨s0, s1, s2, s3, s4, s5, s6, s7, s8, s9, s10, s11⟩ := hS'
                  go_simp
                  with_reducible rfl
                rotate_left
                · simp only [Act.put, List.setIfInBounds_toArray, List.set_cons_zero, List.set_cons_succ, i64_w, i32_w]
                  rfl
                refine one_ (i := 1) (N := some 29) #[true, true, true, false, false, false, false, false, false, false, false, false, false, false, false, false, false, false, false, false, false, false, false, false, false] rfl rfl (by kernel_rfl) (by decide) (fun K hK => ?_)
                obtain ⟨t2155, HA2168, H⟩ := bind_some H
                refine goes_ Tryd.func68 (by kernel_rfl) rfl #[.agg #[.int .i64 a2070, .int .i64 a2071, .int .i64 a2072, .int .i64 a2073, .int .i64 a2074, .int .i64 a2075, .int .i64 a2076]] (by rfl) rfl rfl (by (try simp only [List.map_toArray, List.map_cons, List.map_nil]); first | done | rfl) ?_
                refine (tag_marks.calls a2070 a2071 a2072 a2073 a2074 a2075 a2076 t2155 _ ⟨HGl0.out.pass (l := []) HS.out⟩ ⟨Sep.start _⟩ HA2168).mono ?_
                rintro e_ w2169 ⟨rfl, hS⟩
                replace HS : Aside0 (Sep (fps []) w [b11 g2077 a2070 a2071 a2072 a2073 a2074 a2075 a2076] w2169) := ⟨HS.out.call hS⟩
                clear hS
                refine ⟨_, rfl, ?_⟩
                refine hK.out _ _ (⟨blk_cellv (HS.out.at0) 0 rfl, blk_cellv (HS.out.at0) 1 rfl, blk_cellv (HS.out.at0) 2 rfl, blk_cellv (HS.out.at0) 3 rfl, blk_cellv (HS.out.at0) 4 rfl, blk_cellv (HS.out.at0) 5 rfl, blk_cellv (HS.out.at0) 6 rfl, Gl.cell HGl0.out HS.out.fr 0 rfl, Gl.cell HGl0.out HS.out.fr 1 rfl, Gl.cell HGl0.out HS.out.fr 2 rfl, Gl.cell HGl0.out HS.out.fr 3 rfl, Gl.cell HGl0.out HS.out.fr 4 rfl⟩) (fun hHeld => ?_)
                clear hK K
                refine norm_ (a' := ?_) ?_ ?_
                rotate_left
                · show Act.put _ (some 29) _ = _
                  simp only [Act.put, List.setIfInBounds_toArray, List.set_cons_zero, List.set_cons_succ, i64_w, i32_w]
                  rfl
                obtain ⟨b2159, HA2171, H⟩ := bind_some H
                have eb2170 : ∀ w, (Op.equalIn 10000 108 (.agg #[.int .i64 t2155.1, .int .i64 t2155.2.1, .int .i64 t2155.2.2.1, .int .i64 t2155.2.2.2.1, .int .i64 t2155.2.2.2.2]) (.agg #[.int .i64 0, .int .i64 0, .int .i64 0, .int .i64 0, .int .i64 0])).run Tryd.prog w = .ok b2159 w := some_eq HA2171 ▸ run_eq_ints 9998 108 3 5 .i64 [t2155.1, t2155.2.1, t2155.2.2.1, t2155.2.2.2.1, t2155.2.2.2.2] [0, 0, 0, 0, 0] Tryd.underlying108 (by kernel_rfl) (by kernel_rfl) Tryd.underlying3 (fun _ => by kernel_rfl) rfl rfl
                refine pure_ (i := 3) (N := some 31) (v := ?_) (a' := ?_) #[true, true, true, true, false, false, false, false, false, false, false, false, false, false, false, false, false, false, false, false, false, false, false, false, false] rfl rfl (by kernel_rfl) (fun _ _ _ h => h) (Or.inl ⟨by rfl, ?_⟩) ?_ ?_
                rotate_left
                · intro w'
                  go_simp
                  with_reducible rfl
                rotate_left
                · simp only [Act.put, List.setIfInBounds_toArray, List.set_cons_zero, List.set_cons_succ, i64_w, i32_w]
                  rfl
                refine pure_ (i := 4) (N := some 32) (v := ?_) (a' := ?_) #[true, true, true, true, true, false, false, false, false, false, false, false, false, false, false, false, false, false, false, false, false, false, false, false, false] rfl rfl (by kernel_rfl) (fun _ _ _ h => h) (Or.inl ⟨by rfl, ?_⟩) ?_ ?_
                rotate_left
                · intro w'
                  go_simp
                  with_reducible rfl
                rotate_left
                · simp only [Act.put, List.setIfInBounds_toArray, List.set_cons_zero, List.set_cons_succ, i64_w, i32_w]
                  rfl
                by_cases c2172 : b2159 = true
                · replace H := if_yes c2172 H
                  have c2172b0 : b2159 = true := c2172
                  have c2172b1 : (!b2159) = false := by rw [c2172b0]; rfl
                  clear c2172
                  try simp only [c2172b0, Bool.not_true, Bool.not_false]
                  refine pure_ (i := 5) (N := some 33) (v := ?_) (a' := ?_) #[true, true, true, true, true, true, false, false, false, false, false, false, false, false, false, false, false, false, false, false, false, false, false, false, false] rfl rfl (by kernel_rfl) (fun _ _ _ h => h) (Or.inl ⟨by rfl, ?_⟩) ?_ ?_
                  rotate_left
                  · intro w'
                    go_simp
                    with_reducible rfl
                  rotate_left
                  · simp only [Act.put, List.setIfInBounds_toArray, List.set_cons_zero, List.set_cons_succ, i64_w, i32_w]
                    rfl
                  try simp only [c2172b0, Bool.not_true, Bool.not_false]
                  refine take_ (i := 6) (N := some 34) (v := ?_) (a' := ?_) #[true, true, true, true, true, true, true, false, false, false, false, false, false, false, false, false, false, false, false, false, false, false, false, false, false] rfl rfl (by kernel_rfl) (fun _ _ _ h => h) (Or.inl ⟨by rfl, ?_⟩) hHeld ?_ ?_
                  rotate_left
                  · rintro w' hS'
                    obtain ⟨s0, s1, s2, s3, s4, s5, s6, s7, s8, s9, s10, s11⟩ := hS'
                    go_simp
                    with_reducible rfl
                  rotate_left
                  · simp only [Act.put, List.setIfInBounds_toArray, List.set_cons_zero, List.set_cons_succ, i64_w, i32_w]
                    rfl
                  try simp only [c2172b0, Bool.not_true, Bool.not_false]
                  refine pure_ (i := 7) (N := some 35) (v := ?_) (a' := ?_) #[true, true, true, true, true, true, true, true, false, false, false, false, false, false, false, false, false, false, false, false, false, false, false, false, false] rfl rfl (by kernel_rfl) (fun _ _ _ h => h) (Or.inl ⟨by rfl, ?_⟩) ?_ ?_
                  rotate_left
                  · intro w'
                    go_simp
                    with_reducible rfl
                  rotate_left
                  · simp only [Act.put, List.setIfInBounds_toArray, List.set_cons_zero, List.set_cons_succ, i64_w, i32_w]
                    rfl
                  refine pure_ (i := 8) (N := some 36) (v := ?_) (a' := ?_) #[true, true, true, true, true, true, true, true, true, false, false, false, false, false, false, false, false, false, false, false, false, false, false, false, false] rfl rfl (by kernel_rfl) (fun _ _ _ h => h) (Or.inl ⟨by rfl, ?_⟩) ?_ ?_
                  rotate_left
                  · intro w'
                    go_simp
                    with_reducible rfl
                  rotate_left
                  · simp only [Act.put, List.setIfInBounds_toArray, List.set_cons_zero, List.set_cons_succ, i64_w, i32_w]
                    rfl
                  refine pure_ (i := 9) (N := some 37) (v := ?_) (a' := ?_) #[true, true, true, true, true, true, true, true, true, true, false, false, false, false, false, false, false, false, false, false, false, false, false, false, false] rfl rfl (by kernel_rfl) (fun _ _ _ h => h) (Or.inl ⟨by rfl, ?_⟩) ?_ ?_
                  rotate_left
                  · intro w'
                    go_simp
                    with_reducible rfl
                  rotate_left
                  · simp only [Act.put, List.setIfInBounds_toArray, List.set_cons_zero, List.set_cons_succ, i64_w, i32_w]
                    rfl
                  by_cases c2173 : a2076 ≥ 0
                  · replace H := if_yes c2173 H
                    have c2173b0 : decide (0 ≤ a2076) = true := decide_eq_true c2173
                    clear c2173
                    try simp only [c2173b0, Bool.not_true, Bool.not_false]
                    refine pure_ (i := 10) (N := some 38) (v := ?_) (a' := ?_) #[true, true, true, true, true, true, true, true, true, true, true, false, false, false, false, false, false, false, false, false, false, false, false, false, false] rfl rfl (by kernel_rfl) (fun _ _ _ h => h) (Or.inl ⟨by rfl, ?_⟩) ?_ ?_
                    rotate_left
                    · intro w'
                      go_simp
                      with_reducible rfl
                    rotate_left
                    · simp only [Act.put, List.setIfInBounds_toArray, List.set_cons_zero, List.set_cons_succ, i64_w, i32_w]
                      rfl
                    try simp only [c2173b0, Bool.not_true, Bool.not_false]
                    refine take_ (i := 11) (N := some 39) (v := ?_) (a' := ?_) #[true, true, true, true, true, true, true, true, true, true, true, true, false, false, false, false, false, false, false, false, false, false, false, false, false] rfl rfl (by kernel_rfl) (fun _ _ _ h => h) (Or.inl ⟨by rfl, ?_⟩) hHeld ?_ ?_
                    rotate_left
                    · rintro w' hS'
                      obtain ⟨s0, s1, s2, s3, s4, s5, s6, s7, s8, s9, s10, s11⟩ := hS'
                      go_simp
                      with_reducible rfl
                    rotate_left
                    · simp only [Act.put, List.setIfInBounds_toArray, List.set_cons_zero, List.set_cons_succ, i64_w, i32_w]
                      rfl
                    try simp only [c2173b0, Bool.not_true, Bool.not_false]
                    refine pure_ (i := 12) (N := some 40) (v := ?_) (a' := ?_) #[true, true, true, true, true, true, true, true, true, true, true, true, true, false, false, false, false, false, false, false, false, false, false, false, false] rfl rfl (by kernel_rfl) (fun _ _ _ h => h) (Or.inl ⟨by rfl, ?_⟩) ?_ ?_
                    rotate_left
                    · intro w'
                      go_simp
                      with_reducible rfl
                    rotate_left
                    · simp only [Act.put, List.setIfInBounds_toArray, List.set_cons_zero, List.set_cons_succ, i64_w, i32_w]
                      rfl
                    refine pure_ (i := 13) (N := some 41) (v := ?_) (a' := ?_) #[true, true, true, true, true, true, true, true, true, true, true, true, true, true, false, false, false, false, false, false, false, false, false, false, false] rfl rfl (by kernel_rfl) (fun _ _ _ h => h) (Or.inl ⟨by rfl, ?_⟩) ?_ ?_
                    rotate_left
                    · intro w'
                      go_simp
                      with_reducible rfl
                    rotate_left
                    · simp only [Act.put, List.setIfInBounds_toArray, List.set_cons_zero, List.set_cons_succ, i64_w, i32_w]
                      rfl
                    refine pure_ (i := 14) (N := some 42) (v := ?_) (a' := ?_) #[true, true, true, true, true, true, true, true, true, true, true, true, true, true, true, false, false, false, false, false, false, false, false, false, false] rfl rfl (by kernel_rfl) (fun _ _ _ h => h) (Or.inl ⟨by rfl, ?_⟩) ?_ ?_
                    rotate_left
                    · intro w'
                      go_simp
                      with_reducible rfl
                    rotate_left
                    · simp only [Act.put, List.setIfInBounds_toArray, List.set_cons_zero, List.set_cons_succ, i64_w, i32_w]
                      rfl
                    by_cases c2174 : a2076 < 1048576
                    · replace H := if_yes c2174 H
                      have c2174b0 : decide (a2076 < 1048576) = true := decide_eq_true c2174
                      clear c2174
                      try simp only [c2174b0, Bool.not_true, Bool.not_false]
                      refine pure_ (i := 15) (N := some 43) (v := ?_) (a' := ?_) #[true, true, true, true, true, true, true, true, true, true, true, true, true, true, true, true, false, false, false, false, false, false, false, false, false] rfl rfl (by kernel_rfl) (fun _ _ _ h => h) (Or.inl ⟨by rfl, ?_⟩) ?_ ?_
                      rotate_left
                      · intro w'
                        go_simp
                        with_reducible rfl
                      rotate_left
                      · simp only [Act.put, List.setIfInBounds_toArray, List.set_cons_zero, List.set_cons_succ, i64_w, i32_w]
                        rfl
                      try simp only [c2174b0, Bool.not_true, Bool.not_false]
                      refine take_ (i := 16) (N := some 44) (v := ?_) (a' := ?_) #[true, true, true, true, true, true, true, true, true, true, true, true, true, true, true, true, true, false, false, false, false, false, false, false, false] rfl rfl (by kernel_rfl) (fun _ _ _ h => h) (Or.inl ⟨by rfl, ?_⟩) hHeld ?_ ?_
                      rotate_left
                      · rintro w' hS'
                        obtain ⟨s0, s1, s2, s3, s4, s5, s6, s7, s8, s9, s10, s11⟩ := hS'
                        go_simp
                        with_reducible rfl
                      rotate_left
                      · simp only [Act.put, List.setIfInBounds_toArray, List.set_cons_zero, List.set_cons_succ, i64_w, i32_w]
                        rfl
                      try simp only [c2174b0, Bool.not_true, Bool.not_false]
                      refine pure_ (i := 17) (N := some 45) (v := ?_) (a' := ?_) #[true, true, true, true, true, true, true, true, true, true, true, true, true, true, true, true, true, true, false, false, false, false, false, false, false] rfl rfl (by kernel_rfl) (fun _ _ _ h => h) (Or.inl ⟨by rfl, ?_⟩) ?_ ?_
                      rotate_left
                      · intro w'
                        go_simp
                        with_reducible rfl
                      rotate_left
                      · simp only [Act.put, List.setIfInBounds_toArray, List.set_cons_zero, List.set_cons_succ, i64_w, i32_w]
                        rfl
                      try simp only [c2174b0, Bool.not_true, Bool.not_false]
                      refine pure_ (i := 18) (N := some 46) (v := ?_) (a' := ?_) #[true, true, true, true, true, true, true, true, true, true, true, true, true, true, true, true, true, true, true, false, false, false, false, false, false] rfl rfl (by kernel_rfl) (fun _ _ _ h => h) (Or.inl ⟨by rfl, ?_⟩) ?_ ?_
                      rotate_left
                      · intro w'
                        go_simp
                        with_reducible rfl
                      rotate_left
                      · simp only [Act.put, List.setIfInBounds_toArray, List.set_cons_zero, List.set_cons_succ, i64_w, i32_w]
                        rfl
                      try simp only [c2165b0, c2165b1, Bool.not_true, Bool.not_false]
                      refine pure_ (i := 19) (N := some 47) (v := undef) (a' := ?_) #[true, true, true, true, true, true, true, true, true, true, true, true, true, true, true, true, true, true, true, true, false, false, false, false, false] rfl rfl (by kernel_rfl) (fun _ _ _ h => h) (Or.inr ⟨by rfl, rfl⟩) ?_ ?_
                      rotate_left
                      · simp only [Act.put, List.setIfInBounds_toArray, List.set_cons_zero, List.set_cons_succ, i64_w, i32_w]
                        rfl
                      try simp only [c2165b0, c2165b1, Bool.not_true, Bool.not_false]
                      refine pure_ (i := 20) (N := some 48) (v := undef) (a' := ?_) #[true, true, true, true, true, true, true, true, true, true, true, true, true, true, true, true, true, true, true, true, true, false, false, false, false] rfl rfl (by kernel_rfl) (fun _ _ _ h => h) (Or.inr ⟨by rfl, rfl⟩) ?_ ?_
                      rotate_left
                      · simp only [Act.put, List.setIfInBounds_toArray, List.set_cons_zero, List.set_cons_succ, i64_w, i32_w]
                        rfl
                      try simp only [c2165b0, c2165b1, Bool.not_true, Bool.not_false]
                      refine pure_ (i := 21) (N := some 49) (v := undef) (a' := ?_) #[true, true, true, true, true, true, true, true, true, true, true, true, true, true, true, true, true, true, true, true, true, true, false, false, false] rfl rfl (by kernel_rfl) (fun _ _ _ h => h) (Or.inr ⟨by rfl, rfl⟩) ?_ ?_
                      rotate_left
                      · simp only [Act.put, List.setIfInBounds_toArray, List.set_cons_zero, List.set_cons_succ, i64_w, i32_w]
                        rfl
                      try simp only [c2174b0, Bool.not_true, Bool.not_false]
                      refine pure_ (i := 22) (N := some 50) (v := ?_) (a' := ?_) #[true, true, true, true, true, true, true, true, true, true, true, true, true, true, true, true, true, true, true, true, true, true, true, false, false] rfl rfl (by kernel_rfl) (fun _ _ _ h => h) (Or.inl ⟨by rfl, ?_⟩) ?_ ?_
                      rotate_left
                      · intro w'
                        go_simp
                        with_reducible rfl
                      rotate_left
                      · simp only [Act.put, List.setIfInBounds_toArray, List.set_cons_zero, List.set_cons_succ, i64_w, i32_w]
                        rfl
                      refine pure_ (i := 23) (N := some 51) (v := ?_) (a' := ?_) #[true, true, true, true, true, true, true, true, true, true, true, true, true, true, true, true, true, true, true, true, true, true, true, true, false] rfl rfl (by kernel_rfl) (fun _ _ _ h => h) (Or.inl ⟨by rfl, ?_⟩) ?_ ?_
                      rotate_left
                      · intro w'
                        go_simp
                        with_reducible rfl
                      rotate_left
                      · simp only [Act.put, List.setIfInBounds_toArray, List.set_cons_zero, List.set_cons_succ, i64_w, i32_w]
                        rfl
                      refine pure_ (i := 24) (N := some 2) (v := ?_) (a' := ?_) #[true, true, true, true, true, true, true, true, true, true, true, true, true, true, true, true, true, true, true, true, true, true, true, true, true] rfl rfl (by kernel_rfl) (fun _ _ _ h => h) (Or.inl ⟨by rfl, ?_⟩) ?_ ?_
                      rotate_left
                      · intro w'
                        go_simp
                        with_reducible rfl
                      rotate_left
                      · simp only [Act.put, List.setIfInBounds_toArray, List.set_cons_zero, List.set_cons_succ, i64_w, i32_w]
                        rfl
                      refine done_ (by kernel_rfl) ?_
                      replace HS : Aside0 (Sep (fps []) w [] w2169) := ⟨HS.out.sub (.cons _ .slnil)⟩
                      go_wp2_with fail
                      go_ret
                      rw [← some_eq H]
                      exact ⟨(by first | rfl | (simp [IntKind.wrap_u32]; done)), HS.out⟩
                    · replace H := if_no c2174 H
                      have c2174b0 : decide (a2076 < 1048576) = false := decide_eq_false c2174
                      clear c2174
                      try simp only [c2174b0, Bool.not_true, Bool.not_false]
                      refine pure_ (i := 15) (N := some 43) (v := undef) (a' := ?_) #[true, true, true, true, true, true, true, true, true, true, true, true, true, true, true, true, false, false, false, false, false, false, false, false, false] rfl rfl (by kernel_rfl) (fun _ _ _ h => h) (Or.inr ⟨by rfl, rfl⟩) ?_ ?_
                      rotate_left
                      · simp only [Act.put, List.setIfInBounds_toArray, List.set_cons_zero, List.set_cons_succ, i64_w, i32_w]
                        rfl
                      try simp only [c2174b0, Bool.not_true, Bool.not_false]
                      refine pure_ (i := 16) (N := some 44) (v := undef) (a' := ?_) #[true, true, true, true, true, true, true, true, true, true, true, true, true, true, true, true, true, false, false, false, false, false, false, false, false] rfl rfl (by kernel_rfl) (fun _ _ _ h => h) (Or.inr ⟨by rfl, rfl⟩) ?_ ?_
                      rotate_left
                      · simp only [Act.put, List.setIfInBounds_toArray, List.set_cons_zero, List.set_cons_succ, i64_w, i32_w]
                        rfl
                      try simp only [c2174b0, Bool.not_true, Bool.not_false]
                      refine pure_ (i := 17) (N := some 45) (v := undef) (a' := ?_) #[true, true, true, true, true, true, true, true, true, true, true, true, true, true, true, true, true, true, false, false, false, false, false, false, false] rfl rfl (by kernel_rfl) (fun _ _ _ h => h) (Or.inr ⟨by rfl, rfl⟩) ?_ ?_
                      rotate_left
                      · simp only [Act.put, List.setIfInBounds_toArray, List.set_cons_zero, List.set_cons_succ, i64_w, i32_w]
                        rfl
                      try simp only [c2174b0, Bool.not_true, Bool.not_false]
                      refine pure_ (i := 18) (N := some 46) (v := undef) (a' := ?_) #[true, true, true, true, true, true, true, true, true, true, true, true, true, true, true, true, true, true, true, false, false, false, false, false, false] rfl rfl (by kernel_rfl) (fun _ _ _ h => h) (Or.inr ⟨by rfl, rfl⟩) ?_ ?_
                      rotate_left
                      · simp only [Act.put, List.setIfInBounds_toArray, List.set_cons_zero, List.set_cons_succ, i64_w, i32_w]
                        rfl
                      refine pure_ (i := 19) (N := some 47) (v := undef) (a' := ?_) #[true, true, true, true, true, true, true, true, true, true, true, true, true, true, true, true, true, true, true, true, false, false, false, false, false] rfl rfl (by kernel_rfl) (fun _ _ _ h => h) (Or.inr ⟨by rfl, rfl⟩) ?_ ?_
                      rotate_left
                      · simp only [Act.put, List.setIfInBounds_toArray, List.set_cons_zero, List.set_cons_succ, i64_w, i32_w]
                        rfl
                      refine pure_ (i := 20) (N := some 48) (v := undef) (a' := ?_) #[true, true, true, true, true, true, true, true, true, true, true, true, true, true, true, true, true, true, true, true, true, false, false, false, false] rfl rfl (by kernel_rfl) (fun _ _ _ h => h) (Or.inr ⟨by rfl, rfl⟩) ?_ ?_
                      rotate_left
                      · simp only [Act.put, List.setIfInBounds_toArray, List.set_cons_zero, List.set_cons_succ, i64_w, i32_w]
                        rfl
                      refine pure_ (i := 21) (N := some 49) (v := undef) (a' := ?_) #[true, true, true, true, true, true, true, true, true, true, true, true, true, true, true, true, true, true, true, true, true, true, false, false, false] rfl rfl (by kernel_rfl) (fun _ _ _ h => h) (Or.inr ⟨by rfl, rfl⟩) ?_ ?_
                      rotate_left
                      · simp only [Act.put, List.setIfInBounds_toArray, List.set_cons_zero, List.set_cons_succ, i64_w, i32_w]
                        rfl
                      try simp only [c2174b0, Bool.not_true, Bool.not_false]
                      refine pure_ (i := 22) (N := some 50) (v := undef) (a' := ?_) #[true, true, true, true, true, true, true, true, true, true, true, true, true, true, true, true, true, true, true, true, true, true, true, false, false] rfl rfl (by kernel_rfl) (fun _ _ _ h => h) (Or.inr ⟨by rfl, rfl⟩) ?_ ?_
                      rotate_left
                      · simp only [Act.put, List.setIfInBounds_toArray, List.set_cons_zero, List.set_cons_succ, i64_w, i32_w]
                        rfl
                      refine pure_ (i := 23) (N := some 51) (v := ?_) (a' := ?_) #[true, true, true, true, true, true, true, true, true, true, true, true, true, true, true, true, true, true, true, true, true, true, true, true, false] rfl rfl (by kernel_rfl) (fun _ _ _ h => h) (Or.inl ⟨by rfl, ?_⟩) ?_ ?_
                      rotate_left
                      · intro w'
                        go_simp
                        with_reducible rfl
                      rotate_left
                      · simp only [Act.put, List.setIfInBounds_toArray, List.set_cons_zero, List.set_cons_succ, i64_w, i32_w]
                        rfl
                      refine pure_ (i := 24) (N := some 2) (v := ?_) (a' := ?_) #[true, true, true, true, true, true, true, true, true, true, true, true, true, true, true, true, true, true, true, true, true, true, true, true, true] rfl rfl (by kernel_rfl) (fun _ _ _ h => h) (Or.inl ⟨by rfl, ?_⟩) ?_ ?_
                      rotate_left
                      · intro w'
                        go_simp
                        with_reducible rfl
                      rotate_left
                      · simp only [Act.put, List.setIfInBounds_toArray, List.set_cons_zero, List.set_cons_succ, i64_w, i32_w]
                        rfl
                      refine done_ (by kernel_rfl) ?_
                      replace HS : Aside0 (Sep (fps []) w [] w2169) := ⟨HS.out.sub (.cons _ .slnil)⟩
                      go_wp2_with fail
                      go_ret
                      rw [← some_eq H]
                      exact ⟨(by first | rfl | (simp [IntKind.wrap_u32]; done)), HS.out⟩
                  · replace H := if_no c2173 H
                    have c2173b0 : decide (0 ≤ a2076) = false := decide_eq_false c2173
                    clear c2173
                    try simp only [c2173b0, Bool.not_true, Bool.not_false]
                    refine pure_ (i := 10) (N := some 38) (v := undef) (a' := ?_) #[true, true, true, true, true, true, true, true, true, true, true, false, false, false, false, false, false, false, false, false, false, false, false, false, false] rfl rfl (by kernel_rfl) (fun _ _ _ h => h) (Or.inr ⟨by rfl, rfl⟩) ?_ ?_
                    rotate_left
                    · simp only [Act.put, List.setIfInBounds_toArray, List.set_cons_zero, List.set_cons_succ, i64_w, i32_w]
                      rfl
                    try simp only [c2173b0, Bool.not_true, Bool.not_false]
                    refine pure_ (i := 11) (N := some 39) (v := undef) (a' := ?_) #[true, true, true, true, true, true, true, true, true, true, true, true, false, false, false, false, false, false, false, false, false, false, false, false, false] rfl rfl (by kernel_rfl) (fun _ _ _ h => h) (Or.inr ⟨by rfl, rfl⟩) ?_ ?_
                    rotate_left
                    · simp only [Act.put, List.setIfInBounds_toArray, List.set_cons_zero, List.set_cons_succ, i64_w, i32_w]
                      rfl
                    try simp only [c2173b0, Bool.not_true, Bool.not_false]
                    refine pure_ (i := 12) (N := some 40) (v := undef) (a' := ?_) #[true, true, true, true, true, true, true, true, true, true, true, true, true, false, false, false, false, false, false, false, false, false, false, false, false] rfl rfl (by kernel_rfl) (fun _ _ _ h => h) (Or.inr ⟨by rfl, rfl⟩) ?_ ?_
                    rotate_left
                    · simp only [Act.put, List.setIfInBounds_toArray, List.set_cons_zero, List.set_cons_succ, i64_w, i32_w]
                      rfl
                    refine pure_ (i := 13) (N := some 41) (v := ?_) (a' := ?_) #[true, true, true, true, true, true, true, true, true, true, true, true, true, true, false, false, false, false, false, false, false, false, false, false, false] rfl rfl (by kernel_rfl) (fun _ _ _ h => h) (Or.inl ⟨by rfl, ?_⟩) ?_ ?_
                    rotate_left
                    · intro w'
                      go_simp
                      with_reducible rfl
                    rotate_left
                    · simp only [Act.put, List.setIfInBounds_toArray, List.set_cons_zero, List.set_cons_succ, i64_w, i32_w]
                      rfl
                    refine pure_ (i := 14) (N := some 42) (v := ?_) (a' := ?_) #[true, true, true, true, true, true, true, true, true, true, true, true, true, true, true, false, false, false, false, false, false, false, false, false, false] rfl rfl (by kernel_rfl) (fun _ _ _ h => h) (Or.inl ⟨by rfl, ?_⟩) ?_ ?_
                    rotate_left
                    · intro w'
                      go_simp
                      with_reducible rfl
                    rotate_left
                    · simp only [Act.put, List.setIfInBounds_toArray, List.set_cons_zero, List.set_cons_succ, i64_w, i32_w]
                      rfl
                    refine pure_ (i := 15) (N := some 43) (v := undef) (a' := ?_) #[true, true, true, true, true, true, true, true, true, true, true, true, true, true, true, true, false, false, false, false, false, false, false, false, false] rfl rfl (by kernel_rfl) (fun _ _ _ h => h) (Or.inr ⟨by rfl, rfl⟩) ?_ ?_
                    rotate_left
                    · simp only [Act.put, List.setIfInBounds_toArray, List.set_cons_zero, List.set_cons_succ, i64_w, i32_w]
                      rfl
                    refine pure_ (i := 16) (N := some 44) (v := undef) (a' := ?_) #[true, true, true, true, true, true, true, true, true, true, true, true, true, true, true, true, true, false, false, false, false, false, false, false, false] rfl rfl (by kernel_rfl) (fun _ _ _ h => h) (Or.inr ⟨by rfl, rfl⟩) ?_ ?_
                    rotate_left
                    · simp only [Act.put, List.setIfInBounds_toArray, List.set_cons_zero, List.set_cons_succ, i64_w, i32_w]
                      rfl
                    refine pure_ (i := 17) (N := some 45) (v := undef) (a' := ?_) #[true, true, true, true, true, true, true, true, true, true, true, true, true, true, true, true, true, true, false, false, false, false, false, false, false] rfl rfl (by kernel_rfl) (fun _ _ _ h => h) (Or.inr ⟨by rfl, rfl⟩) ?_ ?_
                    rotate_left
                    · simp only [Act.put, List.setIfInBounds_toArray, List.set_cons_zero, List.set_cons_succ, i64_w, i32_w]
                      rfl
                    refine pure_ (i := 18) (N := some 46) (v := undef) (a' := ?_) #[true, true, true, true, true, true, true, true, true, true, true, true, true, true, true, true, true, true, true, false, false, false, false, false, false] rfl rfl (by kernel_rfl) (fun _ _ _ h => h) (Or.inr ⟨by rfl, rfl⟩) ?_ ?_
                    rotate_left
                    · simp only [Act.put, List.setIfInBounds_toArray, List.set_cons_zero, List.set_cons_succ, i64_w, i32_w]
                      rfl
                    refine pure_ (i := 19) (N := some 47) (v := undef) (a' := ?_) #[true, true, true, true, true, true, true, true, true, true, true, true, true, true, true, true, true, true, true, true, false, false, false, false, false] rfl rfl (by kernel_rfl) (fun _ _ _ h => h) (Or.inr ⟨by rfl, rfl⟩) ?_ ?_
                    rotate_left
                    · simp only [Act.put, List.setIfInBounds_toArray, List.set_cons_zero, List.set_cons_succ, i64_w, i32_w]
                      rfl
                    refine pure_ (i := 20) (N := some 48) (v := undef) (a' := ?_) #[true, true, true, true, true, true, true, true, true, true, true, true, true, true, true, true, true, true, true, true, true, false, false, false, false] rfl rfl (by kernel_rfl) (fun _ _ _ h => h) (Or.inr ⟨by rfl, rfl⟩) ?_ ?_
                    rotate_left
                    · simp only [Act.put, List.setIfInBounds_toArray, List.set_cons_zero, List.set_cons_succ, i64_w, i32_w]
                      rfl
                    refine pure_ (i := 21) (N := some 49) (v := undef) (a' := ?_) #[true, true, true, true, true, true, true, true, true, true, true, true, true, true, true, true, true, true, true, true, true, true, false, false, false] rfl rfl (by kernel_rfl) (fun _ _ _ h => h) (Or.inr ⟨by rfl, rfl⟩) ?_ ?_
                    rotate_left
                    · simp only [Act.put, List.setIfInBounds_toArray, List.set_cons_zero, List.set_cons_succ, i64_w, i32_w]
                      rfl
                    refine pure_ (i := 22) (N := some 50) (v := undef) (a' := ?_) #[true, true, true, true, true, true, true, true, true, true, true, true, true, true, true, true, true, true, true, true, true, true, true, false, false] rfl rfl (by kernel_rfl) (fun _ _ _ h => h) (Or.inr ⟨by rfl, rfl⟩) ?_ ?_
                    rotate_left
                    · simp only [Act.put, List.setIfInBounds_toArray, List.set_cons_zero, List.set_cons_succ, i64_w, i32_w]
                      rfl
                    refine pure_ (i := 23) (N := some 51) (v := ?_) (a' := ?_) #[true, true, true, true, true, true, true, true, true, true, true, true, true, true, true, true, true, true, true, true, true, true, true, true, false] rfl rfl (by kernel_rfl) (fun _ _ _ h => h) (Or.inl ⟨by rfl, ?_⟩) ?_ ?_
                    rotate_left
                    · intro w'
                      go_simp
                      with_reducible rfl
                    rotate_left
                    · simp only [Act.put, List.setIfInBounds_toArray, List.set_cons_zero, List.set_cons_succ, i64_w, i32_w]
                      rfl
                    refine pure_ (i := 24) (N := some 2) (v := ?_) (a' := ?_) #[true, true, true, true, true, true, true, true, true, true, true, true, true, true, true, true, true, true, true, true, true, true, true, true, true] rfl rfl (by kernel_rfl) (fun _ _ _ h => h) (Or.inl ⟨by rfl, ?_⟩) ?_ ?_
                    rotate_left
                    · intro w'
                      go_simp
                      with_reducible rfl
                    rotate_left
                    · simp only [Act.put, List.setIfInBounds_toArray, List.set_cons_zero, List.set_cons_succ, i64_w, i32_w]
                      rfl
                    refine done_ (by kernel_rfl) ?_
                    replace HS : Aside0 (Sep (fps []) w [] w2169) := ⟨HS.out.sub (.cons _ .slnil)⟩
                    go_wp2_with fail
                    go_ret
                    rw [← some_eq H]
                    exact ⟨(by first | rfl | (simp [IntKind.wrap_u32]; done)), HS.out⟩
                · replace H := if_no c2172 H
                  have c2172b0 : b2159 = false := by simpa using c2172
                  have c2172b1 : (!b2159) = true := by rw [c2172b0]; rfl
                  clear c2172
                  try simp only [c2172b0, Bool.not_true, Bool.not_false]
                  refine pure_ (i := 5) (N := some 33) (v := undef) (a' := ?_) #[true, true, true, true, true, true, false, false, false, false, false, false, false, false, false, false, false, false, false, false, false, false, false, false, false] rfl rfl (by kernel_rfl) (fun _ _ _ h => h) (Or.inr ⟨by rfl, rfl⟩) ?_ ?_
                  rotate_left
                  · simp only [Act.put, List.setIfInBounds_toArray, List.set_cons_zero, List.set_cons_succ, i64_w, i32_w]
                    rfl
                  try simp only [c2172b0, Bool.not_true, Bool.not_false]
                  refine pure_ (i := 6) (N := some 34) (v := undef) (a' := ?_) #[true, true, true, true, true, true, true, false, false, false, false, false, false, false, false, false, false, false, false, false, false, false, false, false, false] rfl rfl (by kernel_rfl) (fun _ _ _ h => h) (Or.inr ⟨by rfl, rfl⟩) ?_ ?_
                  rotate_left
                  · simp only [Act.put, List.setIfInBounds_toArray, List.set_cons_zero, List.set_cons_succ, i64_w, i32_w]
                    rfl
                  try simp only [c2172b0, Bool.not_true, Bool.not_false]
                  refine pure_ (i := 7) (N := some 35) (v := undef) (a' := ?_) #[true, true, true, true, true, true, true, true, false, false, false, false, false, false, false, false, false, false, false, false, false, false, false, false, false] rfl rfl (by kernel_rfl) (fun _ _ _ h => h) (Or.inr ⟨by rfl, rfl⟩) ?_ ?_
                  rotate_left
                  · simp only [Act.put, List.setIfInBounds_toArray, List.set_cons_zero, List.set_cons_succ, i64_w, i32_w]
                    rfl
                  refine pure_ (i := 8) (N := some 36) (v := ?_) (a' := ?_) #[true, true, true, true, true, true, true, true, true, false, false, false, false, false, false, false, false, false, false, false, false, false, false, false, false] rfl rfl (by kernel_rfl) (fun _ _ _ h => h) (Or.inl ⟨by rfl, ?_⟩) ?_ ?_
                  rotate_left
                  · intro w'
                    go_simp
                    with_reducible rfl
                  rotate_left
                  · simp only [Act.put, List.setIfInBounds_toArray, List.set_cons_zero, List.set_cons_succ, i64_w, i32_w]
                    rfl
                  refine pure_ (i := 9) (N := some 37) (v := ?_) (a' := ?_) #[true, true, true, true, true, true, true, true, true, true, false, false, false, false, false, false, false, false, false, false, false, false, false, false, false] rfl rfl (by kernel_rfl) (fun _ _ _ h => h) (Or.inl ⟨by rfl, ?_⟩) ?_ ?_
                  rotate_left
                  · intro w'
                    go_simp
                    with_reducible rfl
                  rotate_left
                  · simp only [Act.put, List.setIfInBounds_toArray, List.set_cons_zero, List.set_cons_succ, i64_w, i32_w]
                    rfl
                  refine pure_ (i := 10) (N := some 38) (v := undef) (a' := ?_) #[true, true, true, true, true, true, true, true, true, true, true, false, false, false, false, false, false, false, false, false, false, false, false, false, false] rfl rfl (by kernel_rfl) (fun _ _ _ h => h) (Or.inr ⟨by rfl, rfl⟩) ?_ ?_
                  rotate_left
                  · simp only [Act.put, List.setIfInBounds_toArray, List.set_cons_zero, List.set_cons_succ, i64_w, i32_w]
                    rfl
                  refine pure_ (i := 11) (N := some 39) (v := undef) (a' := ?_) #[true, true, true, true, true, true, true, true, true, true, true, true, false, false, false, false, false, false, false, false, false, false, false, false, false] rfl rfl (by kernel_rfl) (fun _ _ _ h => h) (Or.inr ⟨by rfl, rfl⟩) ?_ ?_
                  rotate_left
                  · simp only [Act.put, List.setIfInBounds_toArray, List.set_cons_zero, List.set_cons_succ, i64_w, i32_w]
                    rfl
                  refine pure_ (i := 12) (N := some 40) (v := undef) (a' := ?_) #[true, true, true, true, true, true, true, true, true, true, true, true, true, false, false, false, false, false, false, false, false, false, false, false, false] rfl rfl (by kernel_rfl) (fun _ _ _ h => h) (Or.inr ⟨by rfl, rfl⟩) ?_ ?_
                  rotate_left
                  · simp only [Act.put, List.setIfInBounds_toArray, List.set_cons_zero, List.set_cons_succ, i64_w, i32_w]
                    rfl
                  refine pure_ (i := 13) (N := some 41) (v := ?_) (a' := ?_) #[true, true, true, true, true, true, true, true, true, true, true, true, true, true, false, false, false, false, false, false, false, false, false, false, false] rfl rfl (by kernel_rfl) (fun _ _ _ h => h) (Or.inl ⟨by rfl, ?_⟩) ?_ ?_
                  rotate_left
                  · intro w'
                    go_simp
                    with_reducible rfl
                  rotate_left
                  · simp only [Act.put, List.setIfInBounds_toArray, List.set_cons_zero, List.set_cons_succ, i64_w, i32_w]
                    rfl
                  refine pure_ (i := 14) (N := some 42) (v := ?_) (a' := ?_) #[true, true, true, true, true, true, true, true, true, true, true, true, true, true, true, false, false, false, false, false, false, false, false, false, false] rfl rfl (by kernel_rfl) (fun _ _ _ h => h) (Or.inl ⟨by rfl, ?_⟩) ?_ ?_
                  rotate_left
                  · intro w'
                    go_simp
                    with_reducible rfl
                  rotate_left
                  · simp only [Act.put, List.setIfInBounds_toArray, List.set_cons_zero, List.set_cons_succ, i64_w, i32_w]
                    rfl
                  refine pure_ (i := 15) (N := some 43) (v := undef) (a' := ?_) #[true, true, true, true, true, true, true, true, true, true, true, true, true, true, true, true, false, false, false, false, false, false, false, false, false] rfl rfl (by kernel_rfl) (fun _ _ _ h => h) (Or.inr ⟨by rfl, rfl⟩) ?_ ?_
                  rotate_left
                  · simp only [Act.put, List.setIfInBounds_toArray, List.set_cons_zero, List.set_cons_succ, i64_w, i32_w]
                    rfl
                  refine pure_ (i := 16) (N := some 44) (v := undef) (a' := ?_) #[true, true, true, true, true, true, true, true, true, true, true, true, true, true, true, true, true, false, false, false, false, false, false, false, false] rfl rfl (by kernel_rfl) (fun _ _ _ h => h) (Or.inr ⟨by rfl, rfl⟩) ?_ ?_
                  rotate_left
                  · simp only [Act.put, List.setIfInBounds_toArray, List.set_cons_zero, List.set_cons_succ, i64_w, i32_w]
                    rfl
                  refine pure_ (i := 17) (N := some 45) (v := undef) (a' := ?_) #[true, true, true, true, true, true, true, true, true, true, true, true, true, true, true, true, true, true, false, false, false, false, false, false, false] rfl rfl (by kernel_rfl) (fun _ _ _ h => h) (Or.inr ⟨by rfl, rfl⟩) ?_ ?_
                  rotate_left
                  · simp only [Act.put, List.setIfInBounds_toArray, List.set_cons_zero, List.set_cons_succ, i64_w, i32_w]
                    rfl
                  refine pure_ (i := 18) (N := some 46) (v := undef) (a' := ?_) #[true, true, true, true, true, true, true, true, true, true, true, true, true, true, true, true, true, true, true, false, false, false, false, false, false] rfl rfl (by kernel_rfl) (fun _ _ _ h => h) (Or.inr ⟨by rfl, rfl⟩) ?_ ?_
                  rotate_left
                  · simp only [Act.put, List.setIfInBounds_toArray, List.set_cons_zero, List.set_cons_succ, i64_w, i32_w]
                    rfl
                  refine pure_ (i := 19) (N := some 47) (v := undef) (a' := ?_) #[true, true, true, true, true, true, true, true, true, true, true, true, true, true, true, true, true, true, true, true, false, false, false, false, false] rfl rfl (by kernel_rfl) (fun _ _ _ h => h) (Or.inr ⟨by rfl, rfl⟩) ?_ ?_
                  rotate_left
                  · simp only [Act.put, List.setIfInBounds_toArray, List.set_cons_zero, List.set_cons_succ, i64_w, i32_w]
                    rfl
                  refine pure_ (i := 20) (N := some 48) (v := undef) (a' := ?_) #[true, true, true, true, true, true, true, true, true, true, true, true, true, true, true, true, true, true, true, true, true, false, false, false, false] rfl rfl (by kernel_rfl) (fun _ _ _ h => h) (Or.inr ⟨by rfl, rfl⟩) ?_ ?_
                  rotate_left
                  · simp only [Act.put, List.setIfInBounds_toArray, List.set_cons_zero, List.set_cons_succ, i64_w, i32_w]
                    rfl
                  refine pure_ (i := 21) (N := some 49) (v := undef) (a' := ?_) #[true, true, true, true, true, true, true, true, true, true, true, true, true, true, true, true, true, true, true, true, true, true, false, false, false] rfl rfl (by kernel_rfl) (fun _ _ _ h => h) (Or.inr ⟨by rfl, rfl⟩) ?_ ?_
                  rotate_left
                  · simp only [Act.put, List.setIfInBounds_toArray, List.set_cons_zero, List.set_cons_succ, i64_w, i32_w]
                    rfl
                  refine pure_ (i := 22) (N := some 50) (v := undef) (a' := ?_) #[true, true, true, true, true, true, true, true, true, true, true, true, true, true, true, true, true, true, true, true, true, true, true, false, false] rfl rfl (by kernel_rfl) (fun _ _ _ h => h) (Or.inr ⟨by rfl, rfl⟩) ?_ ?_
                  rotate_left
                  · simp only [Act.put, List.setIfInBounds_toArray, List.set_cons_zero, List.set_cons_succ, i64_w, i32_w]
                    rfl
                  refine pure_ (i := 23) (N := some 51) (v := ?_) (a' := ?_) #[true, true, true, true, true, true, true, true, true, true, true, true, true, true, true, true, true, true, true, true, true, true, true, true, false] rfl rfl (by kernel_rfl) (fun _ _ _ h => h) (Or.inl ⟨by rfl, ?_⟩) ?_ ?_
                  rotate_left
                  · intro w'
                    go_simp
                    with_reducible rfl
                  rotate_left
                  · simp only [Act.put, List.setIfInBounds_toArray, List.set_cons_zero, List.set_cons_succ, i64_w, i32_w]
                    rfl
                  refine pure_ (i := 24) (N := some 2) (v := ?_) (a' := ?_) #[true, true, true, true, true, true, true, true, true, true, true, true, true, true, true, true, true, true, true, true, true, true, true, true, true] rfl rfl (by kernel_rfl) (fun _ _ _ h => h) (Or.inl ⟨by rfl, ?_⟩) ?_ ?_
                  rotate_left
                  · intro w'
                    go_simp
                    with_reducible rfl
                  rotate_left
                  · simp only [Act.put, List.setIfInBounds_toArray, List.set_cons_zero, List.set_cons_succ, i64_w, i32_w]
                    rfl
                  refine done_ (by kernel_rfl) ?_
                  replace HS : Aside0 (Sep (fps []) w [] w2169) := ⟨HS.out.sub (.cons _ .slnil)⟩
                  go_wp2_with fail
                  go_ret
                  rw [← some_eq H]
                  exact ⟨(by first | rfl | (simp [IntKind.wrap_u32]; done)), HS.out⟩
              · replace H := if_no c2165 H
                have c2165b0 : (a2070 == 3) = false := beq_eq_false_iff_ne.mpr c2165
                have c2165b1 : (a2070 != 3) = true := bne_iff_ne.mpr c2165
                clear c2165
                have hc2147 : w2138.cell? ⟨g2077, 0, none⟩ = some (.int .i64 a2070) := blk_cellv (HS.out.at0) 0 rfl
                replace HS : Aside0 (Sep (fps []) w [] w2138) := ⟨HS.out.sub (.cons _ .slnil)⟩
                go_wp2_with fail
                clear hc2147
                go_ret
                rw [← some_eq H]
                exact ⟨(by first | rfl | (simp [IntKind.wrap_u32]; done)), HS.out⟩

set_option maxHeartbeats 30000000 in
set_option maxRecDepth 100000 in
theorem pack_total.calls (k : Nat) (l2268 : List Int) (A2269 : Option Addr) (n2270 : Nat) (r : Int) (w : World) (HR2271 : Aside0 (Rd (Kd.int .i64) (fps []) w A2269 l2268.length l2268)) (HGl0 : Aside0 (Gl 0 #[.int .i64 0, .int .i64 0, .int .i64 0, .int .i64 0, .int .i64 0] (fps []) w)) (HS : Aside0 (Sep (fps []) w [] w)) (H : Aside0 (pack_total.f k l2268 = some r)) :
    Calls Tryd.prog 125 #[.slice A2269 l2268.length n2270] w fun e w' => e = .returned (.int .i64 r) ∧ Sep (fps []) w [] w' := by
  unfold pack_total.f at H
  go_enter Tryd.func125, Tryd.ntmps125
  go_wp2_with fail
  obtain ⟨o2284, AL2285, H⟩ := bind_some H
  go_loopg [3, 8] k (fun kq v3 v8 wc => ∃ (x2288 : Int) (x2289 : Int), v3 = .int .i64 x2288 ∧ v8 = .int .i64 x2289 ∧ Aside0 (pack_total.lo0 kq l2268 x2288 x2289 = some o2284) ∧ Aside0 (Sep (fps []) w [] wc))
  case atStart => exact ⟨(0), (0), (by first | rfl | (simp [IntKind.wrap_u32]; done)), (by first | rfl | (simp [IntKind.wrap_u32]; done)), AL2285, ⟨HS.out⟩⟩
  case round =>
    clear AL2285 HS
    obtain ⟨x2288, x2289, rfl, rfl, AL2285, HS⟩ := hrel
    obtain ⟨w2286, rfl⟩ : ∃ x : World, x = wr := ⟨_, rfl⟩
    cases gk with
    | zero => exact absurd AL2285.out (by simp [pack_total.lo0])
    | succ k2287 =>
      have AL0 := AL2285.out
      rw [pack_total.lo0] at AL0
      clear AL2285
      have AL2285 := Aside0.mk AL0
      clear AL0
      by_cases c2290 : x2289 < (l2268.length : Int)
      · replace AL2285 := if_yes c2290 AL2285
        have c2290b0 : decide (x2289 < (l2268.length : Int)) = true := decide_eq_true c2290
        clear c2290
        by_cases c2291 : 0 ≤ x2289
        · replace AL2285 := if_yes c2291 AL2285
          have c2291b0 : decide (0 ≤ x2289) = true := decide_eq_true c2291
          have c2291p : (0 ≤ x2289) = True := eq_true c2291
          clear c2291
          have ip2292 : (x2289 < (l2268.length : Int)) = True := eq_true (of_decide_eq_true c2290b0)
          by_cases c2294 : (rd l2268 x2289) < 1
          · replace AL2285 := if_yes c2294 AL2285
            have c2294b0 : decide ((rd l2268 x2289) < 1) = true := decide_eq_true c2294
            clear c2294
            obtain ⟨hx2293a, hx2293e, hx2293⟩ := Kd.at_int (Rd.read (fun _ _ _ _ h => h) HR2271.out HS.out.fr) x2289 (of_decide_eq_true c2291b0) (of_decide_eq_true c2290b0); cases hx2293e
            go_wp2_with fail
            clear hx2293
            have ho := some_eq AL2285
            subst ho
            have H := lp_ret H
            go_ret
            rw [← some_eq H]
            exact ⟨(by first | rfl | (simp [IntKind.wrap_u32]; done)), HS.out⟩
          · replace AL2285 := if_no c2294 AL2285
            have c2294b0 : decide ((rd l2268 x2289) < 1) = false := decide_eq_false c2294
            clear c2294
            by_cases c2295 : (rd l2268 x2289) > (wrap64 (32 - x2288))
            · replace AL2285 := if_yes c2295 AL2285
              have c2295b0 : decide ((wrap64 (32 - x2288)) < (rd l2268 x2289)) = true := decide_eq_true c2295
              clear c2295
              obtain ⟨hx2293a, hx2293e, hx2293⟩ := Kd.at_int (Rd.read (fun _ _ _ _ h => h) HR2271.out HS.out.fr) x2289 (of_decide_eq_true c2291b0) (of_decide_eq_true c2290b0); cases hx2293e
              go_wp2_with fail
              clear hx2293
              have ho := some_eq AL2285
              subst ho
              have H := lp_ret H
              go_ret
              rw [← some_eq H]
              exact ⟨(by first | rfl | (simp [IntKind.wrap_u32]; done)), HS.out⟩
            · replace AL2285 := if_no c2295 AL2285
              have c2295b0 : decide ((wrap64 (32 - x2288)) < (rd l2268 x2289)) = false := decide_eq_false c2295
              clear c2295
              obtain ⟨hx2293a, hx2293e, hx2293⟩ := Kd.at_int (Rd.read (fun _ _ _ _ h => h) HR2271.out HS.out.fr) x2289 (of_decide_eq_true c2291b0) (of_decide_eq_true c2290b0); cases hx2293e
              go_wp2_with fail
              clear hx2293
              go_roundg k2287
              case measure => exact Nat.lt_succ_self _
              case rel => exact ⟨(wrap64 (x2288 + (rd l2268 x2289))), (wrap64 (x2289 + 1)), (by first | rfl | (simp [IntKind.wrap_u32]; done)), (by first | rfl | (simp [IntKind.wrap_u32]; done)), Aside0.mk AL2285.out, ⟨HS.out⟩⟩
        · replace AL2285 := if_no c2291 AL2285
          have c2291b0 : decide (0 ≤ x2289) = false := decide_eq_false c2291
          clear c2291
          exact (none_no AL2285).elim
      · replace AL2285 := if_no c2290 AL2285
        have c2290b0 : decide (x2289 < (l2268.length : Int)) = false := decide_eq_false c2290
        clear c2290
        have ho := some_eq AL2285
        subst ho
        clear AL2285
        have H := lp_out H
        go_wp2_with fail
        go_ret
        rw [← some_eq H]
        exact ⟨(by first | rfl | (simp [IntKind.wrap_u32]; done)), HS.out⟩

set_option maxHeartbeats 30000000 in
set_option maxRecDepth 100000 in
theorem pack_isPiece.calls (a2320 : Int) (a2321 : Int) (r : Bool) (w : World)  (HGl0 : Aside0 (Gl 0 #[.int .i64 0, .int .i64 0, .int .i64 0, .int .i64 0, .int .i64 0] (fps []) w)) (HS : Aside0 (Sep (fps []) w [] w)) (H : Aside0 (pack_isPiece.f a2320 a2321 = some r)) :
    Calls Tryd.prog 75 #[.int .i64 a2320, .int .i64 a2321] w fun e w' => e = .returned (.bool r) ∧ Sep (fps []) w [] w' := by
  unfold pack_isPiece.f at H
  go_enter Tryd.func75, Tryd.ntmps75
  by_cases c2322 : a2320 ≥ 0
  · replace H := if_yes c2322 H
    have c2322b0 : decide (0 ≤ a2320) = true := decide_eq_true c2322
    clear c2322
    by_cases c2323 : a2321 ≥ 1
    · replace H := if_yes c2323 H
      have c2323b0 : decide (1 ≤ a2321) = true := decide_eq_true c2323
      clear c2323
      by_cases c2324 : a2321 ≤ 32
      · replace H := if_yes c2324 H
        have c2324b0 : decide (a2321 ≤ 32) = true := decide_eq_true c2324
        clear c2324
        go_wp2_with fail
        go_ret
        rw [← some_eq H]
        exact ⟨(by first | rfl | (simp [IntKind.wrap_u32]; done)), HS.out⟩
      · replace H := if_no c2324 H
        have c2324b0 : decide (a2321 ≤ 32) = false := decide_eq_false c2324
        clear c2324
        go_wp2_with fail
        go_ret
        rw [← some_eq H]
        exact ⟨(by first | rfl | (simp [IntKind.wrap_u32]; done)), HS.out⟩
    · replace H := if_no c2323 H
      have c2323b0 : decide (1 ≤ a2321) = false := decide_eq_false c2323
      clear c2323
      go_wp2_with fail
      go_ret
      rw [← some_eq H]
      exact ⟨(by first | rfl | (simp [IntKind.wrap_u32]; done)), HS.out⟩
  · replace H := if_no c2322 H
    have c2322b0 : decide (0 ≤ a2320) = false := decide_eq_false c2322
    clear c2322
    go_wp2_with fail
    go_ret
    rw [← some_eq H]
    exact ⟨(by first | rfl | (simp [IntKind.wrap_u32]; done)), HS.out⟩

set_option maxHeartbeats 30000000 in
set_option maxRecDepth 100000 in
theorem pack_Fits.calls (a2329 : Int) (a2330 : Int) (r : Bool) (w : World)  (HGl0 : Aside0 (Gl 0 #[.int .i64 0, .int .i64 0, .int .i64 0, .int .i64 0, .int .i64 0] (fps []) w)) (HS : Aside0 (Sep (fps []) w [] w)) (H : Aside0 (pack_Fits.f a2329 a2330 = some r)) :
    Calls Tryd.prog 152 #[.int .u32 a2329, .int .i64 a2330] w fun e w' => e = .returned (.bool r) ∧ Sep (fps []) w [] w' := by
  unfold pack_Fits.f at H
  go_enter Tryd.func152, Tryd.ntmps152
  by_cases c2331 : a2330 ≥ 32
  · replace H := if_yes c2331 H
    have c2331b0 : decide (32 ≤ a2330) = true := decide_eq_true c2331
    clear c2331
    go_wp2_with fail
    go_ret
    rw [← some_eq H]
    exact ⟨(by first | rfl | (simp [IntKind.wrap_u32]; done)), HS.out⟩
  · replace H := if_no c2331 H
    have c2331b0 : decide (32 ≤ a2330) = false := decide_eq_false c2331
    clear c2331
    by_cases c2332 : a2330 < 0
    · replace H := if_yes c2332 H
      have c2332b0 : decide (a2330 < 0) = true := decide_eq_true c2332
      skip
      go_wp2_with fail
      clear c2332
      go_ret
      rw [← some_eq H]
      exact ⟨(by first | rfl | (simp [IntKind.wrap_u32]; done)), HS.out⟩
    · replace H := if_no c2332 H
      have c2332b0 : decide (a2330 < 0) = false := decide_eq_false c2332
      by_cases c2333 : 0 ≤ (IntKind.u64.wrap (a2330))
      · replace H := if_yes c2333 H
        have c2333b0 : decide (0 ≤ (IntKind.u64.wrap (a2330))) = true := decide_eq_true c2333
        skip
        skip
        go_wp2_with fail
        clear c2332 c2333
        go_ret
        rw [← some_eq H]
        exact ⟨(by first | rfl | (simp [IntKind.wrap_u32]; done)), HS.out⟩
      · replace H := if_no c2333 H
        have c2333b0 : decide (0 ≤ (IntKind.u64.wrap (a2330))) = false := decide_eq_false c2333
        exact (none_no H).elim

set_option maxHeartbeats 30000000 in
set_option maxRecDepth 100000 in
theorem pack_mask.calls (a2338 : Int) (a2339 : Int) (r : Int) (w : World)  (HGl0 : Aside0 (Gl 0 #[.int .i64 0, .int .i64 0, .int .i64 0, .int .i64 0, .int .i64 0] (fps []) w)) (HS : Aside0 (Sep (fps []) w [] w)) (H : Aside0 (pack_mask.f a2338 a2339 = some r)) :
    Calls Tryd.prog 76 #[.int .i64 a2338, .int .i64 a2339] w fun e w' => e = .returned (.int .u32 r) ∧ Sep (fps []) w [] w' := by
  unfold pack_mask.f at H
  go_enter Tryd.func76, Tryd.ntmps76
  by_cases c2340 : 0 ≤ (IntKind.u64.wrap (a2339))
  · replace H := if_yes c2340 H
    have c2340b0 : decide (0 ≤ (IntKind.u64.wrap (a2339))) = true := decide_eq_true c2340
    by_cases c2341 : 0 ≤ (IntKind.u64.wrap (a2338))
    · replace H := if_yes c2341 H
      have c2341b0 : decide (0 ≤ (IntKind.u64.wrap (a2338))) = true := decide_eq_true c2341
      skip
      skip
      go_wp2_with fail
      clear c2340 c2341
      go_ret
      rw [← some_eq H]
      exact ⟨(by first | rfl | (simp [IntKind.wrap_u32]; done)), HS.out⟩
    · replace H := if_no c2341 H
      have c2341b0 : decide (0 ≤ (IntKind.u64.wrap (a2338))) = false := decide_eq_false c2341
      exact (none_no H).elim
  · replace H := if_no c2340 H
    have c2340b0 : decide (0 ≤ (IntKind.u64.wrap (a2339))) = false := decide_eq_false c2340
    exact (none_no H).elim

set_option maxHeartbeats 30000000 in
set_option maxRecDepth 100000 in
theorem pack_Put.calls (a2316 : Int) (a2317 : Int) (a2318 : Int) (a2319 : Int) (r : Int × Int) (w : World)  (HGl0 : Aside0 (Gl 0 #[.int .i64 0, .int .i64 0, .int .i64 0, .int .i64 0, .int .i64 0] (fps []) w)) (HS : Aside0 (Sep (fps []) w [] w)) (H : Aside0 (pack_Put.f a2316 a2317 a2318 a2319 = some r)) :
    Calls Tryd.prog 126 #[.int .u32 a2316, .int .i64 a2317, .int .i64 a2318, .int .u32 a2319] w fun e w' => e = .returned (.tuple #[.int .u32 r.1, .int .i64 r.2]) ∧ Sep (fps []) w [] w' := by
  unfold pack_Put.f at H
  go_enter Tryd.func126, Tryd.ntmps126
  go_wp2_with fail
  obtain ⟨t2325, HA2326, H⟩ := bind_some H
  refine (pack_isPiece.calls a2317 a2318 t2325 _ ⟨HGl0.out.pass (l := []) HS.out⟩ ⟨Sep.start _⟩ HA2326).mono ?_
  rintro e_ w2327 ⟨rfl, hS⟩
  replace HS : Aside0 (Sep (fps []) w [] w2327) := ⟨HS.out.call hS⟩
  clear hS
  by_cases c2328 : t2325 = true
  · replace H := if_yes c2328 H
    have c2328b0 : t2325 = true := c2328
    have c2328b1 : (!t2325) = false := by rw [c2328b0]; rfl
    try rw [c2328b1]
    clear c2328
    go_wp2_with fail
    obtain ⟨t2334, HA2335, H⟩ := bind_some H
    refine (pack_Fits.calls a2319 a2318 t2334 _ ⟨HGl0.out.pass (l := []) HS.out⟩ ⟨Sep.start _⟩ HA2335).mono ?_
    rintro e_ w2336 ⟨rfl, hS⟩
    replace HS : Aside0 (Sep (fps []) w [] w2336) := ⟨HS.out.call hS⟩
    clear hS
    by_cases c2337 : t2334 = true
    · replace H := if_yes c2337 H
      have c2337b0 : t2334 = true := c2337
      have c2337b1 : (!t2334) = false := by rw [c2337b0]; rfl
      try rw [c2337b1]
      clear c2337
      go_wp2_with fail
      obtain ⟨t2342, HA2343, H⟩ := bind_some H
      refine (pack_mask.calls a2317 a2318 t2342 _ ⟨HGl0.out.pass (l := []) HS.out⟩ ⟨Sep.start _⟩ HA2343).mono ?_
      rintro e_ w2344 ⟨rfl, hS⟩
      replace HS : Aside0 (Sep (fps []) w [] w2344) := ⟨HS.out.call hS⟩
      clear hS
      by_cases c2345 : 0 ≤ (IntKind.u64.wrap (a2317))
      · replace H := if_yes c2345 H
        have c2345b0 : decide (0 ≤ (IntKind.u64.wrap (a2317))) = true := decide_eq_true c2345
        skip
        go_wp2_with fail
        clear c2345
        go_ret2
        rw [← some_eq H]
        exact ⟨(by first | rfl | (simp [IntKind.wrap_u32]; done)), HS.out⟩
      · replace H := if_no c2345 H
        have c2345b0 : decide (0 ≤ (IntKind.u64.wrap (a2317))) = false := decide_eq_false c2345
        exact (none_no H).elim
    · replace H := if_no c2337 H
      have c2337b0 : t2334 = false := by simpa using c2337
      have c2337b1 : (!t2334) = true := by rw [c2337b0]; rfl
      try rw [c2337b1]
      clear c2337
      go_wp2_with fail
      go_ret2
      rw [← some_eq H]
      exact ⟨(by first | rfl | (simp [IntKind.wrap_u32]; done)), HS.out⟩
  · replace H := if_no c2328 H
    have c2328b0 : t2325 = false := by simpa using c2328
    have c2328b1 : (!t2325) = true := by rw [c2328b0]; rfl
    try rw [c2328b1]
    clear c2328
    go_wp2_with fail
    go_ret2
    rw [← some_eq H]
    exact ⟨(by first | rfl | (simp [IntKind.wrap_u32]; done)), HS.out⟩

set_option maxHeartbeats 30000000 in
set_option maxRecDepth 100000 in
theorem pack_Join.calls (k : Nat) (l2260 : List Int) (l2264 : List Int) (A2261 : Option Addr) (n2262 : Nat) (A2265 : Option Addr) (n2266 : Nat) (r : Int × Int) (w : World) (HR2263 : Aside0 (Rd (Kd.int .u32) (fps []) w A2261 l2260.length l2260)) (HR2267 : Aside0 (Rd (Kd.int .i64) (fps []) w A2265 l2264.length l2264)) (HGl0 : Aside0 (Gl 0 #[.int .i64 0, .int .i64 0, .int .i64 0, .int .i64 0, .int .i64 0] (fps []) w)) (HS : Aside0 (Sep (fps []) w [] w)) (H : Aside0 (pack_Join.f k l2260 l2264 = some r)) :
    Calls Tryd.prog 69 #[.slice A2261 l2260.length n2262, .slice A2265 l2264.length n2266] w fun e w' => e = .returned (.tuple #[.int .u32 r.1, .int .i64 r.2]) ∧ Sep (fps []) w [] w' := by
  unfold pack_Join.f at H
  go_enter Tryd.func69, Tryd.ntmps69
  go_wp2_with fail
  obtain ⟨t2297, HA2298, H⟩ := bind_some H
  refine (pack_total.calls _ l2264 A2265 n2266 t2297 _ ⟨Rd.pass (l := []) (by decide) (fun _ _ _ _ h => h) HR2267.out HS.out⟩ ⟨HGl0.out.pass (l := []) HS.out⟩ ⟨Sep.start _⟩ HA2298).mono ?_
  rintro e_ w2299 ⟨rfl, hS⟩
  replace HS : Aside0 (Sep (fps []) w [] w2299) := ⟨HS.out.call hS⟩
  clear hS
  by_cases c2300 : t2297 < 0
  · replace H := if_yes c2300 H
    have c2300b0 : decide (t2297 < 0) = true := decide_eq_true c2300
    clear c2300
    go_wp2_with fail
    go_ret2
    rw [← some_eq H]
    exact ⟨(by first | rfl | (simp [IntKind.wrap_u32]; done)), HS.out⟩
  · replace H := if_no c2300 H
    have c2300b0 : decide (t2297 < 0) = false := decide_eq_false c2300
    clear c2300
    by_cases c2301 : (l2260.length : Int) = (l2264.length : Int)
    · replace H := if_yes c2301 H
      have c2301b0 : ((l2260.length : Int) == (l2264.length : Int)) = true := beq_iff_eq.mpr c2301
      have c2301b1 : ((l2260.length : Int) != (l2264.length : Int)) = false := bne_eq_false_iff_eq.mpr c2301
      clear c2301
      go_wp2_with fail
      obtain ⟨o2350, AL2351, H⟩ := bind_some H
      go_loopg [6, 7, 24] k (fun kq v6 v7 v24 wc => ∃ (x2354 : Int) (x2355 : Int) (x2356 : Int), v6 = .int .u32 x2354 ∧ v7 = .int .i64 x2355 ∧ v24 = .int .i64 x2356 ∧ Aside0 (pack_Join.lo0 kq l2260 l2264 x2354 x2355 x2356 = some o2350) ∧ Aside0 (Sep (fps []) w [] wc))
      case atStart => exact ⟨(0), (0), (0), (by first | rfl | (simp [IntKind.wrap_u32]; done)), (by first | rfl | (simp [IntKind.wrap_u32]; done)), (by first | rfl | (simp [IntKind.wrap_u32]; done)), AL2351, ⟨HS.out⟩⟩
      case round =>
        clear AL2351 HS
        obtain ⟨x2354, x2355, x2356, rfl, rfl, rfl, AL2351, HS⟩ := hrel
        obtain ⟨w2352, rfl⟩ : ∃ x : World, x = wr := ⟨_, rfl⟩
        cases gk with
        | zero => exact absurd AL2351.out (by simp [pack_Join.lo0])
        | succ k2353 =>
          have AL0 := AL2351.out
          rw [pack_Join.lo0] at AL0
          clear AL2351
          have AL2351 := Aside0.mk AL0
          clear AL0
          by_cases c2357 : x2356 < (l2264.length : Int)
          · replace AL2351 := if_yes c2357 AL2351
            have c2357b0 : decide (x2356 < (l2264.length : Int)) = true := decide_eq_true c2357
            clear c2357
            by_cases c2358 : 0 ≤ x2356
            · replace AL2351 := if_yes c2358 AL2351
              have c2358b0 : decide (0 ≤ x2356) = true := decide_eq_true c2358
              have c2358p : (0 ≤ x2356) = True := eq_true c2358
              clear c2358
              have ip2359 : (x2356 < (l2264.length : Int)) = True := eq_true (of_decide_eq_true c2357b0)
              by_cases c2361 : x2356 < (l2260.length : Int)
              · replace AL2351 := if_yes c2361 AL2351
                have c2361b0 : decide (x2356 < (l2260.length : Int)) = true := decide_eq_true c2361
                have c2361p : (x2356 < (l2260.length : Int)) = True := eq_true c2361
                clear c2361
                obtain ⟨hx2360a, hx2360e, hx2360⟩ := Kd.at_int (Rd.read (fun _ _ _ _ h => h) HR2267.out HS.out.fr) x2356 (of_decide_eq_true c2358b0) (of_decide_eq_true c2357b0); cases hx2360e
                obtain ⟨hx2362a, hx2362e, hx2362⟩ := Kd.at_int (Rd.read (fun _ _ _ _ h => h) HR2263.out HS.out.fr) x2356 (of_decide_eq_true c2358b0) (of_decide_eq_true c2361b0); cases hx2362e
                go_wp2_with fail
                clear hx2360 hx2362
                obtain ⟨t2346, HA2363, AL2351⟩ := bind_some AL2351
                refine (pack_Put.calls x2354 x2355 (rd l2264 x2356) (rd l2260 x2356) t2346 _ ⟨HGl0.out.pass (l := []) HS.out⟩ ⟨Sep.start _⟩ HA2363).mono ?_
                rintro e_ w2364 ⟨rfl, hS⟩
                replace HS : Aside0 (Sep (fps []) w [] w2364) := ⟨HS.out.call hS⟩
                clear hS
                by_cases c2365 : t2346.2 = 0
                · replace AL2351 := if_yes c2365 AL2351
                  have c2365b0 : (t2346.2 == 0) = true := beq_iff_eq.mpr c2365
                  have c2365b1 : (t2346.2 != 0) = false := bne_eq_false_iff_eq.mpr c2365
                  clear c2365
                  go_wp2_with fail
                  go_roundg k2353
                  case measure => exact Nat.lt_succ_self _
                  case rel => exact ⟨(t2346.1), (wrap64 (x2355 + (rd l2264 x2356))), (wrap64 (x2356 + 1)), (by first | rfl | (simp [IntKind.wrap_u32]; done)), (by first | rfl | (simp [IntKind.wrap_u32]; done)), (by first | rfl | (simp [IntKind.wrap_u32]; done)), Aside0.mk AL2351.out, ⟨HS.out⟩⟩
                · replace AL2351 := if_no c2365 AL2351
                  have c2365b0 : (t2346.2 == 0) = false := beq_eq_false_iff_ne.mpr c2365
                  have c2365b1 : (t2346.2 != 0) = true := bne_iff_ne.mpr c2365
                  clear c2365
                  go_wp2_with fail
                  have ho := some_eq AL2351
                  subst ho
                  have H := lp_ret H
                  go_ret2
                  rw [← some_eq H]
                  exact ⟨(by first | rfl | (simp [IntKind.wrap_u32]; done)), HS.out⟩
              · replace AL2351 := if_no c2361 AL2351
                have c2361b0 : decide (x2356 < (l2260.length : Int)) = false := decide_eq_false c2361
                clear c2361
                exact (none_no AL2351).elim
            · replace AL2351 := if_no c2358 AL2351
              have c2358b0 : decide (0 ≤ x2356) = false := decide_eq_false c2358
              clear c2358
              exact (none_no AL2351).elim
          · replace AL2351 := if_no c2357 AL2351
            have c2357b0 : decide (x2356 < (l2264.length : Int)) = false := decide_eq_false c2357
            clear c2357
            have ho := some_eq AL2351
            subst ho
            clear AL2351
            have H := lp_out H
            go_wp2_with fail
            go_ret2
            rw [← some_eq H]
            exact ⟨(by first | rfl | (simp [IntKind.wrap_u32]; done)), HS.out⟩
    · replace H := if_no c2301 H
      have c2301b0 : ((l2260.length : Int) == (l2264.length : Int)) = false := beq_eq_false_iff_ne.mpr c2301
      have c2301b1 : ((l2260.length : Int) != (l2264.length : Int)) = true := bne_iff_ne.mpr c2301
      clear c2301
      go_wp2_with fail
      go_ret2
      rw [← some_eq H]
      exact ⟨(by first | rfl | (simp [IntKind.wrap_u32]; done)), HS.out⟩

set_option maxHeartbeats 30000000 in
set_option maxRecDepth 100000 in
theorem tag_Pack.calls (k : Nat) (a2053 : Int) (a2054 : Int) (a2055 : Int) (a2056 : Int) (a2057 : Int) (a2058 : Int) (a2059 : Int) (r : Int × Int) (w : World)  (HGl0 : Aside0 (Gl 0 #[.int .i64 0, .int .i64 0, .int .i64 0, .int .i64 0, .int .i64 0] (fps []) w)) (HS : Aside0 (Sep (fps []) w [] w)) (H : Aside0 (tag_Pack.f k a2053 a2054 a2055 a2056 a2057 a2058 a2059 = some r)) :
    Calls Tryd.prog 16 #[.agg #[.int .i64 a2053, .int .i64 a2054, .int .i64 a2055, .int .i64 a2056, .int .i64 a2057, .int .i64 a2058, .int .i64 a2059]] w fun e w' => e = .returned (.tuple #[.int .u32 r.1, .int .i64 r.2]) ∧ Sep (fps []) w [] w' := by
  unfold tag_Pack.f at H
  go_enter Tryd.func16, Tryd.ntmps16
  go_wp2_with (first | ((with_reducible refine gate_dst (N := 1) rfl ?_); refine box_on ?hg (N := 1) ?hd (cs := #[.int .i64 a2053, .int .i64 a2054, .int .i64 a2055, .int .i64 a2056, .int .i64 a2057, .int .i64 a2058, .int .i64 a2059]) (t := 32) ?hr ?_; (case hd => rfl); (case hg => rfl); (case hr => first | (go_simp; done) | (go_simp; rfl)); intro g2060 hg w2061 hbox hb; replace HS : Aside0 (Sep (fps []) w [b11 g2060 a2053 a2054 a2055 a2056 a2057 a2058 a2059] w2061) := ⟨HS.out.box hg hbox hb⟩; clear hg hbox hb; have hc2063 : w2061.cell? ⟨g2060, 0, none⟩ = some (.int .i64 a2053) := blk_cellv (HS.out.at0) 0 rfl; have hc2064 : w2061.cell? ⟨g2060, 1, none⟩ = some (.int .i64 a2054) := blk_cellv (HS.out.at0) 1 rfl; have hc2065 : w2061.cell? ⟨g2060, 2, none⟩ = some (.int .i64 a2055) := blk_cellv (HS.out.at0) 2 rfl; have hc2066 : w2061.cell? ⟨g2060, 3, none⟩ = some (.int .i64 a2056) := blk_cellv (HS.out.at0) 3 rfl; have hc2067 : w2061.cell? ⟨g2060, 4, none⟩ = some (.int .i64 a2057) := blk_cellv (HS.out.at0) 4 rfl; have hc2068 : w2061.cell? ⟨g2060, 5, none⟩ = some (.int .i64 a2058) := blk_cellv (HS.out.at0) 5 rfl; have hc2069 : w2061.cell? ⟨g2060, 6, none⟩ = some (.int .i64 a2059) := blk_cellv (HS.out.at0) 6 rfl))
  clear hc2063 hc2064 hc2065 hc2066 hc2067 hc2068 hc2069
  obtain ⟨t2202, HA2203, H⟩ := bind_some H
  refine (tag_Right.calls _ a2053 a2054 a2055 a2056 a2057 a2058 a2059 t2202 _ ⟨HGl0.out.pass (l := []) HS.out⟩ ⟨Sep.start _⟩ HA2203).mono ?_
  rintro e_ w2204 ⟨rfl, hS⟩
  replace HS : Aside0 (Sep (fps []) w [b11 g2060 a2053 a2054 a2055 a2056 a2057 a2058 a2059] w2204) := ⟨HS.out.call hS⟩
  clear hS
  by_cases c2205 : t2202 = true
  · replace H := if_yes c2205 H
    have c2205b0 : t2202 = true := c2205
    have c2205b1 : (!t2202) = false := by rw [c2205b0]; rfl
    try rw [c2205b1]
    clear c2205
    have hc2206 : w2204.cell? ⟨g2060, 0, none⟩ = some (.int .i64 a2053) := blk_cellv (HS.out.at0) 0 rfl
    go_wp2_with (first | ((with_reducible refine gate_dst (N := 13) rfl ?_); refine slice_on (n := 1) ?hg (N := 13) ?hd (cs := #[.int .u32 ((a2053) % 4294967296)]) (t := 33) ?hr ?_; (case hd => rfl); (case hg => rfl); (case hr => first | (go_simp; done) | (go_simp; rfl)); intro g2207 hg w2208 hbox hb; clear hc2206; replace HS : Aside0 (Sep (fps []) w [b11 g2060 a2053 a2054 a2055 a2056 a2057 a2058 a2059, b13 g2207 ((a2053) % 4294967296)] w2208) := ⟨HS.out.box hg hbox hb⟩; clear hg hbox hb; have hc2210 : w2208.cell? ⟨g2060, 0, none⟩ = some (.int .i64 a2053) := blk_cellv (HS.out.at0) 0 rfl; have hc2211 : w2208.cell? ⟨g2060, 1, none⟩ = some (.int .i64 a2054) := blk_cellv (HS.out.at0) 1 rfl; have hc2212 : w2208.cell? ⟨g2060, 2, none⟩ = some (.int .i64 a2055) := blk_cellv (HS.out.at0) 2 rfl; have hc2213 : w2208.cell? ⟨g2060, 3, none⟩ = some (.int .i64 a2056) := blk_cellv (HS.out.at0) 3 rfl; have hc2214 : w2208.cell? ⟨g2060, 4, none⟩ = some (.int .i64 a2057) := blk_cellv (HS.out.at0) 4 rfl; have hc2215 : w2208.cell? ⟨g2060, 5, none⟩ = some (.int .i64 a2058) := blk_cellv (HS.out.at0) 5 rfl; have hc2216 : w2208.cell? ⟨g2060, 6, none⟩ = some (.int .i64 a2059) := blk_cellv (HS.out.at0) 6 rfl))
    clear hc2210 hc2211 hc2212 hc2213 hc2214 hc2215 hc2216
    obtain ⟨t2217, HA2218, H⟩ := bind_some H
    refine (tag_marks.calls a2053 a2054 a2055 a2056 a2057 a2058 a2059 t2217 _ ⟨HGl0.out.pass (l := []) HS.out⟩ ⟨Sep.start _⟩ HA2218).mono ?_
    rintro e_ w2219 ⟨rfl, hS⟩
    replace HS : Aside0 (Sep (fps []) w [b11 g2060 a2053 a2054 a2055 a2056 a2057 a2058 a2059, b13 g2207 ((a2053) % 4294967296)] w2219) := ⟨HS.out.call hS⟩
    clear hS
    go_wp2_with fail
    replace HS : Aside0 (Sep (fps []) w [b11 g2060 a2053 a2054 a2055 a2056 a2057 a2058 a2059, r5 (some ⟨g2207, 0, none⟩) 1 1 [(a2053) % 4294967296]] w2219) := ⟨Sep.litrow (l1 := [b11 g2060 a2053 a2054 a2055 a2056 a2057 a2058 a2059]) (l2 := []) (enc := Value.int .u32) (xs := [(a2053) % 4294967296]) (n := 1) HS.out rfl (by decide)⟩
    obtain ⟨o2221, AL2222, H⟩ := bind_some H
    go_loopg [4, 16] k (fun kq v4 v16 wc => ∃ (x2226 : Int) (x2227 : List Int) (A2228 : Option Addr) (m2229 : Nat) (n2230 : Nat), v4 = .slice A2228 m2229 n2230 ∧ v16 = .int .i64 x2226 ∧ Aside0 (tag_Pack.lo0 kq t2217 x2226 x2227 = some o2221) ∧ Aside0 (Sep (fps []) w [b11 g2060 a2053 a2054 a2055 a2056 a2057 a2058 a2059, r5 A2228 m2229 n2230 x2227] wc))
    case atStart => exact ⟨(0), ([(a2053) % 4294967296]), ((some ⟨g2207, 0, none⟩)), (1), (1), (by first | rfl | (simp [IntKind.wrap_u32]; done)), (by first | rfl | (simp [IntKind.wrap_u32]; done)), AL2222, ⟨HS.out⟩⟩
    case round =>
      clear AL2222 HS
      obtain ⟨x2226, x2227, A2228, m2229, n2230, rfl, rfl, AL2222, HS⟩ := hrel
      obtain ⟨w2223, rfl⟩ : ∃ x : World, x = wr := ⟨_, rfl⟩
      obtain rfl := (row_len (HS.out.at1)).symm
      cases gk with
      | zero => exact absurd AL2222.out (by simp [tag_Pack.lo0])
      | succ k2224 =>
        have AL0 := AL2222.out
        rw [tag_Pack.lo0] at AL0
        clear AL2222
        have AL2222 := Aside0.mk AL0
        clear AL0
        by_cases c2232 : x2226 < 5
        · replace AL2222 := if_yes c2232 AL2222
          have c2232b0 : decide (x2226 < 5) = true := decide_eq_true c2232
          clear c2232
          by_cases c2233 : 0 ≤ x2226
          · replace AL2222 := if_yes c2233 AL2222
            have c2233b0 : decide (0 ≤ x2226) = true := decide_eq_true c2233
            have c2233p : (0 ≤ x2226) = True := eq_true c2233
            clear c2233
            have ip2234 : (x2226 < 5) = True := eq_true (of_decide_eq_true c2232b0)
            have ix2235 : ∀ w, (Instr.index 108 (.agg #[.int .i64 t2217.1, .int .i64 t2217.2.1, .int .i64 t2217.2.2.1, .int .i64 t2217.2.2.2.1, .int .i64 t2217.2.2.2.2]) (.int .i64 x2226)).run Tryd.prog w = .ok (.int .i64 (rd [t2217.1, t2217.2.1, t2217.2.2.1, t2217.2.2.2.1, t2217.2.2.2.2] x2226)) w := run_index_ints 108 3 5 .i64 .i64 [t2217.1, t2217.2.1, t2217.2.2.1, t2217.2.2.2.1, t2217.2.2.2.2] x2226 Tryd.underlying108 (fun _ => by kernel_rfl) (fun _ => by kernel_rfl) rfl (of_decide_eq_true c2233b0) (of_decide_eq_true c2232b0)
            by_cases c2239 : x2227.length < 35184372088832
            · replace AL2222 := if_yes c2239 AL2222
              have c2239b0 : decide (x2227.length < 35184372088832) = true := decide_eq_true c2239
              clear c2239
              obtain ⟨y2243, HA2244, AL2222⟩ := bind_some AL2222
              go_wp2_with (first | ((with_reducible refine gate_dst (N := 22) rfl ?_); refine slice_on (n := 1) ?hg (N := 22) ?hd (cs := #[.int .u32 ((rd [t2217.1, t2217.2.1, t2217.2.2.1, t2217.2.2.2.1, t2217.2.2.2.2] x2226) % 4294967296)]) (t := 33) ?hr ?_; (case hd => rfl); (case hg => rfl); (case hr => first | (go_simp; done) | (go_simp; rfl)); intro g2236 hg w2237 hbox hb; replace HS : Aside0 (Sep (fps []) w [b11 g2060 a2053 a2054 a2055 a2056 a2057 a2058 a2059, r5 A2228 x2227.length n2230 x2227, b13 g2236 ((rd [t2217.1, t2217.2.1, t2217.2.2.1, t2217.2.2.2.1, t2217.2.2.2.2] x2226) % 4294967296)] w2237) := ⟨HS.out.box hg hbox hb⟩; clear hg hbox hb) | ((with_reducible refine gate_dst (N := 23) rfl ?_); refine append_event (l1 := [b11 g2060 a2053 a2054 a2055 a2056 a2057 a2058 a2059]) (l2 := [b13 g2236 ((rd [t2217.1, t2217.2.1, t2217.2.2.1, t2217.2.2.2.1, t2217.2.2.2.2] x2226) % 4294967296)]) rfl (.tmp 19) (.tmp 22) 69 33 (.int .u32 0) 4 rfl Tryd.underlying69 (by kernel_rfl) rfl (by decide) (Value.int .u32) (fun _ => rfl) (.slice A2228 x2227.length n2230) (x2227 : List Int) [(rd [t2217.1, t2217.2.1, t2217.2.2.1, t2217.2.2.2.1, t2217.2.2.2.2] x2226) % 4294967296] ⟨g2236, 0, none⟩ 1 rfl rfl (blk_news (xs := [(rd [t2217.1, t2217.2.1, t2217.2.2.1, t2217.2.2.2.1, t2217.2.2.2.2] x2226) % 4294967296]) (HS.out.at2)) HS.out (by have := of_decide_eq_true c2239b0; simp only [List.length_cons, List.length_nil]; omega) HA2244 ?_; intro A2240 n2241 w2242 HS1; replace HS : Aside0 (Sep (fps []) w [b11 g2060 a2053 a2054 a2055 a2056 a2057 a2058 a2059, r5 A2240 y2243.length n2241 y2243, b13 g2236 ((rd [t2217.1, t2217.2.1, t2217.2.2.1, t2217.2.2.2.1, t2217.2.2.2.2] x2226) % 4294967296)] w2242) := ⟨HS1⟩; clear HS1; replace HS : Aside0 (Sep (fps []) w [b11 g2060 a2053 a2054 a2055 a2056 a2057 a2058 a2059, r5 A2240 y2243.length n2241 y2243] w2242) := ⟨HS.out.sub (.cons_cons _ (.cons_cons _ (.cons _ .slnil)))⟩))
              go_roundg k2224
              case measure => exact Nat.lt_succ_self _
              case rel => exact ⟨(wrap64 (x2226 + 1)), (y2243), (A2240), (y2243.length), (n2241), (by first | rfl | (simp [IntKind.wrap_u32]; done)), (by first | rfl | (simp [IntKind.wrap_u32]; done)), Aside0.mk AL2222.out, ⟨HS.out⟩⟩
            · replace AL2222 := if_no c2239 AL2222
              have c2239b0 : decide (x2227.length < 35184372088832) = false := decide_eq_false c2239
              clear c2239
              exact (none_no AL2222).elim
          · replace AL2222 := if_no c2233 AL2222
            have c2233b0 : decide (0 ≤ x2226) = false := decide_eq_false c2233
            clear c2233
            exact (none_no AL2222).elim
        · replace AL2222 := if_no c2232 AL2222
          have c2232b0 : decide (x2226 < 5) = false := decide_eq_false c2232
          clear c2232
          have ho := some_eq AL2222
          subst ho
          clear AL2222
          by_cases c2250 : x2227.length < 35184372088831
          · replace H := if_yes c2250 H
            have c2250b0 : decide (x2227.length < 35184372088831) = true := decide_eq_true c2250
            clear c2250
            obtain ⟨y2254, HA2255, H⟩ := bind_some H
            have hc2246 : w2223.cell? ⟨g2060, 6, none⟩ = some (.int .i64 a2059) := blk_cellv (HS.out.at0) 6 rfl
            go_wp2_with (first | ((with_reducible refine gate_dst (N := 29) rfl ?_); refine slice_on (n := 2) ?hg (N := 29) ?hd (cs := #[.int .u32 0, .int .u32 ((a2059) % 4294967296)]) (t := 33) ?hr ?_; (case hd => rfl); (case hg => rfl); (case hr => first | (go_simp; done) | (go_simp; rfl)); intro g2247 hg w2248 hbox hb; clear hc2246; replace HS : Aside0 (Sep (fps []) w [b11 g2060 a2053 a2054 a2055 a2056 a2057 a2058 a2059, r5 A2228 x2227.length n2230 x2227, b14 g2247 0 ((a2059) % 4294967296)] w2248) := ⟨HS.out.box hg hbox hb⟩; clear hg hbox hb) | ((with_reducible refine gate_dst (N := 30) rfl ?_); refine append_event (l1 := [b11 g2060 a2053 a2054 a2055 a2056 a2057 a2058 a2059]) (l2 := [b14 g2247 0 ((a2059) % 4294967296)]) rfl (.tmp 25) (.tmp 29) 69 33 (.int .u32 0) 4 rfl Tryd.underlying69 (by kernel_rfl) rfl (by decide) (Value.int .u32) (fun _ => rfl) (.slice A2228 x2227.length n2230) (x2227 : List Int) [0, (a2059) % 4294967296] ⟨g2247, 0, none⟩ 2 rfl rfl (blk_news (xs := [0, (a2059) % 4294967296]) (HS.out.at2)) HS.out (by have := of_decide_eq_true c2250b0; simp only [List.length_cons, List.length_nil]; omega) HA2255 ?_; intro A2251 n2252 w2253 HS1; replace HS : Aside0 (Sep (fps []) w [b11 g2060 a2053 a2054 a2055 a2056 a2057 a2058 a2059, r5 A2251 y2254.length n2252 y2254, b14 g2247 0 ((a2059) % 4294967296)] w2253) := ⟨HS1⟩; clear HS1) | ((with_reducible refine gate_dst (N := 31) rfl ?_); refine slice_on (n := 8) ?hg (N := 31) ?hd (cs := #[.int .i64 2, .int .i64 1, .int .i64 1, .int .i64 1, .int .i64 1, .int .i64 1, .int .i64 1, .int .i64 24]) (t := 3) ?hr ?_; (case hd => rfl); (case hg => rfl); (case hr => first | (go_simp; done) | (go_simp; rfl)); intro g2257 hg w2258 hbox hb; replace HS : Aside0 (Sep (fps []) w [b11 g2060 a2053 a2054 a2055 a2056 a2057 a2058 a2059, r5 A2251 y2254.length n2252 y2254, b14 g2247 0 ((a2059) % 4294967296), b15 g2257 2 1 1 1 1 1 1 24] w2258) := ⟨HS.out.box hg hbox hb⟩; clear hg hbox hb))
            obtain ⟨t2367, HA2368, H⟩ := bind_some H
            refine (pack_Join.calls _ y2254 [2, 1, 1, 1, 1, 1, 1, 24] A2251 n2252 (some ⟨g2257, 0, none⟩) 8 t2367 _ ⟨Rd.ownI (l := []) HS.out 1 rfl⟩ ⟨Rd.lit (l := []) (xs := [2, 1, 1, 1, 1, 1, 1, 24]) HS.out 3 rfl (by simp)⟩ ⟨HGl0.out.pass (l := []) HS.out⟩ ⟨Sep.start _⟩ HA2368).mono ?_
            rintro e_ w2369 ⟨rfl, hS⟩
            replace HS : Aside0 (Sep (fps []) w [b11 g2060 a2053 a2054 a2055 a2056 a2057 a2058 a2059, r5 A2251 y2254.length n2252 y2254, b14 g2247 0 ((a2059) % 4294967296), b15 g2257 2 1 1 1 1 1 1 24] w2369) := ⟨HS.out.call hS⟩
            clear hS
            replace HS : Aside0 (Sep (fps []) w [] w2369) := ⟨HS.out.sub (.cons _ (.cons _ (.cons _ (.cons _ .slnil))))⟩
            go_wp2_with fail
            go_ret2
            rw [← some_eq H]
            exact ⟨(by first | rfl | (simp [IntKind.wrap_u32]; done)), HS.out⟩
          · replace H := if_no c2250 H
            have c2250b0 : decide (x2227.length < 35184372088831) = false := decide_eq_false c2250
            clear c2250
            exact (none_no H).elim
  · replace H := if_no c2205 H
    have c2205b0 : t2202 = false := by simpa using c2205
    have c2205b1 : (!t2202) = true := by rw [c2205b0]; rfl
    try rw [c2205b1]
    clear c2205
    replace HS : Aside0 (Sep (fps []) w [] w2204) := ⟨HS.out.sub (.cons _ .slnil)⟩
    go_wp2_with fail
    go_ret2
    rw [← some_eq H]
    exact ⟨(by first | rfl | (simp [IntKind.wrap_u32]; done)), HS.out⟩

set_option maxHeartbeats 30000000 in
set_option maxRecDepth 100000 in
theorem obj_mark.calls (k : Nat) (l2025 : List Int) (a2030 : Int) (a2031 : Int) (a2032 : Int) (a2033 : Int) (a2034 : Int) (a2035 : Int) (a2036 : Int) (a2037 : Int) (a2038 : Int) (a2039 : Int) (a2040 : Int) (a2041 : Int) (a2042 : Int) (g2021 : Nat) (g2023 : Nat) (A2026 : Option Addr) (m2027 : Nat) (n2028 : Nat) (r : Int × List Int) (w : World)  (HGl0 : Aside0 (Gl 0 #[.int .i64 0, .int .i64 0, .int .i64 0, .int .i64 0, .int .i64 0] (fps [b7 g2021 g2023 a2031 a2032 a2033 a2034, b6 g2023 A2026 m2027 n2028 a2030, r5 A2026 m2027 n2028 l2025]) w)) (HS : Aside0 (Sep (fps [b7 g2021 g2023 a2031 a2032 a2033 a2034, b6 g2023 A2026 m2027 n2028 a2030, r5 A2026 m2027 n2028 l2025]) w [b7 g2021 g2023 a2031 a2032 a2033 a2034, b6 g2023 A2026 m2027 n2028 a2030, r5 A2026 m2027 n2028 l2025] w)) (H : Aside0 (obj_mark.f k l2025 a2030 a2031 a2032 a2033 a2034 a2035 a2036 a2037 a2038 a2039 a2040 a2041 a2042 = some r)) :
    Calls Tryd.prog 99 #[.pointer (some ⟨g2021, 0, none⟩), .int .i64 a2035, .agg #[.int .i64 a2036, .int .i64 a2037, .int .i64 a2038, .int .i64 a2039, .int .i64 a2040, .int .i64 a2041, .int .i64 a2042]] w fun e w' => e = .returned (.tuple #[]) ∧ Sep (fps [b7 g2021 g2023 a2031 a2032 a2033 a2034, b6 g2023 A2026 m2027 n2028 a2030, r5 A2026 m2027 n2028 l2025]) w [b7 g2021 g2023 a2031 a2032 a2033 a2034, b6 g2023 A2026 m2027 n2028 r.1, r5 A2026 m2027 n2028 r.2] w' := by
  generalize (fps [b7 g2021 g2023 a2031 a2032 a2033 a2034, b6 g2023 A2026 m2027 n2028 a2030, r5 A2026 m2027 n2028 l2025]) = FF at HS HGl0 ⊢
  obtain rfl := (row_len (HS.out.at2)).symm
  unfold obj_mark.f at H
  go_enter Tryd.func99, Tryd.ntmps99
  go_wp2_with (first | ((with_reducible refine gate_dst (N := 5) rfl ?_); refine box_on ?hg (N := 5) ?hd (cs := #[.int .i64 a2036, .int .i64 a2037, .int .i64 a2038, .int .i64 a2039, .int .i64 a2040, .int .i64 a2041, .int .i64 a2042]) (t := 32) ?hr ?_; (case hd => rfl); (case hg => rfl); (case hr => first | (go_simp; done) | (go_simp; rfl)); intro g2396 hg w2397 hbox hb; replace HS : Aside0 (Sep FF w [b7 g2021 g2023 a2031 a2032 a2033 a2034, b6 g2023 A2026 l2025.length n2028 a2030, r5 A2026 l2025.length n2028 l2025, b11 g2396 a2036 a2037 a2038 a2039 a2040 a2041 a2042] w2397) := ⟨HS.out.box hg hbox hb⟩; clear hg hbox hb; have hc2399 : w2397.cell? ⟨g2396, 0, none⟩ = some (.int .i64 a2036) := blk_cellv (HS.out.at3) 0 rfl; have hc2400 : w2397.cell? ⟨g2396, 1, none⟩ = some (.int .i64 a2037) := blk_cellv (HS.out.at3) 1 rfl; have hc2401 : w2397.cell? ⟨g2396, 2, none⟩ = some (.int .i64 a2038) := blk_cellv (HS.out.at3) 2 rfl; have hc2402 : w2397.cell? ⟨g2396, 3, none⟩ = some (.int .i64 a2039) := blk_cellv (HS.out.at3) 3 rfl; have hc2403 : w2397.cell? ⟨g2396, 4, none⟩ = some (.int .i64 a2040) := blk_cellv (HS.out.at3) 4 rfl; have hc2404 : w2397.cell? ⟨g2396, 5, none⟩ = some (.int .i64 a2041) := blk_cellv (HS.out.at3) 5 rfl; have hc2405 : w2397.cell? ⟨g2396, 6, none⟩ = some (.int .i64 a2042) := blk_cellv (HS.out.at3) 6 rfl))
  clear hc2399 hc2400 hc2401 hc2402 hc2403 hc2404 hc2405
  obtain ⟨t2406, HA2407, H⟩ := bind_some H
  refine (tag_Pack.calls _ a2036 a2037 a2038 a2039 a2040 a2041 a2042 t2406 _ ⟨HGl0.out.pass (l := []) HS.out⟩ ⟨Sep.start _⟩ HA2407).mono ?_
  rintro e_ w2408 ⟨rfl, hS⟩
  replace HS : Aside0 (Sep FF w [b7 g2021 g2023 a2031 a2032 a2033 a2034, b6 g2023 A2026 l2025.length n2028 a2030, r5 A2026 l2025.length n2028 l2025, b11 g2396 a2036 a2037 a2038 a2039 a2040 a2041 a2042] w2408) := ⟨HS.out.call hS⟩
  clear hS
  by_cases c2409 : t2406.2 = 0
  · replace H := if_yes c2409 H
    have c2409b0 : (t2406.2 == 0) = true := beq_iff_eq.mpr c2409
    have c2409b1 : (t2406.2 != 0) = false := bne_eq_false_iff_eq.mpr c2409
    clear c2409
    replace HS : Aside0 (Sep FF w [b7 g2021 g2023 a2031 a2032 a2033 a2034, b6 g2023 A2026 l2025.length n2028 a2030, r5 A2026 l2025.length n2028 l2025] w2408) := ⟨HS.out.sub (.cons_cons _ (.cons_cons _ (.cons_cons _ (.cons _ .slnil))))⟩
    go_wp2_with fail
    obtain ⟨t2410, HA2411, H⟩ := bind_some H
    refine (ground_Ground_SetWord.calls l2025 a2030 a2031 a2032 a2033 a2034 a2035 0 t2406.1 g2021 g2023 A2026 l2025.length n2028 t2410 _ ⟨HGl0.out.pass HS.out⟩ ⟨HS.out.begin⟩ HA2411).mono ?_
    rintro e_ w2412 ⟨rfl, hS⟩
    replace HS : Aside0 (Sep FF w [b7 g2021 g2023 a2031 a2032 a2033 a2034, b6 g2023 A2026 l2025.length n2028 t2410.2.1, r5 A2026 l2025.length n2028 t2410.2.2] w2412) := ⟨HS.out.call hS⟩
    clear hS
    go_wp2_with fail
    first | go_end0 | refine bodyPost_ret (results_none rfl _ _ _) rfl ?_
    rw [← some_eq H]
    exact ⟨rfl, HS.out⟩
  · replace H := if_no c2409 H
    have c2409b0 : (t2406.2 == 0) = false := beq_eq_false_iff_ne.mpr c2409
    have c2409b1 : (t2406.2 != 0) = true := bne_iff_ne.mpr c2409
    clear c2409
    replace HS : Aside0 (Sep FF w [b7 g2021 g2023 a2031 a2032 a2033 a2034, b6 g2023 A2026 l2025.length n2028 a2030, r5 A2026 l2025.length n2028 l2025] w2408) := ⟨HS.out.sub (.cons_cons _ (.cons_cons _ (.cons_cons _ (.cons _ .slnil))))⟩
    go_wp2_with fail
    first | go_end0 | refine bodyPost_ret (results_none rfl _ _ _) rfl ?_
    rw [← some_eq H]
    exact ⟨rfl, HS.out⟩
end Go.Proofs.YtobeonkddamnoaaDoor.C

/- Each function of the group TT does what its plain function says, and changes nothing that was there; proved by walking its code. No condition. -/
import Derived.Test.YtobeonkddamnoaaGreatDoorQw
import Derived.Test.YtobeonkddamnoaaGreatDoorMTT
import Derived.Test.YtobeonkddamnoaaGreatDoorGTT0
namespace Go.Proofs.YtobeonkddamnoaaGreatDoor.C
open Go.RowKit Go.Proofs.YtobeonkddamnoaaGreatDoorW.PrintWords Go.Proofs.YtobeonkddamnoaaGreatDoorW.PrintLast Go.Proofs.YtobeonkddamnoaaGreatDoor.Q Go.Proofs.YtobeonkddamnoaaGreatDoor.M
set_option linter.unusedVariables false
set_option linter.unusedSimpArgs false
set_option maxHeartbeats 30000000 in
set_option maxRecDepth 100000 in
theorem chain_put_F144.calls (l1154 : List Int) (a1159 : Int) (a1160 : Int) (a1161 : Int) (a1162 : Int) (a1163 : Int) (a1164 : Int) (a1165 : Int) (a1170 : Int) (g1150 : Nat) (g1152 : Nat) (A1155 : Option Addr) (m1156 : Nat) (n1157 : Nat) (g1167 : Nat) (g1169 : Nat) (r : Bool × Int × List Int) (w : World)  (HGl0 : Aside0 (Gl 0 #[.int .i64 0, .int .i64 0, .int .i64 0, .int .i64 0, .int .i64 0] (fps [b7 g1150 g1152 a1160 a1161 a1162 a1163, b6 g1152 A1155 m1156 n1157 a1159, r5 A1155 m1156 n1157 l1154, b9 g1167 g1150, b10 g1169 a1170]) w)) (HS : Aside0 (Sep (fps [b7 g1150 g1152 a1160 a1161 a1162 a1163, b6 g1152 A1155 m1156 n1157 a1159, r5 A1155 m1156 n1157 l1154, b9 g1167 g1150, b10 g1169 a1170]) w [b7 g1150 g1152 a1160 a1161 a1162 a1163, b6 g1152 A1155 m1156 n1157 a1159, r5 A1155 m1156 n1157 l1154, b9 g1167 g1150, b10 g1169 a1170] w)) (H : Aside0 (chain_put_F144.f l1154 a1159 a1160 a1161 a1162 a1163 a1164 a1165 a1170 = some r)) :
    Calls Tryz.prog 143 #[.pointer (some ⟨g1150, 0, none⟩), .int .i64 a1164, .int .i64 a1165, .func (.func 144) #[] #[.pointer (some ⟨g1167, 0, none⟩), .pointer (some ⟨g1169, 0, none⟩)]] w fun e w' => e = .returned (.bool r.1) ∧ Sep (fps [b7 g1150 g1152 a1160 a1161 a1162 a1163, b6 g1152 A1155 m1156 n1157 a1159, r5 A1155 m1156 n1157 l1154, b9 g1167 g1150, b10 g1169 a1170]) w [b7 g1150 g1152 a1160 a1161 a1162 a1163, b6 g1152 A1155 m1156 n1157 r.2.1, r5 A1155 m1156 n1157 r.2.2, b9 g1167 g1150, b10 g1169 a1170] w' := by
  generalize (fps [b7 g1150 g1152 a1160 a1161 a1162 a1163, b6 g1152 A1155 m1156 n1157 a1159, r5 A1155 m1156 n1157 l1154, b9 g1167 g1150, b10 g1169 a1170]) = FF at HS HGl0 ⊢
  obtain rfl := (row_len (HS.out.at2)).symm
  unfold chain_put_F144.f at H
  go_enter Tryz.func143, Tryz.ntmps143
  go_wp2_with fail
  obtain ⟨t1463, HA1464, H⟩ := bind_some H
  refine (chain_of.calls l1154 a1159 a1160 a1161 a1162 a1163 a1164 g1150 g1152 A1155 l1154.length n1157 t1463 _ ⟨HGl0.out.pass HS.out⟩ ⟨HS.out.begin⟩ HA1464).mono ?_
  rintro e_ w1465 ⟨rfl, hS⟩
  replace HS : Aside0 (Sep FF w [b7 g1150 g1152 a1160 a1161 a1162 a1163, b6 g1152 A1155 l1154.length n1157 a1159, r5 A1155 l1154.length n1157 l1154, b9 g1167 g1150, b10 g1169 a1170] w1465) := ⟨HS.out.call hS⟩
  clear hS
  by_cases c1476 : t1463.2.2.2 = true
  · replace H := if_yes c1476 H
    have c1476b0 : t1463.2.2.2 = true := c1476
    have c1476b1 : (!t1463.2.2.2) = false := by rw [c1476b0]; rfl
    try rw [c1476b1]
    clear c1476
    by_cases c1477 : a1165 < 0
    · replace H := if_yes c1477 H
      have c1477b0 : decide (a1165 < 0) = true := decide_eq_true c1477
      clear c1477
      go_wp2_with (first | ((with_reducible refine gate_dst (N := 9) rfl ?_); refine box_on ?hg (N := 9) ?hd (cs := #[.int .i64 0, .int .i64 0, .int .i64 0]) (t := 165) ?hr ?_; (case hd => rfl); (case hg => rfl); (case hr => first | (go_simp; done) | (go_simp; rfl)); intro g1466 hg w1467 hbox hb; replace HS : Aside0 (Sep FF w [b7 g1150 g1152 a1160 a1161 a1162 a1163, b6 g1152 A1155 l1154.length n1157 a1159, r5 A1155 l1154.length n1157 l1154, b9 g1167 g1150, b10 g1169 a1170, b8 g1466 0 0 0] w1467) := ⟨HS.out.box hg hbox hb⟩; clear hg hbox hb; have hc1469 : w1467.cell? ⟨g1466, 0, none⟩ = some (.int .i64 0) := blk_cellv (HS.out.at5) 0 rfl; have hz1470 : w1467.frozen? ⟨g1466, 0, none⟩ = false := blk_fz (HS.out.at5) 0; have hc1471 : w1467.cell? ⟨g1466, 1, none⟩ = some (.int .i64 0) := blk_cellv (HS.out.at5) 1 rfl; have hz1472 : w1467.frozen? ⟨g1466, 1, none⟩ = false := blk_fz (HS.out.at5) 1; have hc1473 : w1467.cell? ⟨g1466, 2, none⟩ = some (.int .i64 0) := blk_cellv (HS.out.at5) 2 rfl; have hz1474 : w1467.frozen? ⟨g1466, 2, none⟩ = false := blk_fz (HS.out.at5) 2) | ((with_reducible refine gate_store (t := 165) (p := 9) rfl ?_); refine store_event (w1 := (World.setCell (World.setCell (World.setCell w1467 ⟨g1466, 0, none⟩ (.int .i64 t1463.1)) ⟨g1466, 1, none⟩ (.int .i64 t1463.2.1)) ⟨g1466, 2, none⟩ (.int .i64 t1463.2.2.1))) rfl (t := 165) (p := 9) rfl rfl ?hr ?_; (case hr => first | (go_simp; done) | (go_simp; rfl)); intro w1475 hst; clear hc1469 hz1470 hc1471 hz1472 hc1473 hz1474; replace HS : Aside0 (Sep FF w [b7 g1150 g1152 a1160 a1161 a1162 a1163, b6 g1152 A1155 l1154.length n1157 a1159, r5 A1155 l1154.length n1157 l1154, b9 g1167 g1150, b10 g1169 a1170, b8 g1466 t1463.1 t1463.2.1 t1463.2.2.1] w1475) := ⟨by rw [hst]; exact HS.out.setAll (l1 := [b7 g1150 g1152 a1160 a1161 a1162 a1163, b6 g1152 A1155 l1154.length n1157 a1159, r5 A1155 l1154.length n1157 l1154, b9 g1167 g1150, b10 g1169 a1170]) (l2 := []) [.int .i64 t1463.1, .int .i64 t1463.2.1, .int .i64 t1463.2.2.1] rfl⟩; clear hst; replace HS : Aside0 (Sep FF w [b7 g1150 g1152 a1160 a1161 a1162 a1163, b6 g1152 A1155 l1154.length n1157 a1159, r5 A1155 l1154.length n1157 l1154, b9 g1167 g1150, b10 g1169 a1170] w1475) := ⟨HS.out.sub (.cons_cons _ (.cons_cons _ (.cons_cons _ (.cons_cons _ (.cons_cons _ (.cons _ .slnil))))))⟩))
      go_ret
      rw [← some_eq H]
      exact ⟨(by first | rfl | (simp [IntKind.wrap_u32]; done)), HS.out⟩
    · replace H := if_no c1477 H
      have c1477b0 : decide (a1165 < 0) = false := decide_eq_false c1477
      clear c1477
      go_wp2_with (first | ((with_reducible refine gate_dst (N := 9) rfl ?_); refine box_on ?hg (N := 9) ?hd (cs := #[.int .i64 0, .int .i64 0, .int .i64 0]) (t := 165) ?hr ?_; (case hd => rfl); (case hg => rfl); (case hr => first | (go_simp; done) | (go_simp; rfl)); intro g1466 hg w1467 hbox hb; replace HS : Aside0 (Sep FF w [b7 g1150 g1152 a1160 a1161 a1162 a1163, b6 g1152 A1155 l1154.length n1157 a1159, r5 A1155 l1154.length n1157 l1154, b9 g1167 g1150, b10 g1169 a1170, b8 g1466 0 0 0] w1467) := ⟨HS.out.box hg hbox hb⟩; clear hg hbox hb; have hc1469 : w1467.cell? ⟨g1466, 0, none⟩ = some (.int .i64 0) := blk_cellv (HS.out.at5) 0 rfl; have hz1470 : w1467.frozen? ⟨g1466, 0, none⟩ = false := blk_fz (HS.out.at5) 0; have hc1471 : w1467.cell? ⟨g1466, 1, none⟩ = some (.int .i64 0) := blk_cellv (HS.out.at5) 1 rfl; have hz1472 : w1467.frozen? ⟨g1466, 1, none⟩ = false := blk_fz (HS.out.at5) 1; have hc1473 : w1467.cell? ⟨g1466, 2, none⟩ = some (.int .i64 0) := blk_cellv (HS.out.at5) 2 rfl; have hz1474 : w1467.frozen? ⟨g1466, 2, none⟩ = false := blk_fz (HS.out.at5) 2) | ((with_reducible refine gate_store (t := 165) (p := 9) rfl ?_); refine store_event (w1 := (World.setCell (World.setCell (World.setCell w1467 ⟨g1466, 0, none⟩ (.int .i64 t1463.1)) ⟨g1466, 1, none⟩ (.int .i64 t1463.2.1)) ⟨g1466, 2, none⟩ (.int .i64 t1463.2.2.1))) rfl (t := 165) (p := 9) rfl rfl ?hr ?_; (case hr => first | (go_simp; done) | (go_simp; rfl)); intro w1475 hst; clear hc1469 hz1470 hc1471 hz1472 hc1473 hz1474; replace HS : Aside0 (Sep FF w [b7 g1150 g1152 a1160 a1161 a1162 a1163, b6 g1152 A1155 l1154.length n1157 a1159, r5 A1155 l1154.length n1157 l1154, b9 g1167 g1150, b10 g1169 a1170, b8 g1466 t1463.1 t1463.2.1 t1463.2.2.1] w1475) := ⟨by rw [hst]; exact HS.out.setAll (l1 := [b7 g1150 g1152 a1160 a1161 a1162 a1163, b6 g1152 A1155 l1154.length n1157 a1159, r5 A1155 l1154.length n1157 l1154, b9 g1167 g1150, b10 g1169 a1170]) (l2 := []) [.int .i64 t1463.1, .int .i64 t1463.2.1, .int .i64 t1463.2.2.1] rfl⟩; clear hst))
      obtain ⟨t1478, HA1479, H⟩ := bind_some H
      refine (ground_Ground_Conf.calls l1154 a1159 a1160 a1161 a1162 a1163 g1150 g1152 A1155 l1154.length n1157 t1478 _ ⟨HGl0.out.pass HS.out⟩ ⟨HS.out.begin⟩ HA1479).mono ?_
      rintro e_ w1480 ⟨rfl, hS⟩
      replace HS : Aside0 (Sep FF w [b7 g1150 g1152 a1160 a1161 a1162 a1163, b6 g1152 A1155 l1154.length n1157 a1159, r5 A1155 l1154.length n1157 l1154, b9 g1167 g1150, b10 g1169 a1170, b8 g1466 t1463.1 t1463.2.1 t1463.2.2.1] w1480) := ⟨HS.out.call hS⟩
      clear hS
      by_cases c1482 : a1165 ≥ t1478.1
      · replace H := if_yes c1482 H
        have c1482b0 : decide (t1478.1 ≤ a1165) = true := decide_eq_true c1482
        clear c1482
        have fl1481 : ∀ w, (Instr.field 29 (.agg #[.int .i64 t1478.1, .int .i64 t1478.2.1, .int .i64 t1478.2.2.1, .int .i64 t1478.2.2.2]) 0).run Tryz.prog w = .ok (.int .i64 t1478.1) w := fun _ => by kernel_rfl
        replace HS : Aside0 (Sep FF w [b7 g1150 g1152 a1160 a1161 a1162 a1163, b6 g1152 A1155 l1154.length n1157 a1159, r5 A1155 l1154.length n1157 l1154, b9 g1167 g1150, b10 g1169 a1170] w1480) := ⟨HS.out.sub (.cons_cons _ (.cons_cons _ (.cons_cons _ (.cons_cons _ (.cons_cons _ (.cons _ .slnil))))))⟩
        go_wp2_with fail
        clear fl1481
        go_ret
        rw [← some_eq H]
        exact ⟨(by first | rfl | (simp [IntKind.wrap_u32]; done)), HS.out⟩
      · replace H := if_no c1482 H
        have c1482b0 : decide (t1478.1 ≤ a1165) = false := decide_eq_false c1482
        clear c1482
        have fl1481 : ∀ w, (Instr.field 29 (.agg #[.int .i64 t1478.1, .int .i64 t1478.2.1, .int .i64 t1478.2.2.1, .int .i64 t1478.2.2.2]) 0).run Tryz.prog w = .ok (.int .i64 t1478.1) w := fun _ => by kernel_rfl
        have hc1483 : w1480.cell? ⟨g1466, 2, none⟩ = some (.int .i64 t1463.2.2.1) := blk_cellv (HS.out.at5) 2 rfl
        go_wp2_with fail
        clear fl1481 hc1483
        obtain ⟨t1484, HA1485, H⟩ := bind_some H
        refine (ground_Ground_Reg.calls l1154 a1159 a1160 a1161 a1162 a1163 t1463.2.2.1 g1150 g1152 A1155 l1154.length n1157 t1484 _ ⟨HGl0.out.pass HS.out⟩ ⟨HS.out.begin⟩ HA1485).mono ?_
        rintro e_ w1486 ⟨rfl, hS⟩
        replace HS : Aside0 (Sep FF w [b7 g1150 g1152 a1160 a1161 a1162 a1163, b6 g1152 A1155 l1154.length n1157 t1484.2, r5 A1155 l1154.length n1157 l1154, b9 g1167 g1150, b10 g1169 a1170, b8 g1466 t1463.1 t1463.2.1 t1463.2.2.1] w1486) := ⟨HS.out.call hS⟩
        clear hS
        have hc1487 : w1486.cell? ⟨g1466, 0, none⟩ = some (.int .i64 t1463.1) := blk_cellv (HS.out.at5) 0 rfl
        have hc1488 : w1486.cell? ⟨g1466, 1, none⟩ = some (.int .i64 t1463.2.1) := blk_cellv (HS.out.at5) 1 rfl
        have hc1489 : w1486.cell? ⟨g1466, 2, none⟩ = some (.int .i64 t1463.2.2.1) := blk_cellv (HS.out.at5) 2 rfl
        go_wp2_with fail
        clear hc1487 hc1488 hc1489
        replace HS : Aside0 (Sep FF w [b10 g1169 a1170, b7 g1150 g1152 a1160 a1161 a1162 a1163, b6 g1152 A1155 l1154.length n1157 t1484.2, r5 A1155 l1154.length n1157 l1154, b9 g1167 g1150, b8 g1466 t1463.1 t1463.2.1 t1463.2.2.1] w1486) := ⟨HS.out.front 4 (by simp)⟩
        replace HS : Aside0 (Sep FF w [r5 A1155 l1154.length n1157 l1154, b10 g1169 a1170, b7 g1150 g1152 a1160 a1161 a1162 a1163, b6 g1152 A1155 l1154.length n1157 t1484.2, b9 g1167 g1150, b8 g1466 t1463.1 t1463.2.1 t1463.2.2.1] w1486) := ⟨HS.out.front 3 (by simp)⟩
        replace HS : Aside0 (Sep FF w [b6 g1152 A1155 l1154.length n1157 t1484.2, r5 A1155 l1154.length n1157 l1154, b10 g1169 a1170, b7 g1150 g1152 a1160 a1161 a1162 a1163, b9 g1167 g1150, b8 g1466 t1463.1 t1463.2.1 t1463.2.2.1] w1486) := ⟨HS.out.front 3 (by simp)⟩
        replace HS : Aside0 (Sep FF w [b7 g1150 g1152 a1160 a1161 a1162 a1163, b6 g1152 A1155 l1154.length n1157 t1484.2, r5 A1155 l1154.length n1157 l1154, b10 g1169 a1170, b9 g1167 g1150, b8 g1466 t1463.1 t1463.2.1 t1463.2.2.1] w1486) := ⟨HS.out.front 3 (by simp)⟩
        replace HS : Aside0 (Sep FF w [b9 g1167 g1150, b7 g1150 g1152 a1160 a1161 a1162 a1163, b6 g1152 A1155 l1154.length n1157 t1484.2, r5 A1155 l1154.length n1157 l1154, b10 g1169 a1170, b8 g1466 t1463.1 t1463.2.1 t1463.2.2.1] w1486) := ⟨HS.out.front 4 (by simp)⟩
        obtain ⟨t1490, HA1491, H⟩ := bind_some H
        refine (chain_Add_1.calls t1463.1 t1463.2.1 t1463.2.2.1 (wrap64 (a1165 + 1)) t1484.1 l1154 t1484.2 a1160 a1161 a1162 a1163 a1170 g1167 g1150 g1152 A1155 l1154.length n1157 g1169 t1490 _ ⟨HGl0.out.pass HS.out⟩ ⟨HS.out.begin⟩ HA1491).mono ?_
        rintro e_ w1492 ⟨rfl, hS⟩
        replace HS : Aside0 (Sep FF w [b9 g1167 g1150, b7 g1150 g1152 a1160 a1161 a1162 a1163, b6 g1152 A1155 l1154.length n1157 t1490.1, r5 A1155 l1154.length n1157 t1490.2, b10 g1169 a1170, b8 g1466 t1463.1 t1463.2.1 t1463.2.2.1] w1492) := ⟨HS.out.call hS⟩
        clear hS
        have hc1493 : w1492.cell? ⟨g1466, 2, none⟩ = some (.int .i64 t1463.2.2.1) := blk_cellv (HS.out.at5) 2 rfl
        go_wp2_with fail
        clear hc1493
        replace HS : Aside0 (Sep FF w [r5 A1155 l1154.length n1157 t1490.2, b9 g1167 g1150, b7 g1150 g1152 a1160 a1161 a1162 a1163, b6 g1152 A1155 l1154.length n1157 t1490.1, b10 g1169 a1170, b8 g1466 t1463.1 t1463.2.1 t1463.2.2.1] w1492) := ⟨HS.out.front 3 (by simp)⟩
        replace HS : Aside0 (Sep FF w [b6 g1152 A1155 l1154.length n1157 t1490.1, r5 A1155 l1154.length n1157 t1490.2, b9 g1167 g1150, b7 g1150 g1152 a1160 a1161 a1162 a1163, b10 g1169 a1170, b8 g1466 t1463.1 t1463.2.1 t1463.2.2.1] w1492) := ⟨HS.out.front 3 (by simp)⟩
        replace HS : Aside0 (Sep FF w [b7 g1150 g1152 a1160 a1161 a1162 a1163, b6 g1152 A1155 l1154.length n1157 t1490.1, r5 A1155 l1154.length n1157 t1490.2, b9 g1167 g1150, b10 g1169 a1170, b8 g1466 t1463.1 t1463.2.1 t1463.2.2.1] w1492) := ⟨HS.out.front 3 (by simp)⟩
        obtain ⟨t1494, HA1495, H⟩ := bind_some H
        refine (ground_Ground_SetReg.calls t1490.2 t1490.1 a1160 a1161 a1162 a1163 t1463.2.2.1 (wrap64 (t1484.1 + 1)) g1150 g1152 A1155 l1154.length n1157 t1494 _ ⟨HGl0.out.pass HS.out⟩ ⟨HS.out.begin⟩ HA1495).mono ?_
        rintro e_ w1496 ⟨rfl, hS⟩
        replace HS : Aside0 (Sep FF w [b7 g1150 g1152 a1160 a1161 a1162 a1163, b6 g1152 A1155 l1154.length n1157 t1494.2.1, r5 A1155 l1154.length n1157 t1494.2.2, b9 g1167 g1150, b10 g1169 a1170, b8 g1466 t1463.1 t1463.2.1 t1463.2.2.1] w1496) := ⟨HS.out.call hS⟩
        clear hS
        replace HS : Aside0 (Sep FF w [b7 g1150 g1152 a1160 a1161 a1162 a1163, b6 g1152 A1155 l1154.length n1157 t1494.2.1, r5 A1155 l1154.length n1157 t1494.2.2, b9 g1167 g1150, b10 g1169 a1170] w1496) := ⟨HS.out.sub (.cons_cons _ (.cons_cons _ (.cons_cons _ (.cons_cons _ (.cons_cons _ (.cons _ .slnil))))))⟩
        go_wp2_with fail
        go_ret
        rw [← some_eq H]
        exact ⟨(by first | rfl | (simp [IntKind.wrap_u32]; done)), HS.out⟩
  · replace H := if_no c1476 H
    have c1476b0 : t1463.2.2.2 = false := by simpa using c1476
    have c1476b1 : (!t1463.2.2.2) = true := by rw [c1476b0]; rfl
    try rw [c1476b1]
    clear c1476
    go_wp2_with (first | ((with_reducible refine gate_dst (N := 9) rfl ?_); refine box_on ?hg (N := 9) ?hd (cs := #[.int .i64 0, .int .i64 0, .int .i64 0]) (t := 165) ?hr ?_; (case hd => rfl); (case hg => rfl); (case hr => first | (go_simp; done) | (go_simp; rfl)); intro g1466 hg w1467 hbox hb; replace HS : Aside0 (Sep FF w [b7 g1150 g1152 a1160 a1161 a1162 a1163, b6 g1152 A1155 l1154.length n1157 a1159, r5 A1155 l1154.length n1157 l1154, b9 g1167 g1150, b10 g1169 a1170, b8 g1466 0 0 0] w1467) := ⟨HS.out.box hg hbox hb⟩; clear hg hbox hb; have hc1469 : w1467.cell? ⟨g1466, 0, none⟩ = some (.int .i64 0) := blk_cellv (HS.out.at5) 0 rfl; have hz1470 : w1467.frozen? ⟨g1466, 0, none⟩ = false := blk_fz (HS.out.at5) 0; have hc1471 : w1467.cell? ⟨g1466, 1, none⟩ = some (.int .i64 0) := blk_cellv (HS.out.at5) 1 rfl; have hz1472 : w1467.frozen? ⟨g1466, 1, none⟩ = false := blk_fz (HS.out.at5) 1; have hc1473 : w1467.cell? ⟨g1466, 2, none⟩ = some (.int .i64 0) := blk_cellv (HS.out.at5) 2 rfl; have hz1474 : w1467.frozen? ⟨g1466, 2, none⟩ = false := blk_fz (HS.out.at5) 2) | ((with_reducible refine gate_store (t := 165) (p := 9) rfl ?_); refine store_event (w1 := (World.setCell (World.setCell (World.setCell w1467 ⟨g1466, 0, none⟩ (.int .i64 t1463.1)) ⟨g1466, 1, none⟩ (.int .i64 t1463.2.1)) ⟨g1466, 2, none⟩ (.int .i64 t1463.2.2.1))) rfl (t := 165) (p := 9) rfl rfl ?hr ?_; (case hr => first | (go_simp; done) | (go_simp; rfl)); intro w1475 hst; clear hc1469 hz1470 hc1471 hz1472 hc1473 hz1474; replace HS : Aside0 (Sep FF w [b7 g1150 g1152 a1160 a1161 a1162 a1163, b6 g1152 A1155 l1154.length n1157 a1159, r5 A1155 l1154.length n1157 l1154, b9 g1167 g1150, b10 g1169 a1170, b8 g1466 t1463.1 t1463.2.1 t1463.2.2.1] w1475) := ⟨by rw [hst]; exact HS.out.setAll (l1 := [b7 g1150 g1152 a1160 a1161 a1162 a1163, b6 g1152 A1155 l1154.length n1157 a1159, r5 A1155 l1154.length n1157 l1154, b9 g1167 g1150, b10 g1169 a1170]) (l2 := []) [.int .i64 t1463.1, .int .i64 t1463.2.1, .int .i64 t1463.2.2.1] rfl⟩; clear hst; replace HS : Aside0 (Sep FF w [b7 g1150 g1152 a1160 a1161 a1162 a1163, b6 g1152 A1155 l1154.length n1157 a1159, r5 A1155 l1154.length n1157 l1154, b9 g1167 g1150, b10 g1169 a1170] w1475) := ⟨HS.out.sub (.cons_cons _ (.cons_cons _ (.cons_cons _ (.cons_cons _ (.cons_cons _ (.cons _ .slnil))))))⟩))
    go_ret
    rw [← some_eq H]
    exact ⟨(by first | rfl | (simp [IntKind.wrap_u32]; done)), HS.out⟩

set_option maxHeartbeats 30000000 in
set_option maxRecDepth 100000 in
theorem chain_Add.calls (l1129 : List Int) (a1134 : Int) (a1135 : Int) (a1136 : Int) (a1137 : Int) (a1138 : Int) (a1139 : Int) (a1140 : Int) (g1125 : Nat) (g1127 : Nat) (A1130 : Option Addr) (m1131 : Nat) (n1132 : Nat) (r : Bool × Int × List Int) (w : World)  (HGl0 : Aside0 (Gl 0 #[.int .i64 0, .int .i64 0, .int .i64 0, .int .i64 0, .int .i64 0] (fps [b7 g1125 g1127 a1135 a1136 a1137 a1138, b6 g1127 A1130 m1131 n1132 a1134, r5 A1130 m1131 n1132 l1129]) w)) (HS : Aside0 (Sep (fps [b7 g1125 g1127 a1135 a1136 a1137 a1138, b6 g1127 A1130 m1131 n1132 a1134, r5 A1130 m1131 n1132 l1129]) w [b7 g1125 g1127 a1135 a1136 a1137 a1138, b6 g1127 A1130 m1131 n1132 a1134, r5 A1130 m1131 n1132 l1129] w)) (H : Aside0 (chain_Add.f l1129 a1134 a1135 a1136 a1137 a1138 a1139 a1140 = some r)) :
    Calls Tryz.prog 97 #[.pointer (some ⟨g1125, 0, none⟩), .int .i64 a1139, .int .i64 a1140] w fun e w' => e = .returned (.bool r.1) ∧ Sep (fps [b7 g1125 g1127 a1135 a1136 a1137 a1138, b6 g1127 A1130 m1131 n1132 a1134, r5 A1130 m1131 n1132 l1129]) w [b7 g1125 g1127 a1135 a1136 a1137 a1138, b6 g1127 A1130 m1131 n1132 r.2.1, r5 A1130 m1131 n1132 r.2.2] w' := by
  generalize (fps [b7 g1125 g1127 a1135 a1136 a1137 a1138, b6 g1127 A1130 m1131 n1132 a1134, r5 A1130 m1131 n1132 l1129]) = FF at HS HGl0 ⊢
  obtain rfl := (row_len (HS.out.at2)).symm
  unfold chain_Add.f at H
  go_enter Tryz.func97, Tryz.ntmps97
  go_wp2_with (first | ((with_reducible refine gate_dst (N := 3) rfl ?_); refine box_on ?hg (N := 3) ?hd (cs := #[.pointer (some ⟨g1125, 0, none⟩)]) (t := 24) ?hr ?_; (case hd => rfl); (case hg => rfl); (case hr => first | (go_simp; done) | (go_simp; rfl)); intro g1500 hg w1501 hbox hb; replace HS : Aside0 (Sep FF w [b7 g1125 g1127 a1135 a1136 a1137 a1138, b6 g1127 A1130 l1129.length n1132 a1134, r5 A1130 l1129.length n1132 l1129, b9 g1500 g1125] w1501) := ⟨HS.out.box hg hbox hb⟩; clear hg hbox hb) | ((with_reducible refine gate_dst (N := 5) rfl ?_); refine box_on ?hg (N := 5) ?hd (cs := #[.int .i64 a1140]) (t := 3) ?hr ?_; (case hd => rfl); (case hg => rfl); (case hr => first | (go_simp; done) | (go_simp; rfl)); intro g1503 hg w1504 hbox hb; replace HS : Aside0 (Sep FF w [b7 g1125 g1127 a1135 a1136 a1137 a1138, b6 g1127 A1130 l1129.length n1132 a1134, r5 A1130 l1129.length n1132 l1129, b9 g1500 g1125, b10 g1503 a1140] w1504) := ⟨HS.out.box hg hbox hb⟩; clear hg hbox hb; have hc1506 : w1504.cell? ⟨g1500, 0, none⟩ = some (.pointer (some ⟨g1125, 0, none⟩)) := blk_cellv (HS.out.at3) 0 rfl; have hc1507 : w1504.cell? ⟨g1503, 0, none⟩ = some (.int .i64 a1140) := blk_cellv (HS.out.at4) 0 rfl))
  clear hc1506 hc1507
  obtain ⟨t1508, HA1509, H⟩ := bind_some H
  refine (chain_put_F144.calls l1129 a1134 a1135 a1136 a1137 a1138 a1139 a1140 a1140 g1125 g1127 A1130 l1129.length n1132 g1500 g1503 t1508 _ ⟨HGl0.out.pass HS.out⟩ ⟨HS.out.begin⟩ HA1509).mono ?_
  rintro e_ w1510 ⟨rfl, hS⟩
  replace HS : Aside0 (Sep FF w [b7 g1125 g1127 a1135 a1136 a1137 a1138, b6 g1127 A1130 l1129.length n1132 t1508.2.1, r5 A1130 l1129.length n1132 t1508.2.2, b9 g1500 g1125, b10 g1503 a1140] w1510) := ⟨HS.out.call hS⟩
  clear hS
  replace HS : Aside0 (Sep FF w [b7 g1125 g1127 a1135 a1136 a1137 a1138, b6 g1127 A1130 l1129.length n1132 t1508.2.1, r5 A1130 l1129.length n1132 t1508.2.2] w1510) := ⟨HS.out.sub (.cons_cons _ (.cons_cons _ (.cons_cons _ (.cons _ (.cons _ .slnil)))))⟩
  go_wp2_with fail
  go_ret
  rw [← some_eq H]
  exact ⟨(by first | rfl | (simp [IntKind.wrap_u32]; done)), HS.out⟩

set_option maxHeartbeats 30000000 in
set_option maxRecDepth 100000 in
theorem pool_Open.calls (k : Nat) (l828 : List Int) (a833 : Int) (a834 : Int) (a835 : Int) (a836 : Int) (a837 : Int) (g824 : Nat) (g826 : Nat) (A829 : Option Addr) (m830 : Nat) (n831 : Nat) (r : Bool × Int × List Int) (w : World)  (HGl0 : Aside0 (Gl 0 #[.int .i64 0, .int .i64 0, .int .i64 0, .int .i64 0, .int .i64 0] (fps [b7 g824 g826 a834 a835 a836 a837, b6 g826 A829 m830 n831 a833, r5 A829 m830 n831 l828]) w)) (HS : Aside0 (Sep (fps [b7 g824 g826 a834 a835 a836 a837, b6 g826 A829 m830 n831 a833, r5 A829 m830 n831 l828]) w [b7 g824 g826 a834 a835 a836 a837, b6 g826 A829 m830 n831 a833, r5 A829 m830 n831 l828] w)) (H : Aside0 (pool_Open.f k l828 a833 a834 a835 a836 a837 = some r)) :
    Calls Tryz.prog 41 #[.pointer (some ⟨g824, 0, none⟩)] w fun e w' => e = .returned (.bool r.1) ∧ Sep (fps [b7 g824 g826 a834 a835 a836 a837, b6 g826 A829 m830 n831 a833, r5 A829 m830 n831 l828]) w [b7 g824 g826 a834 a835 a836 a837, b6 g826 A829 m830 n831 r.2.1, r5 A829 m830 n831 r.2.2] w' := by
  generalize (fps [b7 g824 g826 a834 a835 a836 a837, b6 g826 A829 m830 n831 a833, r5 A829 m830 n831 l828]) = FF at HS HGl0 ⊢
  obtain rfl := (row_len (HS.out.at2)).symm
  unfold pool_Open.f at H
  go_enter Tryz.func41, Tryz.ntmps41
  go_wp2_with fail
  obtain ⟨t1524, HA1525, H⟩ := bind_some H
  refine (chain_Len.calls l828 a833 a834 a835 a836 a837 0 g824 g826 A829 l828.length n831 t1524 _ ⟨HGl0.out.pass HS.out⟩ ⟨HS.out.begin⟩ HA1525).mono ?_
  rintro e_ w1526 ⟨rfl, hS⟩
  replace HS : Aside0 (Sep FF w [b7 g824 g826 a834 a835 a836 a837, b6 g826 A829 l828.length n831 t1524.2, r5 A829 l828.length n831 l828] w1526) := ⟨HS.out.call hS⟩
  clear hS
  by_cases c1527 : t1524.1 > 0
  · replace H := if_yes c1527 H
    have c1527b0 : decide (0 < t1524.1) = true := decide_eq_true c1527
    clear c1527
    go_wp2_with fail
    go_ret
    rw [← some_eq H]
    exact ⟨(by first | rfl | (simp [IntKind.wrap_u32]; done)), HS.out⟩
  · replace H := if_no c1527 H
    have c1527b0 : decide (0 < t1524.1) = false := decide_eq_false c1527
    clear c1527
    go_wp2_with fail
    obtain ⟨t1528, HA1529, H⟩ := bind_some H
    refine (ground_Ground_Conf.calls l828 t1524.2 a834 a835 a836 a837 g824 g826 A829 l828.length n831 t1528 _ ⟨HGl0.out.pass HS.out⟩ ⟨HS.out.begin⟩ HA1529).mono ?_
    rintro e_ w1530 ⟨rfl, hS⟩
    replace HS : Aside0 (Sep FF w [b7 g824 g826 a834 a835 a836 a837, b6 g826 A829 l828.length n831 t1524.2, r5 A829 l828.length n831 l828] w1530) := ⟨HS.out.call hS⟩
    clear hS
    have fl1531 : ∀ w, (Instr.field 29 (.agg #[.int .i64 t1528.1, .int .i64 t1528.2.1, .int .i64 t1528.2.2.1, .int .i64 t1528.2.2.2]) 0).run Tryz.prog w = .ok (.int .i64 t1528.1) w := fun _ => by kernel_rfl
    go_wp2_with fail
    clear fl1531
    obtain ⟨o1542, AL1543, H⟩ := bind_some H
    go_loopg [14] k (fun kq v14 wc => ∃ (x1546 : Int) (x1547 : List Int) (x1548 : Int), v14 = .int .i64 x1546 ∧ Aside0 (pool_Open.lo0 kq a834 a835 a836 a837 t1528 x1546 x1547 x1548 = some o1542) ∧ Aside0 (Sep FF w [b7 g824 g826 a834 a835 a836 a837, b6 g826 A829 l828.length n831 x1548, r5 A829 l828.length n831 x1547] wc))
    case atStart => exact ⟨(0), (l828), (t1524.2), (by first | rfl | (simp [IntKind.wrap_u32]; done)), AL1543, ⟨HS.out⟩⟩
    case round =>
      clear AL1543 HS
      obtain ⟨x1546, x1547, x1548, rfl, AL1543, HS⟩ := hrel
      obtain ⟨w1544, rfl⟩ : ∃ x : World, x = wr := ⟨_, rfl⟩
      cases gk with
      | zero => exact absurd AL1543.out (by simp [pool_Open.lo0])
      | succ k1545 =>
        have AL0 := AL1543.out
        rw [pool_Open.lo0] at AL0
        clear AL1543
        have AL1543 := Aside0.mk AL0
        clear AL0
        by_cases c1549 : x1546 < t1528.1
        · replace AL1543 := if_yes c1549 AL1543
          have c1549b0 : decide (x1546 < t1528.1) = true := decide_eq_true c1549
          clear c1549
          go_wp2_with fail
          obtain ⟨t1539, HA1550, AL1543⟩ := bind_some AL1543
          refine (chain_Add.calls x1547 x1548 a834 a835 a836 a837 0 x1546 g824 g826 A829 l828.length n831 t1539 _ ⟨HGl0.out.pass HS.out⟩ ⟨HS.out.begin⟩ HA1550).mono ?_
          rintro e_ w1551 ⟨rfl, hS⟩
          replace HS : Aside0 (Sep FF w [b7 g824 g826 a834 a835 a836 a837, b6 g826 A829 l828.length n831 t1539.2.1, r5 A829 l828.length n831 t1539.2.2] w1551) := ⟨HS.out.call hS⟩
          clear hS
          go_wp2_with fail
          go_roundg k1545
          case measure => exact Nat.lt_succ_self _
          case rel => exact ⟨(wrap64 (x1546 + 1)), (t1539.2.2), (t1539.2.1), (by first | rfl | (simp [IntKind.wrap_u32]; done)), Aside0.mk AL1543.out, ⟨HS.out⟩⟩
        · replace AL1543 := if_no c1549 AL1543
          have c1549b0 : decide (x1546 < t1528.1) = false := decide_eq_false c1549
          clear c1549
          have ho := some_eq AL1543
          subst ho
          clear AL1543
          go_wp2_with fail
          go_ret
          rw [← some_eq H]
          exact ⟨(by first | rfl | (simp [IntKind.wrap_u32]; done)), HS.out⟩

set_option maxHeartbeats 30000000 in
set_option maxRecDepth 100000 in
theorem quitrentref10_Open.calls (k : Nat) (a1563 : Int) (r : List Int) (w : World)  (HGl0 : Aside0 (Gl 0 #[.int .i64 0, .int .i64 0, .int .i64 0, .int .i64 0, .int .i64 0] (fps []) w)) (HS : Aside0 (Sep (fps []) w [] w)) (H : Aside0 (quitrentref10_Open.f k a1563 = some r)) :
    Calls Tryz.prog 145 #[.int .i64 a1563] w fun e w' => ∃ (A1603 : Option Addr) (m1604 : Nat) (n1605 : Nat), e = .returned (.slice A1603 m1604 n1605) ∧ Sep (fps []) w [r11 A1603 m1604 n1605 r] w' := by
  unfold quitrentref10_Open.f at H
  go_enter Tryz.func145, Tryz.ntmps145
  go_wp2_with fail
  replace HS : Aside0 (Sep (fps []) w [r11 none 0 0 []] w) := ⟨HS.out.nilrow 3 (Value.int .i64)⟩
  obtain ⟨o1565, AL1566, H⟩ := bind_some H
  go_loopg [3, 4] k (fun kq v3 v4 wc => ∃ (x1571 : Int) (x1572 : List Int) (A1573 : Option Addr) (m1574 : Nat) (n1575 : Nat), v3 = .slice A1573 m1574 n1575 ∧ v4 = .int .i64 x1571 ∧ Aside0 (quitrentref10_Open.lo0 kq a1563 x1571 x1572 = some o1565) ∧ Aside0 (Sep (fps []) w [r11 A1573 m1574 n1575 x1572] wc))
  case atStart => exact ⟨(0), (([] : List Int)), (none), (0), (0), (by first | rfl | (simp [IntKind.wrap_u32]; done)), (by first | rfl | (simp [IntKind.wrap_u32]; done)), AL1566, ⟨HS.out⟩⟩
  case round =>
    clear AL1566 HS
    obtain ⟨x1571, x1572, A1573, m1574, n1575, rfl, rfl, AL1566, HS⟩ := hrel
    obtain ⟨w1567, rfl⟩ : ∃ x : World, x = wr := ⟨_, rfl⟩
    obtain rfl := (row_len (HS.out.at0)).symm
    cases gk with
    | zero => exact absurd AL1566.out (by simp [quitrentref10_Open.lo0])
    | succ k1568 =>
      have AL0 := AL1566.out
      rw [quitrentref10_Open.lo0] at AL0
      clear AL1566
      have AL1566 := Aside0.mk AL0
      clear AL0
      by_cases c1577 : x1571 < a1563
      · replace AL1566 := if_yes c1577 AL1566
        have c1577b0 : decide (x1571 < a1563) = true := decide_eq_true c1577
        clear c1577
        by_cases c1581 : x1572.length < 17592186044416
        · replace AL1566 := if_yes c1581 AL1566
          have c1581b0 : decide (x1572.length < 17592186044416) = true := decide_eq_true c1581
          clear c1581
          obtain ⟨y1585, HA1586, AL1566⟩ := bind_some AL1566
          go_wp2_with (first | ((with_reducible refine gate_dst (N := 12) rfl ?_); refine slice_on (n := 1) ?hg (N := 12) ?hd (cs := #[.int .i64 x1571]) (t := 3) ?hr ?_; (case hd => rfl); (case hg => rfl); (case hr => first | (go_simp; done) | (go_simp; rfl)); intro g1578 hg w1579 hbox hb; replace HS : Aside0 (Sep (fps []) w [r11 A1573 x1572.length n1575 x1572, b10 g1578 x1571] w1579) := ⟨HS.out.box hg hbox hb⟩; clear hg hbox hb) | ((with_reducible refine gate_dst (N := 13) rfl ?_); refine append_event (l1 := []) (l2 := [b10 g1578 x1571]) rfl (.tmp 10) (.tmp 12) 66 3 (.int .i64 0) 8 rfl Tryz.underlying66 (by kernel_rfl) rfl (by decide) (Value.int .i64) (fun _ => rfl) (.slice A1573 x1572.length n1575) (x1572 : List Int) [x1571] ⟨g1578, 0, none⟩ 1 rfl rfl (blk_news (xs := [x1571]) (HS.out.at1)) HS.out (by have := of_decide_eq_true c1581b0; simp only [List.length_cons, List.length_nil]; omega) HA1586 ?_; intro A1582 n1583 w1584 HS1; replace HS : Aside0 (Sep (fps []) w [r11 A1582 y1585.length n1583 y1585, b10 g1578 x1571] w1584) := ⟨HS1⟩; clear HS1; replace HS : Aside0 (Sep (fps []) w [r11 A1582 y1585.length n1583 y1585] w1584) := ⟨HS.out.sub (.cons_cons _ (.cons _ .slnil))⟩))
          go_roundg k1568
          case measure => exact Nat.lt_succ_self _
          case rel => exact ⟨(wrap64 (x1571 + 1)), (y1585), (A1582), (y1585.length), (n1583), (by first | rfl | (simp [IntKind.wrap_u32]; done)), (by first | rfl | (simp [IntKind.wrap_u32]; done)), Aside0.mk AL1566.out, ⟨HS.out⟩⟩
        · replace AL1566 := if_no c1581 AL1566
          have c1581b0 : decide (x1572.length < 17592186044416) = false := decide_eq_false c1581
          clear c1581
          exact (none_no AL1566).elim
      · replace AL1566 := if_no c1577 AL1566
        have c1577b0 : decide (x1571 < a1563) = false := decide_eq_false c1577
        clear c1577
        have ho := some_eq AL1566
        subst ho
        clear AL1566
        go_wp2_with fail
        go_ret
        rw [← some_eq H]
        exact ⟨A1573, x1572.length, n1575, (by first | rfl | (simp [IntKind.wrap_u32]; done)), HS.out⟩

set_option maxHeartbeats 30000000 in
set_option maxRecDepth 100000 in
theorem quitrentref11_New.calls (k : Nat) (a1561 : Int) (a1562 : Int) (r : Int × Int × List Int) (w : World)  (HGl0 : Aside0 (Gl 0 #[.int .i64 0, .int .i64 0, .int .i64 0, .int .i64 0, .int .i64 0] (fps []) w)) (HS : Aside0 (Sep (fps []) w [] w)) (H : Aside0 (quitrentref11_New.f k a1561 a1562 = some r)) :
    Calls Tryz.prog 98 #[.int .i64 a1561, .int .i64 a1562] w fun e w' => ∃ (g1627 : Nat), e = .returned (.pointer (some ⟨g1627, 0, none⟩)) ∧ ∃ (A1628 : Option Addr) (m1629 : Nat) (n1630 : Nat), Sep (fps []) w [b12 g1627 r.1 r.2.1 A1628 m1629 n1630, r11 A1628 m1629 n1630 r.2.2] w' := by
  unfold quitrentref11_New.f at H
  go_enter Tryz.func98, Tryz.ntmps98
  go_wp2_with fail
  obtain ⟨t1607, HA1608, H⟩ := bind_some H
  refine (quitrentref10_Open.calls _ a1561 t1607 _ ⟨HGl0.out.pass (l := []) HS.out⟩ ⟨Sep.start _⟩ HA1608).mono ?_
  rintro e_ w1609 ⟨A1611, m1612, n1613, rfl, hS⟩
  replace HS : Aside0 (Sep (fps []) w [r11 A1611 m1612 n1613 t1607] w1609) := ⟨HS.out.call hS⟩
  clear hS
  obtain rfl := (row_len (HS.out.at0)).symm
  go_wp2_with (first | ((with_reducible refine gate_dst (N := 10) rfl ?_); refine box_on ?hg (N := 10) ?hd (cs := #[.int .i64 a1561, .int .i64 a1562, .slice A1611 t1607.length n1613, .slice none 0 0]) (t := 150) ?hr ?_; (case hd => rfl); (case hg => rfl); (case hr => first | (go_simp; done) | (go_simp; rfl)); intro g1615 hg w1616 hbox hb; replace HS : Aside0 (Sep (fps []) w [r11 A1611 t1607.length n1613 t1607, b12 g1615 a1561 a1562 A1611 t1607.length n1613] w1616) := ⟨HS.out.box hg hbox hb⟩; clear hg hbox hb))
  go_ret
  rw [← some_eq H]
  exact ⟨g1615, (by first | rfl | (simp [IntKind.wrap_u32]; done)), A1611, t1607.length, n1613, ((HS.out).front 1 (by simp)).keep (l := [b12 g1615 a1561 a1562 A1611 t1607.length n1613, r11 A1611 t1607.length n1613 t1607]) (rest := [])⟩

set_option maxHeartbeats 30000000 in
set_option maxRecDepth 100000 in
theorem quitrentref12_New.calls (k : Nat) (a1559 : Int) (a1560 : Int) (r : Int × Int × List Int × List Int × List Int) (w : World)  (HGl0 : Aside0 (Gl 0 #[.int .i64 0, .int .i64 0, .int .i64 0, .int .i64 0, .int .i64 0] (fps []) w)) (HS : Aside0 (Sep (fps []) w [] w)) (H : Aside0 (quitrentref12_New.f k a1559 a1560 = some r)) :
    Calls Tryz.prog 42 #[.int .i64 a1559, .int .i64 a1560] w fun e w' => ∃ (g1673 : Nat), e = .returned (.pointer (some ⟨g1673, 0, none⟩)) ∧ ∃ (g1674 : Nat) (A1675 : Option Addr) (m1676 : Nat) (n1677 : Nat) (A1679 : Option Addr) (m1680 : Nat) (n1681 : Nat) (A1683 : Option Addr) (m1684 : Nat) (n1685 : Nat), Sep (fps []) w [b15 g1673 g1674 0 0 0 0 0 0 0 0 0 A1675 m1676 n1677 A1679 m1680 n1681 0, b12 g1674 r.1 r.2.1 A1683 m1684 n1685, r11 A1675 m1676 n1677 r.2.2.1, r11 A1679 m1680 n1681 r.2.2.2.1, r11 A1683 m1684 n1685 r.2.2.2.2] w' := by
  unfold quitrentref12_New.f at H
  go_enter Tryz.func42, Tryz.ntmps42
  go_wp2_with fail
  obtain ⟨t1632, HA1633, H⟩ := bind_some H
  refine (quitrentref11_New.calls _ a1559 a1560 t1632 _ ⟨HGl0.out.pass (l := []) HS.out⟩ ⟨Sep.start _⟩ HA1633).mono ?_
  rintro e_ w1634 ⟨g1637, rfl, A1638, m1639, n1640, hS⟩
  replace HS : Aside0 (Sep (fps []) w [b12 g1637 t1632.1 t1632.2.1 A1638 m1639 n1640, r11 A1638 m1639 n1640 t1632.2.2] w1634) := ⟨HS.out.call hS⟩
  clear hS
  obtain rfl := (row_len (HS.out.at1)).symm
  go_wp2_with (first | ((with_reducible refine gate_dst (N := 9) rfl ?_); refine box_on ?hg (N := 9) ?hd (cs := #[.pointer (some ⟨g1637, 0, none⟩), .slice none 0 0, .int .i64 0, .int .i64 0, .int .i64 0, .int .i64 0, .int .i64 0, .int .i64 0, .int .i64 0, .int .i64 0, .int .i64 0, .slice none 0 0, .slice none 0 0, .int .i64 0]) (t := 96) ?hr ?_; (case hd => rfl); (case hg => rfl); (case hr => first | (go_simp; done) | (go_simp; rfl)); intro g1642 hg w1643 hbox hb; replace HS : Aside0 (Sep (fps []) w [b12 g1637 t1632.1 t1632.2.1 A1638 ((t1632.2.2).length) n1640, r11 A1638 ((t1632.2.2).length) n1640 t1632.2.2, b13 g1642 g1637 0 0 0 0 0 0 0 0 0 0] w1643) := ⟨HS.out.box hg hbox hb⟩; clear hg hbox hb; replace HS : Aside0 (Sep (fps []) w [r11 none 0 0 [], b12 g1637 t1632.1 t1632.2.1 A1638 ((t1632.2.2).length) n1640, r11 A1638 ((t1632.2.2).length) n1640 t1632.2.2, b14 g1642 g1637 0 0 0 0 0 0 0 0 0 none 0 0 0] w1643) := ⟨HS.out.nilrow 3 (Value.int .i64)⟩; replace HS : Aside0 (Sep (fps []) w [r11 none 0 0 [], r11 none 0 0 [], b12 g1637 t1632.1 t1632.2.1 A1638 ((t1632.2.2).length) n1640, r11 A1638 ((t1632.2.2).length) n1640 t1632.2.2, b15 g1642 g1637 0 0 0 0 0 0 0 0 0 none 0 0 none 0 0 0] w1643) := ⟨HS.out.nilrow 3 (Value.int .i64)⟩))
  go_ret
  rw [← some_eq H]
  exact ⟨g1642, (by first | rfl | (simp [IntKind.wrap_u32]; done)), g1637, none, 0, 0, none, 0, 0, A1638, ((t1632.2.2).length), n1640, ((((((HS.out).front 3 (by simp)).front 1 (by simp)).front 2 (by simp)).front 3 (by simp)).front 4 (by simp)).keep (l := [b15 g1642 g1637 0 0 0 0 0 0 0 0 0 none 0 0 none 0 0 0, b12 g1637 t1632.1 t1632.2.1 A1638 ((t1632.2.2).length) n1640, r11 none 0 0 [], r11 none 0 0 [], r11 A1638 ((t1632.2.2).length) n1640 t1632.2.2]) (rest := [])⟩

set_option maxHeartbeats 30000000 in
set_option maxRecDepth 100000 in
theorem quitrentlaw12_Opened.calls (k : Nat) (a8 : Int) (a9 : Int) (a10 : Int) (a11 : Int) (r : Bool ⊕ (Bool × Int × Int × Int × Int × Int × Int × Int × List Int × List Int × List Int × List Int)) (w : World)  (HGl0 : Aside0 (Gl 0 #[.int .i64 0, .int .i64 0, .int .i64 0, .int .i64 0, .int .i64 0] (fps []) w)) (HS : Aside0 (Sep (fps []) w [] w)) (H : Aside0 (quitrentlaw12_Opened.f k a8 a9 a10 a11 = some r)) :
    Calls Tryz.prog 8 #[.agg #[.int .i64 a8, .int .i64 a9, .int .i64 a10, .int .i64 a11]] w fun e w' => Sum.elim (fun (r : Bool) => e = .returned (.tuple #[.pointer none, .pointer none, .bool r]) ∧ Sep (fps []) w [] w') (fun (r : Bool × Int × Int × Int × Int × Int × Int × Int × List Int × List Int × List Int × List Int) => ∃ (g1798 : Nat) (g1799 : Nat), e = .returned (.tuple #[.pointer (some ⟨g1798, 0, none⟩), .pointer (some ⟨g1799, 0, none⟩), .bool r.1]) ∧ ∃ (g1800 : Nat) (g1801 : Nat) (A1802 : Option Addr) (m1803 : Nat) (n1804 : Nat) (A1806 : Option Addr) (m1807 : Nat) (n1808 : Nat) (A1810 : Option Addr) (m1811 : Nat) (n1812 : Nat) (A1814 : Option Addr) (m1815 : Nat) (n1816 : Nat), Sep (fps []) w [b7 g1798 g1800 r.2.1 r.2.2.1 r.2.2.2.1 r.2.2.2.2.1, b15 g1799 g1801 0 0 0 0 0 0 0 0 0 A1802 m1803 n1804 A1806 m1807 n1808 0, b6 g1800 A1810 m1811 n1812 r.2.2.2.2.2.1, b12 g1801 r.2.2.2.2.2.2.1 r.2.2.2.2.2.2.2.1 A1814 m1815 n1816, r11 A1802 m1803 n1804 r.2.2.2.2.2.2.2.2.1, r11 A1806 m1807 n1808 r.2.2.2.2.2.2.2.2.2.1, r5 A1810 m1811 n1812 r.2.2.2.2.2.2.2.2.2.2.1, r11 A1814 m1815 n1816 r.2.2.2.2.2.2.2.2.2.2.2] w') r := by
  unfold quitrentlaw12_Opened.f at H
  go_enter Tryz.func8, Tryz.ntmps8
  go_wp2_with (first | ((with_reducible refine gate_dst (N := 1) rfl ?_); refine box_on ?hg (N := 1) ?hd (cs := #[.int .i64 a8, .int .i64 a9, .int .i64 a10, .int .i64 a11]) (t := 29) ?hr ?_; (case hd => rfl); (case hg => rfl); (case hr => first | (go_simp; done) | (go_simp; rfl)); intro g1709 hg w1710 hbox hb; replace HS : Aside0 (Sep (fps []) w [b1 g1709 a8 a9 a10 a11] w1710) := ⟨HS.out.box hg hbox hb⟩; clear hg hbox hb; have hc1712 : w1710.cell? ⟨g1709, 0, none⟩ = some (.int .i64 a8) := blk_cellv (HS.out.at0) 0 rfl; have hc1713 : w1710.cell? ⟨g1709, 1, none⟩ = some (.int .i64 a9) := blk_cellv (HS.out.at0) 1 rfl; have hc1714 : w1710.cell? ⟨g1709, 2, none⟩ = some (.int .i64 a10) := blk_cellv (HS.out.at0) 2 rfl; have hc1715 : w1710.cell? ⟨g1709, 3, none⟩ = some (.int .i64 a11) := blk_cellv (HS.out.at0) 3 rfl))
  clear hc1712 hc1713 hc1714 hc1715
  obtain ⟨t1716, HA1717, H⟩ := bind_some H
  rcases t1716 with t1718 | (t1719 | t1720)
  · have H := sum_l H
    refine (ground_New.calls _ a8 a9 a10 a11 (.inl t1718) _ ⟨HGl0.out.pass (l := []) HS.out⟩ ⟨Sep.start _⟩ HA1717).mono ?_
    rintro e_ w1721 ⟨rfl, hS⟩
    replace HS : Aside0 (Sep (fps []) w [b1 g1709 a8 a9 a10 a11] w1721) := ⟨HS.out.call hS⟩
    clear hS
    replace HS : Aside0 (Sep (fps []) w [] w1721) := ⟨HS.out.sub (.cons _ .slnil)⟩
    go_wp2_with fail
    go_ret3
    rw [← some_eq H]
    exact ⟨(by first | rfl | (simp [IntKind.wrap_u32]; done)), HS.out⟩
  · have H := sum_r H
    have H := sum_l H
    refine (ground_New.calls _ a8 a9 a10 a11 (.inr (.inl t1719)) _ ⟨HGl0.out.pass (l := []) HS.out⟩ ⟨Sep.start _⟩ HA1717).mono ?_
    rintro e_ w1722 ⟨g1726, rfl, g1727, A1728, m1729, n1730, hS⟩
    replace HS : Aside0 (Sep (fps []) w [b7 g1726 g1727 t1719.1 t1719.2.1 t1719.2.2.1 t1719.2.2.2.1, b6 g1727 A1728 m1729 n1730 0, r5 A1728 m1729 n1730 t1719.2.2.2.2, b1 g1709 a8 a9 a10 a11] w1722) := ⟨HS.out.call hS⟩
    clear hS
    obtain rfl := (row_len (HS.out.at2)).symm
    go_wp2_with fail
    obtain ⟨t1732, HA1733, H⟩ := bind_some H
    refine (pool_Open.calls _ t1719.2.2.2.2 0 t1719.1 t1719.2.1 t1719.2.2.1 t1719.2.2.2.1 g1726 g1727 A1728 ((t1719.2.2.2.2).length) n1730 t1732 _ ⟨HGl0.out.pass HS.out⟩ ⟨HS.out.begin⟩ HA1733).mono ?_
    rintro e_ w1734 ⟨rfl, hS⟩
    replace HS : Aside0 (Sep (fps []) w [b7 g1726 g1727 t1719.1 t1719.2.1 t1719.2.2.1 t1719.2.2.2.1, b6 g1727 A1728 ((t1719.2.2.2.2).length) n1730 t1732.2.1, r5 A1728 ((t1719.2.2.2.2).length) n1730 t1732.2.2, b1 g1709 a8 a9 a10 a11] w1734) := ⟨HS.out.call hS⟩
    clear hS
    by_cases c1735 : t1732.1 = true
    · replace H := if_yes c1735 H
      have c1735b0 : t1732.1 = true := c1735
      have c1735b1 : (!t1732.1) = false := by rw [c1735b0]; rfl
      try rw [c1735b1]
      clear c1735
      have hc1736 : w1734.cell? ⟨g1709, 0, none⟩ = some (.int .i64 a8) := blk_cellv (HS.out.at3) 0 rfl
      have hc1737 : w1734.cell? ⟨g1709, 1, none⟩ = some (.int .i64 a9) := blk_cellv (HS.out.at3) 1 rfl
      go_wp2_with fail
      clear hc1736 hc1737
      obtain ⟨t1738, HA1739, H⟩ := bind_some H
      refine (quitrentref12_New.calls _ a8 a9 t1738 _ ⟨HGl0.out.pass (l := []) HS.out⟩ ⟨Sep.start _⟩ HA1739).mono ?_
      rintro e_ w1740 ⟨g1746, rfl, g1747, A1748, m1749, n1750, A1752, m1753, n1754, A1756, m1757, n1758, hS⟩
      replace HS : Aside0 (Sep (fps []) w [b15 g1746 g1747 0 0 0 0 0 0 0 0 0 A1748 m1749 n1750 A1752 m1753 n1754 0, b12 g1747 t1738.1 t1738.2.1 A1756 m1757 n1758, r11 A1748 m1749 n1750 t1738.2.2.1, r11 A1752 m1753 n1754 t1738.2.2.2.1, r11 A1756 m1757 n1758 t1738.2.2.2.2, b7 g1726 g1727 t1719.1 t1719.2.1 t1719.2.2.1 t1719.2.2.2.1, b6 g1727 A1728 ((t1719.2.2.2.2).length) n1730 t1732.2.1, r5 A1728 ((t1719.2.2.2.2).length) n1730 t1732.2.2, b1 g1709 a8 a9 a10 a11] w1740) := ⟨HS.out.call hS⟩
      clear hS
      obtain rfl := (row_len (HS.out.at2)).symm
      obtain rfl := (row_len (HS.out.at3)).symm
      obtain rfl := (row_len (HS.out.at4)).symm
      replace HS : Aside0 (Sep (fps []) w [b15 g1746 g1747 0 0 0 0 0 0 0 0 0 A1748 ((t1738.2.2.1).length) n1750 A1752 ((t1738.2.2.2.1).length) n1754 0, b12 g1747 t1738.1 t1738.2.1 A1756 ((t1738.2.2.2.2).length) n1758, r11 A1748 ((t1738.2.2.1).length) n1750 t1738.2.2.1, r11 A1752 ((t1738.2.2.2.1).length) n1754 t1738.2.2.2.1, r11 A1756 ((t1738.2.2.2.2).length) n1758 t1738.2.2.2.2, b7 g1726 g1727 t1719.1 t1719.2.1 t1719.2.2.1 t1719.2.2.2.1, b6 g1727 A1728 ((t1719.2.2.2.2).length) n1730 t1732.2.1, r5 A1728 ((t1719.2.2.2.2).length) n1730 t1732.2.2] w1740) := ⟨HS.out.sub (.cons_cons _ (.cons_cons _ (.cons_cons _ (.cons_cons _ (.cons_cons _ (.cons_cons _ (.cons_cons _ (.cons_cons _ (.cons _ .slnil)))))))))⟩
      go_wp2_with fail
      go_ret3
      rw [← some_eq H]
      exact ⟨g1726, g1746, (by first | rfl | (simp [IntKind.wrap_u32]; done)), g1727, g1747, A1748, ((t1738.2.2.1).length), n1750, A1752, ((t1738.2.2.2.1).length), n1754, A1728, ((t1719.2.2.2.2).length), n1730, A1756, ((t1738.2.2.2.2).length), n1758, (((((((((HS.out).front 4 (by simp)).front 7 (by simp)).front 5 (by simp)).front 5 (by simp)).front 5 (by simp)).front 7 (by simp)).front 6 (by simp)).front 7 (by simp)).keep (l := [b7 g1726 g1727 t1719.1 t1719.2.1 t1719.2.2.1 t1719.2.2.2.1, b15 g1746 g1747 0 0 0 0 0 0 0 0 0 A1748 ((t1738.2.2.1).length) n1750 A1752 ((t1738.2.2.2.1).length) n1754 0, b6 g1727 A1728 ((t1719.2.2.2.2).length) n1730 t1732.2.1, b12 g1747 t1738.1 t1738.2.1 A1756 ((t1738.2.2.2.2).length) n1758, r11 A1748 ((t1738.2.2.1).length) n1750 t1738.2.2.1, r11 A1752 ((t1738.2.2.2.1).length) n1754 t1738.2.2.2.1, r5 A1728 ((t1719.2.2.2.2).length) n1730 t1732.2.2, r11 A1756 ((t1738.2.2.2.2).length) n1758 t1738.2.2.2.2]) (rest := [])⟩
    · replace H := if_no c1735 H
      have c1735b0 : t1732.1 = false := by simpa using c1735
      have c1735b1 : (!t1732.1) = true := by rw [c1735b0]; rfl
      try rw [c1735b1]
      clear c1735
      replace HS : Aside0 (Sep (fps []) w [] w1734) := ⟨HS.out.sub (.cons _ (.cons _ (.cons _ (.cons _ .slnil))))⟩
      go_wp2_with fail
      go_ret3
      rw [← some_eq H]
      exact ⟨(by first | rfl | (simp [IntKind.wrap_u32]; done)), HS.out⟩
  · have H := sum_r H
    have H := sum_r H
    refine (ground_New.calls _ a8 a9 a10 a11 (.inr (.inr t1720)) _ ⟨HGl0.out.pass (l := []) HS.out⟩ ⟨Sep.start _⟩ HA1717).mono ?_
    rintro e_ w1788 ⟨rfl, hS⟩
    replace HS : Aside0 (Sep (fps []) w [b1 g1709 a8 a9 a10 a11] w1788) := ⟨HS.out.call hS⟩
    clear hS
    by_cases c1789 : t1720 = 0
    · replace H := if_yes c1789 H
      have c1789b0 : (t1720 == 0) = true := beq_iff_eq.mpr c1789
      have c1789b1 : (t1720 != 0) = false := bne_eq_false_iff_eq.mpr c1789
      clear c1789
      exact (none_no H).elim
    · replace H := if_no c1789 H
      have c1789b0 : (t1720 == 0) = false := beq_eq_false_iff_ne.mpr c1789
      have c1789b1 : (t1720 != 0) = true := bne_iff_ne.mpr c1789
      clear c1789
      replace HS : Aside0 (Sep (fps []) w [] w1788) := ⟨HS.out.sub (.cons _ .slnil)⟩
      go_wp2_with fail
      go_ret3
      rw [← some_eq H]
      exact ⟨(by first | rfl | (simp [IntKind.wrap_u32]; done)), HS.out⟩

set_option maxHeartbeats 30000000 in
set_option maxRecDepth 100000 in
theorem shape_isWidth.calls (a1886 : Int) (r : Bool) (w : World)  (HGl0 : Aside0 (Gl 0 #[.int .i64 0, .int .i64 0, .int .i64 0, .int .i64 0, .int .i64 0] (fps []) w)) (HS : Aside0 (Sep (fps []) w [] w)) (H : Aside0 (shape_isWidth.f a1886 = some r)) :
    Calls Tryz.prog 149 #[.int .i64 a1886] w fun e w' => e = .returned (.bool r) ∧ Sep (fps []) w [] w' := by
  unfold shape_isWidth.f at H
  go_enter Tryz.func149, Tryz.ntmps149
  by_cases c1887 : a1886 ≥ 16
  · replace H := if_yes c1887 H
    have c1887b0 : decide (16 ≤ a1886) = true := decide_eq_true c1887
    clear c1887
    go_wp2_with fail
    go_ret
    rw [← some_eq H]
    exact ⟨(by first | rfl | (simp [IntKind.wrap_u32]; done)), HS.out⟩
  · replace H := if_no c1887 H
    have c1887b0 : decide (16 ≤ a1886) = false := decide_eq_false c1887
    clear c1887
    go_wp2_with fail
    go_ret
    rw [← some_eq H]
    exact ⟨(by first | rfl | (simp [IntKind.wrap_u32]; done)), HS.out⟩

set_option maxHeartbeats 30000000 in
set_option maxRecDepth 100000 in
theorem shape_inHead.calls (a1893 : Int) (r : Int) (w : World)  (HGl0 : Aside0 (Gl 0 #[.int .i64 0, .int .i64 0, .int .i64 0, .int .i64 0, .int .i64 0] (fps []) w)) (HS : Aside0 (Sep (fps []) w [] w)) (H : Aside0 (shape_inHead.f a1893 = some r)) :
    Calls Tryz.prog 151 #[.int .i64 a1893] w fun e w' => e = .returned (.int .i64 r) ∧ Sep (fps []) w [] w' := by
  unfold shape_inHead.f at H
  go_enter Tryz.func151, Tryz.ntmps151
  go_wp2_with fail
  go_ret
  rw [← some_eq H]
  exact ⟨(by first | rfl | (simp [IntKind.wrap_u32]; done)), HS.out⟩

set_option maxHeartbeats 30000000 in
set_option maxRecDepth 100000 in
theorem shape_inLeaf.calls (a1897 : Int) (r : Int) (w : World)  (HGl0 : Aside0 (Gl 0 #[.int .i64 0, .int .i64 0, .int .i64 0, .int .i64 0, .int .i64 0] (fps []) w)) (HS : Aside0 (Sep (fps []) w [] w)) (H : Aside0 (shape_inLeaf.f a1897 = some r)) :
    Calls Tryz.prog 152 #[.int .i64 a1897] w fun e w' => e = .returned (.int .i64 r) ∧ Sep (fps []) w [] w' := by
  unfold shape_inLeaf.f at H
  go_enter Tryz.func152, Tryz.ntmps152
  go_wp2_with fail
  go_ret
  rw [← some_eq H]
  exact ⟨(by first | rfl | (simp [IntKind.wrap_u32]; done)), HS.out⟩

set_option maxHeartbeats 30000000 in
set_option maxRecDepth 100000 in
theorem shape_most.calls (a1892 : Int) (r : Int) (w : World)  (HGl0 : Aside0 (Gl 0 #[.int .i64 0, .int .i64 0, .int .i64 0, .int .i64 0, .int .i64 0] (fps []) w)) (HS : Aside0 (Sep (fps []) w [] w)) (H : Aside0 (shape_most.f a1892 = some r)) :
    Calls Tryz.prog 150 #[.int .i64 a1892] w fun e w' => e = .returned (.int .i64 r) ∧ Sep (fps []) w [] w' := by
  unfold shape_most.f at H
  go_enter Tryz.func150, Tryz.ntmps150
  go_wp2_with fail
  obtain ⟨t1894, HA1895, H⟩ := bind_some H
  refine (shape_inHead.calls a1892 t1894 _ ⟨HGl0.out.pass (l := []) HS.out⟩ ⟨Sep.start _⟩ HA1895).mono ?_
  rintro e_ w1896 ⟨rfl, hS⟩
  replace HS : Aside0 (Sep (fps []) w [] w1896) := ⟨HS.out.call hS⟩
  clear hS
  go_wp2_with fail
  obtain ⟨t1898, HA1899, H⟩ := bind_some H
  refine (shape_inLeaf.calls a1892 t1898 _ ⟨HGl0.out.pass (l := []) HS.out⟩ ⟨Sep.start _⟩ HA1899).mono ?_
  rintro e_ w1900 ⟨rfl, hS⟩
  replace HS : Aside0 (Sep (fps []) w [] w1900) := ⟨HS.out.call hS⟩
  clear hS
  go_wp2_with fail
  go_ret
  rw [← some_eq H]
  exact ⟨(by first | rfl | (simp [IntKind.wrap_u32]; done)), HS.out⟩

set_option maxHeartbeats 30000000 in
set_option maxRecDepth 100000 in
theorem shape_wrong.calls (k : Nat) (a1881 : Int) (l1882 : List Int) (A1883 : Option Addr) (n1884 : Nat) (r : Int) (w : World) (HR1885 : Aside0 (Rd (Kd.int .i64) (fps []) w A1883 l1882.length l1882)) (HGl0 : Aside0 (Gl 0 #[.int .i64 0, .int .i64 0, .int .i64 0, .int .i64 0, .int .i64 0] (fps []) w)) (HS : Aside0 (Sep (fps []) w [] w)) (H : Aside0 (shape_wrong.f k a1881 l1882 = some r)) :
    Calls Tryz.prog 102 #[.int .i64 a1881, .slice A1883 l1882.length n1884] w fun e w' => e = .returned (.int .i64 r) ∧ Sep (fps []) w [] w' := by
  unfold shape_wrong.f at H
  go_enter Tryz.func102, Tryz.ntmps102
  go_wp2_with fail
  obtain ⟨t1888, HA1889, H⟩ := bind_some H
  refine (shape_isWidth.calls a1881 t1888 _ ⟨HGl0.out.pass (l := []) HS.out⟩ ⟨Sep.start _⟩ HA1889).mono ?_
  rintro e_ w1890 ⟨rfl, hS⟩
  replace HS : Aside0 (Sep (fps []) w [] w1890) := ⟨HS.out.call hS⟩
  clear hS
  by_cases c1891 : t1888 = true
  · replace H := if_yes c1891 H
    have c1891b0 : t1888 = true := c1891
    have c1891b1 : (!t1888) = false := by rw [c1891b0]; rfl
    try rw [c1891b1]
    clear c1891
    go_wp2_with fail
    obtain ⟨t1901, HA1902, H⟩ := bind_some H
    refine (shape_most.calls a1881 t1901 _ ⟨HGl0.out.pass (l := []) HS.out⟩ ⟨Sep.start _⟩ HA1902).mono ?_
    rintro e_ w1903 ⟨rfl, hS⟩
    replace HS : Aside0 (Sep (fps []) w [] w1903) := ⟨HS.out.call hS⟩
    clear hS
    go_wp2_with fail
    obtain ⟨o1916, AL1917, H⟩ := bind_some H
    go_loopg [5, 15] k (fun kq v5 v15 wc => ∃ (x1920 : Int) (x1921 : Int), v5 = .int .i64 x1920 ∧ v15 = .int .i64 x1921 ∧ Aside0 (shape_wrong.lo0 kq l1882 x1920 x1921 = some o1916) ∧ Aside0 (Sep (fps []) w [] wc))
    case atStart => exact ⟨(t1901), (0), (by first | rfl | (simp [IntKind.wrap_u32]; done)), (by first | rfl | (simp [IntKind.wrap_u32]; done)), AL1917, ⟨HS.out⟩⟩
    case round =>
      clear AL1917 HS
      obtain ⟨x1920, x1921, rfl, rfl, AL1917, HS⟩ := hrel
      obtain ⟨w1918, rfl⟩ : ∃ x : World, x = wr := ⟨_, rfl⟩
      cases gk with
      | zero => exact absurd AL1917.out (by simp [shape_wrong.lo0])
      | succ k1919 =>
        have AL0 := AL1917.out
        rw [shape_wrong.lo0] at AL0
        clear AL1917
        have AL1917 := Aside0.mk AL0
        clear AL0
        by_cases c1922 : x1921 < (l1882.length : Int)
        · replace AL1917 := if_yes c1922 AL1917
          have c1922b0 : decide (x1921 < (l1882.length : Int)) = true := decide_eq_true c1922
          clear c1922
          by_cases c1923 : 0 ≤ x1921
          · replace AL1917 := if_yes c1923 AL1917
            have c1923b0 : decide (0 ≤ x1921) = true := decide_eq_true c1923
            have c1923p : (0 ≤ x1921) = True := eq_true c1923
            clear c1923
            have ip1924 : (x1921 < (l1882.length : Int)) = True := eq_true (of_decide_eq_true c1922b0)
            by_cases c1926 : (rd l1882 x1921) < 0
            · replace AL1917 := if_yes c1926 AL1917
              have c1926b0 : decide ((rd l1882 x1921) < 0) = true := decide_eq_true c1926
              clear c1926
              obtain ⟨hx1925a, hx1925e, hx1925⟩ := Kd.at_int (Rd.read (fun _ _ _ _ h => h) HR1885.out HS.out.fr) x1921 (of_decide_eq_true c1923b0) (of_decide_eq_true c1922b0); cases hx1925e
              go_wp2_with fail
              clear hx1925
              have ho := some_eq AL1917
              subst ho
              have H := lp_ret H
              go_ret
              rw [← some_eq H]
              exact ⟨(by first | rfl | (simp [IntKind.wrap_u32]; done)), HS.out⟩
            · replace AL1917 := if_no c1926 AL1917
              have c1926b0 : decide ((rd l1882 x1921) < 0) = false := decide_eq_false c1926
              clear c1926
              by_cases c1927 : (rd l1882 x1921) > x1920
              · replace AL1917 := if_yes c1927 AL1917
                have c1927b0 : decide (x1920 < (rd l1882 x1921)) = true := decide_eq_true c1927
                clear c1927
                obtain ⟨hx1925a, hx1925e, hx1925⟩ := Kd.at_int (Rd.read (fun _ _ _ _ h => h) HR1885.out HS.out.fr) x1921 (of_decide_eq_true c1923b0) (of_decide_eq_true c1922b0); cases hx1925e
                go_wp2_with fail
                clear hx1925
                have ho := some_eq AL1917
                subst ho
                have H := lp_ret H
                go_ret
                rw [← some_eq H]
                exact ⟨(by first | rfl | (simp [IntKind.wrap_u32]; done)), HS.out⟩
              · replace AL1917 := if_no c1927 AL1917
                have c1927b0 : decide (x1920 < (rd l1882 x1921)) = false := decide_eq_false c1927
                clear c1927
                obtain ⟨hx1925a, hx1925e, hx1925⟩ := Kd.at_int (Rd.read (fun _ _ _ _ h => h) HR1885.out HS.out.fr) x1921 (of_decide_eq_true c1923b0) (of_decide_eq_true c1922b0); cases hx1925e
                go_wp2_with fail
                clear hx1925
                go_roundg k1919
                case measure => exact Nat.lt_succ_self _
                case rel => exact ⟨(wrap64 (x1920 - (rd l1882 x1921))), (wrap64 (x1921 + 1)), (by first | rfl | (simp [IntKind.wrap_u32]; done)), (by first | rfl | (simp [IntKind.wrap_u32]; done)), Aside0.mk AL1917.out, ⟨HS.out⟩⟩
          · replace AL1917 := if_no c1923 AL1917
            have c1923b0 : decide (0 ≤ x1921) = false := decide_eq_false c1923
            clear c1923
            exact (none_no AL1917).elim
        · replace AL1917 := if_no c1922 AL1917
          have c1922b0 : decide (x1921 < (l1882.length : Int)) = false := decide_eq_false c1922
          clear c1922
          have ho := some_eq AL1917
          subst ho
          clear AL1917
          have H := lp_out H
          go_wp2_with fail
          go_ret
          rw [← some_eq H]
          exact ⟨(by first | rfl | (simp [IntKind.wrap_u32]; done)), HS.out⟩
  · replace H := if_no c1891 H
    have c1891b0 : t1888 = false := by simpa using c1891
    have c1891b1 : (!t1888) = true := by rw [c1891b0]; rfl
    try rw [c1891b1]
    clear c1891
    go_wp2_with fail
    go_ret
    rw [← some_eq H]
    exact ⟨(by first | rfl | (simp [IntKind.wrap_u32]; done)), HS.out⟩

set_option maxHeartbeats 30000000 in
set_option maxRecDepth 100000 in
theorem shape_leaves.calls (a1933 : Int) (a1934 : Int) (r : Int) (w : World)  (HGl0 : Aside0 (Gl 0 #[.int .i64 0, .int .i64 0, .int .i64 0, .int .i64 0, .int .i64 0] (fps []) w)) (HS : Aside0 (Sep (fps []) w [] w)) (H : Aside0 (shape_leaves.f a1933 a1934 = some r)) :
    Calls Tryz.prog 103 #[.int .i64 a1933, .int .i64 a1934] w fun e w' => e = .returned (.int .i64 r) ∧ Sep (fps []) w [] w' := by
  unfold shape_leaves.f at H
  go_enter Tryz.func103, Tryz.ntmps103
  go_wp2_with fail
  obtain ⟨t1935, HA1936, H⟩ := bind_some H
  refine (shape_inHead.calls a1933 t1935 _ ⟨HGl0.out.pass (l := []) HS.out⟩ ⟨Sep.start _⟩ HA1936).mono ?_
  rintro e_ w1937 ⟨rfl, hS⟩
  replace HS : Aside0 (Sep (fps []) w [] w1937) := ⟨HS.out.call hS⟩
  clear hS
  by_cases c1938 : a1934 ≤ t1935
  · replace H := if_yes c1938 H
    have c1938b0 : decide (a1934 ≤ t1935) = true := decide_eq_true c1938
    clear c1938
    go_wp2_with fail
    go_ret
    rw [← some_eq H]
    exact ⟨(by first | rfl | (simp [IntKind.wrap_u32]; done)), HS.out⟩
  · replace H := if_no c1938 H
    have c1938b0 : decide (a1934 ≤ t1935) = false := decide_eq_false c1938
    clear c1938
    go_wp2_with fail
    obtain ⟨t1939, HA1940, H⟩ := bind_some H
    refine (shape_inLeaf.calls a1933 t1939 _ ⟨HGl0.out.pass (l := []) HS.out⟩ ⟨Sep.start _⟩ HA1940).mono ?_
    rintro e_ w1941 ⟨rfl, hS⟩
    replace HS : Aside0 (Sep (fps []) w [] w1941) := ⟨HS.out.call hS⟩
    clear hS
    go_wp2_with fail
    obtain ⟨t1942, HA1943, H⟩ := bind_some H
    refine (ratio_Up.calls a1934 t1939 t1942 _ ⟨HGl0.out.pass (l := []) HS.out⟩ ⟨Sep.start _⟩ HA1943).mono ?_
    rintro e_ w1944 ⟨rfl, hS⟩
    replace HS : Aside0 (Sep (fps []) w [] w1944) := ⟨HS.out.call hS⟩
    clear hS
    go_wp2_with fail
    go_ret
    rw [← some_eq H]
    exact ⟨(by first | rfl | (simp [IntKind.wrap_u32]; done)), HS.out⟩

set_option maxHeartbeats 30000000 in
set_option maxRecDepth 100000 in
theorem shape_Blocks.calls (k : Nat) (a1875 : Int) (a1876 : Int) (a1877 : Int) (r : Int × Int) (w : World)  (HGl0 : Aside0 (Gl 0 #[.int .i64 0, .int .i64 0, .int .i64 0, .int .i64 0, .int .i64 0] (fps []) w)) (HS : Aside0 (Sep (fps []) w [] w)) (H : Aside0 (shape_Blocks.f k a1875 a1876 a1877 = some r)) :
    Calls Tryz.prog 45 #[.int .i64 a1875, .int .i64 a1876, .int .i64 a1877] w fun e w' => e = .returned (.tuple #[.int .i64 r.1, .int .i64 r.2]) ∧ Sep (fps []) w [] w' := by
  unfold shape_Blocks.f at H
  go_enter Tryz.func45, Tryz.ntmps45
  go_wp2_with (first | ((with_reducible refine gate_dst (N := 12) rfl ?_); refine slice_on (n := 2) ?hg (N := 12) ?hd (cs := #[.int .i64 a1876, .int .i64 a1877]) (t := 3) ?hr ?_; (case hd => rfl); (case hg => rfl); (case hr => first | (go_simp; done) | (go_simp; rfl)); intro g1878 hg w1879 hbox hb; replace HS : Aside0 (Sep (fps []) w [b3 g1878 a1876 a1877] w1879) := ⟨HS.out.box hg hbox hb⟩; clear hg hbox hb))
  obtain ⟨t1929, HA1930, H⟩ := bind_some H
  refine (shape_wrong.calls _ a1875 [a1876, a1877] (some ⟨g1878, 0, none⟩) 2 t1929 _ ⟨Rd.lit (l := []) (xs := [a1876, a1877]) HS.out 0 rfl (by simp)⟩ ⟨HGl0.out.pass (l := []) HS.out⟩ ⟨Sep.start _⟩ HA1930).mono ?_
  rintro e_ w1931 ⟨rfl, hS⟩
  replace HS : Aside0 (Sep (fps []) w [b3 g1878 a1876 a1877] w1931) := ⟨HS.out.call hS⟩
  clear hS
  by_cases c1932 : t1929 = 0
  · replace H := if_yes c1932 H
    have c1932b0 : (t1929 == 0) = true := beq_iff_eq.mpr c1932
    have c1932b1 : (t1929 != 0) = false := bne_eq_false_iff_eq.mpr c1932
    clear c1932
    replace HS : Aside0 (Sep (fps []) w [] w1931) := ⟨HS.out.sub (.cons _ .slnil)⟩
    go_wp2_with fail
    obtain ⟨t1945, HA1946, H⟩ := bind_some H
    refine (shape_leaves.calls a1875 (wrap64 (a1876 + a1877)) t1945 _ ⟨HGl0.out.pass (l := []) HS.out⟩ ⟨Sep.start _⟩ HA1946).mono ?_
    rintro e_ w1947 ⟨rfl, hS⟩
    replace HS : Aside0 (Sep (fps []) w [] w1947) := ⟨HS.out.call hS⟩
    clear hS
    go_wp2_with fail
    go_ret2
    rw [← some_eq H]
    exact ⟨(by first | rfl | (simp [IntKind.wrap_u32]; done)), HS.out⟩
  · replace H := if_no c1932 H
    have c1932b0 : (t1929 == 0) = false := beq_eq_false_iff_ne.mpr c1932
    have c1932b1 : (t1929 != 0) = true := bne_iff_ne.mpr c1932
    clear c1932
    replace HS : Aside0 (Sep (fps []) w [] w1931) := ⟨HS.out.sub (.cons _ .slnil)⟩
    go_wp2_with fail
    go_ret2
    rw [← some_eq H]
    exact ⟨(by first | rfl | (simp [IntKind.wrap_u32]; done)), HS.out⟩

set_option maxHeartbeats 30000000 in
set_option maxRecDepth 100000 in
theorem pool_Len.calls (l1957 : List Int) (a1962 : Int) (a1963 : Int) (a1964 : Int) (a1965 : Int) (a1966 : Int) (g1953 : Nat) (g1955 : Nat) (A1958 : Option Addr) (m1959 : Nat) (n1960 : Nat) (r : Int × Int) (w : World)  (HGl0 : Aside0 (Gl 0 #[.int .i64 0, .int .i64 0, .int .i64 0, .int .i64 0, .int .i64 0] (fps [b7 g1953 g1955 a1963 a1964 a1965 a1966, b6 g1955 A1958 m1959 n1960 a1962, r5 A1958 m1959 n1960 l1957]) w)) (HS : Aside0 (Sep (fps [b7 g1953 g1955 a1963 a1964 a1965 a1966, b6 g1955 A1958 m1959 n1960 a1962, r5 A1958 m1959 n1960 l1957]) w [b7 g1953 g1955 a1963 a1964 a1965 a1966, b6 g1955 A1958 m1959 n1960 a1962, r5 A1958 m1959 n1960 l1957] w)) (H : Aside0 (pool_Len.f l1957 a1962 a1963 a1964 a1965 a1966 = some r)) :
    Calls Tryz.prog 47 #[.pointer (some ⟨g1953, 0, none⟩)] w fun e w' => e = .returned (.int .i64 r.1) ∧ Sep (fps [b7 g1953 g1955 a1963 a1964 a1965 a1966, b6 g1955 A1958 m1959 n1960 a1962, r5 A1958 m1959 n1960 l1957]) w [b7 g1953 g1955 a1963 a1964 a1965 a1966, b6 g1955 A1958 m1959 n1960 r.2, r5 A1958 m1959 n1960 l1957] w' := by
  generalize (fps [b7 g1953 g1955 a1963 a1964 a1965 a1966, b6 g1955 A1958 m1959 n1960 a1962, r5 A1958 m1959 n1960 l1957]) = FF at HS HGl0 ⊢
  obtain rfl := (row_len (HS.out.at2)).symm
  unfold pool_Len.f at H
  go_enter Tryz.func47, Tryz.ntmps47
  go_wp2_with fail
  obtain ⟨t1970, HA1971, H⟩ := bind_some H
  refine (chain_Len.calls l1957 a1962 a1963 a1964 a1965 a1966 0 g1953 g1955 A1958 l1957.length n1960 t1970 _ ⟨HGl0.out.pass HS.out⟩ ⟨HS.out.begin⟩ HA1971).mono ?_
  rintro e_ w1972 ⟨rfl, hS⟩
  replace HS : Aside0 (Sep FF w [b7 g1953 g1955 a1963 a1964 a1965 a1966, b6 g1955 A1958 l1957.length n1960 t1970.2, r5 A1958 l1957.length n1960 l1957] w1972) := ⟨HS.out.call hS⟩
  clear hS
  go_wp2_with fail
  go_ret
  rw [← some_eq H]
  exact ⟨(by first | rfl | (simp [IntKind.wrap_u32]; done)), HS.out⟩

set_option maxHeartbeats 30000000 in
set_option maxRecDepth 100000 in
theorem ground_Ground_Word.calls (l2063 : List Int) (a2068 : Int) (a2069 : Int) (a2070 : Int) (a2071 : Int) (a2072 : Int) (a2073 : Int) (a2074 : Int) (g2059 : Nat) (g2061 : Nat) (A2064 : Option Addr) (m2065 : Nat) (n2066 : Nat) (r : Int × Int) (w : World)  (HGl0 : Aside0 (Gl 0 #[.int .i64 0, .int .i64 0, .int .i64 0, .int .i64 0, .int .i64 0] (fps [b7 g2059 g2061 a2069 a2070 a2071 a2072, b6 g2061 A2064 m2065 n2066 a2068, r5 A2064 m2065 n2066 l2063]) w)) (HS : Aside0 (Sep (fps [b7 g2059 g2061 a2069 a2070 a2071 a2072, b6 g2061 A2064 m2065 n2066 a2068, r5 A2064 m2065 n2066 l2063]) w [b7 g2059 g2061 a2069 a2070 a2071 a2072, b6 g2061 A2064 m2065 n2066 a2068, r5 A2064 m2065 n2066 l2063] w)) (H : Aside0 (ground_Ground_Word.f l2063 a2068 a2069 a2070 a2071 a2072 a2073 a2074 = some r)) :
    Calls Tryz.prog 55 #[.pointer (some ⟨g2059, 0, none⟩), .int .i64 a2073, .int .i64 a2074] w fun e w' => e = .returned (.int .u32 r.1) ∧ Sep (fps [b7 g2059 g2061 a2069 a2070 a2071 a2072, b6 g2061 A2064 m2065 n2066 a2068, r5 A2064 m2065 n2066 l2063]) w [b7 g2059 g2061 a2069 a2070 a2071 a2072, b6 g2061 A2064 m2065 n2066 r.2, r5 A2064 m2065 n2066 l2063] w' := by
  generalize (fps [b7 g2059 g2061 a2069 a2070 a2071 a2072, b6 g2061 A2064 m2065 n2066 a2068, r5 A2064 m2065 n2066 l2063]) = FF at HS HGl0 ⊢
  obtain rfl := (row_len (HS.out.at2)).symm
  unfold ground_Ground_Word.f at H
  go_enter Tryz.func55, Tryz.ntmps55
  go_wp2_with fail
  obtain ⟨t2084, HA2085, H⟩ := bind_some H
  refine (ground_Ground_all.calls l2063 a2068 a2069 a2070 a2071 a2072 g2059 g2061 A2064 l2063.length n2066 t2084 _ ⟨HGl0.out.pass HS.out⟩ ⟨HS.out.begin⟩ HA2085).mono ?_
  rintro e_ w2086 ⟨rfl, hS⟩
  replace HS : Aside0 (Sep FF w [b7 g2059 g2061 a2069 a2070 a2071 a2072, b6 g2061 A2064 l2063.length n2066 a2068, r5 A2064 l2063.length n2066 l2063] w2086) := ⟨HS.out.call hS⟩
  clear hS
  go_wp2_with fail
  obtain ⟨t2087, HA2088, H⟩ := bind_some H
  refine (ground_Ground_word.calls l2063 a2068 a2069 a2070 a2071 a2072 a2073 a2074 g2059 g2061 A2064 l2063.length n2066 t2087 _ ⟨HGl0.out.pass HS.out⟩ ⟨HS.out.begin⟩ HA2088).mono ?_
  rintro e_ w2089 ⟨rfl, hS⟩
  replace HS : Aside0 (Sep FF w [b7 g2059 g2061 a2069 a2070 a2071 a2072, b6 g2061 A2064 l2063.length n2066 a2068, r5 A2064 l2063.length n2066 l2063] w2089) := ⟨HS.out.call hS⟩
  clear hS
  go_wp2_with fail
  replace HS : Aside0 (Sep FF w [r5 A2064 l2063.length n2066 l2063, b7 g2059 g2061 a2069 a2070 a2071 a2072, b6 g2061 A2064 l2063.length n2066 a2068] w2089) := ⟨HS.out.front 2 (by simp)⟩
  replace HS : Aside0 (Sep FF w [b6 g2061 A2064 l2063.length n2066 a2068, r5 A2064 l2063.length n2066 l2063, b7 g2059 g2061 a2069 a2070 a2071 a2072] w2089) := ⟨HS.out.front 2 (by simp)⟩
  obtain ⟨t2090, HA2091, H⟩ := bind_some H
  refine (store_Store_Get.calls l2063 a2068 t2087 g2061 A2064 l2063.length n2066 t2090 _ ⟨HGl0.out.pass HS.out⟩ ⟨HS.out.begin⟩ HA2091).mono ?_
  rintro e_ w2092 ⟨rfl, hS⟩
  replace HS : Aside0 (Sep FF w [b6 g2061 A2064 l2063.length n2066 t2090.2, r5 A2064 l2063.length n2066 l2063, b7 g2059 g2061 a2069 a2070 a2071 a2072] w2092) := ⟨HS.out.call hS⟩
  clear hS
  go_wp2_with fail
  go_ret
  rw [← some_eq H]
  exact ⟨(by first | rfl | (simp [IntKind.wrap_u32]; done)), ((((HS.out).front 1 (by simp)).front 1 (by simp)).front 2 (by simp)).keep (l := [b7 g2059 g2061 a2069 a2070 a2071 a2072, b6 g2061 A2064 l2063.length n2066 t2090.2, r5 A2064 l2063.length n2066 l2063]) (rest := [])⟩

set_option maxHeartbeats 30000000 in
set_option maxRecDepth 100000 in
theorem chain_Take.calls (l2009 : List Int) (a2014 : Int) (a2015 : Int) (a2016 : Int) (a2017 : Int) (a2018 : Int) (a2019 : Int) (g2005 : Nat) (g2007 : Nat) (A2010 : Option Addr) (m2011 : Nat) (n2012 : Nat) (r : Int × Bool × Int × List Int) (w : World)  (HGl0 : Aside0 (Gl 0 #[.int .i64 0, .int .i64 0, .int .i64 0, .int .i64 0, .int .i64 0] (fps [b7 g2005 g2007 a2015 a2016 a2017 a2018, b6 g2007 A2010 m2011 n2012 a2014, r5 A2010 m2011 n2012 l2009]) w)) (HS : Aside0 (Sep (fps [b7 g2005 g2007 a2015 a2016 a2017 a2018, b6 g2007 A2010 m2011 n2012 a2014, r5 A2010 m2011 n2012 l2009]) w [b7 g2005 g2007 a2015 a2016 a2017 a2018, b6 g2007 A2010 m2011 n2012 a2014, r5 A2010 m2011 n2012 l2009] w)) (H : Aside0 (chain_Take.f l2009 a2014 a2015 a2016 a2017 a2018 a2019 = some r)) :
    Calls Tryz.prog 104 #[.pointer (some ⟨g2005, 0, none⟩), .int .i64 a2019] w fun e w' => e = .returned (.tuple #[.int .i64 r.1, .bool r.2.1]) ∧ Sep (fps [b7 g2005 g2007 a2015 a2016 a2017 a2018, b6 g2007 A2010 m2011 n2012 a2014, r5 A2010 m2011 n2012 l2009]) w [b7 g2005 g2007 a2015 a2016 a2017 a2018, b6 g2007 A2010 m2011 n2012 r.2.2.1, r5 A2010 m2011 n2012 r.2.2.2] w' := by
  generalize (fps [b7 g2005 g2007 a2015 a2016 a2017 a2018, b6 g2007 A2010 m2011 n2012 a2014, r5 A2010 m2011 n2012 l2009]) = FF at HS HGl0 ⊢
  obtain rfl := (row_len (HS.out.at2)).symm
  unfold chain_Take.f at H
  go_enter Tryz.func104, Tryz.ntmps104
  go_wp2_with fail
  obtain ⟨t2116, HA2117, H⟩ := bind_some H
  refine (chain_of.calls l2009 a2014 a2015 a2016 a2017 a2018 a2019 g2005 g2007 A2010 l2009.length n2012 t2116 _ ⟨HGl0.out.pass HS.out⟩ ⟨HS.out.begin⟩ HA2117).mono ?_
  rintro e_ w2118 ⟨rfl, hS⟩
  replace HS : Aside0 (Sep FF w [b7 g2005 g2007 a2015 a2016 a2017 a2018, b6 g2007 A2010 l2009.length n2012 a2014, r5 A2010 l2009.length n2012 l2009] w2118) := ⟨HS.out.call hS⟩
  clear hS
  by_cases c2129 : t2116.2.2.2 = true
  · replace H := if_yes c2129 H
    have c2129b0 : t2116.2.2.2 = true := c2129
    have c2129b1 : (!t2116.2.2.2) = false := by rw [c2129b0]; rfl
    try rw [c2129b1]
    clear c2129
    go_wp2_with (first | ((with_reducible refine gate_dst (N := 6) rfl ?_); refine box_on ?hg (N := 6) ?hd (cs := #[.int .i64 0, .int .i64 0, .int .i64 0]) (t := 165) ?hr ?_; (case hd => rfl); (case hg => rfl); (case hr => first | (go_simp; done) | (go_simp; rfl)); intro g2119 hg w2120 hbox hb; replace HS : Aside0 (Sep FF w [b7 g2005 g2007 a2015 a2016 a2017 a2018, b6 g2007 A2010 l2009.length n2012 a2014, r5 A2010 l2009.length n2012 l2009, b8 g2119 0 0 0] w2120) := ⟨HS.out.box hg hbox hb⟩; clear hg hbox hb; have hc2122 : w2120.cell? ⟨g2119, 0, none⟩ = some (.int .i64 0) := blk_cellv (HS.out.at3) 0 rfl; have hz2123 : w2120.frozen? ⟨g2119, 0, none⟩ = false := blk_fz (HS.out.at3) 0; have hc2124 : w2120.cell? ⟨g2119, 1, none⟩ = some (.int .i64 0) := blk_cellv (HS.out.at3) 1 rfl; have hz2125 : w2120.frozen? ⟨g2119, 1, none⟩ = false := blk_fz (HS.out.at3) 1; have hc2126 : w2120.cell? ⟨g2119, 2, none⟩ = some (.int .i64 0) := blk_cellv (HS.out.at3) 2 rfl; have hz2127 : w2120.frozen? ⟨g2119, 2, none⟩ = false := blk_fz (HS.out.at3) 2) | ((with_reducible refine gate_store (t := 165) (p := 6) rfl ?_); refine store_event (w1 := (World.setCell (World.setCell (World.setCell w2120 ⟨g2119, 0, none⟩ (.int .i64 t2116.1)) ⟨g2119, 1, none⟩ (.int .i64 t2116.2.1)) ⟨g2119, 2, none⟩ (.int .i64 t2116.2.2.1))) rfl (t := 165) (p := 6) rfl rfl ?hr ?_; (case hr => first | (go_simp; done) | (go_simp; rfl)); intro w2128 hst; clear hc2122 hz2123 hc2124 hz2125 hc2126 hz2127; replace HS : Aside0 (Sep FF w [b7 g2005 g2007 a2015 a2016 a2017 a2018, b6 g2007 A2010 l2009.length n2012 a2014, r5 A2010 l2009.length n2012 l2009, b8 g2119 t2116.1 t2116.2.1 t2116.2.2.1] w2128) := ⟨by rw [hst]; exact HS.out.setAll (l1 := [b7 g2005 g2007 a2015 a2016 a2017 a2018, b6 g2007 A2010 l2009.length n2012 a2014, r5 A2010 l2009.length n2012 l2009]) (l2 := []) [.int .i64 t2116.1, .int .i64 t2116.2.1, .int .i64 t2116.2.2.1] rfl⟩; clear hst; have hc2130 : w2128.cell? ⟨g2119, 0, none⟩ = some (.int .i64 t2116.1) := blk_cellv (HS.out.at3) 0 rfl))
    clear hc2130
    obtain ⟨t2131, HA2132, H⟩ := bind_some H
    refine (ground_Ground_Reg.calls l2009 a2014 a2015 a2016 a2017 a2018 t2116.1 g2005 g2007 A2010 l2009.length n2012 t2131 _ ⟨HGl0.out.pass HS.out⟩ ⟨HS.out.begin⟩ HA2132).mono ?_
    rintro e_ w2133 ⟨rfl, hS⟩
    replace HS : Aside0 (Sep FF w [b7 g2005 g2007 a2015 a2016 a2017 a2018, b6 g2007 A2010 l2009.length n2012 t2131.2, r5 A2010 l2009.length n2012 l2009, b8 g2119 t2116.1 t2116.2.1 t2116.2.2.1] w2133) := ⟨HS.out.call hS⟩
    clear hS
    by_cases c2134 : t2131.1 = 0
    · replace H := if_yes c2134 H
      have c2134b0 : (t2131.1 == 0) = true := beq_iff_eq.mpr c2134
      have c2134b1 : (t2131.1 != 0) = false := bne_eq_false_iff_eq.mpr c2134
      clear c2134
      replace HS : Aside0 (Sep FF w [b7 g2005 g2007 a2015 a2016 a2017 a2018, b6 g2007 A2010 l2009.length n2012 t2131.2, r5 A2010 l2009.length n2012 l2009] w2133) := ⟨HS.out.sub (.cons_cons _ (.cons_cons _ (.cons_cons _ (.cons _ .slnil))))⟩
      go_wp2_with fail
      go_ret2
      rw [← some_eq H]
      exact ⟨(by first | rfl | (simp [IntKind.wrap_u32]; done)), HS.out⟩
    · replace H := if_no c2134 H
      have c2134b0 : (t2131.1 == 0) = false := beq_eq_false_iff_ne.mpr c2134
      have c2134b1 : (t2131.1 != 0) = true := bne_iff_ne.mpr c2134
      clear c2134
      go_wp2_with fail
      obtain ⟨t2135, HA2136, H⟩ := bind_some H
      refine (ground_Ground_Word.calls l2009 t2131.2 a2015 a2016 a2017 a2018 (wrap64 (t2131.1 - 1)) 5 g2005 g2007 A2010 l2009.length n2012 t2135 _ ⟨HGl0.out.pass HS.out⟩ ⟨HS.out.begin⟩ HA2136).mono ?_
      rintro e_ w2137 ⟨rfl, hS⟩
      replace HS : Aside0 (Sep FF w [b7 g2005 g2007 a2015 a2016 a2017 a2018, b6 g2007 A2010 l2009.length n2012 t2135.2, r5 A2010 l2009.length n2012 l2009, b8 g2119 t2116.1 t2116.2.1 t2116.2.2.1] w2137) := ⟨HS.out.call hS⟩
      clear hS
      go_wp2_with fail
      obtain ⟨t2138, HA2139, H⟩ := bind_some H
      refine (ground_Ground_SetWord.calls l2009 t2135.2 a2015 a2016 a2017 a2018 (wrap64 (t2131.1 - 1)) 5 0 g2005 g2007 A2010 l2009.length n2012 t2138 _ ⟨HGl0.out.pass HS.out⟩ ⟨HS.out.begin⟩ HA2139).mono ?_
      rintro e_ w2140 ⟨rfl, hS⟩
      replace HS : Aside0 (Sep FF w [b7 g2005 g2007 a2015 a2016 a2017 a2018, b6 g2007 A2010 l2009.length n2012 t2138.2.1, r5 A2010 l2009.length n2012 t2138.2.2, b8 g2119 t2116.1 t2116.2.1 t2116.2.2.1] w2140) := ⟨HS.out.call hS⟩
      clear hS
      have hc2141 : w2140.cell? ⟨g2119, 0, none⟩ = some (.int .i64 t2116.1) := blk_cellv (HS.out.at3) 0 rfl
      go_wp2_with fail
      clear hc2141
      obtain ⟨t2142, HA2143, H⟩ := bind_some H
      refine (ground_Ground_SetReg.calls t2138.2.2 t2138.2.1 a2015 a2016 a2017 a2018 t2116.1 (wrap64 (t2135.1)) g2005 g2007 A2010 l2009.length n2012 t2142 _ ⟨HGl0.out.pass HS.out⟩ ⟨HS.out.begin⟩ HA2143).mono ?_
      rintro e_ w2144 ⟨rfl, hS⟩
      replace HS : Aside0 (Sep FF w [b7 g2005 g2007 a2015 a2016 a2017 a2018, b6 g2007 A2010 l2009.length n2012 t2142.2.1, r5 A2010 l2009.length n2012 t2142.2.2, b8 g2119 t2116.1 t2116.2.1 t2116.2.2.1] w2144) := ⟨HS.out.call hS⟩
      clear hS
      by_cases c2145 : (wrap64 (t2135.1)) = 0
      · replace H := if_yes c2145 H
        have c2145b0 : ((wrap64 (t2135.1)) == 0) = true := beq_iff_eq.mpr c2145
        have c2145b1 : ((wrap64 (t2135.1)) != 0) = false := bne_eq_false_iff_eq.mpr c2145
        clear c2145
        have hc2146 : w2144.cell? ⟨g2119, 1, none⟩ = some (.int .i64 t2116.2.1) := blk_cellv (HS.out.at3) 1 rfl
        go_wp2_with fail
        clear hc2146
        obtain ⟨t2147, HA2148, H⟩ := bind_some H
        refine (ground_Ground_SetReg.calls t2142.2.2 t2142.2.1 a2015 a2016 a2017 a2018 t2116.2.1 0 g2005 g2007 A2010 l2009.length n2012 t2147 _ ⟨HGl0.out.pass HS.out⟩ ⟨HS.out.begin⟩ HA2148).mono ?_
        rintro e_ w2149 ⟨rfl, hS⟩
        replace HS : Aside0 (Sep FF w [b7 g2005 g2007 a2015 a2016 a2017 a2018, b6 g2007 A2010 l2009.length n2012 t2147.2.1, r5 A2010 l2009.length n2012 t2147.2.2, b8 g2119 t2116.1 t2116.2.1 t2116.2.2.1] w2149) := ⟨HS.out.call hS⟩
        clear hS
        go_wp2_with fail
        refine start_ (n := 9) (S := (fun w' => w'.cell? ⟨g2119, 2, none⟩ = some (.int .i64 t2116.2.2.1))) (ds := []) #[false, false, false, false, false, false, false, false, false] (by kernel_rfl) rfl rfl (blk_cellv ((HS.out.drew).at3) 2 rfl) (fun hHeld => ?_)
        have HS_ := Aside0.mk HS.out.drew
        clear HS
        generalize World.drew _ = w2151 at HS_ hHeld ⊢
        have HS := HS_
        clear HS_
        refine pure_ (i := 0) (N := some 44) (v := ?_) (a' := ?_) #[true, false, false, false, false, false, false, false, false] rfl rfl (by kernel_rfl) (fun _ _ _ h => h) (Or.inl ⟨by rfl, ?_⟩) ?_ ?_
        rotate_left
        · intro w'
          go_simp
          with_reducible rfl
        rotate_left
        · simp only [Act.put, List.setIfInBounds_toArray, List.set_cons_zero, List.set_cons_succ, i64_w, i32_w]
          rfl
        refine pure_ (i := 1) (N := some 45) (v := ?_) (a' := ?_) #[true, true, false, false, false, false, false, false, false] rfl rfl (by kernel_rfl) (fun _ _ _ h => h) (Or.inl ⟨by rfl, ?_⟩) ?_ ?_
        rotate_left
        · intro w'
          go_simp
          with_reducible rfl
        rotate_left
        · simp only [Act.put, List.setIfInBounds_toArray, List.set_cons_zero, List.set_cons_succ, i64_w, i32_w]
          rfl
        refine pure_ (i := 3) (N := some 47) (v := ?_) (a' := ?_) #[true, true, false, true, false, false, false, false, false] rfl rfl (by kernel_rfl) (fun _ _ _ h => h) (Or.inl ⟨by rfl, ?_⟩) ?_ ?_
        rotate_left
        · intro w'
          go_simp
          with_reducible rfl
        rotate_left
        · simp only [Act.put, List.setIfInBounds_toArray, List.set_cons_zero, List.set_cons_succ, i64_w, i32_w]
          rfl
        refine pure_ (i := 4) (N := some 48) (v := ?_) (a' := ?_) #[true, true, false, true, true, false, false, false, false] rfl rfl (by kernel_rfl) (fun _ _ _ h => h) (Or.inl ⟨by rfl, ?_⟩) ?_ ?_
        rotate_left
        · intro w'
          go_simp
          with_reducible rfl
        rotate_left
        · simp only [Act.put, List.setIfInBounds_toArray, List.set_cons_zero, List.set_cons_succ, i64_w, i32_w]
          rfl
        refine take_ (i := 2) (N := some 46) (v := ?_) (a' := ?_) #[true, true, true, true, true, false, false, false, false] rfl rfl (by kernel_rfl) (fun _ _ _ h => h) (Or.inl ⟨by rfl, ?_⟩) hHeld ?_ ?_
        rotate_left
        · rintro w' hS'
          have s0 := hS'
          go_simp
          with_reducible rfl
        rotate_left
        · simp only [Act.put, List.setIfInBounds_toArray, List.set_cons_zero, List.set_cons_succ, i64_w, i32_w]
          rfl
        refine take_ (i := 5) (N := some 49) (v := ?_) (a' := ?_) #[true, true, true, true, true, true, false, false, false] rfl rfl (by kernel_rfl) (fun _ _ _ h => h) (Or.inl ⟨by rfl, ?_⟩) hHeld ?_ ?_
        rotate_left
        · rintro w' hS'
          have s0 := hS'
          go_simp
          with_reducible rfl
        rotate_left
        · simp only [Act.put, List.setIfInBounds_toArray, List.set_cons_zero, List.set_cons_succ, i64_w, i32_w]
          rfl
        refine one_ (i := 6) (N := some 50) #[true, true, true, true, true, true, true, false, false] rfl rfl (by kernel_rfl) (by decide) (fun K hK => ?_)
        obtain ⟨t2152, HA2153, H⟩ := bind_some H
        refine goes_ Tryz.func44 (by kernel_rfl) rfl #[.pointer (some ⟨g2005, 0, none⟩), .int .i64 t2116.2.2.1] (by rfl) rfl rfl (by (try simp only [List.map_toArray, List.map_cons, List.map_nil]); first | done | rfl) ?_
        refine (ground_Ground_Reg.calls t2147.2.2 t2147.2.1 a2015 a2016 a2017 a2018 t2116.2.2.1 g2005 g2007 A2010 l2009.length n2012 t2152 _ ⟨HGl0.out.pass HS.out⟩ ⟨HS.out.begin⟩ HA2153).mono ?_
        rintro e_ w2154 ⟨rfl, hS⟩
        replace HS : Aside0 (Sep FF w [b7 g2005 g2007 a2015 a2016 a2017 a2018, b6 g2007 A2010 l2009.length n2012 t2152.2, r5 A2010 l2009.length n2012 t2147.2.2, b8 g2119 t2116.1 t2116.2.1 t2116.2.2.1] w2154) := ⟨HS.out.call hS⟩
        clear hS
        refine ⟨_, rfl, ?_⟩
        refine hK.out _ _ (blk_cellv (HS.out.at3) 2 rfl) (fun hHeld => ?_)
        clear hK K
        refine norm_ (a' := ?_) ?_ ?_
        rotate_left
        · show Act.put _ (some 50) _ = _
          simp only [Act.put, List.setIfInBounds_toArray, List.set_cons_zero, List.set_cons_succ, i64_w, i32_w]
          rfl
        refine pure_ (i := 7) (N := some 51) (v := ?_) (a' := ?_) #[true, true, true, true, true, true, true, true, false] rfl rfl (by kernel_rfl) (fun _ _ _ h => h) (Or.inl ⟨by rfl, ?_⟩) ?_ ?_
        rotate_left
        · intro w'
          go_simp
          with_reducible rfl
        rotate_left
        · simp only [Act.put, List.setIfInBounds_toArray, List.set_cons_zero, List.set_cons_succ, i64_w, i32_w]
          rfl
        refine one_ (i := 8) (N := some 52) #[true, true, true, true, true, true, true, true, true] rfl rfl (by kernel_rfl) (by decide) (fun K hK => ?_)
        obtain ⟨t2155, HA2156, H⟩ := bind_some H
        refine goes_ Tryz.func43 (by kernel_rfl) rfl #[.pointer (some ⟨g2005, 0, none⟩), .int .i64 t2116.2.2.1, .int .i64 (wrap64 (t2152.1 - 1))] (by rfl) rfl rfl (by (try simp only [List.map_toArray, List.map_cons, List.map_nil]); first | done | rfl) ?_
        refine (ground_Ground_SetReg.calls t2147.2.2 t2152.2 a2015 a2016 a2017 a2018 t2116.2.2.1 (wrap64 (t2152.1 - 1)) g2005 g2007 A2010 l2009.length n2012 t2155 _ ⟨HGl0.out.pass HS.out⟩ ⟨HS.out.begin⟩ HA2156).mono ?_
        rintro e_ w2157 ⟨rfl, hS⟩
        replace HS : Aside0 (Sep FF w [b7 g2005 g2007 a2015 a2016 a2017 a2018, b6 g2007 A2010 l2009.length n2012 t2155.2.1, r5 A2010 l2009.length n2012 t2155.2.2, b8 g2119 t2116.1 t2116.2.1 t2116.2.2.1] w2157) := ⟨HS.out.call hS⟩
        clear hS
        refine ⟨_, rfl, ?_⟩
        refine hK.out _ _ (blk_cellv (HS.out.at3) 2 rfl) (fun hHeld => ?_)
        clear hK K
        refine norm_ (a' := ?_) ?_ ?_
        rotate_left
        · show Act.put _ (some 52) _ = _
          simp only [Act.put, List.setIfInBounds_toArray, List.set_cons_zero, List.set_cons_succ, i64_w, i32_w]
          rfl
        refine done_ (by kernel_rfl) ?_
        replace HS : Aside0 (Sep FF w [b7 g2005 g2007 a2015 a2016 a2017 a2018, b6 g2007 A2010 l2009.length n2012 t2155.2.1, r5 A2010 l2009.length n2012 t2155.2.2] w2157) := ⟨HS.out.sub (.cons_cons _ (.cons_cons _ (.cons_cons _ (.cons _ .slnil))))⟩
        go_wp2_with fail
        go_ret2
        rw [← some_eq H]
        exact ⟨(by first | rfl | (simp [IntKind.wrap_u32]; done)), HS.out⟩
      · replace H := if_no c2145 H
        have c2145b0 : ((wrap64 (t2135.1)) == 0) = false := beq_eq_false_iff_ne.mpr c2145
        have c2145b1 : ((wrap64 (t2135.1)) != 0) = true := bne_iff_ne.mpr c2145
        clear c2145
        go_wp2_with fail
        refine start_ (n := 9) (S := (fun w' => w'.cell? ⟨g2119, 2, none⟩ = some (.int .i64 t2116.2.2.1))) (ds := []) #[false, false, false, false, false, false, false, false, false] (by kernel_rfl) rfl rfl (blk_cellv ((HS.out.drew).at3) 2 rfl) (fun hHeld => ?_)
        have HS_ := Aside0.mk HS.out.drew
        clear HS
        generalize World.drew _ = w2159 at HS_ hHeld ⊢
        have HS := HS_
        clear HS_
        refine pure_ (i := 0) (N := some 44) (v := ?_) (a' := ?_) #[true, false, false, false, false, false, false, false, false] rfl rfl (by kernel_rfl) (fun _ _ _ h => h) (Or.inl ⟨by rfl, ?_⟩) ?_ ?_
        rotate_left
        · intro w'
          go_simp
          with_reducible rfl
        rotate_left
        · simp only [Act.put, List.setIfInBounds_toArray, List.set_cons_zero, List.set_cons_succ, i64_w, i32_w]
          rfl
        refine pure_ (i := 1) (N := some 45) (v := ?_) (a' := ?_) #[true, true, false, false, false, false, false, false, false] rfl rfl (by kernel_rfl) (fun _ _ _ h => h) (Or.inl ⟨by rfl, ?_⟩) ?_ ?_
        rotate_left
        · intro w'
          go_simp
          with_reducible rfl
        rotate_left
        · simp only [Act.put, List.setIfInBounds_toArray, List.set_cons_zero, List.set_cons_succ, i64_w, i32_w]
          rfl
        refine pure_ (i := 3) (N := some 47) (v := ?_) (a' := ?_) #[true, true, false, true, false, false, false, false, false] rfl rfl (by kernel_rfl) (fun _ _ _ h => h) (Or.inl ⟨by rfl, ?_⟩) ?_ ?_
        rotate_left
        · intro w'
          go_simp
          with_reducible rfl
        rotate_left
        · simp only [Act.put, List.setIfInBounds_toArray, List.set_cons_zero, List.set_cons_succ, i64_w, i32_w]
          rfl
        refine pure_ (i := 4) (N := some 48) (v := ?_) (a' := ?_) #[true, true, false, true, true, false, false, false, false] rfl rfl (by kernel_rfl) (fun _ _ _ h => h) (Or.inl ⟨by rfl, ?_⟩) ?_ ?_
        rotate_left
        · intro w'
          go_simp
          with_reducible rfl
        rotate_left
        · simp only [Act.put, List.setIfInBounds_toArray, List.set_cons_zero, List.set_cons_succ, i64_w, i32_w]
          rfl
        refine take_ (i := 2) (N := some 46) (v := ?_) (a' := ?_) #[true, true, true, true, true, false, false, false, false] rfl rfl (by kernel_rfl) (fun _ _ _ h => h) (Or.inl ⟨by rfl, ?_⟩) hHeld ?_ ?_
        rotate_left
        · rintro w' hS'
          have s0 := hS'
          go_simp
          with_reducible rfl
        rotate_left
        · simp only [Act.put, List.setIfInBounds_toArray, List.set_cons_zero, List.set_cons_succ, i64_w, i32_w]
          rfl
        refine take_ (i := 5) (N := some 49) (v := ?_) (a' := ?_) #[true, true, true, true, true, true, false, false, false] rfl rfl (by kernel_rfl) (fun _ _ _ h => h) (Or.inl ⟨by rfl, ?_⟩) hHeld ?_ ?_
        rotate_left
        · rintro w' hS'
          have s0 := hS'
          go_simp
          with_reducible rfl
        rotate_left
        · simp only [Act.put, List.setIfInBounds_toArray, List.set_cons_zero, List.set_cons_succ, i64_w, i32_w]
          rfl
        refine one_ (i := 6) (N := some 50) #[true, true, true, true, true, true, true, false, false] rfl rfl (by kernel_rfl) (by decide) (fun K hK => ?_)
        obtain ⟨t2152, HA2160, H⟩ := bind_some H
        refine goes_ Tryz.func44 (by kernel_rfl) rfl #[.pointer (some ⟨g2005, 0, none⟩), .int .i64 t2116.2.2.1] (by rfl) rfl rfl (by (try simp only [List.map_toArray, List.map_cons, List.map_nil]); first | done | rfl) ?_
        refine (ground_Ground_Reg.calls t2142.2.2 t2142.2.1 a2015 a2016 a2017 a2018 t2116.2.2.1 g2005 g2007 A2010 l2009.length n2012 t2152 _ ⟨HGl0.out.pass HS.out⟩ ⟨HS.out.begin⟩ HA2160).mono ?_
        rintro e_ w2161 ⟨rfl, hS⟩
        replace HS : Aside0 (Sep FF w [b7 g2005 g2007 a2015 a2016 a2017 a2018, b6 g2007 A2010 l2009.length n2012 t2152.2, r5 A2010 l2009.length n2012 t2142.2.2, b8 g2119 t2116.1 t2116.2.1 t2116.2.2.1] w2161) := ⟨HS.out.call hS⟩
        clear hS
        refine ⟨_, rfl, ?_⟩
        refine hK.out _ _ (blk_cellv (HS.out.at3) 2 rfl) (fun hHeld => ?_)
        clear hK K
        refine norm_ (a' := ?_) ?_ ?_
        rotate_left
        · show Act.put _ (some 50) _ = _
          simp only [Act.put, List.setIfInBounds_toArray, List.set_cons_zero, List.set_cons_succ, i64_w, i32_w]
          rfl
        refine pure_ (i := 7) (N := some 51) (v := ?_) (a' := ?_) #[true, true, true, true, true, true, true, true, false] rfl rfl (by kernel_rfl) (fun _ _ _ h => h) (Or.inl ⟨by rfl, ?_⟩) ?_ ?_
        rotate_left
        · intro w'
          go_simp
          with_reducible rfl
        rotate_left
        · simp only [Act.put, List.setIfInBounds_toArray, List.set_cons_zero, List.set_cons_succ, i64_w, i32_w]
          rfl
        refine one_ (i := 8) (N := some 52) #[true, true, true, true, true, true, true, true, true] rfl rfl (by kernel_rfl) (by decide) (fun K hK => ?_)
        obtain ⟨t2155, HA2162, H⟩ := bind_some H
        refine goes_ Tryz.func43 (by kernel_rfl) rfl #[.pointer (some ⟨g2005, 0, none⟩), .int .i64 t2116.2.2.1, .int .i64 (wrap64 (t2152.1 - 1))] (by rfl) rfl rfl (by (try simp only [List.map_toArray, List.map_cons, List.map_nil]); first | done | rfl) ?_
        refine (ground_Ground_SetReg.calls t2142.2.2 t2152.2 a2015 a2016 a2017 a2018 t2116.2.2.1 (wrap64 (t2152.1 - 1)) g2005 g2007 A2010 l2009.length n2012 t2155 _ ⟨HGl0.out.pass HS.out⟩ ⟨HS.out.begin⟩ HA2162).mono ?_
        rintro e_ w2163 ⟨rfl, hS⟩
        replace HS : Aside0 (Sep FF w [b7 g2005 g2007 a2015 a2016 a2017 a2018, b6 g2007 A2010 l2009.length n2012 t2155.2.1, r5 A2010 l2009.length n2012 t2155.2.2, b8 g2119 t2116.1 t2116.2.1 t2116.2.2.1] w2163) := ⟨HS.out.call hS⟩
        clear hS
        refine ⟨_, rfl, ?_⟩
        refine hK.out _ _ (blk_cellv (HS.out.at3) 2 rfl) (fun hHeld => ?_)
        clear hK K
        refine norm_ (a' := ?_) ?_ ?_
        rotate_left
        · show Act.put _ (some 52) _ = _
          simp only [Act.put, List.setIfInBounds_toArray, List.set_cons_zero, List.set_cons_succ, i64_w, i32_w]
          rfl
        refine done_ (by kernel_rfl) ?_
        replace HS : Aside0 (Sep FF w [b7 g2005 g2007 a2015 a2016 a2017 a2018, b6 g2007 A2010 l2009.length n2012 t2155.2.1, r5 A2010 l2009.length n2012 t2155.2.2] w2163) := ⟨HS.out.sub (.cons_cons _ (.cons_cons _ (.cons_cons _ (.cons _ .slnil))))⟩
        go_wp2_with fail
        go_ret2
        rw [← some_eq H]
        exact ⟨(by first | rfl | (simp [IntKind.wrap_u32]; done)), HS.out⟩
  · replace H := if_no c2129 H
    have c2129b0 : t2116.2.2.2 = false := by simpa using c2129
    have c2129b1 : (!t2116.2.2.2) = true := by rw [c2129b0]; rfl
    try rw [c2129b1]
    clear c2129
    go_wp2_with (first | ((with_reducible refine gate_dst (N := 6) rfl ?_); refine box_on ?hg (N := 6) ?hd (cs := #[.int .i64 0, .int .i64 0, .int .i64 0]) (t := 165) ?hr ?_; (case hd => rfl); (case hg => rfl); (case hr => first | (go_simp; done) | (go_simp; rfl)); intro g2119 hg w2120 hbox hb; replace HS : Aside0 (Sep FF w [b7 g2005 g2007 a2015 a2016 a2017 a2018, b6 g2007 A2010 l2009.length n2012 a2014, r5 A2010 l2009.length n2012 l2009, b8 g2119 0 0 0] w2120) := ⟨HS.out.box hg hbox hb⟩; clear hg hbox hb; have hc2122 : w2120.cell? ⟨g2119, 0, none⟩ = some (.int .i64 0) := blk_cellv (HS.out.at3) 0 rfl; have hz2123 : w2120.frozen? ⟨g2119, 0, none⟩ = false := blk_fz (HS.out.at3) 0; have hc2124 : w2120.cell? ⟨g2119, 1, none⟩ = some (.int .i64 0) := blk_cellv (HS.out.at3) 1 rfl; have hz2125 : w2120.frozen? ⟨g2119, 1, none⟩ = false := blk_fz (HS.out.at3) 1; have hc2126 : w2120.cell? ⟨g2119, 2, none⟩ = some (.int .i64 0) := blk_cellv (HS.out.at3) 2 rfl; have hz2127 : w2120.frozen? ⟨g2119, 2, none⟩ = false := blk_fz (HS.out.at3) 2) | ((with_reducible refine gate_store (t := 165) (p := 6) rfl ?_); refine store_event (w1 := (World.setCell (World.setCell (World.setCell w2120 ⟨g2119, 0, none⟩ (.int .i64 t2116.1)) ⟨g2119, 1, none⟩ (.int .i64 t2116.2.1)) ⟨g2119, 2, none⟩ (.int .i64 t2116.2.2.1))) rfl (t := 165) (p := 6) rfl rfl ?hr ?_; (case hr => first | (go_simp; done) | (go_simp; rfl)); intro w2128 hst; clear hc2122 hz2123 hc2124 hz2125 hc2126 hz2127; replace HS : Aside0 (Sep FF w [b7 g2005 g2007 a2015 a2016 a2017 a2018, b6 g2007 A2010 l2009.length n2012 a2014, r5 A2010 l2009.length n2012 l2009, b8 g2119 t2116.1 t2116.2.1 t2116.2.2.1] w2128) := ⟨by rw [hst]; exact HS.out.setAll (l1 := [b7 g2005 g2007 a2015 a2016 a2017 a2018, b6 g2007 A2010 l2009.length n2012 a2014, r5 A2010 l2009.length n2012 l2009]) (l2 := []) [.int .i64 t2116.1, .int .i64 t2116.2.1, .int .i64 t2116.2.2.1] rfl⟩; clear hst; replace HS : Aside0 (Sep FF w [b7 g2005 g2007 a2015 a2016 a2017 a2018, b6 g2007 A2010 l2009.length n2012 a2014, r5 A2010 l2009.length n2012 l2009] w2128) := ⟨HS.out.sub (.cons_cons _ (.cons_cons _ (.cons_cons _ (.cons _ .slnil))))⟩))
    go_ret2
    rw [← some_eq H]
    exact ⟨(by first | rfl | (simp [IntKind.wrap_u32]; done)), HS.out⟩

set_option maxHeartbeats 30000000 in
set_option maxRecDepth 100000 in
theorem ground_Ground_Wipe.calls (k : Nat) (l2173 : List Int) (a2178 : Int) (a2179 : Int) (a2180 : Int) (a2181 : Int) (a2182 : Int) (a2183 : Int) (g2169 : Nat) (g2171 : Nat) (A2174 : Option Addr) (m2175 : Nat) (n2176 : Nat) (r : Int × Int × List Int) (w : World)  (HGl0 : Aside0 (Gl 0 #[.int .i64 0, .int .i64 0, .int .i64 0, .int .i64 0, .int .i64 0] (fps [b7 g2169 g2171 a2179 a2180 a2181 a2182, b6 g2171 A2174 m2175 n2176 a2178, r5 A2174 m2175 n2176 l2173]) w)) (HS : Aside0 (Sep (fps [b7 g2169 g2171 a2179 a2180 a2181 a2182, b6 g2171 A2174 m2175 n2176 a2178, r5 A2174 m2175 n2176 l2173]) w [b7 g2169 g2171 a2179 a2180 a2181 a2182, b6 g2171 A2174 m2175 n2176 a2178, r5 A2174 m2175 n2176 l2173] w)) (H : Aside0 (ground_Ground_Wipe.f k l2173 a2178 a2179 a2180 a2181 a2182 a2183 = some r)) :
    Calls Tryz.prog 105 #[.pointer (some ⟨g2169, 0, none⟩), .int .i64 a2183] w fun e w' => e = .returned (.int .i64 r.1) ∧ Sep (fps [b7 g2169 g2171 a2179 a2180 a2181 a2182, b6 g2171 A2174 m2175 n2176 a2178, r5 A2174 m2175 n2176 l2173]) w [b7 g2169 g2171 a2179 a2180 a2181 a2182, b6 g2171 A2174 m2175 n2176 r.2.1, r5 A2174 m2175 n2176 r.2.2] w' := by
  generalize (fps [b7 g2169 g2171 a2179 a2180 a2181 a2182, b6 g2171 A2174 m2175 n2176 a2178, r5 A2174 m2175 n2176 l2173]) = FF at HS HGl0 ⊢
  obtain rfl := (row_len (HS.out.at2)).symm
  unfold ground_Ground_Wipe.f at H
  go_enter Tryz.func105, Tryz.ntmps105
  go_wp2_with fail
  obtain ⟨t2212, HA2213, H⟩ := bind_some H
  refine (ground_Ground_Conf.calls l2173 a2178 a2179 a2180 a2181 a2182 g2169 g2171 A2174 l2173.length n2176 t2212 _ ⟨HGl0.out.pass HS.out⟩ ⟨HS.out.begin⟩ HA2213).mono ?_
  rintro e_ w2214 ⟨rfl, hS⟩
  replace HS : Aside0 (Sep FF w [b7 g2169 g2171 a2179 a2180 a2181 a2182, b6 g2171 A2174 l2173.length n2176 a2178, r5 A2174 l2173.length n2176 l2173] w2214) := ⟨HS.out.call hS⟩
  clear hS
  have fl2215 : ∀ w, (Instr.field 29 (.agg #[.int .i64 t2212.1, .int .i64 t2212.2.1, .int .i64 t2212.2.2.1, .int .i64 t2212.2.2.2]) 1).run Tryz.prog w = .ok (.int .i64 t2212.2.1) w := fun _ => by kernel_rfl
  go_wp2_with fail
  clear fl2215
  obtain ⟨o2228, AL2229, H⟩ := bind_some H
  go_loopg [5, 10] k (fun kq v5 v10 wc => ∃ (x2232 : Int) (x2233 : Int) (x2234 : List Int) (x2235 : Int), v5 = .int .i64 x2232 ∧ v10 = .int .i64 x2233 ∧ Aside0 (ground_Ground_Wipe.lo0 kq a2179 a2180 a2181 a2182 a2183 t2212 x2232 x2233 x2234 x2235 = some o2228) ∧ Aside0 (Sep FF w [b7 g2169 g2171 a2179 a2180 a2181 a2182, b6 g2171 A2174 l2173.length n2176 x2235, r5 A2174 l2173.length n2176 x2234] wc))
  case atStart => exact ⟨(0), (0), (l2173), (a2178), (by first | rfl | (simp [IntKind.wrap_u32]; done)), (by first | rfl | (simp [IntKind.wrap_u32]; done)), AL2229, ⟨HS.out⟩⟩
  case round =>
    clear AL2229 HS
    obtain ⟨x2232, x2233, x2234, x2235, rfl, rfl, AL2229, HS⟩ := hrel
    obtain ⟨w2230, rfl⟩ : ∃ x : World, x = wr := ⟨_, rfl⟩
    cases gk with
    | zero => exact absurd AL2229.out (by simp [ground_Ground_Wipe.lo0])
    | succ k2231 =>
      have AL0 := AL2229.out
      rw [ground_Ground_Wipe.lo0] at AL0
      clear AL2229
      have AL2229 := Aside0.mk AL0
      clear AL0
      by_cases c2236 : x2233 < t2212.2.1
      · replace AL2229 := if_yes c2236 AL2229
        have c2236b0 : decide (x2233 < t2212.2.1) = true := decide_eq_true c2236
        clear c2236
        go_wp2_with fail
        obtain ⟨t2224, HA2237, AL2229⟩ := bind_some AL2229
        refine (ground_Ground_SetWord.calls x2234 x2235 a2179 a2180 a2181 a2182 a2183 x2233 0 g2169 g2171 A2174 l2173.length n2176 t2224 _ ⟨HGl0.out.pass HS.out⟩ ⟨HS.out.begin⟩ HA2237).mono ?_
        rintro e_ w2238 ⟨rfl, hS⟩
        replace HS : Aside0 (Sep FF w [b7 g2169 g2171 a2179 a2180 a2181 a2182, b6 g2171 A2174 l2173.length n2176 t2224.2.1, r5 A2174 l2173.length n2176 t2224.2.2] w2238) := ⟨HS.out.call hS⟩
        clear hS
        by_cases c2239 : t2224.1 = true
        · replace AL2229 := if_yes c2239 AL2229
          have c2239b0 : t2224.1 = true := c2239
          have c2239b1 : (!t2224.1) = false := by rw [c2239b0]; rfl
          clear c2239
          go_wp2_with fail
          go_roundg k2231
          case measure => exact Nat.lt_succ_self _
          case rel => exact ⟨(wrap64 (x2232 + 1)), (wrap64 (x2233 + 1)), (t2224.2.2), (t2224.2.1), (by first | rfl | (simp [IntKind.wrap_u32]; done)), (by first | rfl | (simp [IntKind.wrap_u32]; done)), Aside0.mk AL2229.out, ⟨HS.out⟩⟩
        · replace AL2229 := if_no c2239 AL2229
          have c2239b0 : t2224.1 = false := by simpa using c2239
          have c2239b1 : (!t2224.1) = true := by rw [c2239b0]; rfl
          clear c2239
          go_wp2_with fail
          go_roundg k2231
          case measure => exact Nat.lt_succ_self _
          case rel => exact ⟨(x2232), (wrap64 (x2233 + 1)), (t2224.2.2), (t2224.2.1), (by first | rfl | (simp [IntKind.wrap_u32]; done)), (by first | rfl | (simp [IntKind.wrap_u32]; done)), Aside0.mk AL2229.out, ⟨HS.out⟩⟩
      · replace AL2229 := if_no c2236 AL2229
        have c2236b0 : decide (x2233 < t2212.2.1) = false := decide_eq_false c2236
        clear c2236
        have ho := some_eq AL2229
        subst ho
        clear AL2229
        go_wp2_with fail
        go_ret
        rw [← some_eq H]
        exact ⟨(by first | rfl | (simp [IntKind.wrap_u32]; done)), HS.out⟩

set_option maxHeartbeats 30000000 in
set_option maxRecDepth 100000 in
theorem pool_Take.calls (k : Nat) (l1994 : List Int) (a1999 : Int) (a2000 : Int) (a2001 : Int) (a2002 : Int) (a2003 : Int) (g1990 : Nat) (g1992 : Nat) (A1995 : Option Addr) (m1996 : Nat) (n1997 : Nat) (r : Int × Bool × Int × List Int) (w : World)  (HGl0 : Aside0 (Gl 0 #[.int .i64 0, .int .i64 0, .int .i64 0, .int .i64 0, .int .i64 0] (fps [b7 g1990 g1992 a2000 a2001 a2002 a2003, b6 g1992 A1995 m1996 n1997 a1999, r5 A1995 m1996 n1997 l1994]) w)) (HS : Aside0 (Sep (fps [b7 g1990 g1992 a2000 a2001 a2002 a2003, b6 g1992 A1995 m1996 n1997 a1999, r5 A1995 m1996 n1997 l1994]) w [b7 g1990 g1992 a2000 a2001 a2002 a2003, b6 g1992 A1995 m1996 n1997 a1999, r5 A1995 m1996 n1997 l1994] w)) (H : Aside0 (pool_Take.f k l1994 a1999 a2000 a2001 a2002 a2003 = some r)) :
    Calls Tryz.prog 48 #[.pointer (some ⟨g1990, 0, none⟩)] w fun e w' => e = .returned (.tuple #[.int .i64 r.1, .bool r.2.1]) ∧ Sep (fps [b7 g1990 g1992 a2000 a2001 a2002 a2003, b6 g1992 A1995 m1996 n1997 a1999, r5 A1995 m1996 n1997 l1994]) w [b7 g1990 g1992 a2000 a2001 a2002 a2003, b6 g1992 A1995 m1996 n1997 r.2.2.1, r5 A1995 m1996 n1997 r.2.2.2] w' := by
  generalize (fps [b7 g1990 g1992 a2000 a2001 a2002 a2003, b6 g1992 A1995 m1996 n1997 a1999, r5 A1995 m1996 n1997 l1994]) = FF at HS HGl0 ⊢
  obtain rfl := (row_len (HS.out.at2)).symm
  unfold pool_Take.f at H
  go_enter Tryz.func48, Tryz.ntmps48
  go_wp2_with fail
  obtain ⟨t2244, HA2245, H⟩ := bind_some H
  refine (chain_Take.calls l1994 a1999 a2000 a2001 a2002 a2003 0 g1990 g1992 A1995 l1994.length n1997 t2244 _ ⟨HGl0.out.pass HS.out⟩ ⟨HS.out.begin⟩ HA2245).mono ?_
  rintro e_ w2246 ⟨rfl, hS⟩
  replace HS : Aside0 (Sep FF w [b7 g1990 g1992 a2000 a2001 a2002 a2003, b6 g1992 A1995 l1994.length n1997 t2244.2.2.1, r5 A1995 l1994.length n1997 t2244.2.2.2] w2246) := ⟨HS.out.call hS⟩
  clear hS
  by_cases c2247 : t2244.2.1 = true
  · replace H := if_yes c2247 H
    have c2247b0 : t2244.2.1 = true := c2247
    have c2247b1 : (!t2244.2.1) = false := by rw [c2247b0]; rfl
    try rw [c2247b1]
    clear c2247
    go_wp2_with fail
    obtain ⟨t2248, HA2249, H⟩ := bind_some H
    refine (ground_Ground_Wipe.calls _ t2244.2.2.2 t2244.2.2.1 a2000 a2001 a2002 a2003 t2244.1 g1990 g1992 A1995 l1994.length n1997 t2248 _ ⟨HGl0.out.pass HS.out⟩ ⟨HS.out.begin⟩ HA2249).mono ?_
    rintro e_ w2250 ⟨rfl, hS⟩
    replace HS : Aside0 (Sep FF w [b7 g1990 g1992 a2000 a2001 a2002 a2003, b6 g1992 A1995 l1994.length n1997 t2248.2.1, r5 A1995 l1994.length n1997 t2248.2.2] w2250) := ⟨HS.out.call hS⟩
    clear hS
    go_wp2_with fail
    go_ret2
    rw [← some_eq H]
    exact ⟨(by first | rfl | (simp [IntKind.wrap_u32]; done)), HS.out⟩
  · replace H := if_no c2247 H
    have c2247b0 : t2244.2.1 = false := by simpa using c2247
    have c2247b1 : (!t2244.2.1) = true := by rw [c2247b0]; rfl
    try rw [c2247b1]
    clear c2247
    go_wp2_with fail
    go_ret2
    rw [← some_eq H]
    exact ⟨(by first | rfl | (simp [IntKind.wrap_u32]; done)), HS.out⟩

set_option maxHeartbeats 30000000 in
set_option maxRecDepth 100000 in
theorem tag_marks.calls (a2322 : Int) (a2323 : Int) (a2324 : Int) (a2325 : Int) (a2326 : Int) (a2327 : Int) (a2328 : Int) (r : Int × Int × Int × Int × Int) (w : World)  (HGl0 : Aside0 (Gl 0 #[.int .i64 0, .int .i64 0, .int .i64 0, .int .i64 0, .int .i64 0] (fps []) w)) (HS : Aside0 (Sep (fps []) w [] w)) (H : Aside0 (tag_marks.f a2322 a2323 a2324 a2325 a2326 a2327 a2328 = some r)) :
    Calls Tryz.prog 154 #[.agg #[.int .i64 a2322, .int .i64 a2323, .int .i64 a2324, .int .i64 a2325, .int .i64 a2326, .int .i64 a2327, .int .i64 a2328]] w fun e w' => e = .returned (.agg #[.int .i64 r.1, .int .i64 r.2.1, .int .i64 r.2.2.1, .int .i64 r.2.2.2.1, .int .i64 r.2.2.2.2]) ∧ Sep (fps []) w [] w' := by
  unfold tag_marks.f at H
  go_enter Tryz.func154, Tryz.ntmps154
  go_wp2_with (first | ((with_reducible refine gate_dst (N := 1) rfl ?_); refine box_on ?hg (N := 1) ?hd (cs := #[.int .i64 a2322, .int .i64 a2323, .int .i64 a2324, .int .i64 a2325, .int .i64 a2326, .int .i64 a2327, .int .i64 a2328]) (t := 79) ?hr ?_; (case hd => rfl); (case hg => rfl); (case hr => first | (go_simp; done) | (go_simp; rfl)); intro g2329 hg w2330 hbox hb; replace HS : Aside0 (Sep (fps []) w [b16 g2329 a2322 a2323 a2324 a2325 a2326 a2327 a2328] w2330) := ⟨HS.out.box hg hbox hb⟩; clear hg hbox hb) | ((with_reducible refine gate_dst (N := 2) rfl ?_); refine box_on ?hg (N := 2) ?hd (cs := #[.int .i64 0, .int .i64 0, .int .i64 0, .int .i64 0, .int .i64 0]) (t := 174) ?hr ?_; (case hd => rfl); (case hg => rfl); (case hr => first | (go_simp; done) | (go_simp; rfl)); intro g2332 hg w2333 hbox hb; replace HS : Aside0 (Sep (fps []) w [b16 g2329 a2322 a2323 a2324 a2325 a2326 a2327 a2328, b17 g2332 0 0 0 0 0] w2333) := ⟨HS.out.box hg hbox hb⟩; clear hg hbox hb; have hc2335 : w2333.cell? ⟨g2329, 1, none⟩ = some (.int .i64 a2323) := blk_cellv (HS.out.at0) 1 rfl; have hc2336 : w2333.cell? ⟨g2329, 2, none⟩ = some (.int .i64 a2324) := blk_cellv (HS.out.at0) 2 rfl; have hc2337 : w2333.cell? ⟨g2329, 3, none⟩ = some (.int .i64 a2325) := blk_cellv (HS.out.at0) 3 rfl; have hc2338 : w2333.cell? ⟨g2329, 4, none⟩ = some (.int .i64 a2326) := blk_cellv (HS.out.at0) 4 rfl; have hc2339 : w2333.cell? ⟨g2329, 5, none⟩ = some (.int .i64 a2327) := blk_cellv (HS.out.at0) 5 rfl; have hc2340 : w2333.cell? ⟨g2332, 0, none⟩ = some (.int .i64 0) := blk_cellv (HS.out.at1) 0 rfl; have hz2341 : w2333.frozen? ⟨g2332, 0, none⟩ = false := blk_fz (HS.out.at1) 0; have hc2342 : w2333.cell? ⟨g2332, 1, none⟩ = some (.int .i64 0) := blk_cellv (HS.out.at1) 1 rfl; have hz2343 : w2333.frozen? ⟨g2332, 1, none⟩ = false := blk_fz (HS.out.at1) 1; have hc2344 : w2333.cell? ⟨g2332, 2, none⟩ = some (.int .i64 0) := blk_cellv (HS.out.at1) 2 rfl; have hz2345 : w2333.frozen? ⟨g2332, 2, none⟩ = false := blk_fz (HS.out.at1) 2; have hc2346 : w2333.cell? ⟨g2332, 3, none⟩ = some (.int .i64 0) := blk_cellv (HS.out.at1) 3 rfl; have hz2347 : w2333.frozen? ⟨g2332, 3, none⟩ = false := blk_fz (HS.out.at1) 3; have hc2348 : w2333.cell? ⟨g2332, 4, none⟩ = some (.int .i64 0) := blk_cellv (HS.out.at1) 4 rfl; have hz2349 : w2333.frozen? ⟨g2332, 4, none⟩ = false := blk_fz (HS.out.at1) 4) | ((with_reducible refine gate_store (t := 174) (p := 2) rfl ?_); refine store_event (w1 := (World.setCell (World.setCell (World.setCell (World.setCell (World.setCell w2333 ⟨g2332, 0, none⟩ (.int .i64 a2323)) ⟨g2332, 1, none⟩ (.int .i64 a2324)) ⟨g2332, 2, none⟩ (.int .i64 a2325)) ⟨g2332, 3, none⟩ (.int .i64 a2326)) ⟨g2332, 4, none⟩ (.int .i64 a2327))) rfl (t := 174) (p := 2) rfl rfl ?hr ?_; (case hr => first | (go_simp; done) | (go_simp; rfl)); intro w2350 hst; clear hc2335 hc2336 hc2337 hc2338 hc2339 hc2340 hz2341 hc2342 hz2343 hc2344 hz2345 hc2346 hz2347 hc2348 hz2349; replace HS : Aside0 (Sep (fps []) w [b16 g2329 a2322 a2323 a2324 a2325 a2326 a2327 a2328, b17 g2332 a2323 a2324 a2325 a2326 a2327] w2350) := ⟨by rw [hst]; exact HS.out.setAll (l1 := [b16 g2329 a2322 a2323 a2324 a2325 a2326 a2327 a2328]) (l2 := []) [.int .i64 a2323, .int .i64 a2324, .int .i64 a2325, .int .i64 a2326, .int .i64 a2327] rfl⟩; clear hst; replace HS : Aside0 (Sep (fps []) w [b17 g2332 a2323 a2324 a2325 a2326 a2327] w2350) := ⟨HS.out.sub (.cons _ (.cons_cons _ .slnil))⟩))
  have hc2351 : w2350.cell? ⟨g2332, 0, none⟩ = some (.int .i64 a2323) := blk_cellv (HS.out.at0) 0 rfl
  have hc2352 : w2350.cell? ⟨g2332, 1, none⟩ = some (.int .i64 a2324) := blk_cellv (HS.out.at0) 1 rfl
  have hc2353 : w2350.cell? ⟨g2332, 2, none⟩ = some (.int .i64 a2325) := blk_cellv (HS.out.at0) 2 rfl
  have hc2354 : w2350.cell? ⟨g2332, 3, none⟩ = some (.int .i64 a2326) := blk_cellv (HS.out.at0) 3 rfl
  have hc2355 : w2350.cell? ⟨g2332, 4, none⟩ = some (.int .i64 a2327) := blk_cellv (HS.out.at0) 4 rfl
  refine bodyPost_ret (v := .agg #[.int .i64 a2323, .int .i64 a2324, .int .i64 a2325, .int .i64 a2326, .int .i64 a2327]) (by simp [results, Tryz.results154, go_sem, hc2351, hc2352, hc2353, hc2354, hc2355]) rfl ?_
  rw [← some_eq H]
  exact ⟨(by first | rfl | (simp [IntKind.wrap_u32]; done)), HS.out.sub (.cons _ .slnil)⟩

set_option maxHeartbeats 30000000 in
set_option maxRecDepth 100000 in
theorem tag_Right.calls (k : Nat) (a2305 : Int) (a2306 : Int) (a2307 : Int) (a2308 : Int) (a2309 : Int) (a2310 : Int) (a2311 : Int) (r : Bool) (w : World)  (HGl0 : Aside0 (Gl 0 #[.int .i64 0, .int .i64 0, .int .i64 0, .int .i64 0, .int .i64 0] (fps []) w)) (HS : Aside0 (Sep (fps []) w [] w)) (H : Aside0 (tag_Right.f k a2305 a2306 a2307 a2308 a2309 a2310 a2311 = some r)) :
    Calls Tryz.prog 153 #[.agg #[.int .i64 a2305, .int .i64 a2306, .int .i64 a2307, .int .i64 a2308, .int .i64 a2309, .int .i64 a2310, .int .i64 a2311]] w fun e w' => e = .returned (.bool r) ∧ Sep (fps []) w [] w' := by
  unfold tag_Right.f at H
  go_enter Tryz.func153, Tryz.ntmps153
  go_wp2_with (first | ((with_reducible refine gate_dst (N := 1) rfl ?_); refine box_on ?hg (N := 1) ?hd (cs := #[.int .i64 a2305, .int .i64 a2306, .int .i64 a2307, .int .i64 a2308, .int .i64 a2309, .int .i64 a2310, .int .i64 a2311]) (t := 79) ?hr ?_; (case hd => rfl); (case hg => rfl); (case hr => first | (go_simp; done) | (go_simp; rfl)); intro g2312 hg w2313 hbox hb; replace HS : Aside0 (Sep (fps []) w [b16 g2312 a2305 a2306 a2307 a2308 a2309 a2310 a2311] w2313) := ⟨HS.out.box hg hbox hb⟩; clear hg hbox hb; have hc2315 : w2313.cell? ⟨g2312, 0, none⟩ = some (.int .i64 a2305) := blk_cellv (HS.out.at0) 0 rfl; have hc2316 : w2313.cell? ⟨g2312, 1, none⟩ = some (.int .i64 a2306) := blk_cellv (HS.out.at0) 1 rfl; have hc2317 : w2313.cell? ⟨g2312, 2, none⟩ = some (.int .i64 a2307) := blk_cellv (HS.out.at0) 2 rfl; have hc2318 : w2313.cell? ⟨g2312, 3, none⟩ = some (.int .i64 a2308) := blk_cellv (HS.out.at0) 3 rfl; have hc2319 : w2313.cell? ⟨g2312, 4, none⟩ = some (.int .i64 a2309) := blk_cellv (HS.out.at0) 4 rfl; have hc2320 : w2313.cell? ⟨g2312, 5, none⟩ = some (.int .i64 a2310) := blk_cellv (HS.out.at0) 5 rfl; have hc2321 : w2313.cell? ⟨g2312, 6, none⟩ = some (.int .i64 a2311) := blk_cellv (HS.out.at0) 6 rfl))
  clear hc2315 hc2316 hc2317 hc2318 hc2319 hc2320 hc2321
  obtain ⟨t2356, HA2357, H⟩ := bind_some H
  refine (tag_marks.calls a2305 a2306 a2307 a2308 a2309 a2310 a2311 t2356 _ ⟨HGl0.out.pass (l := []) HS.out⟩ ⟨Sep.start _⟩ HA2357).mono ?_
  rintro e_ w2358 ⟨rfl, hS⟩
  replace HS : Aside0 (Sep (fps []) w [b16 g2312 a2305 a2306 a2307 a2308 a2309 a2310 a2311] w2358) := ⟨HS.out.call hS⟩
  clear hS
  go_wp2_with fail
  obtain ⟨o2371, AL2372, H⟩ := bind_some H
  go_loopg [7] k (fun kq v7 wc => ∃ (x2375 : Int), v7 = .int .i64 x2375 ∧ Aside0 (tag_Right.lo0 kq t2356 x2375 = some o2371) ∧ Aside0 (Sep (fps []) w [b16 g2312 a2305 a2306 a2307 a2308 a2309 a2310 a2311] wc))
  case atStart => exact ⟨(0), (by first | rfl | (simp [IntKind.wrap_u32]; done)), AL2372, ⟨HS.out⟩⟩
  case round =>
    clear AL2372 HS
    obtain ⟨x2375, rfl, AL2372, HS⟩ := hrel
    obtain ⟨w2373, rfl⟩ : ∃ x : World, x = wr := ⟨_, rfl⟩
    cases gk with
    | zero => exact absurd AL2372.out (by simp [tag_Right.lo0])
    | succ k2374 =>
      have AL0 := AL2372.out
      rw [tag_Right.lo0] at AL0
      clear AL2372
      have AL2372 := Aside0.mk AL0
      clear AL0
      by_cases c2376 : x2375 < 5
      · replace AL2372 := if_yes c2376 AL2372
        have c2376b0 : decide (x2375 < 5) = true := decide_eq_true c2376
        clear c2376
        by_cases c2377 : 0 ≤ x2375
        · replace AL2372 := if_yes c2377 AL2372
          have c2377b0 : decide (0 ≤ x2375) = true := decide_eq_true c2377
          have c2377p : (0 ≤ x2375) = True := eq_true c2377
          clear c2377
          have ip2378 : (x2375 < 5) = True := eq_true (of_decide_eq_true c2376b0)
          have ix2379 : ∀ w, (Instr.index 174 (.agg #[.int .i64 t2356.1, .int .i64 t2356.2.1, .int .i64 t2356.2.2.1, .int .i64 t2356.2.2.2.1, .int .i64 t2356.2.2.2.2]) (.int .i64 x2375)).run Tryz.prog w = .ok (.int .i64 (rd [t2356.1, t2356.2.1, t2356.2.2.1, t2356.2.2.2.1, t2356.2.2.2.2] x2375)) w := run_index_ints 174 3 5 .i64 .i64 [t2356.1, t2356.2.1, t2356.2.2.1, t2356.2.2.2.1, t2356.2.2.2.2] x2375 Tryz.underlying174 (fun _ => by kernel_rfl) (fun _ => by kernel_rfl) rfl (of_decide_eq_true c2377b0) (of_decide_eq_true c2376b0)
          by_cases c2380 : (rd [t2356.1, t2356.2.1, t2356.2.2.1, t2356.2.2.2.1, t2356.2.2.2.2] x2375) = 0
          · replace AL2372 := if_yes c2380 AL2372
            have c2380b0 : ((rd [t2356.1, t2356.2.1, t2356.2.2.1, t2356.2.2.2.1, t2356.2.2.2.2] x2375) == 0) = true := beq_iff_eq.mpr c2380
            have c2380b1 : ((rd [t2356.1, t2356.2.1, t2356.2.2.1, t2356.2.2.2.1, t2356.2.2.2.2] x2375) != 0) = false := bne_eq_false_iff_eq.mpr c2380
            clear c2380
            go_wp2_with fail
            go_roundg k2374
            case measure => exact Nat.lt_succ_self _
            case rel => exact ⟨(wrap64 (x2375 + 1)), (by first | rfl | (simp [IntKind.wrap_u32]; done)), Aside0.mk AL2372.out, ⟨HS.out⟩⟩
          · replace AL2372 := if_no c2380 AL2372
            have c2380b0 : ((rd [t2356.1, t2356.2.1, t2356.2.2.1, t2356.2.2.2.1, t2356.2.2.2.2] x2375) == 0) = false := beq_eq_false_iff_ne.mpr c2380
            have c2380b1 : ((rd [t2356.1, t2356.2.1, t2356.2.2.1, t2356.2.2.2.1, t2356.2.2.2.2] x2375) != 0) = true := bne_iff_ne.mpr c2380
            clear c2380
            by_cases c2381 : (rd [t2356.1, t2356.2.1, t2356.2.2.1, t2356.2.2.2.1, t2356.2.2.2.2] x2375) = 1
            · replace AL2372 := if_yes c2381 AL2372
              have c2381b0 : ((rd [t2356.1, t2356.2.1, t2356.2.2.1, t2356.2.2.2.1, t2356.2.2.2.2] x2375) == 1) = true := beq_iff_eq.mpr c2381
              have c2381b1 : ((rd [t2356.1, t2356.2.1, t2356.2.2.1, t2356.2.2.2.1, t2356.2.2.2.2] x2375) != 1) = false := bne_eq_false_iff_eq.mpr c2381
              clear c2381
              go_wp2_with fail
              go_roundg k2374
              case measure => exact Nat.lt_succ_self _
              case rel => exact ⟨(wrap64 (x2375 + 1)), (by first | rfl | (simp [IntKind.wrap_u32]; done)), Aside0.mk AL2372.out, ⟨HS.out⟩⟩
            · replace AL2372 := if_no c2381 AL2372
              have c2381b0 : ((rd [t2356.1, t2356.2.1, t2356.2.2.1, t2356.2.2.2.1, t2356.2.2.2.2] x2375) == 1) = false := beq_eq_false_iff_ne.mpr c2381
              have c2381b1 : ((rd [t2356.1, t2356.2.1, t2356.2.2.1, t2356.2.2.2.1, t2356.2.2.2.2] x2375) != 1) = true := bne_iff_ne.mpr c2381
              clear c2381
              go_wp2_with fail
              have ho := some_eq AL2372
              subst ho
              have H := lp_ret H
              go_ret
              rw [← some_eq H]
              exact ⟨(by first | rfl | (simp [IntKind.wrap_u32]; done)), HS.out.sub (.cons _ .slnil)⟩
        · replace AL2372 := if_no c2377 AL2372
          have c2377b0 : decide (0 ≤ x2375) = false := decide_eq_false c2377
          clear c2377
          exact (none_no AL2372).elim
      · replace AL2372 := if_no c2376 AL2372
        have c2376b0 : decide (x2375 < 5) = false := decide_eq_false c2376
        clear c2376
        have ho := some_eq AL2372
        subst ho
        clear AL2372
        have H := lp_out H
        by_cases c2383 : a2305 = 1
        · replace H := if_yes c2383 H
          have c2383b0 : (a2305 == 1) = true := beq_iff_eq.mpr c2383
          have c2383b1 : (a2305 != 1) = false := bne_eq_false_iff_eq.mpr c2383
          clear c2383
          have hc2382 : w2373.cell? ⟨g2312, 0, none⟩ = some (.int .i64 a2305) := blk_cellv (HS.out.at0) 0 rfl
          have hc2384 : w2373.cell? ⟨g2312, 6, none⟩ = some (.int .i64 a2311) := blk_cellv (HS.out.at0) 6 rfl
          replace HS : Aside0 (Sep (fps []) w [] w2373) := ⟨HS.out.sub (.cons _ .slnil)⟩
          go_wp2_with fail
          clear hc2382 hc2384
          go_ret
          rw [← some_eq H]
          exact ⟨(by first | rfl | (simp [IntKind.wrap_u32]; done)), HS.out⟩
        · replace H := if_no c2383 H
          have c2383b0 : (a2305 == 1) = false := beq_eq_false_iff_ne.mpr c2383
          have c2383b1 : (a2305 != 1) = true := bne_iff_ne.mpr c2383
          clear c2383
          by_cases c2385 : a2305 = 2
          · replace H := if_yes c2385 H
            have c2385b0 : (a2305 == 2) = true := beq_iff_eq.mpr c2385
            have c2385b1 : (a2305 != 2) = false := bne_eq_false_iff_eq.mpr c2385
            clear c2385
            have hc2382 : w2373.cell? ⟨g2312, 0, none⟩ = some (.int .i64 a2305) := blk_cellv (HS.out.at0) 0 rfl
            have hc2386 : w2373.cell? ⟨g2312, 6, none⟩ = some (.int .i64 a2311) := blk_cellv (HS.out.at0) 6 rfl
            replace HS : Aside0 (Sep (fps []) w [] w2373) := ⟨HS.out.sub (.cons _ .slnil)⟩
            go_wp2_with fail
            clear hc2382 hc2386
            go_ret
            rw [← some_eq H]
            exact ⟨(by first | rfl | (simp [IntKind.wrap_u32]; done)), HS.out⟩
          · replace H := if_no c2385 H
            have c2385b0 : (a2305 == 2) = false := beq_eq_false_iff_ne.mpr c2385
            have c2385b1 : (a2305 != 2) = true := bne_iff_ne.mpr c2385
            clear c2385
            by_cases c2387 : a2305 = 0
            · replace H := if_yes c2387 H
              have c2387b0 : (a2305 == 0) = true := beq_iff_eq.mpr c2387
              have c2387b1 : (a2305 != 0) = false := bne_eq_false_iff_eq.mpr c2387
              clear c2387
              have hc2382 : w2373.cell? ⟨g2312, 0, none⟩ = some (.int .i64 a2305) := blk_cellv (HS.out.at0) 0 rfl
              go_wp2_with fail
              clear hc2382
              refine start_ (n := 25) (S := (fun w' => w'.cell? ⟨g2312, 0, none⟩ = some (.int .i64 a2305) ∧ w'.cell? ⟨g2312, 1, none⟩ = some (.int .i64 a2306) ∧ w'.cell? ⟨g2312, 2, none⟩ = some (.int .i64 a2307) ∧ w'.cell? ⟨g2312, 3, none⟩ = some (.int .i64 a2308) ∧ w'.cell? ⟨g2312, 4, none⟩ = some (.int .i64 a2309) ∧ w'.cell? ⟨g2312, 5, none⟩ = some (.int .i64 a2310) ∧ w'.cell? ⟨g2312, 6, none⟩ = some (.int .i64 a2311) ∧ w'.cell? ⟨0, 0, none⟩ = some (.int .i64 0) ∧ w'.cell? ⟨0, 1, none⟩ = some (.int .i64 0) ∧ w'.cell? ⟨0, 2, none⟩ = some (.int .i64 0) ∧ w'.cell? ⟨0, 3, none⟩ = some (.int .i64 0) ∧ w'.cell? ⟨0, 4, none⟩ = some (.int .i64 0))) (ds := []) #[false, false, false, false, false, false, false, false, false, false, false, false, false, false, false, false, false, false, false, false, false, false, false, false, false] (by kernel_rfl) rfl rfl (⟨blk_cellv ((HS.out.drew).at0) 0 rfl, blk_cellv ((HS.out.drew).at0) 1 rfl, blk_cellv ((HS.out.drew).at0) 2 rfl, blk_cellv ((HS.out.drew).at0) 3 rfl, blk_cellv ((HS.out.drew).at0) 4 rfl, blk_cellv ((HS.out.drew).at0) 5 rfl, blk_cellv ((HS.out.drew).at0) 6 rfl, Gl.cell HGl0.out (HS.out.drew).fr 0 rfl, Gl.cell HGl0.out (HS.out.drew).fr 1 rfl, Gl.cell HGl0.out (HS.out.drew).fr 2 rfl, Gl.cell HGl0.out (HS.out.drew).fr 3 rfl, Gl.cell HGl0.out (HS.out.drew).fr 4 rfl⟩) (fun hHeld => ?_)
              have HS_ := Aside0.mk HS.out.drew
              clear HS
              generalize World.drew _ = w2389 at HS_ hHeld ⊢
              have HS := HS_
              clear HS_
              refine take_ (i := 0) (N := some 28) (v := ?_) (a' := ?_) #[true, false, false, false, false, false, false, false, false, false, false, false, false, false, false, false, false, false, false, false, false, false, false, false, false] rfl rfl (by kernel_rfl) (fun _ _ _ h => h) (Or.inl ⟨by rfl, ?_⟩) hHeld ?_ ?_
              rotate_left
              · rintro w' hS'
                obtain ⟨s0, s1, s2, s3, s4, s5, s6, s7, s8, s9, s10, s11⟩ := hS'
                go_simp
                with_reducible rfl
              rotate_left
              · simp only [Act.put, List.setIfInBounds_toArray, List.set_cons_zero, List.set_cons_succ, i64_w, i32_w]
                rfl
              refine take_ (i := 2) (N := some 30) (v := ?_) (a' := ?_) #[true, false, true, false, false, false, false, false, false, false, false, false, false, false, false, false, false, false, false, false, false, false, false, false, false] rfl rfl (by kernel_rfl) (fun _ _ _ h => h) (Or.inl ⟨by rfl, ?_⟩) hHeld ?_ ?_
              rotate_left
              · rintro w' hS'
                obtain ⟨s0, s1, s2, s3, s4, s5, s6, s7, s8, s9, s10, s11⟩ := hS'
                go_simp
                with_reducible rfl
              rotate_left
              · simp only [Act.put, List.setIfInBounds_toArray, List.set_cons_zero, List.set_cons_succ, i64_w, i32_w]
                rfl
              refine one_ (i := 1) (N := some 29) #[true, true, true, false, false, false, false, false, false, false, false, false, false, false, false, false, false, false, false, false, false, false, false, false, false] rfl rfl (by kernel_rfl) (by decide) (fun K hK => ?_)
              obtain ⟨t2390, HA2391, H⟩ := bind_some H
              refine goes_ Tryz.func154 (by kernel_rfl) rfl #[.agg #[.int .i64 a2305, .int .i64 a2306, .int .i64 a2307, .int .i64 a2308, .int .i64 a2309, .int .i64 a2310, .int .i64 a2311]] (by rfl) rfl rfl (by (try simp only [List.map_toArray, List.map_cons, List.map_nil]); first | done | rfl) ?_
              refine (tag_marks.calls a2305 a2306 a2307 a2308 a2309 a2310 a2311 t2390 _ ⟨HGl0.out.pass (l := []) HS.out⟩ ⟨Sep.start _⟩ HA2391).mono ?_
              rintro e_ w2392 ⟨rfl, hS⟩
              replace HS : Aside0 (Sep (fps []) w [b16 g2312 a2305 a2306 a2307 a2308 a2309 a2310 a2311] w2392) := ⟨HS.out.call hS⟩
              clear hS
              refine ⟨_, rfl, ?_⟩
              refine hK.out _ _ (⟨blk_cellv (HS.out.at0) 0 rfl, blk_cellv (HS.out.at0) 1 rfl, blk_cellv (HS.out.at0) 2 rfl, blk_cellv (HS.out.at0) 3 rfl, blk_cellv (HS.out.at0) 4 rfl, blk_cellv (HS.out.at0) 5 rfl, blk_cellv (HS.out.at0) 6 rfl, Gl.cell HGl0.out HS.out.fr 0 rfl, Gl.cell HGl0.out HS.out.fr 1 rfl, Gl.cell HGl0.out HS.out.fr 2 rfl, Gl.cell HGl0.out HS.out.fr 3 rfl, Gl.cell HGl0.out HS.out.fr 4 rfl⟩) (fun hHeld => ?_)
              clear hK K
              refine norm_ (a' := ?_) ?_ ?_
              rotate_left
              · show Act.put _ (some 29) _ = _
                simp only [Act.put, List.setIfInBounds_toArray, List.set_cons_zero, List.set_cons_succ, i64_w, i32_w]
                rfl
              obtain ⟨b2394, HA2395, H⟩ := bind_some H
              have eb2393 : ∀ w, (Op.equalIn 10000 174 (.agg #[.int .i64 t2390.1, .int .i64 t2390.2.1, .int .i64 t2390.2.2.1, .int .i64 t2390.2.2.2.1, .int .i64 t2390.2.2.2.2]) (.agg #[.int .i64 0, .int .i64 0, .int .i64 0, .int .i64 0, .int .i64 0])).run Tryz.prog w = .ok b2394 w := some_eq HA2395 ▸ run_eq_ints 9998 174 3 5 .i64 [t2390.1, t2390.2.1, t2390.2.2.1, t2390.2.2.2.1, t2390.2.2.2.2] [0, 0, 0, 0, 0] Tryz.underlying174 (by kernel_rfl) (by kernel_rfl) Tryz.underlying3 (fun _ => by kernel_rfl) rfl rfl
              refine pure_ (i := 3) (N := some 31) (v := ?_) (a' := ?_) #[true, true, true, true, false, false, false, false, false, false, false, false, false, false, false, false, false, false, false, false, false, false, false, false, false] rfl rfl (by kernel_rfl) (fun _ _ _ h => h) (Or.inl ⟨by rfl, ?_⟩) ?_ ?_
              rotate_left
              · intro w'
                go_simp
                with_reducible rfl
              rotate_left
              · simp only [Act.put, List.setIfInBounds_toArray, List.set_cons_zero, List.set_cons_succ, i64_w, i32_w]
                rfl
              refine pure_ (i := 4) (N := some 32) (v := ?_) (a' := ?_) #[true, true, true, true, true, false, false, false, false, false, false, false, false, false, false, false, false, false, false, false, false, false, false, false, false] rfl rfl (by kernel_rfl) (fun _ _ _ h => h) (Or.inl ⟨by rfl, ?_⟩) ?_ ?_
              rotate_left
              · intro w'
                go_simp
                with_reducible rfl
              rotate_left
              · simp only [Act.put, List.setIfInBounds_toArray, List.set_cons_zero, List.set_cons_succ, i64_w, i32_w]
                rfl
              by_cases c2396 : b2394 = true
              · replace H := if_yes c2396 H
                have c2396b0 : b2394 = true := c2396
                have c2396b1 : (!b2394) = false := by rw [c2396b0]; rfl
                clear c2396
                try simp only [c2396b0, Bool.not_true, Bool.not_false]
                refine pure_ (i := 5) (N := some 33) (v := ?_) (a' := ?_) #[true, true, true, true, true, true, false, false, false, false, false, false, false, false, false, false, false, false, false, false, false, false, false, false, false] rfl rfl (by kernel_rfl) (fun _ _ _ h => h) (Or.inl ⟨by rfl, ?_⟩) ?_ ?_
                rotate_left
                · intro w'
                  go_simp
                  with_reducible rfl
                rotate_left
                · simp only [Act.put, List.setIfInBounds_toArray, List.set_cons_zero, List.set_cons_succ, i64_w, i32_w]
                  rfl
                try simp only [c2396b0, Bool.not_true, Bool.not_false]
                refine take_ (i := 6) (N := some 34) (v := ?_) (a' := ?_) #[true, true, true, true, true, true, true, false, false, false, false, false, false, false, false, false, false, false, false, false, false, false, false, false, false] rfl rfl (by kernel_rfl) (fun _ _ _ h => h) (Or.inl ⟨by rfl, ?_⟩) hHeld ?_ ?_
                rotate_left
                · rintro w' hS'
                  obtain ⟨s0, s1, s2, s3, s4, s5, s6, s7, s8, s9, s10, s11⟩ := hS'
                  go_simp
                  with_reducible rfl
                rotate_left
                · simp only [Act.put, List.setIfInBounds_toArray, List.set_cons_zero, List.set_cons_succ, i64_w, i32_w]
                  rfl
                try simp only [c2396b0, Bool.not_true, Bool.not_false]
                refine pure_ (i := 7) (N := some 35) (v := ?_) (a' := ?_) #[true, true, true, true, true, true, true, true, false, false, false, false, false, false, false, false, false, false, false, false, false, false, false, false, false] rfl rfl (by kernel_rfl) (fun _ _ _ h => h) (Or.inl ⟨by rfl, ?_⟩) ?_ ?_
                rotate_left
                · intro w'
                  go_simp
                  with_reducible rfl
                rotate_left
                · simp only [Act.put, List.setIfInBounds_toArray, List.set_cons_zero, List.set_cons_succ, i64_w, i32_w]
                  rfl
                refine pure_ (i := 8) (N := some 36) (v := ?_) (a' := ?_) #[true, true, true, true, true, true, true, true, true, false, false, false, false, false, false, false, false, false, false, false, false, false, false, false, false] rfl rfl (by kernel_rfl) (fun _ _ _ h => h) (Or.inl ⟨by rfl, ?_⟩) ?_ ?_
                rotate_left
                · intro w'
                  go_simp
                  with_reducible rfl
                rotate_left
                · simp only [Act.put, List.setIfInBounds_toArray, List.set_cons_zero, List.set_cons_succ, i64_w, i32_w]
                  rfl
                refine pure_ (i := 9) (N := some 37) (v := ?_) (a' := ?_) #[true, true, true, true, true, true, true, true, true, true, false, false, false, false, false, false, false, false, false, false, false, false, false, false, false] rfl rfl (by kernel_rfl) (fun _ _ _ h => h) (Or.inl ⟨by rfl, ?_⟩) ?_ ?_
                rotate_left
                · intro w'
                  go_simp
                  with_reducible rfl
                rotate_left
                · simp only [Act.put, List.setIfInBounds_toArray, List.set_cons_zero, List.set_cons_succ, i64_w, i32_w]
                  rfl
                by_cases c2397 : a2311 ≥ 0
                · replace H := if_yes c2397 H
                  have c2397b0 : decide (0 ≤ a2311) = true := decide_eq_true c2397
                  clear c2397
                  try simp only [c2397b0, Bool.not_true, Bool.not_false]
                  refine pure_ (i := 10) (N := some 38) (v := ?_) (a' := ?_) #[true, true, true, true, true, true, true, true, true, true, true, false, false, false, false, false, false, false, false, false, false, false, false, false, false] rfl rfl (by kernel_rfl) (fun _ _ _ h => h) (Or.inl ⟨by rfl, ?_⟩) ?_ ?_
                  rotate_left
                  · intro w'
                    go_simp
                    with_reducible rfl
                  rotate_left
                  · simp only [Act.put, List.setIfInBounds_toArray, List.set_cons_zero, List.set_cons_succ, i64_w, i32_w]
                    rfl
                  try simp only [c2397b0, Bool.not_true, Bool.not_false]
                  refine take_ (i := 11) (N := some 39) (v := ?_) (a' := ?_) #[true, true, true, true, true, true, true, true, true, true, true, true, false, false, false, false, false, false, false, false, false, false, false, false, false] rfl rfl (by kernel_rfl) (fun _ _ _ h => h) (Or.inl ⟨by rfl, ?_⟩) hHeld ?_ ?_
                  rotate_left
                  · rintro w' hS'
                    obtain ⟨s0, s1, s2, s3, s4, s5, s6, s7, s8, s9, s10, s11⟩ := hS'
                    go_simp
                    with_reducible rfl
                  rotate_left
                  · simp only [Act.put, List.setIfInBounds_toArray, List.set_cons_zero, List.set_cons_succ, i64_w, i32_w]
                    rfl
                  try simp only [c2397b0, Bool.not_true, Bool.not_false]
                  refine pure_ (i := 12) (N := some 40) (v := ?_) (a' := ?_) #[true, true, true, true, true, true, true, true, true, true, true, true, true, false, false, false, false, false, false, false, false, false, false, false, false] rfl rfl (by kernel_rfl) (fun _ _ _ h => h) (Or.inl ⟨by rfl, ?_⟩) ?_ ?_
                  rotate_left
                  · intro w'
                    go_simp
                    with_reducible rfl
                  rotate_left
                  · simp only [Act.put, List.setIfInBounds_toArray, List.set_cons_zero, List.set_cons_succ, i64_w, i32_w]
                    rfl
                  refine pure_ (i := 13) (N := some 41) (v := ?_) (a' := ?_) #[true, true, true, true, true, true, true, true, true, true, true, true, true, true, false, false, false, false, false, false, false, false, false, false, false] rfl rfl (by kernel_rfl) (fun _ _ _ h => h) (Or.inl ⟨by rfl, ?_⟩) ?_ ?_
                  rotate_left
                  · intro w'
                    go_simp
                    with_reducible rfl
                  rotate_left
                  · simp only [Act.put, List.setIfInBounds_toArray, List.set_cons_zero, List.set_cons_succ, i64_w, i32_w]
                    rfl
                  refine pure_ (i := 14) (N := some 42) (v := ?_) (a' := ?_) #[true, true, true, true, true, true, true, true, true, true, true, true, true, true, true, false, false, false, false, false, false, false, false, false, false] rfl rfl (by kernel_rfl) (fun _ _ _ h => h) (Or.inl ⟨by rfl, ?_⟩) ?_ ?_
                  rotate_left
                  · intro w'
                    go_simp
                    with_reducible rfl
                  rotate_left
                  · simp only [Act.put, List.setIfInBounds_toArray, List.set_cons_zero, List.set_cons_succ, i64_w, i32_w]
                    rfl
                  by_cases c2398 : a2311 < 1048576
                  · replace H := if_yes c2398 H
                    have c2398b0 : decide (a2311 < 1048576) = true := decide_eq_true c2398
                    clear c2398
                    try simp only [c2398b0, Bool.not_true, Bool.not_false]
                    refine pure_ (i := 15) (N := some 43) (v := ?_) (a' := ?_) #[true, true, true, true, true, true, true, true, true, true, true, true, true, true, true, true, false, false, false, false, false, false, false, false, false] rfl rfl (by kernel_rfl) (fun _ _ _ h => h) (Or.inl ⟨by rfl, ?_⟩) ?_ ?_
                    rotate_left
                    · intro w'
                      go_simp
                      with_reducible rfl
                    rotate_left
                    · simp only [Act.put, List.setIfInBounds_toArray, List.set_cons_zero, List.set_cons_succ, i64_w, i32_w]
                      rfl
                    try simp only [c2398b0, Bool.not_true, Bool.not_false]
                    refine take_ (i := 16) (N := some 44) (v := ?_) (a' := ?_) #[true, true, true, true, true, true, true, true, true, true, true, true, true, true, true, true, true, false, false, false, false, false, false, false, false] rfl rfl (by kernel_rfl) (fun _ _ _ h => h) (Or.inl ⟨by rfl, ?_⟩) hHeld ?_ ?_
                    rotate_left
                    · rintro w' hS'
                      obtain ⟨s0, s1, s2, s3, s4, s5, s6, s7, s8, s9, s10, s11⟩ := hS'
                      go_simp
                      with_reducible rfl
                    rotate_left
                    · simp only [Act.put, List.setIfInBounds_toArray, List.set_cons_zero, List.set_cons_succ, i64_w, i32_w]
                      rfl
                    try simp only [c2398b0, Bool.not_true, Bool.not_false]
                    refine pure_ (i := 17) (N := some 45) (v := ?_) (a' := ?_) #[true, true, true, true, true, true, true, true, true, true, true, true, true, true, true, true, true, true, false, false, false, false, false, false, false] rfl rfl (by kernel_rfl) (fun _ _ _ h => h) (Or.inl ⟨by rfl, ?_⟩) ?_ ?_
                    rotate_left
                    · intro w'
                      go_simp
                      with_reducible rfl
                    rotate_left
                    · simp only [Act.put, List.setIfInBounds_toArray, List.set_cons_zero, List.set_cons_succ, i64_w, i32_w]
                      rfl
                    try simp only [c2398b0, Bool.not_true, Bool.not_false]
                    refine pure_ (i := 18) (N := some 46) (v := ?_) (a' := ?_) #[true, true, true, true, true, true, true, true, true, true, true, true, true, true, true, true, true, true, true, false, false, false, false, false, false] rfl rfl (by kernel_rfl) (fun _ _ _ h => h) (Or.inl ⟨by rfl, ?_⟩) ?_ ?_
                    rotate_left
                    · intro w'
                      go_simp
                      with_reducible rfl
                    rotate_left
                    · simp only [Act.put, List.setIfInBounds_toArray, List.set_cons_zero, List.set_cons_succ, i64_w, i32_w]
                      rfl
                    by_cases c2399 : a2305 = 3
                    · replace H := if_yes c2399 H
                      have c2399b0 : (a2305 == 3) = true := beq_iff_eq.mpr c2399
                      have c2399b1 : (a2305 != 3) = false := bne_eq_false_iff_eq.mpr c2399
                      clear c2399
                      try simp only [c2399b0, Bool.not_true, Bool.not_false]
                      refine pure_ (i := 19) (N := some 47) (v := undef) (a' := ?_) #[true, true, true, true, true, true, true, true, true, true, true, true, true, true, true, true, true, true, true, true, false, false, false, false, false] rfl rfl (by kernel_rfl) (fun _ _ _ h => h) (Or.inr ⟨by rfl, rfl⟩) ?_ ?_
                      rotate_left
                      · simp only [Act.put, List.setIfInBounds_toArray, List.set_cons_zero, List.set_cons_succ, i64_w, i32_w]
                        rfl
                      try simp only [c2399b0, Bool.not_true, Bool.not_false]
                      refine pure_ (i := 20) (N := some 48) (v := undef) (a' := ?_) #[true, true, true, true, true, true, true, true, true, true, true, true, true, true, true, true, true, true, true, true, true, false, false, false, false] rfl rfl (by kernel_rfl) (fun _ _ _ h => h) (Or.inr ⟨by rfl, rfl⟩) ?_ ?_
                      rotate_left
                      · simp only [Act.put, List.setIfInBounds_toArray, List.set_cons_zero, List.set_cons_succ, i64_w, i32_w]
                        rfl
                      try simp only [c2399b0, Bool.not_true, Bool.not_false]
                      refine pure_ (i := 21) (N := some 49) (v := undef) (a' := ?_) #[true, true, true, true, true, true, true, true, true, true, true, true, true, true, true, true, true, true, true, true, true, true, false, false, false] rfl rfl (by kernel_rfl) (fun _ _ _ h => h) (Or.inr ⟨by rfl, rfl⟩) ?_ ?_
                      rotate_left
                      · simp only [Act.put, List.setIfInBounds_toArray, List.set_cons_zero, List.set_cons_succ, i64_w, i32_w]
                        rfl
                      try simp only [c2398b0, Bool.not_true, Bool.not_false]
                      refine pure_ (i := 22) (N := some 50) (v := ?_) (a' := ?_) #[true, true, true, true, true, true, true, true, true, true, true, true, true, true, true, true, true, true, true, true, true, true, true, false, false] rfl rfl (by kernel_rfl) (fun _ _ _ h => h) (Or.inl ⟨by rfl, ?_⟩) ?_ ?_
                      rotate_left
                      · intro w'
                        go_simp
                        with_reducible rfl
                      rotate_left
                      · simp only [Act.put, List.setIfInBounds_toArray, List.set_cons_zero, List.set_cons_succ, i64_w, i32_w]
                        rfl
                      refine pure_ (i := 23) (N := some 51) (v := ?_) (a' := ?_) #[true, true, true, true, true, true, true, true, true, true, true, true, true, true, true, true, true, true, true, true, true, true, true, true, false] rfl rfl (by kernel_rfl) (fun _ _ _ h => h) (Or.inl ⟨by rfl, ?_⟩) ?_ ?_
                      rotate_left
                      · intro w'
                        go_simp
                        with_reducible rfl
                      rotate_left
                      · simp only [Act.put, List.setIfInBounds_toArray, List.set_cons_zero, List.set_cons_succ, i64_w, i32_w]
                        rfl
                      refine pure_ (i := 24) (N := some 2) (v := ?_) (a' := ?_) #[true, true, true, true, true, true, true, true, true, true, true, true, true, true, true, true, true, true, true, true, true, true, true, true, true] rfl rfl (by kernel_rfl) (fun _ _ _ h => h) (Or.inl ⟨by rfl, ?_⟩) ?_ ?_
                      rotate_left
                      · intro w'
                        go_simp
                        with_reducible rfl
                      rotate_left
                      · simp only [Act.put, List.setIfInBounds_toArray, List.set_cons_zero, List.set_cons_succ, i64_w, i32_w]
                        rfl
                      refine done_ (by kernel_rfl) ?_
                      replace HS : Aside0 (Sep (fps []) w [] w2392) := ⟨HS.out.sub (.cons _ .slnil)⟩
                      go_wp2_with fail
                      go_ret
                      rw [← some_eq H]
                      exact ⟨(by first | rfl | (simp [IntKind.wrap_u32]; done)), HS.out⟩
                    · replace H := if_no c2399 H
                      have c2399b0 : (a2305 == 3) = false := beq_eq_false_iff_ne.mpr c2399
                      have c2399b1 : (a2305 != 3) = true := bne_iff_ne.mpr c2399
                      clear c2399
                      try simp only [c2399b0, Bool.not_true, Bool.not_false]
                      refine pure_ (i := 19) (N := some 47) (v := ?_) (a' := ?_) #[true, true, true, true, true, true, true, true, true, true, true, true, true, true, true, true, true, true, true, true, false, false, false, false, false] rfl rfl (by kernel_rfl) (fun _ _ _ h => h) (Or.inl ⟨by rfl, ?_⟩) ?_ ?_
                      rotate_left
                      · intro w'
                        go_simp
                        with_reducible rfl
                      rotate_left
                      · simp only [Act.put, List.setIfInBounds_toArray, List.set_cons_zero, List.set_cons_succ, i64_w, i32_w]
                        rfl
                      try simp only [c2399b0, Bool.not_true, Bool.not_false]
                      refine take_ (i := 20) (N := some 48) (v := ?_) (a' := ?_) #[true, true, true, true, true, true, true, true, true, true, true, true, true, true, true, true, true, true, true, true, true, false, false, false, false] rfl rfl (by kernel_rfl) (fun _ _ _ h => h) (Or.inl ⟨by rfl, ?_⟩) hHeld ?_ ?_
                      rotate_left
                      · rintro w' hS'
                        obtain ⟨s0, s1, s2, s3, s4, s5, s6, s7, s8, s9, s10, s11⟩ := hS'
                        go_simp
                        with_reducible rfl
                      rotate_left
                      · simp only [Act.put, List.setIfInBounds_toArray, List.set_cons_zero, List.set_cons_succ, i64_w, i32_w]
                        rfl
                      try simp only [c2399b0, Bool.not_true, Bool.not_false]
                      refine pure_ (i := 21) (N := some 49) (v := ?_) (a' := ?_) #[true, true, true, true, true, true, true, true, true, true, true, true, true, true, true, true, true, true, true, true, true, true, false, false, false] rfl rfl (by kernel_rfl) (fun _ _ _ h => h) (Or.inl ⟨by rfl, ?_⟩) ?_ ?_
                      rotate_left
                      · intro w'
                        go_simp
                        with_reducible rfl
                      rotate_left
                      · simp only [Act.put, List.setIfInBounds_toArray, List.set_cons_zero, List.set_cons_succ, i64_w, i32_w]
                        rfl
                      try simp only [c2398b0, Bool.not_true, Bool.not_false]
                      refine pure_ (i := 22) (N := some 50) (v := ?_) (a' := ?_) #[true, true, true, true, true, true, true, true, true, true, true, true, true, true, true, true, true, true, true, true, true, true, true, false, false] rfl rfl (by kernel_rfl) (fun _ _ _ h => h) (Or.inl ⟨by rfl, ?_⟩) ?_ ?_
                      rotate_left
                      · intro w'
                        go_simp
                        with_reducible rfl
                      rotate_left
                      · simp only [Act.put, List.setIfInBounds_toArray, List.set_cons_zero, List.set_cons_succ, i64_w, i32_w]
                        rfl
                      refine pure_ (i := 23) (N := some 51) (v := ?_) (a' := ?_) #[true, true, true, true, true, true, true, true, true, true, true, true, true, true, true, true, true, true, true, true, true, true, true, true, false] rfl rfl (by kernel_rfl) (fun _ _ _ h => h) (Or.inl ⟨by rfl, ?_⟩) ?_ ?_
                      rotate_left
                      · intro w'
                        go_simp
                        with_reducible rfl
                      rotate_left
                      · simp only [Act.put, List.setIfInBounds_toArray, List.set_cons_zero, List.set_cons_succ, i64_w, i32_w]
                        rfl
                      refine pure_ (i := 24) (N := some 2) (v := ?_) (a' := ?_) #[true, true, true, true, true, true, true, true, true, true, true, true, true, true, true, true, true, true, true, true, true, true, true, true, true] rfl rfl (by kernel_rfl) (fun _ _ _ h => h) (Or.inl ⟨by rfl, ?_⟩) ?_ ?_
                      rotate_left
                      · intro w'
                        go_simp
                        with_reducible rfl
                      rotate_left
                      · simp only [Act.put, List.setIfInBounds_toArray, List.set_cons_zero, List.set_cons_succ, i64_w, i32_w]
                        rfl
                      refine done_ (by kernel_rfl) ?_
                      replace HS : Aside0 (Sep (fps []) w [] w2392) := ⟨HS.out.sub (.cons _ .slnil)⟩
                      go_wp2_with fail
                      go_ret
                      rw [← some_eq H]
                      exact ⟨(by first | rfl | (simp [IntKind.wrap_u32]; done)), HS.out⟩
                  · replace H := if_no c2398 H
                    have c2398b0 : decide (a2311 < 1048576) = false := decide_eq_false c2398
                    clear c2398
                    try simp only [c2398b0, Bool.not_true, Bool.not_false]
                    refine pure_ (i := 15) (N := some 43) (v := undef) (a' := ?_) #[true, true, true, true, true, true, true, true, true, true, true, true, true, true, true, true, false, false, false, false, false, false, false, false, false] rfl rfl (by kernel_rfl) (fun _ _ _ h => h) (Or.inr ⟨by rfl, rfl⟩) ?_ ?_
                    rotate_left
                    · simp only [Act.put, List.setIfInBounds_toArray, List.set_cons_zero, List.set_cons_succ, i64_w, i32_w]
                      rfl
                    try simp only [c2398b0, Bool.not_true, Bool.not_false]
                    refine pure_ (i := 16) (N := some 44) (v := undef) (a' := ?_) #[true, true, true, true, true, true, true, true, true, true, true, true, true, true, true, true, true, false, false, false, false, false, false, false, false] rfl rfl (by kernel_rfl) (fun _ _ _ h => h) (Or.inr ⟨by rfl, rfl⟩) ?_ ?_
                    rotate_left
                    · simp only [Act.put, List.setIfInBounds_toArray, List.set_cons_zero, List.set_cons_succ, i64_w, i32_w]
                      rfl
                    try simp only [c2398b0, Bool.not_true, Bool.not_false]
                    refine pure_ (i := 17) (N := some 45) (v := undef) (a' := ?_) #[true, true, true, true, true, true, true, true, true, true, true, true, true, true, true, true, true, true, false, false, false, false, false, false, false] rfl rfl (by kernel_rfl) (fun _ _ _ h => h) (Or.inr ⟨by rfl, rfl⟩) ?_ ?_
                    rotate_left
                    · simp only [Act.put, List.setIfInBounds_toArray, List.set_cons_zero, List.set_cons_succ, i64_w, i32_w]
                      rfl
                    try simp only [c2398b0, Bool.not_true, Bool.not_false]
                    refine pure_ (i := 18) (N := some 46) (v := undef) (a' := ?_) #[true, true, true, true, true, true, true, true, true, true, true, true, true, true, true, true, true, true, true, false, false, false, false, false, false] rfl rfl (by kernel_rfl) (fun _ _ _ h => h) (Or.inr ⟨by rfl, rfl⟩) ?_ ?_
                    rotate_left
                    · simp only [Act.put, List.setIfInBounds_toArray, List.set_cons_zero, List.set_cons_succ, i64_w, i32_w]
                      rfl
                    refine pure_ (i := 19) (N := some 47) (v := undef) (a' := ?_) #[true, true, true, true, true, true, true, true, true, true, true, true, true, true, true, true, true, true, true, true, false, false, false, false, false] rfl rfl (by kernel_rfl) (fun _ _ _ h => h) (Or.inr ⟨by rfl, rfl⟩) ?_ ?_
                    rotate_left
                    · simp only [Act.put, List.setIfInBounds_toArray, List.set_cons_zero, List.set_cons_succ, i64_w, i32_w]
                      rfl
                    refine pure_ (i := 20) (N := some 48) (v := undef) (a' := ?_) #[true, true, true, true, true, true, true, true, true, true, true, true, true, true, true, true, true, true, true, true, true, false, false, false, false] rfl rfl (by kernel_rfl) (fun _ _ _ h => h) (Or.inr ⟨by rfl, rfl⟩) ?_ ?_
                    rotate_left
                    · simp only [Act.put, List.setIfInBounds_toArray, List.set_cons_zero, List.set_cons_succ, i64_w, i32_w]
                      rfl
                    refine pure_ (i := 21) (N := some 49) (v := undef) (a' := ?_) #[true, true, true, true, true, true, true, true, true, true, true, true, true, true, true, true, true, true, true, true, true, true, false, false, false] rfl rfl (by kernel_rfl) (fun _ _ _ h => h) (Or.inr ⟨by rfl, rfl⟩) ?_ ?_
                    rotate_left
                    · simp only [Act.put, List.setIfInBounds_toArray, List.set_cons_zero, List.set_cons_succ, i64_w, i32_w]
                      rfl
                    try simp only [c2398b0, Bool.not_true, Bool.not_false]
                    refine pure_ (i := 22) (N := some 50) (v := undef) (a' := ?_) #[true, true, true, true, true, true, true, true, true, true, true, true, true, true, true, true, true, true, true, true, true, true, true, false, false] rfl rfl (by kernel_rfl) (fun _ _ _ h => h) (Or.inr ⟨by rfl, rfl⟩) ?_ ?_
                    rotate_left
                    · simp only [Act.put, List.setIfInBounds_toArray, List.set_cons_zero, List.set_cons_succ, i64_w, i32_w]
                      rfl
                    refine pure_ (i := 23) (N := some 51) (v := ?_) (a' := ?_) #[true, true, true, true, true, true, true, true, true, true, true, true, true, true, true, true, true, true, true, true, true, true, true, true, false] rfl rfl (by kernel_rfl) (fun _ _ _ h => h) (Or.inl ⟨by rfl, ?_⟩) ?_ ?_
                    rotate_left
                    · intro w'
                      go_simp
                      with_reducible rfl
                    rotate_left
                    · simp only [Act.put, List.setIfInBounds_toArray, List.set_cons_zero, List.set_cons_succ, i64_w, i32_w]
                      rfl
                    refine pure_ (i := 24) (N := some 2) (v := ?_) (a' := ?_) #[true, true, true, true, true, true, true, true, true, true, true, true, true, true, true, true, true, true, true, true, true, true, true, true, true] rfl rfl (by kernel_rfl) (fun _ _ _ h => h) (Or.inl ⟨by rfl, ?_⟩) ?_ ?_
                    rotate_left
                    · intro w'
                      go_simp
                      with_reducible rfl
                    rotate_left
                    · simp only [Act.put, List.setIfInBounds_toArray, List.set_cons_zero, List.set_cons_succ, i64_w, i32_w]
                      rfl
                    refine done_ (by kernel_rfl) ?_
                    replace HS : Aside0 (Sep (fps []) w [] w2392) := ⟨HS.out.sub (.cons _ .slnil)⟩
                    go_wp2_with fail
                    go_ret
                    rw [← some_eq H]
                    exact ⟨(by first | rfl | (simp [IntKind.wrap_u32]; done)), HS.out⟩
                · replace H := if_no c2397 H
                  have c2397b0 : decide (0 ≤ a2311) = false := decide_eq_false c2397
                  clear c2397
                  try simp only [c2397b0, Bool.not_true, Bool.not_false]
                  refine pure_ (i := 10) (N := some 38) (v := undef) (a' := ?_) #[true, true, true, true, true, true, true, true, true, true, true, false, false, false, false, false, false, false, false, false, false, false, false, false, false] rfl rfl (by kernel_rfl) (fun _ _ _ h => h) (Or.inr ⟨by rfl, rfl⟩) ?_ ?_
                  rotate_left
                  · simp only [Act.put, List.setIfInBounds_toArray, List.set_cons_zero, List.set_cons_succ, i64_w, i32_w]
                    rfl
                  try simp only [c2397b0, Bool.not_true, Bool.not_false]
                  refine pure_ (i := 11) (N := some 39) (v := undef) (a' := ?_) #[true, true, true, true, true, true, true, true, true, true, true, true, false, false, false, false, false, false, false, false, false, false, false, false, false] rfl rfl (by kernel_rfl) (fun _ _ _ h => h) (Or.inr ⟨by rfl, rfl⟩) ?_ ?_
                  rotate_left
                  · simp only [Act.put, List.setIfInBounds_toArray, List.set_cons_zero, List.set_cons_succ, i64_w, i32_w]
                    rfl
                  try simp only [c2397b0, Bool.not_true, Bool.not_false]
                  refine pure_ (i := 12) (N := some 40) (v := undef) (a' := ?_) #[true, true, true, true, true, true, true, true, true, true, true, true, true, false, false, false, false, false, false, false, false, false, false, false, false] rfl rfl (by kernel_rfl) (fun _ _ _ h => h) (Or.inr ⟨by rfl, rfl⟩) ?_ ?_
                  rotate_left
                  · simp only [Act.put, List.setIfInBounds_toArray, List.set_cons_zero, List.set_cons_succ, i64_w, i32_w]
                    rfl
                  refine pure_ (i := 13) (N := some 41) (v := ?_) (a' := ?_) #[true, true, true, true, true, true, true, true, true, true, true, true, true, true, false, false, false, false, false, false, false, false, false, false, false] rfl rfl (by kernel_rfl) (fun _ _ _ h => h) (Or.inl ⟨by rfl, ?_⟩) ?_ ?_
                  rotate_left
                  · intro w'
                    go_simp
                    with_reducible rfl
                  rotate_left
                  · simp only [Act.put, List.setIfInBounds_toArray, List.set_cons_zero, List.set_cons_succ, i64_w, i32_w]
                    rfl
                  refine pure_ (i := 14) (N := some 42) (v := ?_) (a' := ?_) #[true, true, true, true, true, true, true, true, true, true, true, true, true, true, true, false, false, false, false, false, false, false, false, false, false] rfl rfl (by kernel_rfl) (fun _ _ _ h => h) (Or.inl ⟨by rfl, ?_⟩) ?_ ?_
                  rotate_left
                  · intro w'
                    go_simp
                    with_reducible rfl
                  rotate_left
                  · simp only [Act.put, List.setIfInBounds_toArray, List.set_cons_zero, List.set_cons_succ, i64_w, i32_w]
                    rfl
                  refine pure_ (i := 15) (N := some 43) (v := undef) (a' := ?_) #[true, true, true, true, true, true, true, true, true, true, true, true, true, true, true, true, false, false, false, false, false, false, false, false, false] rfl rfl (by kernel_rfl) (fun _ _ _ h => h) (Or.inr ⟨by rfl, rfl⟩) ?_ ?_
                  rotate_left
                  · simp only [Act.put, List.setIfInBounds_toArray, List.set_cons_zero, List.set_cons_succ, i64_w, i32_w]
                    rfl
                  refine pure_ (i := 16) (N := some 44) (v := undef) (a' := ?_) #[true, true, true, true, true, true, true, true, true, true, true, true, true, true, true, true, true, false, false, false, false, false, false, false, false] rfl rfl (by kernel_rfl) (fun _ _ _ h => h) (Or.inr ⟨by rfl, rfl⟩) ?_ ?_
                  rotate_left
                  · simp only [Act.put, List.setIfInBounds_toArray, List.set_cons_zero, List.set_cons_succ, i64_w, i32_w]
                    rfl
                  refine pure_ (i := 17) (N := some 45) (v := undef) (a' := ?_) #[true, true, true, true, true, true, true, true, true, true, true, true, true, true, true, true, true, true, false, false, false, false, false, false, false] rfl rfl (by kernel_rfl) (fun _ _ _ h => h) (Or.inr ⟨by rfl, rfl⟩) ?_ ?_
                  rotate_left
                  · simp only [Act.put, List.setIfInBounds_toArray, List.set_cons_zero, List.set_cons_succ, i64_w, i32_w]
                    rfl
                  refine pure_ (i := 18) (N := some 46) (v := undef) (a' := ?_) #[true, true, true, true, true, true, true, true, true, true, true, true, true, true, true, true, true, true, true, false, false, false, false, false, false] rfl rfl (by kernel_rfl) (fun _ _ _ h => h) (Or.inr ⟨by rfl, rfl⟩) ?_ ?_
                  rotate_left
                  · simp only [Act.put, List.setIfInBounds_toArray, List.set_cons_zero, List.set_cons_succ, i64_w, i32_w]
                    rfl
                  refine pure_ (i := 19) (N := some 47) (v := undef) (a' := ?_) #[true, true, true, true, true, true, true, true, true, true, true, true, true, true, true, true, true, true, true, true, false, false, false, false, false] rfl rfl (by kernel_rfl) (fun _ _ _ h => h) (Or.inr ⟨by rfl, rfl⟩) ?_ ?_
                  rotate_left
                  · simp only [Act.put, List.setIfInBounds_toArray, List.set_cons_zero, List.set_cons_succ, i64_w, i32_w]
                    rfl
                  refine pure_ (i := 20) (N := some 48) (v := undef) (a' := ?_) #[true, true, true, true, true, true, true, true, true, true, true, true, true, true, true, true, true, true, true, true, true, false, false, false, false] rfl rfl (by kernel_rfl) (fun _ _ _ h => h) (Or.inr ⟨by rfl, rfl⟩) ?_ ?_
                  rotate_left
                  · simp only [Act.put, List.setIfInBounds_toArray, List.set_cons_zero, List.set_cons_succ, i64_w, i32_w]
                    rfl
                  refine pure_ (i := 21) (N := some 49) (v := undef) (a' := ?_) #[true, true, true, true, true, true, true, true, true, true, true, true, true, true, true, true, true, true, true, true, true, true, false, false, false] rfl rfl (by kernel_rfl) (fun _ _ _ h => h) (Or.inr ⟨by rfl, rfl⟩) ?_ ?_
                  rotate_left
                  · simp only [Act.put, List.setIfInBounds_toArray, List.set_cons_zero, List.set_cons_succ, i64_w, i32_w]
                    rfl
                  refine pure_ (i := 22) (N := some 50) (v := undef) (a' := ?_) #[true, true, true, true, true, true, true, true, true, true, true, true, true, true, true, true, true, true, true, true, true, true, true, false, false] rfl rfl (by kernel_rfl) (fun _ _ _ h => h) (Or.inr ⟨by rfl, rfl⟩) ?_ ?_
                  rotate_left
                  · simp only [Act.put, List.setIfInBounds_toArray, List.set_cons_zero, List.set_cons_succ, i64_w, i32_w]
                    rfl
                  refine pure_ (i := 23) (N := some 51) (v := ?_) (a' := ?_) #[true, true, true, true, true, true, true, true, true, true, true, true, true, true, true, true, true, true, true, true, true, true, true, true, false] rfl rfl (by kernel_rfl) (fun _ _ _ h => h) (Or.inl ⟨by rfl, ?_⟩) ?_ ?_
                  rotate_left
                  · intro w'
                    go_simp
                    with_reducible rfl
                  rotate_left
                  · simp only [Act.put, List.setIfInBounds_toArray, List.set_cons_zero, List.set_cons_succ, i64_w, i32_w]
                    rfl
                  refine pure_ (i := 24) (N := some 2) (v := ?_) (a' := ?_) #[true, true, true, true, true, true, true, true, true, true, true, true, true, true, true, true, true, true, true, true, true, true, true, true, true] rfl rfl (by kernel_rfl) (fun _ _ _ h => h) (Or.inl ⟨by rfl, ?_⟩) ?_ ?_
                  rotate_left
                  · intro w'
                    go_simp
                    with_reducible rfl
                  rotate_left
                  · simp only [Act.put, List.setIfInBounds_toArray, List.set_cons_zero, List.set_cons_succ, i64_w, i32_w]
                    rfl
                  refine done_ (by kernel_rfl) ?_
                  replace HS : Aside0 (Sep (fps []) w [] w2392) := ⟨HS.out.sub (.cons _ .slnil)⟩
                  go_wp2_with fail
                  go_ret
                  rw [← some_eq H]
                  exact ⟨(by first | rfl | (simp [IntKind.wrap_u32]; done)), HS.out⟩
              · replace H := if_no c2396 H
                have c2396b0 : b2394 = false := by simpa using c2396
                have c2396b1 : (!b2394) = true := by rw [c2396b0]; rfl
                clear c2396
                try simp only [c2396b0, Bool.not_true, Bool.not_false]
                refine pure_ (i := 5) (N := some 33) (v := undef) (a' := ?_) #[true, true, true, true, true, true, false, false, false, false, false, false, false, false, false, false, false, false, false, false, false, false, false, false, false] rfl rfl (by kernel_rfl) (fun _ _ _ h => h) (Or.inr ⟨by rfl, rfl⟩) ?_ ?_
                rotate_left
                · simp only [Act.put, List.setIfInBounds_toArray, List.set_cons_zero, List.set_cons_succ, i64_w, i32_w]
                  rfl
                try simp only [c2396b0, Bool.not_true, Bool.not_false]
                refine pure_ (i := 6) (N := some 34) (v := undef) (a' := ?_) #[true, true, true, true, true, true, true, false, false, false, false, false, false, false, false, false, false, false, false, false, false, false, false, false, false] rfl rfl (by kernel_rfl) (fun _ _ _ h => h) (Or.inr ⟨by rfl, rfl⟩) ?_ ?_
                rotate_left
                · simp only [Act.put, List.setIfInBounds_toArray, List.set_cons_zero, List.set_cons_succ, i64_w, i32_w]
                  rfl
                try simp only [c2396b0, Bool.not_true, Bool.not_false]
                refine pure_ (i := 7) (N := some 35) (v := undef) (a' := ?_) #[true, true, true, true, true, true, true, true, false, false, false, false, false, false, false, false, false, false, false, false, false, false, false, false, false] rfl rfl (by kernel_rfl) (fun _ _ _ h => h) (Or.inr ⟨by rfl, rfl⟩) ?_ ?_
                rotate_left
                · simp only [Act.put, List.setIfInBounds_toArray, List.set_cons_zero, List.set_cons_succ, i64_w, i32_w]
                  rfl
                refine pure_ (i := 8) (N := some 36) (v := ?_) (a' := ?_) #[true, true, true, true, true, true, true, true, true, false, false, false, false, false, false, false, false, false, false, false, false, false, false, false, false] rfl rfl (by kernel_rfl) (fun _ _ _ h => h) (Or.inl ⟨by rfl, ?_⟩) ?_ ?_
                rotate_left
                · intro w'
                  go_simp
                  with_reducible rfl
                rotate_left
                · simp only [Act.put, List.setIfInBounds_toArray, List.set_cons_zero, List.set_cons_succ, i64_w, i32_w]
                  rfl
                refine pure_ (i := 9) (N := some 37) (v := ?_) (a' := ?_) #[true, true, true, true, true, true, true, true, true, true, false, false, false, false, false, false, false, false, false, false, false, false, false, false, false] rfl rfl (by kernel_rfl) (fun _ _ _ h => h) (Or.inl ⟨by rfl, ?_⟩) ?_ ?_
                rotate_left
                · intro w'
                  go_simp
                  with_reducible rfl
                rotate_left
                · simp only [Act.put, List.setIfInBounds_toArray, List.set_cons_zero, List.set_cons_succ, i64_w, i32_w]
                  rfl
                refine pure_ (i := 10) (N := some 38) (v := undef) (a' := ?_) #[true, true, true, true, true, true, true, true, true, true, true, false, false, false, false, false, false, false, false, false, false, false, false, false, false] rfl rfl (by kernel_rfl) (fun _ _ _ h => h) (Or.inr ⟨by rfl, rfl⟩) ?_ ?_
                rotate_left
                · simp only [Act.put, List.setIfInBounds_toArray, List.set_cons_zero, List.set_cons_succ, i64_w, i32_w]
                  rfl
                refine pure_ (i := 11) (N := some 39) (v := undef) (a' := ?_) #[true, true, true, true, true, true, true, true, true, true, true, true, false, false, false, false, false, false, false, false, false, false, false, false, false] rfl rfl (by kernel_rfl) (fun _ _ _ h => h) (Or.inr ⟨by rfl, rfl⟩) ?_ ?_
                rotate_left
                · simp only [Act.put, List.setIfInBounds_toArray, List.set_cons_zero, List.set_cons_succ, i64_w, i32_w]
                  rfl
                refine pure_ (i := 12) (N := some 40) (v := undef) (a' := ?_) #[true, true, true, true, true, true, true, true, true, true, true, true, true, false, false, false, false, false, false, false, false, false, false, false, false] rfl rfl (by kernel_rfl) (fun _ _ _ h => h) (Or.inr ⟨by rfl, rfl⟩) ?_ ?_
                rotate_left
                · simp only [Act.put, List.setIfInBounds_toArray, List.set_cons_zero, List.set_cons_succ, i64_w, i32_w]
                  rfl
                refine pure_ (i := 13) (N := some 41) (v := ?_) (a' := ?_) #[true, true, true, true, true, true, true, true, true, true, true, true, true, true, false, false, false, false, false, false, false, false, false, false, false] rfl rfl (by kernel_rfl) (fun _ _ _ h => h) (Or.inl ⟨by rfl, ?_⟩) ?_ ?_
                rotate_left
                · intro w'
                  go_simp
                  with_reducible rfl
                rotate_left
                · simp only [Act.put, List.setIfInBounds_toArray, List.set_cons_zero, List.set_cons_succ, i64_w, i32_w]
                  rfl
                refine pure_ (i := 14) (N := some 42) (v := ?_) (a' := ?_) #[true, true, true, true, true, true, true, true, true, true, true, true, true, true, true, false, false, false, false, false, false, false, false, false, false] rfl rfl (by kernel_rfl) (fun _ _ _ h => h) (Or.inl ⟨by rfl, ?_⟩) ?_ ?_
                rotate_left
                · intro w'
                  go_simp
                  with_reducible rfl
                rotate_left
                · simp only [Act.put, List.setIfInBounds_toArray, List.set_cons_zero, List.set_cons_succ, i64_w, i32_w]
                  rfl
                refine pure_ (i := 15) (N := some 43) (v := undef) (a' := ?_) #[true, true, true, true, true, true, true, true, true, true, true, true, true, true, true, true, false, false, false, false, false, false, false, false, false] rfl rfl (by kernel_rfl) (fun _ _ _ h => h) (Or.inr ⟨by rfl, rfl⟩) ?_ ?_
                rotate_left
                · simp only [Act.put, List.setIfInBounds_toArray, List.set_cons_zero, List.set_cons_succ, i64_w, i32_w]
                  rfl
                refine pure_ (i := 16) (N := some 44) (v := undef) (a' := ?_) #[true, true, true, true, true, true, true, true, true, true, true, true, true, true, true, true, true, false, false, false, false, false, false, false, false] rfl rfl (by kernel_rfl) (fun _ _ _ h => h) (Or.inr ⟨by rfl, rfl⟩) ?_ ?_
                rotate_left
                · simp only [Act.put, List.setIfInBounds_toArray, List.set_cons_zero, List.set_cons_succ, i64_w, i32_w]
                  rfl
                refine pure_ (i := 17) (N := some 45) (v := undef) (a' := ?_) #[true, true, true, true, true, true, true, true, true, true, true, true, true, true, true, true, true, true, false, false, false, false, false, false, false] rfl rfl (by kernel_rfl) (fun _ _ _ h => h) (Or.inr ⟨by rfl, rfl⟩) ?_ ?_
                rotate_left
                · simp only [Act.put, List.setIfInBounds_toArray, List.set_cons_zero, List.set_cons_succ, i64_w, i32_w]
                  rfl
                refine pure_ (i := 18) (N := some 46) (v := undef) (a' := ?_) #[true, true, true, true, true, true, true, true, true, true, true, true, true, true, true, true, true, true, true, false, false, false, false, false, false] rfl rfl (by kernel_rfl) (fun _ _ _ h => h) (Or.inr ⟨by rfl, rfl⟩) ?_ ?_
                rotate_left
                · simp only [Act.put, List.setIfInBounds_toArray, List.set_cons_zero, List.set_cons_succ, i64_w, i32_w]
                  rfl
                refine pure_ (i := 19) (N := some 47) (v := undef) (a' := ?_) #[true, true, true, true, true, true, true, true, true, true, true, true, true, true, true, true, true, true, true, true, false, false, false, false, false] rfl rfl (by kernel_rfl) (fun _ _ _ h => h) (Or.inr ⟨by rfl, rfl⟩) ?_ ?_
                rotate_left
                · simp only [Act.put, List.setIfInBounds_toArray, List.set_cons_zero, List.set_cons_succ, i64_w, i32_w]
                  rfl
                refine pure_ (i := 20) (N := some 48) (v := undef) (a' := ?_) #[true, true, true, true, true, true, true, true, true, true, true, true, true, true, true, true, true, true, true, true, true, false, false, false, false] rfl rfl (by kernel_rfl) (fun _ _ _ h => h) (Or.inr ⟨by rfl, rfl⟩) ?_ ?_
                rotate_left
                · simp only [Act.put, List.setIfInBounds_toArray, List.set_cons_zero, List.set_cons_succ, i64_w, i32_w]
                  rfl
                refine pure_ (i := 21) (N := some 49) (v := undef) (a' := ?_) #[true, true, true, true, true, true, true, true, true, true, true, true, true, true, true, true, true, true, true, true, true, true, false, false, false] rfl rfl (by kernel_rfl) (fun _ _ _ h => h) (Or.inr ⟨by rfl, rfl⟩) ?_ ?_
                rotate_left
                · simp only [Act.put, List.setIfInBounds_toArray, List.set_cons_zero, List.set_cons_succ, i64_w, i32_w]
                  rfl
                refine pure_ (i := 22) (N := some 50) (v := undef) (a' := ?_) #[true, true, true, true, true, true, true, true, true, true, true, true, true, true, true, true, true, true, true, true, true, true, true, false, false] rfl rfl (by kernel_rfl) (fun _ _ _ h => h) (Or.inr ⟨by rfl, rfl⟩) ?_ ?_
                rotate_left
                · simp only [Act.put, List.setIfInBounds_toArray, List.set_cons_zero, List.set_cons_succ, i64_w, i32_w]
                  rfl
                refine pure_ (i := 23) (N := some 51) (v := ?_) (a' := ?_) #[true, true, true, true, true, true, true, true, true, true, true, true, true, true, true, true, true, true, true, true, true, true, true, true, false] rfl rfl (by kernel_rfl) (fun _ _ _ h => h) (Or.inl ⟨by rfl, ?_⟩) ?_ ?_
                rotate_left
                · intro w'
                  go_simp
                  with_reducible rfl
                rotate_left
                · simp only [Act.put, List.setIfInBounds_toArray, List.set_cons_zero, List.set_cons_succ, i64_w, i32_w]
                  rfl
                refine pure_ (i := 24) (N := some 2) (v := ?_) (a' := ?_) #[true, true, true, true, true, true, true, true, true, true, true, true, true, true, true, true, true, true, true, true, true, true, true, true, true] rfl rfl (by kernel_rfl) (fun _ _ _ h => h) (Or.inl ⟨by rfl, ?_⟩) ?_ ?_
                rotate_left
                · intro w'
                  go_simp
                  with_reducible rfl
                rotate_left
                · simp only [Act.put, List.setIfInBounds_toArray, List.set_cons_zero, List.set_cons_succ, i64_w, i32_w]
                  rfl
                refine done_ (by kernel_rfl) ?_
                replace HS : Aside0 (Sep (fps []) w [] w2392) := ⟨HS.out.sub (.cons _ .slnil)⟩
                go_wp2_with fail
                go_ret
                rw [← some_eq H]
                exact ⟨(by first | rfl | (simp [IntKind.wrap_u32]; done)), HS.out⟩
            · replace H := if_no c2387 H
              have c2387b0 : (a2305 == 0) = false := beq_eq_false_iff_ne.mpr c2387
              have c2387b1 : (a2305 != 0) = true := bne_iff_ne.mpr c2387
              clear c2387
              by_cases c2400 : a2305 = 3
              · replace H := if_yes c2400 H
                have c2400b0 : (a2305 == 3) = true := beq_iff_eq.mpr c2400
                have c2400b1 : (a2305 != 3) = false := bne_eq_false_iff_eq.mpr c2400
                clear c2400
                have hc2382 : w2373.cell? ⟨g2312, 0, none⟩ = some (.int .i64 a2305) := blk_cellv (HS.out.at0) 0 rfl
                go_wp2_with fail
                clear hc2382
                refine start_ (n := 25) (S := (fun w' => w'.cell? ⟨g2312, 0, none⟩ = some (.int .i64 a2305) ∧ w'.cell? ⟨g2312, 1, none⟩ = some (.int .i64 a2306) ∧ w'.cell? ⟨g2312, 2, none⟩ = some (.int .i64 a2307) ∧ w'.cell? ⟨g2312, 3, none⟩ = some (.int .i64 a2308) ∧ w'.cell? ⟨g2312, 4, none⟩ = some (.int .i64 a2309) ∧ w'.cell? ⟨g2312, 5, none⟩ = some (.int .i64 a2310) ∧ w'.cell? ⟨g2312, 6, none⟩ = some (.int .i64 a2311) ∧ w'.cell? ⟨0, 0, none⟩ = some (.int .i64 0) ∧ w'.cell? ⟨0, 1, none⟩ = some (.int .i64 0) ∧ w'.cell? ⟨0, 2, none⟩ = some (.int .i64 0) ∧ w'.cell? ⟨0, 3, none⟩ = some (.int .i64 0) ∧ w'.cell? ⟨0, 4, none⟩ = some (.int .i64 0))) (ds := []) #[false, false, false, false, false, false, false, false, false, false, false, false, false, false, false, false, false, false, false, false, false, false, false, false, false] (by kernel_rfl) rfl rfl (⟨blk_cellv ((HS.out.drew).at0) 0 rfl, blk_cellv ((HS.out.drew).at0) 1 rfl, blk_cellv ((HS.out.drew).at0) 2 rfl, blk_cellv ((HS.out.drew).at0) 3 rfl, blk_cellv ((HS.out.drew).at0) 4 rfl, blk_cellv ((HS.out.drew).at0) 5 rfl, blk_cellv ((HS.out.drew).at0) 6 rfl, Gl.cell HGl0.out (HS.out.drew).fr 0 rfl, Gl.cell HGl0.out (HS.out.drew).fr 1 rfl, Gl.cell HGl0.out (HS.out.drew).fr 2 rfl, Gl.cell HGl0.out (HS.out.drew).fr 3 rfl, Gl.cell HGl0.out (HS.out.drew).fr 4 rfl⟩) (fun hHeld => ?_)
                have HS_ := Aside0.mk HS.out.drew
                clear HS
                generalize World.drew _ = w2402 at HS_ hHeld ⊢
                have HS := HS_
                clear HS_
                refine take_ (i := 0) (N := some 28) (v := ?_) (a' := ?_) #[true, false, false, false, false, false, false, false, false, false, false, false, false, false, false, false, false, false, false, false, false, false, false, false, false] rfl rfl (by kernel_rfl) (fun _ _ _ h => h) (Or.inl ⟨by rfl, ?_⟩) hHeld ?_ ?_
                rotate_left
                · rintro w' hS'
                  obtain ⟨s0, s1, s2, s3, s4, s5, s6, s7, s8, s9, s10, s11⟩ := hS'
                  go_simp
                  with_reducible rfl
                rotate_left
                · simp only [Act.put, List.setIfInBounds_toArray, List.set_cons_zero, List.set_cons_succ, i64_w, i32_w]
                  rfl
                refine take_ (i := 2) (N := some 30) (v := ?_) (a' := ?_) #[true, false, true, false, false, false, false, false, false, false, false, false, false, false, false, false, false, false, false, false, false, false, false, false, false] rfl rfl (by kernel_rfl) (fun _ _ _ h => h) (Or.inl ⟨by rfl, ?_⟩) hHeld ?_ ?_
                rotate_left
                · rintro w' hS'
                  obtain ⟨s0, s1, s2, s3, s4, s5, s6, s7, s8, s9, s10, s11⟩ := hS'
                  go_simp
                  with_reducible rfl
                rotate_left
                · simp only [Act.put, List.setIfInBounds_toArray, List.set_cons_zero, List.set_cons_succ, i64_w, i32_w]
                  rfl
                refine one_ (i := 1) (N := some 29) #[true, true, true, false, false, false, false, false, false, false, false, false, false, false, false, false, false, false, false, false, false, false, false, false, false] rfl rfl (by kernel_rfl) (by decide) (fun K hK => ?_)
                obtain ⟨t2390, HA2403, H⟩ := bind_some H
                refine goes_ Tryz.func154 (by kernel_rfl) rfl #[.agg #[.int .i64 a2305, .int .i64 a2306, .int .i64 a2307, .int .i64 a2308, .int .i64 a2309, .int .i64 a2310, .int .i64 a2311]] (by rfl) rfl rfl (by (try simp only [List.map_toArray, List.map_cons, List.map_nil]); first | done | rfl) ?_
                refine (tag_marks.calls a2305 a2306 a2307 a2308 a2309 a2310 a2311 t2390 _ ⟨HGl0.out.pass (l := []) HS.out⟩ ⟨Sep.start _⟩ HA2403).mono ?_
                rintro e_ w2404 ⟨rfl, hS⟩
                replace HS : Aside0 (Sep (fps []) w [b16 g2312 a2305 a2306 a2307 a2308 a2309 a2310 a2311] w2404) := ⟨HS.out.call hS⟩
                clear hS
                refine ⟨_, rfl, ?_⟩
                refine hK.out _ _ (⟨blk_cellv (HS.out.at0) 0 rfl, blk_cellv (HS.out.at0) 1 rfl, blk_cellv (HS.out.at0) 2 rfl, blk_cellv (HS.out.at0) 3 rfl, blk_cellv (HS.out.at0) 4 rfl, blk_cellv (HS.out.at0) 5 rfl, blk_cellv (HS.out.at0) 6 rfl, Gl.cell HGl0.out HS.out.fr 0 rfl, Gl.cell HGl0.out HS.out.fr 1 rfl, Gl.cell HGl0.out HS.out.fr 2 rfl, Gl.cell HGl0.out HS.out.fr 3 rfl, Gl.cell HGl0.out HS.out.fr 4 rfl⟩) (fun hHeld => ?_)
                clear hK K
                refine norm_ (a' := ?_) ?_ ?_
                rotate_left
                · show Act.put _ (some 29) _ = _
                  simp only [Act.put, List.setIfInBounds_toArray, List.set_cons_zero, List.set_cons_succ, i64_w, i32_w]
                  rfl
                obtain ⟨b2394, HA2406, H⟩ := bind_some H
                have eb2405 : ∀ w, (Op.equalIn 10000 174 (.agg #[.int .i64 t2390.1, .int .i64 t2390.2.1, .int .i64 t2390.2.2.1, .int .i64 t2390.2.2.2.1, .int .i64 t2390.2.2.2.2]) (.agg #[.int .i64 0, .int .i64 0, .int .i64 0, .int .i64 0, .int .i64 0])).run Tryz.prog w = .ok b2394 w := some_eq HA2406 ▸ run_eq_ints 9998 174 3 5 .i64 [t2390.1, t2390.2.1, t2390.2.2.1, t2390.2.2.2.1, t2390.2.2.2.2] [0, 0, 0, 0, 0] Tryz.underlying174 (by kernel_rfl) (by kernel_rfl) Tryz.underlying3 (fun _ => by kernel_rfl) rfl rfl
                refine pure_ (i := 3) (N := some 31) (v := ?_) (a' := ?_) #[true, true, true, true, false, false, false, false, false, false, false, false, false, false, false, false, false, false, false, false, false, false, false, false, false] rfl rfl (by kernel_rfl) (fun _ _ _ h => h) (Or.inl ⟨by rfl, ?_⟩) ?_ ?_
                rotate_left
                · intro w'
                  go_simp
                  with_reducible rfl
                rotate_left
                · simp only [Act.put, List.setIfInBounds_toArray, List.set_cons_zero, List.set_cons_succ, i64_w, i32_w]
                  rfl
                refine pure_ (i := 4) (N := some 32) (v := ?_) (a' := ?_) #[true, true, true, true, true, false, false, false, false, false, false, false, false, false, false, false, false, false, false, false, false, false, false, false, false] rfl rfl (by kernel_rfl) (fun _ _ _ h => h) (Or.inl ⟨by rfl, ?_⟩) ?_ ?_
                rotate_left
                · intro w'
                  go_simp
                  with_reducible rfl
                rotate_left
                · simp only [Act.put, List.setIfInBounds_toArray, List.set_cons_zero, List.set_cons_succ, i64_w, i32_w]
                  rfl
                by_cases c2407 : b2394 = true
                · replace H := if_yes c2407 H
                  have c2407b0 : b2394 = true := c2407
                  have c2407b1 : (!b2394) = false := by rw [c2407b0]; rfl
                  clear c2407
                  try simp only [c2407b0, Bool.not_true, Bool.not_false]
                  refine pure_ (i := 5) (N := some 33) (v := ?_) (a' := ?_) #[true, true, true, true, true, true, false, false, false, false, false, false, false, false, false, false, false, false, false, false, false, false, false, false, false] rfl rfl (by kernel_rfl) (fun _ _ _ h => h) (Or.inl ⟨by rfl, ?_⟩) ?_ ?_
                  rotate_left
                  · intro w'
                    go_simp
                    with_reducible rfl
                  rotate_left
                  · simp only [Act.put, List.setIfInBounds_toArray, List.set_cons_zero, List.set_cons_succ, i64_w, i32_w]
                    rfl
                  try simp only [c2407b0, Bool.not_true, Bool.not_false]
                  refine take_ (i := 6) (N := some 34) (v := ?_) (a' := ?_) #[true, true, true, true, true, true, true, false, false, false, false, false, false, false, false, false, false, false, false, false, false, false, false, false, false] rfl rfl (by kernel_rfl) (fun _ _ _ h => h) (Or.inl ⟨by rfl, ?_⟩) hHeld ?_ ?_
                  rotate_left
                  · rintro w' hS'
                    obtain ⟨s0, s1, s2, s3, s4, s5, s6, s7, s8, s9, s10, s11⟩ := hS'
                    go_simp
                    with_reducible rfl
                  rotate_left
                  · simp only [Act.put, List.setIfInBounds_toArray, List.set_cons_zero, List.set_cons_succ, i64_w, i32_w]
                    rfl
                  try simp only [c2407b0, Bool.not_true, Bool.not_false]
                  refine pure_ (i := 7) (N := some 35) (v := ?_) (a' := ?_) #[true, true, true, true, true, true, true, true, false, false, false, false, false, false, false, false, false, false, false, false, false, false, false, false, false] rfl rfl (by kernel_rfl) (fun _ _ _ h => h) (Or.inl ⟨by rfl, ?_⟩) ?_ ?_
                  rotate_left
                  · intro w'
                    go_simp
                    with_reducible rfl
                  rotate_left
                  · simp only [Act.put, List.setIfInBounds_toArray, List.set_cons_zero, List.set_cons_succ, i64_w, i32_w]
                    rfl
                  refine pure_ (i := 8) (N := some 36) (v := ?_) (a' := ?_) #[true, true, true, true, true, true, true, true, true, false, false, false, false, false, false, false, false, false, false, false, false, false, false, false, false] rfl rfl (by kernel_rfl) (fun _ _ _ h => h) (Or.inl ⟨by rfl, ?_⟩) ?_ ?_
                  rotate_left
                  · intro w'
                    go_simp
                    with_reducible rfl
                  rotate_left
                  · simp only [Act.put, List.setIfInBounds_toArray, List.set_cons_zero, List.set_cons_succ, i64_w, i32_w]
                    rfl
                  refine pure_ (i := 9) (N := some 37) (v := ?_) (a' := ?_) #[true, true, true, true, true, true, true, true, true, true, false, false, false, false, false, false, false, false, false, false, false, false, false, false, false] rfl rfl (by kernel_rfl) (fun _ _ _ h => h) (Or.inl ⟨by rfl, ?_⟩) ?_ ?_
                  rotate_left
                  · intro w'
                    go_simp
                    with_reducible rfl
                  rotate_left
                  · simp only [Act.put, List.setIfInBounds_toArray, List.set_cons_zero, List.set_cons_succ, i64_w, i32_w]
                    rfl
                  by_cases c2408 : a2311 ≥ 0
                  · replace H := if_yes c2408 H
                    have c2408b0 : decide (0 ≤ a2311) = true := decide_eq_true c2408
                    clear c2408
                    try simp only [c2408b0, Bool.not_true, Bool.not_false]
                    refine pure_ (i := 10) (N := some 38) (v := ?_) (a' := ?_) #[true, true, true, true, true, true, true, true, true, true, true, false, false, false, false, false, false, false, false, false, false, false, false, false, false] rfl rfl (by kernel_rfl) (fun _ _ _ h => h) (Or.inl ⟨by rfl, ?_⟩) ?_ ?_
                    rotate_left
                    · intro w'
                      go_simp
                      with_reducible rfl
                    rotate_left
                    · simp only [Act.put, List.setIfInBounds_toArray, List.set_cons_zero, List.set_cons_succ, i64_w, i32_w]
                      rfl
                    try simp only [c2408b0, Bool.not_true, Bool.not_false]
                    refine take_ (i := 11) (N := some 39) (v := ?_) (a' := ?_) #[true, true, true, true, true, true, true, true, true, true, true, true, false, false, false, false, false, false, false, false, false, false, false, false, false] rfl rfl (by kernel_rfl) (fun _ _ _ h => h) (Or.inl ⟨by rfl, ?_⟩) hHeld ?_ ?_
                    rotate_left
                    · rintro w' hS'
                      obtain ⟨s0, s1, s2, s3, s4, s5, s6, s7, s8, s9, s10, s11⟩ := hS'
                      go_simp
                      with_reducible rfl
                    rotate_left
                    · simp only [Act.put, List.setIfInBounds_toArray, List.set_cons_zero, List.set_cons_succ, i64_w, i32_w]
                      rfl
                    try simp only [c2408b0, Bool.not_true, Bool.not_false]
                    refine pure_ (i := 12) (N := some 40) (v := ?_) (a' := ?_) #[true, true, true, true, true, true, true, true, true, true, true, true, true, false, false, false, false, false, false, false, false, false, false, false, false] rfl rfl (by kernel_rfl) (fun _ _ _ h => h) (Or.inl ⟨by rfl, ?_⟩) ?_ ?_
                    rotate_left
                    · intro w'
                      go_simp
                      with_reducible rfl
                    rotate_left
                    · simp only [Act.put, List.setIfInBounds_toArray, List.set_cons_zero, List.set_cons_succ, i64_w, i32_w]
                      rfl
                    refine pure_ (i := 13) (N := some 41) (v := ?_) (a' := ?_) #[true, true, true, true, true, true, true, true, true, true, true, true, true, true, false, false, false, false, false, false, false, false, false, false, false] rfl rfl (by kernel_rfl) (fun _ _ _ h => h) (Or.inl ⟨by rfl, ?_⟩) ?_ ?_
                    rotate_left
                    · intro w'
                      go_simp
                      with_reducible rfl
                    rotate_left
                    · simp only [Act.put, List.setIfInBounds_toArray, List.set_cons_zero, List.set_cons_succ, i64_w, i32_w]
                      rfl
                    refine pure_ (i := 14) (N := some 42) (v := ?_) (a' := ?_) #[true, true, true, true, true, true, true, true, true, true, true, true, true, true, true, false, false, false, false, false, false, false, false, false, false] rfl rfl (by kernel_rfl) (fun _ _ _ h => h) (Or.inl ⟨by rfl, ?_⟩) ?_ ?_
                    rotate_left
                    · intro w'
                      go_simp
                      with_reducible rfl
                    rotate_left
                    · simp only [Act.put, List.setIfInBounds_toArray, List.set_cons_zero, List.set_cons_succ, i64_w, i32_w]
                      rfl
                    by_cases c2409 : a2311 < 1048576
                    · replace H := if_yes c2409 H
                      have c2409b0 : decide (a2311 < 1048576) = true := decide_eq_true c2409
                      clear c2409
                      try simp only [c2409b0, Bool.not_true, Bool.not_false]
                      refine pure_ (i := 15) (N := some 43) (v := ?_) (a' := ?_) #[true, true, true, true, true, true, true, true, true, true, true, true, true, true, true, true, false, false, false, false, false, false, false, false, false] rfl rfl (by kernel_rfl) (fun _ _ _ h => h) (Or.inl ⟨by rfl, ?_⟩) ?_ ?_
                      rotate_left
                      · intro w'
                        go_simp
                        with_reducible rfl
                      rotate_left
                      · simp only [Act.put, List.setIfInBounds_toArray, List.set_cons_zero, List.set_cons_succ, i64_w, i32_w]
                        rfl
                      try simp only [c2409b0, Bool.not_true, Bool.not_false]
                      refine take_ (i := 16) (N := some 44) (v := ?_) (a' := ?_) #[true, true, true, true, true, true, true, true, true, true, true, true, true, true, true, true, true, false, false, false, false, false, false, false, false] rfl rfl (by kernel_rfl) (fun _ _ _ h => h) (Or.inl ⟨by rfl, ?_⟩) hHeld ?_ ?_
                      rotate_left
                      · rintro w' hS'
                        obtain ⟨s0, s1, s2, s3, s4, s5, s6, s7, s8, s9, s10, s11⟩ := hS'
                        go_simp
                        with_reducible rfl
                      rotate_left
                      · simp only [Act.put, List.setIfInBounds_toArray, List.set_cons_zero, List.set_cons_succ, i64_w, i32_w]
                        rfl
                      try simp only [c2409b0, Bool.not_true, Bool.not_false]
                      refine pure_ (i := 17) (N := some 45) (v := ?_) (a' := ?_) #[true, true, true, true, true, true, true, true, true, true, true, true, true, true, true, true, true, true, false, false, false, false, false, false, false] rfl rfl (by kernel_rfl) (fun _ _ _ h => h) (Or.inl ⟨by rfl, ?_⟩) ?_ ?_
                      rotate_left
                      · intro w'
                        go_simp
                        with_reducible rfl
                      rotate_left
                      · simp only [Act.put, List.setIfInBounds_toArray, List.set_cons_zero, List.set_cons_succ, i64_w, i32_w]
                        rfl
                      try simp only [c2409b0, Bool.not_true, Bool.not_false]
                      refine pure_ (i := 18) (N := some 46) (v := ?_) (a' := ?_) #[true, true, true, true, true, true, true, true, true, true, true, true, true, true, true, true, true, true, true, false, false, false, false, false, false] rfl rfl (by kernel_rfl) (fun _ _ _ h => h) (Or.inl ⟨by rfl, ?_⟩) ?_ ?_
                      rotate_left
                      · intro w'
                        go_simp
                        with_reducible rfl
                      rotate_left
                      · simp only [Act.put, List.setIfInBounds_toArray, List.set_cons_zero, List.set_cons_succ, i64_w, i32_w]
                        rfl
                      try simp only [c2400b0, Bool.not_true, Bool.not_false]
                      refine pure_ (i := 19) (N := some 47) (v := undef) (a' := ?_) #[true, true, true, true, true, true, true, true, true, true, true, true, true, true, true, true, true, true, true, true, false, false, false, false, false] rfl rfl (by kernel_rfl) (fun _ _ _ h => h) (Or.inr ⟨by rfl, rfl⟩) ?_ ?_
                      rotate_left
                      · simp only [Act.put, List.setIfInBounds_toArray, List.set_cons_zero, List.set_cons_succ, i64_w, i32_w]
                        rfl
                      try simp only [c2400b0, Bool.not_true, Bool.not_false]
                      refine pure_ (i := 20) (N := some 48) (v := undef) (a' := ?_) #[true, true, true, true, true, true, true, true, true, true, true, true, true, true, true, true, true, true, true, true, true, false, false, false, false] rfl rfl (by kernel_rfl) (fun _ _ _ h => h) (Or.inr ⟨by rfl, rfl⟩) ?_ ?_
                      rotate_left
                      · simp only [Act.put, List.setIfInBounds_toArray, List.set_cons_zero, List.set_cons_succ, i64_w, i32_w]
                        rfl
                      try simp only [c2400b0, Bool.not_true, Bool.not_false]
                      refine pure_ (i := 21) (N := some 49) (v := undef) (a' := ?_) #[true, true, true, true, true, true, true, true, true, true, true, true, true, true, true, true, true, true, true, true, true, true, false, false, false] rfl rfl (by kernel_rfl) (fun _ _ _ h => h) (Or.inr ⟨by rfl, rfl⟩) ?_ ?_
                      rotate_left
                      · simp only [Act.put, List.setIfInBounds_toArray, List.set_cons_zero, List.set_cons_succ, i64_w, i32_w]
                        rfl
                      try simp only [c2409b0, Bool.not_true, Bool.not_false]
                      refine pure_ (i := 22) (N := some 50) (v := ?_) (a' := ?_) #[true, true, true, true, true, true, true, true, true, true, true, true, true, true, true, true, true, true, true, true, true, true, true, false, false] rfl rfl (by kernel_rfl) (fun _ _ _ h => h) (Or.inl ⟨by rfl, ?_⟩) ?_ ?_
                      rotate_left
                      · intro w'
                        go_simp
                        with_reducible rfl
                      rotate_left
                      · simp only [Act.put, List.setIfInBounds_toArray, List.set_cons_zero, List.set_cons_succ, i64_w, i32_w]
                        rfl
                      refine pure_ (i := 23) (N := some 51) (v := ?_) (a' := ?_) #[true, true, true, true, true, true, true, true, true, true, true, true, true, true, true, true, true, true, true, true, true, true, true, true, false] rfl rfl (by kernel_rfl) (fun _ _ _ h => h) (Or.inl ⟨by rfl, ?_⟩) ?_ ?_
                      rotate_left
                      · intro w'
                        go_simp
                        with_reducible rfl
                      rotate_left
                      · simp only [Act.put, List.setIfInBounds_toArray, List.set_cons_zero, List.set_cons_succ, i64_w, i32_w]
                        rfl
                      refine pure_ (i := 24) (N := some 2) (v := ?_) (a' := ?_) #[true, true, true, true, true, true, true, true, true, true, true, true, true, true, true, true, true, true, true, true, true, true, true, true, true] rfl rfl (by kernel_rfl) (fun _ _ _ h => h) (Or.inl ⟨by rfl, ?_⟩) ?_ ?_
                      rotate_left
                      · intro w'
                        go_simp
                        with_reducible rfl
                      rotate_left
                      · simp only [Act.put, List.setIfInBounds_toArray, List.set_cons_zero, List.set_cons_succ, i64_w, i32_w]
                        rfl
                      refine done_ (by kernel_rfl) ?_
                      replace HS : Aside0 (Sep (fps []) w [] w2404) := ⟨HS.out.sub (.cons _ .slnil)⟩
                      go_wp2_with fail
                      go_ret
                      rw [← some_eq H]
                      exact ⟨(by first | rfl | (simp [IntKind.wrap_u32]; done)), HS.out⟩
                    · replace H := if_no c2409 H
                      have c2409b0 : decide (a2311 < 1048576) = false := decide_eq_false c2409
                      clear c2409
                      try simp only [c2409b0, Bool.not_true, Bool.not_false]
                      refine pure_ (i := 15) (N := some 43) (v := undef) (a' := ?_) #[true, true, true, true, true, true, true, true, true, true, true, true, true, true, true, true, false, false, false, false, false, false, false, false, false] rfl rfl (by kernel_rfl) (fun _ _ _ h => h) (Or.inr ⟨by rfl, rfl⟩) ?_ ?_
                      rotate_left
                      · simp only [Act.put, List.setIfInBounds_toArray, List.set_cons_zero, List.set_cons_succ, i64_w, i32_w]
                        rfl
                      try simp only [c2409b0, Bool.not_true, Bool.not_false]
                      refine pure_ (i := 16) (N := some 44) (v := undef) (a' := ?_) #[true, true, true, true, true, true, true, true, true, true, true, true, true, true, true, true, true, false, false, false, false, false, false, false, false] rfl rfl (by kernel_rfl) (fun _ _ _ h => h) (Or.inr ⟨by rfl, rfl⟩) ?_ ?_
                      rotate_left
                      · simp only [Act.put, List.setIfInBounds_toArray, List.set_cons_zero, List.set_cons_succ, i64_w, i32_w]
                        rfl
                      try simp only [c2409b0, Bool.not_true, Bool.not_false]
                      refine pure_ (i := 17) (N := some 45) (v := undef) (a' := ?_) #[true, true, true, true, true, true, true, true, true, true, true, true, true, true, true, true, true, true, false, false, false, false, false, false, false] rfl rfl (by kernel_rfl) (fun _ _ _ h => h) (Or.inr ⟨by rfl, rfl⟩) ?_ ?_
                      rotate_left
                      · simp only [Act.put, List.setIfInBounds_toArray, List.set_cons_zero, List.set_cons_succ, i64_w, i32_w]
                        rfl
                      try simp only [c2409b0, Bool.not_true, Bool.not_false]
                      refine pure_ (i := 18) (N := some 46) (v := undef) (a' := ?_) #[true, true, true, true, true, true, true, true, true, true, true, true, true, true, true, true, true, true, true, false, false, false, false, false, false] rfl rfl (by kernel_rfl) (fun _ _ _ h => h) (Or.inr ⟨by rfl, rfl⟩) ?_ ?_
                      rotate_left
                      · simp only [Act.put, List.setIfInBounds_toArray, List.set_cons_zero, List.set_cons_succ, i64_w, i32_w]
                        rfl
                      refine pure_ (i := 19) (N := some 47) (v := undef) (a' := ?_) #[true, true, true, true, true, true, true, true, true, true, true, true, true, true, true, true, true, true, true, true, false, false, false, false, false] rfl rfl (by kernel_rfl) (fun _ _ _ h => h) (Or.inr ⟨by rfl, rfl⟩) ?_ ?_
                      rotate_left
                      · simp only [Act.put, List.setIfInBounds_toArray, List.set_cons_zero, List.set_cons_succ, i64_w, i32_w]
                        rfl
                      refine pure_ (i := 20) (N := some 48) (v := undef) (a' := ?_) #[true, true, true, true, true, true, true, true, true, true, true, true, true, true, true, true, true, true, true, true, true, false, false, false, false] rfl rfl (by kernel_rfl) (fun _ _ _ h => h) (Or.inr ⟨by rfl, rfl⟩) ?_ ?_
                      rotate_left
                      · simp only [Act.put, List.setIfInBounds_toArray, List.set_cons_zero, List.set_cons_succ, i64_w, i32_w]
                        rfl
                      refine pure_ (i := 21) (N := some 49) (v := undef) (a' := ?_) #[true, true, true, true, true, true, true, true, true, true, true, true, true, true, true, true, true, true, true, true, true, true, false, false, false] rfl rfl (by kernel_rfl) (fun _ _ _ h => h) (Or.inr ⟨by rfl, rfl⟩) ?_ ?_
                      rotate_left
                      · simp only [Act.put, List.setIfInBounds_toArray, List.set_cons_zero, List.set_cons_succ, i64_w, i32_w]
                        rfl
                      try simp only [c2409b0, Bool.not_true, Bool.not_false]
                      refine pure_ (i := 22) (N := some 50) (v := undef) (a' := ?_) #[true, true, true, true, true, true, true, true, true, true, true, true, true, true, true, true, true, true, true, true, true, true, true, false, false] rfl rfl (by kernel_rfl) (fun _ _ _ h => h) (Or.inr ⟨by rfl, rfl⟩) ?_ ?_
                      rotate_left
                      · simp only [Act.put, List.setIfInBounds_toArray, List.set_cons_zero, List.set_cons_succ, i64_w, i32_w]
                        rfl
                      refine pure_ (i := 23) (N := some 51) (v := ?_) (a' := ?_) #[true, true, true, true, true, true, true, true, true, true, true, true, true, true, true, true, true, true, true, true, true, true, true, true, false] rfl rfl (by kernel_rfl) (fun _ _ _ h => h) (Or.inl ⟨by rfl, ?_⟩) ?_ ?_
                      rotate_left
                      · intro w'
                        go_simp
                        with_reducible rfl
                      rotate_left
                      · simp only [Act.put, List.setIfInBounds_toArray, List.set_cons_zero, List.set_cons_succ, i64_w, i32_w]
                        rfl
                      refine pure_ (i := 24) (N := some 2) (v := ?_) (a' := ?_) #[true, true, true, true, true, true, true, true, true, true, true, true, true, true, true, true, true, true, true, true, true, true, true, true, true] rfl rfl (by kernel_rfl) (fun _ _ _ h => h) (Or.inl ⟨by rfl, ?_⟩) ?_ ?_
                      rotate_left
                      · intro w'
                        go_simp
                        with_reducible rfl
                      rotate_left
                      · simp only [Act.put, List.setIfInBounds_toArray, List.set_cons_zero, List.set_cons_succ, i64_w, i32_w]
                        rfl
                      refine done_ (by kernel_rfl) ?_
                      replace HS : Aside0 (Sep (fps []) w [] w2404) := ⟨HS.out.sub (.cons _ .slnil)⟩
                      go_wp2_with fail
                      go_ret
                      rw [← some_eq H]
                      exact ⟨(by first | rfl | (simp [IntKind.wrap_u32]; done)), HS.out⟩
                  · replace H := if_no c2408 H
                    have c2408b0 : decide (0 ≤ a2311) = false := decide_eq_false c2408
                    clear c2408
                    try simp only [c2408b0, Bool.not_true, Bool.not_false]
                    refine pure_ (i := 10) (N := some 38) (v := undef) (a' := ?_) #[true, true, true, true, true, true, true, true, true, true, true, false, false, false, false, false, false, false, false, false, false, false, false, false, false] rfl rfl (by kernel_rfl) (fun _ _ _ h => h) (Or.inr ⟨by rfl, rfl⟩) ?_ ?_
                    rotate_left
                    · simp only [Act.put, List.setIfInBounds_toArray, List.set_cons_zero, List.set_cons_succ, i64_w, i32_w]
                      rfl
                    try simp only [c2408b0, Bool.not_true, Bool.not_false]
                    refine pure_ (i := 11) (N := some 39) (v := undef) (a' := ?_) #[true, true, true, true, true, true, true, true, true, true, true, true, false, false, false, false, false, false, false, false, false, false, false, false, false] rfl rfl (by kernel_rfl) (fun _ _ _ h => h) (Or.inr ⟨by rfl, rfl⟩) ?_ ?_
                    rotate_left
                    · simp only [Act.put, List.setIfInBounds_toArray, List.set_cons_zero, List.set_cons_succ, i64_w, i32_w]
                      rfl
                    try simp only [c2408b0, Bool.not_true, Bool.not_false]
                    refine pure_ (i := 12) (N := some 40) (v := undef) (a' := ?_) #[true, true, true, true, true, true, true, true, true, true, true, true, true, false, false, false, false, false, false, false, false, false, false, false, false] rfl rfl (by kernel_rfl) (fun _ _ _ h => h) (Or.inr ⟨by rfl, rfl⟩) ?_ ?_
                    rotate_left
                    · simp only [Act.put, List.setIfInBounds_toArray, List.set_cons_zero, List.set_cons_succ, i64_w, i32_w]
                      rfl
                    refine pure_ (i := 13) (N := some 41) (v := ?_) (a' := ?_) #[true, true, true, true, true, true, true, true, true, true, true, true, true, true, false, false, false, false, false, false, false, false, false, false, false] rfl rfl (by kernel_rfl) (fun _ _ _ h => h) (Or.inl ⟨by rfl, ?_⟩) ?_ ?_
                    rotate_left
                    · intro w'
                      go_simp
                      with_reducible rfl
                    rotate_left
                    · simp only [Act.put, List.setIfInBounds_toArray, List.set_cons_zero, List.set_cons_succ, i64_w, i32_w]
                      rfl
                    refine pure_ (i := 14) (N := some 42) (v := ?_) (a' := ?_) #[true, true, true, true, true, true, true, true, true, true, true, true, true, true, true, false, false, false, false, false, false, false, false, false, false] rfl rfl (by kernel_rfl) (fun _ _ _ h => h) (Or.inl ⟨by rfl, ?_⟩) ?_ ?_
                    rotate_left
                    · intro w'
                      go_simp
                      with_reducible rfl
                    rotate_left
                    · simp only [Act.put, List.setIfInBounds_toArray, List.set_cons_zero, List.set_cons_succ, i64_w, i32_w]
                      rfl
                    refine pure_ (i := 15) (N := some 43) (v := undef) (a' := ?_) #[true, true, true, true, true, true, true, true, true, true, true, true, true, true, true, true, false, false, false, false, false, false, false, false, false] rfl rfl (by kernel_rfl) (fun _ _ _ h => h) (Or.inr ⟨by rfl, rfl⟩) ?_ ?_
                    rotate_left
                    · simp only [Act.put, List.setIfInBounds_toArray, List.set_cons_zero, List.set_cons_succ, i64_w, i32_w]
                      rfl
                    refine pure_ (i := 16) (N := some 44) (v := undef) (a' := ?_) #[true, true, true, true, true, true, true, true, true, true, true, true, true, true, true, true, true, false, false, false, false, false, false, false, false] rfl rfl (by kernel_rfl) (fun _ _ _ h => h) (Or.inr ⟨by rfl, rfl⟩) ?_ ?_
                    rotate_left
                    · simp only [Act.put, List.setIfInBounds_toArray, List.set_cons_zero, List.set_cons_succ, i64_w, i32_w]
                      rfl
                    refine pure_ (i := 17) (N := some 45) (v := undef) (a' := ?_) #[true, true, true, true, true, true, true, true, true, true, true, true, true, true, true, true, true, true, false, false, false, false, false, false, false] rfl rfl (by kernel_rfl) (fun _ _ _ h => h) (Or.inr ⟨by rfl, rfl⟩) ?_ ?_
                    rotate_left
                    · simp only [Act.put, List.setIfInBounds_toArray, List.set_cons_zero, List.set_cons_succ, i64_w, i32_w]
                      rfl
                    refine pure_ (i := 18) (N := some 46) (v := undef) (a' := ?_) #[true, true, true, true, true, true, true, true, true, true, true, true, true, true, true, true, true, true, true, false, false, false, false, false, false] rfl rfl (by kernel_rfl) (fun _ _ _ h => h) (Or.inr ⟨by rfl, rfl⟩) ?_ ?_
                    rotate_left
                    · simp only [Act.put, List.setIfInBounds_toArray, List.set_cons_zero, List.set_cons_succ, i64_w, i32_w]
                      rfl
                    refine pure_ (i := 19) (N := some 47) (v := undef) (a' := ?_) #[true, true, true, true, true, true, true, true, true, true, true, true, true, true, true, true, true, true, true, true, false, false, false, false, false] rfl rfl (by kernel_rfl) (fun _ _ _ h => h) (Or.inr ⟨by rfl, rfl⟩) ?_ ?_
                    rotate_left
                    · simp only [Act.put, List.setIfInBounds_toArray, List.set_cons_zero, List.set_cons_succ, i64_w, i32_w]
                      rfl
                    refine pure_ (i := 20) (N := some 48) (v := undef) (a' := ?_) #[true, true, true, true, true, true, true, true, true, true, true, true, true, true, true, true, true, true, true, true, true, false, false, false, false] rfl rfl (by kernel_rfl) (fun _ _ _ h => h) (Or.inr ⟨by rfl, rfl⟩) ?_ ?_
                    rotate_left
                    · simp only [Act.put, List.setIfInBounds_toArray, List.set_cons_zero, List.set_cons_succ, i64_w, i32_w]
                      rfl
                    refine pure_ (i := 21) (N := some 49) (v := undef) (a' := ?_) #[true, true, true, true, true, true, true, true, true, true, true, true, true, true, true, true, true, true, true, true, true, true, false, false, false] rfl rfl (by kernel_rfl) (fun _ _ _ h => h) (Or.inr ⟨by rfl, rfl⟩) ?_ ?_
                    rotate_left
                    · simp only [Act.put, List.setIfInBounds_toArray, List.set_cons_zero, List.set_cons_succ, i64_w, i32_w]
                      rfl
                    refine pure_ (i := 22) (N := some 50) (v := undef) (a' := ?_) #[true, true, true, true, true, true, true, true, true, true, true, true, true, true, true, true, true, true, true, true, true, true, true, false, false] rfl rfl (by kernel_rfl) (fun _ _ _ h => h) (Or.inr ⟨by rfl, rfl⟩) ?_ ?_
                    rotate_left
                    · simp only [Act.put, List.setIfInBounds_toArray, List.set_cons_zero, List.set_cons_succ, i64_w, i32_w]
                      rfl
                    refine pure_ (i := 23) (N := some 51) (v := ?_) (a' := ?_) #[true, true, true, true, true, true, true, true, true, true, true, true, true, true, true, true, true, true, true, true, true, true, true, true, false] rfl rfl (by kernel_rfl) (fun _ _ _ h => h) (Or.inl ⟨by rfl, ?_⟩) ?_ ?_
                    rotate_left
                    · intro w'
                      go_simp
                      with_reducible rfl
                    rotate_left
                    · simp only [Act.put, List.setIfInBounds_toArray, List.set_cons_zero, List.set_cons_succ, i64_w, i32_w]
                      rfl
                    refine pure_ (i := 24) (N := some 2) (v := ?_) (a' := ?_) #[true, true, true, true, true, true, true, true, true, true, true, true, true, true, true, true, true, true, true, true, true, true, true, true, true] rfl rfl (by kernel_rfl) (fun _ _ _ h => h) (Or.inl ⟨by rfl, ?_⟩) ?_ ?_
                    rotate_left
                    · intro w'
                      go_simp
                      with_reducible rfl
                    rotate_left
                    · simp only [Act.put, List.setIfInBounds_toArray, List.set_cons_zero, List.set_cons_succ, i64_w, i32_w]
                      rfl
                    refine done_ (by kernel_rfl) ?_
                    replace HS : Aside0 (Sep (fps []) w [] w2404) := ⟨HS.out.sub (.cons _ .slnil)⟩
                    go_wp2_with fail
                    go_ret
                    rw [← some_eq H]
                    exact ⟨(by first | rfl | (simp [IntKind.wrap_u32]; done)), HS.out⟩
                · replace H := if_no c2407 H
                  have c2407b0 : b2394 = false := by simpa using c2407
                  have c2407b1 : (!b2394) = true := by rw [c2407b0]; rfl
                  clear c2407
                  try simp only [c2407b0, Bool.not_true, Bool.not_false]
                  refine pure_ (i := 5) (N := some 33) (v := undef) (a' := ?_) #[true, true, true, true, true, true, false, false, false, false, false, false, false, false, false, false, false, false, false, false, false, false, false, false, false] rfl rfl (by kernel_rfl) (fun _ _ _ h => h) (Or.inr ⟨by rfl, rfl⟩) ?_ ?_
                  rotate_left
                  · simp only [Act.put, List.setIfInBounds_toArray, List.set_cons_zero, List.set_cons_succ, i64_w, i32_w]
                    rfl
                  try simp only [c2407b0, Bool.not_true, Bool.not_false]
                  refine pure_ (i := 6) (N := some 34) (v := undef) (a' := ?_) #[true, true, true, true, true, true, true, false, false, false, false, false, false, false, false, false, false, false, false, false, false, false, false, false, false] rfl rfl (by kernel_rfl) (fun _ _ _ h => h) (Or.inr ⟨by rfl, rfl⟩) ?_ ?_
                  rotate_left
                  · simp only [Act.put, List.setIfInBounds_toArray, List.set_cons_zero, List.set_cons_succ, i64_w, i32_w]
                    rfl
                  try simp only [c2407b0, Bool.not_true, Bool.not_false]
                  refine pure_ (i := 7) (N := some 35) (v := undef) (a' := ?_) #[true, true, true, true, true, true, true, true, false, false, false, false, false, false, false, false, false, false, false, false, false, false, false, false, false] rfl rfl (by kernel_rfl) (fun _ _ _ h => h) (Or.inr ⟨by rfl, rfl⟩) ?_ ?_
                  rotate_left
                  · simp only [Act.put, List.setIfInBounds_toArray, List.set_cons_zero, List.set_cons_succ, i64_w, i32_w]
                    rfl
                  refine pure_ (i := 8) (N := some 36) (v := ?_) (a' := ?_) #[true, true, true, true, true, true, true, true, true, false, false, false, false, false, false, false, false, false, false, false, false, false, false, false, false] rfl rfl (by kernel_rfl) (fun _ _ _ h => h) (Or.inl ⟨by rfl, ?_⟩) ?_ ?_
                  rotate_left
                  · intro w'
                    go_simp
                    with_reducible rfl
                  rotate_left
                  · simp only [Act.put, List.setIfInBounds_toArray, List.set_cons_zero, List.set_cons_succ, i64_w, i32_w]
                    rfl
                  refine pure_ (i := 9) (N := some 37) (v := ?_) (a' := ?_) #[true, true, true, true, true, true, true, true, true, true, false, false, false, false, false, false, false, false, false, false, false, false, false, false, false] rfl rfl (by kernel_rfl) (fun _ _ _ h => h) (Or.inl ⟨by rfl, ?_⟩) ?_ ?_
                  rotate_left
                  · intro w'
                    go_simp
                    with_reducible rfl
                  rotate_left
                  · simp only [Act.put, List.setIfInBounds_toArray, List.set_cons_zero, List.set_cons_succ, i64_w, i32_w]
                    rfl
                  refine pure_ (i := 10) (N := some 38) (v := undef) (a' := ?_) #[true, true, true, true, true, true, true, true, true, true, true, false, false, false, false, false, false, false, false, false, false, false, false, false, false] rfl rfl (by kernel_rfl) (fun _ _ _ h => h) (Or.inr ⟨by rfl, rfl⟩) ?_ ?_
                  rotate_left
                  · simp only [Act.put, List.setIfInBounds_toArray, List.set_cons_zero, List.set_cons_succ, i64_w, i32_w]
                    rfl
                  refine pure_ (i := 11) (N := some 39) (v := undef) (a' := ?_) #[true, true, true, true, true, true, true, true, true, true, true, true, false, false, false, false, false, false, false, false, false, false, false, false, false] rfl rfl (by kernel_rfl) (fun _ _ _ h => h) (Or.inr ⟨by rfl, rfl⟩) ?_ ?_
                  rotate_left
                  · simp only [Act.put, List.setIfInBounds_toArray, List.set_cons_zero, List.set_cons_succ, i64_w, i32_w]
                    rfl
                  refine pure_ (i := 12) (N := some 40) (v := undef) (a' := ?_) #[true, true, true, true, true, true, true, true, true, true, true, true, true, false, false, false, false, false, false, false, false, false, false, false, false] rfl rfl (by kernel_rfl) (fun _ _ _ h => h) (Or.inr ⟨by rfl, rfl⟩) ?_ ?_
                  rotate_left
                  · simp only [Act.put, List.setIfInBounds_toArray, List.set_cons_zero, List.set_cons_succ, i64_w, i32_w]
                    rfl
                  refine pure_ (i := 13) (N := some 41) (v := ?_) (a' := ?_) #[true, true, true, true, true, true, true, true, true, true, true, true, true, true, false, false, false, false, false, false, false, false, false, false, false] rfl rfl (by kernel_rfl) (fun _ _ _ h => h) (Or.inl ⟨by rfl, ?_⟩) ?_ ?_
                  rotate_left
                  · intro w'
                    go_simp
                    with_reducible rfl
                  rotate_left
                  · simp only [Act.put, List.setIfInBounds_toArray, List.set_cons_zero, List.set_cons_succ, i64_w, i32_w]
                    rfl
                  refine pure_ (i := 14) (N := some 42) (v := ?_) (a' := ?_) #[true, true, true, true, true, true, true, true, true, true, true, true, true, true, true, false, false, false, false, false, false, false, false, false, false] rfl rfl (by kernel_rfl) (fun _ _ _ h => h) (Or.inl ⟨by rfl, ?_⟩) ?_ ?_
                  rotate_left
                  · intro w'
                    go_simp
                    with_reducible rfl
                  rotate_left
                  · simp only [Act.put, List.setIfInBounds_toArray, List.set_cons_zero, List.set_cons_succ, i64_w, i32_w]
                    rfl
                  refine pure_ (i := 15) (N := some 43) (v := undef) (a' := ?_) #[true, true, true, true, true, true, true, true, true, true, true, true, true, true, true, true, false, false, false, false, false, false, false, false, false] rfl rfl (by kernel_rfl) (fun _ _ _ h => h) (Or.inr ⟨by rfl, rfl⟩) ?_ ?_
                  rotate_left
                  · simp only [Act.put, List.setIfInBounds_toArray, List.set_cons_zero, List.set_cons_succ, i64_w, i32_w]
                    rfl
                  refine pure_ (i := 16) (N := some 44) (v := undef) (a' := ?_) #[true, true, true, true, true, true, true, true, true, true, true, true, true, true, true, true, true, false, false, false, false, false, false, false, false] rfl rfl (by kernel_rfl) (fun _ _ _ h => h) (Or.inr ⟨by rfl, rfl⟩) ?_ ?_
                  rotate_left
                  · simp only [Act.put, List.setIfInBounds_toArray, List.set_cons_zero, List.set_cons_succ, i64_w, i32_w]
                    rfl
                  refine pure_ (i := 17) (N := some 45) (v := undef) (a' := ?_) #[true, true, true, true, true, true, true, true, true, true, true, true, true, true, true, true, true, true, false, false, false, false, false, false, false] rfl rfl (by kernel_rfl) (fun _ _ _ h => h) (Or.inr ⟨by rfl, rfl⟩) ?_ ?_
                  rotate_left
                  · simp only [Act.put, List.setIfInBounds_toArray, List.set_cons_zero, List.set_cons_succ, i64_w, i32_w]
                    rfl
                  refine pure_ (i := 18) (N := some 46) (v := undef) (a' := ?_) #[true, true, true, true, true, true, true, true, true, true, true, true, true, true, true, true, true, true, true, false, false, false, false, false, false] rfl rfl (by kernel_rfl) (fun _ _ _ h => h) (Or.inr ⟨by rfl, rfl⟩) ?_ ?_
                  rotate_left
                  · simp only [Act.put, List.setIfInBounds_toArray, List.set_cons_zero, List.set_cons_succ, i64_w, i32_w]
                    rfl
                  refine pure_ (i := 19) (N := some 47) (v := undef) (a' := ?_) #[true, true, true, true, true, true, true, true, true, true, true, true, true, true, true, true, true, true, true, true, false, false, false, false, false] rfl rfl (by kernel_rfl) (fun _ _ _ h => h) (Or.inr ⟨by rfl, rfl⟩) ?_ ?_
                  rotate_left
                  · simp only [Act.put, List.setIfInBounds_toArray, List.set_cons_zero, List.set_cons_succ, i64_w, i32_w]
                    rfl
                  refine pure_ (i := 20) (N := some 48) (v := undef) (a' := ?_) #[true, true, true, true, true, true, true, true, true, true, true, true, true, true, true, true, true, true, true, true, true, false, false, false, false] rfl rfl (by kernel_rfl) (fun _ _ _ h => h) (Or.inr ⟨by rfl, rfl⟩) ?_ ?_
                  rotate_left
                  · simp only [Act.put, List.setIfInBounds_toArray, List.set_cons_zero, List.set_cons_succ, i64_w, i32_w]
                    rfl
                  refine pure_ (i := 21) (N := some 49) (v := undef) (a' := ?_) #[true, true, true, true, true, true, true, true, true, true, true, true, true, true, true, true, true, true, true, true, true, true, false, false, false] rfl rfl (by kernel_rfl) (fun _ _ _ h => h) (Or.inr ⟨by rfl, rfl⟩) ?_ ?_
                  rotate_left
                  · simp only [Act.put, List.setIfInBounds_toArray, List.set_cons_zero, List.set_cons_succ, i64_w, i32_w]
                    rfl
                  refine pure_ (i := 22) (N := some 50) (v := undef) (a' := ?_) #[true, true, true, true, true, true, true, true, true, true, true, true, true, true, true, true, true, true, true, true, true, true, true, false, false] rfl rfl (by kernel_rfl) (fun _ _ _ h => h) (Or.inr ⟨by rfl, rfl⟩) ?_ ?_
                  rotate_left
                  · simp only [Act.put, List.setIfInBounds_toArray, List.set_cons_zero, List.set_cons_succ, i64_w, i32_w]
                    rfl
                  refine pure_ (i := 23) (N := some 51) (v := ?_) (a' := ?_) #[true, true, true, true, true, true, true, true, true, true, true, true, true, true, true, true, true, true, true, true, true, true, true, true, false] rfl rfl (by kernel_rfl) (fun _ _ _ h => h) (Or.inl ⟨by rfl, ?_⟩) ?_ ?_
                  rotate_left
                  · intro w'
                    go_simp
                    with_reducible rfl
                  rotate_left
                  · simp only [Act.put, List.setIfInBounds_toArray, List.set_cons_zero, List.set_cons_succ, i64_w, i32_w]
                    rfl
                  refine pure_ (i := 24) (N := some 2) (v := ?_) (a' := ?_) #[true, true, true, true, true, true, true, true, true, true, true, true, true, true, true, true, true, true, true, true, true, true, true, true, true] rfl rfl (by kernel_rfl) (fun _ _ _ h => h) (Or.inl ⟨by rfl, ?_⟩) ?_ ?_
                  rotate_left
                  · intro w'
                    go_simp
                    with_reducible rfl
                  rotate_left
                  · simp only [Act.put, List.setIfInBounds_toArray, List.set_cons_zero, List.set_cons_succ, i64_w, i32_w]
                    rfl
                  refine done_ (by kernel_rfl) ?_
                  replace HS : Aside0 (Sep (fps []) w [] w2404) := ⟨HS.out.sub (.cons _ .slnil)⟩
                  go_wp2_with fail
                  go_ret
                  rw [← some_eq H]
                  exact ⟨(by first | rfl | (simp [IntKind.wrap_u32]; done)), HS.out⟩
              · replace H := if_no c2400 H
                have c2400b0 : (a2305 == 3) = false := beq_eq_false_iff_ne.mpr c2400
                have c2400b1 : (a2305 != 3) = true := bne_iff_ne.mpr c2400
                clear c2400
                have hc2382 : w2373.cell? ⟨g2312, 0, none⟩ = some (.int .i64 a2305) := blk_cellv (HS.out.at0) 0 rfl
                replace HS : Aside0 (Sep (fps []) w [] w2373) := ⟨HS.out.sub (.cons _ .slnil)⟩
                go_wp2_with fail
                clear hc2382
                go_ret
                rw [← some_eq H]
                exact ⟨(by first | rfl | (simp [IntKind.wrap_u32]; done)), HS.out⟩

set_option maxHeartbeats 30000000 in
set_option maxRecDepth 100000 in
theorem pack_total.calls (k : Nat) (l2503 : List Int) (A2504 : Option Addr) (n2505 : Nat) (r : Int) (w : World) (HR2506 : Aside0 (Rd (Kd.int .i64) (fps []) w A2504 l2503.length l2503)) (HGl0 : Aside0 (Gl 0 #[.int .i64 0, .int .i64 0, .int .i64 0, .int .i64 0, .int .i64 0] (fps []) w)) (HS : Aside0 (Sep (fps []) w [] w)) (H : Aside0 (pack_total.f k l2503 = some r)) :
    Calls Tryz.prog 184 #[.slice A2504 l2503.length n2505] w fun e w' => e = .returned (.int .i64 r) ∧ Sep (fps []) w [] w' := by
  unfold pack_total.f at H
  go_enter Tryz.func184, Tryz.ntmps184
  go_wp2_with fail
  obtain ⟨o2519, AL2520, H⟩ := bind_some H
  go_loopg [3, 8] k (fun kq v3 v8 wc => ∃ (x2523 : Int) (x2524 : Int), v3 = .int .i64 x2523 ∧ v8 = .int .i64 x2524 ∧ Aside0 (pack_total.lo0 kq l2503 x2523 x2524 = some o2519) ∧ Aside0 (Sep (fps []) w [] wc))
  case atStart => exact ⟨(0), (0), (by first | rfl | (simp [IntKind.wrap_u32]; done)), (by first | rfl | (simp [IntKind.wrap_u32]; done)), AL2520, ⟨HS.out⟩⟩
  case round =>
    clear AL2520 HS
    obtain ⟨x2523, x2524, rfl, rfl, AL2520, HS⟩ := hrel
    obtain ⟨w2521, rfl⟩ : ∃ x : World, x = wr := ⟨_, rfl⟩
    cases gk with
    | zero => exact absurd AL2520.out (by simp [pack_total.lo0])
    | succ k2522 =>
      have AL0 := AL2520.out
      rw [pack_total.lo0] at AL0
      clear AL2520
      have AL2520 := Aside0.mk AL0
      clear AL0
      by_cases c2525 : x2524 < (l2503.length : Int)
      · replace AL2520 := if_yes c2525 AL2520
        have c2525b0 : decide (x2524 < (l2503.length : Int)) = true := decide_eq_true c2525
        clear c2525
        by_cases c2526 : 0 ≤ x2524
        · replace AL2520 := if_yes c2526 AL2520
          have c2526b0 : decide (0 ≤ x2524) = true := decide_eq_true c2526
          have c2526p : (0 ≤ x2524) = True := eq_true c2526
          clear c2526
          have ip2527 : (x2524 < (l2503.length : Int)) = True := eq_true (of_decide_eq_true c2525b0)
          by_cases c2529 : (rd l2503 x2524) < 1
          · replace AL2520 := if_yes c2529 AL2520
            have c2529b0 : decide ((rd l2503 x2524) < 1) = true := decide_eq_true c2529
            clear c2529
            obtain ⟨hx2528a, hx2528e, hx2528⟩ := Kd.at_int (Rd.read (fun _ _ _ _ h => h) HR2506.out HS.out.fr) x2524 (of_decide_eq_true c2526b0) (of_decide_eq_true c2525b0); cases hx2528e
            go_wp2_with fail
            clear hx2528
            have ho := some_eq AL2520
            subst ho
            have H := lp_ret H
            go_ret
            rw [← some_eq H]
            exact ⟨(by first | rfl | (simp [IntKind.wrap_u32]; done)), HS.out⟩
          · replace AL2520 := if_no c2529 AL2520
            have c2529b0 : decide ((rd l2503 x2524) < 1) = false := decide_eq_false c2529
            clear c2529
            by_cases c2530 : (rd l2503 x2524) > (wrap64 (32 - x2523))
            · replace AL2520 := if_yes c2530 AL2520
              have c2530b0 : decide ((wrap64 (32 - x2523)) < (rd l2503 x2524)) = true := decide_eq_true c2530
              clear c2530
              obtain ⟨hx2528a, hx2528e, hx2528⟩ := Kd.at_int (Rd.read (fun _ _ _ _ h => h) HR2506.out HS.out.fr) x2524 (of_decide_eq_true c2526b0) (of_decide_eq_true c2525b0); cases hx2528e
              go_wp2_with fail
              clear hx2528
              have ho := some_eq AL2520
              subst ho
              have H := lp_ret H
              go_ret
              rw [← some_eq H]
              exact ⟨(by first | rfl | (simp [IntKind.wrap_u32]; done)), HS.out⟩
            · replace AL2520 := if_no c2530 AL2520
              have c2530b0 : decide ((wrap64 (32 - x2523)) < (rd l2503 x2524)) = false := decide_eq_false c2530
              clear c2530
              obtain ⟨hx2528a, hx2528e, hx2528⟩ := Kd.at_int (Rd.read (fun _ _ _ _ h => h) HR2506.out HS.out.fr) x2524 (of_decide_eq_true c2526b0) (of_decide_eq_true c2525b0); cases hx2528e
              go_wp2_with fail
              clear hx2528
              go_roundg k2522
              case measure => exact Nat.lt_succ_self _
              case rel => exact ⟨(wrap64 (x2523 + (rd l2503 x2524))), (wrap64 (x2524 + 1)), (by first | rfl | (simp [IntKind.wrap_u32]; done)), (by first | rfl | (simp [IntKind.wrap_u32]; done)), Aside0.mk AL2520.out, ⟨HS.out⟩⟩
        · replace AL2520 := if_no c2526 AL2520
          have c2526b0 : decide (0 ≤ x2524) = false := decide_eq_false c2526
          clear c2526
          exact (none_no AL2520).elim
      · replace AL2520 := if_no c2525 AL2520
        have c2525b0 : decide (x2524 < (l2503.length : Int)) = false := decide_eq_false c2525
        clear c2525
        have ho := some_eq AL2520
        subst ho
        clear AL2520
        have H := lp_out H
        go_wp2_with fail
        go_ret
        rw [← some_eq H]
        exact ⟨(by first | rfl | (simp [IntKind.wrap_u32]; done)), HS.out⟩

set_option maxHeartbeats 30000000 in
set_option maxRecDepth 100000 in
theorem pack_isPiece.calls (a2555 : Int) (a2556 : Int) (r : Bool) (w : World)  (HGl0 : Aside0 (Gl 0 #[.int .i64 0, .int .i64 0, .int .i64 0, .int .i64 0, .int .i64 0] (fps []) w)) (HS : Aside0 (Sep (fps []) w [] w)) (H : Aside0 (pack_isPiece.f a2555 a2556 = some r)) :
    Calls Tryz.prog 186 #[.int .i64 a2555, .int .i64 a2556] w fun e w' => e = .returned (.bool r) ∧ Sep (fps []) w [] w' := by
  unfold pack_isPiece.f at H
  go_enter Tryz.func186, Tryz.ntmps186
  by_cases c2557 : a2555 ≥ 0
  · replace H := if_yes c2557 H
    have c2557b0 : decide (0 ≤ a2555) = true := decide_eq_true c2557
    clear c2557
    by_cases c2558 : a2556 ≥ 1
    · replace H := if_yes c2558 H
      have c2558b0 : decide (1 ≤ a2556) = true := decide_eq_true c2558
      clear c2558
      by_cases c2559 : a2556 ≤ 32
      · replace H := if_yes c2559 H
        have c2559b0 : decide (a2556 ≤ 32) = true := decide_eq_true c2559
        clear c2559
        go_wp2_with fail
        go_ret
        rw [← some_eq H]
        exact ⟨(by first | rfl | (simp [IntKind.wrap_u32]; done)), HS.out⟩
      · replace H := if_no c2559 H
        have c2559b0 : decide (a2556 ≤ 32) = false := decide_eq_false c2559
        clear c2559
        go_wp2_with fail
        go_ret
        rw [← some_eq H]
        exact ⟨(by first | rfl | (simp [IntKind.wrap_u32]; done)), HS.out⟩
    · replace H := if_no c2558 H
      have c2558b0 : decide (1 ≤ a2556) = false := decide_eq_false c2558
      clear c2558
      go_wp2_with fail
      go_ret
      rw [← some_eq H]
      exact ⟨(by first | rfl | (simp [IntKind.wrap_u32]; done)), HS.out⟩
  · replace H := if_no c2557 H
    have c2557b0 : decide (0 ≤ a2555) = false := decide_eq_false c2557
    clear c2557
    go_wp2_with fail
    go_ret
    rw [← some_eq H]
    exact ⟨(by first | rfl | (simp [IntKind.wrap_u32]; done)), HS.out⟩

set_option maxHeartbeats 30000000 in
set_option maxRecDepth 100000 in
theorem pack_Fits.calls (a2564 : Int) (a2565 : Int) (r : Bool) (w : World)  (HGl0 : Aside0 (Gl 0 #[.int .i64 0, .int .i64 0, .int .i64 0, .int .i64 0, .int .i64 0] (fps []) w)) (HS : Aside0 (Sep (fps []) w [] w)) (H : Aside0 (pack_Fits.f a2564 a2565 = some r)) :
    Calls Tryz.prog 205 #[.int .u32 a2564, .int .i64 a2565] w fun e w' => e = .returned (.bool r) ∧ Sep (fps []) w [] w' := by
  unfold pack_Fits.f at H
  go_enter Tryz.func205, Tryz.ntmps205
  by_cases c2566 : a2565 ≥ 32
  · replace H := if_yes c2566 H
    have c2566b0 : decide (32 ≤ a2565) = true := decide_eq_true c2566
    clear c2566
    go_wp2_with fail
    go_ret
    rw [← some_eq H]
    exact ⟨(by first | rfl | (simp [IntKind.wrap_u32]; done)), HS.out⟩
  · replace H := if_no c2566 H
    have c2566b0 : decide (32 ≤ a2565) = false := decide_eq_false c2566
    clear c2566
    by_cases c2567 : a2565 < 0
    · replace H := if_yes c2567 H
      have c2567b0 : decide (a2565 < 0) = true := decide_eq_true c2567
      skip
      go_wp2_with fail
      clear c2567
      go_ret
      rw [← some_eq H]
      exact ⟨(by first | rfl | (simp [IntKind.wrap_u32]; done)), HS.out⟩
    · replace H := if_no c2567 H
      have c2567b0 : decide (a2565 < 0) = false := decide_eq_false c2567
      by_cases c2568 : 0 ≤ (IntKind.u64.wrap (a2565))
      · replace H := if_yes c2568 H
        have c2568b0 : decide (0 ≤ (IntKind.u64.wrap (a2565))) = true := decide_eq_true c2568
        skip
        skip
        go_wp2_with fail
        clear c2567 c2568
        go_ret
        rw [← some_eq H]
        exact ⟨(by first | rfl | (simp [IntKind.wrap_u32]; done)), HS.out⟩
      · replace H := if_no c2568 H
        have c2568b0 : decide (0 ≤ (IntKind.u64.wrap (a2565))) = false := decide_eq_false c2568
        exact (none_no H).elim

set_option maxHeartbeats 30000000 in
set_option maxRecDepth 100000 in
theorem pack_mask.calls (a2573 : Int) (a2574 : Int) (r : Int) (w : World)  (HGl0 : Aside0 (Gl 0 #[.int .i64 0, .int .i64 0, .int .i64 0, .int .i64 0, .int .i64 0] (fps []) w)) (HS : Aside0 (Sep (fps []) w [] w)) (H : Aside0 (pack_mask.f a2573 a2574 = some r)) :
    Calls Tryz.prog 187 #[.int .i64 a2573, .int .i64 a2574] w fun e w' => e = .returned (.int .u32 r) ∧ Sep (fps []) w [] w' := by
  unfold pack_mask.f at H
  go_enter Tryz.func187, Tryz.ntmps187
  by_cases c2575 : 0 ≤ (IntKind.u64.wrap (a2574))
  · replace H := if_yes c2575 H
    have c2575b0 : decide (0 ≤ (IntKind.u64.wrap (a2574))) = true := decide_eq_true c2575
    by_cases c2576 : 0 ≤ (IntKind.u64.wrap (a2573))
    · replace H := if_yes c2576 H
      have c2576b0 : decide (0 ≤ (IntKind.u64.wrap (a2573))) = true := decide_eq_true c2576
      skip
      skip
      go_wp2_with fail
      clear c2575 c2576
      go_ret
      rw [← some_eq H]
      exact ⟨(by first | rfl | (simp [IntKind.wrap_u32]; done)), HS.out⟩
    · replace H := if_no c2576 H
      have c2576b0 : decide (0 ≤ (IntKind.u64.wrap (a2573))) = false := decide_eq_false c2576
      exact (none_no H).elim
  · replace H := if_no c2575 H
    have c2575b0 : decide (0 ≤ (IntKind.u64.wrap (a2574))) = false := decide_eq_false c2575
    exact (none_no H).elim

set_option maxHeartbeats 30000000 in
set_option maxRecDepth 100000 in
theorem pack_Put.calls (a2551 : Int) (a2552 : Int) (a2553 : Int) (a2554 : Int) (r : Int × Int) (w : World)  (HGl0 : Aside0 (Gl 0 #[.int .i64 0, .int .i64 0, .int .i64 0, .int .i64 0, .int .i64 0] (fps []) w)) (HS : Aside0 (Sep (fps []) w [] w)) (H : Aside0 (pack_Put.f a2551 a2552 a2553 a2554 = some r)) :
    Calls Tryz.prog 185 #[.int .u32 a2551, .int .i64 a2552, .int .i64 a2553, .int .u32 a2554] w fun e w' => e = .returned (.tuple #[.int .u32 r.1, .int .i64 r.2]) ∧ Sep (fps []) w [] w' := by
  unfold pack_Put.f at H
  go_enter Tryz.func185, Tryz.ntmps185
  go_wp2_with fail
  obtain ⟨t2560, HA2561, H⟩ := bind_some H
  refine (pack_isPiece.calls a2552 a2553 t2560 _ ⟨HGl0.out.pass (l := []) HS.out⟩ ⟨Sep.start _⟩ HA2561).mono ?_
  rintro e_ w2562 ⟨rfl, hS⟩
  replace HS : Aside0 (Sep (fps []) w [] w2562) := ⟨HS.out.call hS⟩
  clear hS
  by_cases c2563 : t2560 = true
  · replace H := if_yes c2563 H
    have c2563b0 : t2560 = true := c2563
    have c2563b1 : (!t2560) = false := by rw [c2563b0]; rfl
    try rw [c2563b1]
    clear c2563
    go_wp2_with fail
    obtain ⟨t2569, HA2570, H⟩ := bind_some H
    refine (pack_Fits.calls a2554 a2553 t2569 _ ⟨HGl0.out.pass (l := []) HS.out⟩ ⟨Sep.start _⟩ HA2570).mono ?_
    rintro e_ w2571 ⟨rfl, hS⟩
    replace HS : Aside0 (Sep (fps []) w [] w2571) := ⟨HS.out.call hS⟩
    clear hS
    by_cases c2572 : t2569 = true
    · replace H := if_yes c2572 H
      have c2572b0 : t2569 = true := c2572
      have c2572b1 : (!t2569) = false := by rw [c2572b0]; rfl
      try rw [c2572b1]
      clear c2572
      go_wp2_with fail
      obtain ⟨t2577, HA2578, H⟩ := bind_some H
      refine (pack_mask.calls a2552 a2553 t2577 _ ⟨HGl0.out.pass (l := []) HS.out⟩ ⟨Sep.start _⟩ HA2578).mono ?_
      rintro e_ w2579 ⟨rfl, hS⟩
      replace HS : Aside0 (Sep (fps []) w [] w2579) := ⟨HS.out.call hS⟩
      clear hS
      by_cases c2580 : 0 ≤ (IntKind.u64.wrap (a2552))
      · replace H := if_yes c2580 H
        have c2580b0 : decide (0 ≤ (IntKind.u64.wrap (a2552))) = true := decide_eq_true c2580
        skip
        go_wp2_with fail
        clear c2580
        go_ret2
        rw [← some_eq H]
        exact ⟨(by first | rfl | (simp [IntKind.wrap_u32]; done)), HS.out⟩
      · replace H := if_no c2580 H
        have c2580b0 : decide (0 ≤ (IntKind.u64.wrap (a2552))) = false := decide_eq_false c2580
        exact (none_no H).elim
    · replace H := if_no c2572 H
      have c2572b0 : t2569 = false := by simpa using c2572
      have c2572b1 : (!t2569) = true := by rw [c2572b0]; rfl
      try rw [c2572b1]
      clear c2572
      go_wp2_with fail
      go_ret2
      rw [← some_eq H]
      exact ⟨(by first | rfl | (simp [IntKind.wrap_u32]; done)), HS.out⟩
  · replace H := if_no c2563 H
    have c2563b0 : t2560 = false := by simpa using c2563
    have c2563b1 : (!t2560) = true := by rw [c2563b0]; rfl
    try rw [c2563b1]
    clear c2563
    go_wp2_with fail
    go_ret2
    rw [← some_eq H]
    exact ⟨(by first | rfl | (simp [IntKind.wrap_u32]; done)), HS.out⟩

set_option maxHeartbeats 30000000 in
set_option maxRecDepth 100000 in
theorem pack_Join.calls (k : Nat) (l2495 : List Int) (l2499 : List Int) (A2496 : Option Addr) (n2497 : Nat) (A2500 : Option Addr) (n2501 : Nat) (r : Int × Int) (w : World) (HR2498 : Aside0 (Rd (Kd.int .u32) (fps []) w A2496 l2495.length l2495)) (HR2502 : Aside0 (Rd (Kd.int .i64) (fps []) w A2500 l2499.length l2499)) (HGl0 : Aside0 (Gl 0 #[.int .i64 0, .int .i64 0, .int .i64 0, .int .i64 0, .int .i64 0] (fps []) w)) (HS : Aside0 (Sep (fps []) w [] w)) (H : Aside0 (pack_Join.f k l2495 l2499 = some r)) :
    Calls Tryz.prog 155 #[.slice A2496 l2495.length n2497, .slice A2500 l2499.length n2501] w fun e w' => e = .returned (.tuple #[.int .u32 r.1, .int .i64 r.2]) ∧ Sep (fps []) w [] w' := by
  unfold pack_Join.f at H
  go_enter Tryz.func155, Tryz.ntmps155
  go_wp2_with fail
  obtain ⟨t2532, HA2533, H⟩ := bind_some H
  refine (pack_total.calls _ l2499 A2500 n2501 t2532 _ ⟨Rd.pass (l := []) (by decide) (fun _ _ _ _ h => h) HR2502.out HS.out⟩ ⟨HGl0.out.pass (l := []) HS.out⟩ ⟨Sep.start _⟩ HA2533).mono ?_
  rintro e_ w2534 ⟨rfl, hS⟩
  replace HS : Aside0 (Sep (fps []) w [] w2534) := ⟨HS.out.call hS⟩
  clear hS
  by_cases c2535 : t2532 < 0
  · replace H := if_yes c2535 H
    have c2535b0 : decide (t2532 < 0) = true := decide_eq_true c2535
    clear c2535
    go_wp2_with fail
    go_ret2
    rw [← some_eq H]
    exact ⟨(by first | rfl | (simp [IntKind.wrap_u32]; done)), HS.out⟩
  · replace H := if_no c2535 H
    have c2535b0 : decide (t2532 < 0) = false := decide_eq_false c2535
    clear c2535
    by_cases c2536 : (l2495.length : Int) = (l2499.length : Int)
    · replace H := if_yes c2536 H
      have c2536b0 : ((l2495.length : Int) == (l2499.length : Int)) = true := beq_iff_eq.mpr c2536
      have c2536b1 : ((l2495.length : Int) != (l2499.length : Int)) = false := bne_eq_false_iff_eq.mpr c2536
      clear c2536
      go_wp2_with fail
      obtain ⟨o2585, AL2586, H⟩ := bind_some H
      go_loopg [6, 7, 24] k (fun kq v6 v7 v24 wc => ∃ (x2589 : Int) (x2590 : Int) (x2591 : Int), v6 = .int .u32 x2589 ∧ v7 = .int .i64 x2590 ∧ v24 = .int .i64 x2591 ∧ Aside0 (pack_Join.lo0 kq l2495 l2499 x2589 x2590 x2591 = some o2585) ∧ Aside0 (Sep (fps []) w [] wc))
      case atStart => exact ⟨(0), (0), (0), (by first | rfl | (simp [IntKind.wrap_u32]; done)), (by first | rfl | (simp [IntKind.wrap_u32]; done)), (by first | rfl | (simp [IntKind.wrap_u32]; done)), AL2586, ⟨HS.out⟩⟩
      case round =>
        clear AL2586 HS
        obtain ⟨x2589, x2590, x2591, rfl, rfl, rfl, AL2586, HS⟩ := hrel
        obtain ⟨w2587, rfl⟩ : ∃ x : World, x = wr := ⟨_, rfl⟩
        cases gk with
        | zero => exact absurd AL2586.out (by simp [pack_Join.lo0])
        | succ k2588 =>
          have AL0 := AL2586.out
          rw [pack_Join.lo0] at AL0
          clear AL2586
          have AL2586 := Aside0.mk AL0
          clear AL0
          by_cases c2592 : x2591 < (l2499.length : Int)
          · replace AL2586 := if_yes c2592 AL2586
            have c2592b0 : decide (x2591 < (l2499.length : Int)) = true := decide_eq_true c2592
            clear c2592
            by_cases c2593 : 0 ≤ x2591
            · replace AL2586 := if_yes c2593 AL2586
              have c2593b0 : decide (0 ≤ x2591) = true := decide_eq_true c2593
              have c2593p : (0 ≤ x2591) = True := eq_true c2593
              clear c2593
              have ip2594 : (x2591 < (l2499.length : Int)) = True := eq_true (of_decide_eq_true c2592b0)
              by_cases c2596 : x2591 < (l2495.length : Int)
              · replace AL2586 := if_yes c2596 AL2586
                have c2596b0 : decide (x2591 < (l2495.length : Int)) = true := decide_eq_true c2596
                have c2596p : (x2591 < (l2495.length : Int)) = True := eq_true c2596
                clear c2596
                obtain ⟨hx2595a, hx2595e, hx2595⟩ := Kd.at_int (Rd.read (fun _ _ _ _ h => h) HR2502.out HS.out.fr) x2591 (of_decide_eq_true c2593b0) (of_decide_eq_true c2592b0); cases hx2595e
                obtain ⟨hx2597a, hx2597e, hx2597⟩ := Kd.at_int (Rd.read (fun _ _ _ _ h => h) HR2498.out HS.out.fr) x2591 (of_decide_eq_true c2593b0) (of_decide_eq_true c2596b0); cases hx2597e
                go_wp2_with fail
                clear hx2595 hx2597
                obtain ⟨t2581, HA2598, AL2586⟩ := bind_some AL2586
                refine (pack_Put.calls x2589 x2590 (rd l2499 x2591) (rd l2495 x2591) t2581 _ ⟨HGl0.out.pass (l := []) HS.out⟩ ⟨Sep.start _⟩ HA2598).mono ?_
                rintro e_ w2599 ⟨rfl, hS⟩
                replace HS : Aside0 (Sep (fps []) w [] w2599) := ⟨HS.out.call hS⟩
                clear hS
                by_cases c2600 : t2581.2 = 0
                · replace AL2586 := if_yes c2600 AL2586
                  have c2600b0 : (t2581.2 == 0) = true := beq_iff_eq.mpr c2600
                  have c2600b1 : (t2581.2 != 0) = false := bne_eq_false_iff_eq.mpr c2600
                  clear c2600
                  go_wp2_with fail
                  go_roundg k2588
                  case measure => exact Nat.lt_succ_self _
                  case rel => exact ⟨(t2581.1), (wrap64 (x2590 + (rd l2499 x2591))), (wrap64 (x2591 + 1)), (by first | rfl | (simp [IntKind.wrap_u32]; done)), (by first | rfl | (simp [IntKind.wrap_u32]; done)), (by first | rfl | (simp [IntKind.wrap_u32]; done)), Aside0.mk AL2586.out, ⟨HS.out⟩⟩
                · replace AL2586 := if_no c2600 AL2586
                  have c2600b0 : (t2581.2 == 0) = false := beq_eq_false_iff_ne.mpr c2600
                  have c2600b1 : (t2581.2 != 0) = true := bne_iff_ne.mpr c2600
                  clear c2600
                  go_wp2_with fail
                  have ho := some_eq AL2586
                  subst ho
                  have H := lp_ret H
                  go_ret2
                  rw [← some_eq H]
                  exact ⟨(by first | rfl | (simp [IntKind.wrap_u32]; done)), HS.out⟩
              · replace AL2586 := if_no c2596 AL2586
                have c2596b0 : decide (x2591 < (l2495.length : Int)) = false := decide_eq_false c2596
                clear c2596
                exact (none_no AL2586).elim
            · replace AL2586 := if_no c2593 AL2586
              have c2593b0 : decide (0 ≤ x2591) = false := decide_eq_false c2593
              clear c2593
              exact (none_no AL2586).elim
          · replace AL2586 := if_no c2592 AL2586
            have c2592b0 : decide (x2591 < (l2499.length : Int)) = false := decide_eq_false c2592
            clear c2592
            have ho := some_eq AL2586
            subst ho
            clear AL2586
            have H := lp_out H
            go_wp2_with fail
            go_ret2
            rw [← some_eq H]
            exact ⟨(by first | rfl | (simp [IntKind.wrap_u32]; done)), HS.out⟩
    · replace H := if_no c2536 H
      have c2536b0 : ((l2495.length : Int) == (l2499.length : Int)) = false := beq_eq_false_iff_ne.mpr c2536
      have c2536b1 : ((l2495.length : Int) != (l2499.length : Int)) = true := bne_iff_ne.mpr c2536
      clear c2536
      go_wp2_with fail
      go_ret2
      rw [← some_eq H]
      exact ⟨(by first | rfl | (simp [IntKind.wrap_u32]; done)), HS.out⟩

set_option maxHeartbeats 30000000 in
set_option maxRecDepth 100000 in
theorem tag_Pack.calls (k : Nat) (a2288 : Int) (a2289 : Int) (a2290 : Int) (a2291 : Int) (a2292 : Int) (a2293 : Int) (a2294 : Int) (r : Int × Int) (w : World)  (HGl0 : Aside0 (Gl 0 #[.int .i64 0, .int .i64 0, .int .i64 0, .int .i64 0, .int .i64 0] (fps []) w)) (HS : Aside0 (Sep (fps []) w [] w)) (H : Aside0 (tag_Pack.f k a2288 a2289 a2290 a2291 a2292 a2293 a2294 = some r)) :
    Calls Tryz.prog 106 #[.agg #[.int .i64 a2288, .int .i64 a2289, .int .i64 a2290, .int .i64 a2291, .int .i64 a2292, .int .i64 a2293, .int .i64 a2294]] w fun e w' => e = .returned (.tuple #[.int .u32 r.1, .int .i64 r.2]) ∧ Sep (fps []) w [] w' := by
  unfold tag_Pack.f at H
  go_enter Tryz.func106, Tryz.ntmps106
  go_wp2_with (first | ((with_reducible refine gate_dst (N := 1) rfl ?_); refine box_on ?hg (N := 1) ?hd (cs := #[.int .i64 a2288, .int .i64 a2289, .int .i64 a2290, .int .i64 a2291, .int .i64 a2292, .int .i64 a2293, .int .i64 a2294]) (t := 79) ?hr ?_; (case hd => rfl); (case hg => rfl); (case hr => first | (go_simp; done) | (go_simp; rfl)); intro g2295 hg w2296 hbox hb; replace HS : Aside0 (Sep (fps []) w [b16 g2295 a2288 a2289 a2290 a2291 a2292 a2293 a2294] w2296) := ⟨HS.out.box hg hbox hb⟩; clear hg hbox hb; have hc2298 : w2296.cell? ⟨g2295, 0, none⟩ = some (.int .i64 a2288) := blk_cellv (HS.out.at0) 0 rfl; have hc2299 : w2296.cell? ⟨g2295, 1, none⟩ = some (.int .i64 a2289) := blk_cellv (HS.out.at0) 1 rfl; have hc2300 : w2296.cell? ⟨g2295, 2, none⟩ = some (.int .i64 a2290) := blk_cellv (HS.out.at0) 2 rfl; have hc2301 : w2296.cell? ⟨g2295, 3, none⟩ = some (.int .i64 a2291) := blk_cellv (HS.out.at0) 3 rfl; have hc2302 : w2296.cell? ⟨g2295, 4, none⟩ = some (.int .i64 a2292) := blk_cellv (HS.out.at0) 4 rfl; have hc2303 : w2296.cell? ⟨g2295, 5, none⟩ = some (.int .i64 a2293) := blk_cellv (HS.out.at0) 5 rfl; have hc2304 : w2296.cell? ⟨g2295, 6, none⟩ = some (.int .i64 a2294) := blk_cellv (HS.out.at0) 6 rfl))
  clear hc2298 hc2299 hc2300 hc2301 hc2302 hc2303 hc2304
  obtain ⟨t2437, HA2438, H⟩ := bind_some H
  refine (tag_Right.calls _ a2288 a2289 a2290 a2291 a2292 a2293 a2294 t2437 _ ⟨HGl0.out.pass (l := []) HS.out⟩ ⟨Sep.start _⟩ HA2438).mono ?_
  rintro e_ w2439 ⟨rfl, hS⟩
  replace HS : Aside0 (Sep (fps []) w [b16 g2295 a2288 a2289 a2290 a2291 a2292 a2293 a2294] w2439) := ⟨HS.out.call hS⟩
  clear hS
  by_cases c2440 : t2437 = true
  · replace H := if_yes c2440 H
    have c2440b0 : t2437 = true := c2440
    have c2440b1 : (!t2437) = false := by rw [c2440b0]; rfl
    try rw [c2440b1]
    clear c2440
    have hc2441 : w2439.cell? ⟨g2295, 0, none⟩ = some (.int .i64 a2288) := blk_cellv (HS.out.at0) 0 rfl
    go_wp2_with (first | ((with_reducible refine gate_dst (N := 13) rfl ?_); refine slice_on (n := 1) ?hg (N := 13) ?hd (cs := #[.int .u32 ((a2288) % 4294967296)]) (t := 57) ?hr ?_; (case hd => rfl); (case hg => rfl); (case hr => first | (go_simp; done) | (go_simp; rfl)); intro g2442 hg w2443 hbox hb; clear hc2441; replace HS : Aside0 (Sep (fps []) w [b16 g2295 a2288 a2289 a2290 a2291 a2292 a2293 a2294, b18 g2442 ((a2288) % 4294967296)] w2443) := ⟨HS.out.box hg hbox hb⟩; clear hg hbox hb; have hc2445 : w2443.cell? ⟨g2295, 0, none⟩ = some (.int .i64 a2288) := blk_cellv (HS.out.at0) 0 rfl; have hc2446 : w2443.cell? ⟨g2295, 1, none⟩ = some (.int .i64 a2289) := blk_cellv (HS.out.at0) 1 rfl; have hc2447 : w2443.cell? ⟨g2295, 2, none⟩ = some (.int .i64 a2290) := blk_cellv (HS.out.at0) 2 rfl; have hc2448 : w2443.cell? ⟨g2295, 3, none⟩ = some (.int .i64 a2291) := blk_cellv (HS.out.at0) 3 rfl; have hc2449 : w2443.cell? ⟨g2295, 4, none⟩ = some (.int .i64 a2292) := blk_cellv (HS.out.at0) 4 rfl; have hc2450 : w2443.cell? ⟨g2295, 5, none⟩ = some (.int .i64 a2293) := blk_cellv (HS.out.at0) 5 rfl; have hc2451 : w2443.cell? ⟨g2295, 6, none⟩ = some (.int .i64 a2294) := blk_cellv (HS.out.at0) 6 rfl))
    clear hc2445 hc2446 hc2447 hc2448 hc2449 hc2450 hc2451
    obtain ⟨t2452, HA2453, H⟩ := bind_some H
    refine (tag_marks.calls a2288 a2289 a2290 a2291 a2292 a2293 a2294 t2452 _ ⟨HGl0.out.pass (l := []) HS.out⟩ ⟨Sep.start _⟩ HA2453).mono ?_
    rintro e_ w2454 ⟨rfl, hS⟩
    replace HS : Aside0 (Sep (fps []) w [b16 g2295 a2288 a2289 a2290 a2291 a2292 a2293 a2294, b18 g2442 ((a2288) % 4294967296)] w2454) := ⟨HS.out.call hS⟩
    clear hS
    go_wp2_with fail
    replace HS : Aside0 (Sep (fps []) w [b16 g2295 a2288 a2289 a2290 a2291 a2292 a2293 a2294, r5 (some ⟨g2442, 0, none⟩) 1 1 [(a2288) % 4294967296]] w2454) := ⟨Sep.litrow (l1 := [b16 g2295 a2288 a2289 a2290 a2291 a2292 a2293 a2294]) (l2 := []) (enc := Value.int .u32) (xs := [(a2288) % 4294967296]) (n := 1) HS.out rfl (by decide)⟩
    obtain ⟨o2456, AL2457, H⟩ := bind_some H
    go_loopg [4, 16] k (fun kq v4 v16 wc => ∃ (x2461 : Int) (x2462 : List Int) (A2463 : Option Addr) (m2464 : Nat) (n2465 : Nat), v4 = .slice A2463 m2464 n2465 ∧ v16 = .int .i64 x2461 ∧ Aside0 (tag_Pack.lo0 kq t2452 x2461 x2462 = some o2456) ∧ Aside0 (Sep (fps []) w [b16 g2295 a2288 a2289 a2290 a2291 a2292 a2293 a2294, r5 A2463 m2464 n2465 x2462] wc))
    case atStart => exact ⟨(0), ([(a2288) % 4294967296]), ((some ⟨g2442, 0, none⟩)), (1), (1), (by first | rfl | (simp [IntKind.wrap_u32]; done)), (by first | rfl | (simp [IntKind.wrap_u32]; done)), AL2457, ⟨HS.out⟩⟩
    case round =>
      clear AL2457 HS
      obtain ⟨x2461, x2462, A2463, m2464, n2465, rfl, rfl, AL2457, HS⟩ := hrel
      obtain ⟨w2458, rfl⟩ : ∃ x : World, x = wr := ⟨_, rfl⟩
      obtain rfl := (row_len (HS.out.at1)).symm
      cases gk with
      | zero => exact absurd AL2457.out (by simp [tag_Pack.lo0])
      | succ k2459 =>
        have AL0 := AL2457.out
        rw [tag_Pack.lo0] at AL0
        clear AL2457
        have AL2457 := Aside0.mk AL0
        clear AL0
        by_cases c2467 : x2461 < 5
        · replace AL2457 := if_yes c2467 AL2457
          have c2467b0 : decide (x2461 < 5) = true := decide_eq_true c2467
          clear c2467
          by_cases c2468 : 0 ≤ x2461
          · replace AL2457 := if_yes c2468 AL2457
            have c2468b0 : decide (0 ≤ x2461) = true := decide_eq_true c2468
            have c2468p : (0 ≤ x2461) = True := eq_true c2468
            clear c2468
            have ip2469 : (x2461 < 5) = True := eq_true (of_decide_eq_true c2467b0)
            have ix2470 : ∀ w, (Instr.index 174 (.agg #[.int .i64 t2452.1, .int .i64 t2452.2.1, .int .i64 t2452.2.2.1, .int .i64 t2452.2.2.2.1, .int .i64 t2452.2.2.2.2]) (.int .i64 x2461)).run Tryz.prog w = .ok (.int .i64 (rd [t2452.1, t2452.2.1, t2452.2.2.1, t2452.2.2.2.1, t2452.2.2.2.2] x2461)) w := run_index_ints 174 3 5 .i64 .i64 [t2452.1, t2452.2.1, t2452.2.2.1, t2452.2.2.2.1, t2452.2.2.2.2] x2461 Tryz.underlying174 (fun _ => by kernel_rfl) (fun _ => by kernel_rfl) rfl (of_decide_eq_true c2468b0) (of_decide_eq_true c2467b0)
            by_cases c2474 : x2462.length < 35184372088832
            · replace AL2457 := if_yes c2474 AL2457
              have c2474b0 : decide (x2462.length < 35184372088832) = true := decide_eq_true c2474
              clear c2474
              obtain ⟨y2478, HA2479, AL2457⟩ := bind_some AL2457
              go_wp2_with (first | ((with_reducible refine gate_dst (N := 22) rfl ?_); refine slice_on (n := 1) ?hg (N := 22) ?hd (cs := #[.int .u32 ((rd [t2452.1, t2452.2.1, t2452.2.2.1, t2452.2.2.2.1, t2452.2.2.2.2] x2461) % 4294967296)]) (t := 57) ?hr ?_; (case hd => rfl); (case hg => rfl); (case hr => first | (go_simp; done) | (go_simp; rfl)); intro g2471 hg w2472 hbox hb; replace HS : Aside0 (Sep (fps []) w [b16 g2295 a2288 a2289 a2290 a2291 a2292 a2293 a2294, r5 A2463 x2462.length n2465 x2462, b18 g2471 ((rd [t2452.1, t2452.2.1, t2452.2.2.1, t2452.2.2.2.1, t2452.2.2.2.2] x2461) % 4294967296)] w2472) := ⟨HS.out.box hg hbox hb⟩; clear hg hbox hb) | ((with_reducible refine gate_dst (N := 23) rfl ?_); refine append_event (l1 := [b16 g2295 a2288 a2289 a2290 a2291 a2292 a2293 a2294]) (l2 := [b18 g2471 ((rd [t2452.1, t2452.2.1, t2452.2.2.1, t2452.2.2.2.1, t2452.2.2.2.2] x2461) % 4294967296)]) rfl (.tmp 19) (.tmp 22) 134 57 (.int .u32 0) 4 rfl Tryz.underlying134 (by kernel_rfl) rfl (by decide) (Value.int .u32) (fun _ => rfl) (.slice A2463 x2462.length n2465) (x2462 : List Int) [(rd [t2452.1, t2452.2.1, t2452.2.2.1, t2452.2.2.2.1, t2452.2.2.2.2] x2461) % 4294967296] ⟨g2471, 0, none⟩ 1 rfl rfl (blk_news (xs := [(rd [t2452.1, t2452.2.1, t2452.2.2.1, t2452.2.2.2.1, t2452.2.2.2.2] x2461) % 4294967296]) (HS.out.at2)) HS.out (by have := of_decide_eq_true c2474b0; simp only [List.length_cons, List.length_nil]; omega) HA2479 ?_; intro A2475 n2476 w2477 HS1; replace HS : Aside0 (Sep (fps []) w [b16 g2295 a2288 a2289 a2290 a2291 a2292 a2293 a2294, r5 A2475 y2478.length n2476 y2478, b18 g2471 ((rd [t2452.1, t2452.2.1, t2452.2.2.1, t2452.2.2.2.1, t2452.2.2.2.2] x2461) % 4294967296)] w2477) := ⟨HS1⟩; clear HS1; replace HS : Aside0 (Sep (fps []) w [b16 g2295 a2288 a2289 a2290 a2291 a2292 a2293 a2294, r5 A2475 y2478.length n2476 y2478] w2477) := ⟨HS.out.sub (.cons_cons _ (.cons_cons _ (.cons _ .slnil)))⟩))
              go_roundg k2459
              case measure => exact Nat.lt_succ_self _
              case rel => exact ⟨(wrap64 (x2461 + 1)), (y2478), (A2475), (y2478.length), (n2476), (by first | rfl | (simp [IntKind.wrap_u32]; done)), (by first | rfl | (simp [IntKind.wrap_u32]; done)), Aside0.mk AL2457.out, ⟨HS.out⟩⟩
            · replace AL2457 := if_no c2474 AL2457
              have c2474b0 : decide (x2462.length < 35184372088832) = false := decide_eq_false c2474
              clear c2474
              exact (none_no AL2457).elim
          · replace AL2457 := if_no c2468 AL2457
            have c2468b0 : decide (0 ≤ x2461) = false := decide_eq_false c2468
            clear c2468
            exact (none_no AL2457).elim
        · replace AL2457 := if_no c2467 AL2457
          have c2467b0 : decide (x2461 < 5) = false := decide_eq_false c2467
          clear c2467
          have ho := some_eq AL2457
          subst ho
          clear AL2457
          by_cases c2485 : x2462.length < 35184372088831
          · replace H := if_yes c2485 H
            have c2485b0 : decide (x2462.length < 35184372088831) = true := decide_eq_true c2485
            clear c2485
            obtain ⟨y2489, HA2490, H⟩ := bind_some H
            have hc2481 : w2458.cell? ⟨g2295, 6, none⟩ = some (.int .i64 a2294) := blk_cellv (HS.out.at0) 6 rfl
            go_wp2_with (first | ((with_reducible refine gate_dst (N := 29) rfl ?_); refine slice_on (n := 2) ?hg (N := 29) ?hd (cs := #[.int .u32 0, .int .u32 ((a2294) % 4294967296)]) (t := 57) ?hr ?_; (case hd => rfl); (case hg => rfl); (case hr => first | (go_simp; done) | (go_simp; rfl)); intro g2482 hg w2483 hbox hb; clear hc2481; replace HS : Aside0 (Sep (fps []) w [b16 g2295 a2288 a2289 a2290 a2291 a2292 a2293 a2294, r5 A2463 x2462.length n2465 x2462, b19 g2482 0 ((a2294) % 4294967296)] w2483) := ⟨HS.out.box hg hbox hb⟩; clear hg hbox hb) | ((with_reducible refine gate_dst (N := 30) rfl ?_); refine append_event (l1 := [b16 g2295 a2288 a2289 a2290 a2291 a2292 a2293 a2294]) (l2 := [b19 g2482 0 ((a2294) % 4294967296)]) rfl (.tmp 25) (.tmp 29) 134 57 (.int .u32 0) 4 rfl Tryz.underlying134 (by kernel_rfl) rfl (by decide) (Value.int .u32) (fun _ => rfl) (.slice A2463 x2462.length n2465) (x2462 : List Int) [0, (a2294) % 4294967296] ⟨g2482, 0, none⟩ 2 rfl rfl (blk_news (xs := [0, (a2294) % 4294967296]) (HS.out.at2)) HS.out (by have := of_decide_eq_true c2485b0; simp only [List.length_cons, List.length_nil]; omega) HA2490 ?_; intro A2486 n2487 w2488 HS1; replace HS : Aside0 (Sep (fps []) w [b16 g2295 a2288 a2289 a2290 a2291 a2292 a2293 a2294, r5 A2486 y2489.length n2487 y2489, b19 g2482 0 ((a2294) % 4294967296)] w2488) := ⟨HS1⟩; clear HS1) | ((with_reducible refine gate_dst (N := 31) rfl ?_); refine slice_on (n := 8) ?hg (N := 31) ?hd (cs := #[.int .i64 2, .int .i64 1, .int .i64 1, .int .i64 1, .int .i64 1, .int .i64 1, .int .i64 1, .int .i64 24]) (t := 3) ?hr ?_; (case hd => rfl); (case hg => rfl); (case hr => first | (go_simp; done) | (go_simp; rfl)); intro g2492 hg w2493 hbox hb; replace HS : Aside0 (Sep (fps []) w [b16 g2295 a2288 a2289 a2290 a2291 a2292 a2293 a2294, r5 A2486 y2489.length n2487 y2489, b19 g2482 0 ((a2294) % 4294967296), b20 g2492 2 1 1 1 1 1 1 24] w2493) := ⟨HS.out.box hg hbox hb⟩; clear hg hbox hb))
            obtain ⟨t2602, HA2603, H⟩ := bind_some H
            refine (pack_Join.calls _ y2489 [2, 1, 1, 1, 1, 1, 1, 24] A2486 n2487 (some ⟨g2492, 0, none⟩) 8 t2602 _ ⟨Rd.ownI (l := []) HS.out 1 rfl⟩ ⟨Rd.lit (l := []) (xs := [2, 1, 1, 1, 1, 1, 1, 24]) HS.out 3 rfl (by simp)⟩ ⟨HGl0.out.pass (l := []) HS.out⟩ ⟨Sep.start _⟩ HA2603).mono ?_
            rintro e_ w2604 ⟨rfl, hS⟩
            replace HS : Aside0 (Sep (fps []) w [b16 g2295 a2288 a2289 a2290 a2291 a2292 a2293 a2294, r5 A2486 y2489.length n2487 y2489, b19 g2482 0 ((a2294) % 4294967296), b20 g2492 2 1 1 1 1 1 1 24] w2604) := ⟨HS.out.call hS⟩
            clear hS
            replace HS : Aside0 (Sep (fps []) w [] w2604) := ⟨HS.out.sub (.cons _ (.cons _ (.cons _ (.cons _ .slnil))))⟩
            go_wp2_with fail
            go_ret2
            rw [← some_eq H]
            exact ⟨(by first | rfl | (simp [IntKind.wrap_u32]; done)), HS.out⟩
          · replace H := if_no c2485 H
            have c2485b0 : decide (x2462.length < 35184372088831) = false := decide_eq_false c2485
            clear c2485
            exact (none_no H).elim
  · replace H := if_no c2440 H
    have c2440b0 : t2437 = false := by simpa using c2440
    have c2440b1 : (!t2437) = true := by rw [c2440b0]; rfl
    try rw [c2440b1]
    clear c2440
    replace HS : Aside0 (Sep (fps []) w [] w2439) := ⟨HS.out.sub (.cons _ .slnil)⟩
    go_wp2_with fail
    go_ret2
    rw [← some_eq H]
    exact ⟨(by first | rfl | (simp [IntKind.wrap_u32]; done)), HS.out⟩

set_option maxHeartbeats 30000000 in
set_option maxRecDepth 100000 in
theorem obj_mark.calls (k : Nat) (l2260 : List Int) (a2265 : Int) (a2266 : Int) (a2267 : Int) (a2268 : Int) (a2269 : Int) (a2270 : Int) (a2271 : Int) (a2272 : Int) (a2273 : Int) (a2274 : Int) (a2275 : Int) (a2276 : Int) (a2277 : Int) (g2256 : Nat) (g2258 : Nat) (A2261 : Option Addr) (m2262 : Nat) (n2263 : Nat) (r : Int × List Int) (w : World)  (HGl0 : Aside0 (Gl 0 #[.int .i64 0, .int .i64 0, .int .i64 0, .int .i64 0, .int .i64 0] (fps [b7 g2256 g2258 a2266 a2267 a2268 a2269, b6 g2258 A2261 m2262 n2263 a2265, r5 A2261 m2262 n2263 l2260]) w)) (HS : Aside0 (Sep (fps [b7 g2256 g2258 a2266 a2267 a2268 a2269, b6 g2258 A2261 m2262 n2263 a2265, r5 A2261 m2262 n2263 l2260]) w [b7 g2256 g2258 a2266 a2267 a2268 a2269, b6 g2258 A2261 m2262 n2263 a2265, r5 A2261 m2262 n2263 l2260] w)) (H : Aside0 (obj_mark.f k l2260 a2265 a2266 a2267 a2268 a2269 a2270 a2271 a2272 a2273 a2274 a2275 a2276 a2277 = some r)) :
    Calls Tryz.prog 49 #[.pointer (some ⟨g2256, 0, none⟩), .int .i64 a2270, .agg #[.int .i64 a2271, .int .i64 a2272, .int .i64 a2273, .int .i64 a2274, .int .i64 a2275, .int .i64 a2276, .int .i64 a2277]] w fun e w' => e = .returned (.tuple #[]) ∧ Sep (fps [b7 g2256 g2258 a2266 a2267 a2268 a2269, b6 g2258 A2261 m2262 n2263 a2265, r5 A2261 m2262 n2263 l2260]) w [b7 g2256 g2258 a2266 a2267 a2268 a2269, b6 g2258 A2261 m2262 n2263 r.1, r5 A2261 m2262 n2263 r.2] w' := by
  generalize (fps [b7 g2256 g2258 a2266 a2267 a2268 a2269, b6 g2258 A2261 m2262 n2263 a2265, r5 A2261 m2262 n2263 l2260]) = FF at HS HGl0 ⊢
  obtain rfl := (row_len (HS.out.at2)).symm
  unfold obj_mark.f at H
  go_enter Tryz.func49, Tryz.ntmps49
  go_wp2_with (first | ((with_reducible refine gate_dst (N := 5) rfl ?_); refine box_on ?hg (N := 5) ?hd (cs := #[.int .i64 a2271, .int .i64 a2272, .int .i64 a2273, .int .i64 a2274, .int .i64 a2275, .int .i64 a2276, .int .i64 a2277]) (t := 79) ?hr ?_; (case hd => rfl); (case hg => rfl); (case hr => first | (go_simp; done) | (go_simp; rfl)); intro g2631 hg w2632 hbox hb; replace HS : Aside0 (Sep FF w [b7 g2256 g2258 a2266 a2267 a2268 a2269, b6 g2258 A2261 l2260.length n2263 a2265, r5 A2261 l2260.length n2263 l2260, b16 g2631 a2271 a2272 a2273 a2274 a2275 a2276 a2277] w2632) := ⟨HS.out.box hg hbox hb⟩; clear hg hbox hb; have hc2634 : w2632.cell? ⟨g2631, 0, none⟩ = some (.int .i64 a2271) := blk_cellv (HS.out.at3) 0 rfl; have hc2635 : w2632.cell? ⟨g2631, 1, none⟩ = some (.int .i64 a2272) := blk_cellv (HS.out.at3) 1 rfl; have hc2636 : w2632.cell? ⟨g2631, 2, none⟩ = some (.int .i64 a2273) := blk_cellv (HS.out.at3) 2 rfl; have hc2637 : w2632.cell? ⟨g2631, 3, none⟩ = some (.int .i64 a2274) := blk_cellv (HS.out.at3) 3 rfl; have hc2638 : w2632.cell? ⟨g2631, 4, none⟩ = some (.int .i64 a2275) := blk_cellv (HS.out.at3) 4 rfl; have hc2639 : w2632.cell? ⟨g2631, 5, none⟩ = some (.int .i64 a2276) := blk_cellv (HS.out.at3) 5 rfl; have hc2640 : w2632.cell? ⟨g2631, 6, none⟩ = some (.int .i64 a2277) := blk_cellv (HS.out.at3) 6 rfl))
  clear hc2634 hc2635 hc2636 hc2637 hc2638 hc2639 hc2640
  obtain ⟨t2641, HA2642, H⟩ := bind_some H
  refine (tag_Pack.calls _ a2271 a2272 a2273 a2274 a2275 a2276 a2277 t2641 _ ⟨HGl0.out.pass (l := []) HS.out⟩ ⟨Sep.start _⟩ HA2642).mono ?_
  rintro e_ w2643 ⟨rfl, hS⟩
  replace HS : Aside0 (Sep FF w [b7 g2256 g2258 a2266 a2267 a2268 a2269, b6 g2258 A2261 l2260.length n2263 a2265, r5 A2261 l2260.length n2263 l2260, b16 g2631 a2271 a2272 a2273 a2274 a2275 a2276 a2277] w2643) := ⟨HS.out.call hS⟩
  clear hS
  by_cases c2644 : t2641.2 = 0
  · replace H := if_yes c2644 H
    have c2644b0 : (t2641.2 == 0) = true := beq_iff_eq.mpr c2644
    have c2644b1 : (t2641.2 != 0) = false := bne_eq_false_iff_eq.mpr c2644
    clear c2644
    replace HS : Aside0 (Sep FF w [b7 g2256 g2258 a2266 a2267 a2268 a2269, b6 g2258 A2261 l2260.length n2263 a2265, r5 A2261 l2260.length n2263 l2260] w2643) := ⟨HS.out.sub (.cons_cons _ (.cons_cons _ (.cons_cons _ (.cons _ .slnil))))⟩
    go_wp2_with fail
    obtain ⟨t2645, HA2646, H⟩ := bind_some H
    refine (ground_Ground_SetWord.calls l2260 a2265 a2266 a2267 a2268 a2269 a2270 0 t2641.1 g2256 g2258 A2261 l2260.length n2263 t2645 _ ⟨HGl0.out.pass HS.out⟩ ⟨HS.out.begin⟩ HA2646).mono ?_
    rintro e_ w2647 ⟨rfl, hS⟩
    replace HS : Aside0 (Sep FF w [b7 g2256 g2258 a2266 a2267 a2268 a2269, b6 g2258 A2261 l2260.length n2263 t2645.2.1, r5 A2261 l2260.length n2263 t2645.2.2] w2647) := ⟨HS.out.call hS⟩
    clear hS
    go_wp2_with fail
    first | go_end0 | refine bodyPost_ret (results_none rfl _ _ _) rfl ?_
    rw [← some_eq H]
    exact ⟨rfl, HS.out⟩
  · replace H := if_no c2644 H
    have c2644b0 : (t2641.2 == 0) = false := beq_eq_false_iff_ne.mpr c2644
    have c2644b1 : (t2641.2 != 0) = true := bne_iff_ne.mpr c2644
    clear c2644
    replace HS : Aside0 (Sep FF w [b7 g2256 g2258 a2266 a2267 a2268 a2269, b6 g2258 A2261 l2260.length n2263 a2265, r5 A2261 l2260.length n2263 l2260] w2643) := ⟨HS.out.sub (.cons_cons _ (.cons_cons _ (.cons_cons _ (.cons _ .slnil))))⟩
    go_wp2_with fail
    first | go_end0 | refine bodyPost_ret (results_none rfl _ _ _) rfl ?_
    rw [← some_eq H]
    exact ⟨rfl, HS.out⟩
end Go.Proofs.YtobeonkddamnoaaGreatDoor.C

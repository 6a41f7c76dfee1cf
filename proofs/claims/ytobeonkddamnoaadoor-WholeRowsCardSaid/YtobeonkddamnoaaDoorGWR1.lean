/- Each function of the group WR does what its plain function says, and changes nothing that was there; proved by walking its code. No condition. -/
import Derived.Test.YtobeonkddamnoaaDoorQw
import Derived.Test.YtobeonkddamnoaaDoorMWR
import Derived.Test.YtobeonkddamnoaaDoorGWR0
namespace Go.Proofs.YtobeonkddamnoaaDoor.C
open Go.RowKit Go.Proofs.YtobeonkddamnoaaDoorW.PrintWords Go.Proofs.YtobeonkddamnoaaDoorW.PrintLast Go.Proofs.YtobeonkddamnoaaDoor.Q Go.Proofs.YtobeonkddamnoaaDoor.M
set_option linter.unusedVariables false
set_option linter.unusedSimpArgs false
set_option maxHeartbeats 30000000 in
set_option maxRecDepth 100000 in
theorem chain_put_F143.calls (l1145 : List Int) (a1150 : Int) (a1151 : Int) (a1152 : Int) (a1153 : Int) (a1154 : Int) (a1155 : Int) (a1156 : Int) (a1161 : Int) (g1141 : Nat) (g1143 : Nat) (A1146 : Option Addr) (m1147 : Nat) (n1148 : Nat) (g1158 : Nat) (g1160 : Nat) (r : Bool × Int × List Int) (w : World)  (HGl0 : Aside0 (Gl 0 #[.int .i64 0, .int .i64 0, .int .i64 0, .int .i64 0, .int .i64 0] (fps [b7 g1141 g1143 a1151 a1152 a1153 a1154, b6 g1143 A1146 m1147 n1148 a1150, r5 A1146 m1147 n1148 l1145, b9 g1158 g1141, b10 g1160 a1161]) w)) (HS : Aside0 (Sep (fps [b7 g1141 g1143 a1151 a1152 a1153 a1154, b6 g1143 A1146 m1147 n1148 a1150, r5 A1146 m1147 n1148 l1145, b9 g1158 g1141, b10 g1160 a1161]) w [b7 g1141 g1143 a1151 a1152 a1153 a1154, b6 g1143 A1146 m1147 n1148 a1150, r5 A1146 m1147 n1148 l1145, b9 g1158 g1141, b10 g1160 a1161] w)) (H : Aside0 (chain_put_F143.f l1145 a1150 a1151 a1152 a1153 a1154 a1155 a1156 a1161 = some r)) :
    Calls Tryd.prog 142 #[.pointer (some ⟨g1141, 0, none⟩), .int .i64 a1155, .int .i64 a1156, .func (.func 143) #[] #[.pointer (some ⟨g1158, 0, none⟩), .pointer (some ⟨g1160, 0, none⟩)]] w fun e w' => e = .returned (.bool r.1) ∧ Sep (fps [b7 g1141 g1143 a1151 a1152 a1153 a1154, b6 g1143 A1146 m1147 n1148 a1150, r5 A1146 m1147 n1148 l1145, b9 g1158 g1141, b10 g1160 a1161]) w [b7 g1141 g1143 a1151 a1152 a1153 a1154, b6 g1143 A1146 m1147 n1148 r.2.1, r5 A1146 m1147 n1148 r.2.2, b9 g1158 g1141, b10 g1160 a1161] w' := by
  generalize (fps [b7 g1141 g1143 a1151 a1152 a1153 a1154, b6 g1143 A1146 m1147 n1148 a1150, r5 A1146 m1147 n1148 l1145, b9 g1158 g1141, b10 g1160 a1161]) = FF at HS HGl0 ⊢
  obtain rfl := (row_len (HS.out.at2)).symm
  unfold chain_put_F143.f at H
  go_enter Tryd.func142, Tryd.ntmps142
  go_wp2_with fail
  obtain ⟨t1454, HA1455, H⟩ := bind_some H
  refine (chain_of.calls l1145 a1150 a1151 a1152 a1153 a1154 a1155 g1141 g1143 A1146 l1145.length n1148 t1454 _ ⟨HGl0.out.pass HS.out⟩ ⟨HS.out.begin⟩ HA1455).mono ?_
  rintro e_ w1456 ⟨rfl, hS⟩
  replace HS : Aside0 (Sep FF w [b7 g1141 g1143 a1151 a1152 a1153 a1154, b6 g1143 A1146 l1145.length n1148 a1150, r5 A1146 l1145.length n1148 l1145, b9 g1158 g1141, b10 g1160 a1161] w1456) := ⟨HS.out.call hS⟩
  clear hS
  by_cases c1467 : t1454.2.2.2 = true
  · replace H := if_yes c1467 H
    have c1467b0 : t1454.2.2.2 = true := c1467
    have c1467b1 : (!t1454.2.2.2) = false := by rw [c1467b0]; rfl
    try rw [c1467b1]
    clear c1467
    by_cases c1468 : a1156 < 0
    · replace H := if_yes c1468 H
      have c1468b0 : decide (a1156 < 0) = true := decide_eq_true c1468
      clear c1468
      go_wp2_with (first | ((with_reducible refine gate_dst (N := 9) rfl ?_); refine box_on ?hg (N := 9) ?hd (cs := #[.int .i64 0, .int .i64 0, .int .i64 0]) (t := 166) ?hr ?_; (case hd => rfl); (case hg => rfl); (case hr => first | (go_simp; done) | (go_simp; rfl)); intro g1457 hg w1458 hbox hb; replace HS : Aside0 (Sep FF w [b7 g1141 g1143 a1151 a1152 a1153 a1154, b6 g1143 A1146 l1145.length n1148 a1150, r5 A1146 l1145.length n1148 l1145, b9 g1158 g1141, b10 g1160 a1161, b8 g1457 0 0 0] w1458) := ⟨HS.out.box hg hbox hb⟩; clear hg hbox hb; have hc1460 : w1458.cell? ⟨g1457, 0, none⟩ = some (.int .i64 0) := blk_cellv (HS.out.at5) 0 rfl; have hz1461 : w1458.frozen? ⟨g1457, 0, none⟩ = false := blk_fz (HS.out.at5) 0; have hc1462 : w1458.cell? ⟨g1457, 1, none⟩ = some (.int .i64 0) := blk_cellv (HS.out.at5) 1 rfl; have hz1463 : w1458.frozen? ⟨g1457, 1, none⟩ = false := blk_fz (HS.out.at5) 1; have hc1464 : w1458.cell? ⟨g1457, 2, none⟩ = some (.int .i64 0) := blk_cellv (HS.out.at5) 2 rfl; have hz1465 : w1458.frozen? ⟨g1457, 2, none⟩ = false := blk_fz (HS.out.at5) 2) | ((with_reducible refine gate_store (t := 166) (p := 9) rfl ?_); refine store_event (w1 := (World.setCell (World.setCell (World.setCell w1458 ⟨g1457, 0, none⟩ (.int .i64 t1454.1)) ⟨g1457, 1, none⟩ (.int .i64 t1454.2.1)) ⟨g1457, 2, none⟩ (.int .i64 t1454.2.2.1))) rfl (t := 166) (p := 9) rfl rfl ?hr ?_; (case hr => first | (go_simp; done) | (go_simp; rfl)); intro w1466 hst; clear hc1460 hz1461 hc1462 hz1463 hc1464 hz1465; replace HS : Aside0 (Sep FF w [b7 g1141 g1143 a1151 a1152 a1153 a1154, b6 g1143 A1146 l1145.length n1148 a1150, r5 A1146 l1145.length n1148 l1145, b9 g1158 g1141, b10 g1160 a1161, b8 g1457 t1454.1 t1454.2.1 t1454.2.2.1] w1466) := ⟨by rw [hst]; exact HS.out.setAll (l1 := [b7 g1141 g1143 a1151 a1152 a1153 a1154, b6 g1143 A1146 l1145.length n1148 a1150, r5 A1146 l1145.length n1148 l1145, b9 g1158 g1141, b10 g1160 a1161]) (l2 := []) [.int .i64 t1454.1, .int .i64 t1454.2.1, .int .i64 t1454.2.2.1] rfl⟩; clear hst; replace HS : Aside0 (Sep FF w [b7 g1141 g1143 a1151 a1152 a1153 a1154, b6 g1143 A1146 l1145.length n1148 a1150, r5 A1146 l1145.length n1148 l1145, b9 g1158 g1141, b10 g1160 a1161] w1466) := ⟨HS.out.sub (.cons_cons _ (.cons_cons _ (.cons_cons _ (.cons_cons _ (.cons_cons _ (.cons _ .slnil))))))⟩))
      go_ret
      rw [← some_eq H]
      exact ⟨(by first | rfl | (simp [IntKind.wrap_u32]; done)), HS.out⟩
    · replace H := if_no c1468 H
      have c1468b0 : decide (a1156 < 0) = false := decide_eq_false c1468
      clear c1468
      go_wp2_with (first | ((with_reducible refine gate_dst (N := 9) rfl ?_); refine box_on ?hg (N := 9) ?hd (cs := #[.int .i64 0, .int .i64 0, .int .i64 0]) (t := 166) ?hr ?_; (case hd => rfl); (case hg => rfl); (case hr => first | (go_simp; done) | (go_simp; rfl)); intro g1457 hg w1458 hbox hb; replace HS : Aside0 (Sep FF w [b7 g1141 g1143 a1151 a1152 a1153 a1154, b6 g1143 A1146 l1145.length n1148 a1150, r5 A1146 l1145.length n1148 l1145, b9 g1158 g1141, b10 g1160 a1161, b8 g1457 0 0 0] w1458) := ⟨HS.out.box hg hbox hb⟩; clear hg hbox hb; have hc1460 : w1458.cell? ⟨g1457, 0, none⟩ = some (.int .i64 0) := blk_cellv (HS.out.at5) 0 rfl; have hz1461 : w1458.frozen? ⟨g1457, 0, none⟩ = false := blk_fz (HS.out.at5) 0; have hc1462 : w1458.cell? ⟨g1457, 1, none⟩ = some (.int .i64 0) := blk_cellv (HS.out.at5) 1 rfl; have hz1463 : w1458.frozen? ⟨g1457, 1, none⟩ = false := blk_fz (HS.out.at5) 1; have hc1464 : w1458.cell? ⟨g1457, 2, none⟩ = some (.int .i64 0) := blk_cellv (HS.out.at5) 2 rfl; have hz1465 : w1458.frozen? ⟨g1457, 2, none⟩ = false := blk_fz (HS.out.at5) 2) | ((with_reducible refine gate_store (t := 166) (p := 9) rfl ?_); refine store_event (w1 := (World.setCell (World.setCell (World.setCell w1458 ⟨g1457, 0, none⟩ (.int .i64 t1454.1)) ⟨g1457, 1, none⟩ (.int .i64 t1454.2.1)) ⟨g1457, 2, none⟩ (.int .i64 t1454.2.2.1))) rfl (t := 166) (p := 9) rfl rfl ?hr ?_; (case hr => first | (go_simp; done) | (go_simp; rfl)); intro w1466 hst; clear hc1460 hz1461 hc1462 hz1463 hc1464 hz1465; replace HS : Aside0 (Sep FF w [b7 g1141 g1143 a1151 a1152 a1153 a1154, b6 g1143 A1146 l1145.length n1148 a1150, r5 A1146 l1145.length n1148 l1145, b9 g1158 g1141, b10 g1160 a1161, b8 g1457 t1454.1 t1454.2.1 t1454.2.2.1] w1466) := ⟨by rw [hst]; exact HS.out.setAll (l1 := [b7 g1141 g1143 a1151 a1152 a1153 a1154, b6 g1143 A1146 l1145.length n1148 a1150, r5 A1146 l1145.length n1148 l1145, b9 g1158 g1141, b10 g1160 a1161]) (l2 := []) [.int .i64 t1454.1, .int .i64 t1454.2.1, .int .i64 t1454.2.2.1] rfl⟩; clear hst))
      obtain ⟨t1469, HA1470, H⟩ := bind_some H
      refine (ground_Ground_Conf.calls l1145 a1150 a1151 a1152 a1153 a1154 g1141 g1143 A1146 l1145.length n1148 t1469 _ ⟨HGl0.out.pass HS.out⟩ ⟨HS.out.begin⟩ HA1470).mono ?_
      rintro e_ w1471 ⟨rfl, hS⟩
      replace HS : Aside0 (Sep FF w [b7 g1141 g1143 a1151 a1152 a1153 a1154, b6 g1143 A1146 l1145.length n1148 a1150, r5 A1146 l1145.length n1148 l1145, b9 g1158 g1141, b10 g1160 a1161, b8 g1457 t1454.1 t1454.2.1 t1454.2.2.1] w1471) := ⟨HS.out.call hS⟩
      clear hS
      by_cases c1473 : a1156 ≥ t1469.1
      · replace H := if_yes c1473 H
        have c1473b0 : decide (t1469.1 ≤ a1156) = true := decide_eq_true c1473
        clear c1473
        have fl1472 : ∀ w, (Instr.field 30 (.agg #[.int .i64 t1469.1, .int .i64 t1469.2.1, .int .i64 t1469.2.2.1, .int .i64 t1469.2.2.2]) 0).run Tryd.prog w = .ok (.int .i64 t1469.1) w := fun _ => by kernel_rfl
        replace HS : Aside0 (Sep FF w [b7 g1141 g1143 a1151 a1152 a1153 a1154, b6 g1143 A1146 l1145.length n1148 a1150, r5 A1146 l1145.length n1148 l1145, b9 g1158 g1141, b10 g1160 a1161] w1471) := ⟨HS.out.sub (.cons_cons _ (.cons_cons _ (.cons_cons _ (.cons_cons _ (.cons_cons _ (.cons _ .slnil))))))⟩
        go_wp2_with fail
        clear fl1472
        go_ret
        rw [← some_eq H]
        exact ⟨(by first | rfl | (simp [IntKind.wrap_u32]; done)), HS.out⟩
      · replace H := if_no c1473 H
        have c1473b0 : decide (t1469.1 ≤ a1156) = false := decide_eq_false c1473
        clear c1473
        have fl1472 : ∀ w, (Instr.field 30 (.agg #[.int .i64 t1469.1, .int .i64 t1469.2.1, .int .i64 t1469.2.2.1, .int .i64 t1469.2.2.2]) 0).run Tryd.prog w = .ok (.int .i64 t1469.1) w := fun _ => by kernel_rfl
        have hc1474 : w1471.cell? ⟨g1457, 2, none⟩ = some (.int .i64 t1454.2.2.1) := blk_cellv (HS.out.at5) 2 rfl
        go_wp2_with fail
        clear fl1472 hc1474
        obtain ⟨t1475, HA1476, H⟩ := bind_some H
        refine (ground_Ground_Reg.calls l1145 a1150 a1151 a1152 a1153 a1154 t1454.2.2.1 g1141 g1143 A1146 l1145.length n1148 t1475 _ ⟨HGl0.out.pass HS.out⟩ ⟨HS.out.begin⟩ HA1476).mono ?_
        rintro e_ w1477 ⟨rfl, hS⟩
        replace HS : Aside0 (Sep FF w [b7 g1141 g1143 a1151 a1152 a1153 a1154, b6 g1143 A1146 l1145.length n1148 t1475.2, r5 A1146 l1145.length n1148 l1145, b9 g1158 g1141, b10 g1160 a1161, b8 g1457 t1454.1 t1454.2.1 t1454.2.2.1] w1477) := ⟨HS.out.call hS⟩
        clear hS
        have hc1478 : w1477.cell? ⟨g1457, 0, none⟩ = some (.int .i64 t1454.1) := blk_cellv (HS.out.at5) 0 rfl
        have hc1479 : w1477.cell? ⟨g1457, 1, none⟩ = some (.int .i64 t1454.2.1) := blk_cellv (HS.out.at5) 1 rfl
        have hc1480 : w1477.cell? ⟨g1457, 2, none⟩ = some (.int .i64 t1454.2.2.1) := blk_cellv (HS.out.at5) 2 rfl
        go_wp2_with fail
        clear hc1478 hc1479 hc1480
        replace HS : Aside0 (Sep FF w [b10 g1160 a1161, b7 g1141 g1143 a1151 a1152 a1153 a1154, b6 g1143 A1146 l1145.length n1148 t1475.2, r5 A1146 l1145.length n1148 l1145, b9 g1158 g1141, b8 g1457 t1454.1 t1454.2.1 t1454.2.2.1] w1477) := ⟨HS.out.front 4 (by simp)⟩
        replace HS : Aside0 (Sep FF w [r5 A1146 l1145.length n1148 l1145, b10 g1160 a1161, b7 g1141 g1143 a1151 a1152 a1153 a1154, b6 g1143 A1146 l1145.length n1148 t1475.2, b9 g1158 g1141, b8 g1457 t1454.1 t1454.2.1 t1454.2.2.1] w1477) := ⟨HS.out.front 3 (by simp)⟩
        replace HS : Aside0 (Sep FF w [b6 g1143 A1146 l1145.length n1148 t1475.2, r5 A1146 l1145.length n1148 l1145, b10 g1160 a1161, b7 g1141 g1143 a1151 a1152 a1153 a1154, b9 g1158 g1141, b8 g1457 t1454.1 t1454.2.1 t1454.2.2.1] w1477) := ⟨HS.out.front 3 (by simp)⟩
        replace HS : Aside0 (Sep FF w [b7 g1141 g1143 a1151 a1152 a1153 a1154, b6 g1143 A1146 l1145.length n1148 t1475.2, r5 A1146 l1145.length n1148 l1145, b10 g1160 a1161, b9 g1158 g1141, b8 g1457 t1454.1 t1454.2.1 t1454.2.2.1] w1477) := ⟨HS.out.front 3 (by simp)⟩
        replace HS : Aside0 (Sep FF w [b9 g1158 g1141, b7 g1141 g1143 a1151 a1152 a1153 a1154, b6 g1143 A1146 l1145.length n1148 t1475.2, r5 A1146 l1145.length n1148 l1145, b10 g1160 a1161, b8 g1457 t1454.1 t1454.2.1 t1454.2.2.1] w1477) := ⟨HS.out.front 4 (by simp)⟩
        obtain ⟨t1481, HA1482, H⟩ := bind_some H
        refine (chain_Add_1.calls t1454.1 t1454.2.1 t1454.2.2.1 (wrap64 (a1156 + 1)) t1475.1 l1145 t1475.2 a1151 a1152 a1153 a1154 a1161 g1158 g1141 g1143 A1146 l1145.length n1148 g1160 t1481 _ ⟨HGl0.out.pass HS.out⟩ ⟨HS.out.begin⟩ HA1482).mono ?_
        rintro e_ w1483 ⟨rfl, hS⟩
        replace HS : Aside0 (Sep FF w [b9 g1158 g1141, b7 g1141 g1143 a1151 a1152 a1153 a1154, b6 g1143 A1146 l1145.length n1148 t1481.1, r5 A1146 l1145.length n1148 t1481.2, b10 g1160 a1161, b8 g1457 t1454.1 t1454.2.1 t1454.2.2.1] w1483) := ⟨HS.out.call hS⟩
        clear hS
        have hc1484 : w1483.cell? ⟨g1457, 2, none⟩ = some (.int .i64 t1454.2.2.1) := blk_cellv (HS.out.at5) 2 rfl
        go_wp2_with fail
        clear hc1484
        replace HS : Aside0 (Sep FF w [r5 A1146 l1145.length n1148 t1481.2, b9 g1158 g1141, b7 g1141 g1143 a1151 a1152 a1153 a1154, b6 g1143 A1146 l1145.length n1148 t1481.1, b10 g1160 a1161, b8 g1457 t1454.1 t1454.2.1 t1454.2.2.1] w1483) := ⟨HS.out.front 3 (by simp)⟩
        replace HS : Aside0 (Sep FF w [b6 g1143 A1146 l1145.length n1148 t1481.1, r5 A1146 l1145.length n1148 t1481.2, b9 g1158 g1141, b7 g1141 g1143 a1151 a1152 a1153 a1154, b10 g1160 a1161, b8 g1457 t1454.1 t1454.2.1 t1454.2.2.1] w1483) := ⟨HS.out.front 3 (by simp)⟩
        replace HS : Aside0 (Sep FF w [b7 g1141 g1143 a1151 a1152 a1153 a1154, b6 g1143 A1146 l1145.length n1148 t1481.1, r5 A1146 l1145.length n1148 t1481.2, b9 g1158 g1141, b10 g1160 a1161, b8 g1457 t1454.1 t1454.2.1 t1454.2.2.1] w1483) := ⟨HS.out.front 3 (by simp)⟩
        obtain ⟨t1485, HA1486, H⟩ := bind_some H
        refine (ground_Ground_SetReg.calls t1481.2 t1481.1 a1151 a1152 a1153 a1154 t1454.2.2.1 (wrap64 (t1475.1 + 1)) g1141 g1143 A1146 l1145.length n1148 t1485 _ ⟨HGl0.out.pass HS.out⟩ ⟨HS.out.begin⟩ HA1486).mono ?_
        rintro e_ w1487 ⟨rfl, hS⟩
        replace HS : Aside0 (Sep FF w [b7 g1141 g1143 a1151 a1152 a1153 a1154, b6 g1143 A1146 l1145.length n1148 t1485.2.1, r5 A1146 l1145.length n1148 t1485.2.2, b9 g1158 g1141, b10 g1160 a1161, b8 g1457 t1454.1 t1454.2.1 t1454.2.2.1] w1487) := ⟨HS.out.call hS⟩
        clear hS
        replace HS : Aside0 (Sep FF w [b7 g1141 g1143 a1151 a1152 a1153 a1154, b6 g1143 A1146 l1145.length n1148 t1485.2.1, r5 A1146 l1145.length n1148 t1485.2.2, b9 g1158 g1141, b10 g1160 a1161] w1487) := ⟨HS.out.sub (.cons_cons _ (.cons_cons _ (.cons_cons _ (.cons_cons _ (.cons_cons _ (.cons _ .slnil))))))⟩
        go_wp2_with fail
        go_ret
        rw [← some_eq H]
        exact ⟨(by first | rfl | (simp [IntKind.wrap_u32]; done)), HS.out⟩
  · replace H := if_no c1467 H
    have c1467b0 : t1454.2.2.2 = false := by simpa using c1467
    have c1467b1 : (!t1454.2.2.2) = true := by rw [c1467b0]; rfl
    try rw [c1467b1]
    clear c1467
    go_wp2_with (first | ((with_reducible refine gate_dst (N := 9) rfl ?_); refine box_on ?hg (N := 9) ?hd (cs := #[.int .i64 0, .int .i64 0, .int .i64 0]) (t := 166) ?hr ?_; (case hd => rfl); (case hg => rfl); (case hr => first | (go_simp; done) | (go_simp; rfl)); intro g1457 hg w1458 hbox hb; replace HS : Aside0 (Sep FF w [b7 g1141 g1143 a1151 a1152 a1153 a1154, b6 g1143 A1146 l1145.length n1148 a1150, r5 A1146 l1145.length n1148 l1145, b9 g1158 g1141, b10 g1160 a1161, b8 g1457 0 0 0] w1458) := ⟨HS.out.box hg hbox hb⟩; clear hg hbox hb; have hc1460 : w1458.cell? ⟨g1457, 0, none⟩ = some (.int .i64 0) := blk_cellv (HS.out.at5) 0 rfl; have hz1461 : w1458.frozen? ⟨g1457, 0, none⟩ = false := blk_fz (HS.out.at5) 0; have hc1462 : w1458.cell? ⟨g1457, 1, none⟩ = some (.int .i64 0) := blk_cellv (HS.out.at5) 1 rfl; have hz1463 : w1458.frozen? ⟨g1457, 1, none⟩ = false := blk_fz (HS.out.at5) 1; have hc1464 : w1458.cell? ⟨g1457, 2, none⟩ = some (.int .i64 0) := blk_cellv (HS.out.at5) 2 rfl; have hz1465 : w1458.frozen? ⟨g1457, 2, none⟩ = false := blk_fz (HS.out.at5) 2) | ((with_reducible refine gate_store (t := 166) (p := 9) rfl ?_); refine store_event (w1 := (World.setCell (World.setCell (World.setCell w1458 ⟨g1457, 0, none⟩ (.int .i64 t1454.1)) ⟨g1457, 1, none⟩ (.int .i64 t1454.2.1)) ⟨g1457, 2, none⟩ (.int .i64 t1454.2.2.1))) rfl (t := 166) (p := 9) rfl rfl ?hr ?_; (case hr => first | (go_simp; done) | (go_simp; rfl)); intro w1466 hst; clear hc1460 hz1461 hc1462 hz1463 hc1464 hz1465; replace HS : Aside0 (Sep FF w [b7 g1141 g1143 a1151 a1152 a1153 a1154, b6 g1143 A1146 l1145.length n1148 a1150, r5 A1146 l1145.length n1148 l1145, b9 g1158 g1141, b10 g1160 a1161, b8 g1457 t1454.1 t1454.2.1 t1454.2.2.1] w1466) := ⟨by rw [hst]; exact HS.out.setAll (l1 := [b7 g1141 g1143 a1151 a1152 a1153 a1154, b6 g1143 A1146 l1145.length n1148 a1150, r5 A1146 l1145.length n1148 l1145, b9 g1158 g1141, b10 g1160 a1161]) (l2 := []) [.int .i64 t1454.1, .int .i64 t1454.2.1, .int .i64 t1454.2.2.1] rfl⟩; clear hst; replace HS : Aside0 (Sep FF w [b7 g1141 g1143 a1151 a1152 a1153 a1154, b6 g1143 A1146 l1145.length n1148 a1150, r5 A1146 l1145.length n1148 l1145, b9 g1158 g1141, b10 g1160 a1161] w1466) := ⟨HS.out.sub (.cons_cons _ (.cons_cons _ (.cons_cons _ (.cons_cons _ (.cons_cons _ (.cons _ .slnil))))))⟩))
    go_ret
    rw [← some_eq H]
    exact ⟨(by first | rfl | (simp [IntKind.wrap_u32]; done)), HS.out⟩

set_option maxHeartbeats 30000000 in
set_option maxRecDepth 100000 in
theorem chain_Add.calls (l1120 : List Int) (a1125 : Int) (a1126 : Int) (a1127 : Int) (a1128 : Int) (a1129 : Int) (a1130 : Int) (a1131 : Int) (g1116 : Nat) (g1118 : Nat) (A1121 : Option Addr) (m1122 : Nat) (n1123 : Nat) (r : Bool × Int × List Int) (w : World)  (HGl0 : Aside0 (Gl 0 #[.int .i64 0, .int .i64 0, .int .i64 0, .int .i64 0, .int .i64 0] (fps [b7 g1116 g1118 a1126 a1127 a1128 a1129, b6 g1118 A1121 m1122 n1123 a1125, r5 A1121 m1122 n1123 l1120]) w)) (HS : Aside0 (Sep (fps [b7 g1116 g1118 a1126 a1127 a1128 a1129, b6 g1118 A1121 m1122 n1123 a1125, r5 A1121 m1122 n1123 l1120]) w [b7 g1116 g1118 a1126 a1127 a1128 a1129, b6 g1118 A1121 m1122 n1123 a1125, r5 A1121 m1122 n1123 l1120] w)) (H : Aside0 (chain_Add.f l1120 a1125 a1126 a1127 a1128 a1129 a1130 a1131 = some r)) :
    Calls Tryd.prog 117 #[.pointer (some ⟨g1116, 0, none⟩), .int .i64 a1130, .int .i64 a1131] w fun e w' => e = .returned (.bool r.1) ∧ Sep (fps [b7 g1116 g1118 a1126 a1127 a1128 a1129, b6 g1118 A1121 m1122 n1123 a1125, r5 A1121 m1122 n1123 l1120]) w [b7 g1116 g1118 a1126 a1127 a1128 a1129, b6 g1118 A1121 m1122 n1123 r.2.1, r5 A1121 m1122 n1123 r.2.2] w' := by
  generalize (fps [b7 g1116 g1118 a1126 a1127 a1128 a1129, b6 g1118 A1121 m1122 n1123 a1125, r5 A1121 m1122 n1123 l1120]) = FF at HS HGl0 ⊢
  obtain rfl := (row_len (HS.out.at2)).symm
  unfold chain_Add.f at H
  go_enter Tryd.func117, Tryd.ntmps117
  go_wp2_with (first | ((with_reducible refine gate_dst (N := 3) rfl ?_); refine box_on ?hg (N := 3) ?hd (cs := #[.pointer (some ⟨g1116, 0, none⟩)]) (t := 25) ?hr ?_; (case hd => rfl); (case hg => rfl); (case hr => first | (go_simp; done) | (go_simp; rfl)); intro g1491 hg w1492 hbox hb; replace HS : Aside0 (Sep FF w [b7 g1116 g1118 a1126 a1127 a1128 a1129, b6 g1118 A1121 l1120.length n1123 a1125, r5 A1121 l1120.length n1123 l1120, b9 g1491 g1116] w1492) := ⟨HS.out.box hg hbox hb⟩; clear hg hbox hb) | ((with_reducible refine gate_dst (N := 5) rfl ?_); refine box_on ?hg (N := 5) ?hd (cs := #[.int .i64 a1131]) (t := 3) ?hr ?_; (case hd => rfl); (case hg => rfl); (case hr => first | (go_simp; done) | (go_simp; rfl)); intro g1494 hg w1495 hbox hb; replace HS : Aside0 (Sep FF w [b7 g1116 g1118 a1126 a1127 a1128 a1129, b6 g1118 A1121 l1120.length n1123 a1125, r5 A1121 l1120.length n1123 l1120, b9 g1491 g1116, b10 g1494 a1131] w1495) := ⟨HS.out.box hg hbox hb⟩; clear hg hbox hb; have hc1497 : w1495.cell? ⟨g1491, 0, none⟩ = some (.pointer (some ⟨g1116, 0, none⟩)) := blk_cellv (HS.out.at3) 0 rfl; have hc1498 : w1495.cell? ⟨g1494, 0, none⟩ = some (.int .i64 a1131) := blk_cellv (HS.out.at4) 0 rfl))
  clear hc1497 hc1498
  obtain ⟨t1499, HA1500, H⟩ := bind_some H
  refine (chain_put_F143.calls l1120 a1125 a1126 a1127 a1128 a1129 a1130 a1131 a1131 g1116 g1118 A1121 l1120.length n1123 g1491 g1494 t1499 _ ⟨HGl0.out.pass HS.out⟩ ⟨HS.out.begin⟩ HA1500).mono ?_
  rintro e_ w1501 ⟨rfl, hS⟩
  replace HS : Aside0 (Sep FF w [b7 g1116 g1118 a1126 a1127 a1128 a1129, b6 g1118 A1121 l1120.length n1123 t1499.2.1, r5 A1121 l1120.length n1123 t1499.2.2, b9 g1491 g1116, b10 g1494 a1131] w1501) := ⟨HS.out.call hS⟩
  clear hS
  replace HS : Aside0 (Sep FF w [b7 g1116 g1118 a1126 a1127 a1128 a1129, b6 g1118 A1121 l1120.length n1123 t1499.2.1, r5 A1121 l1120.length n1123 t1499.2.2] w1501) := ⟨HS.out.sub (.cons_cons _ (.cons_cons _ (.cons_cons _ (.cons _ (.cons _ .slnil)))))⟩
  go_wp2_with fail
  go_ret
  rw [← some_eq H]
  exact ⟨(by first | rfl | (simp [IntKind.wrap_u32]; done)), HS.out⟩

set_option maxHeartbeats 30000000 in
set_option maxRecDepth 100000 in
theorem pool_Open.calls (k : Nat) (l819 : List Int) (a824 : Int) (a825 : Int) (a826 : Int) (a827 : Int) (a828 : Int) (g815 : Nat) (g817 : Nat) (A820 : Option Addr) (m821 : Nat) (n822 : Nat) (r : Bool × Int × List Int) (w : World)  (HGl0 : Aside0 (Gl 0 #[.int .i64 0, .int .i64 0, .int .i64 0, .int .i64 0, .int .i64 0] (fps [b7 g815 g817 a825 a826 a827 a828, b6 g817 A820 m821 n822 a824, r5 A820 m821 n822 l819]) w)) (HS : Aside0 (Sep (fps [b7 g815 g817 a825 a826 a827 a828, b6 g817 A820 m821 n822 a824, r5 A820 m821 n822 l819]) w [b7 g815 g817 a825 a826 a827 a828, b6 g817 A820 m821 n822 a824, r5 A820 m821 n822 l819] w)) (H : Aside0 (pool_Open.f k l819 a824 a825 a826 a827 a828 = some r)) :
    Calls Tryd.prog 62 #[.pointer (some ⟨g815, 0, none⟩)] w fun e w' => e = .returned (.bool r.1) ∧ Sep (fps [b7 g815 g817 a825 a826 a827 a828, b6 g817 A820 m821 n822 a824, r5 A820 m821 n822 l819]) w [b7 g815 g817 a825 a826 a827 a828, b6 g817 A820 m821 n822 r.2.1, r5 A820 m821 n822 r.2.2] w' := by
  generalize (fps [b7 g815 g817 a825 a826 a827 a828, b6 g817 A820 m821 n822 a824, r5 A820 m821 n822 l819]) = FF at HS HGl0 ⊢
  obtain rfl := (row_len (HS.out.at2)).symm
  unfold pool_Open.f at H
  go_enter Tryd.func62, Tryd.ntmps62
  go_wp2_with fail
  obtain ⟨t1515, HA1516, H⟩ := bind_some H
  refine (chain_Len.calls l819 a824 a825 a826 a827 a828 0 g815 g817 A820 l819.length n822 t1515 _ ⟨HGl0.out.pass HS.out⟩ ⟨HS.out.begin⟩ HA1516).mono ?_
  rintro e_ w1517 ⟨rfl, hS⟩
  replace HS : Aside0 (Sep FF w [b7 g815 g817 a825 a826 a827 a828, b6 g817 A820 l819.length n822 t1515.2, r5 A820 l819.length n822 l819] w1517) := ⟨HS.out.call hS⟩
  clear hS
  by_cases c1518 : t1515.1 > 0
  · replace H := if_yes c1518 H
    have c1518b0 : decide (0 < t1515.1) = true := decide_eq_true c1518
    clear c1518
    go_wp2_with fail
    go_ret
    rw [← some_eq H]
    exact ⟨(by first | rfl | (simp [IntKind.wrap_u32]; done)), HS.out⟩
  · replace H := if_no c1518 H
    have c1518b0 : decide (0 < t1515.1) = false := decide_eq_false c1518
    clear c1518
    go_wp2_with fail
    obtain ⟨t1519, HA1520, H⟩ := bind_some H
    refine (ground_Ground_Conf.calls l819 t1515.2 a825 a826 a827 a828 g815 g817 A820 l819.length n822 t1519 _ ⟨HGl0.out.pass HS.out⟩ ⟨HS.out.begin⟩ HA1520).mono ?_
    rintro e_ w1521 ⟨rfl, hS⟩
    replace HS : Aside0 (Sep FF w [b7 g815 g817 a825 a826 a827 a828, b6 g817 A820 l819.length n822 t1515.2, r5 A820 l819.length n822 l819] w1521) := ⟨HS.out.call hS⟩
    clear hS
    have fl1522 : ∀ w, (Instr.field 30 (.agg #[.int .i64 t1519.1, .int .i64 t1519.2.1, .int .i64 t1519.2.2.1, .int .i64 t1519.2.2.2]) 0).run Tryd.prog w = .ok (.int .i64 t1519.1) w := fun _ => by kernel_rfl
    go_wp2_with fail
    clear fl1522
    obtain ⟨o1533, AL1534, H⟩ := bind_some H
    go_loopg [14] k (fun kq v14 wc => ∃ (x1537 : Int) (x1538 : List Int) (x1539 : Int), v14 = .int .i64 x1537 ∧ Aside0 (pool_Open.lo0 kq a825 a826 a827 a828 t1519 x1537 x1538 x1539 = some o1533) ∧ Aside0 (Sep FF w [b7 g815 g817 a825 a826 a827 a828, b6 g817 A820 l819.length n822 x1539, r5 A820 l819.length n822 x1538] wc))
    case atStart => exact ⟨(0), (l819), (t1515.2), (by first | rfl | (simp [IntKind.wrap_u32]; done)), AL1534, ⟨HS.out⟩⟩
    case round =>
      clear AL1534 HS
      obtain ⟨x1537, x1538, x1539, rfl, AL1534, HS⟩ := hrel
      obtain ⟨w1535, rfl⟩ : ∃ x : World, x = wr := ⟨_, rfl⟩
      cases gk with
      | zero => exact absurd AL1534.out (by simp [pool_Open.lo0])
      | succ k1536 =>
        have AL0 := AL1534.out
        rw [pool_Open.lo0] at AL0
        clear AL1534
        have AL1534 := Aside0.mk AL0
        clear AL0
        by_cases c1540 : x1537 < t1519.1
        · replace AL1534 := if_yes c1540 AL1534
          have c1540b0 : decide (x1537 < t1519.1) = true := decide_eq_true c1540
          clear c1540
          go_wp2_with fail
          obtain ⟨t1530, HA1541, AL1534⟩ := bind_some AL1534
          refine (chain_Add.calls x1538 x1539 a825 a826 a827 a828 0 x1537 g815 g817 A820 l819.length n822 t1530 _ ⟨HGl0.out.pass HS.out⟩ ⟨HS.out.begin⟩ HA1541).mono ?_
          rintro e_ w1542 ⟨rfl, hS⟩
          replace HS : Aside0 (Sep FF w [b7 g815 g817 a825 a826 a827 a828, b6 g817 A820 l819.length n822 t1530.2.1, r5 A820 l819.length n822 t1530.2.2] w1542) := ⟨HS.out.call hS⟩
          clear hS
          go_wp2_with fail
          go_roundg k1536
          case measure => exact Nat.lt_succ_self _
          case rel => exact ⟨(wrap64 (x1537 + 1)), (t1530.2.2), (t1530.2.1), (by first | rfl | (simp [IntKind.wrap_u32]; done)), Aside0.mk AL1534.out, ⟨HS.out⟩⟩
        · replace AL1534 := if_no c1540 AL1534
          have c1540b0 : decide (x1537 < t1519.1) = false := decide_eq_false c1540
          clear c1540
          have ho := some_eq AL1534
          subst ho
          clear AL1534
          go_wp2_with fail
          go_ret
          rw [← some_eq H]
          exact ⟨(by first | rfl | (simp [IntKind.wrap_u32]; done)), HS.out⟩

set_option maxHeartbeats 30000000 in
set_option maxRecDepth 100000 in
theorem shape_isWidth.calls (a1580 : Int) (r : Bool) (w : World)  (HGl0 : Aside0 (Gl 0 #[.int .i64 0, .int .i64 0, .int .i64 0, .int .i64 0, .int .i64 0] (fps []) w)) (HS : Aside0 (Sep (fps []) w [] w)) (H : Aside0 (shape_isWidth.f a1580 = some r)) :
    Calls Tryd.prog 144 #[.int .i64 a1580] w fun e w' => e = .returned (.bool r) ∧ Sep (fps []) w [] w' := by
  unfold shape_isWidth.f at H
  go_enter Tryd.func144, Tryd.ntmps144
  by_cases c1581 : a1580 ≥ 16
  · replace H := if_yes c1581 H
    have c1581b0 : decide (16 ≤ a1580) = true := decide_eq_true c1581
    clear c1581
    go_wp2_with fail
    go_ret
    rw [← some_eq H]
    exact ⟨(by first | rfl | (simp [IntKind.wrap_u32]; done)), HS.out⟩
  · replace H := if_no c1581 H
    have c1581b0 : decide (16 ≤ a1580) = false := decide_eq_false c1581
    clear c1581
    go_wp2_with fail
    go_ret
    rw [← some_eq H]
    exact ⟨(by first | rfl | (simp [IntKind.wrap_u32]; done)), HS.out⟩

set_option maxHeartbeats 30000000 in
set_option maxRecDepth 100000 in
theorem shape_inHead.calls (a1587 : Int) (r : Int) (w : World)  (HGl0 : Aside0 (Gl 0 #[.int .i64 0, .int .i64 0, .int .i64 0, .int .i64 0, .int .i64 0] (fps []) w)) (HS : Aside0 (Sep (fps []) w [] w)) (H : Aside0 (shape_inHead.f a1587 = some r)) :
    Calls Tryd.prog 146 #[.int .i64 a1587] w fun e w' => e = .returned (.int .i64 r) ∧ Sep (fps []) w [] w' := by
  unfold shape_inHead.f at H
  go_enter Tryd.func146, Tryd.ntmps146
  go_wp2_with fail
  go_ret
  rw [← some_eq H]
  exact ⟨(by first | rfl | (simp [IntKind.wrap_u32]; done)), HS.out⟩

set_option maxHeartbeats 30000000 in
set_option maxRecDepth 100000 in
theorem shape_inLeaf.calls (a1591 : Int) (r : Int) (w : World)  (HGl0 : Aside0 (Gl 0 #[.int .i64 0, .int .i64 0, .int .i64 0, .int .i64 0, .int .i64 0] (fps []) w)) (HS : Aside0 (Sep (fps []) w [] w)) (H : Aside0 (shape_inLeaf.f a1591 = some r)) :
    Calls Tryd.prog 120 #[.int .i64 a1591] w fun e w' => e = .returned (.int .i64 r) ∧ Sep (fps []) w [] w' := by
  unfold shape_inLeaf.f at H
  go_enter Tryd.func120, Tryd.ntmps120
  go_wp2_with fail
  go_ret
  rw [← some_eq H]
  exact ⟨(by first | rfl | (simp [IntKind.wrap_u32]; done)), HS.out⟩

set_option maxHeartbeats 30000000 in
set_option maxRecDepth 100000 in
theorem shape_most.calls (a1586 : Int) (r : Int) (w : World)  (HGl0 : Aside0 (Gl 0 #[.int .i64 0, .int .i64 0, .int .i64 0, .int .i64 0, .int .i64 0] (fps []) w)) (HS : Aside0 (Sep (fps []) w [] w)) (H : Aside0 (shape_most.f a1586 = some r)) :
    Calls Tryd.prog 145 #[.int .i64 a1586] w fun e w' => e = .returned (.int .i64 r) ∧ Sep (fps []) w [] w' := by
  unfold shape_most.f at H
  go_enter Tryd.func145, Tryd.ntmps145
  go_wp2_with fail
  obtain ⟨t1588, HA1589, H⟩ := bind_some H
  refine (shape_inHead.calls a1586 t1588 _ ⟨HGl0.out.pass (l := []) HS.out⟩ ⟨Sep.start _⟩ HA1589).mono ?_
  rintro e_ w1590 ⟨rfl, hS⟩
  replace HS : Aside0 (Sep (fps []) w [] w1590) := ⟨HS.out.call hS⟩
  clear hS
  go_wp2_with fail
  obtain ⟨t1592, HA1593, H⟩ := bind_some H
  refine (shape_inLeaf.calls a1586 t1592 _ ⟨HGl0.out.pass (l := []) HS.out⟩ ⟨Sep.start _⟩ HA1593).mono ?_
  rintro e_ w1594 ⟨rfl, hS⟩
  replace HS : Aside0 (Sep (fps []) w [] w1594) := ⟨HS.out.call hS⟩
  clear hS
  go_wp2_with fail
  go_ret
  rw [← some_eq H]
  exact ⟨(by first | rfl | (simp [IntKind.wrap_u32]; done)), HS.out⟩

set_option maxHeartbeats 30000000 in
set_option maxRecDepth 100000 in
theorem shape_wrong.calls (k : Nat) (a1575 : Int) (l1576 : List Int) (A1577 : Option Addr) (n1578 : Nat) (r : Int) (w : World) (HR1579 : Aside0 (Rd (Kd.int .i64) (fps []) w A1577 l1576.length l1576)) (HGl0 : Aside0 (Gl 0 #[.int .i64 0, .int .i64 0, .int .i64 0, .int .i64 0, .int .i64 0] (fps []) w)) (HS : Aside0 (Sep (fps []) w [] w)) (H : Aside0 (shape_wrong.f k a1575 l1576 = some r)) :
    Calls Tryd.prog 118 #[.int .i64 a1575, .slice A1577 l1576.length n1578] w fun e w' => e = .returned (.int .i64 r) ∧ Sep (fps []) w [] w' := by
  unfold shape_wrong.f at H
  go_enter Tryd.func118, Tryd.ntmps118
  go_wp2_with fail
  obtain ⟨t1582, HA1583, H⟩ := bind_some H
  refine (shape_isWidth.calls a1575 t1582 _ ⟨HGl0.out.pass (l := []) HS.out⟩ ⟨Sep.start _⟩ HA1583).mono ?_
  rintro e_ w1584 ⟨rfl, hS⟩
  replace HS : Aside0 (Sep (fps []) w [] w1584) := ⟨HS.out.call hS⟩
  clear hS
  by_cases c1585 : t1582 = true
  · replace H := if_yes c1585 H
    have c1585b0 : t1582 = true := c1585
    have c1585b1 : (!t1582) = false := by rw [c1585b0]; rfl
    try rw [c1585b1]
    clear c1585
    go_wp2_with fail
    obtain ⟨t1595, HA1596, H⟩ := bind_some H
    refine (shape_most.calls a1575 t1595 _ ⟨HGl0.out.pass (l := []) HS.out⟩ ⟨Sep.start _⟩ HA1596).mono ?_
    rintro e_ w1597 ⟨rfl, hS⟩
    replace HS : Aside0 (Sep (fps []) w [] w1597) := ⟨HS.out.call hS⟩
    clear hS
    go_wp2_with fail
    obtain ⟨o1610, AL1611, H⟩ := bind_some H
    go_loopg [5, 15] k (fun kq v5 v15 wc => ∃ (x1614 : Int) (x1615 : Int), v5 = .int .i64 x1614 ∧ v15 = .int .i64 x1615 ∧ Aside0 (shape_wrong.lo0 kq l1576 x1614 x1615 = some o1610) ∧ Aside0 (Sep (fps []) w [] wc))
    case atStart => exact ⟨(t1595), (0), (by first | rfl | (simp [IntKind.wrap_u32]; done)), (by first | rfl | (simp [IntKind.wrap_u32]; done)), AL1611, ⟨HS.out⟩⟩
    case round =>
      clear AL1611 HS
      obtain ⟨x1614, x1615, rfl, rfl, AL1611, HS⟩ := hrel
      obtain ⟨w1612, rfl⟩ : ∃ x : World, x = wr := ⟨_, rfl⟩
      cases gk with
      | zero => exact absurd AL1611.out (by simp [shape_wrong.lo0])
      | succ k1613 =>
        have AL0 := AL1611.out
        rw [shape_wrong.lo0] at AL0
        clear AL1611
        have AL1611 := Aside0.mk AL0
        clear AL0
        by_cases c1616 : x1615 < (l1576.length : Int)
        · replace AL1611 := if_yes c1616 AL1611
          have c1616b0 : decide (x1615 < (l1576.length : Int)) = true := decide_eq_true c1616
          clear c1616
          by_cases c1617 : 0 ≤ x1615
          · replace AL1611 := if_yes c1617 AL1611
            have c1617b0 : decide (0 ≤ x1615) = true := decide_eq_true c1617
            have c1617p : (0 ≤ x1615) = True := eq_true c1617
            clear c1617
            have ip1618 : (x1615 < (l1576.length : Int)) = True := eq_true (of_decide_eq_true c1616b0)
            by_cases c1620 : (rd l1576 x1615) < 0
            · replace AL1611 := if_yes c1620 AL1611
              have c1620b0 : decide ((rd l1576 x1615) < 0) = true := decide_eq_true c1620
              clear c1620
              obtain ⟨hx1619a, hx1619e, hx1619⟩ := Kd.at_int (Rd.read (fun _ _ _ _ h => h) HR1579.out HS.out.fr) x1615 (of_decide_eq_true c1617b0) (of_decide_eq_true c1616b0); cases hx1619e
              go_wp2_with fail
              clear hx1619
              have ho := some_eq AL1611
              subst ho
              have H := lp_ret H
              go_ret
              rw [← some_eq H]
              exact ⟨(by first | rfl | (simp [IntKind.wrap_u32]; done)), HS.out⟩
            · replace AL1611 := if_no c1620 AL1611
              have c1620b0 : decide ((rd l1576 x1615) < 0) = false := decide_eq_false c1620
              clear c1620
              by_cases c1621 : (rd l1576 x1615) > x1614
              · replace AL1611 := if_yes c1621 AL1611
                have c1621b0 : decide (x1614 < (rd l1576 x1615)) = true := decide_eq_true c1621
                clear c1621
                obtain ⟨hx1619a, hx1619e, hx1619⟩ := Kd.at_int (Rd.read (fun _ _ _ _ h => h) HR1579.out HS.out.fr) x1615 (of_decide_eq_true c1617b0) (of_decide_eq_true c1616b0); cases hx1619e
                go_wp2_with fail
                clear hx1619
                have ho := some_eq AL1611
                subst ho
                have H := lp_ret H
                go_ret
                rw [← some_eq H]
                exact ⟨(by first | rfl | (simp [IntKind.wrap_u32]; done)), HS.out⟩
              · replace AL1611 := if_no c1621 AL1611
                have c1621b0 : decide (x1614 < (rd l1576 x1615)) = false := decide_eq_false c1621
                clear c1621
                obtain ⟨hx1619a, hx1619e, hx1619⟩ := Kd.at_int (Rd.read (fun _ _ _ _ h => h) HR1579.out HS.out.fr) x1615 (of_decide_eq_true c1617b0) (of_decide_eq_true c1616b0); cases hx1619e
                go_wp2_with fail
                clear hx1619
                go_roundg k1613
                case measure => exact Nat.lt_succ_self _
                case rel => exact ⟨(wrap64 (x1614 - (rd l1576 x1615))), (wrap64 (x1615 + 1)), (by first | rfl | (simp [IntKind.wrap_u32]; done)), (by first | rfl | (simp [IntKind.wrap_u32]; done)), Aside0.mk AL1611.out, ⟨HS.out⟩⟩
          · replace AL1611 := if_no c1617 AL1611
            have c1617b0 : decide (0 ≤ x1615) = false := decide_eq_false c1617
            clear c1617
            exact (none_no AL1611).elim
        · replace AL1611 := if_no c1616 AL1611
          have c1616b0 : decide (x1615 < (l1576.length : Int)) = false := decide_eq_false c1616
          clear c1616
          have ho := some_eq AL1611
          subst ho
          clear AL1611
          have H := lp_out H
          go_wp2_with fail
          go_ret
          rw [← some_eq H]
          exact ⟨(by first | rfl | (simp [IntKind.wrap_u32]; done)), HS.out⟩
  · replace H := if_no c1585 H
    have c1585b0 : t1582 = false := by simpa using c1585
    have c1585b1 : (!t1582) = true := by rw [c1585b0]; rfl
    try rw [c1585b1]
    clear c1585
    go_wp2_with fail
    go_ret
    rw [← some_eq H]
    exact ⟨(by first | rfl | (simp [IntKind.wrap_u32]; done)), HS.out⟩

set_option maxHeartbeats 30000000 in
set_option maxRecDepth 100000 in
theorem shape_leaves.calls (a1627 : Int) (a1628 : Int) (r : Int) (w : World)  (HGl0 : Aside0 (Gl 0 #[.int .i64 0, .int .i64 0, .int .i64 0, .int .i64 0, .int .i64 0] (fps []) w)) (HS : Aside0 (Sep (fps []) w [] w)) (H : Aside0 (shape_leaves.f a1627 a1628 = some r)) :
    Calls Tryd.prog 119 #[.int .i64 a1627, .int .i64 a1628] w fun e w' => e = .returned (.int .i64 r) ∧ Sep (fps []) w [] w' := by
  unfold shape_leaves.f at H
  go_enter Tryd.func119, Tryd.ntmps119
  go_wp2_with fail
  obtain ⟨t1629, HA1630, H⟩ := bind_some H
  refine (shape_inHead.calls a1627 t1629 _ ⟨HGl0.out.pass (l := []) HS.out⟩ ⟨Sep.start _⟩ HA1630).mono ?_
  rintro e_ w1631 ⟨rfl, hS⟩
  replace HS : Aside0 (Sep (fps []) w [] w1631) := ⟨HS.out.call hS⟩
  clear hS
  by_cases c1632 : a1628 ≤ t1629
  · replace H := if_yes c1632 H
    have c1632b0 : decide (a1628 ≤ t1629) = true := decide_eq_true c1632
    clear c1632
    go_wp2_with fail
    go_ret
    rw [← some_eq H]
    exact ⟨(by first | rfl | (simp [IntKind.wrap_u32]; done)), HS.out⟩
  · replace H := if_no c1632 H
    have c1632b0 : decide (a1628 ≤ t1629) = false := decide_eq_false c1632
    clear c1632
    go_wp2_with fail
    obtain ⟨t1633, HA1634, H⟩ := bind_some H
    refine (shape_inLeaf.calls a1627 t1633 _ ⟨HGl0.out.pass (l := []) HS.out⟩ ⟨Sep.start _⟩ HA1634).mono ?_
    rintro e_ w1635 ⟨rfl, hS⟩
    replace HS : Aside0 (Sep (fps []) w [] w1635) := ⟨HS.out.call hS⟩
    clear hS
    go_wp2_with fail
    obtain ⟨t1636, HA1637, H⟩ := bind_some H
    refine (ratio_Up.calls a1628 t1633 t1636 _ ⟨HGl0.out.pass (l := []) HS.out⟩ ⟨Sep.start _⟩ HA1637).mono ?_
    rintro e_ w1638 ⟨rfl, hS⟩
    replace HS : Aside0 (Sep (fps []) w [] w1638) := ⟨HS.out.call hS⟩
    clear hS
    go_wp2_with fail
    go_ret
    rw [← some_eq H]
    exact ⟨(by first | rfl | (simp [IntKind.wrap_u32]; done)), HS.out⟩

set_option maxHeartbeats 30000000 in
set_option maxRecDepth 100000 in
theorem shape_Blocks.calls (k : Nat) (a1569 : Int) (a1570 : Int) (a1571 : Int) (r : Int × Int) (w : World)  (HGl0 : Aside0 (Gl 0 #[.int .i64 0, .int .i64 0, .int .i64 0, .int .i64 0, .int .i64 0] (fps []) w)) (HS : Aside0 (Sep (fps []) w [] w)) (H : Aside0 (shape_Blocks.f k a1569 a1570 a1571 = some r)) :
    Calls Tryd.prog 97 #[.int .i64 a1569, .int .i64 a1570, .int .i64 a1571] w fun e w' => e = .returned (.tuple #[.int .i64 r.1, .int .i64 r.2]) ∧ Sep (fps []) w [] w' := by
  unfold shape_Blocks.f at H
  go_enter Tryd.func97, Tryd.ntmps97
  go_wp2_with (first | ((with_reducible refine gate_dst (N := 12) rfl ?_); refine slice_on (n := 2) ?hg (N := 12) ?hd (cs := #[.int .i64 a1570, .int .i64 a1571]) (t := 3) ?hr ?_; (case hd => rfl); (case hg => rfl); (case hr => first | (go_simp; done) | (go_simp; rfl)); intro g1572 hg w1573 hbox hb; replace HS : Aside0 (Sep (fps []) w [b3 g1572 a1570 a1571] w1573) := ⟨HS.out.box hg hbox hb⟩; clear hg hbox hb))
  obtain ⟨t1623, HA1624, H⟩ := bind_some H
  refine (shape_wrong.calls _ a1569 [a1570, a1571] (some ⟨g1572, 0, none⟩) 2 t1623 _ ⟨Rd.lit (l := []) (xs := [a1570, a1571]) HS.out 0 rfl (by simp)⟩ ⟨HGl0.out.pass (l := []) HS.out⟩ ⟨Sep.start _⟩ HA1624).mono ?_
  rintro e_ w1625 ⟨rfl, hS⟩
  replace HS : Aside0 (Sep (fps []) w [b3 g1572 a1570 a1571] w1625) := ⟨HS.out.call hS⟩
  clear hS
  by_cases c1626 : t1623 = 0
  · replace H := if_yes c1626 H
    have c1626b0 : (t1623 == 0) = true := beq_iff_eq.mpr c1626
    have c1626b1 : (t1623 != 0) = false := bne_eq_false_iff_eq.mpr c1626
    clear c1626
    replace HS : Aside0 (Sep (fps []) w [] w1625) := ⟨HS.out.sub (.cons _ .slnil)⟩
    go_wp2_with fail
    obtain ⟨t1639, HA1640, H⟩ := bind_some H
    refine (shape_leaves.calls a1569 (wrap64 (a1570 + a1571)) t1639 _ ⟨HGl0.out.pass (l := []) HS.out⟩ ⟨Sep.start _⟩ HA1640).mono ?_
    rintro e_ w1641 ⟨rfl, hS⟩
    replace HS : Aside0 (Sep (fps []) w [] w1641) := ⟨HS.out.call hS⟩
    clear hS
    go_wp2_with fail
    go_ret2
    rw [← some_eq H]
    exact ⟨(by first | rfl | (simp [IntKind.wrap_u32]; done)), HS.out⟩
  · replace H := if_no c1626 H
    have c1626b0 : (t1623 == 0) = false := beq_eq_false_iff_ne.mpr c1626
    have c1626b1 : (t1623 != 0) = true := bne_iff_ne.mpr c1626
    clear c1626
    replace HS : Aside0 (Sep (fps []) w [] w1625) := ⟨HS.out.sub (.cons _ .slnil)⟩
    go_wp2_with fail
    go_ret2
    rw [← some_eq H]
    exact ⟨(by first | rfl | (simp [IntKind.wrap_u32]; done)), HS.out⟩

set_option maxHeartbeats 30000000 in
set_option maxRecDepth 100000 in
theorem pool_Len.calls (l1651 : List Int) (a1656 : Int) (a1657 : Int) (a1658 : Int) (a1659 : Int) (a1660 : Int) (g1647 : Nat) (g1649 : Nat) (A1652 : Option Addr) (m1653 : Nat) (n1654 : Nat) (r : Int × Int) (w : World)  (HGl0 : Aside0 (Gl 0 #[.int .i64 0, .int .i64 0, .int .i64 0, .int .i64 0, .int .i64 0] (fps [b7 g1647 g1649 a1657 a1658 a1659 a1660, b6 g1649 A1652 m1653 n1654 a1656, r5 A1652 m1653 n1654 l1651]) w)) (HS : Aside0 (Sep (fps [b7 g1647 g1649 a1657 a1658 a1659 a1660, b6 g1649 A1652 m1653 n1654 a1656, r5 A1652 m1653 n1654 l1651]) w [b7 g1647 g1649 a1657 a1658 a1659 a1660, b6 g1649 A1652 m1653 n1654 a1656, r5 A1652 m1653 n1654 l1651] w)) (H : Aside0 (pool_Len.f l1651 a1656 a1657 a1658 a1659 a1660 = some r)) :
    Calls Tryd.prog 44 #[.pointer (some ⟨g1647, 0, none⟩)] w fun e w' => e = .returned (.int .i64 r.1) ∧ Sep (fps [b7 g1647 g1649 a1657 a1658 a1659 a1660, b6 g1649 A1652 m1653 n1654 a1656, r5 A1652 m1653 n1654 l1651]) w [b7 g1647 g1649 a1657 a1658 a1659 a1660, b6 g1649 A1652 m1653 n1654 r.2, r5 A1652 m1653 n1654 l1651] w' := by
  generalize (fps [b7 g1647 g1649 a1657 a1658 a1659 a1660, b6 g1649 A1652 m1653 n1654 a1656, r5 A1652 m1653 n1654 l1651]) = FF at HS HGl0 ⊢
  obtain rfl := (row_len (HS.out.at2)).symm
  unfold pool_Len.f at H
  go_enter Tryd.func44, Tryd.ntmps44
  go_wp2_with fail
  obtain ⟨t1664, HA1665, H⟩ := bind_some H
  refine (chain_Len.calls l1651 a1656 a1657 a1658 a1659 a1660 0 g1647 g1649 A1652 l1651.length n1654 t1664 _ ⟨HGl0.out.pass HS.out⟩ ⟨HS.out.begin⟩ HA1665).mono ?_
  rintro e_ w1666 ⟨rfl, hS⟩
  replace HS : Aside0 (Sep FF w [b7 g1647 g1649 a1657 a1658 a1659 a1660, b6 g1649 A1652 l1651.length n1654 t1664.2, r5 A1652 l1651.length n1654 l1651] w1666) := ⟨HS.out.call hS⟩
  clear hS
  go_wp2_with fail
  go_ret
  rw [← some_eq H]
  exact ⟨(by first | rfl | (simp [IntKind.wrap_u32]; done)), HS.out⟩

set_option maxHeartbeats 30000000 in
set_option maxRecDepth 100000 in
theorem ground_Ground_Word.calls (l1757 : List Int) (a1762 : Int) (a1763 : Int) (a1764 : Int) (a1765 : Int) (a1766 : Int) (a1767 : Int) (a1768 : Int) (g1753 : Nat) (g1755 : Nat) (A1758 : Option Addr) (m1759 : Nat) (n1760 : Nat) (r : Int × Int) (w : World)  (HGl0 : Aside0 (Gl 0 #[.int .i64 0, .int .i64 0, .int .i64 0, .int .i64 0, .int .i64 0] (fps [b7 g1753 g1755 a1763 a1764 a1765 a1766, b6 g1755 A1758 m1759 n1760 a1762, r5 A1758 m1759 n1760 l1757]) w)) (HS : Aside0 (Sep (fps [b7 g1753 g1755 a1763 a1764 a1765 a1766, b6 g1755 A1758 m1759 n1760 a1762, r5 A1758 m1759 n1760 l1757]) w [b7 g1753 g1755 a1763 a1764 a1765 a1766, b6 g1755 A1758 m1759 n1760 a1762, r5 A1758 m1759 n1760 l1757] w)) (H : Aside0 (ground_Ground_Word.f l1757 a1762 a1763 a1764 a1765 a1766 a1767 a1768 = some r)) :
    Calls Tryd.prog 84 #[.pointer (some ⟨g1753, 0, none⟩), .int .i64 a1767, .int .i64 a1768] w fun e w' => e = .returned (.int .u32 r.1) ∧ Sep (fps [b7 g1753 g1755 a1763 a1764 a1765 a1766, b6 g1755 A1758 m1759 n1760 a1762, r5 A1758 m1759 n1760 l1757]) w [b7 g1753 g1755 a1763 a1764 a1765 a1766, b6 g1755 A1758 m1759 n1760 r.2, r5 A1758 m1759 n1760 l1757] w' := by
  generalize (fps [b7 g1753 g1755 a1763 a1764 a1765 a1766, b6 g1755 A1758 m1759 n1760 a1762, r5 A1758 m1759 n1760 l1757]) = FF at HS HGl0 ⊢
  obtain rfl := (row_len (HS.out.at2)).symm
  unfold ground_Ground_Word.f at H
  go_enter Tryd.func84, Tryd.ntmps84
  go_wp2_with fail
  obtain ⟨t1778, HA1779, H⟩ := bind_some H
  refine (ground_Ground_all.calls l1757 a1762 a1763 a1764 a1765 a1766 g1753 g1755 A1758 l1757.length n1760 t1778 _ ⟨HGl0.out.pass HS.out⟩ ⟨HS.out.begin⟩ HA1779).mono ?_
  rintro e_ w1780 ⟨rfl, hS⟩
  replace HS : Aside0 (Sep FF w [b7 g1753 g1755 a1763 a1764 a1765 a1766, b6 g1755 A1758 l1757.length n1760 a1762, r5 A1758 l1757.length n1760 l1757] w1780) := ⟨HS.out.call hS⟩
  clear hS
  go_wp2_with fail
  obtain ⟨t1781, HA1782, H⟩ := bind_some H
  refine (ground_Ground_word.calls l1757 a1762 a1763 a1764 a1765 a1766 a1767 a1768 g1753 g1755 A1758 l1757.length n1760 t1781 _ ⟨HGl0.out.pass HS.out⟩ ⟨HS.out.begin⟩ HA1782).mono ?_
  rintro e_ w1783 ⟨rfl, hS⟩
  replace HS : Aside0 (Sep FF w [b7 g1753 g1755 a1763 a1764 a1765 a1766, b6 g1755 A1758 l1757.length n1760 a1762, r5 A1758 l1757.length n1760 l1757] w1783) := ⟨HS.out.call hS⟩
  clear hS
  go_wp2_with fail
  replace HS : Aside0 (Sep FF w [r5 A1758 l1757.length n1760 l1757, b7 g1753 g1755 a1763 a1764 a1765 a1766, b6 g1755 A1758 l1757.length n1760 a1762] w1783) := ⟨HS.out.front 2 (by simp)⟩
  replace HS : Aside0 (Sep FF w [b6 g1755 A1758 l1757.length n1760 a1762, r5 A1758 l1757.length n1760 l1757, b7 g1753 g1755 a1763 a1764 a1765 a1766] w1783) := ⟨HS.out.front 2 (by simp)⟩
  obtain ⟨t1784, HA1785, H⟩ := bind_some H
  refine (store_Store_Get.calls l1757 a1762 t1781 g1755 A1758 l1757.length n1760 t1784 _ ⟨HGl0.out.pass HS.out⟩ ⟨HS.out.begin⟩ HA1785).mono ?_
  rintro e_ w1786 ⟨rfl, hS⟩
  replace HS : Aside0 (Sep FF w [b6 g1755 A1758 l1757.length n1760 t1784.2, r5 A1758 l1757.length n1760 l1757, b7 g1753 g1755 a1763 a1764 a1765 a1766] w1786) := ⟨HS.out.call hS⟩
  clear hS
  go_wp2_with fail
  go_ret
  rw [← some_eq H]
  exact ⟨(by first | rfl | (simp [IntKind.wrap_u32]; done)), ((((HS.out).front 1 (by simp)).front 1 (by simp)).front 2 (by simp)).keep (l := [b7 g1753 g1755 a1763 a1764 a1765 a1766, b6 g1755 A1758 l1757.length n1760 t1784.2, r5 A1758 l1757.length n1760 l1757]) (rest := [])⟩

set_option maxHeartbeats 30000000 in
set_option maxRecDepth 100000 in
theorem chain_Take.calls (l1703 : List Int) (a1708 : Int) (a1709 : Int) (a1710 : Int) (a1711 : Int) (a1712 : Int) (a1713 : Int) (g1699 : Nat) (g1701 : Nat) (A1704 : Option Addr) (m1705 : Nat) (n1706 : Nat) (r : Int × Bool × Int × List Int) (w : World)  (HGl0 : Aside0 (Gl 0 #[.int .i64 0, .int .i64 0, .int .i64 0, .int .i64 0, .int .i64 0] (fps [b7 g1699 g1701 a1709 a1710 a1711 a1712, b6 g1701 A1704 m1705 n1706 a1708, r5 A1704 m1705 n1706 l1703]) w)) (HS : Aside0 (Sep (fps [b7 g1699 g1701 a1709 a1710 a1711 a1712, b6 g1701 A1704 m1705 n1706 a1708, r5 A1704 m1705 n1706 l1703]) w [b7 g1699 g1701 a1709 a1710 a1711 a1712, b6 g1701 A1704 m1705 n1706 a1708, r5 A1704 m1705 n1706 l1703] w)) (H : Aside0 (chain_Take.f l1703 a1708 a1709 a1710 a1711 a1712 a1713 = some r)) :
    Calls Tryd.prog 135 #[.pointer (some ⟨g1699, 0, none⟩), .int .i64 a1713] w fun e w' => e = .returned (.tuple #[.int .i64 r.1, .bool r.2.1]) ∧ Sep (fps [b7 g1699 g1701 a1709 a1710 a1711 a1712, b6 g1701 A1704 m1705 n1706 a1708, r5 A1704 m1705 n1706 l1703]) w [b7 g1699 g1701 a1709 a1710 a1711 a1712, b6 g1701 A1704 m1705 n1706 r.2.2.1, r5 A1704 m1705 n1706 r.2.2.2] w' := by
  generalize (fps [b7 g1699 g1701 a1709 a1710 a1711 a1712, b6 g1701 A1704 m1705 n1706 a1708, r5 A1704 m1705 n1706 l1703]) = FF at HS HGl0 ⊢
  obtain rfl := (row_len (HS.out.at2)).symm
  unfold chain_Take.f at H
  go_enter Tryd.func135, Tryd.ntmps135
  go_wp2_with fail
  obtain ⟨t1810, HA1811, H⟩ := bind_some H
  refine (chain_of.calls l1703 a1708 a1709 a1710 a1711 a1712 a1713 g1699 g1701 A1704 l1703.length n1706 t1810 _ ⟨HGl0.out.pass HS.out⟩ ⟨HS.out.begin⟩ HA1811).mono ?_
  rintro e_ w1812 ⟨rfl, hS⟩
  replace HS : Aside0 (Sep FF w [b7 g1699 g1701 a1709 a1710 a1711 a1712, b6 g1701 A1704 l1703.length n1706 a1708, r5 A1704 l1703.length n1706 l1703] w1812) := ⟨HS.out.call hS⟩
  clear hS
  by_cases c1823 : t1810.2.2.2 = true
  · replace H := if_yes c1823 H
    have c1823b0 : t1810.2.2.2 = true := c1823
    have c1823b1 : (!t1810.2.2.2) = false := by rw [c1823b0]; rfl
    try rw [c1823b1]
    clear c1823
    go_wp2_with (first | ((with_reducible refine gate_dst (N := 6) rfl ?_); refine box_on ?hg (N := 6) ?hd (cs := #[.int .i64 0, .int .i64 0, .int .i64 0]) (t := 166) ?hr ?_; (case hd => rfl); (case hg => rfl); (case hr => first | (go_simp; done) | (go_simp; rfl)); intro g1813 hg w1814 hbox hb; replace HS : Aside0 (Sep FF w [b7 g1699 g1701 a1709 a1710 a1711 a1712, b6 g1701 A1704 l1703.length n1706 a1708, r5 A1704 l1703.length n1706 l1703, b8 g1813 0 0 0] w1814) := ⟨HS.out.box hg hbox hb⟩; clear hg hbox hb; have hc1816 : w1814.cell? ⟨g1813, 0, none⟩ = some (.int .i64 0) := blk_cellv (HS.out.at3) 0 rfl; have hz1817 : w1814.frozen? ⟨g1813, 0, none⟩ = false := blk_fz (HS.out.at3) 0; have hc1818 : w1814.cell? ⟨g1813, 1, none⟩ = some (.int .i64 0) := blk_cellv (HS.out.at3) 1 rfl; have hz1819 : w1814.frozen? ⟨g1813, 1, none⟩ = false := blk_fz (HS.out.at3) 1; have hc1820 : w1814.cell? ⟨g1813, 2, none⟩ = some (.int .i64 0) := blk_cellv (HS.out.at3) 2 rfl; have hz1821 : w1814.frozen? ⟨g1813, 2, none⟩ = false := blk_fz (HS.out.at3) 2) | ((with_reducible refine gate_store (t := 166) (p := 6) rfl ?_); refine store_event (w1 := (World.setCell (World.setCell (World.setCell w1814 ⟨g1813, 0, none⟩ (.int .i64 t1810.1)) ⟨g1813, 1, none⟩ (.int .i64 t1810.2.1)) ⟨g1813, 2, none⟩ (.int .i64 t1810.2.2.1))) rfl (t := 166) (p := 6) rfl rfl ?hr ?_; (case hr => first | (go_simp; done) | (go_simp; rfl)); intro w1822 hst; clear hc1816 hz1817 hc1818 hz1819 hc1820 hz1821; replace HS : Aside0 (Sep FF w [b7 g1699 g1701 a1709 a1710 a1711 a1712, b6 g1701 A1704 l1703.length n1706 a1708, r5 A1704 l1703.length n1706 l1703, b8 g1813 t1810.1 t1810.2.1 t1810.2.2.1] w1822) := ⟨by rw [hst]; exact HS.out.setAll (l1 := [b7 g1699 g1701 a1709 a1710 a1711 a1712, b6 g1701 A1704 l1703.length n1706 a1708, r5 A1704 l1703.length n1706 l1703]) (l2 := []) [.int .i64 t1810.1, .int .i64 t1810.2.1, .int .i64 t1810.2.2.1] rfl⟩; clear hst; have hc1824 : w1822.cell? ⟨g1813, 0, none⟩ = some (.int .i64 t1810.1) := blk_cellv (HS.out.at3) 0 rfl))
    clear hc1824
    obtain ⟨t1825, HA1826, H⟩ := bind_some H
    refine (ground_Ground_Reg.calls l1703 a1708 a1709 a1710 a1711 a1712 t1810.1 g1699 g1701 A1704 l1703.length n1706 t1825 _ ⟨HGl0.out.pass HS.out⟩ ⟨HS.out.begin⟩ HA1826).mono ?_
    rintro e_ w1827 ⟨rfl, hS⟩
    replace HS : Aside0 (Sep FF w [b7 g1699 g1701 a1709 a1710 a1711 a1712, b6 g1701 A1704 l1703.length n1706 t1825.2, r5 A1704 l1703.length n1706 l1703, b8 g1813 t1810.1 t1810.2.1 t1810.2.2.1] w1827) := ⟨HS.out.call hS⟩
    clear hS
    by_cases c1828 : t1825.1 = 0
    · replace H := if_yes c1828 H
      have c1828b0 : (t1825.1 == 0) = true := beq_iff_eq.mpr c1828
      have c1828b1 : (t1825.1 != 0) = false := bne_eq_false_iff_eq.mpr c1828
      clear c1828
      replace HS : Aside0 (Sep FF w [b7 g1699 g1701 a1709 a1710 a1711 a1712, b6 g1701 A1704 l1703.length n1706 t1825.2, r5 A1704 l1703.length n1706 l1703] w1827) := ⟨HS.out.sub (.cons_cons _ (.cons_cons _ (.cons_cons _ (.cons _ .slnil))))⟩
      go_wp2_with fail
      go_ret2
      rw [← some_eq H]
      exact ⟨(by first | rfl | (simp [IntKind.wrap_u32]; done)), HS.out⟩
    · replace H := if_no c1828 H
      have c1828b0 : (t1825.1 == 0) = false := beq_eq_false_iff_ne.mpr c1828
      have c1828b1 : (t1825.1 != 0) = true := bne_iff_ne.mpr c1828
      clear c1828
      go_wp2_with fail
      obtain ⟨t1829, HA1830, H⟩ := bind_some H
      refine (ground_Ground_Word.calls l1703 t1825.2 a1709 a1710 a1711 a1712 (wrap64 (t1825.1 - 1)) 5 g1699 g1701 A1704 l1703.length n1706 t1829 _ ⟨HGl0.out.pass HS.out⟩ ⟨HS.out.begin⟩ HA1830).mono ?_
      rintro e_ w1831 ⟨rfl, hS⟩
      replace HS : Aside0 (Sep FF w [b7 g1699 g1701 a1709 a1710 a1711 a1712, b6 g1701 A1704 l1703.length n1706 t1829.2, r5 A1704 l1703.length n1706 l1703, b8 g1813 t1810.1 t1810.2.1 t1810.2.2.1] w1831) := ⟨HS.out.call hS⟩
      clear hS
      go_wp2_with fail
      obtain ⟨t1832, HA1833, H⟩ := bind_some H
      refine (ground_Ground_SetWord.calls l1703 t1829.2 a1709 a1710 a1711 a1712 (wrap64 (t1825.1 - 1)) 5 0 g1699 g1701 A1704 l1703.length n1706 t1832 _ ⟨HGl0.out.pass HS.out⟩ ⟨HS.out.begin⟩ HA1833).mono ?_
      rintro e_ w1834 ⟨rfl, hS⟩
      replace HS : Aside0 (Sep FF w [b7 g1699 g1701 a1709 a1710 a1711 a1712, b6 g1701 A1704 l1703.length n1706 t1832.2.1, r5 A1704 l1703.length n1706 t1832.2.2, b8 g1813 t1810.1 t1810.2.1 t1810.2.2.1] w1834) := ⟨HS.out.call hS⟩
      clear hS
      have hc1835 : w1834.cell? ⟨g1813, 0, none⟩ = some (.int .i64 t1810.1) := blk_cellv (HS.out.at3) 0 rfl
      go_wp2_with fail
      clear hc1835
      obtain ⟨t1836, HA1837, H⟩ := bind_some H
      refine (ground_Ground_SetReg.calls t1832.2.2 t1832.2.1 a1709 a1710 a1711 a1712 t1810.1 (wrap64 (t1829.1)) g1699 g1701 A1704 l1703.length n1706 t1836 _ ⟨HGl0.out.pass HS.out⟩ ⟨HS.out.begin⟩ HA1837).mono ?_
      rintro e_ w1838 ⟨rfl, hS⟩
      replace HS : Aside0 (Sep FF w [b7 g1699 g1701 a1709 a1710 a1711 a1712, b6 g1701 A1704 l1703.length n1706 t1836.2.1, r5 A1704 l1703.length n1706 t1836.2.2, b8 g1813 t1810.1 t1810.2.1 t1810.2.2.1] w1838) := ⟨HS.out.call hS⟩
      clear hS
      by_cases c1839 : (wrap64 (t1829.1)) = 0
      · replace H := if_yes c1839 H
        have c1839b0 : ((wrap64 (t1829.1)) == 0) = true := beq_iff_eq.mpr c1839
        have c1839b1 : ((wrap64 (t1829.1)) != 0) = false := bne_eq_false_iff_eq.mpr c1839
        clear c1839
        have hc1840 : w1838.cell? ⟨g1813, 1, none⟩ = some (.int .i64 t1810.2.1) := blk_cellv (HS.out.at3) 1 rfl
        go_wp2_with fail
        clear hc1840
        obtain ⟨t1841, HA1842, H⟩ := bind_some H
        refine (ground_Ground_SetReg.calls t1836.2.2 t1836.2.1 a1709 a1710 a1711 a1712 t1810.2.1 0 g1699 g1701 A1704 l1703.length n1706 t1841 _ ⟨HGl0.out.pass HS.out⟩ ⟨HS.out.begin⟩ HA1842).mono ?_
        rintro e_ w1843 ⟨rfl, hS⟩
        replace HS : Aside0 (Sep FF w [b7 g1699 g1701 a1709 a1710 a1711 a1712, b6 g1701 A1704 l1703.length n1706 t1841.2.1, r5 A1704 l1703.length n1706 t1841.2.2, b8 g1813 t1810.1 t1810.2.1 t1810.2.2.1] w1843) := ⟨HS.out.call hS⟩
        clear hS
        go_wp2_with fail
        refine start_ (n := 9) (S := (fun w' => w'.cell? ⟨g1813, 2, none⟩ = some (.int .i64 t1810.2.2.1))) (ds := []) #[false, false, false, false, false, false, false, false, false] (by kernel_rfl) rfl rfl (blk_cellv ((HS.out.drew).at3) 2 rfl) (fun hHeld => ?_)
        have HS_ := Aside0.mk HS.out.drew
        clear HS
        generalize World.drew _ = w1845 at HS_ hHeld ⊢
        have HS := HS_
        clear HS_
        refine pure_ (i := 0) (N := some 44) (v := ?_) (a' := ?_) #[true, false, false, false, false, false, false, false, false] rfl rfl (by kernel_rfl) (fun _ _ _ h => h) (Or.inl ⟨by rfl, ?_⟩) ?_ ?_
        rotate_left
        · intro w'
          go_simp
          with_reducible rfl
        rotate_left
        · simp only [Act.put, List.setIfInBounds_toArray, List.set_cons_zero, List.set_cons_succ, i64_w, i32_w]
          rfl
        refine pure_ (i := 1) (N := some 45) (v := ?_) (a' := ?_) #[true, true, false, false, false, false, false, false, false] rfl rfl (by kernel_rfl) (fun _ _ _ h => h) (Or.inl ⟨by rfl, ?_⟩) ?_ ?_
        rotate_left
        · intro w'
          go_simp
          with_reducible rfl
        rotate_left
        · simp only [Act.put, List.setIfInBounds_toArray, List.set_cons_zero, List.set_cons_succ, i64_w, i32_w]
          rfl
        refine pure_ (i := 3) (N := some 47) (v := ?_) (a' := ?_) #[true, true, false, true, false, false, false, false, false] rfl rfl (by kernel_rfl) (fun _ _ _ h => h) (Or.inl ⟨by rfl, ?_⟩) ?_ ?_
        rotate_left
        · intro w'
          go_simp
          with_reducible rfl
        rotate_left
        · simp only [Act.put, List.setIfInBounds_toArray, List.set_cons_zero, List.set_cons_succ, i64_w, i32_w]
          rfl
        refine pure_ (i := 4) (N := some 48) (v := ?_) (a' := ?_) #[true, true, false, true, true, false, false, false, false] rfl rfl (by kernel_rfl) (fun _ _ _ h => h) (Or.inl ⟨by rfl, ?_⟩) ?_ ?_
        rotate_left
        · intro w'
          go_simp
          with_reducible rfl
        rotate_left
        · simp only [Act.put, List.setIfInBounds_toArray, List.set_cons_zero, List.set_cons_succ, i64_w, i32_w]
          rfl
        refine take_ (i := 2) (N := some 46) (v := ?_) (a' := ?_) #[true, true, true, true, true, false, false, false, false] rfl rfl (by kernel_rfl) (fun _ _ _ h => h) (Or.inl ⟨by rfl, ?_⟩) hHeld ?_ ?_
        rotate_left
        · rintro w' hS'
          have s0 := hS'
          go_simp
          with_reducible rfl
        rotate_left
        · simp only [Act.put, List.setIfInBounds_toArray, List.set_cons_zero, List.set_cons_succ, i64_w, i32_w]
          rfl
        refine take_ (i := 5) (N := some 49) (v := ?_) (a' := ?_) #[true, true, true, true, true, true, false, false, false] rfl rfl (by kernel_rfl) (fun _ _ _ h => h) (Or.inl ⟨by rfl, ?_⟩) hHeld ?_ ?_
        rotate_left
        · rintro w' hS'
          have s0 := hS'
          go_simp
          with_reducible rfl
        rotate_left
        · simp only [Act.put, List.setIfInBounds_toArray, List.set_cons_zero, List.set_cons_succ, i64_w, i32_w]
          rfl
        refine one_ (i := 6) (N := some 50) #[true, true, true, true, true, true, true, false, false] rfl rfl (by kernel_rfl) (by decide) (fun K hK => ?_)
        obtain ⟨t1846, HA1847, H⟩ := bind_some H
        refine goes_ Tryd.func81 (by kernel_rfl) rfl #[.pointer (some ⟨g1699, 0, none⟩), .int .i64 t1810.2.2.1] (by rfl) rfl rfl (by (try simp only [List.map_toArray, List.map_cons, List.map_nil]); first | done | rfl) ?_
        refine (ground_Ground_Reg.calls t1841.2.2 t1841.2.1 a1709 a1710 a1711 a1712 t1810.2.2.1 g1699 g1701 A1704 l1703.length n1706 t1846 _ ⟨HGl0.out.pass HS.out⟩ ⟨HS.out.begin⟩ HA1847).mono ?_
        rintro e_ w1848 ⟨rfl, hS⟩
        replace HS : Aside0 (Sep FF w [b7 g1699 g1701 a1709 a1710 a1711 a1712, b6 g1701 A1704 l1703.length n1706 t1846.2, r5 A1704 l1703.length n1706 t1841.2.2, b8 g1813 t1810.1 t1810.2.1 t1810.2.2.1] w1848) := ⟨HS.out.call hS⟩
        clear hS
        refine ⟨_, rfl, ?_⟩
        refine hK.out _ _ (blk_cellv (HS.out.at3) 2 rfl) (fun hHeld => ?_)
        clear hK K
        refine norm_ (a' := ?_) ?_ ?_
        rotate_left
        · show Act.put _ (some 50) _ = _
          simp only [Act.put, List.setIfInBounds_toArray, List.set_cons_zero, List.set_cons_succ, i64_w, i32_w]
          rfl
        refine pure_ (i := 7) (N := some 51) (v := ?_) (a' := ?_) #[true, true, true, true, true, true, true, true, false] rfl rfl (by kernel_rfl) (fun _ _ _ h => h) (Or.inl ⟨by rfl, ?_⟩) ?_ ?_
        rotate_left
        · intro w'
          go_simp
          with_reducible rfl
        rotate_left
        · simp only [Act.put, List.setIfInBounds_toArray, List.set_cons_zero, List.set_cons_succ, i64_w, i32_w]
          rfl
        refine one_ (i := 8) (N := some 52) #[true, true, true, true, true, true, true, true, true] rfl rfl (by kernel_rfl) (by decide) (fun K hK => ?_)
        obtain ⟨t1849, HA1850, H⟩ := bind_some H
        refine goes_ Tryd.func83 (by kernel_rfl) rfl #[.pointer (some ⟨g1699, 0, none⟩), .int .i64 t1810.2.2.1, .int .i64 (wrap64 (t1846.1 - 1))] (by rfl) rfl rfl (by (try simp only [List.map_toArray, List.map_cons, List.map_nil]); first | done | rfl) ?_
        refine (ground_Ground_SetReg.calls t1841.2.2 t1846.2 a1709 a1710 a1711 a1712 t1810.2.2.1 (wrap64 (t1846.1 - 1)) g1699 g1701 A1704 l1703.length n1706 t1849 _ ⟨HGl0.out.pass HS.out⟩ ⟨HS.out.begin⟩ HA1850).mono ?_
        rintro e_ w1851 ⟨rfl, hS⟩
        replace HS : Aside0 (Sep FF w [b7 g1699 g1701 a1709 a1710 a1711 a1712, b6 g1701 A1704 l1703.length n1706 t1849.2.1, r5 A1704 l1703.length n1706 t1849.2.2, b8 g1813 t1810.1 t1810.2.1 t1810.2.2.1] w1851) := ⟨HS.out.call hS⟩
        clear hS
        refine ⟨_, rfl, ?_⟩
        refine hK.out _ _ (blk_cellv (HS.out.at3) 2 rfl) (fun hHeld => ?_)
        clear hK K
        refine norm_ (a' := ?_) ?_ ?_
        rotate_left
        · show Act.put _ (some 52) _ = _
          simp only [Act.put, List.setIfInBounds_toArray, List.set_cons_zero, List.set_cons_succ, i64_w, i32_w]
          rfl
        refine done_ (by kernel_rfl) ?_
        replace HS : Aside0 (Sep FF w [b7 g1699 g1701 a1709 a1710 a1711 a1712, b6 g1701 A1704 l1703.length n1706 t1849.2.1, r5 A1704 l1703.length n1706 t1849.2.2] w1851) := ⟨HS.out.sub (.cons_cons _ (.cons_cons _ (.cons_cons _ (.cons _ .slnil))))⟩
        go_wp2_with fail
        go_ret2
        rw [← some_eq H]
        exact ⟨(by first | rfl | (simp [IntKind.wrap_u32]; done)), HS.out⟩
      · replace H := if_no c1839 H
        have c1839b0 : ((wrap64 (t1829.1)) == 0) = false := beq_eq_false_iff_ne.mpr c1839
        have c1839b1 : ((wrap64 (t1829.1)) != 0) = true := bne_iff_ne.mpr c1839
        clear c1839
        go_wp2_with fail
        refine start_ (n := 9) (S := (fun w' => w'.cell? ⟨g1813, 2, none⟩ = some (.int .i64 t1810.2.2.1))) (ds := []) #[false, false, false, false, false, false, false, false, false] (by kernel_rfl) rfl rfl (blk_cellv ((HS.out.drew).at3) 2 rfl) (fun hHeld => ?_)
        have HS_ := Aside0.mk HS.out.drew
        clear HS
        generalize World.drew _ = w1853 at HS_ hHeld ⊢
        have HS := HS_
        clear HS_
        refine pure_ (i := 0) (N := some 44) (v := ?_) (a' := ?_) #[true, false, false, false, false, false, false, false, false] rfl rfl (by kernel_rfl) (fun _ _ _ h => h) (Or.inl ⟨by rfl, ?_⟩) ?_ ?_
        rotate_left
        · intro w'
          go_simp
          with_reducible rfl
        rotate_left
        · simp only [Act.put, List.setIfInBounds_toArray, List.set_cons_zero, List.set_cons_succ, i64_w, i32_w]
          rfl
        refine pure_ (i := 1) (N := some 45) (v := ?_) (a' := ?_) #[true, true, false, false, false, false, false, false, false] rfl rfl (by kernel_rfl) (fun _ _ _ h => h) (Or.inl ⟨by rfl, ?_⟩) ?_ ?_
        rotate_left
        · intro w'
          go_simp
          with_reducible rfl
        rotate_left
        · simp only [Act.put, List.setIfInBounds_toArray, List.set_cons_zero, List.set_cons_succ, i64_w, i32_w]
          rfl
        refine pure_ (i := 3) (N := some 47) (v := ?_) (a' := ?_) #[true, true, false, true, false, false, false, false, false] rfl rfl (by kernel_rfl) (fun _ _ _ h => h) (Or.inl ⟨by rfl, ?_⟩) ?_ ?_
        rotate_left
        · intro w'
          go_simp
          with_reducible rfl
        rotate_left
        · simp only [Act.put, List.setIfInBounds_toArray, List.set_cons_zero, List.set_cons_succ, i64_w, i32_w]
          rfl
        refine pure_ (i := 4) (N := some 48) (v := ?_) (a' := ?_) #[true, true, false, true, true, false, false, false, false] rfl rfl (by kernel_rfl) (fun _ _ _ h => h) (Or.inl ⟨by rfl, ?_⟩) ?_ ?_
        rotate_left
        · intro w'
          go_simp
          with_reducible rfl
        rotate_left
        · simp only [Act.put, List.setIfInBounds_toArray, List.set_cons_zero, List.set_cons_succ, i64_w, i32_w]
          rfl
        refine take_ (i := 2) (N := some 46) (v := ?_) (a' := ?_) #[true, true, true, true, true, false, false, false, false] rfl rfl (by kernel_rfl) (fun _ _ _ h => h) (Or.inl ⟨by rfl, ?_⟩) hHeld ?_ ?_
        rotate_left
        · rintro w' hS'
          have s0 := hS'
          go_simp
          with_reducible rfl
        rotate_left
        · simp only [Act.put, List.setIfInBounds_toArray, List.set_cons_zero, List.set_cons_succ, i64_w, i32_w]
          rfl
        refine take_ (i := 5) (N := some 49) (v := ?_) (a' := ?_) #[true, true, true, true, true, true, false, false, false] rfl rfl (by kernel_rfl) (fun _ _ _ h => h) (Or.inl ⟨by rfl, ?_⟩) hHeld ?_ ?_
        rotate_left
        · rintro w' hS'
          have s0 := hS'
          go_simp
          with_reducible rfl
        rotate_left
        · simp only [Act.put, List.setIfInBounds_toArray, List.set_cons_zero, List.set_cons_succ, i64_w, i32_w]
          rfl
        refine one_ (i := 6) (N := some 50) #[true, true, true, true, true, true, true, false, false] rfl rfl (by kernel_rfl) (by decide) (fun K hK => ?_)
        obtain ⟨t1846, HA1854, H⟩ := bind_some H
        refine goes_ Tryd.func81 (by kernel_rfl) rfl #[.pointer (some ⟨g1699, 0, none⟩), .int .i64 t1810.2.2.1] (by rfl) rfl rfl (by (try simp only [List.map_toArray, List.map_cons, List.map_nil]); first | done | rfl) ?_
        refine (ground_Ground_Reg.calls t1836.2.2 t1836.2.1 a1709 a1710 a1711 a1712 t1810.2.2.1 g1699 g1701 A1704 l1703.length n1706 t1846 _ ⟨HGl0.out.pass HS.out⟩ ⟨HS.out.begin⟩ HA1854).mono ?_
        rintro e_ w1855 ⟨rfl, hS⟩
        replace HS : Aside0 (Sep FF w [b7 g1699 g1701 a1709 a1710 a1711 a1712, b6 g1701 A1704 l1703.length n1706 t1846.2, r5 A1704 l1703.length n1706 t1836.2.2, b8 g1813 t1810.1 t1810.2.1 t1810.2.2.1] w1855) := ⟨HS.out.call hS⟩
        clear hS
        refine ⟨_, rfl, ?_⟩
        refine hK.out _ _ (blk_cellv (HS.out.at3) 2 rfl) (fun hHeld => ?_)
        clear hK K
        refine norm_ (a' := ?_) ?_ ?_
        rotate_left
        · show Act.put _ (some 50) _ = _
          simp only [Act.put, List.setIfInBounds_toArray, List.set_cons_zero, List.set_cons_succ, i64_w, i32_w]
          rfl
        refine pure_ (i := 7) (N := some 51) (v := ?_) (a' := ?_) #[true, true, true, true, true, true, true, true, false] rfl rfl (by kernel_rfl) (fun _ _ _ h => h) (Or.inl ⟨by rfl, ?_⟩) ?_ ?_
        rotate_left
        · intro w'
          go_simp
          with_reducible rfl
        rotate_left
        · simp only [Act.put, List.setIfInBounds_toArray, List.set_cons_zero, List.set_cons_succ, i64_w, i32_w]
          rfl
        refine one_ (i := 8) (N := some 52) #[true, true, true, true, true, true, true, true, true] rfl rfl (by kernel_rfl) (by decide) (fun K hK => ?_)
        obtain ⟨t1849, HA1856, H⟩ := bind_some H
        refine goes_ Tryd.func83 (by kernel_rfl) rfl #[.pointer (some ⟨g1699, 0, none⟩), .int .i64 t1810.2.2.1, .int .i64 (wrap64 (t1846.1 - 1))] (by rfl) rfl rfl (by (try simp only [List.map_toArray, List.map_cons, List.map_nil]); first | done | rfl) ?_
        refine (ground_Ground_SetReg.calls t1836.2.2 t1846.2 a1709 a1710 a1711 a1712 t1810.2.2.1 (wrap64 (t1846.1 - 1)) g1699 g1701 A1704 l1703.length n1706 t1849 _ ⟨HGl0.out.pass HS.out⟩ ⟨HS.out.begin⟩ HA1856).mono ?_
        rintro e_ w1857 ⟨rfl, hS⟩
        replace HS : Aside0 (Sep FF w [b7 g1699 g1701 a1709 a1710 a1711 a1712, b6 g1701 A1704 l1703.length n1706 t1849.2.1, r5 A1704 l1703.length n1706 t1849.2.2, b8 g1813 t1810.1 t1810.2.1 t1810.2.2.1] w1857) := ⟨HS.out.call hS⟩
        clear hS
        refine ⟨_, rfl, ?_⟩
        refine hK.out _ _ (blk_cellv (HS.out.at3) 2 rfl) (fun hHeld => ?_)
        clear hK K
        refine norm_ (a' := ?_) ?_ ?_
        rotate_left
        · show Act.put _ (some 52) _ = _
          simp only [Act.put, List.setIfInBounds_toArray, List.set_cons_zero, List.set_cons_succ, i64_w, i32_w]
          rfl
        refine done_ (by kernel_rfl) ?_
        replace HS : Aside0 (Sep FF w [b7 g1699 g1701 a1709 a1710 a1711 a1712, b6 g1701 A1704 l1703.length n1706 t1849.2.1, r5 A1704 l1703.length n1706 t1849.2.2] w1857) := ⟨HS.out.sub (.cons_cons _ (.cons_cons _ (.cons_cons _ (.cons _ .slnil))))⟩
        go_wp2_with fail
        go_ret2
        rw [← some_eq H]
        exact ⟨(by first | rfl | (simp [IntKind.wrap_u32]; done)), HS.out⟩
  · replace H := if_no c1823 H
    have c1823b0 : t1810.2.2.2 = false := by simpa using c1823
    have c1823b1 : (!t1810.2.2.2) = true := by rw [c1823b0]; rfl
    try rw [c1823b1]
    clear c1823
    go_wp2_with (first | ((with_reducible refine gate_dst (N := 6) rfl ?_); refine box_on ?hg (N := 6) ?hd (cs := #[.int .i64 0, .int .i64 0, .int .i64 0]) (t := 166) ?hr ?_; (case hd => rfl); (case hg => rfl); (case hr => first | (go_simp; done) | (go_simp; rfl)); intro g1813 hg w1814 hbox hb; replace HS : Aside0 (Sep FF w [b7 g1699 g1701 a1709 a1710 a1711 a1712, b6 g1701 A1704 l1703.length n1706 a1708, r5 A1704 l1703.length n1706 l1703, b8 g1813 0 0 0] w1814) := ⟨HS.out.box hg hbox hb⟩; clear hg hbox hb; have hc1816 : w1814.cell? ⟨g1813, 0, none⟩ = some (.int .i64 0) := blk_cellv (HS.out.at3) 0 rfl; have hz1817 : w1814.frozen? ⟨g1813, 0, none⟩ = false := blk_fz (HS.out.at3) 0; have hc1818 : w1814.cell? ⟨g1813, 1, none⟩ = some (.int .i64 0) := blk_cellv (HS.out.at3) 1 rfl; have hz1819 : w1814.frozen? ⟨g1813, 1, none⟩ = false := blk_fz (HS.out.at3) 1; have hc1820 : w1814.cell? ⟨g1813, 2, none⟩ = some (.int .i64 0) := blk_cellv (HS.out.at3) 2 rfl; have hz1821 : w1814.frozen? ⟨g1813, 2, none⟩ = false := blk_fz (HS.out.at3) 2) | ((with_reducible refine gate_store (t := 166) (p := 6) rfl ?_); refine store_event (w1 := (World.setCell (World.setCell (World.setCell w1814 ⟨g1813, 0, none⟩ (.int .i64 t1810.1)) ⟨g1813, 1, none⟩ (.int .i64 t1810.2.1)) ⟨g1813, 2, none⟩ (.int .i64 t1810.2.2.1))) rfl (t := 166) (p := 6) rfl rfl ?hr ?_; (case hr => first | (go_simp; done) | (go_simp; rfl)); intro w1822 hst; clear hc1816 hz1817 hc1818 hz1819 hc1820 hz1821; replace HS : Aside0 (Sep FF w [b7 g1699 g1701 a1709 a1710 a1711 a1712, b6 g1701 A1704 l1703.length n1706 a1708, r5 A1704 l1703.length n1706 l1703, b8 g1813 t1810.1 t1810.2.1 t1810.2.2.1] w1822) := ⟨by rw [hst]; exact HS.out.setAll (l1 := [b7 g1699 g1701 a1709 a1710 a1711 a1712, b6 g1701 A1704 l1703.length n1706 a1708, r5 A1704 l1703.length n1706 l1703]) (l2 := []) [.int .i64 t1810.1, .int .i64 t1810.2.1, .int .i64 t1810.2.2.1] rfl⟩; clear hst; replace HS : Aside0 (Sep FF w [b7 g1699 g1701 a1709 a1710 a1711 a1712, b6 g1701 A1704 l1703.length n1706 a1708, r5 A1704 l1703.length n1706 l1703] w1822) := ⟨HS.out.sub (.cons_cons _ (.cons_cons _ (.cons_cons _ (.cons _ .slnil))))⟩))
    go_ret2
    rw [← some_eq H]
    exact ⟨(by first | rfl | (simp [IntKind.wrap_u32]; done)), HS.out⟩

set_option maxHeartbeats 30000000 in
set_option maxRecDepth 100000 in
theorem ground_Ground_Wipe.calls (k : Nat) (l1867 : List Int) (a1872 : Int) (a1873 : Int) (a1874 : Int) (a1875 : Int) (a1876 : Int) (a1877 : Int) (g1863 : Nat) (g1865 : Nat) (A1868 : Option Addr) (m1869 : Nat) (n1870 : Nat) (r : Int × Int × List Int) (w : World)  (HGl0 : Aside0 (Gl 0 #[.int .i64 0, .int .i64 0, .int .i64 0, .int .i64 0, .int .i64 0] (fps [b7 g1863 g1865 a1873 a1874 a1875 a1876, b6 g1865 A1868 m1869 n1870 a1872, r5 A1868 m1869 n1870 l1867]) w)) (HS : Aside0 (Sep (fps [b7 g1863 g1865 a1873 a1874 a1875 a1876, b6 g1865 A1868 m1869 n1870 a1872, r5 A1868 m1869 n1870 l1867]) w [b7 g1863 g1865 a1873 a1874 a1875 a1876, b6 g1865 A1868 m1869 n1870 a1872, r5 A1868 m1869 n1870 l1867] w)) (H : Aside0 (ground_Ground_Wipe.f k l1867 a1872 a1873 a1874 a1875 a1876 a1877 = some r)) :
    Calls Tryd.prog 136 #[.pointer (some ⟨g1863, 0, none⟩), .int .i64 a1877] w fun e w' => e = .returned (.int .i64 r.1) ∧ Sep (fps [b7 g1863 g1865 a1873 a1874 a1875 a1876, b6 g1865 A1868 m1869 n1870 a1872, r5 A1868 m1869 n1870 l1867]) w [b7 g1863 g1865 a1873 a1874 a1875 a1876, b6 g1865 A1868 m1869 n1870 r.2.1, r5 A1868 m1869 n1870 r.2.2] w' := by
  generalize (fps [b7 g1863 g1865 a1873 a1874 a1875 a1876, b6 g1865 A1868 m1869 n1870 a1872, r5 A1868 m1869 n1870 l1867]) = FF at HS HGl0 ⊢
  obtain rfl := (row_len (HS.out.at2)).symm
  unfold ground_Ground_Wipe.f at H
  go_enter Tryd.func136, Tryd.ntmps136
  go_wp2_with fail
  obtain ⟨t1906, HA1907, H⟩ := bind_some H
  refine (ground_Ground_Conf.calls l1867 a1872 a1873 a1874 a1875 a1876 g1863 g1865 A1868 l1867.length n1870 t1906 _ ⟨HGl0.out.pass HS.out⟩ ⟨HS.out.begin⟩ HA1907).mono ?_
  rintro e_ w1908 ⟨rfl, hS⟩
  replace HS : Aside0 (Sep FF w [b7 g1863 g1865 a1873 a1874 a1875 a1876, b6 g1865 A1868 l1867.length n1870 a1872, r5 A1868 l1867.length n1870 l1867] w1908) := ⟨HS.out.call hS⟩
  clear hS
  have fl1909 : ∀ w, (Instr.field 30 (.agg #[.int .i64 t1906.1, .int .i64 t1906.2.1, .int .i64 t1906.2.2.1, .int .i64 t1906.2.2.2]) 1).run Tryd.prog w = .ok (.int .i64 t1906.2.1) w := fun _ => by kernel_rfl
  go_wp2_with fail
  clear fl1909
  obtain ⟨o1922, AL1923, H⟩ := bind_some H
  go_loopg [5, 10] k (fun kq v5 v10 wc => ∃ (x1926 : Int) (x1927 : Int) (x1928 : List Int) (x1929 : Int), v5 = .int .i64 x1926 ∧ v10 = .int .i64 x1927 ∧ Aside0 (ground_Ground_Wipe.lo0 kq a1873 a1874 a1875 a1876 a1877 t1906 x1926 x1927 x1928 x1929 = some o1922) ∧ Aside0 (Sep FF w [b7 g1863 g1865 a1873 a1874 a1875 a1876, b6 g1865 A1868 l1867.length n1870 x1929, r5 A1868 l1867.length n1870 x1928] wc))
  case atStart => exact ⟨(0), (0), (l1867), (a1872), (by first | rfl | (simp [IntKind.wrap_u32]; done)), (by first | rfl | (simp [IntKind.wrap_u32]; done)), AL1923, ⟨HS.out⟩⟩
  case round =>
    clear AL1923 HS
    obtain ⟨x1926, x1927, x1928, x1929, rfl, rfl, AL1923, HS⟩ := hrel
    obtain ⟨w1924, rfl⟩ : ∃ x : World, x = wr := ⟨_, rfl⟩
    cases gk with
    | zero => exact absurd AL1923.out (by simp [ground_Ground_Wipe.lo0])
    | succ k1925 =>
      have AL0 := AL1923.out
      rw [ground_Ground_Wipe.lo0] at AL0
      clear AL1923
      have AL1923 := Aside0.mk AL0
      clear AL0
      by_cases c1930 : x1927 < t1906.2.1
      · replace AL1923 := if_yes c1930 AL1923
        have c1930b0 : decide (x1927 < t1906.2.1) = true := decide_eq_true c1930
        clear c1930
        go_wp2_with fail
        obtain ⟨t1918, HA1931, AL1923⟩ := bind_some AL1923
        refine (ground_Ground_SetWord.calls x1928 x1929 a1873 a1874 a1875 a1876 a1877 x1927 0 g1863 g1865 A1868 l1867.length n1870 t1918 _ ⟨HGl0.out.pass HS.out⟩ ⟨HS.out.begin⟩ HA1931).mono ?_
        rintro e_ w1932 ⟨rfl, hS⟩
        replace HS : Aside0 (Sep FF w [b7 g1863 g1865 a1873 a1874 a1875 a1876, b6 g1865 A1868 l1867.length n1870 t1918.2.1, r5 A1868 l1867.length n1870 t1918.2.2] w1932) := ⟨HS.out.call hS⟩
        clear hS
        by_cases c1933 : t1918.1 = true
        · replace AL1923 := if_yes c1933 AL1923
          have c1933b0 : t1918.1 = true := c1933
          have c1933b1 : (!t1918.1) = false := by rw [c1933b0]; rfl
          clear c1933
          go_wp2_with fail
          go_roundg k1925
          case measure => exact Nat.lt_succ_self _
          case rel => exact ⟨(wrap64 (x1926 + 1)), (wrap64 (x1927 + 1)), (t1918.2.2), (t1918.2.1), (by first | rfl | (simp [IntKind.wrap_u32]; done)), (by first | rfl | (simp [IntKind.wrap_u32]; done)), Aside0.mk AL1923.out, ⟨HS.out⟩⟩
        · replace AL1923 := if_no c1933 AL1923
          have c1933b0 : t1918.1 = false := by simpa using c1933
          have c1933b1 : (!t1918.1) = true := by rw [c1933b0]; rfl
          clear c1933
          go_wp2_with fail
          go_roundg k1925
          case measure => exact Nat.lt_succ_self _
          case rel => exact ⟨(x1926), (wrap64 (x1927 + 1)), (t1918.2.2), (t1918.2.1), (by first | rfl | (simp [IntKind.wrap_u32]; done)), (by first | rfl | (simp [IntKind.wrap_u32]; done)), Aside0.mk AL1923.out, ⟨HS.out⟩⟩
      · replace AL1923 := if_no c1930 AL1923
        have c1930b0 : decide (x1927 < t1906.2.1) = false := decide_eq_false c1930
        clear c1930
        have ho := some_eq AL1923
        subst ho
        clear AL1923
        go_wp2_with fail
        go_ret
        rw [← some_eq H]
        exact ⟨(by first | rfl | (simp [IntKind.wrap_u32]; done)), HS.out⟩

set_option maxHeartbeats 30000000 in
set_option maxRecDepth 100000 in
theorem pool_Take.calls (k : Nat) (l1688 : List Int) (a1693 : Int) (a1694 : Int) (a1695 : Int) (a1696 : Int) (a1697 : Int) (g1684 : Nat) (g1686 : Nat) (A1689 : Option Addr) (m1690 : Nat) (n1691 : Nat) (r : Int × Bool × Int × List Int) (w : World)  (HGl0 : Aside0 (Gl 0 #[.int .i64 0, .int .i64 0, .int .i64 0, .int .i64 0, .int .i64 0] (fps [b7 g1684 g1686 a1694 a1695 a1696 a1697, b6 g1686 A1689 m1690 n1691 a1693, r5 A1689 m1690 n1691 l1688]) w)) (HS : Aside0 (Sep (fps [b7 g1684 g1686 a1694 a1695 a1696 a1697, b6 g1686 A1689 m1690 n1691 a1693, r5 A1689 m1690 n1691 l1688]) w [b7 g1684 g1686 a1694 a1695 a1696 a1697, b6 g1686 A1689 m1690 n1691 a1693, r5 A1689 m1690 n1691 l1688] w)) (H : Aside0 (pool_Take.f k l1688 a1693 a1694 a1695 a1696 a1697 = some r)) :
    Calls Tryd.prog 98 #[.pointer (some ⟨g1684, 0, none⟩)] w fun e w' => e = .returned (.tuple #[.int .i64 r.1, .bool r.2.1]) ∧ Sep (fps [b7 g1684 g1686 a1694 a1695 a1696 a1697, b6 g1686 A1689 m1690 n1691 a1693, r5 A1689 m1690 n1691 l1688]) w [b7 g1684 g1686 a1694 a1695 a1696 a1697, b6 g1686 A1689 m1690 n1691 r.2.2.1, r5 A1689 m1690 n1691 r.2.2.2] w' := by
  generalize (fps [b7 g1684 g1686 a1694 a1695 a1696 a1697, b6 g1686 A1689 m1690 n1691 a1693, r5 A1689 m1690 n1691 l1688]) = FF at HS HGl0 ⊢
  obtain rfl := (row_len (HS.out.at2)).symm
  unfold pool_Take.f at H
  go_enter Tryd.func98, Tryd.ntmps98
  go_wp2_with fail
  obtain ⟨t1938, HA1939, H⟩ := bind_some H
  refine (chain_Take.calls l1688 a1693 a1694 a1695 a1696 a1697 0 g1684 g1686 A1689 l1688.length n1691 t1938 _ ⟨HGl0.out.pass HS.out⟩ ⟨HS.out.begin⟩ HA1939).mono ?_
  rintro e_ w1940 ⟨rfl, hS⟩
  replace HS : Aside0 (Sep FF w [b7 g1684 g1686 a1694 a1695 a1696 a1697, b6 g1686 A1689 l1688.length n1691 t1938.2.2.1, r5 A1689 l1688.length n1691 t1938.2.2.2] w1940) := ⟨HS.out.call hS⟩
  clear hS
  by_cases c1941 : t1938.2.1 = true
  · replace H := if_yes c1941 H
    have c1941b0 : t1938.2.1 = true := c1941
    have c1941b1 : (!t1938.2.1) = false := by rw [c1941b0]; rfl
    try rw [c1941b1]
    clear c1941
    go_wp2_with fail
    obtain ⟨t1942, HA1943, H⟩ := bind_some H
    refine (ground_Ground_Wipe.calls _ t1938.2.2.2 t1938.2.2.1 a1694 a1695 a1696 a1697 t1938.1 g1684 g1686 A1689 l1688.length n1691 t1942 _ ⟨HGl0.out.pass HS.out⟩ ⟨HS.out.begin⟩ HA1943).mono ?_
    rintro e_ w1944 ⟨rfl, hS⟩
    replace HS : Aside0 (Sep FF w [b7 g1684 g1686 a1694 a1695 a1696 a1697, b6 g1686 A1689 l1688.length n1691 t1942.2.1, r5 A1689 l1688.length n1691 t1942.2.2] w1944) := ⟨HS.out.call hS⟩
    clear hS
    go_wp2_with fail
    go_ret2
    rw [← some_eq H]
    exact ⟨(by first | rfl | (simp [IntKind.wrap_u32]; done)), HS.out⟩
  · replace H := if_no c1941 H
    have c1941b0 : t1938.2.1 = false := by simpa using c1941
    have c1941b1 : (!t1938.2.1) = true := by rw [c1941b0]; rfl
    try rw [c1941b1]
    clear c1941
    go_wp2_with fail
    go_ret2
    rw [← some_eq H]
    exact ⟨(by first | rfl | (simp [IntKind.wrap_u32]; done)), HS.out⟩

set_option maxHeartbeats 30000000 in
set_option maxRecDepth 100000 in
theorem tag_marks.calls (a2016 : Int) (a2017 : Int) (a2018 : Int) (a2019 : Int) (a2020 : Int) (a2021 : Int) (a2022 : Int) (r : Int × Int × Int × Int × Int) (w : World)  (HGl0 : Aside0 (Gl 0 #[.int .i64 0, .int .i64 0, .int .i64 0, .int .i64 0, .int .i64 0] (fps []) w)) (HS : Aside0 (Sep (fps []) w [] w)) (H : Aside0 (tag_marks.f a2016 a2017 a2018 a2019 a2020 a2021 a2022 = some r)) :
    Calls Tryd.prog 68 #[.agg #[.int .i64 a2016, .int .i64 a2017, .int .i64 a2018, .int .i64 a2019, .int .i64 a2020, .int .i64 a2021, .int .i64 a2022]] w fun e w' => e = .returned (.agg #[.int .i64 r.1, .int .i64 r.2.1, .int .i64 r.2.2.1, .int .i64 r.2.2.2.1, .int .i64 r.2.2.2.2]) ∧ Sep (fps []) w [] w' := by
  unfold tag_marks.f at H
  go_enter Tryd.func68, Tryd.ntmps68
  go_wp2_with (first | ((with_reducible refine gate_dst (N := 1) rfl ?_); refine box_on ?hg (N := 1) ?hd (cs := #[.int .i64 a2016, .int .i64 a2017, .int .i64 a2018, .int .i64 a2019, .int .i64 a2020, .int .i64 a2021, .int .i64 a2022]) (t := 32) ?hr ?_; (case hd => rfl); (case hg => rfl); (case hr => first | (go_simp; done) | (go_simp; rfl)); intro g2023 hg w2024 hbox hb; replace HS : Aside0 (Sep (fps []) w [b11 g2023 a2016 a2017 a2018 a2019 a2020 a2021 a2022] w2024) := ⟨HS.out.box hg hbox hb⟩; clear hg hbox hb) | ((with_reducible refine gate_dst (N := 2) rfl ?_); refine box_on ?hg (N := 2) ?hd (cs := #[.int .i64 0, .int .i64 0, .int .i64 0, .int .i64 0, .int .i64 0]) (t := 108) ?hr ?_; (case hd => rfl); (case hg => rfl); (case hr => first | (go_simp; done) | (go_simp; rfl)); intro g2026 hg w2027 hbox hb; replace HS : Aside0 (Sep (fps []) w [b11 g2023 a2016 a2017 a2018 a2019 a2020 a2021 a2022, b12 g2026 0 0 0 0 0] w2027) := ⟨HS.out.box hg hbox hb⟩; clear hg hbox hb; have hc2029 : w2027.cell? ⟨g2023, 1, none⟩ = some (.int .i64 a2017) := blk_cellv (HS.out.at0) 1 rfl; have hc2030 : w2027.cell? ⟨g2023, 2, none⟩ = some (.int .i64 a2018) := blk_cellv (HS.out.at0) 2 rfl; have hc2031 : w2027.cell? ⟨g2023, 3, none⟩ = some (.int .i64 a2019) := blk_cellv (HS.out.at0) 3 rfl; have hc2032 : w2027.cell? ⟨g2023, 4, none⟩ = some (.int .i64 a2020) := blk_cellv (HS.out.at0) 4 rfl; have hc2033 : w2027.cell? ⟨g2023, 5, none⟩ = some (.int .i64 a2021) := blk_cellv (HS.out.at0) 5 rfl; have hc2034 : w2027.cell? ⟨g2026, 0, none⟩ = some (.int .i64 0) := blk_cellv (HS.out.at1) 0 rfl; have hz2035 : w2027.frozen? ⟨g2026, 0, none⟩ = false := blk_fz (HS.out.at1) 0; have hc2036 : w2027.cell? ⟨g2026, 1, none⟩ = some (.int .i64 0) := blk_cellv (HS.out.at1) 1 rfl; have hz2037 : w2027.frozen? ⟨g2026, 1, none⟩ = false := blk_fz (HS.out.at1) 1; have hc2038 : w2027.cell? ⟨g2026, 2, none⟩ = some (.int .i64 0) := blk_cellv (HS.out.at1) 2 rfl; have hz2039 : w2027.frozen? ⟨g2026, 2, none⟩ = false := blk_fz (HS.out.at1) 2; have hc2040 : w2027.cell? ⟨g2026, 3, none⟩ = some (.int .i64 0) := blk_cellv (HS.out.at1) 3 rfl; have hz2041 : w2027.frozen? ⟨g2026, 3, none⟩ = false := blk_fz (HS.out.at1) 3; have hc2042 : w2027.cell? ⟨g2026, 4, none⟩ = some (.int .i64 0) := blk_cellv (HS.out.at1) 4 rfl; have hz2043 : w2027.frozen? ⟨g2026, 4, none⟩ = false := blk_fz (HS.out.at1) 4) | ((with_reducible refine gate_store (t := 108) (p := 2) rfl ?_); refine store_event (w1 := (World.setCell (World.setCell (World.setCell (World.setCell (World.setCell w2027 ⟨g2026, 0, none⟩ (.int .i64 a2017)) ⟨g2026, 1, none⟩ (.int .i64 a2018)) ⟨g2026, 2, none⟩ (.int .i64 a2019)) ⟨g2026, 3, none⟩ (.int .i64 a2020)) ⟨g2026, 4, none⟩ (.int .i64 a2021))) rfl (t := 108) (p := 2) rfl rfl ?hr ?_; (case hr => first | (go_simp; done) | (go_simp; rfl)); intro w2044 hst; clear hc2029 hc2030 hc2031 hc2032 hc2033 hc2034 hz2035 hc2036 hz2037 hc2038 hz2039 hc2040 hz2041 hc2042 hz2043; replace HS : Aside0 (Sep (fps []) w [b11 g2023 a2016 a2017 a2018 a2019 a2020 a2021 a2022, b12 g2026 a2017 a2018 a2019 a2020 a2021] w2044) := ⟨by rw [hst]; exact HS.out.setAll (l1 := [b11 g2023 a2016 a2017 a2018 a2019 a2020 a2021 a2022]) (l2 := []) [.int .i64 a2017, .int .i64 a2018, .int .i64 a2019, .int .i64 a2020, .int .i64 a2021] rfl⟩; clear hst; replace HS : Aside0 (Sep (fps []) w [b12 g2026 a2017 a2018 a2019 a2020 a2021] w2044) := ⟨HS.out.sub (.cons _ (.cons_cons _ .slnil))⟩))
  have hc2045 : w2044.cell? ⟨g2026, 0, none⟩ = some (.int .i64 a2017) := blk_cellv (HS.out.at0) 0 rfl
  have hc2046 : w2044.cell? ⟨g2026, 1, none⟩ = some (.int .i64 a2018) := blk_cellv (HS.out.at0) 1 rfl
  have hc2047 : w2044.cell? ⟨g2026, 2, none⟩ = some (.int .i64 a2019) := blk_cellv (HS.out.at0) 2 rfl
  have hc2048 : w2044.cell? ⟨g2026, 3, none⟩ = some (.int .i64 a2020) := blk_cellv (HS.out.at0) 3 rfl
  have hc2049 : w2044.cell? ⟨g2026, 4, none⟩ = some (.int .i64 a2021) := blk_cellv (HS.out.at0) 4 rfl
  refine bodyPost_ret (v := .agg #[.int .i64 a2017, .int .i64 a2018, .int .i64 a2019, .int .i64 a2020, .int .i64 a2021]) (by simp [results, Tryd.results68, go_sem, hc2045, hc2046, hc2047, hc2048, hc2049]) rfl ?_
  rw [← some_eq H]
  exact ⟨(by first | rfl | (simp [IntKind.wrap_u32]; done)), HS.out.sub (.cons _ .slnil)⟩

set_option maxHeartbeats 30000000 in
set_option maxRecDepth 100000 in
theorem tag_Right.calls (k : Nat) (a1999 : Int) (a2000 : Int) (a2001 : Int) (a2002 : Int) (a2003 : Int) (a2004 : Int) (a2005 : Int) (r : Bool) (w : World)  (HGl0 : Aside0 (Gl 0 #[.int .i64 0, .int .i64 0, .int .i64 0, .int .i64 0, .int .i64 0] (fps []) w)) (HS : Aside0 (Sep (fps []) w [] w)) (H : Aside0 (tag_Right.f k a1999 a2000 a2001 a2002 a2003 a2004 a2005 = some r)) :
    Calls Tryd.prog 67 #[.agg #[.int .i64 a1999, .int .i64 a2000, .int .i64 a2001, .int .i64 a2002, .int .i64 a2003, .int .i64 a2004, .int .i64 a2005]] w fun e w' => e = .returned (.bool r) ∧ Sep (fps []) w [] w' := by
  unfold tag_Right.f at H
  go_enter Tryd.func67, Tryd.ntmps67
  go_wp2_with (first | ((with_reducible refine gate_dst (N := 1) rfl ?_); refine box_on ?hg (N := 1) ?hd (cs := #[.int .i64 a1999, .int .i64 a2000, .int .i64 a2001, .int .i64 a2002, .int .i64 a2003, .int .i64 a2004, .int .i64 a2005]) (t := 32) ?hr ?_; (case hd => rfl); (case hg => rfl); (case hr => first | (go_simp; done) | (go_simp; rfl)); intro g2006 hg w2007 hbox hb; replace HS : Aside0 (Sep (fps []) w [b11 g2006 a1999 a2000 a2001 a2002 a2003 a2004 a2005] w2007) := ⟨HS.out.box hg hbox hb⟩; clear hg hbox hb; have hc2009 : w2007.cell? ⟨g2006, 0, none⟩ = some (.int .i64 a1999) := blk_cellv (HS.out.at0) 0 rfl; have hc2010 : w2007.cell? ⟨g2006, 1, none⟩ = some (.int .i64 a2000) := blk_cellv (HS.out.at0) 1 rfl; have hc2011 : w2007.cell? ⟨g2006, 2, none⟩ = some (.int .i64 a2001) := blk_cellv (HS.out.at0) 2 rfl; have hc2012 : w2007.cell? ⟨g2006, 3, none⟩ = some (.int .i64 a2002) := blk_cellv (HS.out.at0) 3 rfl; have hc2013 : w2007.cell? ⟨g2006, 4, none⟩ = some (.int .i64 a2003) := blk_cellv (HS.out.at0) 4 rfl; have hc2014 : w2007.cell? ⟨g2006, 5, none⟩ = some (.int .i64 a2004) := blk_cellv (HS.out.at0) 5 rfl; have hc2015 : w2007.cell? ⟨g2006, 6, none⟩ = some (.int .i64 a2005) := blk_cellv (HS.out.at0) 6 rfl))
  clear hc2009 hc2010 hc2011 hc2012 hc2013 hc2014 hc2015
  obtain ⟨t2050, HA2051, H⟩ := bind_some H
  refine (tag_marks.calls a1999 a2000 a2001 a2002 a2003 a2004 a2005 t2050 _ ⟨HGl0.out.pass (l := []) HS.out⟩ ⟨Sep.start _⟩ HA2051).mono ?_
  rintro e_ w2052 ⟨rfl, hS⟩
  replace HS : Aside0 (Sep (fps []) w [b11 g2006 a1999 a2000 a2001 a2002 a2003 a2004 a2005] w2052) := ⟨HS.out.call hS⟩
  clear hS
  go_wp2_with fail
  obtain ⟨o2065, AL2066, H⟩ := bind_some H
  go_loopg [7] k (fun kq v7 wc => ∃ (x2069 : Int), v7 = .int .i64 x2069 ∧ Aside0 (tag_Right.lo0 kq t2050 x2069 = some o2065) ∧ Aside0 (Sep (fps []) w [b11 g2006 a1999 a2000 a2001 a2002 a2003 a2004 a2005] wc))
  case atStart => exact ⟨(0), (by first | rfl | (simp [IntKind.wrap_u32]; done)), AL2066, ⟨HS.out⟩⟩
  case round =>
    clear AL2066 HS
    obtain ⟨x2069, rfl, AL2066, HS⟩ := hrel
    obtain ⟨w2067, rfl⟩ : ∃ x : World, x = wr := ⟨_, rfl⟩
    cases gk with
    | zero => exact absurd AL2066.out (by simp [tag_Right.lo0])
    | succ k2068 =>
      have AL0 := AL2066.out
      rw [tag_Right.lo0] at AL0
      clear AL2066
      have AL2066 := Aside0.mk AL0
      clear AL0
      by_cases c2070 : x2069 < 5
      · replace AL2066 := if_yes c2070 AL2066
        have c2070b0 : decide (x2069 < 5) = true := decide_eq_true c2070
        clear c2070
        by_cases c2071 : 0 ≤ x2069
        · replace AL2066 := if_yes c2071 AL2066
          have c2071b0 : decide (0 ≤ x2069) = true := decide_eq_true c2071
          have c2071p : (0 ≤ x2069) = True := eq_true c2071
          clear c2071
          have ip2072 : (x2069 < 5) = True := eq_true (of_decide_eq_true c2070b0)
          have ix2073 : ∀ w, (Instr.index 108 (.agg #[.int .i64 t2050.1, .int .i64 t2050.2.1, .int .i64 t2050.2.2.1, .int .i64 t2050.2.2.2.1, .int .i64 t2050.2.2.2.2]) (.int .i64 x2069)).run Tryd.prog w = .ok (.int .i64 (rd [t2050.1, t2050.2.1, t2050.2.2.1, t2050.2.2.2.1, t2050.2.2.2.2] x2069)) w := run_index_ints 108 3 5 .i64 .i64 [t2050.1, t2050.2.1, t2050.2.2.1, t2050.2.2.2.1, t2050.2.2.2.2] x2069 Tryd.underlying108 (fun _ => by kernel_rfl) (fun _ => by kernel_rfl) rfl (of_decide_eq_true c2071b0) (of_decide_eq_true c2070b0)
          by_cases c2074 : (rd [t2050.1, t2050.2.1, t2050.2.2.1, t2050.2.2.2.1, t2050.2.2.2.2] x2069) = 0
          · replace AL2066 := if_yes c2074 AL2066
            have c2074b0 : ((rd [t2050.1, t2050.2.1, t2050.2.2.1, t2050.2.2.2.1, t2050.2.2.2.2] x2069) == 0) = true := beq_iff_eq.mpr c2074
            have c2074b1 : ((rd [t2050.1, t2050.2.1, t2050.2.2.1, t2050.2.2.2.1, t2050.2.2.2.2] x2069) != 0) = false := bne_eq_false_iff_eq.mpr c2074
            clear c2074
            go_wp2_with fail
            go_roundg k2068
            case measure => exact Nat.lt_succ_self _
            case rel => exact ⟨(wrap64 (x2069 + 1)), (by first | rfl | (simp [IntKind.wrap_u32]; done)), Aside0.mk AL2066.out, ⟨HS.out⟩⟩
          · replace AL2066 := if_no c2074 AL2066
            have c2074b0 : ((rd [t2050.1, t2050.2.1, t2050.2.2.1, t2050.2.2.2.1, t2050.2.2.2.2] x2069) == 0) = false := beq_eq_false_iff_ne.mpr c2074
            have c2074b1 : ((rd [t2050.1, t2050.2.1, t2050.2.2.1, t2050.2.2.2.1, t2050.2.2.2.2] x2069) != 0) = true := bne_iff_ne.mpr c2074
            clear c2074
            by_cases c2075 : (rd [t2050.1, t2050.2.1, t2050.2.2.1, t2050.2.2.2.1, t2050.2.2.2.2] x2069) = 1
            · replace AL2066 := if_yes c2075 AL2066
              have c2075b0 : ((rd [t2050.1, t2050.2.1, t2050.2.2.1, t2050.2.2.2.1, t2050.2.2.2.2] x2069) == 1) = true := beq_iff_eq.mpr c2075
              have c2075b1 : ((rd [t2050.1, t2050.2.1, t2050.2.2.1, t2050.2.2.2.1, t2050.2.2.2.2] x2069) != 1) = false := bne_eq_false_iff_eq.mpr c2075
              clear c2075
              go_wp2_with fail
              go_roundg k2068
              case measure => exact Nat.lt_succ_self _
              case rel => exact ⟨(wrap64 (x2069 + 1)), (by first | rfl | (simp [IntKind.wrap_u32]; done)), Aside0.mk AL2066.out, ⟨HS.out⟩⟩
            · replace AL2066 := if_no c2075 AL2066
              have c2075b0 : ((rd [t2050.1, t2050.2.1, t2050.2.2.1, t2050.2.2.2.1, t2050.2.2.2.2] x2069) == 1) = false := beq_eq_false_iff_ne.mpr c2075
              have c2075b1 : ((rd [t2050.1, t2050.2.1, t2050.2.2.1, t2050.2.2.2.1, t2050.2.2.2.2] x2069) != 1) = true := bne_iff_ne.mpr c2075
              clear c2075
              go_wp2_with fail
              have ho := some_eq AL2066
              subst ho
              have H := lp_ret H
              go_ret
              rw [← some_eq H]
              exact ⟨(by first | rfl | (simp [IntKind.wrap_u32]; done)), HS.out.sub (.cons _ .slnil)⟩
        · replace AL2066 := if_no c2071 AL2066
          have c2071b0 : decide (0 ≤ x2069) = false := decide_eq_false c2071
          clear c2071
          exact (none_no AL2066).elim
      · replace AL2066 := if_no c2070 AL2066
        have c2070b0 : decide (x2069 < 5) = false := decide_eq_false c2070
        clear c2070
        have ho := some_eq AL2066
        subst ho
        clear AL2066
        have H := lp_out H
        by_cases c2077 : a1999 = 1
        · replace H := if_yes c2077 H
          have c2077b0 : (a1999 == 1) = true := beq_iff_eq.mpr c2077
          have c2077b1 : (a1999 != 1) = false := bne_eq_false_iff_eq.mpr c2077
          clear c2077
          have hc2076 : w2067.cell? ⟨g2006, 0, none⟩ = some (.int .i64 a1999) := blk_cellv (HS.out.at0) 0 rfl
          have hc2078 : w2067.cell? ⟨g2006, 6, none⟩ = some (.int .i64 a2005) := blk_cellv (HS.out.at0) 6 rfl
          replace HS : Aside0 (Sep (fps []) w [] w2067) := ⟨HS.out.sub (.cons _ .slnil)⟩
          go_wp2_with fail
          clear hc2076 hc2078
          go_ret
          rw [← some_eq H]
          exact ⟨(by first | rfl | (simp [IntKind.wrap_u32]; done)), HS.out⟩
        · replace H := if_no c2077 H
          have c2077b0 : (a1999 == 1) = false := beq_eq_false_iff_ne.mpr c2077
          have c2077b1 : (a1999 != 1) = true := bne_iff_ne.mpr c2077
          clear c2077
          by_cases c2079 : a1999 = 2
          · replace H := if_yes c2079 H
            have c2079b0 : (a1999 == 2) = true := beq_iff_eq.mpr c2079
            have c2079b1 : (a1999 != 2) = false := bne_eq_false_iff_eq.mpr c2079
            clear c2079
            have hc2076 : w2067.cell? ⟨g2006, 0, none⟩ = some (.int .i64 a1999) := blk_cellv (HS.out.at0) 0 rfl
            have hc2080 : w2067.cell? ⟨g2006, 6, none⟩ = some (.int .i64 a2005) := blk_cellv (HS.out.at0) 6 rfl
            replace HS : Aside0 (Sep (fps []) w [] w2067) := ⟨HS.out.sub (.cons _ .slnil)⟩
            go_wp2_with fail
            clear hc2076 hc2080
            go_ret
            rw [← some_eq H]
            exact ⟨(by first | rfl | (simp [IntKind.wrap_u32]; done)), HS.out⟩
          · replace H := if_no c2079 H
            have c2079b0 : (a1999 == 2) = false := beq_eq_false_iff_ne.mpr c2079
            have c2079b1 : (a1999 != 2) = true := bne_iff_ne.mpr c2079
            clear c2079
            by_cases c2081 : a1999 = 0
            · replace H := if_yes c2081 H
              have c2081b0 : (a1999 == 0) = true := beq_iff_eq.mpr c2081
              have c2081b1 : (a1999 != 0) = false := bne_eq_false_iff_eq.mpr c2081
              clear c2081
              have hc2076 : w2067.cell? ⟨g2006, 0, none⟩ = some (.int .i64 a1999) := blk_cellv (HS.out.at0) 0 rfl
              go_wp2_with fail
              clear hc2076
              refine start_ (n := 25) (S := (fun w' => w'.cell? ⟨g2006, 0, none⟩ = some (.int .i64 a1999) ∧ w'.cell? ⟨g2006, 1, none⟩ = some (.int .i64 a2000) ∧ w'.cell? ⟨g2006, 2, none⟩ = some (.int .i64 a2001) ∧ w'.cell? ⟨g2006, 3, none⟩ = some (.int .i64 a2002) ∧ w'.cell? ⟨g2006, 4, none⟩ = some (.int .i64 a2003) ∧ w'.cell? ⟨g2006, 5, none⟩ = some (.int .i64 a2004) ∧ w'.cell? ⟨g2006, 6, none⟩ = some (.int .i64 a2005) ∧ w'.cell? ⟨0, 0, none⟩ = some (.int .i64 0) ∧ w'.cell? ⟨0, 1, none⟩ = some (.int .i64 0) ∧ w'.cell? ⟨0, 2, none⟩ = some (.int .i64 0) ∧ w'.cell? ⟨0, 3, none⟩ = some (.int .i64 0) ∧ w'.cell? ⟨0, 4, none⟩ = some (.int .i64 0))) (ds := []) #[false, false, false, false, false, false, false, false, false, false, false, false, false, false, false, false, false, false, false, false, false, false, false, false, false] (by kernel_rfl) rfl rfl (⟨blk_cellv ((HS.out.drew).at0) 0 rfl, blk_cellv ((HS.out.drew).at0) 1 rfl, blk_cellv ((HS.out.drew).at0) 2 rfl, blk_cellv ((HS.out.drew).at0) 3 rfl, blk_cellv ((HS.out.drew).at0) 4 rfl, blk_cellv ((HS.out.drew).at0) 5 rfl, blk_cellv ((HS.out.drew).at0) 6 rfl, Gl.cell HGl0.out (HS.out.drew).fr 0 rfl, Gl.cell HGl0.out (HS.out.drew).fr 1 rfl, Gl.cell HGl0.out (HS.out.drew).fr 2 rfl, Gl.cell HGl0.out (HS.out.drew).fr 3 rfl, Gl.cell HGl0.out (HS.out.drew).fr 4 rfl⟩) (fun hHeld => ?_)
              have HS_ := Aside0.mk HS.out.drew
              clear HS
              generalize World.drew _ = w2083 at HS_ hHeld ⊢
              have HS := HS_
              clear HS_
              refine take_ (i := 0) (N := some 28) (v := ?_) (a' := ?_) #[true, false, false, false, false, false, false, false, false, false, false, false, false, false, false, false, false, false, false, false, false, false, false, false, false] rfl rfl (by kernel_rfl) (fun _ _ _ h => h) (Or.inl ⟨by rfl, ?_⟩) hHeld ?_ ?_
              rotate_left
              · rintro w' hS'
                obtain ⟨s0, s1, s2, s3, s4, s5, s6, s7, s8, s9, s10, s11⟩ := hS'
                go_simp
                with_reducible rfl
              rotate_left
              · simp only [Act.put, List.setIfInBounds_toArray, List.set_cons_zero, List.set_cons_succ, i64_w, i32_w]
                rfl
              refine take_ (i := 2) (N := some 30) (v := ?_) (a' := ?_) #[true, false, true, false, false, false, false, false, false, false, false, false, false, false, false, false, false, false, false, false, false, false, false, false, false] rfl rfl (by kernel_rfl) (fun _ _ _ h => h) (Or.inl ⟨by rfl, ?_⟩) hHeld ?_ ?_
              rotate_left
              · rintro w' hS'
                obtain ⟨s0, s1, s2, s3, s4, s5, s6, s7, s8, s9, s10, s11⟩ := hS'
                go_simp
                with_reducible rfl
              rotate_left
              · simp only [Act.put, List.setIfInBounds_toArray, List.set_cons_zero, List.set_cons_succ, i64_w, i32_w]
                rfl
              refine one_ (i := 1) (N := some 29) #[true, true, true, false, false, false, false, false, false, false, false, false, false, false, false, false, false, false, false, false, false, false, false, false, false] rfl rfl (by kernel_rfl) (by decide) (fun K hK => ?_)
              obtain ⟨t2084, HA2085, H⟩ := bind_some H
              refine goes_ Tryd.func68 (by kernel_rfl) rfl #[.agg #[.int .i64 a1999, .int .i64 a2000, .int .i64 a2001, .int .i64 a2002, .int .i64 a2003, .int .i64 a2004, .int .i64 a2005]] (by rfl) rfl rfl (by (try simp only [List.map_toArray, List.map_cons, List.map_nil]); first | done | rfl) ?_
              refine (tag_marks.calls a1999 a2000 a2001 a2002 a2003 a2004 a2005 t2084 _ ⟨HGl0.out.pass (l := []) HS.out⟩ ⟨Sep.start _⟩ HA2085).mono ?_
              rintro e_ w2086 ⟨rfl, hS⟩
              replace HS : Aside0 (Sep (fps []) w [b11 g2006 a1999 a2000 a2001 a2002 a2003 a2004 a2005] w2086) := ⟨HS.out.call hS⟩
              clear hS
              refine ⟨_, rfl, ?_⟩
              refine hK.out _ _ (⟨blk_cellv (HS.out.at0) 0 rfl, blk_cellv (HS.out.at0) 1 rfl, blk_cellv (HS.out.at0) 2 rfl, blk_cellv (HS.out.at0) 3 rfl, blk_cellv (HS.out.at0) 4 rfl, blk_cellv (HS.out.at0) 5 rfl, blk_cellv (HS.out.at0) 6 rfl, Gl.cell HGl0.out HS.out.fr 0 rfl, Gl.cell HGl0.out HS.out.fr 1 rfl, Gl.cell HGl0.out HS.out.fr 2 rfl, Gl.cell HGl0.out HS.out.fr 3 rfl, Gl.cell HGl0.out HS.out.fr 4 rfl⟩) (fun hHeld => ?_)
              clear hK K
              refine norm_ (a' := ?_) ?_ ?_
              rotate_left
              · show Act.put _ (some 29) _ = _
                simp only [Act.put, List.setIfInBounds_toArray, List.set_cons_zero, List.set_cons_succ, i64_w, i32_w]
                rfl
              obtain ⟨b2088, HA2089, H⟩ := bind_some H
              have eb2087 : ∀ w, (Op.equalIn 10000 108 (.agg #[.int .i64 t2084.1, .int .i64 t2084.2.1, .int .i64 t2084.2.2.1, .int .i64 t2084.2.2.2.1, .int .i64 t2084.2.2.2.2]) (.agg #[.int .i64 0, .int .i64 0, .int .i64 0, .int .i64 0, .int .i64 0])).run Tryd.prog w = .ok b2088 w := some_eq HA2089 ▸ run_eq_ints 9998 108 3 5 .i64 [t2084.1, t2084.2.1, t2084.2.2.1, t2084.2.2.2.1, t2084.2.2.2.2] [0, 0, 0, 0, 0] Tryd.underlying108 (by kernel_rfl) (by kernel_rfl) Tryd.underlying3 (fun _ => by kernel_rfl) rfl rfl
              refine pure_ (i := 3) (N := some 31) (v := ?_) (a' := ?_) #[true, true, true, true, false, false, false, false, false, false, false, false, false, false, false, false, false, false, false, false, false, false, false, false, false] rfl rfl (by kernel_rfl) (fun _ _ _ h => h) (Or.inl ⟨by rfl, ?_⟩) ?_ ?_
              rotate_left
              · intro w'
                go_simp
                with_reducible rfl
              rotate_left
              · simp only [Act.put, List.setIfInBounds_toArray, List.set_cons_zero, List.set_cons_succ, i64_w, i32_w]
                rfl
              refine pure_ (i := 4) (N := some 32) (v := ?_) (a' := ?_) #[true, true, true, true, true, false, false, false, false, false, false, false, false, false, false, false, false, false, false, false, false, false, false, false, false] rfl rfl (by kernel_rfl) (fun _ _ _ h => h) (Or.inl ⟨by rfl, ?_⟩) ?_ ?_
              rotate_left
              · intro w'
                go_simp
                with_reducible rfl
              rotate_left
              · simp only [Act.put, List.setIfInBounds_toArray, List.set_cons_zero, List.set_cons_succ, i64_w, i32_w]
                rfl
              by_cases c2090 : b2088 = true
              · replace H := if_yes c2090 H
                have c2090b0 : b2088 = true := c2090
                have c2090b1 : (!b2088) = false := by rw [c2090b0]; rfl
                clear c2090
                try simp only [c2090b0, Bool.not_true, Bool.not_false]
                refine pure_ (i := 5) (N := some 33) (v := ?_) (a' := ?_) #[true, true, true, true, true, true, false, false, false, false, false, false, false, false, false, false, false, false, false, false, false, false, false, false, false] rfl rfl (by kernel_rfl) (fun _ _ _ h => h) (Or.inl ⟨by rfl, ?_⟩) ?_ ?_
                rotate_left
                · intro w'
                  go_simp
                  with_reducible rfl
                rotate_left
                · simp only [Act.put, List.setIfInBounds_toArray, List.set_cons_zero, List.set_cons_succ, i64_w, i32_w]
                  rfl
                try simp only [c2090b0, Bool.not_true, Bool.not_false]
                refine take_ (i := 6) (N := some 34) (v := ?_) (a' := ?_) #[true, true, true, true, true, true, true, false, false, false, false, false, false, false, false, false, false, false, false, false, false, false, false, false, false] rfl rfl (by kernel_rfl) (fun _ _ _ h => h) (Or.inl ⟨by rfl, ?_⟩) hHeld ?_ ?_
                rotate_left
                · rintro w' hS'
                  obtain ⟨s0, s1, s2, s3, s4, s5, s6, s7, s8, s9, s10, s11⟩ := hS'
                  go_simp
                  with_reducible rfl
                rotate_left
                · simp only [Act.put, List.setIfInBounds_toArray, List.set_cons_zero, List.set_cons_succ, i64_w, i32_w]
                  rfl
                try simp only [c2090b0, Bool.not_true, Bool.not_false]
                refine pure_ (i := 7) (N := some 35) (v := ?_) (a' := ?_) #[true, true, true, true, true, true, true, true, false, false, false, false, false, false, false, false, false, false, false, false, false, false, false, false, false] rfl rfl (by kernel_rfl) (fun _ _ _ h => h) (Or.inl ⟨by rfl, ?_⟩) ?_ ?_
                rotate_left
                · intro w'
                  go_simp
                  with_reducible rfl
                rotate_left
                · simp only [Act.put, List.setIfInBounds_toArray, List.set_cons_zero, List.set_cons_succ, i64_w, i32_w]
                  rfl
                refine pure_ (i := 8) (N := some 36) (v := ?_) (a' := ?_) #[true, true, true, true, true, true, true, true, true, false, false, false, false, false, false, false, false, false, false, false, false, false, false, false, false] rfl rfl (by kernel_rfl) (fun _ _ _ h => h) (Or.inl ⟨by rfl, ?_⟩) ?_ ?_
                rotate_left
                · intro w'
                  go_simp
                  with_reducible rfl
                rotate_left
                · simp only [Act.put, List.setIfInBounds_toArray, List.set_cons_zero, List.set_cons_succ, i64_w, i32_w]
                  rfl
                refine pure_ (i := 9) (N := some 37) (v := ?_) (a' := ?_) #[true, true, true, true, true, true, true, true, true, true, false, false, false, false, false, false, false, false, false, false, false, false, false, false, false] rfl rfl (by kernel_rfl) (fun _ _ _ h => h) (Or.inl ⟨by rfl, ?_⟩) ?_ ?_
                rotate_left
                · intro w'
                  go_simp
                  with_reducible rfl
                rotate_left
                · simp only [Act.put, List.setIfInBounds_toArray, List.set_cons_zero, List.set_cons_succ, i64_w, i32_w]
                  rfl
                by_cases c2091 : a2005 ≥ 0
                · replace H := if_yes c2091 H
                  have c2091b0 : decide (0 ≤ a2005) = true := decide_eq_true c2091
                  clear c2091
                  try simp only [c2091b0, Bool.not_true, Bool.not_false]
                  refine pure_ (i := 10) (N := some 38) (v := ?_) (a' := ?_) #[true, true, true, true, true, true, true, true, true, true, true, false, false, false, false, false, false, false, false, false, false, false, false, false, false] rfl rfl (by kernel_rfl) (fun _ _ _ h => h) (Or.inl ⟨by rfl, ?_⟩) ?_ ?_
                  rotate_left
                  · intro w'
                    go_simp
                    with_reducible rfl
                  rotate_left
                  · simp only [Act.put, List.setIfInBounds_toArray, List.set_cons_zero, List.set_cons_succ, i64_w, i32_w]
                    rfl
                  try simp only [c2091b0, Bool.not_true, Bool.not_false]
                  refine take_ (i := 11) (N := some 39) (v := ?_) (a' := ?_) #[true, true, true, true, true, true, true, true, true, true, true, true, false, false, false, false, false, false, false, false, false, false, false, false, false] rfl rfl (by kernel_rfl) (fun _ _ _ h => h) (Or.inl ⟨by rfl, ?_⟩) hHeld ?_ ?_
                  rotate_left
                  · rintro w' hS'
                    obtain ⟨s0, s1, s2, s3, s4, s5, s6, s7, s8, s9, s10, s11⟩ := hS'
                    go_simp
                    with_reducible rfl
                  rotate_left
                  · simp only [Act.put, List.setIfInBounds_toArray, List.set_cons_zero, List.set_cons_succ, i64_w, i32_w]
                    rfl
                  try simp only [c2091b0, Bool.not_true, Bool.not_false]
                  refine pure_ (i := 12) (N := some 40) (v := ?_) (a' := ?_) #[true, true, true, true, true, true, true, true, true, true, true, true, true, false, false, false, false, false, false, false, false, false, false, false, false] rfl rfl (by kernel_rfl) (fun _ _ _ h => h) (Or.inl ⟨by rfl, ?_⟩) ?_ ?_
                  rotate_left
                  · intro w'
                    go_simp
                    with_reducible rfl
                  rotate_left
                  · simp only [Act.put, List.setIfInBounds_toArray, List.set_cons_zero, List.set_cons_succ, i64_w, i32_w]
                    rfl
                  refine pure_ (i := 13) (N := some 41) (v := ?_) (a' := ?_) #[true, true, true, true, true, true, true, true, true, true, true, true, true, true, false, false, false, false, false, false, false, false, false, false, false] rfl rfl (by kernel_rfl) (fun _ _ _ h => h) (Or.inl ⟨by rfl, ?_⟩) ?_ ?_
                  rotate_left
                  · intro w'
                    go_simp
                    with_reducible rfl
                  rotate_left
                  · simp only [Act.put, List.setIfInBounds_toArray, List.set_cons_zero, List.set_cons_succ, i64_w, i32_w]
                    rfl
                  refine pure_ (i := 14) (N := some 42) (v := ?_) (a' := ?_) #[true, true, true, true, true, true, true, true, true, true, true, true, true, true, true, false, false, false, false, false, false, false, false, false, false] rfl rfl (by kernel_rfl) (fun _ _ _ h => h) (Or.inl ⟨by rfl, ?_⟩) ?_ ?_
                  rotate_left
                  · intro w'
                    go_simp
                    with_reducible rfl
                  rotate_left
                  · simp only [Act.put, List.setIfInBounds_toArray, List.set_cons_zero, List.set_cons_succ, i64_w, i32_w]
                    rfl
                  by_cases c2092 : a2005 < 1048576
                  · replace H := if_yes c2092 H
                    have c2092b0 : decide (a2005 < 1048576) = true := decide_eq_true c2092
                    clear c2092
                    try simp only [c2092b0, Bool.not_true, Bool.not_false]
                    refine pure_ (i := 15) (N := some 43) (v := ?_) (a' := ?_) #[true, true, true, true, true, true, true, true, true, true, true, true, true, true, true, true, false, false, false, false, false, false, false, false, false] rfl rfl (by kernel_rfl) (fun _ _ _ h => h) (Or.inl ⟨by rfl, ?_⟩) ?_ ?_
                    rotate_left
                    · intro w'
                      go_simp
                      with_reducible rfl
                    rotate_left
                    · simp only [Act.put, List.setIfInBounds_toArray, List.set_cons_zero, List.set_cons_succ, i64_w, i32_w]
                      rfl
                    try simp only [c2092b0, Bool.not_true, Bool.not_false]
                    refine take_ (i := 16) (N := some 44) (v := ?_) (a' := ?_) #[true, true, true, true, true, true, true, true, true, true, true, true, true, true, true, true, true, false, false, false, false, false, false, false, false] rfl rfl (by kernel_rfl) (fun _ _ _ h => h) (Or.inl ⟨by rfl, ?_⟩) hHeld ?_ ?_
                    rotate_left
                    · rintro w' hS'
                      obtain ⟨s0, s1, s2, s3, s4, s5, s6, s7, s8, s9, s10, s11⟩ := hS'
                      go_simp
                      with_reducible rfl
                    rotate_left
                    · simp only [Act.put, List.setIfInBounds_toArray, List.set_cons_zero, List.set_cons_succ, i64_w, i32_w]
                      rfl
                    try simp only [c2092b0, Bool.not_true, Bool.not_false]
                    refine pure_ (i := 17) (N := some 45) (v := ?_) (a' := ?_) #[true, true, true, true, true, true, true, true, true, true, true, true, true, true, true, true, true, true, false, false, false, false, false, false, false] rfl rfl (by kernel_rfl) (fun _ _ _ h => h) (Or.inl ⟨by rfl, ?_⟩) ?_ ?_
                    rotate_left
                    · intro w'
                      go_simp
                      with_reducible rfl
                    rotate_left
                    · simp only [Act.put, List.setIfInBounds_toArray, List.set_cons_zero, List.set_cons_succ, i64_w, i32_w]
                      rfl
                    try simp only [c2092b0, Bool.not_true, Bool.not_false]
                    refine pure_ (i := 18) (N := some 46) (v := ?_) (a' := ?_) #[true, true, true, true, true, true, true, true, true, true, true, true, true, true, true, true, true, true, true, false, false, false, false, false, false] rfl rfl (by kernel_rfl) (fun _ _ _ h => h) (Or.inl ⟨by rfl, ?_⟩) ?_ ?_
                    rotate_left
                    · intro w'
                      go_simp
                      with_reducible rfl
                    rotate_left
                    · simp only [Act.put, List.setIfInBounds_toArray, List.set_cons_zero, List.set_cons_succ, i64_w, i32_w]
                      rfl
                    by_cases c2093 : a1999 = 3
                    · replace H := if_yes c2093 H
                      have c2093b0 : (a1999 == 3) = true := beq_iff_eq.mpr c2093
                      have c2093b1 : (a1999 != 3) = false := bne_eq_false_iff_eq.mpr c2093
                      clear c2093
                      try simp only [c2093b0, c2093b1, Bool.not_true, Bool.not_false]
                      refine pure_ (i := 19) (N := some 47) (v := undef) (a' := ?_) #[true, true, true, true, true, true, true, true, true, true, true, true, true, true, true, true, true, true, true, true, false, false, false, false, false] rfl rfl (by kernel_rfl) (fun _ _ _ h => h) (Or.inr ⟨by rfl, rfl⟩) ?_ ?_
                      rotate_left
                      · simp only [Act.put, List.setIfInBounds_toArray, List.set_cons_zero, List.set_cons_succ, i64_w, i32_w]
                        rfl
                      try simp only [c2093b0, c2093b1, Bool.not_true, Bool.not_false]
                      refine pure_ (i := 20) (N := some 48) (v := undef) (a' := ?_) #[true, true, true, true, true, true, true, true, true, true, true, true, true, true, true, true, true, true, true, true, true, false, false, false, false] rfl rfl (by kernel_rfl) (fun _ _ _ h => h) (Or.inr ⟨by rfl, rfl⟩) ?_ ?_
                      rotate_left
                      · simp only [Act.put, List.setIfInBounds_toArray, List.set_cons_zero, List.set_cons_succ, i64_w, i32_w]
                        rfl
                      try simp only [c2093b0, c2093b1, Bool.not_true, Bool.not_false]
                      refine pure_ (i := 21) (N := some 49) (v := undef) (a' := ?_) #[true, true, true, true, true, true, true, true, true, true, true, true, true, true, true, true, true, true, true, true, true, true, false, false, false] rfl rfl (by kernel_rfl) (fun _ _ _ h => h) (Or.inr ⟨by rfl, rfl⟩) ?_ ?_
                      rotate_left
                      · simp only [Act.put, List.setIfInBounds_toArray, List.set_cons_zero, List.set_cons_succ, i64_w, i32_w]
                        rfl
                      try simp only [c2092b0, Bool.not_true, Bool.not_false]
                      refine pure_ (i := 22) (N := some 50) (v := ?_) (a' := ?_) #[true, true, true, true, true, true, true, true, true, true, true, true, true, true, true, true, true, true, true, true, true, true, true, false, false] rfl rfl (by kernel_rfl) (fun _ _ _ h => h) (Or.inl ⟨by rfl, ?_⟩) ?_ ?_
                      rotate_left
                      · intro w'
                        go_simp
                        with_reducible rfl
                      rotate_left
                      · simp only [Act.put, List.setIfInBounds_toArray, List.set_cons_zero, List.set_cons_succ, i64_w, i32_w]
                        rfl
                      refine pure_ (i := 23) (N := some 51) (v := ?_) (a' := ?_) #[true, true, true, true, true, true, true, true, true, true, true, true, true, true, true, true, true, true, true, true, true, true, true, true, false] rfl rfl (by kernel_rfl) (fun _ _ _ h => h) (Or.inl ⟨by rfl, ?_⟩) ?_ ?_
                      rotate_left
                      · intro w'
                        go_simp
                        with_reducible rfl
                      rotate_left
                      · simp only [Act.put, List.setIfInBounds_toArray, List.set_cons_zero, List.set_cons_succ, i64_w, i32_w]
                        rfl
                      refine pure_ (i := 24) (N := some 2) (v := ?_) (a' := ?_) #[true, true, true, true, true, true, true, true, true, true, true, true, true, true, true, true, true, true, true, true, true, true, true, true, true] rfl rfl (by kernel_rfl) (fun _ _ _ h => h) (Or.inl ⟨by rfl, ?_⟩) ?_ ?_
                      rotate_left
                      · intro w'
                        go_simp
                        with_reducible rfl
                      rotate_left
                      · simp only [Act.put, List.setIfInBounds_toArray, List.set_cons_zero, List.set_cons_succ, i64_w, i32_w]
                        rfl
                      refine done_ (by kernel_rfl) ?_
                      replace HS : Aside0 (Sep (fps []) w [] w2086) := ⟨HS.out.sub (.cons _ .slnil)⟩
                      go_wp2_with fail
                      go_ret
                      rw [← some_eq H]
                      exact ⟨(by first | rfl | (simp [IntKind.wrap_u32]; done)), HS.out⟩
                    · replace H := if_no c2093 H
                      have c2093b0 : (a1999 == 3) = false := beq_eq_false_iff_ne.mpr c2093
                      have c2093b1 : (a1999 != 3) = true := bne_iff_ne.mpr c2093
                      clear c2093
                      try simp only [c2093b0, c2093b1, Bool.not_true, Bool.not_false]
                      refine pure_ (i := 19) (N := some 47) (v := ?_) (a' := ?_) #[true, true, true, true, true, true, true, true, true, true, true, true, true, true, true, true, true, true, true, true, false, false, false, false, false] rfl rfl (by kernel_rfl) (fun _ _ _ h => h) (Or.inl ⟨by rfl, ?_⟩) ?_ ?_
                      rotate_left
                      · intro w'
                        go_simp
                        with_reducible rfl
                      rotate_left
                      · simp only [Act.put, List.setIfInBounds_toArray, List.set_cons_zero, List.set_cons_succ, i64_w, i32_w]
                        rfl
                      try simp only [c2093b0, c2093b1, Bool.not_true, Bool.not_false]
                      refine take_ (i := 20) (N := some 48) (v := ?_) (a' := ?_) #[true, true, true, true, true, true, true, true, true, true, true, true, true, true, true, true, true, true, true, true, true, false, false, false, false] rfl rfl (by kernel_rfl) (fun _ _ _ h => h) (Or.inl ⟨by rfl, ?_⟩) hHeld ?_ ?_
                      rotate_left
                      · rintro w' hS'
                        obtain ⟨s0, s1, s2, s3, s4, s5, s6, s7, s8, s9, s10, s11⟩ := hS'
                        go_simp
                        with_reducible rfl
                      rotate_left
                      · simp only [Act.put, List.setIfInBounds_toArray, List.set_cons_zero, List.set_cons_succ, i64_w, i32_w]
                        rfl
                      try simp only [c2093b0, c2093b1, Bool.not_true, Bool.not_false]
                      refine pure_ (i := 21) (N := some 49) (v := ?_) (a' := ?_) #[true, true, true, true, true, true, true, true, true, true, true, true, true, true, true, true, true, true, true, true, true, true, false, false, false] rfl rfl (by kernel_rfl) (fun _ _ _ h => h) (Or.inl ⟨by rfl, ?_⟩) ?_ ?_
                      rotate_left
                      · intro w'
                        go_simp
                        with_reducible rfl
                      rotate_left
                      · simp only [Act.put, List.setIfInBounds_toArray, List.set_cons_zero, List.set_cons_succ, i64_w, i32_w]
                        rfl
                      try simp only [c2092b0, Bool.not_true, Bool.not_false]
                      refine pure_ (i := 22) (N := some 50) (v := ?_) (a' := ?_) #[true, true, true, true, true, true, true, true, true, true, true, true, true, true, true, true, true, true, true, true, true, true, true, false, false] rfl rfl (by kernel_rfl) (fun _ _ _ h => h) (Or.inl ⟨by rfl, ?_⟩) ?_ ?_
                      rotate_left
                      · intro w'
                        go_simp
                        with_reducible rfl
                      rotate_left
                      · simp only [Act.put, List.setIfInBounds_toArray, List.set_cons_zero, List.set_cons_succ, i64_w, i32_w]
                        rfl
                      refine pure_ (i := 23) (N := some 51) (v := ?_) (a' := ?_) #[true, true, true, true, true, true, true, true, true, true, true, true, true, true, true, true, true, true, true, true, true, true, true, true, false] rfl rfl (by kernel_rfl) (fun _ _ _ h => h) (Or.inl ⟨by rfl, ?_⟩) ?_ ?_
                      rotate_left
                      · intro w'
                        go_simp
                        with_reducible rfl
                      rotate_left
                      · simp only [Act.put, List.setIfInBounds_toArray, List.set_cons_zero, List.set_cons_succ, i64_w, i32_w]
                        rfl
                      refine pure_ (i := 24) (N := some 2) (v := ?_) (a' := ?_) #[true, true, true, true, true, true, true, true, true, true, true, true, true, true, true, true, true, true, true, true, true, true, true, true, true] rfl rfl (by kernel_rfl) (fun _ _ _ h => h) (Or.inl ⟨by rfl, ?_⟩) ?_ ?_
                      rotate_left
                      · intro w'
                        go_simp
                        with_reducible rfl
                      rotate_left
                      · simp only [Act.put, List.setIfInBounds_toArray, List.set_cons_zero, List.set_cons_succ, i64_w, i32_w]
                        rfl
                      refine done_ (by kernel_rfl) ?_
                      replace HS : Aside0 (Sep (fps []) w [] w2086) := ⟨HS.out.sub (.cons _ .slnil)⟩
                      go_wp2_with fail
                      go_ret
                      rw [← some_eq H]
                      exact ⟨(by first | rfl | (simp [IntKind.wrap_u32]; done)), HS.out⟩
                  · replace H := if_no c2092 H
                    have c2092b0 : decide (a2005 < 1048576) = false := decide_eq_false c2092
                    clear c2092
                    try simp only [c2092b0, Bool.not_true, Bool.not_false]
                    refine pure_ (i := 15) (N := some 43) (v := undef) (a' := ?_) #[true, true, true, true, true, true, true, true, true, true, true, true, true, true, true, true, false, false, false, false, false, false, false, false, false] rfl rfl (by kernel_rfl) (fun _ _ _ h => h) (Or.inr ⟨by rfl, rfl⟩) ?_ ?_
                    rotate_left
                    · simp only [Act.put, List.setIfInBounds_toArray, List.set_cons_zero, List.set_cons_succ, i64_w, i32_w]
                      rfl
                    try simp only [c2092b0, Bool.not_true, Bool.not_false]
                    refine pure_ (i := 16) (N := some 44) (v := undef) (a' := ?_) #[true, true, true, true, true, true, true, true, true, true, true, true, true, true, true, true, true, false, false, false, false, false, false, false, false] rfl rfl (by kernel_rfl) (fun _ _ _ h => h) (Or.inr ⟨by rfl, rfl⟩) ?_ ?_
                    rotate_left
                    · simp only [Act.put, List.setIfInBounds_toArray, List.set_cons_zero, List.set_cons_succ, i64_w, i32_w]
                      rfl
                    try simp only [c2092b0, Bool.not_true, Bool.not_false]
                    refine pure_ (i := 17) (N := some 45) (v := undef) (a' := ?_) #[true, true, true, true, true, true, true, true, true, true, true, true, true, true, true, true, true, true, false, false, false, false, false, false, false] rfl rfl (by kernel_rfl) (fun _ _ _ h => h) (Or.inr ⟨by rfl, rfl⟩) ?_ ?_
                    rotate_left
                    · simp only [Act.put, List.setIfInBounds_toArray, List.set_cons_zero, List.set_cons_succ, i64_w, i32_w]
                      rfl
                    try simp only [c2092b0, Bool.not_true, Bool.not_false]
                    refine pure_ (i := 18) (N := some 46) (v := undef) (a' := ?_) #[true, true, true, true, true, true, true, true, true, true, true, true, true, true, true, true, true, true, true, false, false, false, false, false, false] rfl rfl (by kernel_rfl) (fun _ _ _ h => h) (Or.inr ⟨by rfl, rfl⟩) ?_ ?_
                    rotate_left
                    · simp only [Act.put, List.setIfInBounds_toArray, List.set_cons_zero, List.set_cons_succ, i64_w, i32_w]
                      rfl
                    refine pure_ (i := 19) (N := some 47) (v := undef) (a' := ?_) #[true, true, true, true, true, true, true, true, true, true, true, true, true, true, true, true, true, true, true, true, false, false, false, false, false] rfl rfl (by kernel_rfl) (fun _ _ _ h => h) (Or.inr ⟨by rfl, rfl⟩) ?_ ?_
                    rotate_left
                    · simp only [Act.put, List.setIfInBounds_toArray, List.set_cons_zero, List.set_cons_succ, i64_w, i32_w]
                      rfl
                    refine pure_ (i := 20) (N := some 48) (v := undef) (a' := ?_) #[true, true, true, true, true, true, true, true, true, true, true, true, true, true, true, true, true, true, true, true, true, false, false, false, false] rfl rfl (by kernel_rfl) (fun _ _ _ h => h) (Or.inr ⟨by rfl, rfl⟩) ?_ ?_
                    rotate_left
                    · simp only [Act.put, List.setIfInBounds_toArray, List.set_cons_zero, List.set_cons_succ, i64_w, i32_w]
                      rfl
                    refine pure_ (i := 21) (N := some 49) (v := undef) (a' := ?_) #[true, true, true, true, true, true, true, true, true, true, true, true, true, true, true, true, true, true, true, true, true, true, false, false, false] rfl rfl (by kernel_rfl) (fun _ _ _ h => h) (Or.inr ⟨by rfl, rfl⟩) ?_ ?_
                    rotate_left
                    · simp only [Act.put, List.setIfInBounds_toArray, List.set_cons_zero, List.set_cons_succ, i64_w, i32_w]
                      rfl
                    try simp only [c2092b0, Bool.not_true, Bool.not_false]
                    refine pure_ (i := 22) (N := some 50) (v := undef) (a' := ?_) #[true, true, true, true, true, true, true, true, true, true, true, true, true, true, true, true, true, true, true, true, true, true, true, false, false] rfl rfl (by kernel_rfl) (fun _ _ _ h => h) (Or.inr ⟨by rfl, rfl⟩) ?_ ?_
                    rotate_left
                    · simp only [Act.put, List.setIfInBounds_toArray, List.set_cons_zero, List.set_cons_succ, i64_w, i32_w]
                      rfl
                    refine pure_ (i := 23) (N := some 51) (v := ?_) (a' := ?_) #[true, true, true, true, true, true, true, true, true, true, true, true, true, true, true, true, true, true, true, true, true, true, true, true, false] rfl rfl (by kernel_rfl) (fun _ _ _ h => h) (Or.inl ⟨by rfl, ?_⟩) ?_ ?_
                    rotate_left
                    · intro w'
                      go_simp
                      with_reducible rfl
                    rotate_left
                    · simp only [Act.put, List.setIfInBounds_toArray, List.set_cons_zero, List.set_cons_succ, i64_w, i32_w]
                      rfl
                    refine pure_ (i := 24) (N := some 2) (v := ?_) (a' := ?_) #[true, true, true, true, true, true, true, true, true, true, true, true, true, true, true, true, true, true, true, true, true, true, true, true, true] rfl rfl (by kernel_rfl) (fun _ _ _ h => h) (Or.inl ⟨by rfl, ?_⟩) ?_ ?_
                    rotate_left
                    · intro w'
                      go_simp
                      with_reducible rfl
                    rotate_left
                    · simp only [Act.put, List.setIfInBounds_toArray, List.set_cons_zero, List.set_cons_succ, i64_w, i32_w]
                      rfl
                    refine done_ (by kernel_rfl) ?_
                    replace HS : Aside0 (Sep (fps []) w [] w2086) := ⟨HS.out.sub (.cons _ .slnil)⟩
                    go_wp2_with fail
                    go_ret
                    rw [← some_eq H]
                    exact ⟨(by first | rfl | (simp [IntKind.wrap_u32]; done)), HS.out⟩
                · replace H := if_no c2091 H
                  have c2091b0 : decide (0 ≤ a2005) = false := decide_eq_false c2091
                  clear c2091
                  try simp only [c2091b0, Bool.not_true, Bool.not_false]
                  refine pure_ (i := 10) (N := some 38) (v := undef) (a' := ?_) #[true, true, true, true, true, true, true, true, true, true, true, false, false, false, false, false, false, false, false, false, false, false, false, false, false] rfl rfl (by kernel_rfl) (fun _ _ _ h => h) (Or.inr ⟨by rfl, rfl⟩) ?_ ?_
                  rotate_left
                  · simp only [Act.put, List.setIfInBounds_toArray, List.set_cons_zero, List.set_cons_succ, i64_w, i32_w]
                    rfl
                  try simp only [c2091b0, Bool.not_true, Bool.not_false]
                  refine pure_ (i := 11) (N := some 39) (v := undef) (a' := ?_) #[true, true, true, true, true, true, true, true, true, true, true, true, false, false, false, false, false, false, false, false, false, false, false, false, false] rfl rfl (by kernel_rfl) (fun _ _ _ h => h) (Or.inr ⟨by rfl, rfl⟩) ?_ ?_
                  rotate_left
                  · simp only [Act.put, List.setIfInBounds_toArray, List.set_cons_zero, List.set_cons_succ, i64_w, i32_w]
                    rfl
                  try simp only [c2091b0, Bool.not_true, Bool.not_false]
                  refine pure_ (i := 12) (N := some 40) (v := undef) (a' := ?_) #[true, true, true, true, true, true, true, true, true, true, true, true, true, false, false, false, false, false, false, false, false, false, false, false, false] rfl rfl (by kernel_rfl) (fun _ _ _ h => h) (Or.inr ⟨by rfl, rfl⟩) ?_ ?_
                  rotate_left
                  · simp only [Act.put, List.setIfInBounds_toArray, List.set_cons_zero, List.set_cons_succ, i64_w, i32_w]
                    rfl
                  refine pure_ (i := 13) (N := some 41) (v := ?_) (a' := ?_) #[true, true, true, true, true, true, true, true, true, true, true, true, true, true, false, false, false, false, false, false, false, false, false, false, false] rfl rfl (by kernel_rfl) (fun _ _ _ h => h) (Or.inl ⟨by rfl, ?_⟩) ?_ ?_
                  rotate_left
                  · intro w'
                    go_simp
                    with_reducible rfl
                  rotate_left
                  · simp only [Act.put, List.setIfInBounds_toArray, List.set_cons_zero, List.set_cons_succ, i64_w, i32_w]
                    rfl
                  refine pure_ (i := 14) (N := some 42) (v := ?_) (a' := ?_) #[true, true, true, true, true, true, true, true, true, true, true, true, true, true, true, false, false, false, false, false, false, false, false, false, false] rfl rfl (by kernel_rfl) (fun _ _ _ h => h) (Or.inl ⟨by rfl, ?_⟩) ?_ ?_
                  rotate_left
                  · intro w'
                    go_simp
                    with_reducible rfl
                  rotate_left
                  · simp only [Act.put, List.setIfInBounds_toArray, List.set_cons_zero, List.set_cons_succ, i64_w, i32_w]
                    rfl
                  refine pure_ (i := 15) (N := some 43) (v := undef) (a' := ?_) #[true, true, true, true, true, true, true, true, true, true, true, true, true, true, true, true, false, false, false, false, false, false, false, false, false] rfl rfl (by kernel_rfl) (fun _ _ _ h => h) (Or.inr ⟨by rfl, rfl⟩) ?_ ?_
                  rotate_left
                  · simp only [Act.put, List.setIfInBounds_toArray, List.set_cons_zero, List.set_cons_succ, i64_w, i32_w]
                    rfl
                  refine pure_ (i := 16) (N := some 44) (v := undef) (a' := ?_) #[true, true, true, true, true, true, true, true, true, true, true, true, true, true, true, true, true, false, false, false, false, false, false, false, false] rfl rfl (by kernel_rfl) (fun _ _ _ h => h) (Or.inr ⟨by rfl, rfl⟩) ?_ ?_
                  rotate_left
                  · simp only [Act.put, List.setIfInBounds_toArray, List.set_cons_zero, List.set_cons_succ, i64_w, i32_w]
                    rfl
                  refine pure_ (i := 17) (N := some 45) (v := undef) (a' := ?_) #[true, true, true, true, true, true, true, true, true, true, true, true, true, true, true, true, true, true, false, false, false, false, false, false, false] rfl rfl (by kernel_rfl) (fun _ _ _ h => h) (Or.inr ⟨by rfl, rfl⟩) ?_ ?_
                  rotate_left
                  · simp only [Act.put, List.setIfInBounds_toArray, List.set_cons_zero, List.set_cons_succ, i64_w, i32_w]
                    rfl
                  refine pure_ (i := 18) (N := some 46) (v := undef) (a' := ?_) #[true, true, true, true, true, true, true, true, true, true, true, true, true, true, true, true, true, true, true, false, false, false, false, false, false] rfl rfl (by kernel_rfl) (fun _ _ _ h => h) (Or.inr ⟨by rfl, rfl⟩) ?_ ?_
                  rotate_left
                  · simp only [Act.put, List.setIfInBounds_toArray, List.set_cons_zero, List.set_cons_succ, i64_w, i32_w]
                    rfl
                  refine pure_ (i := 19) (N := some 47) (v := undef) (a' := ?_) #[true, true, true, true, true, true, true, true, true, true, true, true, true, true, true, true, true, true, true, true, false, false, false, false, false] rfl rfl (by kernel_rfl) (fun _ _ _ h => h) (Or.inr ⟨by rfl, rfl⟩) ?_ ?_
                  rotate_left
                  · simp only [Act.put, List.setIfInBounds_toArray, List.set_cons_zero, List.set_cons_succ, i64_w, i32_w]
                    rfl
                  refine pure_ (i := 20) (N := some 48) (v := undef) (a' := ?_) #[true, true, true, true, true, true, true, true, true, true, true, true, true, true, true, true, true, true, true, true, true, false, false, false, false] rfl rfl (by kernel_rfl) (fun _ _ _ h => h) (Or.inr ⟨by rfl, rfl⟩) ?_ ?_
                  rotate_left
                  · simp only [Act.put, List.setIfInBounds_toArray, List.set_cons_zero, List.set_cons_succ, i64_w, i32_w]
                    rfl
                  refine pure_ (i := 21) (N := some 49) (v := undef) (a' := ?_) #[true, true, true, true, true, true, true, true, true, true, true, true, true, true, true, true, true, true, true, true, true, true, false, false, false] rfl rfl (by kernel_rfl) (fun _ _ _ h => h) (Or.inr ⟨by rfl, rfl⟩) ?_ ?_
                  rotate_left
                  · simp only [Act.put, List.setIfInBounds_toArray, List.set_cons_zero, List.set_cons_succ, i64_w, i32_w]
                    rfl
                  refine pure_ (i := 22) (N := some 50) (v := undef) (a' := ?_) #[true, true, true, true, true, true, true, true, true, true, true, true, true, true, true, true, true, true, true, true, true, true, true, false, false] rfl rfl (by kernel_rfl) (fun _ _ _ h => h) (Or.inr ⟨by rfl, rfl⟩) ?_ ?_
                  rotate_left
                  · simp only [Act.put, List.setIfInBounds_toArray, List.set_cons_zero, List.set_cons_succ, i64_w, i32_w]
                    rfl
                  refine pure_ (i := 23) (N := some 51) (v := ?_) (a' := ?_) #[true, true, true, true, true, true, true, true, true, true, true, true, true, true, true, true, true, true, true, true, true, true, true, true, false] rfl rfl (by kernel_rfl) (fun _ _ _ h => h) (Or.inl ⟨by rfl, ?_⟩) ?_ ?_
                  rotate_left
                  · intro w'
                    go_simp
                    with_reducible rfl
                  rotate_left
                  · simp only [Act.put, List.setIfInBounds_toArray, List.set_cons_zero, List.set_cons_succ, i64_w, i32_w]
                    rfl
                  refine pure_ (i := 24) (N := some 2) (v := ?_) (a' := ?_) #[true, true, true, true, true, true, true, true, true, true, true, true, true, true, true, true, true, true, true, true, true, true, true, true, true] rfl rfl (by kernel_rfl) (fun _ _ _ h => h) (Or.inl ⟨by rfl, ?_⟩) ?_ ?_
                  rotate_left
                  · intro w'
                    go_simp
                    with_reducible rfl
                  rotate_left
                  · simp only [Act.put, List.setIfInBounds_toArray, List.set_cons_zero, List.set_cons_succ, i64_w, i32_w]
                    rfl
                  refine done_ (by kernel_rfl) ?_
                  replace HS : Aside0 (Sep (fps []) w [] w2086) := ⟨HS.out.sub (.cons _ .slnil)⟩
                  go_wp2_with fail
                  go_ret
                  rw [← some_eq H]
                  exact ⟨(by first | rfl | (simp [IntKind.wrap_u32]; done)), HS.out⟩
              · replace H := if_no c2090 H
                have c2090b0 : b2088 = false := by simpa using c2090
                have c2090b1 : (!b2088) = true := by rw [c2090b0]; rfl
                clear c2090
                try simp only [c2090b0, Bool.not_true, Bool.not_false]
                refine pure_ (i := 5) (N := some 33) (v := undef) (a' := ?_) #[true, true, true, true, true, true, false, false, false, false, false, false, false, false, false, false, false, false, false, false, false, false, false, false, false] rfl rfl (by kernel_rfl) (fun _ _ _ h => h) (Or.inr ⟨by rfl, rfl⟩) ?_ ?_
                rotate_left
                · simp only [Act.put, List.setIfInBounds_toArray, List.set_cons_zero, List.set_cons_succ, i64_w, i32_w]
                  rfl
                try simp only [c2090b0, Bool.not_true, Bool.not_false]
                refine pure_ (i := 6) (N := some 34) (v := undef) (a' := ?_) #[true, true, true, true, true, true, true, false, false, false, false, false, false, false, false, false, false, false, false, false, false, false, false, false, false] rfl rfl (by kernel_rfl) (fun _ _ _ h => h) (Or.inr ⟨by rfl, rfl⟩) ?_ ?_
                rotate_left
                · simp only [Act.put, List.setIfInBounds_toArray, List.set_cons_zero, List.set_cons_succ, i64_w, i32_w]
                  rfl
                try simp only [c2090b0, Bool.not_true, Bool.not_false]
                refine pure_ (i := 7) (N := some 35) (v := undef) (a' := ?_) #[true, true, true, true, true, true, true, true, false, false, false, false, false, false, false, false, false, false, false, false, false, false, false, false, false] rfl rfl (by kernel_rfl) (fun _ _ _ h => h) (Or.inr ⟨by rfl, rfl⟩) ?_ ?_
                rotate_left
                · simp only [Act.put, List.setIfInBounds_toArray, List.set_cons_zero, List.set_cons_succ, i64_w, i32_w]
                  rfl
                refine pure_ (i := 8) (N := some 36) (v := ?_) (a' := ?_) #[true, true, true, true, true, true, true, true, true, false, false, false, false, false, false, false, false, false, false, false, false, false, false, false, false] rfl rfl (by kernel_rfl) (fun _ _ _ h => h) (Or.inl ⟨by rfl, ?_⟩) ?_ ?_
                rotate_left
                · intro w'
                  go_simp
                  with_reducible rfl
                rotate_left
                · simp only [Act.put, List.setIfInBounds_toArray, List.set_cons_zero, List.set_cons_succ, i64_w, i32_w]
                  rfl
                refine pure_ (i := 9) (N := some 37) (v := ?_) (a' := ?_) #[true, true, true, true, true, true, true, true, true, true, false, false, false, false, false, false, false, false, false, false, false, false, false, false, false] rfl rfl (by kernel_rfl) (fun _ _ _ h => h) (Or.inl ⟨by rfl, ?_⟩) ?_ ?_
                rotate_left
                · intro w'
                  go_simp
                  with_reducible rfl
                rotate_left
                · simp only [Act.put, List.setIfInBounds_toArray, List.set_cons_zero, List.set_cons_succ, i64_w, i32_w]
                  rfl
                refine pure_ (i := 10) (N := some 38) (v := undef) (a' := ?_) #[true, true, true, true, true, true, true, true, true, true, true, false, false, false, false, false, false, false, false, false, false, false, false, false, false] rfl rfl (by kernel_rfl) (fun _ _ _ h => h) (Or.inr ⟨by rfl, rfl⟩) ?_ ?_
                rotate_left
                · simp only [Act.put, List.setIfInBounds_toArray, List.set_cons_zero, List.set_cons_succ, i64_w, i32_w]
                  rfl
                refine pure_ (i := 11) (N := some 39) (v := undef) (a' := ?_) #[true, true, true, true, true, true, true, true, true, true, true, true, false, false, false, false, false, false, false, false, false, false, false, false, false] rfl rfl (by kernel_rfl) (fun _ _ _ h => h) (Or.inr ⟨by rfl, rfl⟩) ?_ ?_
                rotate_left
                · simp only [Act.put, List.setIfInBounds_toArray, List.set_cons_zero, List.set_cons_succ, i64_w, i32_w]
                  rfl
                refine pure_ (i := 12) (N := some 40) (v := undef) (a' := ?_) #[true, true, true, true, true, true, true, true, true, true, true, true, true, false, false, false, false, false, false, false, false, false, false, false, false] rfl rfl (by kernel_rfl) (fun _ _ _ h => h) (Or.inr ⟨by rfl, rfl⟩) ?_ ?_
                rotate_left
                · simp only [Act.put, List.setIfInBounds_toArray, List.set_cons_zero, List.set_cons_succ, i64_w, i32_w]
                  rfl
                refine pure_ (i := 13) (N := some 41) (v := ?_) (a' := ?_) #[true, true, true, true, true, true, true, true, true, true, true, true, true, true, false, false, false, false, false, false, false, false, false, false, false] rfl rfl (by kernel_rfl) (fun _ _ _ h => h) (Or.inl ⟨by rfl, ?_⟩) ?_ ?_
                rotate_left
                · intro w'
                  go_simp
                  with_reducible rfl
                rotate_left
                · simp only [Act.put, List.setIfInBounds_toArray, List.set_cons_zero, List.set_cons_succ, i64_w, i32_w]
                  rfl
                refine pure_ (i := 14) (N := some 42) (v := ?_) (a' := ?_) #[true, true, true, true, true, true, true, true, true, true, true, true, true, true, true, false, false, false, false, false, false, false, false, false, false] rfl rfl (by kernel_rfl) (fun _ _ _ h => h) (Or.inl ⟨by rfl, ?_⟩) ?_ ?_
                rotate_left
                · intro w'
                  go_simp
                  with_reducible rfl
                rotate_left
                · simp only [Act.put, List.setIfInBounds_toArray, List.set_cons_zero, List.set_cons_succ, i64_w, i32_w]
                  rfl
                refine pure_ (i := 15) (N := some 43) (v := undef) (a' := ?_) #[true, true, true, true, true, true, true, true, true, true, true, true, true, true, true, true, false, false, false, false, false, false, false, false, false] rfl rfl (by kernel_rfl) (fun _ _ _ h => h) (Or.inr ⟨by rfl, rfl⟩) ?_ ?_
                rotate_left
                · simp only [Act.put, List.setIfInBounds_toArray, List.set_cons_zero, List.set_cons_succ, i64_w, i32_w]
                  rfl
                refine pure_ (i := 16) (N := some 44) (v := undef) (a' := ?_) #[true, true, true, true, true, true, true, true, true, true, true, true, true, true, true, true, true, false, false, false, false, false, false, false, false] rfl rfl (by kernel_rfl) (fun _ _ _ h => h) (Or.inr ⟨by rfl, rfl⟩) ?_ ?_
                rotate_left
                · simp only [Act.put, List.setIfInBounds_toArray, List.set_cons_zero, List.set_cons_succ, i64_w, i32_w]
                  rfl
                refine pure_ (i := 17) (N := some 45) (v := undef) (a' := ?_) #[true, true, true, true, true, true, true, true, true, true, true, true, true, true, true, true, true, true, false, false, false, false, false, false, false] rfl rfl (by kernel_rfl) (fun _ _ _ h => h) (Or.inr ⟨by rfl, rfl⟩) ?_ ?_
                rotate_left
                · simp only [Act.put, List.setIfInBounds_toArray, List.set_cons_zero, List.set_cons_succ, i64_w, i32_w]
                  rfl
                refine pure_ (i := 18) (N := some 46) (v := undef) (a' := ?_) #[true, true, true, true, true, true, true, true, true, true, true, true, true, true, true, true, true, true, true, false, false, false, false, false, false] rfl rfl (by kernel_rfl) (fun _ _ _ h => h) (Or.inr ⟨by rfl, rfl⟩) ?_ ?_
                rotate_left
                · simp only [Act.put, List.setIfInBounds_toArray, List.set_cons_zero, List.set_cons_succ, i64_w, i32_w]
                  rfl
                refine pure_ (i := 19) (N := some 47) (v := undef) (a' := ?_) #[true, true, true, true, true, true, true, true, true, true, true, true, true, true, true, true, true, true, true, true, false, false, false, false, false] rfl rfl (by kernel_rfl) (fun _ _ _ h => h) (Or.inr ⟨by rfl, rfl⟩) ?_ ?_
                rotate_left
                · simp only [Act.put, List.setIfInBounds_toArray, List.set_cons_zero, List.set_cons_succ, i64_w, i32_w]
                  rfl
                refine pure_ (i := 20) (N := some 48) (v := undef) (a' := ?_) #[true, true, true, true, true, true, true, true, true, true, true, true, true, true, true, true, true, true, true, true, true, false, false, false, false] rfl rfl (by kernel_rfl) (fun _ _ _ h => h) (Or.inr ⟨by rfl, rfl⟩) ?_ ?_
                rotate_left
                · simp only [Act.put, List.setIfInBounds_toArray, List.set_cons_zero, List.set_cons_succ, i64_w, i32_w]
                  rfl
                refine pure_ (i := 21) (N := some 49) (v := undef) (a' := ?_) #[true, true, true, true, true, true, true, true, true, true, true, true, true, true, true, true, true, true, true, true, true, true, false, false, false] rfl rfl (by kernel_rfl) (fun _ _ _ h => h) (Or.inr ⟨by rfl, rfl⟩) ?_ ?_
                rotate_left
                · simp only [Act.put, List.setIfInBounds_toArray, List.set_cons_zero, List.set_cons_succ, i64_w, i32_w]
                  rfl
                refine pure_ (i := 22) (N := some 50) (v := undef) (a' := ?_) #[true, true, true, true, true, true, true, true, true, true, true, true, true, true, true, true, true, true, true, true, true, true, true, false, false] rfl rfl (by kernel_rfl) (fun _ _ _ h => h) (Or.inr ⟨by rfl, rfl⟩) ?_ ?_
                rotate_left
                · simp only [Act.put, List.setIfInBounds_toArray, List.set_cons_zero, List.set_cons_succ, i64_w, i32_w]
                  rfl
                refine pure_ (i := 23) (N := some 51) (v := ?_) (a' := ?_) #[true, true, true, true, true, true, true, true, true, true, true, true, true, true, true, true, true, true, true, true, true, true, true, true, false] rfl rfl (by kernel_rfl) (fun _ _ _ h => h) (Or.inl ⟨by rfl, ?_⟩) ?_ ?_
                rotate_left
                · intro w'
                  go_simp
                  with_reducible rfl
                rotate_left
                · simp only [Act.put, List.setIfInBounds_toArray, List.set_cons_zero, List.set_cons_succ, i64_w, i32_w]
                  rfl
                refine pure_ (i := 24) (N := some 2) (v := ?_) (a' := ?_) #[true, true, true, true, true, true, true, true, true, true, true, true, true, true, true, true, true, true, true, true, true, true, true, true, true] rfl rfl (by kernel_rfl) (fun _ _ _ h => h) (Or.inl ⟨by rfl, ?_⟩) ?_ ?_
                rotate_left
                · intro w'
                  go_simp
                  with_reducible rfl
                rotate_left
                · simp only [Act.put, List.setIfInBounds_toArray, List.set_cons_zero, List.set_cons_succ, i64_w, i32_w]
                  rfl
                refine done_ (by kernel_rfl) ?_
                replace HS : Aside0 (Sep (fps []) w [] w2086) := ⟨HS.out.sub (.cons _ .slnil)⟩
                go_wp2_with fail
                go_ret
                rw [← some_eq H]
                exact ⟨(by first | rfl | (simp [IntKind.wrap_u32]; done)), HS.out⟩
            · replace H := if_no c2081 H
              have c2081b0 : (a1999 == 0) = false := beq_eq_false_iff_ne.mpr c2081
              have c2081b1 : (a1999 != 0) = true := bne_iff_ne.mpr c2081
              clear c2081
              by_cases c2094 : a1999 = 3
              · replace H := if_yes c2094 H
                have c2094b0 : (a1999 == 3) = true := beq_iff_eq.mpr c2094
                have c2094b1 : (a1999 != 3) = false := bne_eq_false_iff_eq.mpr c2094
                clear c2094
                have hc2076 : w2067.cell? ⟨g2006, 0, none⟩ = some (.int .i64 a1999) := blk_cellv (HS.out.at0) 0 rfl
                go_wp2_with fail
                clear hc2076
                refine start_ (n := 25) (S := (fun w' => w'.cell? ⟨g2006, 0, none⟩ = some (.int .i64 a1999) ∧ w'.cell? ⟨g2006, 1, none⟩ = some (.int .i64 a2000) ∧ w'.cell? ⟨g2006, 2, none⟩ = some (.int .i64 a2001) ∧ w'.cell? ⟨g2006, 3, none⟩ = some (.int .i64 a2002) ∧ w'.cell? ⟨g2006, 4, none⟩ = some (.int .i64 a2003) ∧ w'.cell? ⟨g2006, 5, none⟩ = some (.int .i64 a2004) ∧ w'.cell? ⟨g2006, 6, none⟩ = some (.int .i64 a2005) ∧ w'.cell? ⟨0, 0, none⟩ = some (.int .i64 0) ∧ w'.cell? ⟨0, 1, none⟩ = some (.int .i64 0) ∧ w'.cell? ⟨0, 2, none⟩ = some (.int .i64 0) ∧ w'.cell? ⟨0, 3, none⟩ = some (.int .i64 0) ∧ w'.cell? ⟨0, 4, none⟩ = some (.int .i64 0))) (ds := []) #[false, false, false, false, false, false, false, false, false, false, false, false, false, false, false, false, false, false, false, false, false, false, false, false, false] (by kernel_rfl) rfl rfl (⟨blk_cellv ((HS.out.drew).at0) 0 rfl, blk_cellv ((HS.out.drew).at0) 1 rfl, blk_cellv ((HS.out.drew).at0) 2 rfl, blk_cellv ((HS.out.drew).at0) 3 rfl, blk_cellv ((HS.out.drew).at0) 4 rfl, blk_cellv ((HS.out.drew).at0) 5 rfl, blk_cellv ((HS.out.drew).at0) 6 rfl, Gl.cell HGl0.out (HS.out.drew).fr 0 rfl, Gl.cell HGl0.out (HS.out.drew).fr 1 rfl, Gl.cell HGl0.out (HS.out.drew).fr 2 rfl, Gl.cell HGl0.out (HS.out.drew).fr 3 rfl, Gl.cell HGl0.out (HS.out.drew).fr 4 rfl⟩) (fun hHeld => ?_)
                have HS_ := Aside0.mk HS.out.drew
                clear HS
                generalize World.drew _ = w2096 at HS_ hHeld ⊢
                have HS := HS_
                clear HS_
                refine take_ (i := 0) (N := some 28) (v := ?_) (a' := ?_) #[true, false, false, false, false, false, false, false, false, false, false, false, false, false, false, false, false, false, false, false, false, false, false, false, false] rfl rfl (by kernel_rfl) (fun _ _ _ h => h) (Or.inl ⟨by rfl, ?_⟩) hHeld ?_ ?_
                rotate_left
                · rintro w' hS'
                  obtain ⟨s0, s1, s2, s3, s4, s5, s6, s7, s8, s9, s10, s11⟩ := hS'
                  go_simp
                  with_reducible rfl
                rotate_left
                · simp only [Act.put, List.setIfInBounds_toArray, List.set_cons_zero, List.set_cons_succ, i64_w, i32_w]
                  rfl
                refine take_ (i := 2) (N := some 30) (v := ?_) (a' := ?_) #[true, false, true, false, false, false, false, false, false, false, false, false, false, false, false, false, false, false, false, false, false, false, false, false, false] rfl rfl (by kernel_rfl) (fun _ _ _ h => h) (Or.inl ⟨by rfl, ?_⟩) hHeld ?_ ?_
                rotate_left
                · rintro w' hS'
                  obtain ⟨s0, s1, s2, s3, s4, s5, s6, s7, s8, s9, s10, s11⟩ := hS'
                  go_simp
                  with_reducible rfl
                rotate_left
                · simp only [Act.put, List.setIfInBounds_toArray, List.set_cons_zero, List.set_cons_succ, i64_w, i32_w]
                  rfl
                refine one_ (i := 1) (N := some 29) #[true, true, true, false, false, false, false, false, false, false, false, false, false, false, false, false, false, false, false, false, false, false, false, false, false] rfl rfl (by kernel_rfl) (by decide) (fun K hK => ?_)
                obtain ⟨t2084, HA2097, H⟩ := bind_some H
                refine goes_ Tryd.func68 (by kernel_rfl) rfl #[.agg #[.int .i64 a1999, .int .i64 a2000, .int .i64 a2001, .int .i64 a2002, .int .i64 a2003, .int .i64 a2004, .int .i64 a2005]] (by rfl) rfl rfl (by (try simp only [List.map_toArray, List.map_cons, List.map_nil]); first | done | rfl) ?_
                refine (tag_marks.calls a1999 a2000 a2001 a2002 a2003 a2004 a2005 t2084 _ ⟨HGl0.out.pass (l := []) HS.out⟩ ⟨Sep.start _⟩ HA2097).mono ?_
                rintro e_ w2098 ⟨rfl, hS⟩
                replace HS : Aside0 (Sep (fps []) w [b11 g2006 a1999 a2000 a2001 a2002 a2003 a2004 a2005] w2098) := ⟨HS.out.call hS⟩
                clear hS
                refine ⟨_, rfl, ?_⟩
                refine hK.out _ _ (⟨blk_cellv (HS.out.at0) 0 rfl, blk_cellv (HS.out.at0) 1 rfl, blk_cellv (HS.out.at0) 2 rfl, blk_cellv (HS.out.at0) 3 rfl, blk_cellv (HS.out.at0) 4 rfl, blk_cellv (HS.out.at0) 5 rfl, blk_cellv (HS.out.at0) 6 rfl, Gl.cell HGl0.out HS.out.fr 0 rfl, Gl.cell HGl0.out HS.out.fr 1 rfl, Gl.cell HGl0.out HS.out.fr 2 rfl, Gl.cell HGl0.out HS.out.fr 3 rfl, Gl.cell HGl0.out HS.out.fr 4 rfl⟩) (fun hHeld => ?_)
                clear hK K
                refine norm_ (a' := ?_) ?_ ?_
                rotate_left
                · show Act.put _ (some 29) _ = _
                  simp only [Act.put, List.setIfInBounds_toArray, List.set_cons_zero, List.set_cons_succ, i64_w, i32_w]
                  rfl
                obtain ⟨b2088, HA2100, H⟩ := bind_some H
                have eb2099 : ∀ w, (Op.equalIn 10000 108 (.agg #[.int .i64 t2084.1, .int .i64 t2084.2.1, .int .i64 t2084.2.2.1, .int .i64 t2084.2.2.2.1, .int .i64 t2084.2.2.2.2]) (.agg #[.int .i64 0, .int .i64 0, .int .i64 0, .int .i64 0, .int .i64 0])).run Tryd.prog w = .ok b2088 w := some_eq HA2100 ▸ run_eq_ints 9998 108 3 5 .i64 [t2084.1, t2084.2.1, t2084.2.2.1, t2084.2.2.2.1, t2084.2.2.2.2] [0, 0, 0, 0, 0] Tryd.underlying108 (by kernel_rfl) (by kernel_rfl) Tryd.underlying3 (fun _ => by kernel_rfl) rfl rfl
                refine pure_ (i := 3) (N := some 31) (v := ?_) (a' := ?_) #[true, true, true, true, false, false, false, false, false, false, false, false, false, false, false, false, false, false, false, false, false, false, false, false, false] rfl rfl (by kernel_rfl) (fun _ _ _ h => h) (Or.inl ⟨by rfl, ?_⟩) ?_ ?_
                rotate_left
                · intro w'
                  go_simp
                  with_reducible rfl
                rotate_left
                · simp only [Act.put, List.setIfInBounds_toArray, List.set_cons_zero, List.set_cons_succ, i64_w, i32_w]
                  rfl
                refine pure_ (i := 4) (N := some 32) (v := ?_) (a' := ?_) #[true, true, true, true, true, false, false, false, false, false, false, false, false, false, false, false, false, false, false, false, false, false, false, false, false] rfl rfl (by kernel_rfl) (fun _ _ _ h => h) (Or.inl ⟨by rfl, ?_⟩) ?_ ?_
                rotate_left
                · intro w'
                  go_simp
                  with_reducible rfl
                rotate_left
                · simp only [Act.put, List.setIfInBounds_toArray, List.set_cons_zero, List.set_cons_succ, i64_w, i32_w]
                  rfl
                by_cases c2101 : b2088 = true
                · replace H := if_yes c2101 H
                  have c2101b0 : b2088 = true := c2101
                  have c2101b1 : (!b2088) = false := by rw [c2101b0]; rfl
                  clear c2101
                  try simp only [c2101b0, Bool.not_true, Bool.not_false]
                  refine pure_ (i := 5) (N := some 33) (v := ?_) (a' := ?_) #[true, true, true, true, true, true, false, false, false, false, false, false, false, false, false, false, false, false, false, false, false, false, false, false, false] rfl rfl (by kernel_rfl) (fun _ _ _ h => h) (Or.inl ⟨by rfl, ?_⟩) ?_ ?_
                  rotate_left
                  · intro w'
                    go_simp
                    with_reducible rfl
                  rotate_left
                  · simp only [Act.put, List.setIfInBounds_toArray, List.set_cons_zero, List.set_cons_succ, i64_w, i32_w]
                    rfl
                  try simp only [c2101b0, Bool.not_true, Bool.not_false]
                  refine take_ (i := 6) (N := some 34) (v := ?_) (a' := ?_) #[true, true, true, true, true, true, true, false, false, false, false, false, false, false, false, false, false, false, false, false, false, false, false, false, false] rfl rfl (by kernel_rfl) (fun _ _ _ h => h) (Or.inl ⟨by rfl, ?_⟩) hHeld ?_ ?_
                  rotate_left
                  · rintro w' hS'
                    obtain ⟨s0, s1, s2, s3, s4, s5, s6, s7, s8, s9, s10, s11⟩ := hS'
                    go_simp
                    with_reducible rfl
                  rotate_left
                  · simp only [Act.put, List.setIfInBounds_toArray, List.set_cons_zero, List.set_cons_succ, i64_w, i32_w]
                    rfl
                  try simp only [c2101b0, Bool.not_true, Bool.not_false]
                  refine pure_ (i := 7) (N := some 35) (v := ?_) (a' := ?_) #[true, true, true, true, true, true, true, true, false, false, false, false, false, false, false, false, false, false, false, false, false, false, false, false, false] rfl rfl (by kernel_rfl) (fun _ _ _ h => h) (Or.inl ⟨by rfl, ?_⟩) ?_ ?_
                  rotate_left
                  · intro w'
                    go_simp
                    with_reducible rfl
                  rotate_left
                  · simp only [Act.put, List.setIfInBounds_toArray, List.set_cons_zero, List.set_cons_succ, i64_w, i32_w]
                    rfl
                  refine pure_ (i := 8) (N := some 36) (v := ?_) (a' := ?_) #[true, true, true, true, true, true, true, true, true, false, false, false, false, false, false, false, false, false, false, false, false, false, false, false, false] rfl rfl (by kernel_rfl) (fun _ _ _ h => h) (Or.inl ⟨by rfl, ?_⟩) ?_ ?_
                  rotate_left
                  · intro w'
                    go_simp
                    with_reducible rfl
                  rotate_left
                  · simp only [Act.put, List.setIfInBounds_toArray, List.set_cons_zero, List.set_cons_succ, i64_w, i32_w]
                    rfl
                  refine pure_ (i := 9) (N := some 37) (v := ?_) (a' := ?_) #[true, true, true, true, true, true, true, true, true, true, false, false, false, false, false, false, false, false, false, false, false, false, false, false, false] rfl rfl (by kernel_rfl) (fun _ _ _ h => h) (Or.inl ⟨by rfl, ?_⟩) ?_ ?_
                  rotate_left
                  · intro w'
                    go_simp
                    with_reducible rfl
                  rotate_left
                  · simp only [Act.put, List.setIfInBounds_toArray, List.set_cons_zero, List.set_cons_succ, i64_w, i32_w]
                    rfl
                  by_cases c2102 : a2005 ≥ 0
                  · replace H := if_yes c2102 H
                    have c2102b0 : decide (0 ≤ a2005) = true := decide_eq_true c2102
                    clear c2102
                    try simp only [c2102b0, Bool.not_true, Bool.not_false]
                    refine pure_ (i := 10) (N := some 38) (v := ?_) (a' := ?_) #[true, true, true, true, true, true, true, true, true, true, true, false, false, false, false, false, false, false, false, false, false, false, false, false, false] rfl rfl (by kernel_rfl) (fun _ _ _ h => h) (Or.inl ⟨by rfl, ?_⟩) ?_ ?_
                    rotate_left
                    · intro w'
                      go_simp
                      with_reducible rfl
                    rotate_left
                    · simp only [Act.put, List.setIfInBounds_toArray, List.set_cons_zero, List.set_cons_succ, i64_w, i32_w]
                      rfl
                    try simp only [c2102b0, Bool.not_true, Bool.not_false]
                    refine take_ (i := 11) (N := some 39) (v := ?_) (a' := ?_) #[true, true, true, true, true, true, true, true, true, true, true, true, false, false, false, false, false, false, false, false, false, false, false, false, false] rfl rfl (by kernel_rfl) (fun _ _ _ h => h) (Or.inl ⟨by rfl, ?_⟩) hHeld ?_ ?_
                    rotate_left
                    · rintro w' hS'
                      obtain ⟨s0, s1, s2, s3, s4, s5, s6, s7, s8, s9, s10, s11⟩ := hS'
                      go_simp
                      with_reducible rfl
                    rotate_left
                    · simp only [Act.put, List.setIfInBounds_toArray, List.set_cons_zero, List.set_cons_succ, i64_w, i32_w]
                      rfl
                    try simp only [c2102b0, Bool.not_true, Bool.not_false]
                    refine pure_ (i := 12) (N := some 40) (v := ?_) (a' := ?_) #[true, true, true, true, true, true, true, true, true, true, true, true, true, false, false, false, false, false, false, false, false, false, false, false, false] rfl rfl (by kernel_rfl) (fun _ _ _ h => h) (Or.inl ⟨by rfl, ?_⟩) ?_ ?_
                    rotate_left
                    · intro w'
                      go_simp
                      with_reducible rfl
                    rotate_left
                    · simp only [Act.put, List.setIfInBounds_toArray, List.set_cons_zero, List.set_cons_succ, i64_w, i32_w]
                      rfl
                    refine pure_ (i := 13) (N := some 41) (v := ?_) (a' := ?_) #[true, true, true, true, true, true, true, true, true, true, true, true, true, true, false, false, false, false, false, false, false, false, false, false, false] rfl rfl (by kernel_rfl) (fun _ _ _ h => h) (Or.inl ⟨by rfl, ?_⟩) ?_ ?_
                    rotate_left
                    · intro w'
                      go_simp
                      with_reducible rfl
                    rotate_left
                    · simp only [Act.put, List.setIfInBounds_toArray, List.set_cons_zero, List.set_cons_succ, i64_w, i32_w]
                      rfl
                    refine pure_ (i := 14) (N := some 42) (v := ?_) (a' := ?_) #[true, true, true, true, true, true, true, true, true, true, true, true, true, true, true, false, false, false, false, false, false, false, false, false, false] rfl rfl (by kernel_rfl) (fun _ _ _ h => h) (Or.inl ⟨by rfl, ?_⟩) ?_ ?_
                    rotate_left
                    · intro w'
                      go_simp
                      with_reducible rfl
                    rotate_left
                    · simp only [Act.put, List.setIfInBounds_toArray, List.set_cons_zero, List.set_cons_succ, i64_w, i32_w]
                      rfl
                    by_cases c2103 : a2005 < 1048576
                    · replace H := if_yes c2103 H
                      have c2103b0 : decide (a2005 < 1048576) = true := decide_eq_true c2103
                      clear c2103
                      try simp only [c2103b0, Bool.not_true, Bool.not_false]
                      refine pure_ (i := 15) (N := some 43) (v := ?_) (a' := ?_) #[true, true, true, true, true, true, true, true, true, true, true, true, true, true, true, true, false, false, false, false, false, false, false, false, false] rfl rfl (by kernel_rfl) (fun _ _ _ h => h) (Or.inl ⟨by rfl, ?_⟩) ?_ ?_
                      rotate_left
                      · intro w'
                        go_simp
                        with_reducible rfl
                      rotate_left
                      · simp only [Act.put, List.setIfInBounds_toArray, List.set_cons_zero, List.set_cons_succ, i64_w, i32_w]
                        rfl
                      try simp only [c2103b0, Bool.not_true, Bool.not_false]
                      refine take_ (i := 16) (N := some 44) (v := ?_) (a' := ?_) #[true, true, true, true, true, true, true, true, true, true, true, true, true, true, true, true, true, false, false, false, false, false, false, false, false] rfl rfl (by kernel_rfl) (fun _ _ _ h => h) (Or.inl ⟨by rfl, ?_⟩) hHeld ?_ ?_
                      rotate_left
                      · rintro w' hS'
                        obtain ⟨s0, s1, s2, s3, s4, s5, s6, s7, s8, s9, s10, s11⟩ := hS'
                        go_simp
                        with_reducible rfl
                      rotate_left
                      · simp only [Act.put, List.setIfInBounds_toArray, List.set_cons_zero, List.set_cons_succ, i64_w, i32_w]
                        rfl
                      try simp only [c2103b0, Bool.not_true, Bool.not_false]
                      refine pure_ (i := 17) (N := some 45) (v := ?_) (a' := ?_) #[true, true, true, true, true, true, true, true, true, true, true, true, true, true, true, true, true, true, false, false, false, false, false, false, false] rfl rfl (by kernel_rfl) (fun _ _ _ h => h) (Or.inl ⟨by rfl, ?_⟩) ?_ ?_
                      rotate_left
                      · intro w'
                        go_simp
                        with_reducible rfl
                      rotate_left
                      · simp only [Act.put, List.setIfInBounds_toArray, List.set_cons_zero, List.set_cons_succ, i64_w, i32_w]
                        rfl
                      try simp only [c2103b0, Bool.not_true, Bool.not_false]
                      refine pure_ (i := 18) (N := some 46) (v := ?_) (a' := ?_) #[true, true, true, true, true, true, true, true, true, true, true, true, true, true, true, true, true, true, true, false, false, false, false, false, false] rfl rfl (by kernel_rfl) (fun _ _ _ h => h) (Or.inl ⟨by rfl, ?_⟩) ?_ ?_
                      rotate_left
                      · intro w'
                        go_simp
                        with_reducible rfl
                      rotate_left
                      · simp only [Act.put, List.setIfInBounds_toArray, List.set_cons_zero, List.set_cons_succ, i64_w, i32_w]
                        rfl
                      try simp only [c2094b0, c2094b1, Bool.not_true, Bool.not_false]
                      refine pure_ (i := 19) (N := some 47) (v := undef) (a' := ?_) #[true, true, true, true, true, true, true, true, true, true, true, true, true, true, true, true, true, true, true, true, false, false, false, false, false] rfl rfl (by kernel_rfl) (fun _ _ _ h => h) (Or.inr ⟨by rfl, rfl⟩) ?_ ?_
                      rotate_left
                      · simp only [Act.put, List.setIfInBounds_toArray, List.set_cons_zero, List.set_cons_succ, i64_w, i32_w]
                        rfl
                      try simp only [c2094b0, c2094b1, Bool.not_true, Bool.not_false]
                      refine pure_ (i := 20) (N := some 48) (v := undef) (a' := ?_) #[true, true, true, true, true, true, true, true, true, true, true, true, true, true, true, true, true, true, true, true, true, false, false, false, false] rfl rfl (by kernel_rfl) (fun _ _ _ h => h) (Or.inr ⟨by rfl, rfl⟩) ?_ ?_
                      rotate_left
                      · simp only [Act.put, List.setIfInBounds_toArray, List.set_cons_zero, List.set_cons_succ, i64_w, i32_w]
                        rfl
                      try simp only [c2094b0, c2094b1, Bool.not_true, Bool.not_false]
                      refine pure_ (i := 21) (N := some 49) (v := undef) (a' := ?_) #[true, true, true, true, true, true, true, true, true, true, true, true, true, true, true, true, true, true, true, true, true, true, false, false, false] rfl rfl (by kernel_rfl) (fun _ _ _ h => h) (Or.inr ⟨by rfl, rfl⟩) ?_ ?_
                      rotate_left
                      · simp only [Act.put, List.setIfInBounds_toArray, List.set_cons_zero, List.set_cons_succ, i64_w, i32_w]
                        rfl
                      try simp only [c2103b0, Bool.not_true, Bool.not_false]
                      refine pure_ (i := 22) (N := some 50) (v := ?_) (a' := ?_) #[true, true, true, true, true, true, true, true, true, true, true, true, true, true, true, true, true, true, true, true, true, true, true, false, false] rfl rfl (by kernel_rfl) (fun _ _ _ h => h) (Or.inl ⟨by rfl, ?_⟩) ?_ ?_
                      rotate_left
                      · intro w'
                        go_simp
                        with_reducible rfl
                      rotate_left
                      · simp only [Act.put, List.setIfInBounds_toArray, List.set_cons_zero, List.set_cons_succ, i64_w, i32_w]
                        rfl
                      refine pure_ (i := 23) (N := some 51) (v := ?_) (a' := ?_) #[true, true, true, true, true, true, true, true, true, true, true, true, true, true, true, true, true, true, true, true, true, true, true, true, false] rfl rfl (by kernel_rfl) (fun _ _ _ h => h) (Or.inl ⟨by rfl, ?_⟩) ?_ ?_
                      rotate_left
                      · intro w'
                        go_simp
                        with_reducible rfl
                      rotate_left
                      · simp only [Act.put, List.setIfInBounds_toArray, List.set_cons_zero, List.set_cons_succ, i64_w, i32_w]
                        rfl
                      refine pure_ (i := 24) (N := some 2) (v := ?_) (a' := ?_) #[true, true, true, true, true, true, true, true, true, true, true, true, true, true, true, true, true, true, true, true, true, true, true, true, true] rfl rfl (by kernel_rfl) (fun _ _ _ h => h) (Or.inl ⟨by rfl, ?_⟩) ?_ ?_
                      rotate_left
                      · intro w'
                        go_simp
                        with_reducible rfl
                      rotate_left
                      · simp only [Act.put, List.setIfInBounds_toArray, List.set_cons_zero, List.set_cons_succ, i64_w, i32_w]
                        rfl
                      refine done_ (by kernel_rfl) ?_
                      replace HS : Aside0 (Sep (fps []) w [] w2098) := ⟨HS.out.sub (.cons _ .slnil)⟩
                      go_wp2_with fail
                      go_ret
                      rw [← some_eq H]
                      exact ⟨(by first | rfl | (simp [IntKind.wrap_u32]; done)), HS.out⟩
                    · replace H := if_no c2103 H
                      have c2103b0 : decide (a2005 < 1048576) = false := decide_eq_false c2103
                      clear c2103
                      try simp only [c2103b0, Bool.not_true, Bool.not_false]
                      refine pure_ (i := 15) (N := some 43) (v := undef) (a' := ?_) #[true, true, true, true, true, true, true, true, true, true, true, true, true, true, true, true, false, false, false, false, false, false, false, false, false] rfl rfl (by kernel_rfl) (fun _ _ _ h => h) (Or.inr ⟨by rfl, rfl⟩) ?_ ?_
                      rotate_left
                      · simp only [Act.put, List.setIfInBounds_toArray, List.set_cons_zero, List.set_cons_succ, i64_w, i32_w]
                        rfl
                      try simp only [c2103b0, Bool.not_true, Bool.not_false]
                      refine pure_ (i := 16) (N := some 44) (v := undef) (a' := ?_) #[true, true, true, true, true, true, true, true, true, true, true, true, true, true, true, true, true, false, false, false, false, false, false, false, false] rfl rfl (by kernel_rfl) (fun _ _ _ h => h) (Or.inr ⟨by rfl, rfl⟩) ?_ ?_
                      rotate_left
                      · simp only [Act.put, List.setIfInBounds_toArray, List.set_cons_zero, List.set_cons_succ, i64_w, i32_w]
                        rfl
                      try simp only [c2103b0, Bool.not_true, Bool.not_false]
                      refine pure_ (i := 17) (N := some 45) (v := undef) (a' := ?_) #[true, true, true, true, true, true, true, true, true, true, true, true, true, true, true, true, true, true, false, false, false, false, false, false, false] rfl rfl (by kernel_rfl) (fun _ _ _ h => h) (Or.inr ⟨by rfl, rfl⟩) ?_ ?_
                      rotate_left
                      · simp only [Act.put, List.setIfInBounds_toArray, List.set_cons_zero, List.set_cons_succ, i64_w, i32_w]
                        rfl
                      try simp only [c2103b0, Bool.not_true, Bool.not_false]
                      refine pure_ (i := 18) (N := some 46) (v := undef) (a' := ?_) #[true, true, true, true, true, true, true, true, true, true, true, true, true, true, true, true, true, true, true, false, false, false, false, false, false] rfl rfl (by kernel_rfl) (fun _ _ _ h => h) (Or.inr ⟨by rfl, rfl⟩) ?_ ?_
                      rotate_left
                      · simp only [Act.put, List.setIfInBounds_toArray, List.set_cons_zero, List.set_cons_succ, i64_w, i32_w]
                        rfl
                      refine pure_ (i := 19) (N := some 47) (v := undef) (a' := ?_) #[true, true, true, true, true, true, true, true, true, true, true, true, true, true, true, true, true, true, true, true, false, false, false, false, false] rfl rfl (by kernel_rfl) (fun _ _ _ h => h) (Or.inr ⟨by rfl, rfl⟩) ?_ ?_
                      rotate_left
                      · simp only [Act.put, List.setIfInBounds_toArray, List.set_cons_zero, List.set_cons_succ, i64_w, i32_w]
                        rfl
                      refine pure_ (i := 20) (N := some 48) (v := undef) (a' := ?_) #[true, true, true, true, true, true, true, true, true, true, true, true, true, true, true, true, true, true, true, true, true, false, false, false, false] rfl rfl (by kernel_rfl) (fun _ _ _ h => h) (Or.inr ⟨by rfl, rfl⟩) ?_ ?_
                      rotate_left
                      · simp only [Act.put, List.setIfInBounds_toArray, List.set_cons_zero, List.set_cons_succ, i64_w, i32_w]
                        rfl
                      refine pure_ (i := 21) (N := some 49) (v := undef) (a' := ?_) #[true, true, true, true, true, true, true, true, true, true, true, true, true, true, true, true, true, true, true, true, true, true, false, false, false] rfl rfl (by kernel_rfl) (fun _ _ _ h => h) (Or.inr ⟨by rfl, rfl⟩) ?_ ?_
                      rotate_left
                      · simp only [Act.put, List.setIfInBounds_toArray, List.set_cons_zero, List.set_cons_succ, i64_w, i32_w]
                        rfl
                      try simp only [c2103b0, Bool.not_true, Bool.not_false]
                      refine pure_ (i := 22) (N := some 50) (v := undef) (a' := ?_) #[true, true, true, true, true, true, true, true, true, true, true, true, true, true, true, true, true, true, true, true, true, true, true, false, false] rfl rfl (by kernel_rfl) (fun _ _ _ h => h) (Or.inr ⟨by rfl, rfl⟩) ?_ ?_
                      rotate_left
                      · simp only [Act.put, List.setIfInBounds_toArray, List.set_cons_zero, List.set_cons_succ, i64_w, i32_w]
                        rfl
                      refine pure_ (i := 23) (N := some 51) (v := ?_) (a' := ?_) #[true, true, true, true, true, true, true, true, true, true, true, true, true, true, true, true, true, true, true, true, true, true, true, true, false] rfl rfl (by kernel_rfl) (fun _ _ _ h => h) (Or.inl ⟨by rfl, ?_⟩) ?_ ?_
                      rotate_left
                      · intro w'
                        go_simp
                        with_reducible rfl
                      rotate_left
                      · simp only [Act.put, List.setIfInBounds_toArray, List.set_cons_zero, List.set_cons_succ, i64_w, i32_w]
                        rfl
                      refine pure_ (i := 24) (N := some 2) (v := ?_) (a' := ?_) #[true, true, true, true, true, true, true, true, true, true, true, true, true, true, true, true, true, true, true, true, true, true, true, true, true] rfl rfl (by kernel_rfl) (fun _ _ _ h => h) (Or.inl ⟨by rfl, ?_⟩) ?_ ?_
                      rotate_left
                      · intro w'
                        go_simp
                        with_reducible rfl
                      rotate_left
                      · simp only [Act.put, List.setIfInBounds_toArray, List.set_cons_zero, List.set_cons_succ, i64_w, i32_w]
                        rfl
                      refine done_ (by kernel_rfl) ?_
                      replace HS : Aside0 (Sep (fps []) w [] w2098) := ⟨HS.out.sub (.cons _ .slnil)⟩
                      go_wp2_with fail
                      go_ret
                      rw [← some_eq H]
                      exact ⟨(by first | rfl | (simp [IntKind.wrap_u32]; done)), HS.out⟩
                  · replace H := if_no c2102 H
                    have c2102b0 : decide (0 ≤ a2005) = false := decide_eq_false c2102
                    clear c2102
                    try simp only [c2102b0, Bool.not_true, Bool.not_false]
                    refine pure_ (i := 10) (N := some 38) (v := undef) (a' := ?_) #[true, true, true, true, true, true, true, true, true, true, true, false, false, false, false, false, false, false, false, false, false, false, false, false, false] rfl rfl (by kernel_rfl) (fun _ _ _ h => h) (Or.inr ⟨by rfl, rfl⟩) ?_ ?_
                    rotate_left
                    · simp only [Act.put, List.setIfInBounds_toArray, List.set_cons_zero, List.set_cons_succ, i64_w, i32_w]
                      rfl
                    try simp only [c2102b0, Bool.not_true, Bool.not_false]
                    refine pure_ (i := 11) (N := some 39) (v := undef) (a' := ?_) #[true, true, true, true, true, true, true, true, true, true, true, true, false, false, false, false, false, false, false, false, false, false, false, false, false] rfl rfl (by kernel_rfl) (fun _ _ _ h => h) (Or.inr ⟨by rfl, rfl⟩) ?_ ?_
                    rotate_left
                    · simp only [Act.put, List.setIfInBounds_toArray, List.set_cons_zero, List.set_cons_succ, i64_w, i32_w]
                      rfl
                    try simp only [c2102b0, Bool.not_true, Bool.not_false]
                    refine pure_ (i := 12) (N := some 40) (v := undef) (a' := ?_) #[true, true, true, true, true, true, true, true, true, true, true, true, true, false, false, false, false, false, false, false, false, false, false, false, false] rfl rfl (by kernel_rfl) (fun _ _ _ h => h) (Or.inr ⟨by rfl, rfl⟩) ?_ ?_
                    rotate_left
                    · simp only [Act.put, List.setIfInBounds_toArray, List.set_cons_zero, List.set_cons_succ, i64_w, i32_w]
                      rfl
                    refine pure_ (i := 13) (N := some 41) (v := ?_) (a' := ?_) #[true, true, true, true, true, true, true, true, true, true, true, true, true, true, false, false, false, false, false, false, false, false, false, false, false] rfl rfl (by kernel_rfl) (fun _ _ _ h => h) (Or.inl ⟨by rfl, ?_⟩) ?_ ?_
                    rotate_left
                    · intro w'
                      go_simp
                      with_reducible rfl
                    rotate_left
                    · simp only [Act.put, List.setIfInBounds_toArray, List.set_cons_zero, List.set_cons_succ, i64_w, i32_w]
                      rfl
                    refine pure_ (i := 14) (N := some 42) (v := ?_) (a' := ?_) #[true, true, true, true, true, true, true, true, true, true, true, true, true, true, true, false, false, false, false, false, false, false, false, false, false] rfl rfl (by kernel_rfl) (fun _ _ _ h => h) (Or.inl ⟨by rfl, ?_⟩) ?_ ?_
                    rotate_left
                    · intro w'
                      go_simp
                      with_reducible rfl
                    rotate_left
                    · simp only [Act.put, List.setIfInBounds_toArray, List.set_cons_zero, List.set_cons_succ, i64_w, i32_w]
                      rfl
                    refine pure_ (i := 15) (N := some 43) (v := undef) (a' := ?_) #[true, true, true, true, true, true, true, true, true, true, true, true, true, true, true, true, false, false, false, false, false, false, false, false, false] rfl rfl (by kernel_rfl) (fun _ _ _ h => h) (Or.inr ⟨by rfl, rfl⟩) ?_ ?_
                    rotate_left
                    · simp only [Act.put, List.setIfInBounds_toArray, List.set_cons_zero, List.set_cons_succ, i64_w, i32_w]
                      rfl
                    refine pure_ (i := 16) (N := some 44) (v := undef) (a' := ?_) #[true, true, true, true, true, true, true, true, true, true, true, true, true, true, true, true, true, false, false, false, false, false, false, false, false] rfl rfl (by kernel_rfl) (fun _ _ _ h => h) (Or.inr ⟨by rfl, rfl⟩) ?_ ?_
                    rotate_left
                    · simp only [Act.put, List.setIfInBounds_toArray, List.set_cons_zero, List.set_cons_succ, i64_w, i32_w]
                      rfl
                    refine pure_ (i := 17) (N := some 45) (v := undef) (a' := ?_) #[true, true, true, true, true, true, true, true, true, true, true, true, true, true, true, true, true, true, false, false, false, false, false, false, false] rfl rfl (by kernel_rfl) (fun _ _ _ h => h) (Or.inr ⟨by rfl, rfl⟩) ?_ ?_
                    rotate_left
                    · simp only [Act.put, List.setIfInBounds_toArray, List.set_cons_zero, List.set_cons_succ, i64_w, i32_w]
                      rfl
                    refine pure_ (i := 18) (N := some 46) (v := undef) (a' := ?_) #[true, true, true, true, true, true, true, true, true, true, true, true, true, true, true, true, true, true, true, false, false, false, false, false, false] rfl rfl (by kernel_rfl) (fun _ _ _ h => h) (Or.inr ⟨by rfl, rfl⟩) ?_ ?_
                    rotate_left
                    · simp only [Act.put, List.setIfInBounds_toArray, List.set_cons_zero, List.set_cons_succ, i64_w, i32_w]
                      rfl
                    refine pure_ (i := 19) (N := some 47) (v := undef) (a' := ?_) #[true, true, true, true, true, true, true, true, true, true, true, true, true, true, true, true, true, true, true, true, false, false, false, false, false] rfl rfl (by kernel_rfl) (fun _ _ _ h => h) (Or.inr ⟨by rfl, rfl⟩) ?_ ?_
                    rotate_left
                    · simp only [Act.put, List.setIfInBounds_toArray, List.set_cons_zero, List.set_cons_succ, i64_w, i32_w]
                      rfl
                    refine pure_ (i := 20) (N := some 48) (v := undef) (a' := ?_) #[true, true, true, true, true, true, true, true, true, true, true, true, true, true, true, true, true, true, true, true, true, false, false, false, false] rfl rfl (by kernel_rfl) (fun _ _ _ h => h) (Or.inr ⟨by rfl, rfl⟩) ?_ ?_
                    rotate_left
                    · simp only [Act.put, List.setIfInBounds_toArray, List.set_cons_zero, List.set_cons_succ, i64_w, i32_w]
                      rfl
                    refine pure_ (i := 21) (N := some 49) (v := undef) (a' := ?_) #[true, true, true, true, true, true, true, true, true, true, true, true, true, true, true, true, true, true, true, true, true, true, false, false, false] rfl rfl (by kernel_rfl) (fun _ _ _ h => h) (Or.inr ⟨by rfl, rfl⟩) ?_ ?_
                    rotate_left
                    · simp only [Act.put, List.setIfInBounds_toArray, List.set_cons_zero, List.set_cons_succ, i64_w, i32_w]
                      rfl
                    refine pure_ (i := 22) (N := some 50) (v := undef) (a' := ?_) #[true, true, true, true, true, true, true, true, true, true, true, true, true, true, true, true, true, true, true, true, true, true, true, false, false] rfl rfl (by kernel_rfl) (fun _ _ _ h => h) (Or.inr ⟨by rfl, rfl⟩) ?_ ?_
                    rotate_left
                    · simp only [Act.put, List.setIfInBounds_toArray, List.set_cons_zero, List.set_cons_succ, i64_w, i32_w]
                      rfl
                    refine pure_ (i := 23) (N := some 51) (v := ?_) (a' := ?_) #[true, true, true, true, true, true, true, true, true, true, true, true, true, true, true, true, true, true, true, true, true, true, true, true, false] rfl rfl (by kernel_rfl) (fun _ _ _ h => h) (Or.inl ⟨by rfl, ?_⟩) ?_ ?_
                    rotate_left
                    · intro w'
                      go_simp
                      with_reducible rfl
                    rotate_left
                    · simp only [Act.put, List.setIfInBounds_toArray, List.set_cons_zero, List.set_cons_succ, i64_w, i32_w]
                      rfl
                    refine pure_ (i := 24) (N := some 2) (v := ?_) (a' := ?_) #[true, true, true, true, true, true, true, true, true, true, true, true, true, true, true, true, true, true, true, true, true, true, true, true, true] rfl rfl (by kernel_rfl) (fun _ _ _ h => h) (Or.inl ⟨by rfl, ?_⟩) ?_ ?_
                    rotate_left
                    · intro w'
                      go_simp
                      with_reducible rfl
                    rotate_left
                    · simp only [Act.put, List.setIfInBounds_toArray, List.set_cons_zero, List.set_cons_succ, i64_w, i32_w]
                      rfl
                    refine done_ (by kernel_rfl) ?_
                    replace HS : Aside0 (Sep (fps []) w [] w2098) := ⟨HS.out.sub (.cons _ .slnil)⟩
                    go_wp2_with fail
                    go_ret
                    rw [← some_eq H]
                    exact ⟨(by first | rfl | (simp [IntKind.wrap_u32]; done)), HS.out⟩
                · replace H := if_no c2101 H
                  have c2101b0 : b2088 = false := by simpa using c2101
                  have c2101b1 : (!b2088) = true := by rw [c2101b0]; rfl
                  clear c2101
                  try simp only [c2101b0, Bool.not_true, Bool.not_false]
                  refine pure_ (i := 5) (N := some 33) (v := undef) (a' := ?_) #[true, true, true, true, true, true, false, false, false, false, false, false, false, false, false, false, false, false, false, false, false, false, false, false, false] rfl rfl (by kernel_rfl) (fun _ _ _ h => h) (Or.inr ⟨by rfl, rfl⟩) ?_ ?_
                  rotate_left
                  · simp only [Act.put, List.setIfInBounds_toArray, List.set_cons_zero, List.set_cons_succ, i64_w, i32_w]
                    rfl
                  try simp only [c2101b0, Bool.not_true, Bool.not_false]
                  refine pure_ (i := 6) (N := some 34) (v := undef) (a' := ?_) #[true, true, true, true, true, true, true, false, false, false, false, false, false, false, false, false, false, false, false, false, false, false, false, false, false] rfl rfl (by kernel_rfl) (fun _ _ _ h => h) (Or.inr ⟨by rfl, rfl⟩) ?_ ?_
                  rotate_left
                  · simp only [Act.put, List.setIfInBounds_toArray, List.set_cons_zero, List.set_cons_succ, i64_w, i32_w]
                    rfl
                  try simp only [c2101b0, Bool.not_true, Bool.not_false]
                  refine pure_ (i := 7) (N := some 35) (v := undef) (a' := ?_) #[true, true, true, true, true, true, true, true, false, false, false, false, false, false, false, false, false, false, false, false, false, false, false, false, false] rfl rfl (by kernel_rfl) (fun _ _ _ h => h) (Or.inr ⟨by rfl, rfl⟩) ?_ ?_
                  rotate_left
                  · simp only [Act.put, List.setIfInBounds_toArray, List.set_cons_zero, List.set_cons_succ, i64_w, i32_w]
                    rfl
                  refine pure_ (i := 8) (N := some 36) (v := ?_) (a' := ?_) #[true, true, true, true, true, true, true, true, true, false, false, false, false, false, false, false, false, false, false, false, false, false, false, false, false] rfl rfl (by kernel_rfl) (fun _ _ _ h => h) (Or.inl ⟨by rfl, ?_⟩) ?_ ?_
                  rotate_left
                  · intro w'
                    go_simp
                    with_reducible rfl
                  rotate_left
                  · simp only [Act.put, List.setIfInBounds_toArray, List.set_cons_zero, List.set_cons_succ, i64_w, i32_w]
                    rfl
                  refine pure_ (i := 9) (N := some 37) (v := ?_) (a' := ?_) #[true, true, true, true, true, true, true, true, true, true, false, false, false, false, false, false, false, false, false, false, false, false, false, false, false] rfl rfl (by kernel_rfl) (fun _ _ _ h => h) (Or.inl ⟨by rfl, ?_⟩) ?_ ?_
                  rotate_left
                  · intro w'
                    go_simp
                    with_reducible rfl
                  rotate_left
                  · simp only [Act.put, List.setIfInBounds_toArray, List.set_cons_zero, List.set_cons_succ, i64_w, i32_w]
                    rfl
                  refine pure_ (i := 10) (N := some 38) (v := undef) (a' := ?_) #[true, true, true, true, true, true, true, true, true, true, true, false, false, false, false, false, false, false, false, false, false, false, false, false, false] rfl rfl (by kernel_rfl) (fun _ _ _ h => h) (Or.inr ⟨by rfl, rfl⟩) ?_ ?_
                  rotate_left
                  · simp only [Act.put, List.setIfInBounds_toArray, List.set_cons_zero, List.set_cons_succ, i64_w, i32_w]
                    rfl
                  refine pure_ (i := 11) (N := some 39) (v := undef) (a' := ?_) #[true, true, true, true, true, true, true, true, true, true, true, true, false, false, false, false, false, false, false, false, false, false, false, false, false] rfl rfl (by kernel_rfl) (fun _ _ _ h => h) (Or.inr ⟨by rfl, rfl⟩) ?_ ?_
                  rotate_left
                  · simp only [Act.put, List.setIfInBounds_toArray, List.set_cons_zero, List.set_cons_succ, i64_w, i32_w]
                    rfl
                  refine pure_ (i := 12) (N := some 40) (v := undef) (a' := ?_) #[true, true, true, true, true, true, true, true, true, true, true, true, true, false, false, false, false, false, false, false, false, false, false, false, false] rfl rfl (by kernel_rfl) (fun _ _ _ h => h) (Or.inr ⟨by rfl, rfl⟩) ?_ ?_
                  rotate_left
                  · simp only [Act.put, List.setIfInBounds_toArray, List.set_cons_zero, List.set_cons_succ, i64_w, i32_w]
                    rfl
                  refine pure_ (i := 13) (N := some 41) (v := ?_) (a' := ?_) #[true, true, true, true, true, true, true, true, true, true, true, true, true, true, false, false, false, false, false, false, false, false, false, false, false] rfl rfl (by kernel_rfl) (fun _ _ _ h => h) (Or.inl ⟨by rfl, ?_⟩) ?_ ?_
                  rotate_left
                  · intro w'
                    go_simp
                    with_reducible rfl
                  rotate_left
                  · simp only [Act.put, List.setIfInBounds_toArray, List.set_cons_zero, List.set_cons_succ, i64_w, i32_w]
                    rfl
                  refine pure_ (i := 14) (N := some 42) (v := ?_) (a' := ?_) #[true, true, true, true, true, true, true, true, true, true, true, true, true, true, true, false, false, false, false, false, false, false, false, false, false] rfl rfl (by kernel_rfl) (fun _ _ _ h => h) (Or.inl ⟨by rfl, ?_⟩) ?_ ?_
                  rotate_left
                  · intro w'
                    go_simp
                    with_reducible rfl
                  rotate_left
                  · simp only [Act.put, List.setIfInBounds_toArray, List.set_cons_zero, List.set_cons_succ, i64_w, i32_w]
                    rfl
                  refine pure_ (i := 15) (N := some 43) (v := undef) (a' := ?_) #[true, true, true, true, true, true, true, true, true, true, true, true, true, true, true, true, false, false, false, false, false, false, false, false, false] rfl rfl (by kernel_rfl) (fun _ _ _ h => h) (Or.inr ⟨by rfl, rfl⟩) ?_ ?_
                  rotate_left
                  · simp only [Act.put, List.setIfInBounds_toArray, List.set_cons_zero, List.set_cons_succ, i64_w, i32_w]
                    rfl
                  refine pure_ (i := 16) (N := some 44) (v := undef) (a' := ?_) #[true, true, true, true, true, true, true, true, true, true, true, true, true, true, true, true, true, false, false, false, false, false, false, false, false] rfl rfl (by kernel_rfl) (fun _ _ _ h => h) (Or.inr ⟨by rfl, rfl⟩) ?_ ?_
                  rotate_left
                  · simp only [Act.put, List.setIfInBounds_toArray, List.set_cons_zero, List.set_cons_succ, i64_w, i32_w]
                    rfl
                  refine pure_ (i := 17) (N := some 45) (v := undef) (a' := ?_) #[true, true, true, true, true, true, true, true, true, true, true, true, true, true, true, true, true, true, false, false, false, false, false, false, false] rfl rfl (by kernel_rfl) (fun _ _ _ h => h) (Or.inr ⟨by rfl, rfl⟩) ?_ ?_
                  rotate_left
                  · simp only [Act.put, List.setIfInBounds_toArray, List.set_cons_zero, List.set_cons_succ, i64_w, i32_w]
                    rfl
                  refine pure_ (i := 18) (N := some 46) (v := undef) (a' := ?_) #[true, true, true, true, true, true, true, true, true, true, true, true, true, true, true, true, true, true, true, false, false, false, false, false, false] rfl rfl (by kernel_rfl) (fun _ _ _ h => h) (Or.inr ⟨by rfl, rfl⟩) ?_ ?_
                  rotate_left
                  · simp only [Act.put, List.setIfInBounds_toArray, List.set_cons_zero, List.set_cons_succ, i64_w, i32_w]
                    rfl
                  refine pure_ (i := 19) (N := some 47) (v := undef) (a' := ?_) #[true, true, true, true, true, true, true, true, true, true, true, true, true, true, true, true, true, true, true, true, false, false, false, false, false] rfl rfl (by kernel_rfl) (fun _ _ _ h => h) (Or.inr ⟨by rfl, rfl⟩) ?_ ?_
                  rotate_left
                  · simp only [Act.put, List.setIfInBounds_toArray, List.set_cons_zero, List.set_cons_succ, i64_w, i32_w]
                    rfl
                  refine pure_ (i := 20) (N := some 48) (v := undef) (a' := ?_) #[true, true, true, true, true, true, true, true, true, true, true, true, true, true, true, true, true, true, true, true, true, false, false, false, false] rfl rfl (by kernel_rfl) (fun _ _ _ h => h) (Or.inr ⟨by rfl, rfl⟩) ?_ ?_
                  rotate_left
                  · simp only [Act.put, List.setIfInBounds_toArray, List.set_cons_zero, List.set_cons_succ, i64_w, i32_w]
                    rfl
                  refine pure_ (i := 21) (N := some 49) (v := undef) (a' := ?_) #[true, true, true, true, true, true, true, true, true, true, true, true, true, true, true, true, true, true, true, true, true, true, false, false, false] rfl rfl (by kernel_rfl) (fun _ _ _ h => h) (Or.inr ⟨by rfl, rfl⟩) ?_ ?_
                  rotate_left
                  · simp only [Act.put, List.setIfInBounds_toArray, List.set_cons_zero, List.set_cons_succ, i64_w, i32_w]
                    rfl
                  refine pure_ (i := 22) (N := some 50) (v := undef) (a' := ?_) #[true, true, true, true, true, true, true, true, true, true, true, true, true, true, true, true, true, true, true, true, true, true, true, false, false] rfl rfl (by kernel_rfl) (fun _ _ _ h => h) (Or.inr ⟨by rfl, rfl⟩) ?_ ?_
                  rotate_left
                  · simp only [Act.put, List.setIfInBounds_toArray, List.set_cons_zero, List.set_cons_succ, i64_w, i32_w]
                    rfl
                  refine pure_ (i := 23) (N := some 51) (v := ?_) (a' := ?_) #[true, true, true, true, true, true, true, true, true, true, true, true, true, true, true, true, true, true, true, true, true, true, true, true, false] rfl rfl (by kernel_rfl) (fun _ _ _ h => h) (Or.inl ⟨by rfl, ?_⟩) ?_ ?_
                  rotate_left
                  · intro w'
                    go_simp
                    with_reducible rfl
                  rotate_left
                  · simp only [Act.put, List.setIfInBounds_toArray, List.set_cons_zero, List.set_cons_succ, i64_w, i32_w]
                    rfl
                  refine pure_ (i := 24) (N := some 2) (v := ?_) (a' := ?_) #[true, true, true, true, true, true, true, true, true, true, true, true, true, true, true, true, true, true, true, true, true, true, true, true, true] rfl rfl (by kernel_rfl) (fun _ _ _ h => h) (Or.inl ⟨by rfl, ?_⟩) ?_ ?_
                  rotate_left
                  · intro w'
                    go_simp
                    with_reducible rfl
                  rotate_left
                  · simp only [Act.put, List.setIfInBounds_toArray, List.set_cons_zero, List.set_cons_succ, i64_w, i32_w]
                    rfl
                  refine done_ (by kernel_rfl) ?_
                  replace HS : Aside0 (Sep (fps []) w [] w2098) := ⟨HS.out.sub (.cons _ .slnil)⟩
                  go_wp2_with fail
                  go_ret
                  rw [← some_eq H]
                  exact ⟨(by first | rfl | (simp [IntKind.wrap_u32]; done)), HS.out⟩
              · replace H := if_no c2094 H
                have c2094b0 : (a1999 == 3) = false := beq_eq_false_iff_ne.mpr c2094
                have c2094b1 : (a1999 != 3) = true := bne_iff_ne.mpr c2094
                clear c2094
                have hc2076 : w2067.cell? ⟨g2006, 0, none⟩ = some (.int .i64 a1999) := blk_cellv (HS.out.at0) 0 rfl
                replace HS : Aside0 (Sep (fps []) w [] w2067) := ⟨HS.out.sub (.cons _ .slnil)⟩
                go_wp2_with fail
                clear hc2076
                go_ret
                rw [← some_eq H]
                exact ⟨(by first | rfl | (simp [IntKind.wrap_u32]; done)), HS.out⟩

set_option maxHeartbeats 30000000 in
set_option maxRecDepth 100000 in
theorem pack_total.calls (k : Nat) (l2197 : List Int) (A2198 : Option Addr) (n2199 : Nat) (r : Int) (w : World) (HR2200 : Aside0 (Rd (Kd.int .i64) (fps []) w A2198 l2197.length l2197)) (HGl0 : Aside0 (Gl 0 #[.int .i64 0, .int .i64 0, .int .i64 0, .int .i64 0, .int .i64 0] (fps []) w)) (HS : Aside0 (Sep (fps []) w [] w)) (H : Aside0 (pack_total.f k l2197 = some r)) :
    Calls Tryd.prog 125 #[.slice A2198 l2197.length n2199] w fun e w' => e = .returned (.int .i64 r) ∧ Sep (fps []) w [] w' := by
  unfold pack_total.f at H
  go_enter Tryd.func125, Tryd.ntmps125
  go_wp2_with fail
  obtain ⟨o2213, AL2214, H⟩ := bind_some H
  go_loopg [3, 8] k (fun kq v3 v8 wc => ∃ (x2217 : Int) (x2218 : Int), v3 = .int .i64 x2217 ∧ v8 = .int .i64 x2218 ∧ Aside0 (pack_total.lo0 kq l2197 x2217 x2218 = some o2213) ∧ Aside0 (Sep (fps []) w [] wc))
  case atStart => exact ⟨(0), (0), (by first | rfl | (simp [IntKind.wrap_u32]; done)), (by first | rfl | (simp [IntKind.wrap_u32]; done)), AL2214, ⟨HS.out⟩⟩
  case round =>
    clear AL2214 HS
    obtain ⟨x2217, x2218, rfl, rfl, AL2214, HS⟩ := hrel
    obtain ⟨w2215, rfl⟩ : ∃ x : World, x = wr := ⟨_, rfl⟩
    cases gk with
    | zero => exact absurd AL2214.out (by simp [pack_total.lo0])
    | succ k2216 =>
      have AL0 := AL2214.out
      rw [pack_total.lo0] at AL0
      clear AL2214
      have AL2214 := Aside0.mk AL0
      clear AL0
      by_cases c2219 : x2218 < (l2197.length : Int)
      · replace AL2214 := if_yes c2219 AL2214
        have c2219b0 : decide (x2218 < (l2197.length : Int)) = true := decide_eq_true c2219
        clear c2219
        by_cases c2220 : 0 ≤ x2218
        · replace AL2214 := if_yes c2220 AL2214
          have c2220b0 : decide (0 ≤ x2218) = true := decide_eq_true c2220
          have c2220p : (0 ≤ x2218) = True := eq_true c2220
          clear c2220
          have ip2221 : (x2218 < (l2197.length : Int)) = True := eq_true (of_decide_eq_true c2219b0)
          by_cases c2223 : (rd l2197 x2218) < 1
          · replace AL2214 := if_yes c2223 AL2214
            have c2223b0 : decide ((rd l2197 x2218) < 1) = true := decide_eq_true c2223
            clear c2223
            obtain ⟨hx2222a, hx2222e, hx2222⟩ := Kd.at_int (Rd.read (fun _ _ _ _ h => h) HR2200.out HS.out.fr) x2218 (of_decide_eq_true c2220b0) (of_decide_eq_true c2219b0); cases hx2222e
            go_wp2_with fail
            clear hx2222
            have ho := some_eq AL2214
            subst ho
            have H := lp_ret H
            go_ret
            rw [← some_eq H]
            exact ⟨(by first | rfl | (simp [IntKind.wrap_u32]; done)), HS.out⟩
          · replace AL2214 := if_no c2223 AL2214
            have c2223b0 : decide ((rd l2197 x2218) < 1) = false := decide_eq_false c2223
            clear c2223
            by_cases c2224 : (rd l2197 x2218) > (wrap64 (32 - x2217))
            · replace AL2214 := if_yes c2224 AL2214
              have c2224b0 : decide ((wrap64 (32 - x2217)) < (rd l2197 x2218)) = true := decide_eq_true c2224
              clear c2224
              obtain ⟨hx2222a, hx2222e, hx2222⟩ := Kd.at_int (Rd.read (fun _ _ _ _ h => h) HR2200.out HS.out.fr) x2218 (of_decide_eq_true c2220b0) (of_decide_eq_true c2219b0); cases hx2222e
              go_wp2_with fail
              clear hx2222
              have ho := some_eq AL2214
              subst ho
              have H := lp_ret H
              go_ret
              rw [← some_eq H]
              exact ⟨(by first | rfl | (simp [IntKind.wrap_u32]; done)), HS.out⟩
            · replace AL2214 := if_no c2224 AL2214
              have c2224b0 : decide ((wrap64 (32 - x2217)) < (rd l2197 x2218)) = false := decide_eq_false c2224
              clear c2224
              obtain ⟨hx2222a, hx2222e, hx2222⟩ := Kd.at_int (Rd.read (fun _ _ _ _ h => h) HR2200.out HS.out.fr) x2218 (of_decide_eq_true c2220b0) (of_decide_eq_true c2219b0); cases hx2222e
              go_wp2_with fail
              clear hx2222
              go_roundg k2216
              case measure => exact Nat.lt_succ_self _
              case rel => exact ⟨(wrap64 (x2217 + (rd l2197 x2218))), (wrap64 (x2218 + 1)), (by first | rfl | (simp [IntKind.wrap_u32]; done)), (by first | rfl | (simp [IntKind.wrap_u32]; done)), Aside0.mk AL2214.out, ⟨HS.out⟩⟩
        · replace AL2214 := if_no c2220 AL2214
          have c2220b0 : decide (0 ≤ x2218) = false := decide_eq_false c2220
          clear c2220
          exact (none_no AL2214).elim
      · replace AL2214 := if_no c2219 AL2214
        have c2219b0 : decide (x2218 < (l2197.length : Int)) = false := decide_eq_false c2219
        clear c2219
        have ho := some_eq AL2214
        subst ho
        clear AL2214
        have H := lp_out H
        go_wp2_with fail
        go_ret
        rw [← some_eq H]
        exact ⟨(by first | rfl | (simp [IntKind.wrap_u32]; done)), HS.out⟩

set_option maxHeartbeats 30000000 in
set_option maxRecDepth 100000 in
theorem pack_isPiece.calls (a2249 : Int) (a2250 : Int) (r : Bool) (w : World)  (HGl0 : Aside0 (Gl 0 #[.int .i64 0, .int .i64 0, .int .i64 0, .int .i64 0, .int .i64 0] (fps []) w)) (HS : Aside0 (Sep (fps []) w [] w)) (H : Aside0 (pack_isPiece.f a2249 a2250 = some r)) :
    Calls Tryd.prog 75 #[.int .i64 a2249, .int .i64 a2250] w fun e w' => e = .returned (.bool r) ∧ Sep (fps []) w [] w' := by
  unfold pack_isPiece.f at H
  go_enter Tryd.func75, Tryd.ntmps75
  by_cases c2251 : a2249 ≥ 0
  · replace H := if_yes c2251 H
    have c2251b0 : decide (0 ≤ a2249) = true := decide_eq_true c2251
    clear c2251
    by_cases c2252 : a2250 ≥ 1
    · replace H := if_yes c2252 H
      have c2252b0 : decide (1 ≤ a2250) = true := decide_eq_true c2252
      clear c2252
      by_cases c2253 : a2250 ≤ 32
      · replace H := if_yes c2253 H
        have c2253b0 : decide (a2250 ≤ 32) = true := decide_eq_true c2253
        clear c2253
        go_wp2_with fail
        go_ret
        rw [← some_eq H]
        exact ⟨(by first | rfl | (simp [IntKind.wrap_u32]; done)), HS.out⟩
      · replace H := if_no c2253 H
        have c2253b0 : decide (a2250 ≤ 32) = false := decide_eq_false c2253
        clear c2253
        go_wp2_with fail
        go_ret
        rw [← some_eq H]
        exact ⟨(by first | rfl | (simp [IntKind.wrap_u32]; done)), HS.out⟩
    · replace H := if_no c2252 H
      have c2252b0 : decide (1 ≤ a2250) = false := decide_eq_false c2252
      clear c2252
      go_wp2_with fail
      go_ret
      rw [← some_eq H]
      exact ⟨(by first | rfl | (simp [IntKind.wrap_u32]; done)), HS.out⟩
  · replace H := if_no c2251 H
    have c2251b0 : decide (0 ≤ a2249) = false := decide_eq_false c2251
    clear c2251
    go_wp2_with fail
    go_ret
    rw [← some_eq H]
    exact ⟨(by first | rfl | (simp [IntKind.wrap_u32]; done)), HS.out⟩

set_option maxHeartbeats 30000000 in
set_option maxRecDepth 100000 in
theorem pack_Fits.calls (a2258 : Int) (a2259 : Int) (r : Bool) (w : World)  (HGl0 : Aside0 (Gl 0 #[.int .i64 0, .int .i64 0, .int .i64 0, .int .i64 0, .int .i64 0] (fps []) w)) (HS : Aside0 (Sep (fps []) w [] w)) (H : Aside0 (pack_Fits.f a2258 a2259 = some r)) :
    Calls Tryd.prog 152 #[.int .u32 a2258, .int .i64 a2259] w fun e w' => e = .returned (.bool r) ∧ Sep (fps []) w [] w' := by
  unfold pack_Fits.f at H
  go_enter Tryd.func152, Tryd.ntmps152
  by_cases c2260 : a2259 ≥ 32
  · replace H := if_yes c2260 H
    have c2260b0 : decide (32 ≤ a2259) = true := decide_eq_true c2260
    clear c2260
    go_wp2_with fail
    go_ret
    rw [← some_eq H]
    exact ⟨(by first | rfl | (simp [IntKind.wrap_u32]; done)), HS.out⟩
  · replace H := if_no c2260 H
    have c2260b0 : decide (32 ≤ a2259) = false := decide_eq_false c2260
    clear c2260
    by_cases c2261 : a2259 < 0
    · replace H := if_yes c2261 H
      have c2261b0 : decide (a2259 < 0) = true := decide_eq_true c2261
      skip
      go_wp2_with fail
      clear c2261
      go_ret
      rw [← some_eq H]
      exact ⟨(by first | rfl | (simp [IntKind.wrap_u32]; done)), HS.out⟩
    · replace H := if_no c2261 H
      have c2261b0 : decide (a2259 < 0) = false := decide_eq_false c2261
      by_cases c2262 : 0 ≤ (IntKind.u64.wrap (a2259))
      · replace H := if_yes c2262 H
        have c2262b0 : decide (0 ≤ (IntKind.u64.wrap (a2259))) = true := decide_eq_true c2262
        skip
        skip
        go_wp2_with fail
        clear c2261 c2262
        go_ret
        rw [← some_eq H]
        exact ⟨(by first | rfl | (simp [IntKind.wrap_u32]; done)), HS.out⟩
      · replace H := if_no c2262 H
        have c2262b0 : decide (0 ≤ (IntKind.u64.wrap (a2259))) = false := decide_eq_false c2262
        exact (none_no H).elim

set_option maxHeartbeats 30000000 in
set_option maxRecDepth 100000 in
theorem pack_mask.calls (a2267 : Int) (a2268 : Int) (r : Int) (w : World)  (HGl0 : Aside0 (Gl 0 #[.int .i64 0, .int .i64 0, .int .i64 0, .int .i64 0, .int .i64 0] (fps []) w)) (HS : Aside0 (Sep (fps []) w [] w)) (H : Aside0 (pack_mask.f a2267 a2268 = some r)) :
    Calls Tryd.prog 76 #[.int .i64 a2267, .int .i64 a2268] w fun e w' => e = .returned (.int .u32 r) ∧ Sep (fps []) w [] w' := by
  unfold pack_mask.f at H
  go_enter Tryd.func76, Tryd.ntmps76
  by_cases c2269 : 0 ≤ (IntKind.u64.wrap (a2268))
  · replace H := if_yes c2269 H
    have c2269b0 : decide (0 ≤ (IntKind.u64.wrap (a2268))) = true := decide_eq_true c2269
    by_cases c2270 : 0 ≤ (IntKind.u64.wrap (a2267))
    · replace H := if_yes c2270 H
      have c2270b0 : decide (0 ≤ (IntKind.u64.wrap (a2267))) = true := decide_eq_true c2270
      skip
      skip
      go_wp2_with fail
      clear c2269 c2270
      go_ret
      rw [← some_eq H]
      exact ⟨(by first | rfl | (simp [IntKind.wrap_u32]; done)), HS.out⟩
    · replace H := if_no c2270 H
      have c2270b0 : decide (0 ≤ (IntKind.u64.wrap (a2267))) = false := decide_eq_false c2270
      exact (none_no H).elim
  · replace H := if_no c2269 H
    have c2269b0 : decide (0 ≤ (IntKind.u64.wrap (a2268))) = false := decide_eq_false c2269
    exact (none_no H).elim

set_option maxHeartbeats 30000000 in
set_option maxRecDepth 100000 in
theorem pack_Put.calls (a2245 : Int) (a2246 : Int) (a2247 : Int) (a2248 : Int) (r : Int × Int) (w : World)  (HGl0 : Aside0 (Gl 0 #[.int .i64 0, .int .i64 0, .int .i64 0, .int .i64 0, .int .i64 0] (fps []) w)) (HS : Aside0 (Sep (fps []) w [] w)) (H : Aside0 (pack_Put.f a2245 a2246 a2247 a2248 = some r)) :
    Calls Tryd.prog 126 #[.int .u32 a2245, .int .i64 a2246, .int .i64 a2247, .int .u32 a2248] w fun e w' => e = .returned (.tuple #[.int .u32 r.1, .int .i64 r.2]) ∧ Sep (fps []) w [] w' := by
  unfold pack_Put.f at H
  go_enter Tryd.func126, Tryd.ntmps126
  go_wp2_with fail
  obtain ⟨t2254, HA2255, H⟩ := bind_some H
  refine (pack_isPiece.calls a2246 a2247 t2254 _ ⟨HGl0.out.pass (l := []) HS.out⟩ ⟨Sep.start _⟩ HA2255).mono ?_
  rintro e_ w2256 ⟨rfl, hS⟩
  replace HS : Aside0 (Sep (fps []) w [] w2256) := ⟨HS.out.call hS⟩
  clear hS
  by_cases c2257 : t2254 = true
  · replace H := if_yes c2257 H
    have c2257b0 : t2254 = true := c2257
    have c2257b1 : (!t2254) = false := by rw [c2257b0]; rfl
    try rw [c2257b1]
    clear c2257
    go_wp2_with fail
    obtain ⟨t2263, HA2264, H⟩ := bind_some H
    refine (pack_Fits.calls a2248 a2247 t2263 _ ⟨HGl0.out.pass (l := []) HS.out⟩ ⟨Sep.start _⟩ HA2264).mono ?_
    rintro e_ w2265 ⟨rfl, hS⟩
    replace HS : Aside0 (Sep (fps []) w [] w2265) := ⟨HS.out.call hS⟩
    clear hS
    by_cases c2266 : t2263 = true
    · replace H := if_yes c2266 H
      have c2266b0 : t2263 = true := c2266
      have c2266b1 : (!t2263) = false := by rw [c2266b0]; rfl
      try rw [c2266b1]
      clear c2266
      go_wp2_with fail
      obtain ⟨t2271, HA2272, H⟩ := bind_some H
      refine (pack_mask.calls a2246 a2247 t2271 _ ⟨HGl0.out.pass (l := []) HS.out⟩ ⟨Sep.start _⟩ HA2272).mono ?_
      rintro e_ w2273 ⟨rfl, hS⟩
      replace HS : Aside0 (Sep (fps []) w [] w2273) := ⟨HS.out.call hS⟩
      clear hS
      by_cases c2274 : 0 ≤ (IntKind.u64.wrap (a2246))
      · replace H := if_yes c2274 H
        have c2274b0 : decide (0 ≤ (IntKind.u64.wrap (a2246))) = true := decide_eq_true c2274
        skip
        go_wp2_with fail
        clear c2274
        go_ret2
        rw [← some_eq H]
        exact ⟨(by first | rfl | (simp [IntKind.wrap_u32]; done)), HS.out⟩
      · replace H := if_no c2274 H
        have c2274b0 : decide (0 ≤ (IntKind.u64.wrap (a2246))) = false := decide_eq_false c2274
        exact (none_no H).elim
    · replace H := if_no c2266 H
      have c2266b0 : t2263 = false := by simpa using c2266
      have c2266b1 : (!t2263) = true := by rw [c2266b0]; rfl
      try rw [c2266b1]
      clear c2266
      go_wp2_with fail
      go_ret2
      rw [← some_eq H]
      exact ⟨(by first | rfl | (simp [IntKind.wrap_u32]; done)), HS.out⟩
  · replace H := if_no c2257 H
    have c2257b0 : t2254 = false := by simpa using c2257
    have c2257b1 : (!t2254) = true := by rw [c2257b0]; rfl
    try rw [c2257b1]
    clear c2257
    go_wp2_with fail
    go_ret2
    rw [← some_eq H]
    exact ⟨(by first | rfl | (simp [IntKind.wrap_u32]; done)), HS.out⟩

set_option maxHeartbeats 30000000 in
set_option maxRecDepth 100000 in
theorem pack_Join.calls (k : Nat) (l2189 : List Int) (l2193 : List Int) (A2190 : Option Addr) (n2191 : Nat) (A2194 : Option Addr) (n2195 : Nat) (r : Int × Int) (w : World) (HR2192 : Aside0 (Rd (Kd.int .u32) (fps []) w A2190 l2189.length l2189)) (HR2196 : Aside0 (Rd (Kd.int .i64) (fps []) w A2194 l2193.length l2193)) (HGl0 : Aside0 (Gl 0 #[.int .i64 0, .int .i64 0, .int .i64 0, .int .i64 0, .int .i64 0] (fps []) w)) (HS : Aside0 (Sep (fps []) w [] w)) (H : Aside0 (pack_Join.f k l2189 l2193 = some r)) :
    Calls Tryd.prog 69 #[.slice A2190 l2189.length n2191, .slice A2194 l2193.length n2195] w fun e w' => e = .returned (.tuple #[.int .u32 r.1, .int .i64 r.2]) ∧ Sep (fps []) w [] w' := by
  unfold pack_Join.f at H
  go_enter Tryd.func69, Tryd.ntmps69
  go_wp2_with fail
  obtain ⟨t2226, HA2227, H⟩ := bind_some H
  refine (pack_total.calls _ l2193 A2194 n2195 t2226 _ ⟨Rd.pass (l := []) (by decide) (fun _ _ _ _ h => h) HR2196.out HS.out⟩ ⟨HGl0.out.pass (l := []) HS.out⟩ ⟨Sep.start _⟩ HA2227).mono ?_
  rintro e_ w2228 ⟨rfl, hS⟩
  replace HS : Aside0 (Sep (fps []) w [] w2228) := ⟨HS.out.call hS⟩
  clear hS
  by_cases c2229 : t2226 < 0
  · replace H := if_yes c2229 H
    have c2229b0 : decide (t2226 < 0) = true := decide_eq_true c2229
    clear c2229
    go_wp2_with fail
    go_ret2
    rw [← some_eq H]
    exact ⟨(by first | rfl | (simp [IntKind.wrap_u32]; done)), HS.out⟩
  · replace H := if_no c2229 H
    have c2229b0 : decide (t2226 < 0) = false := decide_eq_false c2229
    clear c2229
    by_cases c2230 : (l2189.length : Int) = (l2193.length : Int)
    · replace H := if_yes c2230 H
      have c2230b0 : ((l2189.length : Int) == (l2193.length : Int)) = true := beq_iff_eq.mpr c2230
      have c2230b1 : ((l2189.length : Int) != (l2193.length : Int)) = false := bne_eq_false_iff_eq.mpr c2230
      clear c2230
      go_wp2_with fail
      obtain ⟨o2279, AL2280, H⟩ := bind_some H
      go_loopg [6, 7, 24] k (fun kq v6 v7 v24 wc => ∃ (x2283 : Int) (x2284 : Int) (x2285 : Int), v6 = .int .u32 x2283 ∧ v7 = .int .i64 x2284 ∧ v24 = .int .i64 x2285 ∧ Aside0 (pack_Join.lo0 kq l2189 l2193 x2283 x2284 x2285 = some o2279) ∧ Aside0 (Sep (fps []) w [] wc))
      case atStart => exact ⟨(0), (0), (0), (by first | rfl | (simp [IntKind.wrap_u32]; done)), (by first | rfl | (simp [IntKind.wrap_u32]; done)), (by first | rfl | (simp [IntKind.wrap_u32]; done)), AL2280, ⟨HS.out⟩⟩
      case round =>
        clear AL2280 HS
        obtain ⟨x2283, x2284, x2285, rfl, rfl, rfl, AL2280, HS⟩ := hrel
        obtain ⟨w2281, rfl⟩ : ∃ x : World, x = wr := ⟨_, rfl⟩
        cases gk with
        | zero => exact absurd AL2280.out (by simp [pack_Join.lo0])
        | succ k2282 =>
          have AL0 := AL2280.out
          rw [pack_Join.lo0] at AL0
          clear AL2280
          have AL2280 := Aside0.mk AL0
          clear AL0
          by_cases c2286 : x2285 < (l2193.length : Int)
          · replace AL2280 := if_yes c2286 AL2280
            have c2286b0 : decide (x2285 < (l2193.length : Int)) = true := decide_eq_true c2286
            clear c2286
            by_cases c2287 : 0 ≤ x2285
            · replace AL2280 := if_yes c2287 AL2280
              have c2287b0 : decide (0 ≤ x2285) = true := decide_eq_true c2287
              have c2287p : (0 ≤ x2285) = True := eq_true c2287
              clear c2287
              have ip2288 : (x2285 < (l2193.length : Int)) = True := eq_true (of_decide_eq_true c2286b0)
              by_cases c2290 : x2285 < (l2189.length : Int)
              · replace AL2280 := if_yes c2290 AL2280
                have c2290b0 : decide (x2285 < (l2189.length : Int)) = true := decide_eq_true c2290
                have c2290p : (x2285 < (l2189.length : Int)) = True := eq_true c2290
                clear c2290
                obtain ⟨hx2289a, hx2289e, hx2289⟩ := Kd.at_int (Rd.read (fun _ _ _ _ h => h) HR2196.out HS.out.fr) x2285 (of_decide_eq_true c2287b0) (of_decide_eq_true c2286b0); cases hx2289e
                obtain ⟨hx2291a, hx2291e, hx2291⟩ := Kd.at_int (Rd.read (fun _ _ _ _ h => h) HR2192.out HS.out.fr) x2285 (of_decide_eq_true c2287b0) (of_decide_eq_true c2290b0); cases hx2291e
                go_wp2_with fail
                clear hx2289 hx2291
                obtain ⟨t2275, HA2292, AL2280⟩ := bind_some AL2280
                refine (pack_Put.calls x2283 x2284 (rd l2193 x2285) (rd l2189 x2285) t2275 _ ⟨HGl0.out.pass (l := []) HS.out⟩ ⟨Sep.start _⟩ HA2292).mono ?_
                rintro e_ w2293 ⟨rfl, hS⟩
                replace HS : Aside0 (Sep (fps []) w [] w2293) := ⟨HS.out.call hS⟩
                clear hS
                by_cases c2294 : t2275.2 = 0
                · replace AL2280 := if_yes c2294 AL2280
                  have c2294b0 : (t2275.2 == 0) = true := beq_iff_eq.mpr c2294
                  have c2294b1 : (t2275.2 != 0) = false := bne_eq_false_iff_eq.mpr c2294
                  clear c2294
                  go_wp2_with fail
                  go_roundg k2282
                  case measure => exact Nat.lt_succ_self _
                  case rel => exact ⟨(t2275.1), (wrap64 (x2284 + (rd l2193 x2285))), (wrap64 (x2285 + 1)), (by first | rfl | (simp [IntKind.wrap_u32]; done)), (by first | rfl | (simp [IntKind.wrap_u32]; done)), (by first | rfl | (simp [IntKind.wrap_u32]; done)), Aside0.mk AL2280.out, ⟨HS.out⟩⟩
                · replace AL2280 := if_no c2294 AL2280
                  have c2294b0 : (t2275.2 == 0) = false := beq_eq_false_iff_ne.mpr c2294
                  have c2294b1 : (t2275.2 != 0) = true := bne_iff_ne.mpr c2294
                  clear c2294
                  go_wp2_with fail
                  have ho := some_eq AL2280
                  subst ho
                  have H := lp_ret H
                  go_ret2
                  rw [← some_eq H]
                  exact ⟨(by first | rfl | (simp [IntKind.wrap_u32]; done)), HS.out⟩
              · replace AL2280 := if_no c2290 AL2280
                have c2290b0 : decide (x2285 < (l2189.length : Int)) = false := decide_eq_false c2290
                clear c2290
                exact (none_no AL2280).elim
            · replace AL2280 := if_no c2287 AL2280
              have c2287b0 : decide (0 ≤ x2285) = false := decide_eq_false c2287
              clear c2287
              exact (none_no AL2280).elim
          · replace AL2280 := if_no c2286 AL2280
            have c2286b0 : decide (x2285 < (l2193.length : Int)) = false := decide_eq_false c2286
            clear c2286
            have ho := some_eq AL2280
            subst ho
            clear AL2280
            have H := lp_out H
            go_wp2_with fail
            go_ret2
            rw [← some_eq H]
            exact ⟨(by first | rfl | (simp [IntKind.wrap_u32]; done)), HS.out⟩
    · replace H := if_no c2230 H
      have c2230b0 : ((l2189.length : Int) == (l2193.length : Int)) = false := beq_eq_false_iff_ne.mpr c2230
      have c2230b1 : ((l2189.length : Int) != (l2193.length : Int)) = true := bne_iff_ne.mpr c2230
      clear c2230
      go_wp2_with fail
      go_ret2
      rw [← some_eq H]
      exact ⟨(by first | rfl | (simp [IntKind.wrap_u32]; done)), HS.out⟩

set_option maxHeartbeats 30000000 in
set_option maxRecDepth 100000 in
theorem tag_Pack.calls (k : Nat) (a1982 : Int) (a1983 : Int) (a1984 : Int) (a1985 : Int) (a1986 : Int) (a1987 : Int) (a1988 : Int) (r : Int × Int) (w : World)  (HGl0 : Aside0 (Gl 0 #[.int .i64 0, .int .i64 0, .int .i64 0, .int .i64 0, .int .i64 0] (fps []) w)) (HS : Aside0 (Sep (fps []) w [] w)) (H : Aside0 (tag_Pack.f k a1982 a1983 a1984 a1985 a1986 a1987 a1988 = some r)) :
    Calls Tryd.prog 16 #[.agg #[.int .i64 a1982, .int .i64 a1983, .int .i64 a1984, .int .i64 a1985, .int .i64 a1986, .int .i64 a1987, .int .i64 a1988]] w fun e w' => e = .returned (.tuple #[.int .u32 r.1, .int .i64 r.2]) ∧ Sep (fps []) w [] w' := by
  unfold tag_Pack.f at H
  go_enter Tryd.func16, Tryd.ntmps16
  go_wp2_with (first | ((with_reducible refine gate_dst (N := 1) rfl ?_); refine box_on ?hg (N := 1) ?hd (cs := #[.int .i64 a1982, .int .i64 a1983, .int .i64 a1984, .int .i64 a1985, .int .i64 a1986, .int .i64 a1987, .int .i64 a1988]) (t := 32) ?hr ?_; (case hd => rfl); (case hg => rfl); (case hr => first | (go_simp; done) | (go_simp; rfl)); intro g1989 hg w1990 hbox hb; replace HS : Aside0 (Sep (fps []) w [b11 g1989 a1982 a1983 a1984 a1985 a1986 a1987 a1988] w1990) := ⟨HS.out.box hg hbox hb⟩; clear hg hbox hb; have hc1992 : w1990.cell? ⟨g1989, 0, none⟩ = some (.int .i64 a1982) := blk_cellv (HS.out.at0) 0 rfl; have hc1993 : w1990.cell? ⟨g1989, 1, none⟩ = some (.int .i64 a1983) := blk_cellv (HS.out.at0) 1 rfl; have hc1994 : w1990.cell? ⟨g1989, 2, none⟩ = some (.int .i64 a1984) := blk_cellv (HS.out.at0) 2 rfl; have hc1995 : w1990.cell? ⟨g1989, 3, none⟩ = some (.int .i64 a1985) := blk_cellv (HS.out.at0) 3 rfl; have hc1996 : w1990.cell? ⟨g1989, 4, none⟩ = some (.int .i64 a1986) := blk_cellv (HS.out.at0) 4 rfl; have hc1997 : w1990.cell? ⟨g1989, 5, none⟩ = some (.int .i64 a1987) := blk_cellv (HS.out.at0) 5 rfl; have hc1998 : w1990.cell? ⟨g1989, 6, none⟩ = some (.int .i64 a1988) := blk_cellv (HS.out.at0) 6 rfl))
  clear hc1992 hc1993 hc1994 hc1995 hc1996 hc1997 hc1998
  obtain ⟨t2131, HA2132, H⟩ := bind_some H
  refine (tag_Right.calls _ a1982 a1983 a1984 a1985 a1986 a1987 a1988 t2131 _ ⟨HGl0.out.pass (l := []) HS.out⟩ ⟨Sep.start _⟩ HA2132).mono ?_
  rintro e_ w2133 ⟨rfl, hS⟩
  replace HS : Aside0 (Sep (fps []) w [b11 g1989 a1982 a1983 a1984 a1985 a1986 a1987 a1988] w2133) := ⟨HS.out.call hS⟩
  clear hS
  by_cases c2134 : t2131 = true
  · replace H := if_yes c2134 H
    have c2134b0 : t2131 = true := c2134
    have c2134b1 : (!t2131) = false := by rw [c2134b0]; rfl
    try rw [c2134b1]
    clear c2134
    have hc2135 : w2133.cell? ⟨g1989, 0, none⟩ = some (.int .i64 a1982) := blk_cellv (HS.out.at0) 0 rfl
    go_wp2_with (first | ((with_reducible refine gate_dst (N := 13) rfl ?_); refine slice_on (n := 1) ?hg (N := 13) ?hd (cs := #[.int .u32 ((a1982) % 4294967296)]) (t := 33) ?hr ?_; (case hd => rfl); (case hg => rfl); (case hr => first | (go_simp; done) | (go_simp; rfl)); intro g2136 hg w2137 hbox hb; clear hc2135; replace HS : Aside0 (Sep (fps []) w [b11 g1989 a1982 a1983 a1984 a1985 a1986 a1987 a1988, b13 g2136 ((a1982) % 4294967296)] w2137) := ⟨HS.out.box hg hbox hb⟩; clear hg hbox hb; have hc2139 : w2137.cell? ⟨g1989, 0, none⟩ = some (.int .i64 a1982) := blk_cellv (HS.out.at0) 0 rfl; have hc2140 : w2137.cell? ⟨g1989, 1, none⟩ = some (.int .i64 a1983) := blk_cellv (HS.out.at0) 1 rfl; have hc2141 : w2137.cell? ⟨g1989, 2, none⟩ = some (.int .i64 a1984) := blk_cellv (HS.out.at0) 2 rfl; have hc2142 : w2137.cell? ⟨g1989, 3, none⟩ = some (.int .i64 a1985) := blk_cellv (HS.out.at0) 3 rfl; have hc2143 : w2137.cell? ⟨g1989, 4, none⟩ = some (.int .i64 a1986) := blk_cellv (HS.out.at0) 4 rfl; have hc2144 : w2137.cell? ⟨g1989, 5, none⟩ = some (.int .i64 a1987) := blk_cellv (HS.out.at0) 5 rfl; have hc2145 : w2137.cell? ⟨g1989, 6, none⟩ = some (.int .i64 a1988) := blk_cellv (HS.out.at0) 6 rfl))
    clear hc2139 hc2140 hc2141 hc2142 hc2143 hc2144 hc2145
    obtain ⟨t2146, HA2147, H⟩ := bind_some H
    refine (tag_marks.calls a1982 a1983 a1984 a1985 a1986 a1987 a1988 t2146 _ ⟨HGl0.out.pass (l := []) HS.out⟩ ⟨Sep.start _⟩ HA2147).mono ?_
    rintro e_ w2148 ⟨rfl, hS⟩
    replace HS : Aside0 (Sep (fps []) w [b11 g1989 a1982 a1983 a1984 a1985 a1986 a1987 a1988, b13 g2136 ((a1982) % 4294967296)] w2148) := ⟨HS.out.call hS⟩
    clear hS
    go_wp2_with fail
    replace HS : Aside0 (Sep (fps []) w [b11 g1989 a1982 a1983 a1984 a1985 a1986 a1987 a1988, r5 (some ⟨g2136, 0, none⟩) 1 1 [(a1982) % 4294967296]] w2148) := ⟨Sep.litrow (l1 := [b11 g1989 a1982 a1983 a1984 a1985 a1986 a1987 a1988]) (l2 := []) (enc := Value.int .u32) (xs := [(a1982) % 4294967296]) (n := 1) HS.out rfl (by decide)⟩
    obtain ⟨o2150, AL2151, H⟩ := bind_some H
    go_loopg [4, 16] k (fun kq v4 v16 wc => ∃ (x2155 : Int) (x2156 : List Int) (A2157 : Option Addr) (m2158 : Nat) (n2159 : Nat), v4 = .slice A2157 m2158 n2159 ∧ v16 = .int .i64 x2155 ∧ Aside0 (tag_Pack.lo0 kq t2146 x2155 x2156 = some o2150) ∧ Aside0 (Sep (fps []) w [b11 g1989 a1982 a1983 a1984 a1985 a1986 a1987 a1988, r5 A2157 m2158 n2159 x2156] wc))
    case atStart => exact ⟨(0), ([(a1982) % 4294967296]), ((some ⟨g2136, 0, none⟩)), (1), (1), (by first | rfl | (simp [IntKind.wrap_u32]; done)), (by first | rfl | (simp [IntKind.wrap_u32]; done)), AL2151, ⟨HS.out⟩⟩
    case round =>
      clear AL2151 HS
      obtain ⟨x2155, x2156, A2157, m2158, n2159, rfl, rfl, AL2151, HS⟩ := hrel
      obtain ⟨w2152, rfl⟩ : ∃ x : World, x = wr := ⟨_, rfl⟩
      obtain rfl := (row_len (HS.out.at1)).symm
      cases gk with
      | zero => exact absurd AL2151.out (by simp [tag_Pack.lo0])
      | succ k2153 =>
        have AL0 := AL2151.out
        rw [tag_Pack.lo0] at AL0
        clear AL2151
        have AL2151 := Aside0.mk AL0
        clear AL0
        by_cases c2161 : x2155 < 5
        · replace AL2151 := if_yes c2161 AL2151
          have c2161b0 : decide (x2155 < 5) = true := decide_eq_true c2161
          clear c2161
          by_cases c2162 : 0 ≤ x2155
          · replace AL2151 := if_yes c2162 AL2151
            have c2162b0 : decide (0 ≤ x2155) = true := decide_eq_true c2162
            have c2162p : (0 ≤ x2155) = True := eq_true c2162
            clear c2162
            have ip2163 : (x2155 < 5) = True := eq_true (of_decide_eq_true c2161b0)
            have ix2164 : ∀ w, (Instr.index 108 (.agg #[.int .i64 t2146.1, .int .i64 t2146.2.1, .int .i64 t2146.2.2.1, .int .i64 t2146.2.2.2.1, .int .i64 t2146.2.2.2.2]) (.int .i64 x2155)).run Tryd.prog w = .ok (.int .i64 (rd [t2146.1, t2146.2.1, t2146.2.2.1, t2146.2.2.2.1, t2146.2.2.2.2] x2155)) w := run_index_ints 108 3 5 .i64 .i64 [t2146.1, t2146.2.1, t2146.2.2.1, t2146.2.2.2.1, t2146.2.2.2.2] x2155 Tryd.underlying108 (fun _ => by kernel_rfl) (fun _ => by kernel_rfl) rfl (of_decide_eq_true c2162b0) (of_decide_eq_true c2161b0)
            by_cases c2168 : x2156.length < 35184372088832
            · replace AL2151 := if_yes c2168 AL2151
              have c2168b0 : decide (x2156.length < 35184372088832) = true := decide_eq_true c2168
              clear c2168
              obtain ⟨y2172, HA2173, AL2151⟩ := bind_some AL2151
              go_wp2_with (first | ((with_reducible refine gate_dst (N := 22) rfl ?_); refine slice_on (n := 1) ?hg (N := 22) ?hd (cs := #[.int .u32 ((rd [t2146.1, t2146.2.1, t2146.2.2.1, t2146.2.2.2.1, t2146.2.2.2.2] x2155) % 4294967296)]) (t := 33) ?hr ?_; (case hd => rfl); (case hg => rfl); (case hr => first | (go_simp; done) | (go_simp; rfl)); intro g2165 hg w2166 hbox hb; replace HS : Aside0 (Sep (fps []) w [b11 g1989 a1982 a1983 a1984 a1985 a1986 a1987 a1988, r5 A2157 x2156.length n2159 x2156, b13 g2165 ((rd [t2146.1, t2146.2.1, t2146.2.2.1, t2146.2.2.2.1, t2146.2.2.2.2] x2155) % 4294967296)] w2166) := ⟨HS.out.box hg hbox hb⟩; clear hg hbox hb) | ((with_reducible refine gate_dst (N := 23) rfl ?_); refine append_event (l1 := [b11 g1989 a1982 a1983 a1984 a1985 a1986 a1987 a1988]) (l2 := [b13 g2165 ((rd [t2146.1, t2146.2.1, t2146.2.2.1, t2146.2.2.2.1, t2146.2.2.2.2] x2155) % 4294967296)]) rfl (.tmp 19) (.tmp 22) 69 33 (.int .u32 0) 4 rfl Tryd.underlying69 (by kernel_rfl) rfl (by decide) (Value.int .u32) (fun _ => rfl) (.slice A2157 x2156.length n2159) (x2156 : List Int) [(rd [t2146.1, t2146.2.1, t2146.2.2.1, t2146.2.2.2.1, t2146.2.2.2.2] x2155) % 4294967296] ⟨g2165, 0, none⟩ 1 rfl rfl (blk_news (xs := [(rd [t2146.1, t2146.2.1, t2146.2.2.1, t2146.2.2.2.1, t2146.2.2.2.2] x2155) % 4294967296]) (HS.out.at2)) HS.out (by have := of_decide_eq_true c2168b0; simp only [List.length_cons, List.length_nil]; omega) HA2173 ?_; intro A2169 n2170 w2171 HS1; replace HS : Aside0 (Sep (fps []) w [b11 g1989 a1982 a1983 a1984 a1985 a1986 a1987 a1988, r5 A2169 y2172.length n2170 y2172, b13 g2165 ((rd [t2146.1, t2146.2.1, t2146.2.2.1, t2146.2.2.2.1, t2146.2.2.2.2] x2155) % 4294967296)] w2171) := ⟨HS1⟩; clear HS1; replace HS : Aside0 (Sep (fps []) w [b11 g1989 a1982 a1983 a1984 a1985 a1986 a1987 a1988, r5 A2169 y2172.length n2170 y2172] w2171) := ⟨HS.out.sub (.cons_cons _ (.cons_cons _ (.cons _ .slnil)))⟩))
              go_roundg k2153
              case measure => exact Nat.lt_succ_self _
              case rel => exact ⟨(wrap64 (x2155 + 1)), (y2172), (A2169), (y2172.length), (n2170), (by first | rfl | (simp [IntKind.wrap_u32]; done)), (by first | rfl | (simp [IntKind.wrap_u32]; done)), Aside0.mk AL2151.out, ⟨HS.out⟩⟩
            · replace AL2151 := if_no c2168 AL2151
              have c2168b0 : decide (x2156.length < 35184372088832) = false := decide_eq_false c2168
              clear c2168
              exact (none_no AL2151).elim
          · replace AL2151 := if_no c2162 AL2151
            have c2162b0 : decide (0 ≤ x2155) = false := decide_eq_false c2162
            clear c2162
            exact (none_no AL2151).elim
        · replace AL2151 := if_no c2161 AL2151
          have c2161b0 : decide (x2155 < 5) = false := decide_eq_false c2161
          clear c2161
          have ho := some_eq AL2151
          subst ho
          clear AL2151
          by_cases c2179 : x2156.length < 35184372088831
          · replace H := if_yes c2179 H
            have c2179b0 : decide (x2156.length < 35184372088831) = true := decide_eq_true c2179
            clear c2179
            obtain ⟨y2183, HA2184, H⟩ := bind_some H
            have hc2175 : w2152.cell? ⟨g1989, 6, none⟩ = some (.int .i64 a1988) := blk_cellv (HS.out.at0) 6 rfl
            go_wp2_with (first | ((with_reducible refine gate_dst (N := 29) rfl ?_); refine slice_on (n := 2) ?hg (N := 29) ?hd (cs := #[.int .u32 0, .int .u32 ((a1988) % 4294967296)]) (t := 33) ?hr ?_; (case hd => rfl); (case hg => rfl); (case hr => first | (go_simp; done) | (go_simp; rfl)); intro g2176 hg w2177 hbox hb; clear hc2175; replace HS : Aside0 (Sep (fps []) w [b11 g1989 a1982 a1983 a1984 a1985 a1986 a1987 a1988, r5 A2157 x2156.length n2159 x2156, b14 g2176 0 ((a1988) % 4294967296)] w2177) := ⟨HS.out.box hg hbox hb⟩; clear hg hbox hb) | ((with_reducible refine gate_dst (N := 30) rfl ?_); refine append_event (l1 := [b11 g1989 a1982 a1983 a1984 a1985 a1986 a1987 a1988]) (l2 := [b14 g2176 0 ((a1988) % 4294967296)]) rfl (.tmp 25) (.tmp 29) 69 33 (.int .u32 0) 4 rfl Tryd.underlying69 (by kernel_rfl) rfl (by decide) (Value.int .u32) (fun _ => rfl) (.slice A2157 x2156.length n2159) (x2156 : List Int) [0, (a1988) % 4294967296] ⟨g2176, 0, none⟩ 2 rfl rfl (blk_news (xs := [0, (a1988) % 4294967296]) (HS.out.at2)) HS.out (by have := of_decide_eq_true c2179b0; simp only [List.length_cons, List.length_nil]; omega) HA2184 ?_; intro A2180 n2181 w2182 HS1; replace HS : Aside0 (Sep (fps []) w [b11 g1989 a1982 a1983 a1984 a1985 a1986 a1987 a1988, r5 A2180 y2183.length n2181 y2183, b14 g2176 0 ((a1988) % 4294967296)] w2182) := ⟨HS1⟩; clear HS1) | ((with_reducible refine gate_dst (N := 31) rfl ?_); refine slice_on (n := 8) ?hg (N := 31) ?hd (cs := #[.int .i64 2, .int .i64 1, .int .i64 1, .int .i64 1, .int .i64 1, .int .i64 1, .int .i64 1, .int .i64 24]) (t := 3) ?hr ?_; (case hd => rfl); (case hg => rfl); (case hr => first | (go_simp; done) | (go_simp; rfl)); intro g2186 hg w2187 hbox hb; replace HS : Aside0 (Sep (fps []) w [b11 g1989 a1982 a1983 a1984 a1985 a1986 a1987 a1988, r5 A2180 y2183.length n2181 y2183, b14 g2176 0 ((a1988) % 4294967296), b15 g2186 2 1 1 1 1 1 1 24] w2187) := ⟨HS.out.box hg hbox hb⟩; clear hg hbox hb))
            obtain ⟨t2296, HA2297, H⟩ := bind_some H
            refine (pack_Join.calls _ y2183 [2, 1, 1, 1, 1, 1, 1, 24] A2180 n2181 (some ⟨g2186, 0, none⟩) 8 t2296 _ ⟨Rd.ownI (l := []) HS.out 1 rfl⟩ ⟨Rd.lit (l := []) (xs := [2, 1, 1, 1, 1, 1, 1, 24]) HS.out 3 rfl (by simp)⟩ ⟨HGl0.out.pass (l := []) HS.out⟩ ⟨Sep.start _⟩ HA2297).mono ?_
            rintro e_ w2298 ⟨rfl, hS⟩
            replace HS : Aside0 (Sep (fps []) w [b11 g1989 a1982 a1983 a1984 a1985 a1986 a1987 a1988, r5 A2180 y2183.length n2181 y2183, b14 g2176 0 ((a1988) % 4294967296), b15 g2186 2 1 1 1 1 1 1 24] w2298) := ⟨HS.out.call hS⟩
            clear hS
            replace HS : Aside0 (Sep (fps []) w [] w2298) := ⟨HS.out.sub (.cons _ (.cons _ (.cons _ (.cons _ .slnil))))⟩
            go_wp2_with fail
            go_ret2
            rw [← some_eq H]
            exact ⟨(by first | rfl | (simp [IntKind.wrap_u32]; done)), HS.out⟩
          · replace H := if_no c2179 H
            have c2179b0 : decide (x2156.length < 35184372088831) = false := decide_eq_false c2179
            clear c2179
            exact (none_no H).elim
  · replace H := if_no c2134 H
    have c2134b0 : t2131 = false := by simpa using c2134
    have c2134b1 : (!t2131) = true := by rw [c2134b0]; rfl
    try rw [c2134b1]
    clear c2134
    replace HS : Aside0 (Sep (fps []) w [] w2133) := ⟨HS.out.sub (.cons _ .slnil)⟩
    go_wp2_with fail
    go_ret2
    rw [← some_eq H]
    exact ⟨(by first | rfl | (simp [IntKind.wrap_u32]; done)), HS.out⟩

set_option maxHeartbeats 30000000 in
set_option maxRecDepth 100000 in
theorem obj_mark.calls (k : Nat) (l1954 : List Int) (a1959 : Int) (a1960 : Int) (a1961 : Int) (a1962 : Int) (a1963 : Int) (a1964 : Int) (a1965 : Int) (a1966 : Int) (a1967 : Int) (a1968 : Int) (a1969 : Int) (a1970 : Int) (a1971 : Int) (g1950 : Nat) (g1952 : Nat) (A1955 : Option Addr) (m1956 : Nat) (n1957 : Nat) (r : Int × List Int) (w : World)  (HGl0 : Aside0 (Gl 0 #[.int .i64 0, .int .i64 0, .int .i64 0, .int .i64 0, .int .i64 0] (fps [b7 g1950 g1952 a1960 a1961 a1962 a1963, b6 g1952 A1955 m1956 n1957 a1959, r5 A1955 m1956 n1957 l1954]) w)) (HS : Aside0 (Sep (fps [b7 g1950 g1952 a1960 a1961 a1962 a1963, b6 g1952 A1955 m1956 n1957 a1959, r5 A1955 m1956 n1957 l1954]) w [b7 g1950 g1952 a1960 a1961 a1962 a1963, b6 g1952 A1955 m1956 n1957 a1959, r5 A1955 m1956 n1957 l1954] w)) (H : Aside0 (obj_mark.f k l1954 a1959 a1960 a1961 a1962 a1963 a1964 a1965 a1966 a1967 a1968 a1969 a1970 a1971 = some r)) :
    Calls Tryd.prog 99 #[.pointer (some ⟨g1950, 0, none⟩), .int .i64 a1964, .agg #[.int .i64 a1965, .int .i64 a1966, .int .i64 a1967, .int .i64 a1968, .int .i64 a1969, .int .i64 a1970, .int .i64 a1971]] w fun e w' => e = .returned (.tuple #[]) ∧ Sep (fps [b7 g1950 g1952 a1960 a1961 a1962 a1963, b6 g1952 A1955 m1956 n1957 a1959, r5 A1955 m1956 n1957 l1954]) w [b7 g1950 g1952 a1960 a1961 a1962 a1963, b6 g1952 A1955 m1956 n1957 r.1, r5 A1955 m1956 n1957 r.2] w' := by
  generalize (fps [b7 g1950 g1952 a1960 a1961 a1962 a1963, b6 g1952 A1955 m1956 n1957 a1959, r5 A1955 m1956 n1957 l1954]) = FF at HS HGl0 ⊢
  obtain rfl := (row_len (HS.out.at2)).symm
  unfold obj_mark.f at H
  go_enter Tryd.func99, Tryd.ntmps99
  go_wp2_with (first | ((with_reducible refine gate_dst (N := 5) rfl ?_); refine box_on ?hg (N := 5) ?hd (cs := #[.int .i64 a1965, .int .i64 a1966, .int .i64 a1967, .int .i64 a1968, .int .i64 a1969, .int .i64 a1970, .int .i64 a1971]) (t := 32) ?hr ?_; (case hd => rfl); (case hg => rfl); (case hr => first | (go_simp; done) | (go_simp; rfl)); intro g2325 hg w2326 hbox hb; replace HS : Aside0 (Sep FF w [b7 g1950 g1952 a1960 a1961 a1962 a1963, b6 g1952 A1955 l1954.length n1957 a1959, r5 A1955 l1954.length n1957 l1954, b11 g2325 a1965 a1966 a1967 a1968 a1969 a1970 a1971] w2326) := ⟨HS.out.box hg hbox hb⟩; clear hg hbox hb; have hc2328 : w2326.cell? ⟨g2325, 0, none⟩ = some (.int .i64 a1965) := blk_cellv (HS.out.at3) 0 rfl; have hc2329 : w2326.cell? ⟨g2325, 1, none⟩ = some (.int .i64 a1966) := blk_cellv (HS.out.at3) 1 rfl; have hc2330 : w2326.cell? ⟨g2325, 2, none⟩ = some (.int .i64 a1967) := blk_cellv (HS.out.at3) 2 rfl; have hc2331 : w2326.cell? ⟨g2325, 3, none⟩ = some (.int .i64 a1968) := blk_cellv (HS.out.at3) 3 rfl; have hc2332 : w2326.cell? ⟨g2325, 4, none⟩ = some (.int .i64 a1969) := blk_cellv (HS.out.at3) 4 rfl; have hc2333 : w2326.cell? ⟨g2325, 5, none⟩ = some (.int .i64 a1970) := blk_cellv (HS.out.at3) 5 rfl; have hc2334 : w2326.cell? ⟨g2325, 6, none⟩ = some (.int .i64 a1971) := blk_cellv (HS.out.at3) 6 rfl))
  clear hc2328 hc2329 hc2330 hc2331 hc2332 hc2333 hc2334
  obtain ⟨t2335, HA2336, H⟩ := bind_some H
  refine (tag_Pack.calls _ a1965 a1966 a1967 a1968 a1969 a1970 a1971 t2335 _ ⟨HGl0.out.pass (l := []) HS.out⟩ ⟨Sep.start _⟩ HA2336).mono ?_
  rintro e_ w2337 ⟨rfl, hS⟩
  replace HS : Aside0 (Sep FF w [b7 g1950 g1952 a1960 a1961 a1962 a1963, b6 g1952 A1955 l1954.length n1957 a1959, r5 A1955 l1954.length n1957 l1954, b11 g2325 a1965 a1966 a1967 a1968 a1969 a1970 a1971] w2337) := ⟨HS.out.call hS⟩
  clear hS
  by_cases c2338 : t2335.2 = 0
  · replace H := if_yes c2338 H
    have c2338b0 : (t2335.2 == 0) = true := beq_iff_eq.mpr c2338
    have c2338b1 : (t2335.2 != 0) = false := bne_eq_false_iff_eq.mpr c2338
    clear c2338
    replace HS : Aside0 (Sep FF w [b7 g1950 g1952 a1960 a1961 a1962 a1963, b6 g1952 A1955 l1954.length n1957 a1959, r5 A1955 l1954.length n1957 l1954] w2337) := ⟨HS.out.sub (.cons_cons _ (.cons_cons _ (.cons_cons _ (.cons _ .slnil))))⟩
    go_wp2_with fail
    obtain ⟨t2339, HA2340, H⟩ := bind_some H
    refine (ground_Ground_SetWord.calls l1954 a1959 a1960 a1961 a1962 a1963 a1964 0 t2335.1 g1950 g1952 A1955 l1954.length n1957 t2339 _ ⟨HGl0.out.pass HS.out⟩ ⟨HS.out.begin⟩ HA2340).mono ?_
    rintro e_ w2341 ⟨rfl, hS⟩
    replace HS : Aside0 (Sep FF w [b7 g1950 g1952 a1960 a1961 a1962 a1963, b6 g1952 A1955 l1954.length n1957 t2339.2.1, r5 A1955 l1954.length n1957 t2339.2.2] w2341) := ⟨HS.out.call hS⟩
    clear hS
    go_wp2_with fail
    first | go_end0 | refine bodyPost_ret (results_none rfl _ _ _) rfl ?_
    rw [← some_eq H]
    exact ⟨rfl, HS.out⟩
  · replace H := if_no c2338 H
    have c2338b0 : (t2335.2 == 0) = false := beq_eq_false_iff_ne.mpr c2338
    have c2338b1 : (t2335.2 != 0) = true := bne_iff_ne.mpr c2338
    clear c2338
    replace HS : Aside0 (Sep FF w [b7 g1950 g1952 a1960 a1961 a1962 a1963, b6 g1952 A1955 l1954.length n1957 a1959, r5 A1955 l1954.length n1957 l1954] w2337) := ⟨HS.out.sub (.cons_cons _ (.cons_cons _ (.cons_cons _ (.cons _ .slnil))))⟩
    go_wp2_with fail
    first | go_end0 | refine bodyPost_ret (results_none rfl _ _ _) rfl ?_
    rw [← some_eq H]
    exact ⟨rfl, HS.out⟩

set_option maxHeartbeats 30000000 in
set_option maxRecDepth 100000 in
theorem obj_Make.calls (k : Nat) (l1553 : List Int) (a1558 : Int) (a1559 : Int) (a1560 : Int) (a1561 : Int) (a1562 : Int) (a1563 : Int) (a1564 : Int) (g1549 : Nat) (g1551 : Nat) (A1554 : Option Addr) (m1555 : Nat) (n1556 : Nat) (r : Int × Int × Int × List Int) (w : World)  (HGl0 : Aside0 (Gl 0 #[.int .i64 0, .int .i64 0, .int .i64 0, .int .i64 0, .int .i64 0] (fps [b7 g1549 g1551 a1559 a1560 a1561 a1562, b6 g1551 A1554 m1555 n1556 a1558, r5 A1554 m1555 n1556 l1553]) w)) (HS : Aside0 (Sep (fps [b7 g1549 g1551 a1559 a1560 a1561 a1562, b6 g1551 A1554 m1555 n1556 a1558, r5 A1554 m1555 n1556 l1553]) w [b7 g1549 g1551 a1559 a1560 a1561 a1562, b6 g1551 A1554 m1555 n1556 a1558, r5 A1554 m1555 n1556 l1553] w)) (H : Aside0 (obj_Make.f k l1553 a1558 a1559 a1560 a1561 a1562 a1563 a1564 = some r)) :
    Calls Tryd.prog 34 #[.pointer (some ⟨g1549, 0, none⟩), .int .i64 a1563, .int .i64 a1564] w fun e w' => e = .returned (.tuple #[.int .i64 r.1, .int .i64 r.2.1]) ∧ Sep (fps [b7 g1549 g1551 a1559 a1560 a1561 a1562, b6 g1551 A1554 m1555 n1556 a1558, r5 A1554 m1555 n1556 l1553]) w [b7 g1549 g1551 a1559 a1560 a1561 a1562, b6 g1551 A1554 m1555 n1556 r.2.2.1, r5 A1554 m1555 n1556 r.2.2.2] w' := by
  generalize (fps [b7 g1549 g1551 a1559 a1560 a1561 a1562, b6 g1551 A1554 m1555 n1556 a1558, r5 A1554 m1555 n1556 l1553]) = FF at HS HGl0 ⊢
  obtain rfl := (row_len (HS.out.at2)).symm
  unfold obj_Make.f at H
  go_enter Tryd.func34, Tryd.ntmps34
  go_wp2_with fail
  obtain ⟨t2381, HA2382, H⟩ := bind_some H
  refine (ground_Ground_Conf.calls l1553 a1558 a1559 a1560 a1561 a1562 g1549 g1551 A1554 l1553.length n1556 t2381 _ ⟨HGl0.out.pass HS.out⟩ ⟨HS.out.begin⟩ HA2382).mono ?_
  rintro e_ w2383 ⟨rfl, hS⟩
  replace HS : Aside0 (Sep FF w [b7 g1549 g1551 a1559 a1560 a1561 a1562, b6 g1551 A1554 l1553.length n1556 a1558, r5 A1554 l1553.length n1556 l1553] w2383) := ⟨HS.out.call hS⟩
  clear hS
  have fl2384 : ∀ w, (Instr.field 30 (.agg #[.int .i64 t2381.1, .int .i64 t2381.2.1, .int .i64 t2381.2.2.1, .int .i64 t2381.2.2.2]) 1).run Tryd.prog w = .ok (.int .i64 t2381.2.1) w := fun _ => by kernel_rfl
  go_wp2_with fail
  clear fl2384
  obtain ⟨t2385, HA2386, H⟩ := bind_some H
  refine (shape_Blocks.calls _ t2381.2.1 a1563 a1564 t2385 _ ⟨HGl0.out.pass (l := []) HS.out⟩ ⟨Sep.start _⟩ HA2386).mono ?_
  rintro e_ w2387 ⟨rfl, hS⟩
  replace HS : Aside0 (Sep FF w [b7 g1549 g1551 a1559 a1560 a1561 a1562, b6 g1551 A1554 l1553.length n1556 a1558, r5 A1554 l1553.length n1556 l1553] w2387) := ⟨HS.out.call hS⟩
  clear hS
  by_cases c2388 : t2385.2 = 0
  · replace H := if_yes c2388 H
    have c2388b0 : (t2385.2 == 0) = true := beq_iff_eq.mpr c2388
    have c2388b1 : (t2385.2 != 0) = false := bne_eq_false_iff_eq.mpr c2388
    clear c2388
    go_wp2_with fail
    obtain ⟨t2389, HA2390, H⟩ := bind_some H
    refine (pool_Len.calls l1553 a1558 a1559 a1560 a1561 a1562 g1549 g1551 A1554 l1553.length n1556 t2389 _ ⟨HGl0.out.pass HS.out⟩ ⟨HS.out.begin⟩ HA2390).mono ?_
    rintro e_ w2391 ⟨rfl, hS⟩
    replace HS : Aside0 (Sep FF w [b7 g1549 g1551 a1559 a1560 a1561 a1562, b6 g1551 A1554 l1553.length n1556 t2389.2, r5 A1554 l1553.length n1556 l1553] w2391) := ⟨HS.out.call hS⟩
    clear hS
    by_cases c2392 : t2389.1 < t2385.1
    · replace H := if_yes c2392 H
      have c2392b0 : decide (t2389.1 < t2385.1) = true := decide_eq_true c2392
      clear c2392
      go_wp2_with fail
      go_ret2
      rw [← some_eq H]
      exact ⟨(by first | rfl | (simp [IntKind.wrap_u32]; done)), HS.out⟩
    · replace H := if_no c2392 H
      have c2392b0 : decide (t2389.1 < t2385.1) = false := decide_eq_false c2392
      clear c2392
      go_wp2_with fail
      obtain ⟨t2393, HA2394, H⟩ := bind_some H
      refine (pool_Take.calls _ l1553 t2389.2 a1559 a1560 a1561 a1562 g1549 g1551 A1554 l1553.length n1556 t2393 _ ⟨HGl0.out.pass HS.out⟩ ⟨HS.out.begin⟩ HA2394).mono ?_
      rintro e_ w2395 ⟨rfl, hS⟩
      replace HS : Aside0 (Sep FF w [b7 g1549 g1551 a1559 a1560 a1561 a1562, b6 g1551 A1554 l1553.length n1556 t2393.2.2.1, r5 A1554 l1553.length n1556 t2393.2.2.2] w2395) := ⟨HS.out.call hS⟩
      clear hS
      by_cases c2396 : t2385.1 > 1
      · replace H := if_yes c2396 H
        have c2396b0 : decide (1 < t2385.1) = true := decide_eq_true c2396
        clear c2396
        go_wp2_with fail
        obtain ⟨t2397, HA2398, H⟩ := bind_some H
        refine (obj_mark.calls _ t2393.2.2.2 t2393.2.2.1 a1559 a1560 a1561 a1562 t2393.1 2 0 0 0 0 0 0 g1549 g1551 A1554 l1553.length n1556 t2397 _ ⟨HGl0.out.pass HS.out⟩ ⟨HS.out.begin⟩ HA2398).mono ?_
        rintro e_ w2399 ⟨rfl, hS⟩
        replace HS : Aside0 (Sep FF w [b7 g1549 g1551 a1559 a1560 a1561 a1562, b6 g1551 A1554 l1553.length n1556 t2397.1, r5 A1554 l1553.length n1556 t2397.2] w2399) := ⟨HS.out.call hS⟩
        clear hS
        go_wp2_with fail
        obtain ⟨t2400, HA2401, H⟩ := bind_some H
        refine (ground_Ground_SetWord.calls t2397.2 t2397.1 a1559 a1560 a1561 a1562 t2393.1 1 ((a1563) % 4294967296) g1549 g1551 A1554 l1553.length n1556 t2400 _ ⟨HGl0.out.pass HS.out⟩ ⟨HS.out.begin⟩ HA2401).mono ?_
        rintro e_ w2402 ⟨rfl, hS⟩
        replace HS : Aside0 (Sep FF w [b7 g1549 g1551 a1559 a1560 a1561 a1562, b6 g1551 A1554 l1553.length n1556 t2400.2.1, r5 A1554 l1553.length n1556 t2400.2.2] w2402) := ⟨HS.out.call hS⟩
        clear hS
        go_wp2_with fail
        obtain ⟨t2403, HA2404, H⟩ := bind_some H
        refine (ground_Ground_SetWord.calls t2400.2.2 t2400.2.1 a1559 a1560 a1561 a1562 t2393.1 2 ((a1564) % 4294967296) g1549 g1551 A1554 l1553.length n1556 t2403 _ ⟨HGl0.out.pass HS.out⟩ ⟨HS.out.begin⟩ HA2404).mono ?_
        rintro e_ w2405 ⟨rfl, hS⟩
        replace HS : Aside0 (Sep FF w [b7 g1549 g1551 a1559 a1560 a1561 a1562, b6 g1551 A1554 l1553.length n1556 t2403.2.1, r5 A1554 l1553.length n1556 t2403.2.2] w2405) := ⟨HS.out.call hS⟩
        clear hS
        go_wp2_with fail
        obtain ⟨o2422, AL2423, H⟩ := bind_some H
        go_loopg [56] k (fun kq v56 wc => ∃ (x2426 : Int) (x2427 : List Int) (x2428 : Int), v56 = .int .i64 x2426 ∧ Aside0 (obj_Make.lo0 kq a1559 a1560 a1561 a1562 t2385 t2393 x2426 x2427 x2428 = some o2422) ∧ Aside0 (Sep FF w [b7 g1549 g1551 a1559 a1560 a1561 a1562, b6 g1551 A1554 l1553.length n1556 x2428, r5 A1554 l1553.length n1556 x2427] wc))
        case atStart => exact ⟨(0), (t2403.2.2), (t2403.2.1), (by first | rfl | (simp [IntKind.wrap_u32]; done)), AL2423, ⟨HS.out⟩⟩
        case round =>
          clear AL2423 HS
          obtain ⟨x2426, x2427, x2428, rfl, AL2423, HS⟩ := hrel
          obtain ⟨w2424, rfl⟩ : ∃ x : World, x = wr := ⟨_, rfl⟩
          cases gk with
          | zero => exact absurd AL2423.out (by simp [obj_Make.lo0])
          | succ k2425 =>
            have AL0 := AL2423.out
            rw [obj_Make.lo0] at AL0
            clear AL2423
            have AL2423 := Aside0.mk AL0
            clear AL0
            by_cases c2429 : x2426 < (wrap64 (t2385.1 - 1))
            · replace AL2423 := if_yes c2429 AL2423
              have c2429b0 : decide (x2426 < (wrap64 (t2385.1 - 1))) = true := decide_eq_true c2429
              clear c2429
              go_wp2_with fail
              obtain ⟨t2413, HA2430, AL2423⟩ := bind_some AL2423
              refine (pool_Take.calls _ x2427 x2428 a1559 a1560 a1561 a1562 g1549 g1551 A1554 l1553.length n1556 t2413 _ ⟨HGl0.out.pass HS.out⟩ ⟨HS.out.begin⟩ HA2430).mono ?_
              rintro e_ w2431 ⟨rfl, hS⟩
              replace HS : Aside0 (Sep FF w [b7 g1549 g1551 a1559 a1560 a1561 a1562, b6 g1551 A1554 l1553.length n1556 t2413.2.2.1, r5 A1554 l1553.length n1556 t2413.2.2.2] w2431) := ⟨HS.out.call hS⟩
              clear hS
              go_wp2_with fail
              obtain ⟨t2416, HA2432, AL2423⟩ := bind_some AL2423
              refine (obj_mark.calls _ t2413.2.2.2 t2413.2.2.1 a1559 a1560 a1561 a1562 t2413.1 3 0 0 0 0 0 t2393.1 g1549 g1551 A1554 l1553.length n1556 t2416 _ ⟨HGl0.out.pass HS.out⟩ ⟨HS.out.begin⟩ HA2432).mono ?_
              rintro e_ w2433 ⟨rfl, hS⟩
              replace HS : Aside0 (Sep FF w [b7 g1549 g1551 a1559 a1560 a1561 a1562, b6 g1551 A1554 l1553.length n1556 t2416.1, r5 A1554 l1553.length n1556 t2416.2] w2433) := ⟨HS.out.call hS⟩
              clear hS
              go_wp2_with fail
              obtain ⟨t2419, HA2434, AL2423⟩ := bind_some AL2423
              refine (ground_Ground_SetWord.calls t2416.2 t2416.1 a1559 a1560 a1561 a1562 t2393.1 (wrap64 (8 + x2426)) ((wrap64 (t2413.1 + 1)) % 4294967296) g1549 g1551 A1554 l1553.length n1556 t2419 _ ⟨HGl0.out.pass HS.out⟩ ⟨HS.out.begin⟩ HA2434).mono ?_
              rintro e_ w2435 ⟨rfl, hS⟩
              replace HS : Aside0 (Sep FF w [b7 g1549 g1551 a1559 a1560 a1561 a1562, b6 g1551 A1554 l1553.length n1556 t2419.2.1, r5 A1554 l1553.length n1556 t2419.2.2] w2435) := ⟨HS.out.call hS⟩
              clear hS
              go_wp2_with fail
              go_roundg k2425
              case measure => exact Nat.lt_succ_self _
              case rel => exact ⟨(wrap64 (x2426 + 1)), (t2419.2.2), (t2419.2.1), (by first | rfl | (simp [IntKind.wrap_u32]; done)), Aside0.mk AL2423.out, ⟨HS.out⟩⟩
            · replace AL2423 := if_no c2429 AL2423
              have c2429b0 : decide (x2426 < (wrap64 (t2385.1 - 1))) = false := decide_eq_false c2429
              clear c2429
              have ho := some_eq AL2423
              subst ho
              clear AL2423
              go_wp2_with fail
              go_ret2
              rw [← some_eq H]
              exact ⟨(by first | rfl | (simp [IntKind.wrap_u32]; done)), HS.out⟩
      · replace H := if_no c2396 H
        have c2396b0 : decide (1 < t2385.1) = false := decide_eq_false c2396
        clear c2396
        go_wp2_with fail
        obtain ⟨t2397, HA2437, H⟩ := bind_some H
        refine (obj_mark.calls _ t2393.2.2.2 t2393.2.2.1 a1559 a1560 a1561 a1562 t2393.1 1 0 0 0 0 0 0 g1549 g1551 A1554 l1553.length n1556 t2397 _ ⟨HGl0.out.pass HS.out⟩ ⟨HS.out.begin⟩ HA2437).mono ?_
        rintro e_ w2438 ⟨rfl, hS⟩
        replace HS : Aside0 (Sep FF w [b7 g1549 g1551 a1559 a1560 a1561 a1562, b6 g1551 A1554 l1553.length n1556 t2397.1, r5 A1554 l1553.length n1556 t2397.2] w2438) := ⟨HS.out.call hS⟩
        clear hS
        go_wp2_with fail
        obtain ⟨t2400, HA2439, H⟩ := bind_some H
        refine (ground_Ground_SetWord.calls t2397.2 t2397.1 a1559 a1560 a1561 a1562 t2393.1 1 ((a1563) % 4294967296) g1549 g1551 A1554 l1553.length n1556 t2400 _ ⟨HGl0.out.pass HS.out⟩ ⟨HS.out.begin⟩ HA2439).mono ?_
        rintro e_ w2440 ⟨rfl, hS⟩
        replace HS : Aside0 (Sep FF w [b7 g1549 g1551 a1559 a1560 a1561 a1562, b6 g1551 A1554 l1553.length n1556 t2400.2.1, r5 A1554 l1553.length n1556 t2400.2.2] w2440) := ⟨HS.out.call hS⟩
        clear hS
        go_wp2_with fail
        obtain ⟨t2403, HA2441, H⟩ := bind_some H
        refine (ground_Ground_SetWord.calls t2400.2.2 t2400.2.1 a1559 a1560 a1561 a1562 t2393.1 2 ((a1564) % 4294967296) g1549 g1551 A1554 l1553.length n1556 t2403 _ ⟨HGl0.out.pass HS.out⟩ ⟨HS.out.begin⟩ HA2441).mono ?_
        rintro e_ w2442 ⟨rfl, hS⟩
        replace HS : Aside0 (Sep FF w [b7 g1549 g1551 a1559 a1560 a1561 a1562, b6 g1551 A1554 l1553.length n1556 t2403.2.1, r5 A1554 l1553.length n1556 t2403.2.2] w2442) := ⟨HS.out.call hS⟩
        clear hS
        go_wp2_with fail
        obtain ⟨o2456, AL2457, H⟩ := bind_some H
        go_loopg [56] k (fun kq v56 wc => ∃ (x2460 : Int) (x2461 : List Int) (x2462 : Int), v56 = .int .i64 x2460 ∧ Aside0 (obj_Make.lo1 kq a1559 a1560 a1561 a1562 t2385 t2393 x2460 x2461 x2462 = some o2456) ∧ Aside0 (Sep FF w [b7 g1549 g1551 a1559 a1560 a1561 a1562, b6 g1551 A1554 l1553.length n1556 x2462, r5 A1554 l1553.length n1556 x2461] wc))
        case atStart => exact ⟨(0), (t2403.2.2), (t2403.2.1), (by first | rfl | (simp [IntKind.wrap_u32]; done)), AL2457, ⟨HS.out⟩⟩
        case round =>
          clear AL2457 HS
          obtain ⟨x2460, x2461, x2462, rfl, AL2457, HS⟩ := hrel
          obtain ⟨w2458, rfl⟩ : ∃ x : World, x = wr := ⟨_, rfl⟩
          cases gk with
          | zero => exact absurd AL2457.out (by simp [obj_Make.lo1])
          | succ k2459 =>
            have AL0 := AL2457.out
            rw [obj_Make.lo1] at AL0
            clear AL2457
            have AL2457 := Aside0.mk AL0
            clear AL0
            by_cases c2463 : x2460 < (wrap64 (t2385.1 - 1))
            · replace AL2457 := if_yes c2463 AL2457
              have c2463b0 : decide (x2460 < (wrap64 (t2385.1 - 1))) = true := decide_eq_true c2463
              clear c2463
              go_wp2_with fail
              obtain ⟨t2413, HA2464, AL2457⟩ := bind_some AL2457
              refine (pool_Take.calls _ x2461 x2462 a1559 a1560 a1561 a1562 g1549 g1551 A1554 l1553.length n1556 t2413 _ ⟨HGl0.out.pass HS.out⟩ ⟨HS.out.begin⟩ HA2464).mono ?_
              rintro e_ w2465 ⟨rfl, hS⟩
              replace HS : Aside0 (Sep FF w [b7 g1549 g1551 a1559 a1560 a1561 a1562, b6 g1551 A1554 l1553.length n1556 t2413.2.2.1, r5 A1554 l1553.length n1556 t2413.2.2.2] w2465) := ⟨HS.out.call hS⟩
              clear hS
              go_wp2_with fail
              obtain ⟨t2416, HA2466, AL2457⟩ := bind_some AL2457
              refine (obj_mark.calls _ t2413.2.2.2 t2413.2.2.1 a1559 a1560 a1561 a1562 t2413.1 3 0 0 0 0 0 t2393.1 g1549 g1551 A1554 l1553.length n1556 t2416 _ ⟨HGl0.out.pass HS.out⟩ ⟨HS.out.begin⟩ HA2466).mono ?_
              rintro e_ w2467 ⟨rfl, hS⟩
              replace HS : Aside0 (Sep FF w [b7 g1549 g1551 a1559 a1560 a1561 a1562, b6 g1551 A1554 l1553.length n1556 t2416.1, r5 A1554 l1553.length n1556 t2416.2] w2467) := ⟨HS.out.call hS⟩
              clear hS
              go_wp2_with fail
              obtain ⟨t2419, HA2468, AL2457⟩ := bind_some AL2457
              refine (ground_Ground_SetWord.calls t2416.2 t2416.1 a1559 a1560 a1561 a1562 t2393.1 (wrap64 (8 + x2460)) ((wrap64 (t2413.1 + 1)) % 4294967296) g1549 g1551 A1554 l1553.length n1556 t2419 _ ⟨HGl0.out.pass HS.out⟩ ⟨HS.out.begin⟩ HA2468).mono ?_
              rintro e_ w2469 ⟨rfl, hS⟩
              replace HS : Aside0 (Sep FF w [b7 g1549 g1551 a1559 a1560 a1561 a1562, b6 g1551 A1554 l1553.length n1556 t2419.2.1, r5 A1554 l1553.length n1556 t2419.2.2] w2469) := ⟨HS.out.call hS⟩
              clear hS
              go_wp2_with fail
              go_roundg k2459
              case measure => exact Nat.lt_succ_self _
              case rel => exact ⟨(wrap64 (x2460 + 1)), (t2419.2.2), (t2419.2.1), (by first | rfl | (simp [IntKind.wrap_u32]; done)), Aside0.mk AL2457.out, ⟨HS.out⟩⟩
            · replace AL2457 := if_no c2463 AL2457
              have c2463b0 : decide (x2460 < (wrap64 (t2385.1 - 1))) = false := decide_eq_false c2463
              clear c2463
              have ho := some_eq AL2457
              subst ho
              clear AL2457
              go_wp2_with fail
              go_ret2
              rw [← some_eq H]
              exact ⟨(by first | rfl | (simp [IntKind.wrap_u32]; done)), HS.out⟩
  · replace H := if_no c2388 H
    have c2388b0 : (t2385.2 == 0) = false := beq_eq_false_iff_ne.mpr c2388
    have c2388b1 : (t2385.2 != 0) = true := bne_iff_ne.mpr c2388
    clear c2388
    go_wp2_with fail
    go_ret2
    rw [← some_eq H]
    exact ⟨(by first | rfl | (simp [IntKind.wrap_u32]; done)), HS.out⟩

set_option maxHeartbeats 30000000 in
set_option maxRecDepth 100000 in
theorem pack_Get.calls (a2578 : Int) (a2579 : Int) (a2580 : Int) (r : Int) (w : World)  (HGl0 : Aside0 (Gl 0 #[.int .i64 0, .int .i64 0, .int .i64 0, .int .i64 0, .int .i64 0] (fps []) w)) (HS : Aside0 (Sep (fps []) w [] w)) (H : Aside0 (pack_Get.f a2578 a2579 a2580 = some r)) :
    Calls Tryd.prog 20 #[.int .u32 a2578, .int .i64 a2579, .int .i64 a2580] w fun e w' => e = .returned (.int .u32 r) ∧ Sep (fps []) w [] w' := by
  unfold pack_Get.f at H
  go_enter Tryd.func20, Tryd.ntmps20
  go_wp2_with fail
  obtain ⟨t2581, HA2582, H⟩ := bind_some H
  refine (pack_isPiece.calls a2579 a2580 t2581 _ ⟨HGl0.out.pass (l := []) HS.out⟩ ⟨Sep.start _⟩ HA2582).mono ?_
  rintro e_ w2583 ⟨rfl, hS⟩
  replace HS : Aside0 (Sep (fps []) w [] w2583) := ⟨HS.out.call hS⟩
  clear hS
  by_cases c2584 : t2581 = true
  · replace H := if_yes c2584 H
    have c2584b0 : t2581 = true := c2584
    have c2584b1 : (!t2581) = false := by rw [c2584b0]; rfl
    try rw [c2584b1]
    clear c2584
    go_wp2_with fail
    obtain ⟨t2585, HA2586, H⟩ := bind_some H
    refine (pack_mask.calls a2579 a2580 t2585 _ ⟨HGl0.out.pass (l := []) HS.out⟩ ⟨Sep.start _⟩ HA2586).mono ?_
    rintro e_ w2587 ⟨rfl, hS⟩
    replace HS : Aside0 (Sep (fps []) w [] w2587) := ⟨HS.out.call hS⟩
    clear hS
    by_cases c2588 : 0 ≤ (IntKind.u64.wrap (a2579))
    · replace H := if_yes c2588 H
      have c2588b0 : decide (0 ≤ (IntKind.u64.wrap (a2579))) = true := decide_eq_true c2588
      skip
      go_wp2_with fail
      clear c2588
      go_ret
      rw [← some_eq H]
      exact ⟨(by first | rfl | (simp [IntKind.wrap_u32]; done)), HS.out⟩
    · replace H := if_no c2588 H
      have c2588b0 : decide (0 ≤ (IntKind.u64.wrap (a2579))) = false := decide_eq_false c2588
      exact (none_no H).elim
  · replace H := if_no c2584 H
    have c2584b0 : t2581 = false := by simpa using c2584
    have c2584b1 : (!t2581) = true := by rw [c2584b0]; rfl
    try rw [c2584b1]
    clear c2584
    go_wp2_with fail
    go_ret
    rw [← some_eq H]
    exact ⟨(by first | rfl | (simp [IntKind.wrap_u32]; done)), HS.out⟩

set_option maxHeartbeats 30000000 in
set_option maxRecDepth 100000 in
theorem tag_Unpack_1.calls (a2572 : Int) (a2573 : Int) (a2576 : Int) (g2575 : Nat) (r : Int) (w : World)  (HGl0 : Aside0 (Gl 0 #[.int .i64 0, .int .i64 0, .int .i64 0, .int .i64 0, .int .i64 0] (fps [b13 g2575 a2576]) w)) (HS : Aside0 (Sep (fps [b13 g2575 a2576]) w [b13 g2575 a2576] w)) (H : Aside0 (tag_Unpack_1.f a2572 a2573 a2576 = some r)) :
    Calls Tryd.prog 74 #[.int .i64 a2572, .int .i64 a2573, .pointer (some ⟨g2575, 0, none⟩)] w fun e w' => e = .returned (.int .i64 r) ∧ Sep (fps [b13 g2575 a2576]) w [b13 g2575 a2576] w' := by
  generalize (fps [b13 g2575 a2576]) = FF at HS HGl0 ⊢
  unfold tag_Unpack_1.f at H
  go_enter Tryd.func74, Tryd.ntmps74
  have hc2577 : w.cell? ⟨g2575, 0, none⟩ = some (.int .u32 a2576) := blk_cellv (HS.out.at0) 0 rfl
  go_wp2_with fail
  clear hc2577
  obtain ⟨t2589, HA2590, H⟩ := bind_some H
  refine (pack_Get.calls a2576 a2572 a2573 t2589 _ ⟨HGl0.out.pass (l := []) HS.out⟩ ⟨Sep.start _⟩ HA2590).mono ?_
  rintro e_ w2591 ⟨rfl, hS⟩
  replace HS : Aside0 (Sep FF w [b13 g2575 a2576] w2591) := ⟨HS.out.call hS⟩
  clear hS
  go_wp2_with fail
  go_ret
  rw [← some_eq H]
  exact ⟨(by first | rfl | (simp [IntKind.wrap_u32]; done)), HS.out⟩
end Go.Proofs.YtobeonkddamnoaaDoor.C

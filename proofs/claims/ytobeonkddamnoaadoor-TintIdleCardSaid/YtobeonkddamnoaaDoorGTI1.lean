/- Each function of the group TI does what its plain function says, and changes nothing that was there; proved by walking its code. No condition. -/
import Derived.Test.YtobeonkddamnoaaDoorQw
import Derived.Test.YtobeonkddamnoaaDoorMTI
import Derived.Test.YtobeonkddamnoaaDoorGTI0
namespace Go.Proofs.YtobeonkddamnoaaDoor.C
open Go.RowKit Go.Proofs.YtobeonkddamnoaaDoorW.PrintWords Go.Proofs.YtobeonkddamnoaaDoorW.PrintLast Go.Proofs.YtobeonkddamnoaaDoor.Q Go.Proofs.YtobeonkddamnoaaDoor.M
set_option linter.unusedVariables false
set_option linter.unusedSimpArgs false
set_option maxHeartbeats 30000000 in
set_option maxRecDepth 100000 in
theorem chain_put_F143.calls (l1149 : List Int) (a1154 : Int) (a1155 : Int) (a1156 : Int) (a1157 : Int) (a1158 : Int) (a1159 : Int) (a1160 : Int) (a1165 : Int) (g1145 : Nat) (g1147 : Nat) (A1150 : Option Addr) (m1151 : Nat) (n1152 : Nat) (g1162 : Nat) (g1164 : Nat) (r : Bool × Int × List Int) (w : World)  (HGl0 : Aside0 (Gl 0 #[.int .i64 0, .int .i64 0, .int .i64 0, .int .i64 0, .int .i64 0] (fps [b7 g1145 g1147 a1155 a1156 a1157 a1158, b6 g1147 A1150 m1151 n1152 a1154, r5 A1150 m1151 n1152 l1149, b9 g1162 g1145, b10 g1164 a1165]) w)) (HS : Aside0 (Sep (fps [b7 g1145 g1147 a1155 a1156 a1157 a1158, b6 g1147 A1150 m1151 n1152 a1154, r5 A1150 m1151 n1152 l1149, b9 g1162 g1145, b10 g1164 a1165]) w [b7 g1145 g1147 a1155 a1156 a1157 a1158, b6 g1147 A1150 m1151 n1152 a1154, r5 A1150 m1151 n1152 l1149, b9 g1162 g1145, b10 g1164 a1165] w)) (H : Aside0 (chain_put_F143.f l1149 a1154 a1155 a1156 a1157 a1158 a1159 a1160 a1165 = some r)) :
    Calls Tryd.prog 142 #[.pointer (some ⟨g1145, 0, none⟩), .int .i64 a1159, .int .i64 a1160, .func (.func 143) #[] #[.pointer (some ⟨g1162, 0, none⟩), .pointer (some ⟨g1164, 0, none⟩)]] w fun e w' => e = .returned (.bool r.1) ∧ Sep (fps [b7 g1145 g1147 a1155 a1156 a1157 a1158, b6 g1147 A1150 m1151 n1152 a1154, r5 A1150 m1151 n1152 l1149, b9 g1162 g1145, b10 g1164 a1165]) w [b7 g1145 g1147 a1155 a1156 a1157 a1158, b6 g1147 A1150 m1151 n1152 r.2.1, r5 A1150 m1151 n1152 r.2.2, b9 g1162 g1145, b10 g1164 a1165] w' := by
  generalize (fps [b7 g1145 g1147 a1155 a1156 a1157 a1158, b6 g1147 A1150 m1151 n1152 a1154, r5 A1150 m1151 n1152 l1149, b9 g1162 g1145, b10 g1164 a1165]) = FF at HS HGl0 ⊢
  obtain rfl := (row_len (HS.out.at2)).symm
  unfold chain_put_F143.f at H
  go_enter Tryd.func142, Tryd.ntmps142
  go_wp2_with fail
  obtain ⟨t1458, HA1459, H⟩ := bind_some H
  refine (chain_of.calls l1149 a1154 a1155 a1156 a1157 a1158 a1159 g1145 g1147 A1150 l1149.length n1152 t1458 _ ⟨HGl0.out.pass HS.out⟩ ⟨HS.out.begin⟩ HA1459).mono ?_
  rintro e_ w1460 ⟨rfl, hS⟩
  replace HS : Aside0 (Sep FF w [b7 g1145 g1147 a1155 a1156 a1157 a1158, b6 g1147 A1150 l1149.length n1152 a1154, r5 A1150 l1149.length n1152 l1149, b9 g1162 g1145, b10 g1164 a1165] w1460) := ⟨HS.out.call hS⟩
  clear hS
  by_cases c1471 : t1458.2.2.2 = true
  · replace H := if_yes c1471 H
    have c1471b0 : t1458.2.2.2 = true := c1471
    have c1471b1 : (!t1458.2.2.2) = false := by rw [c1471b0]; rfl
    try rw [c1471b1]
    clear c1471
    by_cases c1472 : a1160 < 0
    · replace H := if_yes c1472 H
      have c1472b0 : decide (a1160 < 0) = true := decide_eq_true c1472
      clear c1472
      go_wp2_with (first | ((with_reducible refine gate_dst (N := 9) rfl ?_); refine box_on ?hg (N := 9) ?hd (cs := #[.int .i64 0, .int .i64 0, .int .i64 0]) (t := 166) ?hr ?_; (case hd => rfl); (case hg => rfl); (case hr => first | (go_simp; done) | (go_simp; rfl)); intro g1461 hg w1462 hbox hb; replace HS : Aside0 (Sep FF w [b7 g1145 g1147 a1155 a1156 a1157 a1158, b6 g1147 A1150 l1149.length n1152 a1154, r5 A1150 l1149.length n1152 l1149, b9 g1162 g1145, b10 g1164 a1165, b8 g1461 0 0 0] w1462) := ⟨HS.out.box hg hbox hb⟩; clear hg hbox hb; have hc1464 : w1462.cell? ⟨g1461, 0, none⟩ = some (.int .i64 0) := blk_cellv (HS.out.at5) 0 rfl; have hz1465 : w1462.frozen? ⟨g1461, 0, none⟩ = false := blk_fz (HS.out.at5) 0; have hc1466 : w1462.cell? ⟨g1461, 1, none⟩ = some (.int .i64 0) := blk_cellv (HS.out.at5) 1 rfl; have hz1467 : w1462.frozen? ⟨g1461, 1, none⟩ = false := blk_fz (HS.out.at5) 1; have hc1468 : w1462.cell? ⟨g1461, 2, none⟩ = some (.int .i64 0) := blk_cellv (HS.out.at5) 2 rfl; have hz1469 : w1462.frozen? ⟨g1461, 2, none⟩ = false := blk_fz (HS.out.at5) 2) | ((with_reducible refine gate_store (t := 166) (p := 9) rfl ?_); refine store_event (w1 := (World.setCell (World.setCell (World.setCell w1462 ⟨g1461, 0, none⟩ (.int .i64 t1458.1)) ⟨g1461, 1, none⟩ (.int .i64 t1458.2.1)) ⟨g1461, 2, none⟩ (.int .i64 t1458.2.2.1))) rfl (t := 166) (p := 9) rfl rfl ?hr ?_; (case hr => first | (go_simp; done) | (go_simp; rfl)); intro w1470 hst; clear hc1464 hz1465 hc1466 hz1467 hc1468 hz1469; replace HS : Aside0 (Sep FF w [b7 g1145 g1147 a1155 a1156 a1157 a1158, b6 g1147 A1150 l1149.length n1152 a1154, r5 A1150 l1149.length n1152 l1149, b9 g1162 g1145, b10 g1164 a1165, b8 g1461 t1458.1 t1458.2.1 t1458.2.2.1] w1470) := ⟨by rw [hst]; exact HS.out.setAll (l1 := [b7 g1145 g1147 a1155 a1156 a1157 a1158, b6 g1147 A1150 l1149.length n1152 a1154, r5 A1150 l1149.length n1152 l1149, b9 g1162 g1145, b10 g1164 a1165]) (l2 := []) [.int .i64 t1458.1, .int .i64 t1458.2.1, .int .i64 t1458.2.2.1] rfl⟩; clear hst; replace HS : Aside0 (Sep FF w [b7 g1145 g1147 a1155 a1156 a1157 a1158, b6 g1147 A1150 l1149.length n1152 a1154, r5 A1150 l1149.length n1152 l1149, b9 g1162 g1145, b10 g1164 a1165] w1470) := ⟨HS.out.sub (.cons_cons _ (.cons_cons _ (.cons_cons _ (.cons_cons _ (.cons_cons _ (.cons _ .slnil))))))⟩))
      go_ret
      rw [← some_eq H]
      exact ⟨(by first | rfl | (simp [IntKind.wrap_u32]; done)), HS.out⟩
    · replace H := if_no c1472 H
      have c1472b0 : decide (a1160 < 0) = false := decide_eq_false c1472
      clear c1472
      go_wp2_with (first | ((with_reducible refine gate_dst (N := 9) rfl ?_); refine box_on ?hg (N := 9) ?hd (cs := #[.int .i64 0, .int .i64 0, .int .i64 0]) (t := 166) ?hr ?_; (case hd => rfl); (case hg => rfl); (case hr => first | (go_simp; done) | (go_simp; rfl)); intro g1461 hg w1462 hbox hb; replace HS : Aside0 (Sep FF w [b7 g1145 g1147 a1155 a1156 a1157 a1158, b6 g1147 A1150 l1149.length n1152 a1154, r5 A1150 l1149.length n1152 l1149, b9 g1162 g1145, b10 g1164 a1165, b8 g1461 0 0 0] w1462) := ⟨HS.out.box hg hbox hb⟩; clear hg hbox hb; have hc1464 : w1462.cell? ⟨g1461, 0, none⟩ = some (.int .i64 0) := blk_cellv (HS.out.at5) 0 rfl; have hz1465 : w1462.frozen? ⟨g1461, 0, none⟩ = false := blk_fz (HS.out.at5) 0; have hc1466 : w1462.cell? ⟨g1461, 1, none⟩ = some (.int .i64 0) := blk_cellv (HS.out.at5) 1 rfl; have hz1467 : w1462.frozen? ⟨g1461, 1, none⟩ = false := blk_fz (HS.out.at5) 1; have hc1468 : w1462.cell? ⟨g1461, 2, none⟩ = some (.int .i64 0) := blk_cellv (HS.out.at5) 2 rfl; have hz1469 : w1462.frozen? ⟨g1461, 2, none⟩ = false := blk_fz (HS.out.at5) 2) | ((with_reducible refine gate_store (t := 166) (p := 9) rfl ?_); refine store_event (w1 := (World.setCell (World.setCell (World.setCell w1462 ⟨g1461, 0, none⟩ (.int .i64 t1458.1)) ⟨g1461, 1, none⟩ (.int .i64 t1458.2.1)) ⟨g1461, 2, none⟩ (.int .i64 t1458.2.2.1))) rfl (t := 166) (p := 9) rfl rfl ?hr ?_; (case hr => first | (go_simp; done) | (go_simp; rfl)); intro w1470 hst; clear hc1464 hz1465 hc1466 hz1467 hc1468 hz1469; replace HS : Aside0 (Sep FF w [b7 g1145 g1147 a1155 a1156 a1157 a1158, b6 g1147 A1150 l1149.length n1152 a1154, r5 A1150 l1149.length n1152 l1149, b9 g1162 g1145, b10 g1164 a1165, b8 g1461 t1458.1 t1458.2.1 t1458.2.2.1] w1470) := ⟨by rw [hst]; exact HS.out.setAll (l1 := [b7 g1145 g1147 a1155 a1156 a1157 a1158, b6 g1147 A1150 l1149.length n1152 a1154, r5 A1150 l1149.length n1152 l1149, b9 g1162 g1145, b10 g1164 a1165]) (l2 := []) [.int .i64 t1458.1, .int .i64 t1458.2.1, .int .i64 t1458.2.2.1] rfl⟩; clear hst))
      obtain ⟨t1473, HA1474, H⟩ := bind_some H
      refine (ground_Ground_Conf.calls l1149 a1154 a1155 a1156 a1157 a1158 g1145 g1147 A1150 l1149.length n1152 t1473 _ ⟨HGl0.out.pass HS.out⟩ ⟨HS.out.begin⟩ HA1474).mono ?_
      rintro e_ w1475 ⟨rfl, hS⟩
      replace HS : Aside0 (Sep FF w [b7 g1145 g1147 a1155 a1156 a1157 a1158, b6 g1147 A1150 l1149.length n1152 a1154, r5 A1150 l1149.length n1152 l1149, b9 g1162 g1145, b10 g1164 a1165, b8 g1461 t1458.1 t1458.2.1 t1458.2.2.1] w1475) := ⟨HS.out.call hS⟩
      clear hS
      by_cases c1477 : a1160 ≥ t1473.1
      · replace H := if_yes c1477 H
        have c1477b0 : decide (t1473.1 ≤ a1160) = true := decide_eq_true c1477
        clear c1477
        have fl1476 : ∀ w, (Instr.field 30 (.agg #[.int .i64 t1473.1, .int .i64 t1473.2.1, .int .i64 t1473.2.2.1, .int .i64 t1473.2.2.2]) 0).run Tryd.prog w = .ok (.int .i64 t1473.1) w := fun _ => by kernel_rfl
        replace HS : Aside0 (Sep FF w [b7 g1145 g1147 a1155 a1156 a1157 a1158, b6 g1147 A1150 l1149.length n1152 a1154, r5 A1150 l1149.length n1152 l1149, b9 g1162 g1145, b10 g1164 a1165] w1475) := ⟨HS.out.sub (.cons_cons _ (.cons_cons _ (.cons_cons _ (.cons_cons _ (.cons_cons _ (.cons _ .slnil))))))⟩
        go_wp2_with fail
        clear fl1476
        go_ret
        rw [← some_eq H]
        exact ⟨(by first | rfl | (simp [IntKind.wrap_u32]; done)), HS.out⟩
      · replace H := if_no c1477 H
        have c1477b0 : decide (t1473.1 ≤ a1160) = false := decide_eq_false c1477
        clear c1477
        have fl1476 : ∀ w, (Instr.field 30 (.agg #[.int .i64 t1473.1, .int .i64 t1473.2.1, .int .i64 t1473.2.2.1, .int .i64 t1473.2.2.2]) 0).run Tryd.prog w = .ok (.int .i64 t1473.1) w := fun _ => by kernel_rfl
        have hc1478 : w1475.cell? ⟨g1461, 2, none⟩ = some (.int .i64 t1458.2.2.1) := blk_cellv (HS.out.at5) 2 rfl
        go_wp2_with fail
        clear fl1476 hc1478
        obtain ⟨t1479, HA1480, H⟩ := bind_some H
        refine (ground_Ground_Reg.calls l1149 a1154 a1155 a1156 a1157 a1158 t1458.2.2.1 g1145 g1147 A1150 l1149.length n1152 t1479 _ ⟨HGl0.out.pass HS.out⟩ ⟨HS.out.begin⟩ HA1480).mono ?_
        rintro e_ w1481 ⟨rfl, hS⟩
        replace HS : Aside0 (Sep FF w [b7 g1145 g1147 a1155 a1156 a1157 a1158, b6 g1147 A1150 l1149.length n1152 t1479.2, r5 A1150 l1149.length n1152 l1149, b9 g1162 g1145, b10 g1164 a1165, b8 g1461 t1458.1 t1458.2.1 t1458.2.2.1] w1481) := ⟨HS.out.call hS⟩
        clear hS
        have hc1482 : w1481.cell? ⟨g1461, 0, none⟩ = some (.int .i64 t1458.1) := blk_cellv (HS.out.at5) 0 rfl
        have hc1483 : w1481.cell? ⟨g1461, 1, none⟩ = some (.int .i64 t1458.2.1) := blk_cellv (HS.out.at5) 1 rfl
        have hc1484 : w1481.cell? ⟨g1461, 2, none⟩ = some (.int .i64 t1458.2.2.1) := blk_cellv (HS.out.at5) 2 rfl
        go_wp2_with fail
        clear hc1482 hc1483 hc1484
        replace HS : Aside0 (Sep FF w [b10 g1164 a1165, b7 g1145 g1147 a1155 a1156 a1157 a1158, b6 g1147 A1150 l1149.length n1152 t1479.2, r5 A1150 l1149.length n1152 l1149, b9 g1162 g1145, b8 g1461 t1458.1 t1458.2.1 t1458.2.2.1] w1481) := ⟨HS.out.front 4 (by simp)⟩
        replace HS : Aside0 (Sep FF w [r5 A1150 l1149.length n1152 l1149, b10 g1164 a1165, b7 g1145 g1147 a1155 a1156 a1157 a1158, b6 g1147 A1150 l1149.length n1152 t1479.2, b9 g1162 g1145, b8 g1461 t1458.1 t1458.2.1 t1458.2.2.1] w1481) := ⟨HS.out.front 3 (by simp)⟩
        replace HS : Aside0 (Sep FF w [b6 g1147 A1150 l1149.length n1152 t1479.2, r5 A1150 l1149.length n1152 l1149, b10 g1164 a1165, b7 g1145 g1147 a1155 a1156 a1157 a1158, b9 g1162 g1145, b8 g1461 t1458.1 t1458.2.1 t1458.2.2.1] w1481) := ⟨HS.out.front 3 (by simp)⟩
        replace HS : Aside0 (Sep FF w [b7 g1145 g1147 a1155 a1156 a1157 a1158, b6 g1147 A1150 l1149.length n1152 t1479.2, r5 A1150 l1149.length n1152 l1149, b10 g1164 a1165, b9 g1162 g1145, b8 g1461 t1458.1 t1458.2.1 t1458.2.2.1] w1481) := ⟨HS.out.front 3 (by simp)⟩
        replace HS : Aside0 (Sep FF w [b9 g1162 g1145, b7 g1145 g1147 a1155 a1156 a1157 a1158, b6 g1147 A1150 l1149.length n1152 t1479.2, r5 A1150 l1149.length n1152 l1149, b10 g1164 a1165, b8 g1461 t1458.1 t1458.2.1 t1458.2.2.1] w1481) := ⟨HS.out.front 4 (by simp)⟩
        obtain ⟨t1485, HA1486, H⟩ := bind_some H
        refine (chain_Add_1.calls t1458.1 t1458.2.1 t1458.2.2.1 (wrap64 (a1160 + 1)) t1479.1 l1149 t1479.2 a1155 a1156 a1157 a1158 a1165 g1162 g1145 g1147 A1150 l1149.length n1152 g1164 t1485 _ ⟨HGl0.out.pass HS.out⟩ ⟨HS.out.begin⟩ HA1486).mono ?_
        rintro e_ w1487 ⟨rfl, hS⟩
        replace HS : Aside0 (Sep FF w [b9 g1162 g1145, b7 g1145 g1147 a1155 a1156 a1157 a1158, b6 g1147 A1150 l1149.length n1152 t1485.1, r5 A1150 l1149.length n1152 t1485.2, b10 g1164 a1165, b8 g1461 t1458.1 t1458.2.1 t1458.2.2.1] w1487) := ⟨HS.out.call hS⟩
        clear hS
        have hc1488 : w1487.cell? ⟨g1461, 2, none⟩ = some (.int .i64 t1458.2.2.1) := blk_cellv (HS.out.at5) 2 rfl
        go_wp2_with fail
        clear hc1488
        replace HS : Aside0 (Sep FF w [r5 A1150 l1149.length n1152 t1485.2, b9 g1162 g1145, b7 g1145 g1147 a1155 a1156 a1157 a1158, b6 g1147 A1150 l1149.length n1152 t1485.1, b10 g1164 a1165, b8 g1461 t1458.1 t1458.2.1 t1458.2.2.1] w1487) := ⟨HS.out.front 3 (by simp)⟩
        replace HS : Aside0 (Sep FF w [b6 g1147 A1150 l1149.length n1152 t1485.1, r5 A1150 l1149.length n1152 t1485.2, b9 g1162 g1145, b7 g1145 g1147 a1155 a1156 a1157 a1158, b10 g1164 a1165, b8 g1461 t1458.1 t1458.2.1 t1458.2.2.1] w1487) := ⟨HS.out.front 3 (by simp)⟩
        replace HS : Aside0 (Sep FF w [b7 g1145 g1147 a1155 a1156 a1157 a1158, b6 g1147 A1150 l1149.length n1152 t1485.1, r5 A1150 l1149.length n1152 t1485.2, b9 g1162 g1145, b10 g1164 a1165, b8 g1461 t1458.1 t1458.2.1 t1458.2.2.1] w1487) := ⟨HS.out.front 3 (by simp)⟩
        obtain ⟨t1489, HA1490, H⟩ := bind_some H
        refine (ground_Ground_SetReg.calls t1485.2 t1485.1 a1155 a1156 a1157 a1158 t1458.2.2.1 (wrap64 (t1479.1 + 1)) g1145 g1147 A1150 l1149.length n1152 t1489 _ ⟨HGl0.out.pass HS.out⟩ ⟨HS.out.begin⟩ HA1490).mono ?_
        rintro e_ w1491 ⟨rfl, hS⟩
        replace HS : Aside0 (Sep FF w [b7 g1145 g1147 a1155 a1156 a1157 a1158, b6 g1147 A1150 l1149.length n1152 t1489.2.1, r5 A1150 l1149.length n1152 t1489.2.2, b9 g1162 g1145, b10 g1164 a1165, b8 g1461 t1458.1 t1458.2.1 t1458.2.2.1] w1491) := ⟨HS.out.call hS⟩
        clear hS
        replace HS : Aside0 (Sep FF w [b7 g1145 g1147 a1155 a1156 a1157 a1158, b6 g1147 A1150 l1149.length n1152 t1489.2.1, r5 A1150 l1149.length n1152 t1489.2.2, b9 g1162 g1145, b10 g1164 a1165] w1491) := ⟨HS.out.sub (.cons_cons _ (.cons_cons _ (.cons_cons _ (.cons_cons _ (.cons_cons _ (.cons _ .slnil))))))⟩
        go_wp2_with fail
        go_ret
        rw [← some_eq H]
        exact ⟨(by first | rfl | (simp [IntKind.wrap_u32]; done)), HS.out⟩
  · replace H := if_no c1471 H
    have c1471b0 : t1458.2.2.2 = false := by simpa using c1471
    have c1471b1 : (!t1458.2.2.2) = true := by rw [c1471b0]; rfl
    try rw [c1471b1]
    clear c1471
    go_wp2_with (first | ((with_reducible refine gate_dst (N := 9) rfl ?_); refine box_on ?hg (N := 9) ?hd (cs := #[.int .i64 0, .int .i64 0, .int .i64 0]) (t := 166) ?hr ?_; (case hd => rfl); (case hg => rfl); (case hr => first | (go_simp; done) | (go_simp; rfl)); intro g1461 hg w1462 hbox hb; replace HS : Aside0 (Sep FF w [b7 g1145 g1147 a1155 a1156 a1157 a1158, b6 g1147 A1150 l1149.length n1152 a1154, r5 A1150 l1149.length n1152 l1149, b9 g1162 g1145, b10 g1164 a1165, b8 g1461 0 0 0] w1462) := ⟨HS.out.box hg hbox hb⟩; clear hg hbox hb; have hc1464 : w1462.cell? ⟨g1461, 0, none⟩ = some (.int .i64 0) := blk_cellv (HS.out.at5) 0 rfl; have hz1465 : w1462.frozen? ⟨g1461, 0, none⟩ = false := blk_fz (HS.out.at5) 0; have hc1466 : w1462.cell? ⟨g1461, 1, none⟩ = some (.int .i64 0) := blk_cellv (HS.out.at5) 1 rfl; have hz1467 : w1462.frozen? ⟨g1461, 1, none⟩ = false := blk_fz (HS.out.at5) 1; have hc1468 : w1462.cell? ⟨g1461, 2, none⟩ = some (.int .i64 0) := blk_cellv (HS.out.at5) 2 rfl; have hz1469 : w1462.frozen? ⟨g1461, 2, none⟩ = false := blk_fz (HS.out.at5) 2) | ((with_reducible refine gate_store (t := 166) (p := 9) rfl ?_); refine store_event (w1 := (World.setCell (World.setCell (World.setCell w1462 ⟨g1461, 0, none⟩ (.int .i64 t1458.1)) ⟨g1461, 1, none⟩ (.int .i64 t1458.2.1)) ⟨g1461, 2, none⟩ (.int .i64 t1458.2.2.1))) rfl (t := 166) (p := 9) rfl rfl ?hr ?_; (case hr => first | (go_simp; done) | (go_simp; rfl)); intro w1470 hst; clear hc1464 hz1465 hc1466 hz1467 hc1468 hz1469; replace HS : Aside0 (Sep FF w [b7 g1145 g1147 a1155 a1156 a1157 a1158, b6 g1147 A1150 l1149.length n1152 a1154, r5 A1150 l1149.length n1152 l1149, b9 g1162 g1145, b10 g1164 a1165, b8 g1461 t1458.1 t1458.2.1 t1458.2.2.1] w1470) := ⟨by rw [hst]; exact HS.out.setAll (l1 := [b7 g1145 g1147 a1155 a1156 a1157 a1158, b6 g1147 A1150 l1149.length n1152 a1154, r5 A1150 l1149.length n1152 l1149, b9 g1162 g1145, b10 g1164 a1165]) (l2 := []) [.int .i64 t1458.1, .int .i64 t1458.2.1, .int .i64 t1458.2.2.1] rfl⟩; clear hst; replace HS : Aside0 (Sep FF w [b7 g1145 g1147 a1155 a1156 a1157 a1158, b6 g1147 A1150 l1149.length n1152 a1154, r5 A1150 l1149.length n1152 l1149, b9 g1162 g1145, b10 g1164 a1165] w1470) := ⟨HS.out.sub (.cons_cons _ (.cons_cons _ (.cons_cons _ (.cons_cons _ (.cons_cons _ (.cons _ .slnil))))))⟩))
    go_ret
    rw [← some_eq H]
    exact ⟨(by first | rfl | (simp [IntKind.wrap_u32]; done)), HS.out⟩

set_option maxHeartbeats 30000000 in
set_option maxRecDepth 100000 in
theorem chain_Add.calls (l1124 : List Int) (a1129 : Int) (a1130 : Int) (a1131 : Int) (a1132 : Int) (a1133 : Int) (a1134 : Int) (a1135 : Int) (g1120 : Nat) (g1122 : Nat) (A1125 : Option Addr) (m1126 : Nat) (n1127 : Nat) (r : Bool × Int × List Int) (w : World)  (HGl0 : Aside0 (Gl 0 #[.int .i64 0, .int .i64 0, .int .i64 0, .int .i64 0, .int .i64 0] (fps [b7 g1120 g1122 a1130 a1131 a1132 a1133, b6 g1122 A1125 m1126 n1127 a1129, r5 A1125 m1126 n1127 l1124]) w)) (HS : Aside0 (Sep (fps [b7 g1120 g1122 a1130 a1131 a1132 a1133, b6 g1122 A1125 m1126 n1127 a1129, r5 A1125 m1126 n1127 l1124]) w [b7 g1120 g1122 a1130 a1131 a1132 a1133, b6 g1122 A1125 m1126 n1127 a1129, r5 A1125 m1126 n1127 l1124] w)) (H : Aside0 (chain_Add.f l1124 a1129 a1130 a1131 a1132 a1133 a1134 a1135 = some r)) :
    Calls Tryd.prog 117 #[.pointer (some ⟨g1120, 0, none⟩), .int .i64 a1134, .int .i64 a1135] w fun e w' => e = .returned (.bool r.1) ∧ Sep (fps [b7 g1120 g1122 a1130 a1131 a1132 a1133, b6 g1122 A1125 m1126 n1127 a1129, r5 A1125 m1126 n1127 l1124]) w [b7 g1120 g1122 a1130 a1131 a1132 a1133, b6 g1122 A1125 m1126 n1127 r.2.1, r5 A1125 m1126 n1127 r.2.2] w' := by
  generalize (fps [b7 g1120 g1122 a1130 a1131 a1132 a1133, b6 g1122 A1125 m1126 n1127 a1129, r5 A1125 m1126 n1127 l1124]) = FF at HS HGl0 ⊢
  obtain rfl := (row_len (HS.out.at2)).symm
  unfold chain_Add.f at H
  go_enter Tryd.func117, Tryd.ntmps117
  go_wp2_with (first | ((with_reducible refine gate_dst (N := 3) rfl ?_); refine box_on ?hg (N := 3) ?hd (cs := #[.pointer (some ⟨g1120, 0, none⟩)]) (t := 25) ?hr ?_; (case hd => rfl); (case hg => rfl); (case hr => first | (go_simp; done) | (go_simp; rfl)); intro g1495 hg w1496 hbox hb; replace HS : Aside0 (Sep FF w [b7 g1120 g1122 a1130 a1131 a1132 a1133, b6 g1122 A1125 l1124.length n1127 a1129, r5 A1125 l1124.length n1127 l1124, b9 g1495 g1120] w1496) := ⟨HS.out.box hg hbox hb⟩; clear hg hbox hb) | ((with_reducible refine gate_dst (N := 5) rfl ?_); refine box_on ?hg (N := 5) ?hd (cs := #[.int .i64 a1135]) (t := 3) ?hr ?_; (case hd => rfl); (case hg => rfl); (case hr => first | (go_simp; done) | (go_simp; rfl)); intro g1498 hg w1499 hbox hb; replace HS : Aside0 (Sep FF w [b7 g1120 g1122 a1130 a1131 a1132 a1133, b6 g1122 A1125 l1124.length n1127 a1129, r5 A1125 l1124.length n1127 l1124, b9 g1495 g1120, b10 g1498 a1135] w1499) := ⟨HS.out.box hg hbox hb⟩; clear hg hbox hb; have hc1501 : w1499.cell? ⟨g1495, 0, none⟩ = some (.pointer (some ⟨g1120, 0, none⟩)) := blk_cellv (HS.out.at3) 0 rfl; have hc1502 : w1499.cell? ⟨g1498, 0, none⟩ = some (.int .i64 a1135) := blk_cellv (HS.out.at4) 0 rfl))
  clear hc1501 hc1502
  obtain ⟨t1503, HA1504, H⟩ := bind_some H
  refine (chain_put_F143.calls l1124 a1129 a1130 a1131 a1132 a1133 a1134 a1135 a1135 g1120 g1122 A1125 l1124.length n1127 g1495 g1498 t1503 _ ⟨HGl0.out.pass HS.out⟩ ⟨HS.out.begin⟩ HA1504).mono ?_
  rintro e_ w1505 ⟨rfl, hS⟩
  replace HS : Aside0 (Sep FF w [b7 g1120 g1122 a1130 a1131 a1132 a1133, b6 g1122 A1125 l1124.length n1127 t1503.2.1, r5 A1125 l1124.length n1127 t1503.2.2, b9 g1495 g1120, b10 g1498 a1135] w1505) := ⟨HS.out.call hS⟩
  clear hS
  replace HS : Aside0 (Sep FF w [b7 g1120 g1122 a1130 a1131 a1132 a1133, b6 g1122 A1125 l1124.length n1127 t1503.2.1, r5 A1125 l1124.length n1127 t1503.2.2] w1505) := ⟨HS.out.sub (.cons_cons _ (.cons_cons _ (.cons_cons _ (.cons _ (.cons _ .slnil)))))⟩
  go_wp2_with fail
  go_ret
  rw [← some_eq H]
  exact ⟨(by first | rfl | (simp [IntKind.wrap_u32]; done)), HS.out⟩

set_option maxHeartbeats 30000000 in
set_option maxRecDepth 100000 in
theorem pool_Open.calls (k : Nat) (l823 : List Int) (a828 : Int) (a829 : Int) (a830 : Int) (a831 : Int) (a832 : Int) (g819 : Nat) (g821 : Nat) (A824 : Option Addr) (m825 : Nat) (n826 : Nat) (r : Bool × Int × List Int) (w : World)  (HGl0 : Aside0 (Gl 0 #[.int .i64 0, .int .i64 0, .int .i64 0, .int .i64 0, .int .i64 0] (fps [b7 g819 g821 a829 a830 a831 a832, b6 g821 A824 m825 n826 a828, r5 A824 m825 n826 l823]) w)) (HS : Aside0 (Sep (fps [b7 g819 g821 a829 a830 a831 a832, b6 g821 A824 m825 n826 a828, r5 A824 m825 n826 l823]) w [b7 g819 g821 a829 a830 a831 a832, b6 g821 A824 m825 n826 a828, r5 A824 m825 n826 l823] w)) (H : Aside0 (pool_Open.f k l823 a828 a829 a830 a831 a832 = some r)) :
    Calls Tryd.prog 62 #[.pointer (some ⟨g819, 0, none⟩)] w fun e w' => e = .returned (.bool r.1) ∧ Sep (fps [b7 g819 g821 a829 a830 a831 a832, b6 g821 A824 m825 n826 a828, r5 A824 m825 n826 l823]) w [b7 g819 g821 a829 a830 a831 a832, b6 g821 A824 m825 n826 r.2.1, r5 A824 m825 n826 r.2.2] w' := by
  generalize (fps [b7 g819 g821 a829 a830 a831 a832, b6 g821 A824 m825 n826 a828, r5 A824 m825 n826 l823]) = FF at HS HGl0 ⊢
  obtain rfl := (row_len (HS.out.at2)).symm
  unfold pool_Open.f at H
  go_enter Tryd.func62, Tryd.ntmps62
  go_wp2_with fail
  obtain ⟨t1519, HA1520, H⟩ := bind_some H
  refine (chain_Len.calls l823 a828 a829 a830 a831 a832 0 g819 g821 A824 l823.length n826 t1519 _ ⟨HGl0.out.pass HS.out⟩ ⟨HS.out.begin⟩ HA1520).mono ?_
  rintro e_ w1521 ⟨rfl, hS⟩
  replace HS : Aside0 (Sep FF w [b7 g819 g821 a829 a830 a831 a832, b6 g821 A824 l823.length n826 t1519.2, r5 A824 l823.length n826 l823] w1521) := ⟨HS.out.call hS⟩
  clear hS
  by_cases c1522 : t1519.1 > 0
  · replace H := if_yes c1522 H
    have c1522b0 : decide (0 < t1519.1) = true := decide_eq_true c1522
    clear c1522
    go_wp2_with fail
    go_ret
    rw [← some_eq H]
    exact ⟨(by first | rfl | (simp [IntKind.wrap_u32]; done)), HS.out⟩
  · replace H := if_no c1522 H
    have c1522b0 : decide (0 < t1519.1) = false := decide_eq_false c1522
    clear c1522
    go_wp2_with fail
    obtain ⟨t1523, HA1524, H⟩ := bind_some H
    refine (ground_Ground_Conf.calls l823 t1519.2 a829 a830 a831 a832 g819 g821 A824 l823.length n826 t1523 _ ⟨HGl0.out.pass HS.out⟩ ⟨HS.out.begin⟩ HA1524).mono ?_
    rintro e_ w1525 ⟨rfl, hS⟩
    replace HS : Aside0 (Sep FF w [b7 g819 g821 a829 a830 a831 a832, b6 g821 A824 l823.length n826 t1519.2, r5 A824 l823.length n826 l823] w1525) := ⟨HS.out.call hS⟩
    clear hS
    have fl1526 : ∀ w, (Instr.field 30 (.agg #[.int .i64 t1523.1, .int .i64 t1523.2.1, .int .i64 t1523.2.2.1, .int .i64 t1523.2.2.2]) 0).run Tryd.prog w = .ok (.int .i64 t1523.1) w := fun _ => by kernel_rfl
    go_wp2_with fail
    clear fl1526
    obtain ⟨o1537, AL1538, H⟩ := bind_some H
    go_loopg [14] k (fun kq v14 wc => ∃ (x1541 : Int) (x1542 : List Int) (x1543 : Int), v14 = .int .i64 x1541 ∧ Aside0 (pool_Open.lo0 kq a829 a830 a831 a832 t1523 x1541 x1542 x1543 = some o1537) ∧ Aside0 (Sep FF w [b7 g819 g821 a829 a830 a831 a832, b6 g821 A824 l823.length n826 x1543, r5 A824 l823.length n826 x1542] wc))
    case atStart => exact ⟨(0), (l823), (t1519.2), (by first | rfl | (simp [IntKind.wrap_u32]; done)), AL1538, ⟨HS.out⟩⟩
    case round =>
      clear AL1538 HS
      obtain ⟨x1541, x1542, x1543, rfl, AL1538, HS⟩ := hrel
      obtain ⟨w1539, rfl⟩ : ∃ x : World, x = wr := ⟨_, rfl⟩
      cases gk with
      | zero => exact absurd AL1538.out (by simp [pool_Open.lo0])
      | succ k1540 =>
        have AL0 := AL1538.out
        rw [pool_Open.lo0] at AL0
        clear AL1538
        have AL1538 := Aside0.mk AL0
        clear AL0
        by_cases c1544 : x1541 < t1523.1
        · replace AL1538 := if_yes c1544 AL1538
          have c1544b0 : decide (x1541 < t1523.1) = true := decide_eq_true c1544
          clear c1544
          go_wp2_with fail
          obtain ⟨t1534, HA1545, AL1538⟩ := bind_some AL1538
          refine (chain_Add.calls x1542 x1543 a829 a830 a831 a832 0 x1541 g819 g821 A824 l823.length n826 t1534 _ ⟨HGl0.out.pass HS.out⟩ ⟨HS.out.begin⟩ HA1545).mono ?_
          rintro e_ w1546 ⟨rfl, hS⟩
          replace HS : Aside0 (Sep FF w [b7 g819 g821 a829 a830 a831 a832, b6 g821 A824 l823.length n826 t1534.2.1, r5 A824 l823.length n826 t1534.2.2] w1546) := ⟨HS.out.call hS⟩
          clear hS
          go_wp2_with fail
          go_roundg k1540
          case measure => exact Nat.lt_succ_self _
          case rel => exact ⟨(wrap64 (x1541 + 1)), (t1534.2.2), (t1534.2.1), (by first | rfl | (simp [IntKind.wrap_u32]; done)), Aside0.mk AL1538.out, ⟨HS.out⟩⟩
        · replace AL1538 := if_no c1544 AL1538
          have c1544b0 : decide (x1541 < t1523.1) = false := decide_eq_false c1544
          clear c1544
          have ho := some_eq AL1538
          subst ho
          clear AL1538
          go_wp2_with fail
          go_ret
          rw [← some_eq H]
          exact ⟨(by first | rfl | (simp [IntKind.wrap_u32]; done)), HS.out⟩

set_option maxHeartbeats 30000000 in
set_option maxRecDepth 100000 in
theorem quitrentref10_Open.calls (k : Nat) (a1558 : Int) (r : List Int) (w : World)  (HGl0 : Aside0 (Gl 0 #[.int .i64 0, .int .i64 0, .int .i64 0, .int .i64 0, .int .i64 0] (fps []) w)) (HS : Aside0 (Sep (fps []) w [] w)) (H : Aside0 (quitrentref10_Open.f k a1558 = some r)) :
    Calls Tryd.prog 155 #[.int .i64 a1558] w fun e w' => ∃ (A1598 : Option Addr) (m1599 : Nat) (n1600 : Nat), e = .returned (.slice A1598 m1599 n1600) ∧ Sep (fps []) w [r11 A1598 m1599 n1600 r] w' := by
  unfold quitrentref10_Open.f at H
  go_enter Tryd.func155, Tryd.ntmps155
  go_wp2_with fail
  replace HS : Aside0 (Sep (fps []) w [r11 none 0 0 []] w) := ⟨HS.out.nilrow 3 (Value.int .i64)⟩
  obtain ⟨o1560, AL1561, H⟩ := bind_some H
  go_loopg [3, 4] k (fun kq v3 v4 wc => ∃ (x1566 : Int) (x1567 : List Int) (A1568 : Option Addr) (m1569 : Nat) (n1570 : Nat), v3 = .slice A1568 m1569 n1570 ∧ v4 = .int .i64 x1566 ∧ Aside0 (quitrentref10_Open.lo0 kq a1558 x1566 x1567 = some o1560) ∧ Aside0 (Sep (fps []) w [r11 A1568 m1569 n1570 x1567] wc))
  case atStart => exact ⟨(0), (([] : List Int)), (none), (0), (0), (by first | rfl | (simp [IntKind.wrap_u32]; done)), (by first | rfl | (simp [IntKind.wrap_u32]; done)), AL1561, ⟨HS.out⟩⟩
  case round =>
    clear AL1561 HS
    obtain ⟨x1566, x1567, A1568, m1569, n1570, rfl, rfl, AL1561, HS⟩ := hrel
    obtain ⟨w1562, rfl⟩ : ∃ x : World, x = wr := ⟨_, rfl⟩
    obtain rfl := (row_len (HS.out.at0)).symm
    cases gk with
    | zero => exact absurd AL1561.out (by simp [quitrentref10_Open.lo0])
    | succ k1563 =>
      have AL0 := AL1561.out
      rw [quitrentref10_Open.lo0] at AL0
      clear AL1561
      have AL1561 := Aside0.mk AL0
      clear AL0
      by_cases c1572 : x1566 < a1558
      · replace AL1561 := if_yes c1572 AL1561
        have c1572b0 : decide (x1566 < a1558) = true := decide_eq_true c1572
        clear c1572
        by_cases c1576 : x1567.length < 17592186044416
        · replace AL1561 := if_yes c1576 AL1561
          have c1576b0 : decide (x1567.length < 17592186044416) = true := decide_eq_true c1576
          clear c1576
          obtain ⟨y1580, HA1581, AL1561⟩ := bind_some AL1561
          go_wp2_with (first | ((with_reducible refine gate_dst (N := 12) rfl ?_); refine slice_on (n := 1) ?hg (N := 12) ?hd (cs := #[.int .i64 x1566]) (t := 3) ?hr ?_; (case hd => rfl); (case hg => rfl); (case hr => first | (go_simp; done) | (go_simp; rfl)); intro g1573 hg w1574 hbox hb; replace HS : Aside0 (Sep (fps []) w [r11 A1568 x1567.length n1570 x1567, b10 g1573 x1566] w1574) := ⟨HS.out.box hg hbox hb⟩; clear hg hbox hb) | ((with_reducible refine gate_dst (N := 13) rfl ?_); refine append_event (l1 := []) (l2 := [b10 g1573 x1566]) rfl (.tmp 10) (.tmp 12) 49 3 (.int .i64 0) 8 rfl Tryd.underlying49 (by kernel_rfl) rfl (by decide) (Value.int .i64) (fun _ => rfl) (.slice A1568 x1567.length n1570) (x1567 : List Int) [x1566] ⟨g1573, 0, none⟩ 1 rfl rfl (blk_news (xs := [x1566]) (HS.out.at1)) HS.out (by have := of_decide_eq_true c1576b0; simp only [List.length_cons, List.length_nil]; omega) HA1581 ?_; intro A1577 n1578 w1579 HS1; replace HS : Aside0 (Sep (fps []) w [r11 A1577 y1580.length n1578 y1580, b10 g1573 x1566] w1579) := ⟨HS1⟩; clear HS1; replace HS : Aside0 (Sep (fps []) w [r11 A1577 y1580.length n1578 y1580] w1579) := ⟨HS.out.sub (.cons_cons _ (.cons _ .slnil))⟩))
          go_roundg k1563
          case measure => exact Nat.lt_succ_self _
          case rel => exact ⟨(wrap64 (x1566 + 1)), (y1580), (A1577), (y1580.length), (n1578), (by first | rfl | (simp [IntKind.wrap_u32]; done)), (by first | rfl | (simp [IntKind.wrap_u32]; done)), Aside0.mk AL1561.out, ⟨HS.out⟩⟩
        · replace AL1561 := if_no c1576 AL1561
          have c1576b0 : decide (x1567.length < 17592186044416) = false := decide_eq_false c1576
          clear c1576
          exact (none_no AL1561).elim
      · replace AL1561 := if_no c1572 AL1561
        have c1572b0 : decide (x1566 < a1558) = false := decide_eq_false c1572
        clear c1572
        have ho := some_eq AL1561
        subst ho
        clear AL1561
        go_wp2_with fail
        go_ret
        rw [← some_eq H]
        exact ⟨A1568, x1567.length, n1570, (by first | rfl | (simp [IntKind.wrap_u32]; done)), HS.out⟩

set_option maxHeartbeats 30000000 in
set_option maxRecDepth 100000 in
theorem quitrentref11_New.calls (k : Nat) (a1556 : Int) (a1557 : Int) (r : Int × Int × List Int) (w : World)  (HGl0 : Aside0 (Gl 0 #[.int .i64 0, .int .i64 0, .int .i64 0, .int .i64 0, .int .i64 0] (fps []) w)) (HS : Aside0 (Sep (fps []) w [] w)) (H : Aside0 (quitrentref11_New.f k a1556 a1557 = some r)) :
    Calls Tryd.prog 134 #[.int .i64 a1556, .int .i64 a1557] w fun e w' => ∃ (g1622 : Nat), e = .returned (.pointer (some ⟨g1622, 0, none⟩)) ∧ ∃ (A1623 : Option Addr) (m1624 : Nat) (n1625 : Nat), Sep (fps []) w [b12 g1622 r.1 r.2.1 A1623 m1624 n1625, r11 A1623 m1624 n1625 r.2.2] w' := by
  unfold quitrentref11_New.f at H
  go_enter Tryd.func134, Tryd.ntmps134
  go_wp2_with fail
  obtain ⟨t1602, HA1603, H⟩ := bind_some H
  refine (quitrentref10_Open.calls _ a1556 t1602 _ ⟨HGl0.out.pass (l := []) HS.out⟩ ⟨Sep.start _⟩ HA1603).mono ?_
  rintro e_ w1604 ⟨A1606, m1607, n1608, rfl, hS⟩
  replace HS : Aside0 (Sep (fps []) w [r11 A1606 m1607 n1608 t1602] w1604) := ⟨HS.out.call hS⟩
  clear hS
  obtain rfl := (row_len (HS.out.at0)).symm
  go_wp2_with (first | ((with_reducible refine gate_dst (N := 10) rfl ?_); refine box_on ?hg (N := 10) ?hd (cs := #[.int .i64 a1556, .int .i64 a1557, .slice A1606 t1602.length n1608, .slice none 0 0]) (t := 180) ?hr ?_; (case hd => rfl); (case hg => rfl); (case hr => first | (go_simp; done) | (go_simp; rfl)); intro g1610 hg w1611 hbox hb; replace HS : Aside0 (Sep (fps []) w [r11 A1606 t1602.length n1608 t1602, b12 g1610 a1556 a1557 A1606 t1602.length n1608] w1611) := ⟨HS.out.box hg hbox hb⟩; clear hg hbox hb))
  go_ret
  rw [← some_eq H]
  exact ⟨g1610, (by first | rfl | (simp [IntKind.wrap_u32]; done)), A1606, t1602.length, n1608, ((HS.out).front 1 (by simp)).keep (l := [b12 g1610 a1556 a1557 A1606 t1602.length n1608, r11 A1606 t1602.length n1608 t1602]) (rest := [])⟩

set_option maxHeartbeats 30000000 in
set_option maxRecDepth 100000 in
theorem quitrentref12_New.calls (k : Nat) (a1554 : Int) (a1555 : Int) (r : Int × Int × List Int × List Int × List Int) (w : World)  (HGl0 : Aside0 (Gl 0 #[.int .i64 0, .int .i64 0, .int .i64 0, .int .i64 0, .int .i64 0] (fps []) w)) (HS : Aside0 (Sep (fps []) w [] w)) (H : Aside0 (quitrentref12_New.f k a1554 a1555 = some r)) :
    Calls Tryd.prog 96 #[.int .i64 a1554, .int .i64 a1555] w fun e w' => ∃ (g1668 : Nat), e = .returned (.pointer (some ⟨g1668, 0, none⟩)) ∧ ∃ (g1669 : Nat) (A1670 : Option Addr) (m1671 : Nat) (n1672 : Nat) (A1674 : Option Addr) (m1675 : Nat) (n1676 : Nat) (A1678 : Option Addr) (m1679 : Nat) (n1680 : Nat), Sep (fps []) w [b15 g1668 g1669 0 0 0 0 0 0 0 0 0 A1670 m1671 n1672 A1674 m1675 n1676 0, b12 g1669 r.1 r.2.1 A1678 m1679 n1680, r11 A1670 m1671 n1672 r.2.2.1, r11 A1674 m1675 n1676 r.2.2.2.1, r11 A1678 m1679 n1680 r.2.2.2.2] w' := by
  unfold quitrentref12_New.f at H
  go_enter Tryd.func96, Tryd.ntmps96
  go_wp2_with fail
  obtain ⟨t1627, HA1628, H⟩ := bind_some H
  refine (quitrentref11_New.calls _ a1554 a1555 t1627 _ ⟨HGl0.out.pass (l := []) HS.out⟩ ⟨Sep.start _⟩ HA1628).mono ?_
  rintro e_ w1629 ⟨g1632, rfl, A1633, m1634, n1635, hS⟩
  replace HS : Aside0 (Sep (fps []) w [b12 g1632 t1627.1 t1627.2.1 A1633 m1634 n1635, r11 A1633 m1634 n1635 t1627.2.2] w1629) := ⟨HS.out.call hS⟩
  clear hS
  obtain rfl := (row_len (HS.out.at1)).symm
  go_wp2_with (first | ((with_reducible refine gate_dst (N := 9) rfl ?_); refine box_on ?hg (N := 9) ?hd (cs := #[.pointer (some ⟨g1632, 0, none⟩), .slice none 0 0, .int .i64 0, .int .i64 0, .int .i64 0, .int .i64 0, .int .i64 0, .int .i64 0, .int .i64 0, .int .i64 0, .int .i64 0, .slice none 0 0, .slice none 0 0, .int .i64 0]) (t := 162) ?hr ?_; (case hd => rfl); (case hg => rfl); (case hr => first | (go_simp; done) | (go_simp; rfl)); intro g1637 hg w1638 hbox hb; replace HS : Aside0 (Sep (fps []) w [b12 g1632 t1627.1 t1627.2.1 A1633 ((t1627.2.2).length) n1635, r11 A1633 ((t1627.2.2).length) n1635 t1627.2.2, b13 g1637 g1632 0 0 0 0 0 0 0 0 0 0] w1638) := ⟨HS.out.box hg hbox hb⟩; clear hg hbox hb; replace HS : Aside0 (Sep (fps []) w [r11 none 0 0 [], b12 g1632 t1627.1 t1627.2.1 A1633 ((t1627.2.2).length) n1635, r11 A1633 ((t1627.2.2).length) n1635 t1627.2.2, b14 g1637 g1632 0 0 0 0 0 0 0 0 0 none 0 0 0] w1638) := ⟨HS.out.nilrow 3 (Value.int .i64)⟩; replace HS : Aside0 (Sep (fps []) w [r11 none 0 0 [], r11 none 0 0 [], b12 g1632 t1627.1 t1627.2.1 A1633 ((t1627.2.2).length) n1635, r11 A1633 ((t1627.2.2).length) n1635 t1627.2.2, b15 g1637 g1632 0 0 0 0 0 0 0 0 0 none 0 0 none 0 0 0] w1638) := ⟨HS.out.nilrow 3 (Value.int .i64)⟩))
  go_ret
  rw [← some_eq H]
  exact ⟨g1637, (by first | rfl | (simp [IntKind.wrap_u32]; done)), g1632, none, 0, 0, none, 0, 0, A1633, ((t1627.2.2).length), n1635, ((((((HS.out).front 3 (by simp)).front 1 (by simp)).front 2 (by simp)).front 3 (by simp)).front 4 (by simp)).keep (l := [b15 g1637 g1632 0 0 0 0 0 0 0 0 0 none 0 0 none 0 0 0, b12 g1632 t1627.1 t1627.2.1 A1633 ((t1627.2.2).length) n1635, r11 none 0 0 [], r11 none 0 0 [], r11 A1633 ((t1627.2.2).length) n1635 t1627.2.2]) (rest := [])⟩

set_option maxHeartbeats 30000000 in
set_option maxRecDepth 100000 in
theorem quitrentlaw12_Opened.calls (k : Nat) (a3 : Int) (a4 : Int) (a5 : Int) (a6 : Int) (r : Bool ⊕ (Bool × Int × Int × Int × Int × Int × Int × Int × List Int × List Int × List Int × List Int)) (w : World)  (HGl0 : Aside0 (Gl 0 #[.int .i64 0, .int .i64 0, .int .i64 0, .int .i64 0, .int .i64 0] (fps []) w)) (HS : Aside0 (Sep (fps []) w [] w)) (H : Aside0 (quitrentlaw12_Opened.f k a3 a4 a5 a6 = some r)) :
    Calls Tryd.prog 33 #[.agg #[.int .i64 a3, .int .i64 a4, .int .i64 a5, .int .i64 a6]] w fun e w' => Sum.elim (fun (r : Bool) => e = .returned (.tuple #[.pointer none, .pointer none, .bool r]) ∧ Sep (fps []) w [] w') (fun (r : Bool × Int × Int × Int × Int × Int × Int × Int × List Int × List Int × List Int × List Int) => ∃ (g1793 : Nat) (g1794 : Nat), e = .returned (.tuple #[.pointer (some ⟨g1793, 0, none⟩), .pointer (some ⟨g1794, 0, none⟩), .bool r.1]) ∧ ∃ (g1795 : Nat) (g1796 : Nat) (A1797 : Option Addr) (m1798 : Nat) (n1799 : Nat) (A1801 : Option Addr) (m1802 : Nat) (n1803 : Nat) (A1805 : Option Addr) (m1806 : Nat) (n1807 : Nat) (A1809 : Option Addr) (m1810 : Nat) (n1811 : Nat), Sep (fps []) w [b7 g1793 g1795 r.2.1 r.2.2.1 r.2.2.2.1 r.2.2.2.2.1, b15 g1794 g1796 0 0 0 0 0 0 0 0 0 A1797 m1798 n1799 A1801 m1802 n1803 0, b6 g1795 A1805 m1806 n1807 r.2.2.2.2.2.1, b12 g1796 r.2.2.2.2.2.2.1 r.2.2.2.2.2.2.2.1 A1809 m1810 n1811, r11 A1797 m1798 n1799 r.2.2.2.2.2.2.2.2.1, r11 A1801 m1802 n1803 r.2.2.2.2.2.2.2.2.2.1, r5 A1805 m1806 n1807 r.2.2.2.2.2.2.2.2.2.2.1, r11 A1809 m1810 n1811 r.2.2.2.2.2.2.2.2.2.2.2] w') r := by
  unfold quitrentlaw12_Opened.f at H
  go_enter Tryd.func33, Tryd.ntmps33
  go_wp2_with (first | ((with_reducible refine gate_dst (N := 1) rfl ?_); refine box_on ?hg (N := 1) ?hd (cs := #[.int .i64 a3, .int .i64 a4, .int .i64 a5, .int .i64 a6]) (t := 30) ?hr ?_; (case hd => rfl); (case hg => rfl); (case hr => first | (go_simp; done) | (go_simp; rfl)); intro g1704 hg w1705 hbox hb; replace HS : Aside0 (Sep (fps []) w [b1 g1704 a3 a4 a5 a6] w1705) := ⟨HS.out.box hg hbox hb⟩; clear hg hbox hb; have hc1707 : w1705.cell? ⟨g1704, 0, none⟩ = some (.int .i64 a3) := blk_cellv (HS.out.at0) 0 rfl; have hc1708 : w1705.cell? ⟨g1704, 1, none⟩ = some (.int .i64 a4) := blk_cellv (HS.out.at0) 1 rfl; have hc1709 : w1705.cell? ⟨g1704, 2, none⟩ = some (.int .i64 a5) := blk_cellv (HS.out.at0) 2 rfl; have hc1710 : w1705.cell? ⟨g1704, 3, none⟩ = some (.int .i64 a6) := blk_cellv (HS.out.at0) 3 rfl))
  clear hc1707 hc1708 hc1709 hc1710
  obtain ⟨t1711, HA1712, H⟩ := bind_some H
  rcases t1711 with t1713 | (t1714 | t1715)
  · have H := sum_l H
    refine (ground_New.calls _ a3 a4 a5 a6 (.inl t1713) _ ⟨HGl0.out.pass (l := []) HS.out⟩ ⟨Sep.start _⟩ HA1712).mono ?_
    rintro e_ w1716 ⟨rfl, hS⟩
    replace HS : Aside0 (Sep (fps []) w [b1 g1704 a3 a4 a5 a6] w1716) := ⟨HS.out.call hS⟩
    clear hS
    replace HS : Aside0 (Sep (fps []) w [] w1716) := ⟨HS.out.sub (.cons _ .slnil)⟩
    go_wp2_with fail
    go_ret3
    rw [← some_eq H]
    exact ⟨(by first | rfl | (simp [IntKind.wrap_u32]; done)), HS.out⟩
  · have H := sum_r H
    have H := sum_l H
    refine (ground_New.calls _ a3 a4 a5 a6 (.inr (.inl t1714)) _ ⟨HGl0.out.pass (l := []) HS.out⟩ ⟨Sep.start _⟩ HA1712).mono ?_
    rintro e_ w1717 ⟨g1721, rfl, g1722, A1723, m1724, n1725, hS⟩
    replace HS : Aside0 (Sep (fps []) w [b7 g1721 g1722 t1714.1 t1714.2.1 t1714.2.2.1 t1714.2.2.2.1, b6 g1722 A1723 m1724 n1725 0, r5 A1723 m1724 n1725 t1714.2.2.2.2, b1 g1704 a3 a4 a5 a6] w1717) := ⟨HS.out.call hS⟩
    clear hS
    obtain rfl := (row_len (HS.out.at2)).symm
    go_wp2_with fail
    obtain ⟨t1727, HA1728, H⟩ := bind_some H
    refine (pool_Open.calls _ t1714.2.2.2.2 0 t1714.1 t1714.2.1 t1714.2.2.1 t1714.2.2.2.1 g1721 g1722 A1723 ((t1714.2.2.2.2).length) n1725 t1727 _ ⟨HGl0.out.pass HS.out⟩ ⟨HS.out.begin⟩ HA1728).mono ?_
    rintro e_ w1729 ⟨rfl, hS⟩
    replace HS : Aside0 (Sep (fps []) w [b7 g1721 g1722 t1714.1 t1714.2.1 t1714.2.2.1 t1714.2.2.2.1, b6 g1722 A1723 ((t1714.2.2.2.2).length) n1725 t1727.2.1, r5 A1723 ((t1714.2.2.2.2).length) n1725 t1727.2.2, b1 g1704 a3 a4 a5 a6] w1729) := ⟨HS.out.call hS⟩
    clear hS
    by_cases c1730 : t1727.1 = true
    · replace H := if_yes c1730 H
      have c1730b0 : t1727.1 = true := c1730
      have c1730b1 : (!t1727.1) = false := by rw [c1730b0]; rfl
      try rw [c1730b1]
      clear c1730
      have hc1731 : w1729.cell? ⟨g1704, 0, none⟩ = some (.int .i64 a3) := blk_cellv (HS.out.at3) 0 rfl
      have hc1732 : w1729.cell? ⟨g1704, 1, none⟩ = some (.int .i64 a4) := blk_cellv (HS.out.at3) 1 rfl
      go_wp2_with fail
      clear hc1731 hc1732
      obtain ⟨t1733, HA1734, H⟩ := bind_some H
      refine (quitrentref12_New.calls _ a3 a4 t1733 _ ⟨HGl0.out.pass (l := []) HS.out⟩ ⟨Sep.start _⟩ HA1734).mono ?_
      rintro e_ w1735 ⟨g1741, rfl, g1742, A1743, m1744, n1745, A1747, m1748, n1749, A1751, m1752, n1753, hS⟩
      replace HS : Aside0 (Sep (fps []) w [b15 g1741 g1742 0 0 0 0 0 0 0 0 0 A1743 m1744 n1745 A1747 m1748 n1749 0, b12 g1742 t1733.1 t1733.2.1 A1751 m1752 n1753, r11 A1743 m1744 n1745 t1733.2.2.1, r11 A1747 m1748 n1749 t1733.2.2.2.1, r11 A1751 m1752 n1753 t1733.2.2.2.2, b7 g1721 g1722 t1714.1 t1714.2.1 t1714.2.2.1 t1714.2.2.2.1, b6 g1722 A1723 ((t1714.2.2.2.2).length) n1725 t1727.2.1, r5 A1723 ((t1714.2.2.2.2).length) n1725 t1727.2.2, b1 g1704 a3 a4 a5 a6] w1735) := ⟨HS.out.call hS⟩
      clear hS
      obtain rfl := (row_len (HS.out.at2)).symm
      obtain rfl := (row_len (HS.out.at3)).symm
      obtain rfl := (row_len (HS.out.at4)).symm
      replace HS : Aside0 (Sep (fps []) w [b15 g1741 g1742 0 0 0 0 0 0 0 0 0 A1743 ((t1733.2.2.1).length) n1745 A1747 ((t1733.2.2.2.1).length) n1749 0, b12 g1742 t1733.1 t1733.2.1 A1751 ((t1733.2.2.2.2).length) n1753, r11 A1743 ((t1733.2.2.1).length) n1745 t1733.2.2.1, r11 A1747 ((t1733.2.2.2.1).length) n1749 t1733.2.2.2.1, r11 A1751 ((t1733.2.2.2.2).length) n1753 t1733.2.2.2.2, b7 g1721 g1722 t1714.1 t1714.2.1 t1714.2.2.1 t1714.2.2.2.1, b6 g1722 A1723 ((t1714.2.2.2.2).length) n1725 t1727.2.1, r5 A1723 ((t1714.2.2.2.2).length) n1725 t1727.2.2] w1735) := ⟨HS.out.sub (.cons_cons _ (.cons_cons _ (.cons_cons _ (.cons_cons _ (.cons_cons _ (.cons_cons _ (.cons_cons _ (.cons_cons _ (.cons _ .slnil)))))))))⟩
      go_wp2_with fail
      go_ret3
      rw [← some_eq H]
      exact ⟨g1721, g1741, (by first | rfl | (simp [IntKind.wrap_u32]; done)), g1722, g1742, A1743, ((t1733.2.2.1).length), n1745, A1747, ((t1733.2.2.2.1).length), n1749, A1723, ((t1714.2.2.2.2).length), n1725, A1751, ((t1733.2.2.2.2).length), n1753, (((((((((HS.out).front 4 (by simp)).front 7 (by simp)).front 5 (by simp)).front 5 (by simp)).front 5 (by simp)).front 7 (by simp)).front 6 (by simp)).front 7 (by simp)).keep (l := [b7 g1721 g1722 t1714.1 t1714.2.1 t1714.2.2.1 t1714.2.2.2.1, b15 g1741 g1742 0 0 0 0 0 0 0 0 0 A1743 ((t1733.2.2.1).length) n1745 A1747 ((t1733.2.2.2.1).length) n1749 0, b6 g1722 A1723 ((t1714.2.2.2.2).length) n1725 t1727.2.1, b12 g1742 t1733.1 t1733.2.1 A1751 ((t1733.2.2.2.2).length) n1753, r11 A1743 ((t1733.2.2.1).length) n1745 t1733.2.2.1, r11 A1747 ((t1733.2.2.2.1).length) n1749 t1733.2.2.2.1, r5 A1723 ((t1714.2.2.2.2).length) n1725 t1727.2.2, r11 A1751 ((t1733.2.2.2.2).length) n1753 t1733.2.2.2.2]) (rest := [])⟩
    · replace H := if_no c1730 H
      have c1730b0 : t1727.1 = false := by simpa using c1730
      have c1730b1 : (!t1727.1) = true := by rw [c1730b0]; rfl
      try rw [c1730b1]
      clear c1730
      replace HS : Aside0 (Sep (fps []) w [] w1729) := ⟨HS.out.sub (.cons _ (.cons _ (.cons _ (.cons _ .slnil))))⟩
      go_wp2_with fail
      go_ret3
      rw [← some_eq H]
      exact ⟨(by first | rfl | (simp [IntKind.wrap_u32]; done)), HS.out⟩
  · have H := sum_r H
    have H := sum_r H
    refine (ground_New.calls _ a3 a4 a5 a6 (.inr (.inr t1715)) _ ⟨HGl0.out.pass (l := []) HS.out⟩ ⟨Sep.start _⟩ HA1712).mono ?_
    rintro e_ w1783 ⟨rfl, hS⟩
    replace HS : Aside0 (Sep (fps []) w [b1 g1704 a3 a4 a5 a6] w1783) := ⟨HS.out.call hS⟩
    clear hS
    by_cases c1784 : t1715 = 0
    · replace H := if_yes c1784 H
      have c1784b0 : (t1715 == 0) = true := beq_iff_eq.mpr c1784
      have c1784b1 : (t1715 != 0) = false := bne_eq_false_iff_eq.mpr c1784
      clear c1784
      exact (none_no H).elim
    · replace H := if_no c1784 H
      have c1784b0 : (t1715 == 0) = false := beq_eq_false_iff_ne.mpr c1784
      have c1784b1 : (t1715 != 0) = true := bne_iff_ne.mpr c1784
      clear c1784
      replace HS : Aside0 (Sep (fps []) w [] w1783) := ⟨HS.out.sub (.cons _ .slnil)⟩
      go_wp2_with fail
      go_ret3
      rw [← some_eq H]
      exact ⟨(by first | rfl | (simp [IntKind.wrap_u32]; done)), HS.out⟩

set_option maxHeartbeats 30000000 in
set_option maxRecDepth 100000 in
theorem shape_isWidth.calls (a1881 : Int) (r : Bool) (w : World)  (HGl0 : Aside0 (Gl 0 #[.int .i64 0, .int .i64 0, .int .i64 0, .int .i64 0, .int .i64 0] (fps []) w)) (HS : Aside0 (Sep (fps []) w [] w)) (H : Aside0 (shape_isWidth.f a1881 = some r)) :
    Calls Tryd.prog 144 #[.int .i64 a1881] w fun e w' => e = .returned (.bool r) ∧ Sep (fps []) w [] w' := by
  unfold shape_isWidth.f at H
  go_enter Tryd.func144, Tryd.ntmps144
  by_cases c1882 : a1881 ≥ 16
  · replace H := if_yes c1882 H
    have c1882b0 : decide (16 ≤ a1881) = true := decide_eq_true c1882
    clear c1882
    go_wp2_with fail
    go_ret
    rw [← some_eq H]
    exact ⟨(by first | rfl | (simp [IntKind.wrap_u32]; done)), HS.out⟩
  · replace H := if_no c1882 H
    have c1882b0 : decide (16 ≤ a1881) = false := decide_eq_false c1882
    clear c1882
    go_wp2_with fail
    go_ret
    rw [← some_eq H]
    exact ⟨(by first | rfl | (simp [IntKind.wrap_u32]; done)), HS.out⟩

set_option maxHeartbeats 30000000 in
set_option maxRecDepth 100000 in
theorem shape_inHead.calls (a1888 : Int) (r : Int) (w : World)  (HGl0 : Aside0 (Gl 0 #[.int .i64 0, .int .i64 0, .int .i64 0, .int .i64 0, .int .i64 0] (fps []) w)) (HS : Aside0 (Sep (fps []) w [] w)) (H : Aside0 (shape_inHead.f a1888 = some r)) :
    Calls Tryd.prog 146 #[.int .i64 a1888] w fun e w' => e = .returned (.int .i64 r) ∧ Sep (fps []) w [] w' := by
  unfold shape_inHead.f at H
  go_enter Tryd.func146, Tryd.ntmps146
  go_wp2_with fail
  go_ret
  rw [← some_eq H]
  exact ⟨(by first | rfl | (simp [IntKind.wrap_u32]; done)), HS.out⟩

set_option maxHeartbeats 30000000 in
set_option maxRecDepth 100000 in
theorem shape_inLeaf.calls (a1892 : Int) (r : Int) (w : World)  (HGl0 : Aside0 (Gl 0 #[.int .i64 0, .int .i64 0, .int .i64 0, .int .i64 0, .int .i64 0] (fps []) w)) (HS : Aside0 (Sep (fps []) w [] w)) (H : Aside0 (shape_inLeaf.f a1892 = some r)) :
    Calls Tryd.prog 120 #[.int .i64 a1892] w fun e w' => e = .returned (.int .i64 r) ∧ Sep (fps []) w [] w' := by
  unfold shape_inLeaf.f at H
  go_enter Tryd.func120, Tryd.ntmps120
  go_wp2_with fail
  go_ret
  rw [← some_eq H]
  exact ⟨(by first | rfl | (simp [IntKind.wrap_u32]; done)), HS.out⟩

set_option maxHeartbeats 30000000 in
set_option maxRecDepth 100000 in
theorem shape_most.calls (a1887 : Int) (r : Int) (w : World)  (HGl0 : Aside0 (Gl 0 #[.int .i64 0, .int .i64 0, .int .i64 0, .int .i64 0, .int .i64 0] (fps []) w)) (HS : Aside0 (Sep (fps []) w [] w)) (H : Aside0 (shape_most.f a1887 = some r)) :
    Calls Tryd.prog 145 #[.int .i64 a1887] w fun e w' => e = .returned (.int .i64 r) ∧ Sep (fps []) w [] w' := by
  unfold shape_most.f at H
  go_enter Tryd.func145, Tryd.ntmps145
  go_wp2_with fail
  obtain ⟨t1889, HA1890, H⟩ := bind_some H
  refine (shape_inHead.calls a1887 t1889 _ ⟨HGl0.out.pass (l := []) HS.out⟩ ⟨Sep.start _⟩ HA1890).mono ?_
  rintro e_ w1891 ⟨rfl, hS⟩
  replace HS : Aside0 (Sep (fps []) w [] w1891) := ⟨HS.out.call hS⟩
  clear hS
  go_wp2_with fail
  obtain ⟨t1893, HA1894, H⟩ := bind_some H
  refine (shape_inLeaf.calls a1887 t1893 _ ⟨HGl0.out.pass (l := []) HS.out⟩ ⟨Sep.start _⟩ HA1894).mono ?_
  rintro e_ w1895 ⟨rfl, hS⟩
  replace HS : Aside0 (Sep (fps []) w [] w1895) := ⟨HS.out.call hS⟩
  clear hS
  go_wp2_with fail
  go_ret
  rw [← some_eq H]
  exact ⟨(by first | rfl | (simp [IntKind.wrap_u32]; done)), HS.out⟩

set_option maxHeartbeats 30000000 in
set_option maxRecDepth 100000 in
theorem shape_wrong.calls (k : Nat) (a1876 : Int) (l1877 : List Int) (A1878 : Option Addr) (n1879 : Nat) (r : Int) (w : World) (HR1880 : Aside0 (Rd (Kd.int .i64) (fps []) w A1878 l1877.length l1877)) (HGl0 : Aside0 (Gl 0 #[.int .i64 0, .int .i64 0, .int .i64 0, .int .i64 0, .int .i64 0] (fps []) w)) (HS : Aside0 (Sep (fps []) w [] w)) (H : Aside0 (shape_wrong.f k a1876 l1877 = some r)) :
    Calls Tryd.prog 118 #[.int .i64 a1876, .slice A1878 l1877.length n1879] w fun e w' => e = .returned (.int .i64 r) ∧ Sep (fps []) w [] w' := by
  unfold shape_wrong.f at H
  go_enter Tryd.func118, Tryd.ntmps118
  go_wp2_with fail
  obtain ⟨t1883, HA1884, H⟩ := bind_some H
  refine (shape_isWidth.calls a1876 t1883 _ ⟨HGl0.out.pass (l := []) HS.out⟩ ⟨Sep.start _⟩ HA1884).mono ?_
  rintro e_ w1885 ⟨rfl, hS⟩
  replace HS : Aside0 (Sep (fps []) w [] w1885) := ⟨HS.out.call hS⟩
  clear hS
  by_cases c1886 : t1883 = true
  · replace H := if_yes c1886 H
    have c1886b0 : t1883 = true := c1886
    have c1886b1 : (!t1883) = false := by rw [c1886b0]; rfl
    try rw [c1886b1]
    clear c1886
    go_wp2_with fail
    obtain ⟨t1896, HA1897, H⟩ := bind_some H
    refine (shape_most.calls a1876 t1896 _ ⟨HGl0.out.pass (l := []) HS.out⟩ ⟨Sep.start _⟩ HA1897).mono ?_
    rintro e_ w1898 ⟨rfl, hS⟩
    replace HS : Aside0 (Sep (fps []) w [] w1898) := ⟨HS.out.call hS⟩
    clear hS
    go_wp2_with fail
    obtain ⟨o1911, AL1912, H⟩ := bind_some H
    go_loopg [5, 15] k (fun kq v5 v15 wc => ∃ (x1915 : Int) (x1916 : Int), v5 = .int .i64 x1915 ∧ v15 = .int .i64 x1916 ∧ Aside0 (shape_wrong.lo0 kq l1877 x1915 x1916 = some o1911) ∧ Aside0 (Sep (fps []) w [] wc))
    case atStart => exact ⟨(t1896), (0), (by first | rfl | (simp [IntKind.wrap_u32]; done)), (by first | rfl | (simp [IntKind.wrap_u32]; done)), AL1912, ⟨HS.out⟩⟩
    case round =>
      clear AL1912 HS
      obtain ⟨x1915, x1916, rfl, rfl, AL1912, HS⟩ := hrel
      obtain ⟨w1913, rfl⟩ : ∃ x : World, x = wr := ⟨_, rfl⟩
      cases gk with
      | zero => exact absurd AL1912.out (by simp [shape_wrong.lo0])
      | succ k1914 =>
        have AL0 := AL1912.out
        rw [shape_wrong.lo0] at AL0
        clear AL1912
        have AL1912 := Aside0.mk AL0
        clear AL0
        by_cases c1917 : x1916 < (l1877.length : Int)
        · replace AL1912 := if_yes c1917 AL1912
          have c1917b0 : decide (x1916 < (l1877.length : Int)) = true := decide_eq_true c1917
          clear c1917
          by_cases c1918 : 0 ≤ x1916
          · replace AL1912 := if_yes c1918 AL1912
            have c1918b0 : decide (0 ≤ x1916) = true := decide_eq_true c1918
            have c1918p : (0 ≤ x1916) = True := eq_true c1918
            clear c1918
            have ip1919 : (x1916 < (l1877.length : Int)) = True := eq_true (of_decide_eq_true c1917b0)
            by_cases c1921 : (rd l1877 x1916) < 0
            · replace AL1912 := if_yes c1921 AL1912
              have c1921b0 : decide ((rd l1877 x1916) < 0) = true := decide_eq_true c1921
              clear c1921
              obtain ⟨hx1920a, hx1920e, hx1920⟩ := Kd.at_int (Rd.read (fun _ _ _ _ h => h) HR1880.out HS.out.fr) x1916 (of_decide_eq_true c1918b0) (of_decide_eq_true c1917b0); cases hx1920e
              go_wp2_with fail
              clear hx1920
              have ho := some_eq AL1912
              subst ho
              have H := lp_ret H
              go_ret
              rw [← some_eq H]
              exact ⟨(by first | rfl | (simp [IntKind.wrap_u32]; done)), HS.out⟩
            · replace AL1912 := if_no c1921 AL1912
              have c1921b0 : decide ((rd l1877 x1916) < 0) = false := decide_eq_false c1921
              clear c1921
              by_cases c1922 : (rd l1877 x1916) > x1915
              · replace AL1912 := if_yes c1922 AL1912
                have c1922b0 : decide (x1915 < (rd l1877 x1916)) = true := decide_eq_true c1922
                clear c1922
                obtain ⟨hx1920a, hx1920e, hx1920⟩ := Kd.at_int (Rd.read (fun _ _ _ _ h => h) HR1880.out HS.out.fr) x1916 (of_decide_eq_true c1918b0) (of_decide_eq_true c1917b0); cases hx1920e
                go_wp2_with fail
                clear hx1920
                have ho := some_eq AL1912
                subst ho
                have H := lp_ret H
                go_ret
                rw [← some_eq H]
                exact ⟨(by first | rfl | (simp [IntKind.wrap_u32]; done)), HS.out⟩
              · replace AL1912 := if_no c1922 AL1912
                have c1922b0 : decide (x1915 < (rd l1877 x1916)) = false := decide_eq_false c1922
                clear c1922
                obtain ⟨hx1920a, hx1920e, hx1920⟩ := Kd.at_int (Rd.read (fun _ _ _ _ h => h) HR1880.out HS.out.fr) x1916 (of_decide_eq_true c1918b0) (of_decide_eq_true c1917b0); cases hx1920e
                go_wp2_with fail
                clear hx1920
                go_roundg k1914
                case measure => exact Nat.lt_succ_self _
                case rel => exact ⟨(wrap64 (x1915 - (rd l1877 x1916))), (wrap64 (x1916 + 1)), (by first | rfl | (simp [IntKind.wrap_u32]; done)), (by first | rfl | (simp [IntKind.wrap_u32]; done)), Aside0.mk AL1912.out, ⟨HS.out⟩⟩
          · replace AL1912 := if_no c1918 AL1912
            have c1918b0 : decide (0 ≤ x1916) = false := decide_eq_false c1918
            clear c1918
            exact (none_no AL1912).elim
        · replace AL1912 := if_no c1917 AL1912
          have c1917b0 : decide (x1916 < (l1877.length : Int)) = false := decide_eq_false c1917
          clear c1917
          have ho := some_eq AL1912
          subst ho
          clear AL1912
          have H := lp_out H
          go_wp2_with fail
          go_ret
          rw [← some_eq H]
          exact ⟨(by first | rfl | (simp [IntKind.wrap_u32]; done)), HS.out⟩
  · replace H := if_no c1886 H
    have c1886b0 : t1883 = false := by simpa using c1886
    have c1886b1 : (!t1883) = true := by rw [c1886b0]; rfl
    try rw [c1886b1]
    clear c1886
    go_wp2_with fail
    go_ret
    rw [← some_eq H]
    exact ⟨(by first | rfl | (simp [IntKind.wrap_u32]; done)), HS.out⟩

set_option maxHeartbeats 30000000 in
set_option maxRecDepth 100000 in
theorem shape_leaves.calls (a1928 : Int) (a1929 : Int) (r : Int) (w : World)  (HGl0 : Aside0 (Gl 0 #[.int .i64 0, .int .i64 0, .int .i64 0, .int .i64 0, .int .i64 0] (fps []) w)) (HS : Aside0 (Sep (fps []) w [] w)) (H : Aside0 (shape_leaves.f a1928 a1929 = some r)) :
    Calls Tryd.prog 119 #[.int .i64 a1928, .int .i64 a1929] w fun e w' => e = .returned (.int .i64 r) ∧ Sep (fps []) w [] w' := by
  unfold shape_leaves.f at H
  go_enter Tryd.func119, Tryd.ntmps119
  go_wp2_with fail
  obtain ⟨t1930, HA1931, H⟩ := bind_some H
  refine (shape_inHead.calls a1928 t1930 _ ⟨HGl0.out.pass (l := []) HS.out⟩ ⟨Sep.start _⟩ HA1931).mono ?_
  rintro e_ w1932 ⟨rfl, hS⟩
  replace HS : Aside0 (Sep (fps []) w [] w1932) := ⟨HS.out.call hS⟩
  clear hS
  by_cases c1933 : a1929 ≤ t1930
  · replace H := if_yes c1933 H
    have c1933b0 : decide (a1929 ≤ t1930) = true := decide_eq_true c1933
    clear c1933
    go_wp2_with fail
    go_ret
    rw [← some_eq H]
    exact ⟨(by first | rfl | (simp [IntKind.wrap_u32]; done)), HS.out⟩
  · replace H := if_no c1933 H
    have c1933b0 : decide (a1929 ≤ t1930) = false := decide_eq_false c1933
    clear c1933
    go_wp2_with fail
    obtain ⟨t1934, HA1935, H⟩ := bind_some H
    refine (shape_inLeaf.calls a1928 t1934 _ ⟨HGl0.out.pass (l := []) HS.out⟩ ⟨Sep.start _⟩ HA1935).mono ?_
    rintro e_ w1936 ⟨rfl, hS⟩
    replace HS : Aside0 (Sep (fps []) w [] w1936) := ⟨HS.out.call hS⟩
    clear hS
    go_wp2_with fail
    obtain ⟨t1937, HA1938, H⟩ := bind_some H
    refine (ratio_Up.calls a1929 t1934 t1937 _ ⟨HGl0.out.pass (l := []) HS.out⟩ ⟨Sep.start _⟩ HA1938).mono ?_
    rintro e_ w1939 ⟨rfl, hS⟩
    replace HS : Aside0 (Sep (fps []) w [] w1939) := ⟨HS.out.call hS⟩
    clear hS
    go_wp2_with fail
    go_ret
    rw [← some_eq H]
    exact ⟨(by first | rfl | (simp [IntKind.wrap_u32]; done)), HS.out⟩

set_option maxHeartbeats 30000000 in
set_option maxRecDepth 100000 in
theorem shape_Blocks.calls (k : Nat) (a1870 : Int) (a1871 : Int) (a1872 : Int) (r : Int × Int) (w : World)  (HGl0 : Aside0 (Gl 0 #[.int .i64 0, .int .i64 0, .int .i64 0, .int .i64 0, .int .i64 0] (fps []) w)) (HS : Aside0 (Sep (fps []) w [] w)) (H : Aside0 (shape_Blocks.f k a1870 a1871 a1872 = some r)) :
    Calls Tryd.prog 97 #[.int .i64 a1870, .int .i64 a1871, .int .i64 a1872] w fun e w' => e = .returned (.tuple #[.int .i64 r.1, .int .i64 r.2]) ∧ Sep (fps []) w [] w' := by
  unfold shape_Blocks.f at H
  go_enter Tryd.func97, Tryd.ntmps97
  go_wp2_with (first | ((with_reducible refine gate_dst (N := 12) rfl ?_); refine slice_on (n := 2) ?hg (N := 12) ?hd (cs := #[.int .i64 a1871, .int .i64 a1872]) (t := 3) ?hr ?_; (case hd => rfl); (case hg => rfl); (case hr => first | (go_simp; done) | (go_simp; rfl)); intro g1873 hg w1874 hbox hb; replace HS : Aside0 (Sep (fps []) w [b3 g1873 a1871 a1872] w1874) := ⟨HS.out.box hg hbox hb⟩; clear hg hbox hb))
  obtain ⟨t1924, HA1925, H⟩ := bind_some H
  refine (shape_wrong.calls _ a1870 [a1871, a1872] (some ⟨g1873, 0, none⟩) 2 t1924 _ ⟨Rd.lit (l := []) (xs := [a1871, a1872]) HS.out 0 rfl (by simp)⟩ ⟨HGl0.out.pass (l := []) HS.out⟩ ⟨Sep.start _⟩ HA1925).mono ?_
  rintro e_ w1926 ⟨rfl, hS⟩
  replace HS : Aside0 (Sep (fps []) w [b3 g1873 a1871 a1872] w1926) := ⟨HS.out.call hS⟩
  clear hS
  by_cases c1927 : t1924 = 0
  · replace H := if_yes c1927 H
    have c1927b0 : (t1924 == 0) = true := beq_iff_eq.mpr c1927
    have c1927b1 : (t1924 != 0) = false := bne_eq_false_iff_eq.mpr c1927
    clear c1927
    replace HS : Aside0 (Sep (fps []) w [] w1926) := ⟨HS.out.sub (.cons _ .slnil)⟩
    go_wp2_with fail
    obtain ⟨t1940, HA1941, H⟩ := bind_some H
    refine (shape_leaves.calls a1870 (wrap64 (a1871 + a1872)) t1940 _ ⟨HGl0.out.pass (l := []) HS.out⟩ ⟨Sep.start _⟩ HA1941).mono ?_
    rintro e_ w1942 ⟨rfl, hS⟩
    replace HS : Aside0 (Sep (fps []) w [] w1942) := ⟨HS.out.call hS⟩
    clear hS
    go_wp2_with fail
    go_ret2
    rw [← some_eq H]
    exact ⟨(by first | rfl | (simp [IntKind.wrap_u32]; done)), HS.out⟩
  · replace H := if_no c1927 H
    have c1927b0 : (t1924 == 0) = false := beq_eq_false_iff_ne.mpr c1927
    have c1927b1 : (t1924 != 0) = true := bne_iff_ne.mpr c1927
    clear c1927
    replace HS : Aside0 (Sep (fps []) w [] w1926) := ⟨HS.out.sub (.cons _ .slnil)⟩
    go_wp2_with fail
    go_ret2
    rw [← some_eq H]
    exact ⟨(by first | rfl | (simp [IntKind.wrap_u32]; done)), HS.out⟩

set_option maxHeartbeats 30000000 in
set_option maxRecDepth 100000 in
theorem pool_Len.calls (l1952 : List Int) (a1957 : Int) (a1958 : Int) (a1959 : Int) (a1960 : Int) (a1961 : Int) (g1948 : Nat) (g1950 : Nat) (A1953 : Option Addr) (m1954 : Nat) (n1955 : Nat) (r : Int × Int) (w : World)  (HGl0 : Aside0 (Gl 0 #[.int .i64 0, .int .i64 0, .int .i64 0, .int .i64 0, .int .i64 0] (fps [b7 g1948 g1950 a1958 a1959 a1960 a1961, b6 g1950 A1953 m1954 n1955 a1957, r5 A1953 m1954 n1955 l1952]) w)) (HS : Aside0 (Sep (fps [b7 g1948 g1950 a1958 a1959 a1960 a1961, b6 g1950 A1953 m1954 n1955 a1957, r5 A1953 m1954 n1955 l1952]) w [b7 g1948 g1950 a1958 a1959 a1960 a1961, b6 g1950 A1953 m1954 n1955 a1957, r5 A1953 m1954 n1955 l1952] w)) (H : Aside0 (pool_Len.f l1952 a1957 a1958 a1959 a1960 a1961 = some r)) :
    Calls Tryd.prog 44 #[.pointer (some ⟨g1948, 0, none⟩)] w fun e w' => e = .returned (.int .i64 r.1) ∧ Sep (fps [b7 g1948 g1950 a1958 a1959 a1960 a1961, b6 g1950 A1953 m1954 n1955 a1957, r5 A1953 m1954 n1955 l1952]) w [b7 g1948 g1950 a1958 a1959 a1960 a1961, b6 g1950 A1953 m1954 n1955 r.2, r5 A1953 m1954 n1955 l1952] w' := by
  generalize (fps [b7 g1948 g1950 a1958 a1959 a1960 a1961, b6 g1950 A1953 m1954 n1955 a1957, r5 A1953 m1954 n1955 l1952]) = FF at HS HGl0 ⊢
  obtain rfl := (row_len (HS.out.at2)).symm
  unfold pool_Len.f at H
  go_enter Tryd.func44, Tryd.ntmps44
  go_wp2_with fail
  obtain ⟨t1965, HA1966, H⟩ := bind_some H
  refine (chain_Len.calls l1952 a1957 a1958 a1959 a1960 a1961 0 g1948 g1950 A1953 l1952.length n1955 t1965 _ ⟨HGl0.out.pass HS.out⟩ ⟨HS.out.begin⟩ HA1966).mono ?_
  rintro e_ w1967 ⟨rfl, hS⟩
  replace HS : Aside0 (Sep FF w [b7 g1948 g1950 a1958 a1959 a1960 a1961, b6 g1950 A1953 l1952.length n1955 t1965.2, r5 A1953 l1952.length n1955 l1952] w1967) := ⟨HS.out.call hS⟩
  clear hS
  go_wp2_with fail
  go_ret
  rw [← some_eq H]
  exact ⟨(by first | rfl | (simp [IntKind.wrap_u32]; done)), HS.out⟩

set_option maxHeartbeats 30000000 in
set_option maxRecDepth 100000 in
theorem ground_Ground_Word.calls (l2058 : List Int) (a2063 : Int) (a2064 : Int) (a2065 : Int) (a2066 : Int) (a2067 : Int) (a2068 : Int) (a2069 : Int) (g2054 : Nat) (g2056 : Nat) (A2059 : Option Addr) (m2060 : Nat) (n2061 : Nat) (r : Int × Int) (w : World)  (HGl0 : Aside0 (Gl 0 #[.int .i64 0, .int .i64 0, .int .i64 0, .int .i64 0, .int .i64 0] (fps [b7 g2054 g2056 a2064 a2065 a2066 a2067, b6 g2056 A2059 m2060 n2061 a2063, r5 A2059 m2060 n2061 l2058]) w)) (HS : Aside0 (Sep (fps [b7 g2054 g2056 a2064 a2065 a2066 a2067, b6 g2056 A2059 m2060 n2061 a2063, r5 A2059 m2060 n2061 l2058]) w [b7 g2054 g2056 a2064 a2065 a2066 a2067, b6 g2056 A2059 m2060 n2061 a2063, r5 A2059 m2060 n2061 l2058] w)) (H : Aside0 (ground_Ground_Word.f l2058 a2063 a2064 a2065 a2066 a2067 a2068 a2069 = some r)) :
    Calls Tryd.prog 84 #[.pointer (some ⟨g2054, 0, none⟩), .int .i64 a2068, .int .i64 a2069] w fun e w' => e = .returned (.int .u32 r.1) ∧ Sep (fps [b7 g2054 g2056 a2064 a2065 a2066 a2067, b6 g2056 A2059 m2060 n2061 a2063, r5 A2059 m2060 n2061 l2058]) w [b7 g2054 g2056 a2064 a2065 a2066 a2067, b6 g2056 A2059 m2060 n2061 r.2, r5 A2059 m2060 n2061 l2058] w' := by
  generalize (fps [b7 g2054 g2056 a2064 a2065 a2066 a2067, b6 g2056 A2059 m2060 n2061 a2063, r5 A2059 m2060 n2061 l2058]) = FF at HS HGl0 ⊢
  obtain rfl := (row_len (HS.out.at2)).symm
  unfold ground_Ground_Word.f at H
  go_enter Tryd.func84, Tryd.ntmps84
  go_wp2_with fail
  obtain ⟨t2079, HA2080, H⟩ := bind_some H
  refine (ground_Ground_all.calls l2058 a2063 a2064 a2065 a2066 a2067 g2054 g2056 A2059 l2058.length n2061 t2079 _ ⟨HGl0.out.pass HS.out⟩ ⟨HS.out.begin⟩ HA2080).mono ?_
  rintro e_ w2081 ⟨rfl, hS⟩
  replace HS : Aside0 (Sep FF w [b7 g2054 g2056 a2064 a2065 a2066 a2067, b6 g2056 A2059 l2058.length n2061 a2063, r5 A2059 l2058.length n2061 l2058] w2081) := ⟨HS.out.call hS⟩
  clear hS
  go_wp2_with fail
  obtain ⟨t2082, HA2083, H⟩ := bind_some H
  refine (ground_Ground_word.calls l2058 a2063 a2064 a2065 a2066 a2067 a2068 a2069 g2054 g2056 A2059 l2058.length n2061 t2082 _ ⟨HGl0.out.pass HS.out⟩ ⟨HS.out.begin⟩ HA2083).mono ?_
  rintro e_ w2084 ⟨rfl, hS⟩
  replace HS : Aside0 (Sep FF w [b7 g2054 g2056 a2064 a2065 a2066 a2067, b6 g2056 A2059 l2058.length n2061 a2063, r5 A2059 l2058.length n2061 l2058] w2084) := ⟨HS.out.call hS⟩
  clear hS
  go_wp2_with fail
  replace HS : Aside0 (Sep FF w [r5 A2059 l2058.length n2061 l2058, b7 g2054 g2056 a2064 a2065 a2066 a2067, b6 g2056 A2059 l2058.length n2061 a2063] w2084) := ⟨HS.out.front 2 (by simp)⟩
  replace HS : Aside0 (Sep FF w [b6 g2056 A2059 l2058.length n2061 a2063, r5 A2059 l2058.length n2061 l2058, b7 g2054 g2056 a2064 a2065 a2066 a2067] w2084) := ⟨HS.out.front 2 (by simp)⟩
  obtain ⟨t2085, HA2086, H⟩ := bind_some H
  refine (store_Store_Get.calls l2058 a2063 t2082 g2056 A2059 l2058.length n2061 t2085 _ ⟨HGl0.out.pass HS.out⟩ ⟨HS.out.begin⟩ HA2086).mono ?_
  rintro e_ w2087 ⟨rfl, hS⟩
  replace HS : Aside0 (Sep FF w [b6 g2056 A2059 l2058.length n2061 t2085.2, r5 A2059 l2058.length n2061 l2058, b7 g2054 g2056 a2064 a2065 a2066 a2067] w2087) := ⟨HS.out.call hS⟩
  clear hS
  go_wp2_with fail
  go_ret
  rw [← some_eq H]
  exact ⟨(by first | rfl | (simp [IntKind.wrap_u32]; done)), ((((HS.out).front 1 (by simp)).front 1 (by simp)).front 2 (by simp)).keep (l := [b7 g2054 g2056 a2064 a2065 a2066 a2067, b6 g2056 A2059 l2058.length n2061 t2085.2, r5 A2059 l2058.length n2061 l2058]) (rest := [])⟩

set_option maxHeartbeats 30000000 in
set_option maxRecDepth 100000 in
theorem chain_Take.calls (l2004 : List Int) (a2009 : Int) (a2010 : Int) (a2011 : Int) (a2012 : Int) (a2013 : Int) (a2014 : Int) (g2000 : Nat) (g2002 : Nat) (A2005 : Option Addr) (m2006 : Nat) (n2007 : Nat) (r : Int × Bool × Int × List Int) (w : World)  (HGl0 : Aside0 (Gl 0 #[.int .i64 0, .int .i64 0, .int .i64 0, .int .i64 0, .int .i64 0] (fps [b7 g2000 g2002 a2010 a2011 a2012 a2013, b6 g2002 A2005 m2006 n2007 a2009, r5 A2005 m2006 n2007 l2004]) w)) (HS : Aside0 (Sep (fps [b7 g2000 g2002 a2010 a2011 a2012 a2013, b6 g2002 A2005 m2006 n2007 a2009, r5 A2005 m2006 n2007 l2004]) w [b7 g2000 g2002 a2010 a2011 a2012 a2013, b6 g2002 A2005 m2006 n2007 a2009, r5 A2005 m2006 n2007 l2004] w)) (H : Aside0 (chain_Take.f l2004 a2009 a2010 a2011 a2012 a2013 a2014 = some r)) :
    Calls Tryd.prog 135 #[.pointer (some ⟨g2000, 0, none⟩), .int .i64 a2014] w fun e w' => e = .returned (.tuple #[.int .i64 r.1, .bool r.2.1]) ∧ Sep (fps [b7 g2000 g2002 a2010 a2011 a2012 a2013, b6 g2002 A2005 m2006 n2007 a2009, r5 A2005 m2006 n2007 l2004]) w [b7 g2000 g2002 a2010 a2011 a2012 a2013, b6 g2002 A2005 m2006 n2007 r.2.2.1, r5 A2005 m2006 n2007 r.2.2.2] w' := by
  generalize (fps [b7 g2000 g2002 a2010 a2011 a2012 a2013, b6 g2002 A2005 m2006 n2007 a2009, r5 A2005 m2006 n2007 l2004]) = FF at HS HGl0 ⊢
  obtain rfl := (row_len (HS.out.at2)).symm
  unfold chain_Take.f at H
  go_enter Tryd.func135, Tryd.ntmps135
  go_wp2_with fail
  obtain ⟨t2111, HA2112, H⟩ := bind_some H
  refine (chain_of.calls l2004 a2009 a2010 a2011 a2012 a2013 a2014 g2000 g2002 A2005 l2004.length n2007 t2111 _ ⟨HGl0.out.pass HS.out⟩ ⟨HS.out.begin⟩ HA2112).mono ?_
  rintro e_ w2113 ⟨rfl, hS⟩
  replace HS : Aside0 (Sep FF w [b7 g2000 g2002 a2010 a2011 a2012 a2013, b6 g2002 A2005 l2004.length n2007 a2009, r5 A2005 l2004.length n2007 l2004] w2113) := ⟨HS.out.call hS⟩
  clear hS
  by_cases c2124 : t2111.2.2.2 = true
  · replace H := if_yes c2124 H
    have c2124b0 : t2111.2.2.2 = true := c2124
    have c2124b1 : (!t2111.2.2.2) = false := by rw [c2124b0]; rfl
    try rw [c2124b1]
    clear c2124
    go_wp2_with (first | ((with_reducible refine gate_dst (N := 6) rfl ?_); refine box_on ?hg (N := 6) ?hd (cs := #[.int .i64 0, .int .i64 0, .int .i64 0]) (t := 166) ?hr ?_; (case hd => rfl); (case hg => rfl); (case hr => first | (go_simp; done) | (go_simp; rfl)); intro g2114 hg w2115 hbox hb; replace HS : Aside0 (Sep FF w [b7 g2000 g2002 a2010 a2011 a2012 a2013, b6 g2002 A2005 l2004.length n2007 a2009, r5 A2005 l2004.length n2007 l2004, b8 g2114 0 0 0] w2115) := ⟨HS.out.box hg hbox hb⟩; clear hg hbox hb; have hc2117 : w2115.cell? ⟨g2114, 0, none⟩ = some (.int .i64 0) := blk_cellv (HS.out.at3) 0 rfl; have hz2118 : w2115.frozen? ⟨g2114, 0, none⟩ = false := blk_fz (HS.out.at3) 0; have hc2119 : w2115.cell? ⟨g2114, 1, none⟩ = some (.int .i64 0) := blk_cellv (HS.out.at3) 1 rfl; have hz2120 : w2115.frozen? ⟨g2114, 1, none⟩ = false := blk_fz (HS.out.at3) 1; have hc2121 : w2115.cell? ⟨g2114, 2, none⟩ = some (.int .i64 0) := blk_cellv (HS.out.at3) 2 rfl; have hz2122 : w2115.frozen? ⟨g2114, 2, none⟩ = false := blk_fz (HS.out.at3) 2) | ((with_reducible refine gate_store (t := 166) (p := 6) rfl ?_); refine store_event (w1 := (World.setCell (World.setCell (World.setCell w2115 ⟨g2114, 0, none⟩ (.int .i64 t2111.1)) ⟨g2114, 1, none⟩ (.int .i64 t2111.2.1)) ⟨g2114, 2, none⟩ (.int .i64 t2111.2.2.1))) rfl (t := 166) (p := 6) rfl rfl ?hr ?_; (case hr => first | (go_simp; done) | (go_simp; rfl)); intro w2123 hst; clear hc2117 hz2118 hc2119 hz2120 hc2121 hz2122; replace HS : Aside0 (Sep FF w [b7 g2000 g2002 a2010 a2011 a2012 a2013, b6 g2002 A2005 l2004.length n2007 a2009, r5 A2005 l2004.length n2007 l2004, b8 g2114 t2111.1 t2111.2.1 t2111.2.2.1] w2123) := ⟨by rw [hst]; exact HS.out.setAll (l1 := [b7 g2000 g2002 a2010 a2011 a2012 a2013, b6 g2002 A2005 l2004.length n2007 a2009, r5 A2005 l2004.length n2007 l2004]) (l2 := []) [.int .i64 t2111.1, .int .i64 t2111.2.1, .int .i64 t2111.2.2.1] rfl⟩; clear hst; have hc2125 : w2123.cell? ⟨g2114, 0, none⟩ = some (.int .i64 t2111.1) := blk_cellv (HS.out.at3) 0 rfl))
    clear hc2125
    obtain ⟨t2126, HA2127, H⟩ := bind_some H
    refine (ground_Ground_Reg.calls l2004 a2009 a2010 a2011 a2012 a2013 t2111.1 g2000 g2002 A2005 l2004.length n2007 t2126 _ ⟨HGl0.out.pass HS.out⟩ ⟨HS.out.begin⟩ HA2127).mono ?_
    rintro e_ w2128 ⟨rfl, hS⟩
    replace HS : Aside0 (Sep FF w [b7 g2000 g2002 a2010 a2011 a2012 a2013, b6 g2002 A2005 l2004.length n2007 t2126.2, r5 A2005 l2004.length n2007 l2004, b8 g2114 t2111.1 t2111.2.1 t2111.2.2.1] w2128) := ⟨HS.out.call hS⟩
    clear hS
    by_cases c2129 : t2126.1 = 0
    · replace H := if_yes c2129 H
      have c2129b0 : (t2126.1 == 0) = true := beq_iff_eq.mpr c2129
      have c2129b1 : (t2126.1 != 0) = false := bne_eq_false_iff_eq.mpr c2129
      clear c2129
      replace HS : Aside0 (Sep FF w [b7 g2000 g2002 a2010 a2011 a2012 a2013, b6 g2002 A2005 l2004.length n2007 t2126.2, r5 A2005 l2004.length n2007 l2004] w2128) := ⟨HS.out.sub (.cons_cons _ (.cons_cons _ (.cons_cons _ (.cons _ .slnil))))⟩
      go_wp2_with fail
      go_ret2
      rw [← some_eq H]
      exact ⟨(by first | rfl | (simp [IntKind.wrap_u32]; done)), HS.out⟩
    · replace H := if_no c2129 H
      have c2129b0 : (t2126.1 == 0) = false := beq_eq_false_iff_ne.mpr c2129
      have c2129b1 : (t2126.1 != 0) = true := bne_iff_ne.mpr c2129
      clear c2129
      go_wp2_with fail
      obtain ⟨t2130, HA2131, H⟩ := bind_some H
      refine (ground_Ground_Word.calls l2004 t2126.2 a2010 a2011 a2012 a2013 (wrap64 (t2126.1 - 1)) 5 g2000 g2002 A2005 l2004.length n2007 t2130 _ ⟨HGl0.out.pass HS.out⟩ ⟨HS.out.begin⟩ HA2131).mono ?_
      rintro e_ w2132 ⟨rfl, hS⟩
      replace HS : Aside0 (Sep FF w [b7 g2000 g2002 a2010 a2011 a2012 a2013, b6 g2002 A2005 l2004.length n2007 t2130.2, r5 A2005 l2004.length n2007 l2004, b8 g2114 t2111.1 t2111.2.1 t2111.2.2.1] w2132) := ⟨HS.out.call hS⟩
      clear hS
      go_wp2_with fail
      obtain ⟨t2133, HA2134, H⟩ := bind_some H
      refine (ground_Ground_SetWord.calls l2004 t2130.2 a2010 a2011 a2012 a2013 (wrap64 (t2126.1 - 1)) 5 0 g2000 g2002 A2005 l2004.length n2007 t2133 _ ⟨HGl0.out.pass HS.out⟩ ⟨HS.out.begin⟩ HA2134).mono ?_
      rintro e_ w2135 ⟨rfl, hS⟩
      replace HS : Aside0 (Sep FF w [b7 g2000 g2002 a2010 a2011 a2012 a2013, b6 g2002 A2005 l2004.length n2007 t2133.2.1, r5 A2005 l2004.length n2007 t2133.2.2, b8 g2114 t2111.1 t2111.2.1 t2111.2.2.1] w2135) := ⟨HS.out.call hS⟩
      clear hS
      have hc2136 : w2135.cell? ⟨g2114, 0, none⟩ = some (.int .i64 t2111.1) := blk_cellv (HS.out.at3) 0 rfl
      go_wp2_with fail
      clear hc2136
      obtain ⟨t2137, HA2138, H⟩ := bind_some H
      refine (ground_Ground_SetReg.calls t2133.2.2 t2133.2.1 a2010 a2011 a2012 a2013 t2111.1 (wrap64 (t2130.1)) g2000 g2002 A2005 l2004.length n2007 t2137 _ ⟨HGl0.out.pass HS.out⟩ ⟨HS.out.begin⟩ HA2138).mono ?_
      rintro e_ w2139 ⟨rfl, hS⟩
      replace HS : Aside0 (Sep FF w [b7 g2000 g2002 a2010 a2011 a2012 a2013, b6 g2002 A2005 l2004.length n2007 t2137.2.1, r5 A2005 l2004.length n2007 t2137.2.2, b8 g2114 t2111.1 t2111.2.1 t2111.2.2.1] w2139) := ⟨HS.out.call hS⟩
      clear hS
      by_cases c2140 : (wrap64 (t2130.1)) = 0
      · replace H := if_yes c2140 H
        have c2140b0 : ((wrap64 (t2130.1)) == 0) = true := beq_iff_eq.mpr c2140
        have c2140b1 : ((wrap64 (t2130.1)) != 0) = false := bne_eq_false_iff_eq.mpr c2140
        clear c2140
        have hc2141 : w2139.cell? ⟨g2114, 1, none⟩ = some (.int .i64 t2111.2.1) := blk_cellv (HS.out.at3) 1 rfl
        go_wp2_with fail
        clear hc2141
        obtain ⟨t2142, HA2143, H⟩ := bind_some H
        refine (ground_Ground_SetReg.calls t2137.2.2 t2137.2.1 a2010 a2011 a2012 a2013 t2111.2.1 0 g2000 g2002 A2005 l2004.length n2007 t2142 _ ⟨HGl0.out.pass HS.out⟩ ⟨HS.out.begin⟩ HA2143).mono ?_
        rintro e_ w2144 ⟨rfl, hS⟩
        replace HS : Aside0 (Sep FF w [b7 g2000 g2002 a2010 a2011 a2012 a2013, b6 g2002 A2005 l2004.length n2007 t2142.2.1, r5 A2005 l2004.length n2007 t2142.2.2, b8 g2114 t2111.1 t2111.2.1 t2111.2.2.1] w2144) := ⟨HS.out.call hS⟩
        clear hS
        go_wp2_with fail
        refine start_ (n := 9) (S := (fun w' => w'.cell? ⟨g2114, 2, none⟩ = some (.int .i64 t2111.2.2.1))) (ds := []) #[false, false, false, false, false, false, false, false, false] (by kernel_rfl) rfl rfl (blk_cellv ((HS.out.drew).at3) 2 rfl) (fun hHeld => ?_)
        have HS_ := Aside0.mk HS.out.drew
        clear HS
        generalize World.drew _ = w2146 at HS_ hHeld ⊢
        have HS := HS_
        clear HS_
        refine pure_ (i := 0) (N := some 44) (v := ?_) (a' := ?_) #[true, false, false, false, false, false, false, false, false] rfl rfl (by kernel_rfl) (fun _ _ _ h => h) (Or.inl ⟨by rfl, ?_⟩) ?_ ?_
        rotate_left
        · intro w'
          go_simp
          with_reducible rfl
        rotate_left
        · simp only [Act.put, List.setIfInBounds_toArray, List.set_cons_zero, List.set_cons_succ, i64_w, i32_w]
          rfl
        refine pure_ (i := 1) (N := some 45) (v := ?_) (a' := ?_) #[true, true, false, false, false, false, false, false, false] rfl rfl (by kernel_rfl) (fun _ _ _ h => h) (Or.inl ⟨by rfl, ?_⟩) ?_ ?_
        rotate_left
        · intro w'
          go_simp
          with_reducible rfl
        rotate_left
        · simp only [Act.put, List.setIfInBounds_toArray, List.set_cons_zero, List.set_cons_succ, i64_w, i32_w]
          rfl
        refine pure_ (i := 3) (N := some 47) (v := ?_) (a' := ?_) #[true, true, false, true, false, false, false, false, false] rfl rfl (by kernel_rfl) (fun _ _ _ h => h) (Or.inl ⟨by rfl, ?_⟩) ?_ ?_
        rotate_left
        · intro w'
          go_simp
          with_reducible rfl
        rotate_left
        · simp only [Act.put, List.setIfInBounds_toArray, List.set_cons_zero, List.set_cons_succ, i64_w, i32_w]
          rfl
        refine pure_ (i := 4) (N := some 48) (v := ?_) (a' := ?_) #[true, true, false, true, true, false, false, false, false] rfl rfl (by kernel_rfl) (fun _ _ _ h => h) (Or.inl ⟨by rfl, ?_⟩) ?_ ?_
        rotate_left
        · intro w'
          go_simp
          with_reducible rfl
        rotate_left
        · simp only [Act.put, List.setIfInBounds_toArray, List.set_cons_zero, List.set_cons_succ, i64_w, i32_w]
          rfl
        refine take_ (i := 2) (N := some 46) (v := ?_) (a' := ?_) #[true, true, true, true, true, false, false, false, false] rfl rfl (by kernel_rfl) (fun _ _ _ h => h) (Or.inl ⟨by rfl, ?_⟩) hHeld ?_ ?_
        rotate_left
        · rintro w' hS'
          have s0 := hS'
          go_simp
          with_reducible rfl
        rotate_left
        · simp only [Act.put, List.setIfInBounds_toArray, List.set_cons_zero, List.set_cons_succ, i64_w, i32_w]
          rfl
        refine take_ (i := 5) (N := some 49) (v := ?_) (a' := ?_) #[true, true, true, true, true, true, false, false, false] rfl rfl (by kernel_rfl) (fun _ _ _ h => h) (Or.inl ⟨by rfl, ?_⟩) hHeld ?_ ?_
        rotate_left
        · rintro w' hS'
          have s0 := hS'
          go_simp
          with_reducible rfl
        rotate_left
        · simp only [Act.put, List.setIfInBounds_toArray, List.set_cons_zero, List.set_cons_succ, i64_w, i32_w]
          rfl
        refine one_ (i := 6) (N := some 50) #[true, true, true, true, true, true, true, false, false] rfl rfl (by kernel_rfl) (by decide) (fun K hK => ?_)
        obtain ⟨t2147, HA2148, H⟩ := bind_some H
        refine goes_ Tryd.func81 (by kernel_rfl) rfl #[.pointer (some ⟨g2000, 0, none⟩), .int .i64 t2111.2.2.1] (by rfl) rfl rfl (by (try simp only [List.map_toArray, List.map_cons, List.map_nil]); first | done | rfl) ?_
        refine (ground_Ground_Reg.calls t2142.2.2 t2142.2.1 a2010 a2011 a2012 a2013 t2111.2.2.1 g2000 g2002 A2005 l2004.length n2007 t2147 _ ⟨HGl0.out.pass HS.out⟩ ⟨HS.out.begin⟩ HA2148).mono ?_
        rintro e_ w2149 ⟨rfl, hS⟩
        replace HS : Aside0 (Sep FF w [b7 g2000 g2002 a2010 a2011 a2012 a2013, b6 g2002 A2005 l2004.length n2007 t2147.2, r5 A2005 l2004.length n2007 t2142.2.2, b8 g2114 t2111.1 t2111.2.1 t2111.2.2.1] w2149) := ⟨HS.out.call hS⟩
        clear hS
        refine ⟨_, rfl, ?_⟩
        refine hK.out _ _ (blk_cellv (HS.out.at3) 2 rfl) (fun hHeld => ?_)
        clear hK K
        refine norm_ (a' := ?_) ?_ ?_
        rotate_left
        · show Act.put _ (some 50) _ = _
          simp only [Act.put, List.setIfInBounds_toArray, List.set_cons_zero, List.set_cons_succ, i64_w, i32_w]
          rfl
        refine pure_ (i := 7) (N := some 51) (v := ?_) (a' := ?_) #[true, true, true, true, true, true, true, true, false] rfl rfl (by kernel_rfl) (fun _ _ _ h => h) (Or.inl ⟨by rfl, ?_⟩) ?_ ?_
        rotate_left
        · intro w'
          go_simp
          with_reducible rfl
        rotate_left
        · simp only [Act.put, List.setIfInBounds_toArray, List.set_cons_zero, List.set_cons_succ, i64_w, i32_w]
          rfl
        refine one_ (i := 8) (N := some 52) #[true, true, true, true, true, true, true, true, true] rfl rfl (by kernel_rfl) (by decide) (fun K hK => ?_)
        obtain ⟨t2150, HA2151, H⟩ := bind_some H
        refine goes_ Tryd.func83 (by kernel_rfl) rfl #[.pointer (some ⟨g2000, 0, none⟩), .int .i64 t2111.2.2.1, .int .i64 (wrap64 (t2147.1 - 1))] (by rfl) rfl rfl (by (try simp only [List.map_toArray, List.map_cons, List.map_nil]); first | done | rfl) ?_
        refine (ground_Ground_SetReg.calls t2142.2.2 t2147.2 a2010 a2011 a2012 a2013 t2111.2.2.1 (wrap64 (t2147.1 - 1)) g2000 g2002 A2005 l2004.length n2007 t2150 _ ⟨HGl0.out.pass HS.out⟩ ⟨HS.out.begin⟩ HA2151).mono ?_
        rintro e_ w2152 ⟨rfl, hS⟩
        replace HS : Aside0 (Sep FF w [b7 g2000 g2002 a2010 a2011 a2012 a2013, b6 g2002 A2005 l2004.length n2007 t2150.2.1, r5 A2005 l2004.length n2007 t2150.2.2, b8 g2114 t2111.1 t2111.2.1 t2111.2.2.1] w2152) := ⟨HS.out.call hS⟩
        clear hS
        refine ⟨_, rfl, ?_⟩
        refine hK.out _ _ (blk_cellv (HS.out.at3) 2 rfl) (fun hHeld => ?_)
        clear hK K
        refine norm_ (a' := ?_) ?_ ?_
        rotate_left
        · show Act.put _ (some 52) _ = _
          simp only [Act.put, List.setIfInBounds_toArray, List.set_cons_zero, List.set_cons_succ, i64_w, i32_w]
          rfl
        refine done_ (by kernel_rfl) ?_
        replace HS : Aside0 (Sep FF w [b7 g2000 g2002 a2010 a2011 a2012 a2013, b6 g2002 A2005 l2004.length n2007 t2150.2.1, r5 A2005 l2004.length n2007 t2150.2.2] w2152) := ⟨HS.out.sub (.cons_cons _ (.cons_cons _ (.cons_cons _ (.cons _ .slnil))))⟩
        go_wp2_with fail
        go_ret2
        rw [← some_eq H]
        exact ⟨(by first | rfl | (simp [IntKind.wrap_u32]; done)), HS.out⟩
      · replace H := if_no c2140 H
        have c2140b0 : ((wrap64 (t2130.1)) == 0) = false := beq_eq_false_iff_ne.mpr c2140
        have c2140b1 : ((wrap64 (t2130.1)) != 0) = true := bne_iff_ne.mpr c2140
        clear c2140
        go_wp2_with fail
        refine start_ (n := 9) (S := (fun w' => w'.cell? ⟨g2114, 2, none⟩ = some (.int .i64 t2111.2.2.1))) (ds := []) #[false, false, false, false, false, false, false, false, false] (by kernel_rfl) rfl rfl (blk_cellv ((HS.out.drew).at3) 2 rfl) (fun hHeld => ?_)
        have HS_ := Aside0.mk HS.out.drew
        clear HS
        generalize World.drew _ = w2154 at HS_ hHeld ⊢
        have HS := HS_
        clear HS_
        refine pure_ (i := 0) (N := some 44) (v := ?_) (a' := ?_) #[true, false, false, false, false, false, false, false, false] rfl rfl (by kernel_rfl) (fun _ _ _ h => h) (Or.inl ⟨by rfl, ?_⟩) ?_ ?_
        rotate_left
        · intro w'
          go_simp
          with_reducible rfl
        rotate_left
        · simp only [Act.put, List.setIfInBounds_toArray, List.set_cons_zero, List.set_cons_succ, i64_w, i32_w]
          rfl
        refine pure_ (i := 1) (N := some 45) (v := ?_) (a' := ?_) #[true, true, false, false, false, false, false, false, false] rfl rfl (by kernel_rfl) (fun _ _ _ h => h) (Or.inl ⟨by rfl, ?_⟩) ?_ ?_
        rotate_left
        · intro w'
          go_simp
          with_reducible rfl
        rotate_left
        · simp only [Act.put, List.setIfInBounds_toArray, List.set_cons_zero, List.set_cons_succ, i64_w, i32_w]
          rfl
        refine pure_ (i := 3) (N := some 47) (v := ?_) (a' := ?_) #[true, true, false, true, false, false, false, false, false] rfl rfl (by kernel_rfl) (fun _ _ _ h => h) (Or.inl ⟨by rfl, ?_⟩) ?_ ?_
        rotate_left
        · intro w'
          go_simp
          with_reducible rfl
        rotate_left
        · simp only [Act.put, List.setIfInBounds_toArray, List.set_cons_zero, List.set_cons_succ, i64_w, i32_w]
          rfl
        refine pure_ (i := 4) (N := some 48) (v := ?_) (a' := ?_) #[true, true, false, true, true, false, false, false, false] rfl rfl (by kernel_rfl) (fun _ _ _ h => h) (Or.inl ⟨by rfl, ?_⟩) ?_ ?_
        rotate_left
        · intro w'
          go_simp
          with_reducible rfl
        rotate_left
        · simp only [Act.put, List.setIfInBounds_toArray, List.set_cons_zero, List.set_cons_succ, i64_w, i32_w]
          rfl
        refine take_ (i := 2) (N := some 46) (v := ?_) (a' := ?_) #[true, true, true, true, true, false, false, false, false] rfl rfl (by kernel_rfl) (fun _ _ _ h => h) (Or.inl ⟨by rfl, ?_⟩) hHeld ?_ ?_
        rotate_left
        · rintro w' hS'
          have s0 := hS'
          go_simp
          with_reducible rfl
        rotate_left
        · simp only [Act.put, List.setIfInBounds_toArray, List.set_cons_zero, List.set_cons_succ, i64_w, i32_w]
          rfl
        refine take_ (i := 5) (N := some 49) (v := ?_) (a' := ?_) #[true, true, true, true, true, true, false, false, false] rfl rfl (by kernel_rfl) (fun _ _ _ h => h) (Or.inl ⟨by rfl, ?_⟩) hHeld ?_ ?_
        rotate_left
        · rintro w' hS'
          have s0 := hS'
          go_simp
          with_reducible rfl
        rotate_left
        · simp only [Act.put, List.setIfInBounds_toArray, List.set_cons_zero, List.set_cons_succ, i64_w, i32_w]
          rfl
        refine one_ (i := 6) (N := some 50) #[true, true, true, true, true, true, true, false, false] rfl rfl (by kernel_rfl) (by decide) (fun K hK => ?_)
        obtain ⟨t2147, HA2155, H⟩ := bind_some H
        refine goes_ Tryd.func81 (by kernel_rfl) rfl #[.pointer (some ⟨g2000, 0, none⟩), .int .i64 t2111.2.2.1] (by rfl) rfl rfl (by (try simp only [List.map_toArray, List.map_cons, List.map_nil]); first | done | rfl) ?_
        refine (ground_Ground_Reg.calls t2137.2.2 t2137.2.1 a2010 a2011 a2012 a2013 t2111.2.2.1 g2000 g2002 A2005 l2004.length n2007 t2147 _ ⟨HGl0.out.pass HS.out⟩ ⟨HS.out.begin⟩ HA2155).mono ?_
        rintro e_ w2156 ⟨rfl, hS⟩
        replace HS : Aside0 (Sep FF w [b7 g2000 g2002 a2010 a2011 a2012 a2013, b6 g2002 A2005 l2004.length n2007 t2147.2, r5 A2005 l2004.length n2007 t2137.2.2, b8 g2114 t2111.1 t2111.2.1 t2111.2.2.1] w2156) := ⟨HS.out.call hS⟩
        clear hS
        refine ⟨_, rfl, ?_⟩
        refine hK.out _ _ (blk_cellv (HS.out.at3) 2 rfl) (fun hHeld => ?_)
        clear hK K
        refine norm_ (a' := ?_) ?_ ?_
        rotate_left
        · show Act.put _ (some 50) _ = _
          simp only [Act.put, List.setIfInBounds_toArray, List.set_cons_zero, List.set_cons_succ, i64_w, i32_w]
          rfl
        refine pure_ (i := 7) (N := some 51) (v := ?_) (a' := ?_) #[true, true, true, true, true, true, true, true, false] rfl rfl (by kernel_rfl) (fun _ _ _ h => h) (Or.inl ⟨by rfl, ?_⟩) ?_ ?_
        rotate_left
        · intro w'
          go_simp
          with_reducible rfl
        rotate_left
        · simp only [Act.put, List.setIfInBounds_toArray, List.set_cons_zero, List.set_cons_succ, i64_w, i32_w]
          rfl
        refine one_ (i := 8) (N := some 52) #[true, true, true, true, true, true, true, true, true] rfl rfl (by kernel_rfl) (by decide) (fun K hK => ?_)
        obtain ⟨t2150, HA2157, H⟩ := bind_some H
        refine goes_ Tryd.func83 (by kernel_rfl) rfl #[.pointer (some ⟨g2000, 0, none⟩), .int .i64 t2111.2.2.1, .int .i64 (wrap64 (t2147.1 - 1))] (by rfl) rfl rfl (by (try simp only [List.map_toArray, List.map_cons, List.map_nil]); first | done | rfl) ?_
        refine (ground_Ground_SetReg.calls t2137.2.2 t2147.2 a2010 a2011 a2012 a2013 t2111.2.2.1 (wrap64 (t2147.1 - 1)) g2000 g2002 A2005 l2004.length n2007 t2150 _ ⟨HGl0.out.pass HS.out⟩ ⟨HS.out.begin⟩ HA2157).mono ?_
        rintro e_ w2158 ⟨rfl, hS⟩
        replace HS : Aside0 (Sep FF w [b7 g2000 g2002 a2010 a2011 a2012 a2013, b6 g2002 A2005 l2004.length n2007 t2150.2.1, r5 A2005 l2004.length n2007 t2150.2.2, b8 g2114 t2111.1 t2111.2.1 t2111.2.2.1] w2158) := ⟨HS.out.call hS⟩
        clear hS
        refine ⟨_, rfl, ?_⟩
        refine hK.out _ _ (blk_cellv (HS.out.at3) 2 rfl) (fun hHeld => ?_)
        clear hK K
        refine norm_ (a' := ?_) ?_ ?_
        rotate_left
        · show Act.put _ (some 52) _ = _
          simp only [Act.put, List.setIfInBounds_toArray, List.set_cons_zero, List.set_cons_succ, i64_w, i32_w]
          rfl
        refine done_ (by kernel_rfl) ?_
        replace HS : Aside0 (Sep FF w [b7 g2000 g2002 a2010 a2011 a2012 a2013, b6 g2002 A2005 l2004.length n2007 t2150.2.1, r5 A2005 l2004.length n2007 t2150.2.2] w2158) := ⟨HS.out.sub (.cons_cons _ (.cons_cons _ (.cons_cons _ (.cons _ .slnil))))⟩
        go_wp2_with fail
        go_ret2
        rw [← some_eq H]
        exact ⟨(by first | rfl | (simp [IntKind.wrap_u32]; done)), HS.out⟩
  · replace H := if_no c2124 H
    have c2124b0 : t2111.2.2.2 = false := by simpa using c2124
    have c2124b1 : (!t2111.2.2.2) = true := by rw [c2124b0]; rfl
    try rw [c2124b1]
    clear c2124
    go_wp2_with (first | ((with_reducible refine gate_dst (N := 6) rfl ?_); refine box_on ?hg (N := 6) ?hd (cs := #[.int .i64 0, .int .i64 0, .int .i64 0]) (t := 166) ?hr ?_; (case hd => rfl); (case hg => rfl); (case hr => first | (go_simp; done) | (go_simp; rfl)); intro g2114 hg w2115 hbox hb; replace HS : Aside0 (Sep FF w [b7 g2000 g2002 a2010 a2011 a2012 a2013, b6 g2002 A2005 l2004.length n2007 a2009, r5 A2005 l2004.length n2007 l2004, b8 g2114 0 0 0] w2115) := ⟨HS.out.box hg hbox hb⟩; clear hg hbox hb; have hc2117 : w2115.cell? ⟨g2114, 0, none⟩ = some (.int .i64 0) := blk_cellv (HS.out.at3) 0 rfl; have hz2118 : w2115.frozen? ⟨g2114, 0, none⟩ = false := blk_fz (HS.out.at3) 0; have hc2119 : w2115.cell? ⟨g2114, 1, none⟩ = some (.int .i64 0) := blk_cellv (HS.out.at3) 1 rfl; have hz2120 : w2115.frozen? ⟨g2114, 1, none⟩ = false := blk_fz (HS.out.at3) 1; have hc2121 : w2115.cell? ⟨g2114, 2, none⟩ = some (.int .i64 0) := blk_cellv (HS.out.at3) 2 rfl; have hz2122 : w2115.frozen? ⟨g2114, 2, none⟩ = false := blk_fz (HS.out.at3) 2) | ((with_reducible refine gate_store (t := 166) (p := 6) rfl ?_); refine store_event (w1 := (World.setCell (World.setCell (World.setCell w2115 ⟨g2114, 0, none⟩ (.int .i64 t2111.1)) ⟨g2114, 1, none⟩ (.int .i64 t2111.2.1)) ⟨g2114, 2, none⟩ (.int .i64 t2111.2.2.1))) rfl (t := 166) (p := 6) rfl rfl ?hr ?_; (case hr => first | (go_simp; done) | (go_simp; rfl)); intro w2123 hst; clear hc2117 hz2118 hc2119 hz2120 hc2121 hz2122; replace HS : Aside0 (Sep FF w [b7 g2000 g2002 a2010 a2011 a2012 a2013, b6 g2002 A2005 l2004.length n2007 a2009, r5 A2005 l2004.length n2007 l2004, b8 g2114 t2111.1 t2111.2.1 t2111.2.2.1] w2123) := ⟨by rw [hst]; exact HS.out.setAll (l1 := [b7 g2000 g2002 a2010 a2011 a2012 a2013, b6 g2002 A2005 l2004.length n2007 a2009, r5 A2005 l2004.length n2007 l2004]) (l2 := []) [.int .i64 t2111.1, .int .i64 t2111.2.1, .int .i64 t2111.2.2.1] rfl⟩; clear hst; replace HS : Aside0 (Sep FF w [b7 g2000 g2002 a2010 a2011 a2012 a2013, b6 g2002 A2005 l2004.length n2007 a2009, r5 A2005 l2004.length n2007 l2004] w2123) := ⟨HS.out.sub (.cons_cons _ (.cons_cons _ (.cons_cons _ (.cons _ .slnil))))⟩))
    go_ret2
    rw [← some_eq H]
    exact ⟨(by first | rfl | (simp [IntKind.wrap_u32]; done)), HS.out⟩

set_option maxHeartbeats 30000000 in
set_option maxRecDepth 100000 in
theorem ground_Ground_Wipe.calls (k : Nat) (l2168 : List Int) (a2173 : Int) (a2174 : Int) (a2175 : Int) (a2176 : Int) (a2177 : Int) (a2178 : Int) (g2164 : Nat) (g2166 : Nat) (A2169 : Option Addr) (m2170 : Nat) (n2171 : Nat) (r : Int × Int × List Int) (w : World)  (HGl0 : Aside0 (Gl 0 #[.int .i64 0, .int .i64 0, .int .i64 0, .int .i64 0, .int .i64 0] (fps [b7 g2164 g2166 a2174 a2175 a2176 a2177, b6 g2166 A2169 m2170 n2171 a2173, r5 A2169 m2170 n2171 l2168]) w)) (HS : Aside0 (Sep (fps [b7 g2164 g2166 a2174 a2175 a2176 a2177, b6 g2166 A2169 m2170 n2171 a2173, r5 A2169 m2170 n2171 l2168]) w [b7 g2164 g2166 a2174 a2175 a2176 a2177, b6 g2166 A2169 m2170 n2171 a2173, r5 A2169 m2170 n2171 l2168] w)) (H : Aside0 (ground_Ground_Wipe.f k l2168 a2173 a2174 a2175 a2176 a2177 a2178 = some r)) :
    Calls Tryd.prog 136 #[.pointer (some ⟨g2164, 0, none⟩), .int .i64 a2178] w fun e w' => e = .returned (.int .i64 r.1) ∧ Sep (fps [b7 g2164 g2166 a2174 a2175 a2176 a2177, b6 g2166 A2169 m2170 n2171 a2173, r5 A2169 m2170 n2171 l2168]) w [b7 g2164 g2166 a2174 a2175 a2176 a2177, b6 g2166 A2169 m2170 n2171 r.2.1, r5 A2169 m2170 n2171 r.2.2] w' := by
  generalize (fps [b7 g2164 g2166 a2174 a2175 a2176 a2177, b6 g2166 A2169 m2170 n2171 a2173, r5 A2169 m2170 n2171 l2168]) = FF at HS HGl0 ⊢
  obtain rfl := (row_len (HS.out.at2)).symm
  unfold ground_Ground_Wipe.f at H
  go_enter Tryd.func136, Tryd.ntmps136
  go_wp2_with fail
  obtain ⟨t2207, HA2208, H⟩ := bind_some H
  refine (ground_Ground_Conf.calls l2168 a2173 a2174 a2175 a2176 a2177 g2164 g2166 A2169 l2168.length n2171 t2207 _ ⟨HGl0.out.pass HS.out⟩ ⟨HS.out.begin⟩ HA2208).mono ?_
  rintro e_ w2209 ⟨rfl, hS⟩
  replace HS : Aside0 (Sep FF w [b7 g2164 g2166 a2174 a2175 a2176 a2177, b6 g2166 A2169 l2168.length n2171 a2173, r5 A2169 l2168.length n2171 l2168] w2209) := ⟨HS.out.call hS⟩
  clear hS
  have fl2210 : ∀ w, (Instr.field 30 (.agg #[.int .i64 t2207.1, .int .i64 t2207.2.1, .int .i64 t2207.2.2.1, .int .i64 t2207.2.2.2]) 1).run Tryd.prog w = .ok (.int .i64 t2207.2.1) w := fun _ => by kernel_rfl
  go_wp2_with fail
  clear fl2210
  obtain ⟨o2223, AL2224, H⟩ := bind_some H
  go_loopg [5, 10] k (fun kq v5 v10 wc => ∃ (x2227 : Int) (x2228 : Int) (x2229 : List Int) (x2230 : Int), v5 = .int .i64 x2227 ∧ v10 = .int .i64 x2228 ∧ Aside0 (ground_Ground_Wipe.lo0 kq a2174 a2175 a2176 a2177 a2178 t2207 x2227 x2228 x2229 x2230 = some o2223) ∧ Aside0 (Sep FF w [b7 g2164 g2166 a2174 a2175 a2176 a2177, b6 g2166 A2169 l2168.length n2171 x2230, r5 A2169 l2168.length n2171 x2229] wc))
  case atStart => exact ⟨(0), (0), (l2168), (a2173), (by first | rfl | (simp [IntKind.wrap_u32]; done)), (by first | rfl | (simp [IntKind.wrap_u32]; done)), AL2224, ⟨HS.out⟩⟩
  case round =>
    clear AL2224 HS
    obtain ⟨x2227, x2228, x2229, x2230, rfl, rfl, AL2224, HS⟩ := hrel
    obtain ⟨w2225, rfl⟩ : ∃ x : World, x = wr := ⟨_, rfl⟩
    cases gk with
    | zero => exact absurd AL2224.out (by simp [ground_Ground_Wipe.lo0])
    | succ k2226 =>
      have AL0 := AL2224.out
      rw [ground_Ground_Wipe.lo0] at AL0
      clear AL2224
      have AL2224 := Aside0.mk AL0
      clear AL0
      by_cases c2231 : x2228 < t2207.2.1
      · replace AL2224 := if_yes c2231 AL2224
        have c2231b0 : decide (x2228 < t2207.2.1) = true := decide_eq_true c2231
        clear c2231
        go_wp2_with fail
        obtain ⟨t2219, HA2232, AL2224⟩ := bind_some AL2224
        refine (ground_Ground_SetWord.calls x2229 x2230 a2174 a2175 a2176 a2177 a2178 x2228 0 g2164 g2166 A2169 l2168.length n2171 t2219 _ ⟨HGl0.out.pass HS.out⟩ ⟨HS.out.begin⟩ HA2232).mono ?_
        rintro e_ w2233 ⟨rfl, hS⟩
        replace HS : Aside0 (Sep FF w [b7 g2164 g2166 a2174 a2175 a2176 a2177, b6 g2166 A2169 l2168.length n2171 t2219.2.1, r5 A2169 l2168.length n2171 t2219.2.2] w2233) := ⟨HS.out.call hS⟩
        clear hS
        by_cases c2234 : t2219.1 = true
        · replace AL2224 := if_yes c2234 AL2224
          have c2234b0 : t2219.1 = true := c2234
          have c2234b1 : (!t2219.1) = false := by rw [c2234b0]; rfl
          clear c2234
          go_wp2_with fail
          go_roundg k2226
          case measure => exact Nat.lt_succ_self _
          case rel => exact ⟨(wrap64 (x2227 + 1)), (wrap64 (x2228 + 1)), (t2219.2.2), (t2219.2.1), (by first | rfl | (simp [IntKind.wrap_u32]; done)), (by first | rfl | (simp [IntKind.wrap_u32]; done)), Aside0.mk AL2224.out, ⟨HS.out⟩⟩
        · replace AL2224 := if_no c2234 AL2224
          have c2234b0 : t2219.1 = false := by simpa using c2234
          have c2234b1 : (!t2219.1) = true := by rw [c2234b0]; rfl
          clear c2234
          go_wp2_with fail
          go_roundg k2226
          case measure => exact Nat.lt_succ_self _
          case rel => exact ⟨(x2227), (wrap64 (x2228 + 1)), (t2219.2.2), (t2219.2.1), (by first | rfl | (simp [IntKind.wrap_u32]; done)), (by first | rfl | (simp [IntKind.wrap_u32]; done)), Aside0.mk AL2224.out, ⟨HS.out⟩⟩
      · replace AL2224 := if_no c2231 AL2224
        have c2231b0 : decide (x2228 < t2207.2.1) = false := decide_eq_false c2231
        clear c2231
        have ho := some_eq AL2224
        subst ho
        clear AL2224
        go_wp2_with fail
        go_ret
        rw [← some_eq H]
        exact ⟨(by first | rfl | (simp [IntKind.wrap_u32]; done)), HS.out⟩

set_option maxHeartbeats 30000000 in
set_option maxRecDepth 100000 in
theorem pool_Take.calls (k : Nat) (l1989 : List Int) (a1994 : Int) (a1995 : Int) (a1996 : Int) (a1997 : Int) (a1998 : Int) (g1985 : Nat) (g1987 : Nat) (A1990 : Option Addr) (m1991 : Nat) (n1992 : Nat) (r : Int × Bool × Int × List Int) (w : World)  (HGl0 : Aside0 (Gl 0 #[.int .i64 0, .int .i64 0, .int .i64 0, .int .i64 0, .int .i64 0] (fps [b7 g1985 g1987 a1995 a1996 a1997 a1998, b6 g1987 A1990 m1991 n1992 a1994, r5 A1990 m1991 n1992 l1989]) w)) (HS : Aside0 (Sep (fps [b7 g1985 g1987 a1995 a1996 a1997 a1998, b6 g1987 A1990 m1991 n1992 a1994, r5 A1990 m1991 n1992 l1989]) w [b7 g1985 g1987 a1995 a1996 a1997 a1998, b6 g1987 A1990 m1991 n1992 a1994, r5 A1990 m1991 n1992 l1989] w)) (H : Aside0 (pool_Take.f k l1989 a1994 a1995 a1996 a1997 a1998 = some r)) :
    Calls Tryd.prog 98 #[.pointer (some ⟨g1985, 0, none⟩)] w fun e w' => e = .returned (.tuple #[.int .i64 r.1, .bool r.2.1]) ∧ Sep (fps [b7 g1985 g1987 a1995 a1996 a1997 a1998, b6 g1987 A1990 m1991 n1992 a1994, r5 A1990 m1991 n1992 l1989]) w [b7 g1985 g1987 a1995 a1996 a1997 a1998, b6 g1987 A1990 m1991 n1992 r.2.2.1, r5 A1990 m1991 n1992 r.2.2.2] w' := by
  generalize (fps [b7 g1985 g1987 a1995 a1996 a1997 a1998, b6 g1987 A1990 m1991 n1992 a1994, r5 A1990 m1991 n1992 l1989]) = FF at HS HGl0 ⊢
  obtain rfl := (row_len (HS.out.at2)).symm
  unfold pool_Take.f at H
  go_enter Tryd.func98, Tryd.ntmps98
  go_wp2_with fail
  obtain ⟨t2239, HA2240, H⟩ := bind_some H
  refine (chain_Take.calls l1989 a1994 a1995 a1996 a1997 a1998 0 g1985 g1987 A1990 l1989.length n1992 t2239 _ ⟨HGl0.out.pass HS.out⟩ ⟨HS.out.begin⟩ HA2240).mono ?_
  rintro e_ w2241 ⟨rfl, hS⟩
  replace HS : Aside0 (Sep FF w [b7 g1985 g1987 a1995 a1996 a1997 a1998, b6 g1987 A1990 l1989.length n1992 t2239.2.2.1, r5 A1990 l1989.length n1992 t2239.2.2.2] w2241) := ⟨HS.out.call hS⟩
  clear hS
  by_cases c2242 : t2239.2.1 = true
  · replace H := if_yes c2242 H
    have c2242b0 : t2239.2.1 = true := c2242
    have c2242b1 : (!t2239.2.1) = false := by rw [c2242b0]; rfl
    try rw [c2242b1]
    clear c2242
    go_wp2_with fail
    obtain ⟨t2243, HA2244, H⟩ := bind_some H
    refine (ground_Ground_Wipe.calls _ t2239.2.2.2 t2239.2.2.1 a1995 a1996 a1997 a1998 t2239.1 g1985 g1987 A1990 l1989.length n1992 t2243 _ ⟨HGl0.out.pass HS.out⟩ ⟨HS.out.begin⟩ HA2244).mono ?_
    rintro e_ w2245 ⟨rfl, hS⟩
    replace HS : Aside0 (Sep FF w [b7 g1985 g1987 a1995 a1996 a1997 a1998, b6 g1987 A1990 l1989.length n1992 t2243.2.1, r5 A1990 l1989.length n1992 t2243.2.2] w2245) := ⟨HS.out.call hS⟩
    clear hS
    go_wp2_with fail
    go_ret2
    rw [← some_eq H]
    exact ⟨(by first | rfl | (simp [IntKind.wrap_u32]; done)), HS.out⟩
  · replace H := if_no c2242 H
    have c2242b0 : t2239.2.1 = false := by simpa using c2242
    have c2242b1 : (!t2239.2.1) = true := by rw [c2242b0]; rfl
    try rw [c2242b1]
    clear c2242
    go_wp2_with fail
    go_ret2
    rw [← some_eq H]
    exact ⟨(by first | rfl | (simp [IntKind.wrap_u32]; done)), HS.out⟩

set_option maxHeartbeats 30000000 in
set_option maxRecDepth 100000 in
theorem tag_marks.calls (a2317 : Int) (a2318 : Int) (a2319 : Int) (a2320 : Int) (a2321 : Int) (a2322 : Int) (a2323 : Int) (r : Int × Int × Int × Int × Int) (w : World)  (HGl0 : Aside0 (Gl 0 #[.int .i64 0, .int .i64 0, .int .i64 0, .int .i64 0, .int .i64 0] (fps []) w)) (HS : Aside0 (Sep (fps []) w [] w)) (H : Aside0 (tag_marks.f a2317 a2318 a2319 a2320 a2321 a2322 a2323 = some r)) :
    Calls Tryd.prog 68 #[.agg #[.int .i64 a2317, .int .i64 a2318, .int .i64 a2319, .int .i64 a2320, .int .i64 a2321, .int .i64 a2322, .int .i64 a2323]] w fun e w' => e = .returned (.agg #[.int .i64 r.1, .int .i64 r.2.1, .int .i64 r.2.2.1, .int .i64 r.2.2.2.1, .int .i64 r.2.2.2.2]) ∧ Sep (fps []) w [] w' := by
  unfold tag_marks.f at H
  go_enter Tryd.func68, Tryd.ntmps68
  go_wp2_with (first | ((with_reducible refine gate_dst (N := 1) rfl ?_); refine box_on ?hg (N := 1) ?hd (cs := #[.int .i64 a2317, .int .i64 a2318, .int .i64 a2319, .int .i64 a2320, .int .i64 a2321, .int .i64 a2322, .int .i64 a2323]) (t := 32) ?hr ?_; (case hd => rfl); (case hg => rfl); (case hr => first | (go_simp; done) | (go_simp; rfl)); intro g2324 hg w2325 hbox hb; replace HS : Aside0 (Sep (fps []) w [b16 g2324 a2317 a2318 a2319 a2320 a2321 a2322 a2323] w2325) := ⟨HS.out.box hg hbox hb⟩; clear hg hbox hb) | ((with_reducible refine gate_dst (N := 2) rfl ?_); refine box_on ?hg (N := 2) ?hd (cs := #[.int .i64 0, .int .i64 0, .int .i64 0, .int .i64 0, .int .i64 0]) (t := 108) ?hr ?_; (case hd => rfl); (case hg => rfl); (case hr => first | (go_simp; done) | (go_simp; rfl)); intro g2327 hg w2328 hbox hb; replace HS : Aside0 (Sep (fps []) w [b16 g2324 a2317 a2318 a2319 a2320 a2321 a2322 a2323, b17 g2327 0 0 0 0 0] w2328) := ⟨HS.out.box hg hbox hb⟩; clear hg hbox hb; have hc2330 : w2328.cell? ⟨g2324, 1, none⟩ = some (.int .i64 a2318) := blk_cellv (HS.out.at0) 1 rfl; have hc2331 : w2328.cell? ⟨g2324, 2, none⟩ = some (.int .i64 a2319) := blk_cellv (HS.out.at0) 2 rfl; have hc2332 : w2328.cell? ⟨g2324, 3, none⟩ = some (.int .i64 a2320) := blk_cellv (HS.out.at0) 3 rfl; have hc2333 : w2328.cell? ⟨g2324, 4, none⟩ = some (.int .i64 a2321) := blk_cellv (HS.out.at0) 4 rfl; have hc2334 : w2328.cell? ⟨g2324, 5, none⟩ = some (.int .i64 a2322) := blk_cellv (HS.out.at0) 5 rfl; have hc2335 : w2328.cell? ⟨g2327, 0, none⟩ = some (.int .i64 0) := blk_cellv (HS.out.at1) 0 rfl; have hz2336 : w2328.frozen? ⟨g2327, 0, none⟩ = false := blk_fz (HS.out.at1) 0; have hc2337 : w2328.cell? ⟨g2327, 1, none⟩ = some (.int .i64 0) := blk_cellv (HS.out.at1) 1 rfl; have hz2338 : w2328.frozen? ⟨g2327, 1, none⟩ = false := blk_fz (HS.out.at1) 1; have hc2339 : w2328.cell? ⟨g2327, 2, none⟩ = some (.int .i64 0) := blk_cellv (HS.out.at1) 2 rfl; have hz2340 : w2328.frozen? ⟨g2327, 2, none⟩ = false := blk_fz (HS.out.at1) 2; have hc2341 : w2328.cell? ⟨g2327, 3, none⟩ = some (.int .i64 0) := blk_cellv (HS.out.at1) 3 rfl; have hz2342 : w2328.frozen? ⟨g2327, 3, none⟩ = false := blk_fz (HS.out.at1) 3; have hc2343 : w2328.cell? ⟨g2327, 4, none⟩ = some (.int .i64 0) := blk_cellv (HS.out.at1) 4 rfl; have hz2344 : w2328.frozen? ⟨g2327, 4, none⟩ = false := blk_fz (HS.out.at1) 4) | ((with_reducible refine gate_store (t := 108) (p := 2) rfl ?_); refine store_event (w1 := (World.setCell (World.setCell (World.setCell (World.setCell (World.setCell w2328 ⟨g2327, 0, none⟩ (.int .i64 a2318)) ⟨g2327, 1, none⟩ (.int .i64 a2319)) ⟨g2327, 2, none⟩ (.int .i64 a2320)) ⟨g2327, 3, none⟩ (.int .i64 a2321)) ⟨g2327, 4, none⟩ (.int .i64 a2322))) rfl (t := 108) (p := 2) rfl rfl ?hr ?_; (case hr => first | (go_simp; done) | (go_simp; rfl)); intro w2345 hst; clear hc2330 hc2331 hc2332 hc2333 hc2334 hc2335 hz2336 hc2337 hz2338 hc2339 hz2340 hc2341 hz2342 hc2343 hz2344; replace HS : Aside0 (Sep (fps []) w [b16 g2324 a2317 a2318 a2319 a2320 a2321 a2322 a2323, b17 g2327 a2318 a2319 a2320 a2321 a2322] w2345) := ⟨by rw [hst]; exact HS.out.setAll (l1 := [b16 g2324 a2317 a2318 a2319 a2320 a2321 a2322 a2323]) (l2 := []) [.int .i64 a2318, .int .i64 a2319, .int .i64 a2320, .int .i64 a2321, .int .i64 a2322] rfl⟩; clear hst; replace HS : Aside0 (Sep (fps []) w [b17 g2327 a2318 a2319 a2320 a2321 a2322] w2345) := ⟨HS.out.sub (.cons _ (.cons_cons _ .slnil))⟩))
  have hc2346 : w2345.cell? ⟨g2327, 0, none⟩ = some (.int .i64 a2318) := blk_cellv (HS.out.at0) 0 rfl
  have hc2347 : w2345.cell? ⟨g2327, 1, none⟩ = some (.int .i64 a2319) := blk_cellv (HS.out.at0) 1 rfl
  have hc2348 : w2345.cell? ⟨g2327, 2, none⟩ = some (.int .i64 a2320) := blk_cellv (HS.out.at0) 2 rfl
  have hc2349 : w2345.cell? ⟨g2327, 3, none⟩ = some (.int .i64 a2321) := blk_cellv (HS.out.at0) 3 rfl
  have hc2350 : w2345.cell? ⟨g2327, 4, none⟩ = some (.int .i64 a2322) := blk_cellv (HS.out.at0) 4 rfl
  refine bodyPost_ret (v := .agg #[.int .i64 a2318, .int .i64 a2319, .int .i64 a2320, .int .i64 a2321, .int .i64 a2322]) (by simp [results, Tryd.results68, go_sem, hc2346, hc2347, hc2348, hc2349, hc2350]) rfl ?_
  rw [← some_eq H]
  exact ⟨(by first | rfl | (simp [IntKind.wrap_u32]; done)), HS.out.sub (.cons _ .slnil)⟩

set_option maxHeartbeats 30000000 in
set_option maxRecDepth 100000 in
theorem tag_Right.calls (k : Nat) (a2300 : Int) (a2301 : Int) (a2302 : Int) (a2303 : Int) (a2304 : Int) (a2305 : Int) (a2306 : Int) (r : Bool) (w : World)  (HGl0 : Aside0 (Gl 0 #[.int .i64 0, .int .i64 0, .int .i64 0, .int .i64 0, .int .i64 0] (fps []) w)) (HS : Aside0 (Sep (fps []) w [] w)) (H : Aside0 (tag_Right.f k a2300 a2301 a2302 a2303 a2304 a2305 a2306 = some r)) :
    Calls Tryd.prog 67 #[.agg #[.int .i64 a2300, .int .i64 a2301, .int .i64 a2302, .int .i64 a2303, .int .i64 a2304, .int .i64 a2305, .int .i64 a2306]] w fun e w' => e = .returned (.bool r) ∧ Sep (fps []) w [] w' := by
  unfold tag_Right.f at H
  go_enter Tryd.func67, Tryd.ntmps67
  go_wp2_with (first | ((with_reducible refine gate_dst (N := 1) rfl ?_); refine box_on ?hg (N := 1) ?hd (cs := #[.int .i64 a2300, .int .i64 a2301, .int .i64 a2302, .int .i64 a2303, .int .i64 a2304, .int .i64 a2305, .int .i64 a2306]) (t := 32) ?hr ?_; (case hd => rfl); (case hg => rfl); (case hr => first | (go_simp; done) | (go_simp; rfl)); intro g2307 hg w2308 hbox hb; replace HS : Aside0 (Sep (fps []) w [b16 g2307 a2300 a2301 a2302 a2303 a2304 a2305 a2306] w2308) := ⟨HS.out.box hg hbox hb⟩; clear hg hbox hb; have hc2310 : w2308.cell? ⟨g2307, 0, none⟩ = some (.int .i64 a2300) := blk_cellv (HS.out.at0) 0 rfl; have hc2311 : w2308.cell? ⟨g2307, 1, none⟩ = some (.int .i64 a2301) := blk_cellv (HS.out.at0) 1 rfl; have hc2312 : w2308.cell? ⟨g2307, 2, none⟩ = some (.int .i64 a2302) := blk_cellv (HS.out.at0) 2 rfl; have hc2313 : w2308.cell? ⟨g2307, 3, none⟩ = some (.int .i64 a2303) := blk_cellv (HS.out.at0) 3 rfl; have hc2314 : w2308.cell? ⟨g2307, 4, none⟩ = some (.int .i64 a2304) := blk_cellv (HS.out.at0) 4 rfl; have hc2315 : w2308.cell? ⟨g2307, 5, none⟩ = some (.int .i64 a2305) := blk_cellv (HS.out.at0) 5 rfl; have hc2316 : w2308.cell? ⟨g2307, 6, none⟩ = some (.int .i64 a2306) := blk_cellv (HS.out.at0) 6 rfl))
  clear hc2310 hc2311 hc2312 hc2313 hc2314 hc2315 hc2316
  obtain ⟨t2351, HA2352, H⟩ := bind_some H
  refine (tag_marks.calls a2300 a2301 a2302 a2303 a2304 a2305 a2306 t2351 _ ⟨HGl0.out.pass (l := []) HS.out⟩ ⟨Sep.start _⟩ HA2352).mono ?_
  rintro e_ w2353 ⟨rfl, hS⟩
  replace HS : Aside0 (Sep (fps []) w [b16 g2307 a2300 a2301 a2302 a2303 a2304 a2305 a2306] w2353) := ⟨HS.out.call hS⟩
  clear hS
  go_wp2_with fail
  obtain ⟨o2366, AL2367, H⟩ := bind_some H
  go_loopg [7] k (fun kq v7 wc => ∃ (x2370 : Int), v7 = .int .i64 x2370 ∧ Aside0 (tag_Right.lo0 kq t2351 x2370 = some o2366) ∧ Aside0 (Sep (fps []) w [b16 g2307 a2300 a2301 a2302 a2303 a2304 a2305 a2306] wc))
  case atStart => exact ⟨(0), (by first | rfl | (simp [IntKind.wrap_u32]; done)), AL2367, ⟨HS.out⟩⟩
  case round =>
    clear AL2367 HS
    obtain ⟨x2370, rfl, AL2367, HS⟩ := hrel
    obtain ⟨w2368, rfl⟩ : ∃ x : World, x = wr := ⟨_, rfl⟩
    cases gk with
    | zero => exact absurd AL2367.out (by simp [tag_Right.lo0])
    | succ k2369 =>
      have AL0 := AL2367.out
      rw [tag_Right.lo0] at AL0
      clear AL2367
      have AL2367 := Aside0.mk AL0
      clear AL0
      by_cases c2371 : x2370 < 5
      · replace AL2367 := if_yes c2371 AL2367
        have c2371b0 : decide (x2370 < 5) = true := decide_eq_true c2371
        clear c2371
        by_cases c2372 : 0 ≤ x2370
        · replace AL2367 := if_yes c2372 AL2367
          have c2372b0 : decide (0 ≤ x2370) = true := decide_eq_true c2372
          have c2372p : (0 ≤ x2370) = True := eq_true c2372
          clear c2372
          have ip2373 : (x2370 < 5) = True := eq_true (of_decide_eq_true c2371b0)
          have ix2374 : ∀ w, (Instr.index 108 (.agg #[.int .i64 t2351.1, .int .i64 t2351.2.1, .int .i64 t2351.2.2.1, .int .i64 t2351.2.2.2.1, .int .i64 t2351.2.2.2.2]) (.int .i64 x2370)).run Tryd.prog w = .ok (.int .i64 (rd [t2351.1, t2351.2.1, t2351.2.2.1, t2351.2.2.2.1, t2351.2.2.2.2] x2370)) w := run_index_ints 108 3 5 .i64 .i64 [t2351.1, t2351.2.1, t2351.2.2.1, t2351.2.2.2.1, t2351.2.2.2.2] x2370 Tryd.underlying108 (fun _ => by kernel_rfl) (fun _ => by kernel_rfl) rfl (of_decide_eq_true c2372b0) (of_decide_eq_true c2371b0)
          by_cases c2375 : (rd [t2351.1, t2351.2.1, t2351.2.2.1, t2351.2.2.2.1, t2351.2.2.2.2] x2370) = 0
          · replace AL2367 := if_yes c2375 AL2367
            have c2375b0 : ((rd [t2351.1, t2351.2.1, t2351.2.2.1, t2351.2.2.2.1, t2351.2.2.2.2] x2370) == 0) = true := beq_iff_eq.mpr c2375
            have c2375b1 : ((rd [t2351.1, t2351.2.1, t2351.2.2.1, t2351.2.2.2.1, t2351.2.2.2.2] x2370) != 0) = false := bne_eq_false_iff_eq.mpr c2375
            clear c2375
            go_wp2_with fail
            go_roundg k2369
            case measure => exact Nat.lt_succ_self _
            case rel => exact ⟨(wrap64 (x2370 + 1)), (by first | rfl | (simp [IntKind.wrap_u32]; done)), Aside0.mk AL2367.out, ⟨HS.out⟩⟩
          · replace AL2367 := if_no c2375 AL2367
            have c2375b0 : ((rd [t2351.1, t2351.2.1, t2351.2.2.1, t2351.2.2.2.1, t2351.2.2.2.2] x2370) == 0) = false := beq_eq_false_iff_ne.mpr c2375
            have c2375b1 : ((rd [t2351.1, t2351.2.1, t2351.2.2.1, t2351.2.2.2.1, t2351.2.2.2.2] x2370) != 0) = true := bne_iff_ne.mpr c2375
            clear c2375
            by_cases c2376 : (rd [t2351.1, t2351.2.1, t2351.2.2.1, t2351.2.2.2.1, t2351.2.2.2.2] x2370) = 1
            · replace AL2367 := if_yes c2376 AL2367
              have c2376b0 : ((rd [t2351.1, t2351.2.1, t2351.2.2.1, t2351.2.2.2.1, t2351.2.2.2.2] x2370) == 1) = true := beq_iff_eq.mpr c2376
              have c2376b1 : ((rd [t2351.1, t2351.2.1, t2351.2.2.1, t2351.2.2.2.1, t2351.2.2.2.2] x2370) != 1) = false := bne_eq_false_iff_eq.mpr c2376
              clear c2376
              go_wp2_with fail
              go_roundg k2369
              case measure => exact Nat.lt_succ_self _
              case rel => exact ⟨(wrap64 (x2370 + 1)), (by first | rfl | (simp [IntKind.wrap_u32]; done)), Aside0.mk AL2367.out, ⟨HS.out⟩⟩
            · replace AL2367 := if_no c2376 AL2367
              have c2376b0 : ((rd [t2351.1, t2351.2.1, t2351.2.2.1, t2351.2.2.2.1, t2351.2.2.2.2] x2370) == 1) = false := beq_eq_false_iff_ne.mpr c2376
              have c2376b1 : ((rd [t2351.1, t2351.2.1, t2351.2.2.1, t2351.2.2.2.1, t2351.2.2.2.2] x2370) != 1) = true := bne_iff_ne.mpr c2376
              clear c2376
              go_wp2_with fail
              have ho := some_eq AL2367
              subst ho
              have H := lp_ret H
              go_ret
              rw [← some_eq H]
              exact ⟨(by first | rfl | (simp [IntKind.wrap_u32]; done)), HS.out.sub (.cons _ .slnil)⟩
        · replace AL2367 := if_no c2372 AL2367
          have c2372b0 : decide (0 ≤ x2370) = false := decide_eq_false c2372
          clear c2372
          exact (none_no AL2367).elim
      · replace AL2367 := if_no c2371 AL2367
        have c2371b0 : decide (x2370 < 5) = false := decide_eq_false c2371
        clear c2371
        have ho := some_eq AL2367
        subst ho
        clear AL2367
        have H := lp_out H
        by_cases c2378 : a2300 = 1
        · replace H := if_yes c2378 H
          have c2378b0 : (a2300 == 1) = true := beq_iff_eq.mpr c2378
          have c2378b1 : (a2300 != 1) = false := bne_eq_false_iff_eq.mpr c2378
          clear c2378
          have hc2377 : w2368.cell? ⟨g2307, 0, none⟩ = some (.int .i64 a2300) := blk_cellv (HS.out.at0) 0 rfl
          have hc2379 : w2368.cell? ⟨g2307, 6, none⟩ = some (.int .i64 a2306) := blk_cellv (HS.out.at0) 6 rfl
          replace HS : Aside0 (Sep (fps []) w [] w2368) := ⟨HS.out.sub (.cons _ .slnil)⟩
          go_wp2_with fail
          clear hc2377 hc2379
          go_ret
          rw [← some_eq H]
          exact ⟨(by first | rfl | (simp [IntKind.wrap_u32]; done)), HS.out⟩
        · replace H := if_no c2378 H
          have c2378b0 : (a2300 == 1) = false := beq_eq_false_iff_ne.mpr c2378
          have c2378b1 : (a2300 != 1) = true := bne_iff_ne.mpr c2378
          clear c2378
          by_cases c2380 : a2300 = 2
          · replace H := if_yes c2380 H
            have c2380b0 : (a2300 == 2) = true := beq_iff_eq.mpr c2380
            have c2380b1 : (a2300 != 2) = false := bne_eq_false_iff_eq.mpr c2380
            clear c2380
            have hc2377 : w2368.cell? ⟨g2307, 0, none⟩ = some (.int .i64 a2300) := blk_cellv (HS.out.at0) 0 rfl
            have hc2381 : w2368.cell? ⟨g2307, 6, none⟩ = some (.int .i64 a2306) := blk_cellv (HS.out.at0) 6 rfl
            replace HS : Aside0 (Sep (fps []) w [] w2368) := ⟨HS.out.sub (.cons _ .slnil)⟩
            go_wp2_with fail
            clear hc2377 hc2381
            go_ret
            rw [← some_eq H]
            exact ⟨(by first | rfl | (simp [IntKind.wrap_u32]; done)), HS.out⟩
          · replace H := if_no c2380 H
            have c2380b0 : (a2300 == 2) = false := beq_eq_false_iff_ne.mpr c2380
            have c2380b1 : (a2300 != 2) = true := bne_iff_ne.mpr c2380
            clear c2380
            by_cases c2382 : a2300 = 0
            · replace H := if_yes c2382 H
              have c2382b0 : (a2300 == 0) = true := beq_iff_eq.mpr c2382
              have c2382b1 : (a2300 != 0) = false := bne_eq_false_iff_eq.mpr c2382
              clear c2382
              have hc2377 : w2368.cell? ⟨g2307, 0, none⟩ = some (.int .i64 a2300) := blk_cellv (HS.out.at0) 0 rfl
              go_wp2_with fail
              clear hc2377
              refine start_ (n := 25) (S := (fun w' => w'.cell? ⟨g2307, 0, none⟩ = some (.int .i64 a2300) ∧ w'.cell? ⟨g2307, 1, none⟩ = some (.int .i64 a2301) ∧ w'.cell? ⟨g2307, 2, none⟩ = some (.int .i64 a2302) ∧ w'.cell? ⟨g2307, 3, none⟩ = some (.int .i64 a2303) ∧ w'.cell? ⟨g2307, 4, none⟩ = some (.int .i64 a2304) ∧ w'.cell? ⟨g2307, 5, none⟩ = some (.int .i64 a2305) ∧ w'.cell? ⟨g2307, 6, none⟩ = some (.int .i64 a2306) ∧ w'.cell? ⟨0, 0, none⟩ = some (.int .i64 0) ∧ w'.cell? ⟨0, 1, none⟩ = some (.int .i64 0) ∧ w'.cell? ⟨0, 2, none⟩ = some (.int .i64 0) ∧ w'.cell? ⟨0, 3, none⟩ = some (.int .i64 0) ∧ w'.cell? ⟨0, 4, none⟩ = some (.int .i64 0))) (ds := []) #[false, false, false, false, false, false, false, false, false, false, false, false, false, false, false, false, false, false, false, false, false, false, false, false, false] (by kernel_rfl) rfl rfl (⟨blk_cellv ((HS.out.drew).at0) 0 rfl, blk_cellv ((HS.out.drew).at0) 1 rfl, blk_cellv ((HS.out.drew).at0) 2 rfl, blk_cellv ((HS.out.drew).at0) 3 rfl, blk_cellv ((HS.out.drew).at0) 4 rfl, blk_cellv ((HS.out.drew).at0) 5 rfl, blk_cellv ((HS.out.drew).at0) 6 rfl, Gl.cell HGl0.out (HS.out.drew).fr 0 rfl, Gl.cell HGl0.out (HS.out.drew).fr 1 rfl, Gl.cell HGl0.out (HS.out.drew).fr 2 rfl, Gl.cell HGl0.out (HS.out.drew).fr 3 rfl, Gl.cell HGl0.out (HS.out.drew).fr 4 rfl⟩) (fun hHeld => ?_)
              have HS_ := Aside0.mk HS.out.drew
              clear HS
              generalize World.drew _ = w2384 at HS_ hHeld ⊢
              have HS := HS_
              clear HS_
              refine take_ (i := 0) (N := some 28) (v := ?_) (a' := ?_) #[true, false, false, false, false, false, false, false, false, false, false, false, false, false, false, false, false, false, false, false, false, false, false, false, false] rfl rfl (by kernel_rfl) (fun _ _ _ h => h) (Or.inl ⟨by rfl, ?_⟩) hHeld ?_ ?_
              rotate_left
              · rintro w' hS'
                obtain ⟨s0, s1, s2, s3, s4, s5, s6, s7, s8, s9, s10, s11⟩ := hS'
                go_simp
                with_reducible rfl
              rotate_left
              · simp only [Act.put, List.setIfInBounds_toArray, List.set_cons_zero, List.set_cons_succ, i64_w, i32_w]
                rfl
              refine take_ (i := 2) (N := some 30) (v := ?_) (a' := ?_) #[true, false, true, false, false, false, false, false, false, false, false, false, false, false, false, false, false, false, false, false, false, false, false, false, false] rfl rfl (by kernel_rfl) (fun _ _ _ h => h) (Or.inl ⟨by rfl, ?_⟩) hHeld ?_ ?_
              rotate_left
              · rintro w' hS'
                obtain ⟨s0, s1, s2, s3, s4, s5, s6, s7, s8, s9, s10, s11⟩ := hS'
                go_simp
                with_reducible rfl
              rotate_left
              · simp only [Act.put, List.setIfInBounds_toArray, List.set_cons_zero, List.set_cons_succ, i64_w, i32_w]
                rfl
              refine one_ (i := 1) (N := some 29) #[true, true, true, false, false, false, false, false, false, false, false, false, false, false, false, false, false, false, false, false, false, false, false, false, false] rfl rfl (by kernel_rfl) (by decide) (fun K hK => ?_)
              obtain ⟨t2385, HA2386, H⟩ := bind_some H
              refine goes_ Tryd.func68 (by kernel_rfl) rfl #[.agg #[.int .i64 a2300, .int .i64 a2301, .int .i64 a2302, .int .i64 a2303, .int .i64 a2304, .int .i64 a2305, .int .i64 a2306]] (by rfl) rfl rfl (by (try simp only [List.map_toArray, List.map_cons, List.map_nil]); first | done | rfl) ?_
              refine (tag_marks.calls a2300 a2301 a2302 a2303 a2304 a2305 a2306 t2385 _ ⟨HGl0.out.pass (l := []) HS.out⟩ ⟨Sep.start _⟩ HA2386).mono ?_
              rintro e_ w2387 ⟨rfl, hS⟩
              replace HS : Aside0 (Sep (fps []) w [b16 g2307 a2300 a2301 a2302 a2303 a2304 a2305 a2306] w2387) := ⟨HS.out.call hS⟩
              clear hS
              refine ⟨_, rfl, ?_⟩
              refine hK.out _ _ (⟨blk_cellv (HS.out.at0) 0 rfl, blk_cellv (HS.out.at0) 1 rfl, blk_cellv (HS.out.at0) 2 rfl, blk_cellv (HS.out.at0) 3 rfl, blk_cellv (HS.out.at0) 4 rfl, blk_cellv (HS.out.at0) 5 rfl, blk_cellv (HS.out.at0) 6 rfl, Gl.cell HGl0.out HS.out.fr 0 rfl, Gl.cell HGl0.out HS.out.fr 1 rfl, Gl.cell HGl0.out HS.out.fr 2 rfl, Gl.cell HGl0.out HS.out.fr 3 rfl, Gl.cell HGl0.out HS.out.fr 4 rfl⟩) (fun hHeld => ?_)
              clear hK K
              refine norm_ (a' := ?_) ?_ ?_
              rotate_left
              · show Act.put _ (some 29) _ = _
                simp only [Act.put, List.setIfInBounds_toArray, List.set_cons_zero, List.set_cons_succ, i64_w, i32_w]
                rfl
              obtain ⟨b2389, HA2390, H⟩ := bind_some H
              have eb2388 : ∀ w, (Op.equalIn 10000 108 (.agg #[.int .i64 t2385.1, .int .i64 t2385.2.1, .int .i64 t2385.2.2.1, .int .i64 t2385.2.2.2.1, .int .i64 t2385.2.2.2.2]) (.agg #[.int .i64 0, .int .i64 0, .int .i64 0, .int .i64 0, .int .i64 0])).run Tryd.prog w = .ok b2389 w := some_eq HA2390 ▸ run_eq_ints 9998 108 3 5 .i64 [t2385.1, t2385.2.1, t2385.2.2.1, t2385.2.2.2.1, t2385.2.2.2.2] [0, 0, 0, 0, 0] Tryd.underlying108 (by kernel_rfl) (by kernel_rfl) Tryd.underlying3 (fun _ => by kernel_rfl) rfl rfl
              refine pure_ (i := 3) (N := some 31) (v := ?_) (a' := ?_) #[true, true, true, true, false, false, false, false, false, false, false, false, false, false, false, false, false, false, false, false, false, false, false, false, false] rfl rfl (by kernel_rfl) (fun _ _ _ h => h) (Or.inl ⟨by rfl, ?_⟩) ?_ ?_
              rotate_left
              · intro w'
                go_simp
                with_reducible rfl
              rotate_left
              · simp only [Act.put, List.setIfInBounds_toArray, List.set_cons_zero, List.set_cons_succ, i64_w, i32_w]
                rfl
              refine pure_ (i := 4) (N := some 32) (v := ?_) (a' := ?_) #[true, true, true, true, true, false, false, false, false, false, false, false, false, false, false, false, false, false, false, false, false, false, false, false, false] rfl rfl (by kernel_rfl) (fun _ _ _ h => h) (Or.inl ⟨by rfl, ?_⟩) ?_ ?_
              rotate_left
              · intro w'
                go_simp
                with_reducible rfl
              rotate_left
              · simp only [Act.put, List.setIfInBounds_toArray, List.set_cons_zero, List.set_cons_succ, i64_w, i32_w]
                rfl
              by_cases c2391 : b2389 = true
              · replace H := if_yes c2391 H
                have c2391b0 : b2389 = true := c2391
                have c2391b1 : (!b2389) = false := by rw [c2391b0]; rfl
                clear c2391
                try simp only [c2391b0, Bool.not_true, Bool.not_false]
                refine pure_ (i := 5) (N := some 33) (v := ?_) (a' := ?_) #[true, true, true, true, true, true, false, false, false, false, false, false, false, false, false, false, false, false, false, false, false, false, false, false, false] rfl rfl (by kernel_rfl) (fun _ _ _ h => h) (Or.inl ⟨by rfl, ?_⟩) ?_ ?_
                rotate_left
                · intro w'
                  go_simp
                  with_reducible rfl
                rotate_left
                · simp only [Act.put, List.setIfInBounds_toArray, List.set_cons_zero, List.set_cons_succ, i64_w, i32_w]
                  rfl
                try simp only [c2391b0, Bool.not_true, Bool.not_false]
                refine take_ (i := 6) (N := some 34) (v := ?_) (a' := ?_) #[true, true, true, true, true, true, true, false, false, false, false, false, false, false, false, false, false, false, false, false, false, false, false, false, false] rfl rfl (by kernel_rfl) (fun _ _ _ h => h) (Or.inl ⟨by rfl, ?_⟩) hHeld ?_ ?_
                rotate_left
                · rintro w' hS'
                  obtain ⟨s0, s1, s2, s3, s4, s5, s6, s7, s8, s9, s10, s11⟩ := hS'
                  go_simp
                  with_reducible rfl
                rotate_left
                · simp only [Act.put, List.setIfInBounds_toArray, List.set_cons_zero, List.set_cons_succ, i64_w, i32_w]
                  rfl
                try simp only [c2391b0, Bool.not_true, Bool.not_false]
                refine pure_ (i := 7) (N := some 35) (v := ?_) (a' := ?_) #[true, true, true, true, true, true, true, true, false, false, false, false, false, false, false, false, false, false, false, false, false, false, false, false, false] rfl rfl (by kernel_rfl) (fun _ _ _ h => h) (Or.inl ⟨by rfl, ?_⟩) ?_ ?_
                rotate_left
                · intro w'
                  go_simp
                  with_reducible rfl
                rotate_left
                · simp only [Act.put, List.setIfInBounds_toArray, List.set_cons_zero, List.set_cons_succ, i64_w, i32_w]
                  rfl
                refine pure_ (i := 8) (N := some 36) (v := ?_) (a' := ?_) #[true, true, true, true, true, true, true, true, true, false, false, false, false, false, false, false, false, false, false, false, false, false, false, false, false] rfl rfl (by kernel_rfl) (fun _ _ _ h => h) (Or.inl ⟨by rfl, ?_⟩) ?_ ?_
                rotate_left
                · intro w'
                  go_simp
                  with_reducible rfl
                rotate_left
                · simp only [Act.put, List.setIfInBounds_toArray, List.set_cons_zero, List.set_cons_succ, i64_w, i32_w]
                  rfl
                refine pure_ (i := 9) (N := some 37) (v := ?_) (a' := ?_) #[true, true, true, true, true, true, true, true, true, true, false, false, false, false, false, false, false, false, false, false, false, false, false, false, false] rfl rfl (by kernel_rfl) (fun _ _ _ h => h) (Or.inl ⟨by rfl, ?_⟩) ?_ ?_
                rotate_left
                · intro w'
                  go_simp
                  with_reducible rfl
                rotate_left
                · simp only [Act.put, List.setIfInBounds_toArray, List.set_cons_zero, List.set_cons_succ, i64_w, i32_w]
                  rfl
                by_cases c2392 : a2306 ≥ 0
                · replace H := if_yes c2392 H
                  have c2392b0 : decide (0 ≤ a2306) = true := decide_eq_true c2392
                  clear c2392
                  try simp only [c2392b0, Bool.not_true, Bool.not_false]
                  refine pure_ (i := 10) (N := some 38) (v := ?_) (a' := ?_) #[true, true, true, true, true, true, true, true, true, true, true, false, false, false, false, false, false, false, false, false, false, false, false, false, false] rfl rfl (by kernel_rfl) (fun _ _ _ h => h) (Or.inl ⟨by rfl, ?_⟩) ?_ ?_
                  rotate_left
                  · intro w'
                    go_simp
                    with_reducible rfl
                  rotate_left
                  · simp only [Act.put, List.setIfInBounds_toArray, List.set_cons_zero, List.set_cons_succ, i64_w, i32_w]
                    rfl
                  try simp only [c2392b0, Bool.not_true, Bool.not_false]
                  refine take_ (i := 11) (N := some 39) (v := ?_) (a' := ?_) #[true, true, true, true, true, true, true, true, true, true, true, true, false, false, false, false, false, false, false, false, false, false, false, false, false] rfl rfl (by kernel_rfl) (fun _ _ _ h => h) (Or.inl ⟨by rfl, ?_⟩) hHeld ?_ ?_
                  rotate_left
                  · rintro w' hS'
                    obtain ⟨s0, s1, s2, s3, s4, s5, s6, s7, s8, s9, s10, s11⟩ := hS'
                    go_simp
                    with_reducible rfl
                  rotate_left
                  · simp only [Act.put, List.setIfInBounds_toArray, List.set_cons_zero, List.set_cons_succ, i64_w, i32_w]
                    rfl
                  try simp only [c2392b0, Bool.not_true, Bool.not_false]
                  refine pure_ (i := 12) (N := some 40) (v := ?_) (a' := ?_) #[true, true, true, true, true, true, true, true, true, true, true, true, true, false, false, false, false, false, false, false, false, false, false, false, false] rfl rfl (by kernel_rfl) (fun _ _ _ h => h) (Or.inl ⟨by rfl, ?_⟩) ?_ ?_
                  rotate_left
                  · intro w'
                    go_simp
                    with_reducible rfl
                  rotate_left
                  · simp only [Act.put, List.setIfInBounds_toArray, List.set_cons_zero, List.set_cons_succ, i64_w, i32_w]
                    rfl
                  refine pure_ (i := 13) (N := some 41) (v := ?_) (a' := ?_) #[true, true, true, true, true, true, true, true, true, true, true, true, true, true, false, false, false, false, false, false, false, false, false, false, false] rfl rfl (by kernel_rfl) (fun _ _ _ h => h) (Or.inl ⟨by rfl, ?_⟩) ?_ ?_
                  rotate_left
                  · intro w'
                    go_simp
                    with_reducible rfl
                  rotate_left
                  · simp only [Act.put, List.setIfInBounds_toArray, List.set_cons_zero, List.set_cons_succ, i64_w, i32_w]
                    rfl
                  refine pure_ (i := 14) (N := some 42) (v := ?_) (a' := ?_) #[true, true, true, true, true, true, true, true, true, true, true, true, true, true, true, false, false, false, false, false, false, false, false, false, false] rfl rfl (by kernel_rfl) (fun _ _ _ h => h) (Or.inl ⟨by rfl, ?_⟩) ?_ ?_
                  rotate_left
                  · intro w'
                    go_simp
                    with_reducible rfl
                  rotate_left
                  · simp only [Act.put, List.setIfInBounds_toArray, List.set_cons_zero, List.set_cons_succ, i64_w, i32_w]
                    rfl
                  by_cases c2393 : a2306 < 1048576
                  · replace H := if_yes c2393 H
                    have c2393b0 : decide (a2306 < 1048576) = true := decide_eq_true c2393
                    clear c2393
                    try simp only [c2393b0, Bool.not_true, Bool.not_false]
                    refine pure_ (i := 15) (N := some 43) (v := ?_) (a' := ?_) #[true, true, true, true, true, true, true, true, true, true, true, true, true, true, true, true, false, false, false, false, false, false, false, false, false] rfl rfl (by kernel_rfl) (fun _ _ _ h => h) (Or.inl ⟨by rfl, ?_⟩) ?_ ?_
                    rotate_left
                    · intro w'
                      go_simp
                      with_reducible rfl
                    rotate_left
                    · simp only [Act.put, List.setIfInBounds_toArray, List.set_cons_zero, List.set_cons_succ, i64_w, i32_w]
                      rfl
                    try simp only [c2393b0, Bool.not_true, Bool.not_false]
                    refine take_ (i := 16) (N := some 44) (v := ?_) (a' := ?_) #[true, true, true, true, true, true, true, true, true, true, true, true, true, true, true, true, true, false, false, false, false, false, false, false, false] rfl rfl (by kernel_rfl) (fun _ _ _ h => h) (Or.inl ⟨by rfl, ?_⟩) hHeld ?_ ?_
                    rotate_left
                    · rintro w' hS'
                      obtain ⟨s0, s1, s2, s3, s4, s5, s6, s7, s8, s9, s10, s11⟩ := hS'
                      go_simp
                      with_reducible rfl
                    rotate_left
                    · simp only [Act.put, List.setIfInBounds_toArray, List.set_cons_zero, List.set_cons_succ, i64_w, i32_w]
                      rfl
                    try simp only [c2393b0, Bool.not_true, Bool.not_false]
                    refine pure_ (i := 17) (N := some 45) (v := ?_) (a' := ?_) #[true, true, true, true, true, true, true, true, true, true, true, true, true, true, true, true, true, true, false, false, false, false, false, false, false] rfl rfl (by kernel_rfl) (fun _ _ _ h => h) (Or.inl ⟨by rfl, ?_⟩) ?_ ?_
                    rotate_left
                    · intro w'
                      go_simp
                      with_reducible rfl
                    rotate_left
                    · simp only [Act.put, List.setIfInBounds_toArray, List.set_cons_zero, List.set_cons_succ, i64_w, i32_w]
                      rfl
                    try simp only [c2393b0, Bool.not_true, Bool.not_false]
                    refine pure_ (i := 18) (N := some 46) (v := ?_) (a' := ?_) #[true, true, true, true, true, true, true, true, true, true, true, true, true, true, true, true, true, true, true, false, false, false, false, false, false] rfl rfl (by kernel_rfl) (fun _ _ _ h => h) (Or.inl ⟨by rfl, ?_⟩) ?_ ?_
                    rotate_left
                    · intro w'
                      go_simp
                      with_reducible rfl
                    rotate_left
                    · simp only [Act.put, List.setIfInBounds_toArray, List.set_cons_zero, List.set_cons_succ, i64_w, i32_w]
                      rfl
                    by_cases c2394 : a2300 = 3
                    · replace H := if_yes c2394 H
                      have c2394b0 : (a2300 == 3) = true := beq_iff_eq.mpr c2394
                      have c2394b1 : (a2300 != 3) = false := bne_eq_false_iff_eq.mpr c2394
                      clear c2394
                      try simp only [c2394b0, Bool.not_true, Bool.not_false]
                      refine pure_ (i := 19) (N := some 47) (v := undef) (a' := ?_) #[true, true, true, true, true, true, true, true, true, true, true, true, true, true, true, true, true, true, true, true, false, false, false, false, false] rfl rfl (by kernel_rfl) (fun _ _ _ h => h) (Or.inr ⟨by rfl, rfl⟩) ?_ ?_
                      rotate_left
                      · simp only [Act.put, List.setIfInBounds_toArray, List.set_cons_zero, List.set_cons_succ, i64_w, i32_w]
                        rfl
                      try simp only [c2394b0, Bool.not_true, Bool.not_false]
                      refine pure_ (i := 20) (N := some 48) (v := undef) (a' := ?_) #[true, true, true, true, true, true, true, true, true, true, true, true, true, true, true, true, true, true, true, true, true, false, false, false, false] rfl rfl (by kernel_rfl) (fun _ _ _ h => h) (Or.inr ⟨by rfl, rfl⟩) ?_ ?_
                      rotate_left
                      · simp only [Act.put, List.setIfInBounds_toArray, List.set_cons_zero, List.set_cons_succ, i64_w, i32_w]
                        rfl
                      try simp only [c2394b0, Bool.not_true, Bool.not_false]
                      refine pure_ (i := 21) (N := some 49) (v := undef) (a' := ?_) #[true, true, true, true, true, true, true, true, true, true, true, true, true, true, true, true, true, true, true, true, true, true, false, false, false] rfl rfl (by kernel_rfl) (fun _ _ _ h => h) (Or.inr ⟨by rfl, rfl⟩) ?_ ?_
                      rotate_left
                      · simp only [Act.put, List.setIfInBounds_toArray, List.set_cons_zero, List.set_cons_succ, i64_w, i32_w]
                        rfl
                      try simp only [c2393b0, Bool.not_true, Bool.not_false]
                      refine pure_ (i := 22) (N := some 50) (v := ?_) (a' := ?_) #[true, true, true, true, true, true, true, true, true, true, true, true, true, true, true, true, true, true, true, true, true, true, true, false, false] rfl rfl (by kernel_rfl) (fun _ _ _ h => h) (Or.inl ⟨by rfl, ?_⟩) ?_ ?_
                      rotate_left
                      · intro w'
                        go_simp
                        with_reducible rfl
                      rotate_left
                      · simp only [Act.put, List.setIfInBounds_toArray, List.set_cons_zero, List.set_cons_succ, i64_w, i32_w]
                        rfl
                      refine pure_ (i := 23) (N := some 51) (v := ?_) (a' := ?_) #[true, true, true, true, true, true, true, true, true, true, true, true, true, true, true, true, true, true, true, true, true, true, true, true, false] rfl rfl (by kernel_rfl) (fun _ _ _ h => h) (Or.inl ⟨by rfl, ?_⟩) ?_ ?_
                      rotate_left
                      · intro w'
                        go_simp
                        with_reducible rfl
                      rotate_left
                      · simp only [Act.put, List.setIfInBounds_toArray, List.set_cons_zero, List.set_cons_succ, i64_w, i32_w]
                        rfl
                      refine pure_ (i := 24) (N := some 2) (v := ?_) (a' := ?_) #[true, true, true, true, true, true, true, true, true, true, true, true, true, true, true, true, true, true, true, true, true, true, true, true, true] rfl rfl (by kernel_rfl) (fun _ _ _ h => h) (Or.inl ⟨by rfl, ?_⟩) ?_ ?_
                      rotate_left
                      · intro w'
                        go_simp
                        with_reducible rfl
                      rotate_left
                      · simp only [Act.put, List.setIfInBounds_toArray, List.set_cons_zero, List.set_cons_succ, i64_w, i32_w]
                        rfl
                      refine done_ (by kernel_rfl) ?_
                      replace HS : Aside0 (Sep (fps []) w [] w2387) := ⟨HS.out.sub (.cons _ .slnil)⟩
                      go_wp2_with fail
                      go_ret
                      rw [← some_eq H]
                      exact ⟨(by first | rfl | (simp [IntKind.wrap_u32]; done)), HS.out⟩
                    · replace H := if_no c2394 H
                      have c2394b0 : (a2300 == 3) = false := beq_eq_false_iff_ne.mpr c2394
                      have c2394b1 : (a2300 != 3) = true := bne_iff_ne.mpr c2394
                      clear c2394
                      try simp only [c2394b0, Bool.not_true, Bool.not_false]
                      refine pure_ (i := 19) (N := some 47) (v := ?_) (a' := ?_) #[true, true, true, true, true, true, true, true, true, true, true, true, true, true, true, true, true, true, true, true, false, false, false, false, false] rfl rfl (by kernel_rfl) (fun _ _ _ h => h) (Or.inl ⟨by rfl, ?_⟩) ?_ ?_
                      rotate_left
                      · intro w'
                        go_simp
                        with_reducible rfl
                      rotate_left
                      · simp only [Act.put, List.setIfInBounds_toArray, List.set_cons_zero, List.set_cons_succ, i64_w, i32_w]
                        rfl
                      try simp only [c2394b0, Bool.not_true, Bool.not_false]
                      refine take_ (i := 20) (N := some 48) (v := ?_) (a' := ?_) #[true, true, true, true, true, true, true, true, true, true, true, true, true, true, true, true, true, true, true, true, true, false, false, false, false] rfl rfl (by kernel_rfl) (fun _ _ _ h => h) (Or.inl ⟨by rfl, ?_⟩) hHeld ?_ ?_
                      rotate_left
                      · rintro w' hS'
                        obtain ⟨s0, s1, s2, s3, s4, s5, s6, s7, s8, s9, s10, s11⟩ := hS'
                        go_simp
                        with_reducible rfl
                      rotate_left
                      · simp only [Act.put, List.setIfInBounds_toArray, List.set_cons_zero, List.set_cons_succ, i64_w, i32_w]
                        rfl
                      try simp only [c2394b0, Bool.not_true, Bool.not_false]
                      refine pure_ (i := 21) (N := some 49) (v := ?_) (a' := ?_) #[true, true, true, true, true, true, true, true, true, true, true, true, true, true, true, true, true, true, true, true, true, true, false, false, false] rfl rfl (by kernel_rfl) (fun _ _ _ h => h) (Or.inl ⟨by rfl, ?_⟩) ?_ ?_
                      rotate_left
                      · intro w'
                        go_simp
                        with_reducible rfl
                      rotate_left
                      · simp only [Act.put, List.setIfInBounds_toArray, List.set_cons_zero, List.set_cons_succ, i64_w, i32_w]
                        rfl
                      try simp only [c2393b0, Bool.not_true, Bool.not_false]
                      refine pure_ (i := 22) (N := some 50) (v := ?_) (a' := ?_) #[true, true, true, true, true, true, true, true, true, true, true, true, true, true, true, true, true, true, true, true, true, true, true, false, false] rfl rfl (by kernel_rfl) (fun _ _ _ h => h) (Or.inl ⟨by rfl, ?_⟩) ?_ ?_
                      rotate_left
                      · intro w'
                        go_simp
                        with_reducible rfl
                      rotate_left
                      · simp only [Act.put, List.setIfInBounds_toArray, List.set_cons_zero, List.set_cons_succ, i64_w, i32_w]
                        rfl
                      refine pure_ (i := 23) (N := some 51) (v := ?_) (a' := ?_) #[true, true, true, true, true, true, true, true, true, true, true, true, true, true, true, true, true, true, true, true, true, true, true, true, false] rfl rfl (by kernel_rfl) (fun _ _ _ h => h) (Or.inl ⟨by rfl, ?_⟩) ?_ ?_
                      rotate_left
                      · intro w'
                        go_simp
                        with_reducible rfl
                      rotate_left
                      · simp only [Act.put, List.setIfInBounds_toArray, List.set_cons_zero, List.set_cons_succ, i64_w, i32_w]
                        rfl
                      refine pure_ (i := 24) (N := some 2) (v := ?_) (a' := ?_) #[true, true, true, true, true, true, true, true, true, true, true, true, true, true, true, true, true, true, true, true, true, true, true, true, true] rfl rfl (by kernel_rfl) (fun _ _ _ h => h) (Or.inl ⟨by rfl, ?_⟩) ?_ ?_
                      rotate_left
                      · intro w'
                        go_simp
                        with_reducible rfl
                      rotate_left
                      · simp only [Act.put, List.setIfInBounds_toArray, List.set_cons_zero, List.set_cons_succ, i64_w, i32_w]
                        rfl
                      refine done_ (by kernel_rfl) ?_
                      replace HS : Aside0 (Sep (fps []) w [] w2387) := ⟨HS.out.sub (.cons _ .slnil)⟩
                      go_wp2_with fail
                      go_ret
                      rw [← some_eq H]
                      exact ⟨(by first | rfl | (simp [IntKind.wrap_u32]; done)), HS.out⟩
                  · replace H := if_no c2393 H
                    have c2393b0 : decide (a2306 < 1048576) = false := decide_eq_false c2393
                    clear c2393
                    try simp only [c2393b0, Bool.not_true, Bool.not_false]
                    refine pure_ (i := 15) (N := some 43) (v := undef) (a' := ?_) #[true, true, true, true, true, true, true, true, true, true, true, true, true, true, true, true, false, false, false, false, false, false, false, false, false] rfl rfl (by kernel_rfl) (fun _ _ _ h => h) (Or.inr ⟨by rfl, rfl⟩) ?_ ?_
                    rotate_left
                    · simp only [Act.put, List.setIfInBounds_toArray, List.set_cons_zero, List.set_cons_succ, i64_w, i32_w]
                      rfl
                    try simp only [c2393b0, Bool.not_true, Bool.not_false]
                    refine pure_ (i := 16) (N := some 44) (v := undef) (a' := ?_) #[true, true, true, true, true, true, true, true, true, true, true, true, true, true, true, true, true, false, false, false, false, false, false, false, false] rfl rfl (by kernel_rfl) (fun _ _ _ h => h) (Or.inr ⟨by rfl, rfl⟩) ?_ ?_
                    rotate_left
                    · simp only [Act.put, List.setIfInBounds_toArray, List.set_cons_zero, List.set_cons_succ, i64_w, i32_w]
                      rfl
                    try simp only [c2393b0, Bool.not_true, Bool.not_false]
                    refine pure_ (i := 17) (N := some 45) (v := undef) (a' := ?_) #[true, true, true, true, true, true, true, true, true, true, true, true, true, true, true, true, true, true, false, false, false, false, false, false, false] rfl rfl (by kernel_rfl) (fun _ _ _ h => h) (Or.inr ⟨by rfl, rfl⟩) ?_ ?_
                    rotate_left
                    · simp only [Act.put, List.setIfInBounds_toArray, List.set_cons_zero, List.set_cons_succ, i64_w, i32_w]
                      rfl
                    try simp only [c2393b0, Bool.not_true, Bool.not_false]
                    refine pure_ (i := 18) (N := some 46) (v := undef) (a' := ?_) #[true, true, true, true, true, true, true, true, true, true, true, true, true, true, true, true, true, true, true, false, false, false, false, false, false] rfl rfl (by kernel_rfl) (fun _ _ _ h => h) (Or.inr ⟨by rfl, rfl⟩) ?_ ?_
                    rotate_left
                    · simp only [Act.put, List.setIfInBounds_toArray, List.set_cons_zero, List.set_cons_succ, i64_w, i32_w]
                      rfl
                    refine pure_ (i := 19) (N := some 47) (v := undef) (a' := ?_) #[true, true, true, true, true, true, true, true, true, true, true, true, true, true, true, true, true, true, true, true, false, false, false, false, false] rfl rfl (by kernel_rfl) (fun _ _ _ h => h) (Or.inr ⟨by rfl, rfl⟩) ?_ ?_
                    rotate_left
                    · simp only [Act.put, List.setIfInBounds_toArray, List.set_cons_zero, List.set_cons_succ, i64_w, i32_w]
                      rfl
                    refine pure_ (i := 20) (N := some 48) (v := undef) (a' := ?_) #[true, true, true, true, true, true, true, true, true, true, true, true, true, true, true, true, true, true, true, true, true, false, false, false, false] rfl rfl (by kernel_rfl) (fun _ _ _ h => h) (Or.inr ⟨by rfl, rfl⟩) ?_ ?_
                    rotate_left
                    · simp only [Act.put, List.setIfInBounds_toArray, List.set_cons_zero, List.set_cons_succ, i64_w, i32_w]
                      rfl
                    refine pure_ (i := 21) (N := some 49) (v := undef) (a' := ?_) #[true, true, true, true, true, true, true, true, true, true, true, true, true, true, true, true, true, true, true, true, true, true, false, false, false] rfl rfl (by kernel_rfl) (fun _ _ _ h => h) (Or.inr ⟨by rfl, rfl⟩) ?_ ?_
                    rotate_left
                    · simp only [Act.put, List.setIfInBounds_toArray, List.set_cons_zero, List.set_cons_succ, i64_w, i32_w]
                      rfl
                    try simp only [c2393b0, Bool.not_true, Bool.not_false]
                    refine pure_ (i := 22) (N := some 50) (v := undef) (a' := ?_) #[true, true, true, true, true, true, true, true, true, true, true, true, true, true, true, true, true, true, true, true, true, true, true, false, false] rfl rfl (by kernel_rfl) (fun _ _ _ h => h) (Or.inr ⟨by rfl, rfl⟩) ?_ ?_
                    rotate_left
                    · simp only [Act.put, List.setIfInBounds_toArray, List.set_cons_zero, List.set_cons_succ, i64_w, i32_w]
                      rfl
                    refine pure_ (i := 23) (N := some 51) (v := ?_) (a' := ?_) #[true, true, true, true, true, true, true, true, true, true, true, true, true, true, true, true, true, true, true, true, true, true, true, true, false] rfl rfl (by kernel_rfl) (fun _ _ _ h => h) (Or.inl ⟨by rfl, ?_⟩) ?_ ?_
                    rotate_left
                    · intro w'
                      go_simp
                      with_reducible rfl
                    rotate_left
                    · simp only [Act.put, List.setIfInBounds_toArray, List.set_cons_zero, List.set_cons_succ, i64_w, i32_w]
                      rfl
                    refine pure_ (i := 24) (N := some 2) (v := ?_) (a' := ?_) #[true, true, true, true, true, true, true, true, true, true, true, true, true, true, true, true, true, true, true, true, true, true, true, true, true] rfl rfl (by kernel_rfl) (fun _ _ _ h => h) (Or.inl ⟨by rfl, ?_⟩) ?_ ?_
                    rotate_left
                    · intro w'
                      go_simp
                      with_reducible rfl
                    rotate_left
                    · simp only [Act.put, List.setIfInBounds_toArray, List.set_cons_zero, List.set_cons_succ, i64_w, i32_w]
                      rfl
                    refine done_ (by kernel_rfl) ?_
                    replace HS : Aside0 (Sep (fps []) w [] w2387) := ⟨HS.out.sub (.cons _ .slnil)⟩
                    go_wp2_with fail
                    go_ret
                    rw [← some_eq H]
                    exact ⟨(by first | rfl | (simp [IntKind.wrap_u32]; done)), HS.out⟩
                · replace H := if_no c2392 H
                  have c2392b0 : decide (0 ≤ a2306) = false := decide_eq_false c2392
                  clear c2392
                  try simp only [c2392b0, Bool.not_true, Bool.not_false]
                  refine pure_ (i := 10) (N := some 38) (v := undef) (a' := ?_) #[true, true, true, true, true, true, true, true, true, true, true, false, false, false, false, false, false, false, false, false, false, false, false, false, false] rfl rfl (by kernel_rfl) (fun _ _ _ h => h) (Or.inr ⟨by rfl, rfl⟩) ?_ ?_
                  rotate_left
                  · simp only [Act.put, List.setIfInBounds_toArray, List.set_cons_zero, List.set_cons_succ, i64_w, i32_w]
                    rfl
                  try simp only [c2392b0, Bool.not_true, Bool.not_false]
                  refine pure_ (i := 11) (N := some 39) (v := undef) (a' := ?_) #[true, true, true, true, true, true, true, true, true, true, true, true, false, false, false, false, false, false, false, false, false, false, false, false, false] rfl rfl (by kernel_rfl) (fun _ _ _ h => h) (Or.inr ⟨by rfl, rfl⟩) ?_ ?_
                  rotate_left
                  · simp only [Act.put, List.setIfInBounds_toArray, List.set_cons_zero, List.set_cons_succ, i64_w, i32_w]
                    rfl
                  try simp only [c2392b0, Bool.not_true, Bool.not_false]
                  refine pure_ (i := 12) (N := some 40) (v := undef) (a' := ?_) #[true, true, true, true, true, true, true, true, true, true, true, true, true, false, false, false, false, false, false, false, false, false, false, false, false] rfl rfl (by kernel_rfl) (fun _ _ _ h => h) (Or.inr ⟨by rfl, rfl⟩) ?_ ?_
                  rotate_left
                  · simp only [Act.put, List.setIfInBounds_toArray, List.set_cons_zero, List.set_cons_succ, i64_w, i32_w]
                    rfl
                  refine pure_ (i := 13) (N := some 41) (v := ?_) (a' := ?_) #[true, true, true, true, true, true, true, true, true, true, true, true, true, true, false, false, false, false, false, false, false, false, false, false, false] rfl rfl (by kernel_rfl) (fun _ _ _ h => h) (Or.inl ⟨by rfl, ?_⟩) ?_ ?_
                  rotate_left
                  · intro w'
                    go_simp
                    with_reducible rfl
                  rotate_left
                  · simp only [Act.put, List.setIfInBounds_toArray, List.set_cons_zero, List.set_cons_succ, i64_w, i32_w]
                    rfl
                  refine pure_ (i := 14) (N := some 42) (v := ?_) (a' := ?_) #[true, true, true, true, true, true, true, true, true, true, true, true, true, true, true, false, false, false, false, false, false, false, false, false, false] rfl rfl (by kernel_rfl) (fun _ _ _ h => h) (Or.inl ⟨by rfl, ?_⟩) ?_ ?_
                  rotate_left
                  · intro w'
                    go_simp
                    with_reducible rfl
                  rotate_left
                  · simp only [Act.put, List.setIfInBounds_toArray, List.set_cons_zero, List.set_cons_succ, i64_w, i32_w]
                    rfl
                  refine pure_ (i := 15) (N := some 43) (v := undef) (a' := ?_) #[true, true, true, true, true, true, true, true, true, true, true, true, true, true, true, true, false, false, false, false, false, false, false, false, false] rfl rfl (by kernel_rfl) (fun _ _ _ h => h) (Or.inr ⟨by rfl, rfl⟩) ?_ ?_
                  rotate_left
                  · simp only [Act.put, List.setIfInBounds_toArray, List.set_cons_zero, List.set_cons_succ, i64_w, i32_w]
                    rfl
                  refine pure_ (i := 16) (N := some 44) (v := undef) (a' := ?_) #[true, true, true, true, true, true, true, true, true, true, true, true, true, true, true, true, true, false, false, false, false, false, false, false, false] rfl rfl (by kernel_rfl) (fun _ _ _ h => h) (Or.inr ⟨by rfl, rfl⟩) ?_ ?_
                  rotate_left
                  · simp only [Act.put, List.setIfInBounds_toArray, List.set_cons_zero, List.set_cons_succ, i64_w, i32_w]
                    rfl
                  refine pure_ (i := 17) (N := some 45) (v := undef) (a' := ?_) #[true, true, true, true, true, true, true, true, true, true, true, true, true, true, true, true, true, true, false, false, false, false, false, false, false] rfl rfl (by kernel_rfl) (fun _ _ _ h => h) (Or.inr ⟨by rfl, rfl⟩) ?_ ?_
                  rotate_left
                  · simp only [Act.put, List.setIfInBounds_toArray, List.set_cons_zero, List.set_cons_succ, i64_w, i32_w]
                    rfl
                  refine pure_ (i := 18) (N := some 46) (v := undef) (a' := ?_) #[true, true, true, true, true, true, true, true, true, true, true, true, true, true, true, true, true, true, true, false, false, false, false, false, false] rfl rfl (by kernel_rfl) (fun _ _ _ h => h) (Or.inr ⟨by rfl, rfl⟩) ?_ ?_
                  rotate_left
                  · simp only [Act.put, List.setIfInBounds_toArray, List.set_cons_zero, List.set_cons_succ, i64_w, i32_w]
                    rfl
                  refine pure_ (i := 19) (N := some 47) (v := undef) (a' := ?_) #[true, true, true, true, true, true, true, true, true, true, true, true, true, true, true, true, true, true, true, true, false, false, false, false, false] rfl rfl (by kernel_rfl) (fun _ _ _ h => h) (Or.inr ⟨by rfl, rfl⟩) ?_ ?_
                  rotate_left
                  · simp only [Act.put, List.setIfInBounds_toArray, List.set_cons_zero, List.set_cons_succ, i64_w, i32_w]
                    rfl
                  refine pure_ (i := 20) (N := some 48) (v := undef) (a' := ?_) #[true, true, true, true, true, true, true, true, true, true, true, true, true, true, true, true, true, true, true, true, true, false, false, false, false] rfl rfl (by kernel_rfl) (fun _ _ _ h => h) (Or.inr ⟨by rfl, rfl⟩) ?_ ?_
                  rotate_left
                  · simp only [Act.put, List.setIfInBounds_toArray, List.set_cons_zero, List.set_cons_succ, i64_w, i32_w]
                    rfl
                  refine pure_ (i := 21) (N := some 49) (v := undef) (a' := ?_) #[true, true, true, true, true, true, true, true, true, true, true, true, true, true, true, true, true, true, true, true, true, true, false, false, false] rfl rfl (by kernel_rfl) (fun _ _ _ h => h) (Or.inr ⟨by rfl, rfl⟩) ?_ ?_
                  rotate_left
                  · simp only [Act.put, List.setIfInBounds_toArray, List.set_cons_zero, List.set_cons_succ, i64_w, i32_w]
                    rfl
                  refine pure_ (i := 22) (N := some 50) (v := undef) (a' := ?_) #[true, true, true, true, true, true, true, true, true, true, true, true, true, true, true, true, true, true, true, true, true, true, true, false, false] rfl rfl (by kernel_rfl) (fun _ _ _ h => h) (Or.inr ⟨by rfl, rfl⟩) ?_ ?_
                  rotate_left
                  · simp only [Act.put, List.setIfInBounds_toArray, List.set_cons_zero, List.set_cons_succ, i64_w, i32_w]
                    rfl
                  refine pure_ (i := 23) (N := some 51) (v := ?_) (a' := ?_) #[true, true, true, true, true, true, true, true, true, true, true, true, true, true, true, true, true, true, true, true, true, true, true, true, false] rfl rfl (by kernel_rfl) (fun _ _ _ h => h) (Or.inl ⟨by rfl, ?_⟩) ?_ ?_
                  rotate_left
                  · intro w'
                    go_simp
                    with_reducible rfl
                  rotate_left
                  · simp only [Act.put, List.setIfInBounds_toArray, List.set_cons_zero, List.set_cons_succ, i64_w, i32_w]
                    rfl
                  refine pure_ (i := 24) (N := some 2) (v := ?_) (a' := ?_) #[true, true, true, true, true, true, true, true, true, true, true, true, true, true, true, true, true, true, true, true, true, true, true, true, true] rfl rfl (by kernel_rfl) (fun _ _ _ h => h) (Or.inl ⟨by rfl, ?_⟩) ?_ ?_
                  rotate_left
                  · intro w'
                    go_simp
                    with_reducible rfl
                  rotate_left
                  · simp only [Act.put, List.setIfInBounds_toArray, List.set_cons_zero, List.set_cons_succ, i64_w, i32_w]
                    rfl
                  refine done_ (by kernel_rfl) ?_
                  replace HS : Aside0 (Sep (fps []) w [] w2387) := ⟨HS.out.sub (.cons _ .slnil)⟩
                  go_wp2_with fail
                  go_ret
                  rw [← some_eq H]
                  exact ⟨(by first | rfl | (simp [IntKind.wrap_u32]; done)), HS.out⟩
              · replace H := if_no c2391 H
                have c2391b0 : b2389 = false := by simpa using c2391
                have c2391b1 : (!b2389) = true := by rw [c2391b0]; rfl
                clear c2391
                try simp only [c2391b0, Bool.not_true, Bool.not_false]
                refine pure_ (i := 5) (N := some 33) (v := undef) (a' := ?_) #[true, true, true, true, true, true, false, false, false, false, false, false, false, false, false, false, false, false, false, false, false, false, false, false, false] rfl rfl (by kernel_rfl) (fun _ _ _ h => h) (Or.inr ⟨by rfl, rfl⟩) ?_ ?_
                rotate_left
                · simp only [Act.put, List.setIfInBounds_toArray, List.set_cons_zero, List.set_cons_succ, i64_w, i32_w]
                  rfl
                try simp only [c2391b0, Bool.not_true, Bool.not_false]
                refine pure_ (i := 6) (N := some 34) (v := undef) (a' := ?_) #[true, true, true, true, true, true, true, false, false, false, false, false, false, false, false, false, false, false, false, false, false, false, false, false, false] rfl rfl (by kernel_rfl) (fun _ _ _ h => h) (Or.inr ⟨by rfl, rfl⟩) ?_ ?_
                rotate_left
                · simp only [Act.put, List.setIfInBounds_toArray, List.set_cons_zero, List.set_cons_succ, i64_w, i32_w]
                  rfl
                try simp only [c2391b0, Bool.not_true, Bool.not_false]
                refine pure_ (i := 7) (N := some 35) (v := undef) (a' := ?_) #[true, true, true, true, true, true, true, true, false, false, false, false, false, false, false, false, false, false, false, false, false, false, false, false, false] rfl rfl (by kernel_rfl) (fun _ _ _ h => h) (Or.inr ⟨by rfl, rfl⟩) ?_ ?_
                rotate_left
                · simp only [Act.put, List.setIfInBounds_toArray, List.set_cons_zero, List.set_cons_succ, i64_w, i32_w]
                  rfl
                refine pure_ (i := 8) (N := some 36) (v := ?_) (a' := ?_) #[true, true, true, true, true, true, true, true, true, false, false, false, false, false, false, false, false, false, false, false, false, false, false, false, false] rfl rfl (by kernel_rfl) (fun _ _ _ h => h) (Or.inl ⟨by rfl, ?_⟩) ?_ ?_
                rotate_left
                · intro w'
                  go_simp
                  with_reducible rfl
                rotate_left
                · simp only [Act.put, List.setIfInBounds_toArray, List.set_cons_zero, List.set_cons_succ, i64_w, i32_w]
                  rfl
                refine pure_ (i := 9) (N := some 37) (v := ?_) (a' := ?_) #[true, true, true, true, true, true, true, true, true, true, false, false, false, false, false, false, false, false, false, false, false, false, false, false, false] rfl rfl (by kernel_rfl) (fun _ _ _ h => h) (Or.inl ⟨by rfl, ?_⟩) ?_ ?_
                rotate_left
                · intro w'
                  go_simp
                  with_reducible rfl
                rotate_left
                · simp only [Act.put, List.setIfInBounds_toArray, List.set_cons_zero, List.set_cons_succ, i64_w, i32_w]
                  rfl
                refine pure_ (i := 10) (N := some 38) (v := undef) (a' := ?_) #[true, true, true, true, true, true, true, true, true, true, true, false, false, false, false, false, false, false, false, false, false, false, false, false, false] rfl rfl (by kernel_rfl) (fun _ _ _ h => h) (Or.inr ⟨by rfl, rfl⟩) ?_ ?_
                rotate_left
                · simp only [Act.put, List.setIfInBounds_toArray, List.set_cons_zero, List.set_cons_succ, i64_w, i32_w]
                  rfl
                refine pure_ (i := 11) (N := some 39) (v := undef) (a' := ?_) #[true, true, true, true, true, true, true, true, true, true, true, true, false, false, false, false, false, false, false, false, false, false, false, false, false] rfl rfl (by kernel_rfl) (fun _ _ _ h => h) (Or.inr ⟨by rfl, rfl⟩) ?_ ?_
                rotate_left
                · simp only [Act.put, List.setIfInBounds_toArray, List.set_cons_zero, List.set_cons_succ, i64_w, i32_w]
                  rfl
                refine pure_ (i := 12) (N := some 40) (v := undef) (a' := ?_) #[true, true, true, true, true, true, true, true, true, true, true, true, true, false, false, false, false, false, false, false, false, false, false, false, false] rfl rfl (by kernel_rfl) (fun _ _ _ h => h) (Or.inr ⟨by rfl, rfl⟩) ?_ ?_
                rotate_left
                · simp only [Act.put, List.setIfInBounds_toArray, List.set_cons_zero, List.set_cons_succ, i64_w, i32_w]
                  rfl
                refine pure_ (i := 13) (N := some 41) (v := ?_) (a' := ?_) #[true, true, true, true, true, true, true, true, true, true, true, true, true, true, false, false, false, false, false, false, false, false, false, false, false] rfl rfl (by kernel_rfl) (fun _ _ _ h => h) (Or.inl ⟨by rfl, ?_⟩) ?_ ?_
                rotate_left
                · intro w'
                  go_simp
                  with_reducible rfl
                rotate_left
                · simp only [Act.put, List.setIfInBounds_toArray, List.set_cons_zero, List.set_cons_succ, i64_w, i32_w]
                  rfl
                refine pure_ (i := 14) (N := some 42) (v := ?_) (a' := ?_) #[true, true, true, true, true, true, true, true, true, true, true, true, true, true, true, false, false, false, false, false, false, false, false, false, false] rfl rfl (by kernel_rfl) (fun _ _ _ h => h) (Or.inl ⟨by rfl, ?_⟩) ?_ ?_
                rotate_left
                · intro w'
                  go_simp
                  with_reducible rfl
                rotate_left
                · simp only [Act.put, List.setIfInBounds_toArray, List.set_cons_zero, List.set_cons_succ, i64_w, i32_w]
                  rfl
                refine pure_ (i := 15) (N := some 43) (v := undef) (a' := ?_) #[true, true, true, true, true, true, true, true, true, true, true, true, true, true, true, true, false, false, false, false, false, false, false, false, false] rfl rfl (by kernel_rfl) (fun _ _ _ h => h) (Or.inr ⟨by rfl, rfl⟩) ?_ ?_
                rotate_left
                · simp only [Act.put, List.setIfInBounds_toArray, List.set_cons_zero, List.set_cons_succ, i64_w, i32_w]
                  rfl
                refine pure_ (i := 16) (N := some 44) (v := undef) (a' := ?_) #[true, true, true, true, true, true, true, true, true, true, true, true, true, true, true, true, true, false, false, false, false, false, false, false, false] rfl rfl (by kernel_rfl) (fun _ _ _ h => h) (Or.inr ⟨by rfl, rfl⟩) ?_ ?_
                rotate_left
                · simp only [Act.put, List.setIfInBounds_toArray, List.set_cons_zero, List.set_cons_succ, i64_w, i32_w]
                  rfl
                refine pure_ (i := 17) (N := some 45) (v := undef) (a' := ?_) #[true, true, true, true, true, true, true, true, true, true, true, true, true, true, true, true, true, true, false, false, false, false, false, false, false] rfl rfl (by kernel_rfl) (fun _ _ _ h => h) (Or.inr ⟨by rfl, rfl⟩) ?_ ?_
                rotate_left
                · simp only [Act.put, List.setIfInBounds_toArray, List.set_cons_zero, List.set_cons_succ, i64_w, i32_w]
                  rfl
                refine pure_ (i := 18) (N := some 46) (v := undef) (a' := ?_) #[true, true, true, true, true, true, true, true, true, true, true, true, true, true, true, true, true, true, true, false, false, false, false, false, false] rfl rfl (by kernel_rfl) (fun _ _ _ h => h) (Or.inr ⟨by rfl, rfl⟩) ?_ ?_
                rotate_left
                · simp only [Act.put, List.setIfInBounds_toArray, List.set_cons_zero, List.set_cons_succ, i64_w, i32_w]
                  rfl
                refine pure_ (i := 19) (N := some 47) (v := undef) (a' := ?_) #[true, true, true, true, true, true, true, true, true, true, true, true, true, true, true, true, true, true, true, true, false, false, false, false, false] rfl rfl (by kernel_rfl) (fun _ _ _ h => h) (Or.inr ⟨by rfl, rfl⟩) ?_ ?_
                rotate_left
                · simp only [Act.put, List.setIfInBounds_toArray, List.set_cons_zero, List.set_cons_succ, i64_w, i32_w]
                  rfl
                refine pure_ (i := 20) (N := some 48) (v := undef) (a' := ?_) #[true, true, true, true, true, true, true, true, true, true, true, true, true, true, true, true, true, true, true, true, true, false, false, false, false] rfl rfl (by kernel_rfl) (fun _ _ _ h => h) (Or.inr ⟨by rfl, rfl⟩) ?_ ?_
                rotate_left
                · simp only [Act.put, List.setIfInBounds_toArray, List.set_cons_zero, List.set_cons_succ, i64_w, i32_w]
                  rfl
                refine pure_ (i := 21) (N := some 49) (v := undef) (a' := ?_) #[true, true, true, true, true, true, true, true, true, true, true, true, true, true, true, true, true, true, true, true, true, true, false, false, false] rfl rfl (by kernel_rfl) (fun _ _ _ h => h) (Or.inr ⟨by rfl, rfl⟩) ?_ ?_
                rotate_left
                · simp only [Act.put, List.setIfInBounds_toArray, List.set_cons_zero, List.set_cons_succ, i64_w, i32_w]
                  rfl
                refine pure_ (i := 22) (N := some 50) (v := undef) (a' := ?_) #[true, true, true, true, true, true, true, true, true, true, true, true, true, true, true, true, true, true, true, true, true, true, true, false, false] rfl rfl (by kernel_rfl) (fun _ _ _ h => h) (Or.inr ⟨by rfl, rfl⟩) ?_ ?_
                rotate_left
                · simp only [Act.put, List.setIfInBounds_toArray, List.set_cons_zero, List.set_cons_succ, i64_w, i32_w]
                  rfl
                refine pure_ (i := 23) (N := some 51) (v := ?_) (a' := ?_) #[true, true, true, true, true, true, true, true, true, true, true, true, true, true, true, true, true, true, true, true, true, true, true, true, false] rfl rfl (by kernel_rfl) (fun _ _ _ h => h) (Or.inl ⟨by rfl, ?_⟩) ?_ ?_
                rotate_left
                · intro w'
                  go_simp
                  with_reducible rfl
                rotate_left
                · simp only [Act.put, List.setIfInBounds_toArray, List.set_cons_zero, List.set_cons_succ, i64_w, i32_w]
                  rfl
                refine pure_ (i := 24) (N := some 2) (v := ?_) (a' := ?_) #[true, true, true, true, true, true, true, true, true, true, true, true, true, true, true, true, true, true, true, true, true, true, true, true, true] rfl rfl (by kernel_rfl) (fun _ _ _ h => h) (Or.inl ⟨by rfl, ?_⟩) ?_ ?_
                rotate_left
                · intro w'
                  go_simp
                  with_reducible rfl
                rotate_left
                · simp only [Act.put, List.setIfInBounds_toArray, List.set_cons_zero, List.set_cons_succ, i64_w, i32_w]
                  rfl
                refine done_ (by kernel_rfl) ?_
                replace HS : Aside0 (Sep (fps []) w [] w2387) := ⟨HS.out.sub (.cons _ .slnil)⟩
                go_wp2_with fail
                go_ret
                rw [← some_eq H]
                exact ⟨(by first | rfl | (simp [IntKind.wrap_u32]; done)), HS.out⟩
            · replace H := if_no c2382 H
              have c2382b0 : (a2300 == 0) = false := beq_eq_false_iff_ne.mpr c2382
              have c2382b1 : (a2300 != 0) = true := bne_iff_ne.mpr c2382
              clear c2382
              by_cases c2395 : a2300 = 3
              · replace H := if_yes c2395 H
                have c2395b0 : (a2300 == 3) = true := beq_iff_eq.mpr c2395
                have c2395b1 : (a2300 != 3) = false := bne_eq_false_iff_eq.mpr c2395
                clear c2395
                have hc2377 : w2368.cell? ⟨g2307, 0, none⟩ = some (.int .i64 a2300) := blk_cellv (HS.out.at0) 0 rfl
                go_wp2_with fail
                clear hc2377
                refine start_ (n := 25) (S := (fun w' => w'.cell? ⟨g2307, 0, none⟩ = some (.int .i64 a2300) ∧ w'.cell? ⟨g2307, 1, none⟩ = some (.int .i64 a2301) ∧ w'.cell? ⟨g2307, 2, none⟩ = some (.int .i64 a2302) ∧ w'.cell? ⟨g2307, 3, none⟩ = some (.int .i64 a2303) ∧ w'.cell? ⟨g2307, 4, none⟩ = some (.int .i64 a2304) ∧ w'.cell? ⟨g2307, 5, none⟩ = some (.int .i64 a2305) ∧ w'.cell? ⟨g2307, 6, none⟩ = some (.int .i64 a2306) ∧ w'.cell? ⟨0, 0, none⟩ = some (.int .i64 0) ∧ w'.cell? ⟨0, 1, none⟩ = some (.int .i64 0) ∧ w'.cell? ⟨0, 2, none⟩ = some (.int .i64 0) ∧ w'.cell? ⟨0, 3, none⟩ = some (.int .i64 0) ∧ w'.cell? ⟨0, 4, none⟩ = some (.int .i64 0))) (ds := []) #[false, false, false, false, false, false, false, false, false, false, false, false, false, false, false, false, false, false, false, false, false, false, false, false, false] (by kernel_rfl) rfl rfl (⟨blk_cellv ((HS.out.drew).at0) 0 rfl, blk_cellv ((HS.out.drew).at0) 1 rfl, blk_cellv ((HS.out.drew).at0) 2 rfl, blk_cellv ((HS.out.drew).at0) 3 rfl, blk_cellv ((HS.out.drew).at0) 4 rfl, blk_cellv ((HS.out.drew).at0) 5 rfl, blk_cellv ((HS.out.drew).at0) 6 rfl, Gl.cell HGl0.out (HS.out.drew).fr 0 rfl, Gl.cell HGl0.out (HS.out.drew).fr 1 rfl, Gl.cell HGl0.out (HS.out.drew).fr 2 rfl, Gl.cell HGl0.out (HS.out.drew).fr 3 rfl, Gl.cell HGl0.out (HS.out.drew).fr 4 rfl⟩) (fun hHeld => ?_)
                have HS_ := Aside0.mk HS.out.drew
                clear HS
                generalize World.drew _ = w2397 at HS_ hHeld ⊢
                have HS := HS_
                clear HS_
                refine take_ (i := 0) (N := some 28) (v := ?_) (a' := ?_) #[true, false, false, false, false, false, false, false, false, false, false, false, false, false, false, false, false, false, false, false, false, false, false, false, false] rfl rfl (by kernel_rfl) (fun _ _ _ h => h) (Or.inl ⟨by rfl, ?_⟩) hHeld ?_ ?_
                rotate_left
                · rintro w' hS'
                  obtain ⟨s0, s1, s2, s3, s4, s5, s6, s7, s8, s9, s10, s11⟩ := hS'
                  go_simp
                  with_reducible rfl
                rotate_left
                · simp only [Act.put, List.setIfInBounds_toArray, List.set_cons_zero, List.set_cons_succ, i64_w, i32_w]
                  rfl
                refine take_ (i := 2) (N := some 30) (v := ?_) (a' := ?_) #[true, false, true, false, false, false, false, false, false, false, false, false, false, false, false, false, false, false, false, false, false, false, false, false, false] rfl rfl (by kernel_rfl) (fun _ _ _ h => h) (Or.inl ⟨by rfl, ?_⟩) hHeld ?_ ?_
                rotate_left
                · rintro w' hS'
                  obtain ⟨s0, s1, s2, s3, s4, s5, s6, s7, s8, s9, s10, s11⟩ := hS'
                  go_simp
                  with_reducible rfl
                rotate_left
                · simp only [Act.put, List.setIfInBounds_toArray, List.set_cons_zero, List.set_cons_succ, i64_w, i32_w]
                  rfl
                refine one_ (i := 1) (N := some 29) #[true, true, true, false, false, false, false, false, false, false, false, false, false, false, false, false, false, false, false, false, false, false, false, false, false] rfl rfl (by kernel_rfl) (by decide) (fun K hK => ?_)
                obtain ⟨t2385, HA2398, H⟩ := bind_some H
                refine goes_ Tryd.func68 (by kernel_rfl) rfl #[.agg #[.int .i64 a2300, .int .i64 a2301, .int .i64 a2302, .int .i64 a2303, .int .i64 a2304, .int .i64 a2305, .int .i64 a2306]] (by rfl) rfl rfl (by (try simp only [List.map_toArray, List.map_cons, List.map_nil]); first | done | rfl) ?_
                refine (tag_marks.calls a2300 a2301 a2302 a2303 a2304 a2305 a2306 t2385 _ ⟨HGl0.out.pass (l := []) HS.out⟩ ⟨Sep.start _⟩ HA2398).mono ?_
                rintro e_ w2399 ⟨rfl, hS⟩
                replace HS : Aside0 (Sep (fps []) w [b16 g2307 a2300 a2301 a2302 a2303 a2304 a2305 a2306] w2399) := ⟨HS.out.call hS⟩
                clear hS
                refine ⟨_, rfl, ?_⟩
                refine hK.out _ _ (⟨blk_cellv (HS.out.at0) 0 rfl, blk_cellv (HS.out.at0) 1 rfl, blk_cellv (HS.out.at0) 2 rfl, blk_cellv (HS.out.at0) 3 rfl, blk_cellv (HS.out.at0) 4 rfl, blk_cellv (HS.out.at0) 5 rfl, blk_cellv (HS.out.at0) 6 rfl, Gl.cell HGl0.out HS.out.fr 0 rfl, Gl.cell HGl0.out HS.out.fr 1 rfl, Gl.cell HGl0.out HS.out.fr 2 rfl, Gl.cell HGl0.out HS.out.fr 3 rfl, Gl.cell HGl0.out HS.out.fr 4 rfl⟩) (fun hHeld => ?_)
                clear hK K
                refine norm_ (a' := ?_) ?_ ?_
                rotate_left
                · show Act.put _ (some 29) _ = _
                  simp only [Act.put, List.setIfInBounds_toArray, List.set_cons_zero, List.set_cons_succ, i64_w, i32_w]
                  rfl
                obtain ⟨b2389, HA2401, H⟩ := bind_some H
                have eb2400 : ∀ w, (Op.equalIn 10000 108 (.agg #[.int .i64 t2385.1, .int .i64 t2385.2.1, .int .i64 t2385.2.2.1, .int .i64 t2385.2.2.2.1, .int .i64 t2385.2.2.2.2]) (.agg #[.int .i64 0, .int .i64 0, .int .i64 0, .int .i64 0, .int .i64 0])).run Tryd.prog w = .ok b2389 w := some_eq HA2401 ▸ run_eq_ints 9998 108 3 5 .i64 [t2385.1, t2385.2.1, t2385.2.2.1, t2385.2.2.2.1, t2385.2.2.2.2] [0, 0, 0, 0, 0] Tryd.underlying108 (by kernel_rfl) (by kernel_rfl) Tryd.underlying3 (fun _ => by kernel_rfl) rfl rfl
                refine pure_ (i := 3) (N := some 31) (v := ?_) (a' := ?_) #[true, true, true, true, false, false, false, false, false, false, false, false, false, false, false, false, false, false, false, false, false, false, false, false, false] rfl rfl (by kernel_rfl) (fun _ _ _ h => h) (Or.inl ⟨by rfl, ?_⟩) ?_ ?_
                rotate_left
                · intro w'
                  go_simp
                  with_reducible rfl
                rotate_left
                · simp only [Act.put, List.setIfInBounds_toArray, List.set_cons_zero, List.set_cons_succ, i64_w, i32_w]
                  rfl
                refine pure_ (i := 4) (N := some 32) (v := ?_) (a' := ?_) #[true, true, true, true, true, false, false, false, false, false, false, false, false, false, false, false, false, false, false, false, false, false, false, false, false] rfl rfl (by kernel_rfl) (fun _ _ _ h => h) (Or.inl ⟨by rfl, ?_⟩) ?_ ?_
                rotate_left
                · intro w'
                  go_simp
                  with_reducible rfl
                rotate_left
                · simp only [Act.put, List.setIfInBounds_toArray, List.set_cons_zero, List.set_cons_succ, i64_w, i32_w]
                  rfl
                by_cases c2402 : b2389 = true
                · replace H := if_yes c2402 H
                  have c2402b0 : b2389 = true := c2402
                  have c2402b1 : (!b2389) = false := by rw [c2402b0]; rfl
                  clear c2402
                  try simp only [c2402b0, Bool.not_true, Bool.not_false]
                  refine pure_ (i := 5) (N := some 33) (v := ?_) (a' := ?_) #[true, true, true, true, true, true, false, false, false, false, false, false, false, false, false, false, false, false, false, false, false, false, false, false, false] rfl rfl (by kernel_rfl) (fun _ _ _ h => h) (Or.inl ⟨by rfl, ?_⟩) ?_ ?_
                  rotate_left
                  · intro w'
                    go_simp
                    with_reducible rfl
                  rotate_left
                  · simp only [Act.put, List.setIfInBounds_toArray, List.set_cons_zero, List.set_cons_succ, i64_w, i32_w]
                    rfl
                  try simp only [c2402b0, Bool.not_true, Bool.not_false]
                  refine take_ (i := 6) (N := some 34) (v := ?_) (a' := ?_) #[true, true, true, true, true, true, true, false, false, false, false, false, false, false, false, false, false, false, false, false, false, false, false, false, false] rfl rfl (by kernel_rfl) (fun _ _ _ h => h) (Or.inl ⟨by rfl, ?_⟩) hHeld ?_ ?_
                  rotate_left
                  · rintro w' hS'
                    obtain ⟨s0, s1, s2, s3, s4, s5, s6, s7, s8, s9, s10, s11⟩ := hS'
                    go_simp
                    with_reducible rfl
                  rotate_left
                  · simp only [Act.put, List.setIfInBounds_toArray, List.set_cons_zero, List.set_cons_succ, i64_w, i32_w]
                    rfl
                  try simp only [c2402b0, Bool.not_true, Bool.not_false]
                  refine pure_ (i := 7) (N := some 35) (v := ?_) (a' := ?_) #[true, true, true, true, true, true, true, true, false, false, false, false, false, false, false, false, false, false, false, false, false, false, false, false, false] rfl rfl (by kernel_rfl) (fun _ _ _ h => h) (Or.inl ⟨by rfl, ?_⟩) ?_ ?_
                  rotate_left
                  · intro w'
                    go_simp
                    with_reducible rfl
                  rotate_left
                  · simp only [Act.put, List.setIfInBounds_toArray, List.set_cons_zero, List.set_cons_succ, i64_w, i32_w]
                    rfl
                  refine pure_ (i := 8) (N := some 36) (v := ?_) (a' := ?_) #[true, true, true, true, true, true, true, true, true, false, false, false, false, false, false, false, false, false, false, false, false, false, false, false, false] rfl rfl (by kernel_rfl) (fun _ _ _ h => h) (Or.inl ⟨by rfl, ?_⟩) ?_ ?_
                  rotate_left
                  · intro w'
                    go_simp
                    with_reducible rfl
                  rotate_left
                  · simp only [Act.put, List.setIfInBounds_toArray, List.set_cons_zero, List.set_cons_succ, i64_w, i32_w]
                    rfl
                  refine pure_ (i := 9) (N := some 37) (v := ?_) (a' := ?_) #[true, true, true, true, true, true, true, true, true, true, false, false, false, false, false, false, false, false, false, false, false, false, false, false, false] rfl rfl (by kernel_rfl) (fun _ _ _ h => h) (Or.inl ⟨by rfl, ?_⟩) ?_ ?_
                  rotate_left
                  · intro w'
                    go_simp
                    with_reducible rfl
                  rotate_left
                  · simp only [Act.put, List.setIfInBounds_toArray, List.set_cons_zero, List.set_cons_succ, i64_w, i32_w]
                    rfl
                  by_cases c2403 : a2306 ≥ 0
                  · replace H := if_yes c2403 H
                    have c2403b0 : decide (0 ≤ a2306) = true := decide_eq_true c2403
                    clear c2403
                    try simp only [c2403b0, Bool.not_true, Bool.not_false]
                    refine pure_ (i := 10) (N := some 38) (v := ?_) (a' := ?_) #[true, true, true, true, true, true, true, true, true, true, true, false, false, false, false, false, false, false, false, false, false, false, false, false, false] rfl rfl (by kernel_rfl) (fun _ _ _ h => h) (Or.inl ⟨by rfl, ?_⟩) ?_ ?_
                    rotate_left
                    · intro w'
                      go_simp
                      with_reducible rfl
                    rotate_left
                    · simp only [Act.put, List.setIfInBounds_toArray, List.set_cons_zero, List.set_cons_succ, i64_w, i32_w]
                      rfl
                    try simp only [c2403b0, Bool.not_true, Bool.not_false]
                    refine take_ (i := 11) (N := some 39) (v := ?_) (a' := ?_) #[true, true, true, true, true, true, true, true, true, true, true, true, false, false, false, false, false, false, false, false, false, false, false, false, false] rfl rfl (by kernel_rfl) (fun _ _ _ h => h) (Or.inl ⟨by rfl, ?_⟩) hHeld ?_ ?_
                    rotate_left
                    · rintro w' hS'
                      obtain ⟨s0, s1, s2, s3, s4, s5, s6, s7, s8, s9, s10, s11⟩ := hS'
                      go_simp
                      with_reducible rfl
                    rotate_left
                    · simp only [Act.put, List.setIfInBounds_toArray, List.set_cons_zero, List.set_cons_succ, i64_w, i32_w]
                      rfl
                    try simp only [c2403b0, Bool.not_true, Bool.not_false]
                    refine pure_ (i := 12) (N := some 40) (v := ?_) (a' := ?_) #[true, true, true, true, true, true, true, true, true, true, true, true, true, false, false, false, false, false, false, false, false, false, false, false, false] rfl rfl (by kernel_rfl) (fun _ _ _ h => h) (Or.inl ⟨by rfl, ?_⟩) ?_ ?_
                    rotate_left
                    · intro w'
                      go_simp
                      with_reducible rfl
                    rotate_left
                    · simp only [Act.put, List.setIfInBounds_toArray, List.set_cons_zero, List.set_cons_succ, i64_w, i32_w]
                      rfl
                    refine pure_ (i := 13) (N := some 41) (v := ?_) (a' := ?_) #[true, true, true, true, true, true, true, true, true, true, true, true, true, true, false, false, false, false, false, false, false, false, false, false, false] rfl rfl (by kernel_rfl) (fun _ _ _ h => h) (Or.inl ⟨by rfl, ?_⟩) ?_ ?_
                    rotate_left
                    · intro w'
                      go_simp
                      with_reducible rfl
                    rotate_left
                    · simp only [Act.put, List.setIfInBounds_toArray, List.set_cons_zero, List.set_cons_succ, i64_w, i32_w]
                      rfl
                    refine pure_ (i := 14) (N := some 42) (v := ?_) (a' := ?_) #[true, true, true, true, true, true, true, true, true, true, true, true, true, true, true, false, false, false, false, false, false, false, false, false, false] rfl rfl (by kernel_rfl) (fun _ _ _ h => h) (Or.inl ⟨by rfl, ?_⟩) ?_ ?_
                    rotate_left
                    · intro w'
                      go_simp
                      with_reducible rfl
                    rotate_left
                    · simp only [Act.put, List.setIfInBounds_toArray, List.set_cons_zero, List.set_cons_succ, i64_w, i32_w]
                      rfl
                    by_cases c2404 : a2306 < 1048576
                    · replace H := if_yes c2404 H
                      have c2404b0 : decide (a2306 < 1048576) = true := decide_eq_true c2404
                      clear c2404
                      try simp only [c2404b0, Bool.not_true, Bool.not_false]
                      refine pure_ (i := 15) (N := some 43) (v := ?_) (a' := ?_) #[true, true, true, true, true, true, true, true, true, true, true, true, true, true, true, true, false, false, false, false, false, false, false, false, false] rfl rfl (by kernel_rfl) (fun _ _ _ h => h) (Or.inl ⟨by rfl, ?_⟩) ?_ ?_
                      rotate_left
                      · intro w'
                        go_simp
                        with_reducible rfl
                      rotate_left
                      · simp only [Act.put, List.setIfInBounds_toArray, List.set_cons_zero, List.set_cons_succ, i64_w, i32_w]
                        rfl
                      try simp only [c2404b0, Bool.not_true, Bool.not_false]
                      refine take_ (i := 16) (N := some 44) (v := ?_) (a' := ?_) #[true, true, true, true, true, true, true, true, true, true, true, true, true, true, true, true, true, false, false, false, false, false, false, false, false] rfl rfl (by kernel_rfl) (fun _ _ _ h => h) (Or.inl ⟨by rfl, ?_⟩) hHeld ?_ ?_
                      rotate_left
                      · rintro w' hS'
                        obtain ⟨s0, s1, s2, s3, s4, s5, s6, s7, s8, s9, s10, s11⟩ := hS'
                        go_simp
                        with_reducible rfl
                      rotate_left
                      · simp only [Act.put, List.setIfInBounds_toArray, List.set_cons_zero, List.set_cons_succ, i64_w, i32_w]
                        rfl
                      try simp only [c2404b0, Bool.not_true, Bool.not_false]
                      refine pure_ (i := 17) (N := some 45) (v := ?_) (a' := ?_) #[true, true, true, true, true, true, true, true, true, true, true, true, true, true, true, true, true, true, false, false, false, false, false, false, false] rfl rfl (by kernel_rfl) (fun _ _ _ h => h) (Or.inl ⟨by rfl, ?_⟩) ?_ ?_
                      rotate_left
                      · intro w'
                        go_simp
                        with_reducible rfl
                      rotate_left
                      · simp only [Act.put, List.setIfInBounds_toArray, List.set_cons_zero, List.set_cons_succ, i64_w, i32_w]
                        rfl
                      try simp only [c2404b0, Bool.not_true, Bool.not_false]
                      refine pure_ (i := 18) (N := some 46) (v := ?_) (a' := ?_) #[true, true, true, true, true, true, true, true, true, true, true, true, true, true, true, true, true, true, true, false, false, false, false, false, false] rfl rfl (by kernel_rfl) (fun _ _ _ h => h) (Or.inl ⟨by rfl, ?_⟩) ?_ ?_
                      rotate_left
                      · intro w'
                        go_simp
                        with_reducible rfl
                      rotate_left
                      · simp only [Act.put, List.setIfInBounds_toArray, List.set_cons_zero, List.set_cons_succ, i64_w, i32_w]
                        rfl
                      try simp only [c2395b0, Bool.not_true, Bool.not_false]
                      refine pure_ (i := 19) (N := some 47) (v := undef) (a' := ?_) #[true, true, true, true, true, true, true, true, true, true, true, true, true, true, true, true, true, true, true, true, false, false, false, false, false] rfl rfl (by kernel_rfl) (fun _ _ _ h => h) (Or.inr ⟨by rfl, rfl⟩) ?_ ?_
                      rotate_left
                      · simp only [Act.put, List.setIfInBounds_toArray, List.set_cons_zero, List.set_cons_succ, i64_w, i32_w]
                        rfl
                      try simp only [c2395b0, Bool.not_true, Bool.not_false]
                      refine pure_ (i := 20) (N := some 48) (v := undef) (a' := ?_) #[true, true, true, true, true, true, true, true, true, true, true, true, true, true, true, true, true, true, true, true, true, false, false, false, false] rfl rfl (by kernel_rfl) (fun _ _ _ h => h) (Or.inr ⟨by rfl, rfl⟩) ?_ ?_
                      rotate_left
                      · simp only [Act.put, List.setIfInBounds_toArray, List.set_cons_zero, List.set_cons_succ, i64_w, i32_w]
                        rfl
                      try simp only [c2395b0, Bool.not_true, Bool.not_false]
                      refine pure_ (i := 21) (N := some 49) (v := undef) (a' := ?_) #[true, true, true, true, true, true, true, true, true, true, true, true, true, true, true, true, true, true, true, true, true, true, false, false, false] rfl rfl (by kernel_rfl) (fun _ _ _ h => h) (Or.inr ⟨by rfl, rfl⟩) ?_ ?_
                      rotate_left
                      · simp only [Act.put, List.setIfInBounds_toArray, List.set_cons_zero, List.set_cons_succ, i64_w, i32_w]
                        rfl
                      try simp only [c2404b0, Bool.not_true, Bool.not_false]
                      refine pure_ (i := 22) (N := some 50) (v := ?_) (a' := ?_) #[true, true, true, true, true, true, true, true, true, true, true, true, true, true, true, true, true, true, true, true, true, true, true, false, false] rfl rfl (by kernel_rfl) (fun _ _ _ h => h) (Or.inl ⟨by rfl, ?_⟩) ?_ ?_
                      rotate_left
                      · intro w'
                        go_simp
                        with_reducible rfl
                      rotate_left
                      · simp only [Act.put, List.setIfInBounds_toArray, List.set_cons_zero, List.set_cons_succ, i64_w, i32_w]
                        rfl
                      refine pure_ (i := 23) (N := some 51) (v := ?_) (a' := ?_) #[true, true, true, true, true, true, true, true, true, true, true, true, true, true, true, true, true, true, true, true, true, true, true, true, false] rfl rfl (by kernel_rfl) (fun _ _ _ h => h) (Or.inl ⟨by rfl, ?_⟩) ?_ ?_
                      rotate_left
                      · intro w'
                        go_simp
                        with_reducible rfl
                      rotate_left
                      · simp only [Act.put, List.setIfInBounds_toArray, List.set_cons_zero, List.set_cons_succ, i64_w, i32_w]
                        rfl
                      refine pure_ (i := 24) (N := some 2) (v := ?_) (a' := ?_) #[true, true, true, true, true, true, true, true, true, true, true, true, true, true, true, true, true, true, true, true, true, true, true, true, true] rfl rfl (by kernel_rfl) (fun _ _ _ h => h) (Or.inl ⟨by rfl, ?_⟩) ?_ ?_
                      rotate_left
                      · intro w'
                        go_simp
                        with_reducible rfl
                      rotate_left
                      · simp only [Act.put, List.setIfInBounds_toArray, List.set_cons_zero, List.set_cons_succ, i64_w, i32_w]
                        rfl
                      refine done_ (by kernel_rfl) ?_
                      replace HS : Aside0 (Sep (fps []) w [] w2399) := ⟨HS.out.sub (.cons _ .slnil)⟩
                      go_wp2_with fail
                      go_ret
                      rw [← some_eq H]
                      exact ⟨(by first | rfl | (simp [IntKind.wrap_u32]; done)), HS.out⟩
                    · replace H := if_no c2404 H
                      have c2404b0 : decide (a2306 < 1048576) = false := decide_eq_false c2404
                      clear c2404
                      try simp only [c2404b0, Bool.not_true, Bool.not_false]
                      refine pure_ (i := 15) (N := some 43) (v := undef) (a' := ?_) #[true, true, true, true, true, true, true, true, true, true, true, true, true, true, true, true, false, false, false, false, false, false, false, false, false] rfl rfl (by kernel_rfl) (fun _ _ _ h => h) (Or.inr ⟨by rfl, rfl⟩) ?_ ?_
                      rotate_left
                      · simp only [Act.put, List.setIfInBounds_toArray, List.set_cons_zero, List.set_cons_succ, i64_w, i32_w]
                        rfl
                      try simp only [c2404b0, Bool.not_true, Bool.not_false]
                      refine pure_ (i := 16) (N := some 44) (v := undef) (a' := ?_) #[true, true, true, true, true, true, true, true, true, true, true, true, true, true, true, true, true, false, false, false, false, false, false, false, false] rfl rfl (by kernel_rfl) (fun _ _ _ h => h) (Or.inr ⟨by rfl, rfl⟩) ?_ ?_
                      rotate_left
                      · simp only [Act.put, List.setIfInBounds_toArray, List.set_cons_zero, List.set_cons_succ, i64_w, i32_w]
                        rfl
                      try simp only [c2404b0, Bool.not_true, Bool.not_false]
                      refine pure_ (i := 17) (N := some 45) (v := undef) (a' := ?_) #[true, true, true, true, true, true, true, true, true, true, true, true, true, true, true, true, true, true, false, false, false, false, false, false, false] rfl rfl (by kernel_rfl) (fun _ _ _ h => h) (Or.inr ⟨by rfl, rfl⟩) ?_ ?_
                      rotate_left
                      · simp only [Act.put, List.setIfInBounds_toArray, List.set_cons_zero, List.set_cons_succ, i64_w, i32_w]
                        rfl
                      try simp only [c2404b0, Bool.not_true, Bool.not_false]
                      refine pure_ (i := 18) (N := some 46) (v := undef) (a' := ?_) #[true, true, true, true, true, true, true, true, true, true, true, true, true, true, true, true, true, true, true, false, false, false, false, false, false] rfl rfl (by kernel_rfl) (fun _ _ _ h => h) (Or.inr ⟨by rfl, rfl⟩) ?_ ?_
                      rotate_left
                      · simp only [Act.put, List.setIfInBounds_toArray, List.set_cons_zero, List.set_cons_succ, i64_w, i32_w]
                        rfl
                      refine pure_ (i := 19) (N := some 47) (v := undef) (a' := ?_) #[true, true, true, true, true, true, true, true, true, true, true, true, true, true, true, true, true, true, true, true, false, false, false, false, false] rfl rfl (by kernel_rfl) (fun _ _ _ h => h) (Or.inr ⟨by rfl, rfl⟩) ?_ ?_
                      rotate_left
                      · simp only [Act.put, List.setIfInBounds_toArray, List.set_cons_zero, List.set_cons_succ, i64_w, i32_w]
                        rfl
                      refine pure_ (i := 20) (N := some 48) (v := undef) (a' := ?_) #[true, true, true, true, true, true, true, true, true, true, true, true, true, true, true, true, true, true, true, true, true, false, false, false, false] rfl rfl (by kernel_rfl) (fun _ _ _ h => h) (Or.inr ⟨by rfl, rfl⟩) ?_ ?_
                      rotate_left
                      · simp only [Act.put, List.setIfInBounds_toArray, List.set_cons_zero, List.set_cons_succ, i64_w, i32_w]
                        rfl
                      refine pure_ (i := 21) (N := some 49) (v := undef) (a' := ?_) #[true, true, true, true, true, true, true, true, true, true, true, true, true, true, true, true, true, true, true, true, true, true, false, false, false] rfl rfl (by kernel_rfl) (fun _ _ _ h => h) (Or.inr ⟨by rfl, rfl⟩) ?_ ?_
                      rotate_left
                      · simp only [Act.put, List.setIfInBounds_toArray, List.set_cons_zero, List.set_cons_succ, i64_w, i32_w]
                        rfl
                      try simp only [c2404b0, Bool.not_true, Bool.not_false]
                      refine pure_ (i := 22) (N := some 50) (v := undef) (a' := ?_) #[true, true, true, true, true, true, true, true, true, true, true, true, true, true, true, true, true, true, true, true, true, true, true, false, false] rfl rfl (by kernel_rfl) (fun _ _ _ h => h) (Or.inr ⟨by rfl, rfl⟩) ?_ ?_
                      rotate_left
                      · simp only [Act.put, List.setIfInBounds_toArray, List.set_cons_zero, List.set_cons_succ, i64_w, i32_w]
                        rfl
                      refine pure_ (i := 23) (N := some 51) (v := ?_) (a' := ?_) #[true, true, true, true, true, true, true, true, true, true, true, true, true, true, true, true, true, true, true, true, true, true, true, true, false] rfl rfl (by kernel_rfl) (fun _ _ _ h => h) (Or.inl ⟨by rfl, ?_⟩) ?_ ?_
                      rotate_left
                      · intro w'
                        go_simp
                        with_reducible rfl
                      rotate_left
                      · simp only [Act.put, List.setIfInBounds_toArray, List.set_cons_zero, List.set_cons_succ, i64_w, i32_w]
                        rfl
                      refine pure_ (i := 24) (N := some 2) (v := ?_) (a' := ?_) #[true, true, true, true, true, true, true, true, true, true, true, true, true, true, true, true, true, true, true, true, true, true, true, true, true] rfl rfl (by kernel_rfl) (fun _ _ _ h => h) (Or.inl ⟨by rfl, ?_⟩) ?_ ?_
                      rotate_left
                      · intro w'
                        go_simp
                        with_reducible rfl
                      rotate_left
                      · simp only [Act.put, List.setIfInBounds_toArray, List.set_cons_zero, List.set_cons_succ, i64_w, i32_w]
                        rfl
                      refine done_ (by kernel_rfl) ?_
                      replace HS : Aside0 (Sep (fps []) w [] w2399) := ⟨HS.out.sub (.cons _ .slnil)⟩
                      go_wp2_with fail
                      go_ret
                      rw [← some_eq H]
                      exact ⟨(by first | rfl | (simp [IntKind.wrap_u32]; done)), HS.out⟩
                  · replace H := if_no c2403 H
                    have c2403b0 : decide (0 ≤ a2306) = false := decide_eq_false c2403
                    clear c2403
                    try simp only [c2403b0, Bool.not_true, Bool.not_false]
                    refine pure_ (i := 10) (N := some 38) (v := undef) (a' := ?_) #[true, true, true, true, true, true, true, true, true, true, true, false, false, false, false, false, false, false, false, false, false, false, false, false, false] rfl rfl (by kernel_rfl) (fun _ _ _ h => h) (Or.inr ⟨by rfl, rfl⟩) ?_ ?_
                    rotate_left
                    · simp only [Act.put, List.setIfInBounds_toArray, List.set_cons_zero, List.set_cons_succ, i64_w, i32_w]
                      rfl
                    try simp only [c2403b0, Bool.not_true, Bool.not_false]
                    refine pure_ (i := 11) (N := some 39) (v := undef) (a' := ?_) #[true, true, true, true, true, true, true, true, true, true, true, true, false, false, false, false, false, false, false, false, false, false, false, false, false] rfl rfl (by kernel_rfl) (fun _ _ _ h => h) (Or.inr ⟨by rfl, rfl⟩) ?_ ?_
                    rotate_left
                    · simp only [Act.put, List.setIfInBounds_toArray, List.set_cons_zero, List.set_cons_succ, i64_w, i32_w]
                      rfl
                    try simp only [c2403b0, Bool.not_true, Bool.not_false]
                    refine pure_ (i := 12) (N := some 40) (v := undef) (a' := ?_) #[true, true, true, true, true, true, true, true, true, true, true, true, true, false, false, false, false, false, false, false, false, false, false, false, false] rfl rfl (by kernel_rfl) (fun _ _ _ h => h) (Or.inr ⟨by rfl, rfl⟩) ?_ ?_
                    rotate_left
                    · simp only [Act.put, List.setIfInBounds_toArray, List.set_cons_zero, List.set_cons_succ, i64_w, i32_w]
                      rfl
                    refine pure_ (i := 13) (N := some 41) (v := ?_) (a' := ?_) #[true, true, true, true, true, true, true, true, true, true, true, true, true, true, false, false, false, false, false, false, false, false, false, false, false] rfl rfl (by kernel_rfl) (fun _ _ _ h => h) (Or.inl ⟨by rfl, ?_⟩) ?_ ?_
                    rotate_left
                    · intro w'
                      go_simp
                      with_reducible rfl
                    rotate_left
                    · simp only [Act.put, List.setIfInBounds_toArray, List.set_cons_zero, List.set_cons_succ, i64_w, i32_w]
                      rfl
                    refine pure_ (i := 14) (N := some 42) (v := ?_) (a' := ?_) #[true, true, true, true, true, true, true, true, true, true, true, true, true, true, true, false, false, false, false, false, false, false, false, false, false] rfl rfl (by kernel_rfl) (fun _ _ _ h => h) (Or.inl ⟨by rfl, ?_⟩) ?_ ?_
                    rotate_left
                    · intro w'
                      go_simp
                      with_reducible rfl
                    rotate_left
                    · simp only [Act.put, List.setIfInBounds_toArray, List.set_cons_zero, List.set_cons_succ, i64_w, i32_w]
                      rfl
                    refine pure_ (i := 15) (N := some 43) (v := undef) (a' := ?_) #[true, true, true, true, true, true, true, true, true, true, true, true, true, true, true, true, false, false, false, false, false, false, false, false, false] rfl rfl (by kernel_rfl) (fun _ _ _ h => h) (Or.inr ⟨by rfl, rfl⟩) ?_ ?_
                    rotate_left
                    · simp only [Act.put, List.setIfInBounds_toArray, List.set_cons_zero, List.set_cons_succ, i64_w, i32_w]
                      rfl
                    refine pure_ (i := 16) (N := some 44) (v := undef) (a' := ?_) #[true, true, true, true, true, true, true, true, true, true, true, true, true, true, true, true, true, false, false, false, false, false, false, false, false] rfl rfl (by kernel_rfl) (fun _ _ _ h => h) (Or.inr ⟨by rfl, rfl⟩) ?_ ?_
                    rotate_left
                    · simp only [Act.put, List.setIfInBounds_toArray, List.set_cons_zero, List.set_cons_succ, i64_w, i32_w]
                      rfl
                    refine pure_ (i := 17) (N := some 45) (v := undef) (a' := ?_) #[true, true, true, true, true, true, true, true, true, true, true, true, true, true, true, true, true, true, false, false, false, false, false, false, false] rfl rfl (by kernel_rfl) (fun _ _ _ h => h) (Or.inr ⟨by rfl, rfl⟩) ?_ ?_
                    rotate_left
                    · simp only [Act.put, List.setIfInBounds_toArray, List.set_cons_zero, List.set_cons_succ, i64_w, i32_w]
                      rfl
                    refine pure_ (i := 18) (N := some 46) (v := undef) (a' := ?_) #[true, true, true, true, true, true, true, true, true, true, true, true, true, true, true, true, true, true, true, false, false, false, false, false, false] rfl rfl (by kernel_rfl) (fun _ _ _ h => h) (Or.inr ⟨by rfl, rfl⟩) ?_ ?_
                    rotate_left
                    · simp only [Act.put, List.setIfInBounds_toArray, List.set_cons_zero, List.set_cons_succ, i64_w, i32_w]
                      rfl
                    refine pure_ (i := 19) (N := some 47) (v := undef) (a' := ?_) #[true, true, true, true, true, true, true, true, true, true, true, true, true, true, true, true, true, true, true, true, false, false, false, false, false] rfl rfl (by kernel_rfl) (fun _ _ _ h => h) (Or.inr ⟨by rfl, rfl⟩) ?_ ?_
                    rotate_left
                    · simp only [Act.put, List.setIfInBounds_toArray, List.set_cons_zero, List.set_cons_succ, i64_w, i32_w]
                      rfl
                    refine pure_ (i := 20) (N := some 48) (v := undef) (a' := ?_) #[true, true, true, true, true, true, true, true, true, true, true, true, true, true, true, true, true, true, true, true, true, false, false, false, false] rfl rfl (by kernel_rfl) (fun _ _ _ h => h) (Or.inr ⟨by rfl, rfl⟩) ?_ ?_
                    rotate_left
                    · simp only [Act.put, List.setIfInBounds_toArray, List.set_cons_zero, List.set_cons_succ, i64_w, i32_w]
                      rfl
                    refine pure_ (i := 21) (N := some 49) (v := undef) (a' := ?_) #[true, true, true, true, true, true, true, true, true, true, true, true, true, true, true, true, true, true, true, true, true, true, false, false, false] rfl rfl (by kernel_rfl) (fun _ _ _ h => h) (Or.inr ⟨by rfl, rfl⟩) ?_ ?_
                    rotate_left
                    · simp only [Act.put, List.setIfInBounds_toArray, List.set_cons_zero, List.set_cons_succ, i64_w, i32_w]
                      rfl
                    refine pure_ (i := 22) (N := some 50) (v := undef) (a' := ?_) #[true, true, true, true, true, true, true, true, true, true, true, true, true, true, true, true, true, true, true, true, true, true, true, false, false] rfl rfl (by kernel_rfl) (fun _ _ _ h => h) (Or.inr ⟨by rfl, rfl⟩) ?_ ?_
                    rotate_left
                    · simp only [Act.put, List.setIfInBounds_toArray, List.set_cons_zero, List.set_cons_succ, i64_w, i32_w]
                      rfl
                    refine pure_ (i := 23) (N := some 51) (v := ?_) (a' := ?_) #[true, true, true, true, true, true, true, true, true, true, true, true, true, true, true, true, true, true, true, true, true, true, true, true, false] rfl rfl (by kernel_rfl) (fun _ _ _ h => h) (Or.inl ⟨by rfl, ?_⟩) ?_ ?_
                    rotate_left
                    · intro w'
                      go_simp
                      with_reducible rfl
                    rotate_left
                    · simp only [Act.put, List.setIfInBounds_toArray, List.set_cons_zero, List.set_cons_succ, i64_w, i32_w]
                      rfl
                    refine pure_ (i := 24) (N := some 2) (v := ?_) (a' := ?_) #[true, true, true, true, true, true, true, true, true, true, true, true, true, true, true, true, true, true, true, true, true, true, true, true, true] rfl rfl (by kernel_rfl) (fun _ _ _ h => h) (Or.inl ⟨by rfl, ?_⟩) ?_ ?_
                    rotate_left
                    · intro w'
                      go_simp
                      with_reducible rfl
                    rotate_left
                    · simp only [Act.put, List.setIfInBounds_toArray, List.set_cons_zero, List.set_cons_succ, i64_w, i32_w]
                      rfl
                    refine done_ (by kernel_rfl) ?_
                    replace HS : Aside0 (Sep (fps []) w [] w2399) := ⟨HS.out.sub (.cons _ .slnil)⟩
                    go_wp2_with fail
                    go_ret
                    rw [← some_eq H]
                    exact ⟨(by first | rfl | (simp [IntKind.wrap_u32]; done)), HS.out⟩
                · replace H := if_no c2402 H
                  have c2402b0 : b2389 = false := by simpa using c2402
                  have c2402b1 : (!b2389) = true := by rw [c2402b0]; rfl
                  clear c2402
                  try simp only [c2402b0, Bool.not_true, Bool.not_false]
                  refine pure_ (i := 5) (N := some 33) (v := undef) (a' := ?_) #[true, true, true, true, true, true, false, false, false, false, false, false, false, false, false, false, false, false, false, false, false, false, false, false, false] rfl rfl (by kernel_rfl) (fun _ _ _ h => h) (Or.inr ⟨by rfl, rfl⟩) ?_ ?_
                  rotate_left
                  · simp only [Act.put, List.setIfInBounds_toArray, List.set_cons_zero, List.set_cons_succ, i64_w, i32_w]
                    rfl
                  try simp only [c2402b0, Bool.not_true, Bool.not_false]
                  refine pure_ (i := 6) (N := some 34) (v := undef) (a' := ?_) #[true, true, true, true, true, true, true, false, false, false, false, false, false, false, false, false, false, false, false, false, false, false, false, false, false] rfl rfl (by kernel_rfl) (fun _ _ _ h => h) (Or.inr ⟨by rfl, rfl⟩) ?_ ?_
                  rotate_left
                  · simp only [Act.put, List.setIfInBounds_toArray, List.set_cons_zero, List.set_cons_succ, i64_w, i32_w]
                    rfl
                  try simp only [c2402b0, Bool.not_true, Bool.not_false]
                  refine pure_ (i := 7) (N := some 35) (v := undef) (a' := ?_) #[true, true, true, true, true, true, true, true, false, false, false, false, false, false, false, false, false, false, false, false, false, false, false, false, false] rfl rfl (by kernel_rfl) (fun _ _ _ h => h) (Or.inr ⟨by rfl, rfl⟩) ?_ ?_
                  rotate_left
                  · simp only [Act.put, List.setIfInBounds_toArray, List.set_cons_zero, List.set_cons_succ, i64_w, i32_w]
                    rfl
                  refine pure_ (i := 8) (N := some 36) (v := ?_) (a' := ?_) #[true, true, true, true, true, true, true, true, true, false, false, false, false, false, false, false, false, false, false, false, false, false, false, false, false] rfl rfl (by kernel_rfl) (fun _ _ _ h => h) (Or.inl ⟨by rfl, ?_⟩) ?_ ?_
                  rotate_left
                  · intro w'
                    go_simp
                    with_reducible rfl
                  rotate_left
                  · simp only [Act.put, List.setIfInBounds_toArray, List.set_cons_zero, List.set_cons_succ, i64_w, i32_w]
                    rfl
                  refine pure_ (i := 9) (N := some 37) (v := ?_) (a' := ?_) #[true, true, true, true, true, true, true, true, true, true, false, false, false, false, false, false, false, false, false, false, false, false, false, false, false] rfl rfl (by kernel_rfl) (fun _ _ _ h => h) (Or.inl ⟨by rfl, ?_⟩) ?_ ?_
                  rotate_left
                  · intro w'
                    go_simp
                    with_reducible rfl
                  rotate_left
                  · simp only [Act.put, List.setIfInBounds_toArray, List.set_cons_zero, List.set_cons_succ, i64_w, i32_w]
                    rfl
                  refine pure_ (i := 10) (N := some 38) (v := undef) (a' := ?_) #[true, true, true, true, true, true, true, true, true, true, true, false, false, false, false, false, false, false, false, false, false, false, false, false, false] rfl rfl (by kernel_rfl) (fun _ _ _ h => h) (Or.inr ⟨by rfl, rfl⟩) ?_ ?_
                  rotate_left
                  · simp only [Act.put, List.setIfInBounds_toArray, List.set_cons_zero, List.set_cons_succ, i64_w, i32_w]
                    rfl
                  refine pure_ (i := 11) (N := some 39) (v := undef) (a' := ?_) #[true, true, true, true, true, true, true, true, true, true, true, true, false, false, false, false, false, false, false, false, false, false, false, false, false] rfl rfl (by kernel_rfl) (fun _ _ _ h => h) (Or.inr ⟨by rfl, rfl⟩) ?_ ?_
                  rotate_left
                  · simp only [Act.put, List.setIfInBounds_toArray, List.set_cons_zero, List.set_cons_succ, i64_w, i32_w]
                    rfl
                  refine pure_ (i := 12) (N := some 40) (v := undef) (a' := ?_) #[true, true, true, true, true, true, true, true, true, true, true, true, true, false, false, false, false, false, false, false, false, false, false, false, false] rfl rfl (by kernel_rfl) (fun _ _ _ h => h) (Or.inr ⟨by rfl, rfl⟩) ?_ ?_
                  rotate_left
                  · simp only [Act.put, List.setIfInBounds_toArray, List.set_cons_zero, List.set_cons_succ, i64_w, i32_w]
                    rfl
                  refine pure_ (i := 13) (N := some 41) (v := ?_) (a' := ?_) #[true, true, true, true, true, true, true, true, true, true, true, true, true, true, false, false, false, false, false, false, false, false, false, false, false] rfl rfl (by kernel_rfl) (fun _ _ _ h => h) (Or.inl ⟨by rfl, ?_⟩) ?_ ?_
                  rotate_left
                  · intro w'
                    go_simp
                    with_reducible rfl
                  rotate_left
                  · simp only [Act.put, List.setIfInBounds_toArray, List.set_cons_zero, List.set_cons_succ, i64_w, i32_w]
                    rfl
                  refine pure_ (i := 14) (N := some 42) (v := ?_) (a' := ?_) #[true, true, true, true, true, true, true, true, true, true, true, true, true, true, true, false, false, false, false, false, false, false, false, false, false] rfl rfl (by kernel_rfl) (fun _ _ _ h => h) (Or.inl ⟨by rfl, ?_⟩) ?_ ?_
                  rotate_left
                  · intro w'
                    go_simp
                    with_reducible rfl
                  rotate_left
                  · simp only [Act.put, List.setIfInBounds_toArray, List.set_cons_zero, List.set_cons_succ, i64_w, i32_w]
                    rfl
                  refine pure_ (i := 15) (N := some 43) (v := undef) (a' := ?_) #[true, true, true, true, true, true, true, true, true, true, true, true, true, true, true, true, false, false, false, false, false, false, false, false, false] rfl rfl (by kernel_rfl) (fun _ _ _ h => h) (Or.inr ⟨by rfl, rfl⟩) ?_ ?_
                  rotate_left
                  · simp only [Act.put, List.setIfInBounds_toArray, List.set_cons_zero, List.set_cons_succ, i64_w, i32_w]
                    rfl
                  refine pure_ (i := 16) (N := some 44) (v := undef) (a' := ?_) #[true, true, true, true, true, true, true, true, true, true, true, true, true, true, true, true, true, false, false, false, false, false, false, false, false] rfl rfl (by kernel_rfl) (fun _ _ _ h => h) (Or.inr ⟨by rfl, rfl⟩) ?_ ?_
                  rotate_left
                  · simp only [Act.put, List.setIfInBounds_toArray, List.set_cons_zero, List.set_cons_succ, i64_w, i32_w]
                    rfl
                  refine pure_ (i := 17) (N := some 45) (v := undef) (a' := ?_) #[true, true, true, true, true, true, true, true, true, true, true, true, true, true, true, true, true, true, false, false, false, false, false, false, false] rfl rfl (by kernel_rfl) (fun _ _ _ h => h) (Or.inr ⟨by rfl, rfl⟩) ?_ ?_
                  rotate_left
                  · simp only [Act.put, List.setIfInBounds_toArray, List.set_cons_zero, List.set_cons_succ, i64_w, i32_w]
                    rfl
                  refine pure_ (i := 18) (N := some 46) (v := undef) (a' := ?_) #[true, true, true, true, true, true, true, true, true, true, true, true, true, true, true, true, true, true, true, false, false, false, false, false, false] rfl rfl (by kernel_rfl) (fun _ _ _ h => h) (Or.inr ⟨by rfl, rfl⟩) ?_ ?_
                  rotate_left
                  · simp only [Act.put, List.setIfInBounds_toArray, List.set_cons_zero, List.set_cons_succ, i64_w, i32_w]
                    rfl
                  refine pure_ (i := 19) (N := some 47) (v := undef) (a' := ?_) #[true, true, true, true, true, true, true, true, true, true, true, true, true, true, true, true, true, true, true, true, false, false, false, false, false] rfl rfl (by kernel_rfl) (fun _ _ _ h => h) (Or.inr ⟨by rfl, rfl⟩) ?_ ?_
                  rotate_left
                  · simp only [Act.put, List.setIfInBounds_toArray, List.set_cons_zero, List.set_cons_succ, i64_w, i32_w]
                    rfl
                  refine pure_ (i := 20) (N := some 48) (v := undef) (a' := ?_) #[true, true, true, true, true, true, true, true, true, true, true, true, true, true, true, true, true, true, true, true, true, false, false, false, false] rfl rfl (by kernel_rfl) (fun _ _ _ h => h) (Or.inr ⟨by rfl, rfl⟩) ?_ ?_
                  rotate_left
                  · simp only [Act.put, List.setIfInBounds_toArray, List.set_cons_zero, List.set_cons_succ, i64_w, i32_w]
                    rfl
                  refine pure_ (i := 21) (N := some 49) (v := undef) (a' := ?_) #[true, true, true, true, true, true, true, true, true, true, true, true, true, true, true, true, true, true, true, true, true, true, false, false, false] rfl rfl (by kernel_rfl) (fun _ _ _ h => h) (Or.inr ⟨by rfl, rfl⟩) ?_ ?_
                  rotate_left
                  · simp only [Act.put, List.setIfInBounds_toArray, List.set_cons_zero, List.set_cons_succ, i64_w, i32_w]
                    rfl
                  refine pure_ (i := 22) (N := some 50) (v := undef) (a' := ?_) #[true, true, true, true, true, true, true, true, true, true, true, true, true, true, true, true, true, true, true, true, true, true, true, false, false] rfl rfl (by kernel_rfl) (fun _ _ _ h => h) (Or.inr ⟨by rfl, rfl⟩) ?_ ?_
                  rotate_left
                  · simp only [Act.put, List.setIfInBounds_toArray, List.set_cons_zero, List.set_cons_succ, i64_w, i32_w]
                    rfl
                  refine pure_ (i := 23) (N := some 51) (v := ?_) (a' := ?_) #[true, true, true, true, true, true, true, true, true, true, true, true, true, true, true, true, true, true, true, true, true, true, true, true, false] rfl rfl (by kernel_rfl) (fun _ _ _ h => h) (Or.inl ⟨by rfl, ?_⟩) ?_ ?_
                  rotate_left
                  · intro w'
                    go_simp
                    with_reducible rfl
                  rotate_left
                  · simp only [Act.put, List.setIfInBounds_toArray, List.set_cons_zero, List.set_cons_succ, i64_w, i32_w]
                    rfl
                  refine pure_ (i := 24) (N := some 2) (v := ?_) (a' := ?_) #[true, true, true, true, true, true, true, true, true, true, true, true, true, true, true, true, true, true, true, true, true, true, true, true, true] rfl rfl (by kernel_rfl) (fun _ _ _ h => h) (Or.inl ⟨by rfl, ?_⟩) ?_ ?_
                  rotate_left
                  · intro w'
                    go_simp
                    with_reducible rfl
                  rotate_left
                  · simp only [Act.put, List.setIfInBounds_toArray, List.set_cons_zero, List.set_cons_succ, i64_w, i32_w]
                    rfl
                  refine done_ (by kernel_rfl) ?_
                  replace HS : Aside0 (Sep (fps []) w [] w2399) := ⟨HS.out.sub (.cons _ .slnil)⟩
                  go_wp2_with fail
                  go_ret
                  rw [← some_eq H]
                  exact ⟨(by first | rfl | (simp [IntKind.wrap_u32]; done)), HS.out⟩
              · replace H := if_no c2395 H
                have c2395b0 : (a2300 == 3) = false := beq_eq_false_iff_ne.mpr c2395
                have c2395b1 : (a2300 != 3) = true := bne_iff_ne.mpr c2395
                clear c2395
                have hc2377 : w2368.cell? ⟨g2307, 0, none⟩ = some (.int .i64 a2300) := blk_cellv (HS.out.at0) 0 rfl
                replace HS : Aside0 (Sep (fps []) w [] w2368) := ⟨HS.out.sub (.cons _ .slnil)⟩
                go_wp2_with fail
                clear hc2377
                go_ret
                rw [← some_eq H]
                exact ⟨(by first | rfl | (simp [IntKind.wrap_u32]; done)), HS.out⟩

set_option maxHeartbeats 30000000 in
set_option maxRecDepth 100000 in
theorem pack_total.calls (k : Nat) (l2498 : List Int) (A2499 : Option Addr) (n2500 : Nat) (r : Int) (w : World) (HR2501 : Aside0 (Rd (Kd.int .i64) (fps []) w A2499 l2498.length l2498)) (HGl0 : Aside0 (Gl 0 #[.int .i64 0, .int .i64 0, .int .i64 0, .int .i64 0, .int .i64 0] (fps []) w)) (HS : Aside0 (Sep (fps []) w [] w)) (H : Aside0 (pack_total.f k l2498 = some r)) :
    Calls Tryd.prog 125 #[.slice A2499 l2498.length n2500] w fun e w' => e = .returned (.int .i64 r) ∧ Sep (fps []) w [] w' := by
  unfold pack_total.f at H
  go_enter Tryd.func125, Tryd.ntmps125
  go_wp2_with fail
  obtain ⟨o2514, AL2515, H⟩ := bind_some H
  go_loopg [3, 8] k (fun kq v3 v8 wc => ∃ (x2518 : Int) (x2519 : Int), v3 = .int .i64 x2518 ∧ v8 = .int .i64 x2519 ∧ Aside0 (pack_total.lo0 kq l2498 x2518 x2519 = some o2514) ∧ Aside0 (Sep (fps []) w [] wc))
  case atStart => exact ⟨(0), (0), (by first | rfl | (simp [IntKind.wrap_u32]; done)), (by first | rfl | (simp [IntKind.wrap_u32]; done)), AL2515, ⟨HS.out⟩⟩
  case round =>
    clear AL2515 HS
    obtain ⟨x2518, x2519, rfl, rfl, AL2515, HS⟩ := hrel
    obtain ⟨w2516, rfl⟩ : ∃ x : World, x = wr := ⟨_, rfl⟩
    cases gk with
    | zero => exact absurd AL2515.out (by simp [pack_total.lo0])
    | succ k2517 =>
      have AL0 := AL2515.out
      rw [pack_total.lo0] at AL0
      clear AL2515
      have AL2515 := Aside0.mk AL0
      clear AL0
      by_cases c2520 : x2519 < (l2498.length : Int)
      · replace AL2515 := if_yes c2520 AL2515
        have c2520b0 : decide (x2519 < (l2498.length : Int)) = true := decide_eq_true c2520
        clear c2520
        by_cases c2521 : 0 ≤ x2519
        · replace AL2515 := if_yes c2521 AL2515
          have c2521b0 : decide (0 ≤ x2519) = true := decide_eq_true c2521
          have c2521p : (0 ≤ x2519) = True := eq_true c2521
          clear c2521
          have ip2522 : (x2519 < (l2498.length : Int)) = True := eq_true (of_decide_eq_true c2520b0)
          by_cases c2524 : (rd l2498 x2519) < 1
          · replace AL2515 := if_yes c2524 AL2515
            have c2524b0 : decide ((rd l2498 x2519) < 1) = true := decide_eq_true c2524
            clear c2524
            obtain ⟨hx2523a, hx2523e, hx2523⟩ := Kd.at_int (Rd.read (fun _ _ _ _ h => h) HR2501.out HS.out.fr) x2519 (of_decide_eq_true c2521b0) (of_decide_eq_true c2520b0); cases hx2523e
            go_wp2_with fail
            clear hx2523
            have ho := some_eq AL2515
            subst ho
            have H := lp_ret H
            go_ret
            rw [← some_eq H]
            exact ⟨(by first | rfl | (simp [IntKind.wrap_u32]; done)), HS.out⟩
          · replace AL2515 := if_no c2524 AL2515
            have c2524b0 : decide ((rd l2498 x2519) < 1) = false := decide_eq_false c2524
            clear c2524
            by_cases c2525 : (rd l2498 x2519) > (wrap64 (32 - x2518))
            · replace AL2515 := if_yes c2525 AL2515
              have c2525b0 : decide ((wrap64 (32 - x2518)) < (rd l2498 x2519)) = true := decide_eq_true c2525
              clear c2525
              obtain ⟨hx2523a, hx2523e, hx2523⟩ := Kd.at_int (Rd.read (fun _ _ _ _ h => h) HR2501.out HS.out.fr) x2519 (of_decide_eq_true c2521b0) (of_decide_eq_true c2520b0); cases hx2523e
              go_wp2_with fail
              clear hx2523
              have ho := some_eq AL2515
              subst ho
              have H := lp_ret H
              go_ret
              rw [← some_eq H]
              exact ⟨(by first | rfl | (simp [IntKind.wrap_u32]; done)), HS.out⟩
            · replace AL2515 := if_no c2525 AL2515
              have c2525b0 : decide ((wrap64 (32 - x2518)) < (rd l2498 x2519)) = false := decide_eq_false c2525
              clear c2525
              obtain ⟨hx2523a, hx2523e, hx2523⟩ := Kd.at_int (Rd.read (fun _ _ _ _ h => h) HR2501.out HS.out.fr) x2519 (of_decide_eq_true c2521b0) (of_decide_eq_true c2520b0); cases hx2523e
              go_wp2_with fail
              clear hx2523
              go_roundg k2517
              case measure => exact Nat.lt_succ_self _
              case rel => exact ⟨(wrap64 (x2518 + (rd l2498 x2519))), (wrap64 (x2519 + 1)), (by first | rfl | (simp [IntKind.wrap_u32]; done)), (by first | rfl | (simp [IntKind.wrap_u32]; done)), Aside0.mk AL2515.out, ⟨HS.out⟩⟩
        · replace AL2515 := if_no c2521 AL2515
          have c2521b0 : decide (0 ≤ x2519) = false := decide_eq_false c2521
          clear c2521
          exact (none_no AL2515).elim
      · replace AL2515 := if_no c2520 AL2515
        have c2520b0 : decide (x2519 < (l2498.length : Int)) = false := decide_eq_false c2520
        clear c2520
        have ho := some_eq AL2515
        subst ho
        clear AL2515
        have H := lp_out H
        go_wp2_with fail
        go_ret
        rw [← some_eq H]
        exact ⟨(by first | rfl | (simp [IntKind.wrap_u32]; done)), HS.out⟩

set_option maxHeartbeats 30000000 in
set_option maxRecDepth 100000 in
theorem pack_isPiece.calls (a2550 : Int) (a2551 : Int) (r : Bool) (w : World)  (HGl0 : Aside0 (Gl 0 #[.int .i64 0, .int .i64 0, .int .i64 0, .int .i64 0, .int .i64 0] (fps []) w)) (HS : Aside0 (Sep (fps []) w [] w)) (H : Aside0 (pack_isPiece.f a2550 a2551 = some r)) :
    Calls Tryd.prog 75 #[.int .i64 a2550, .int .i64 a2551] w fun e w' => e = .returned (.bool r) ∧ Sep (fps []) w [] w' := by
  unfold pack_isPiece.f at H
  go_enter Tryd.func75, Tryd.ntmps75
  by_cases c2552 : a2550 ≥ 0
  · replace H := if_yes c2552 H
    have c2552b0 : decide (0 ≤ a2550) = true := decide_eq_true c2552
    clear c2552
    by_cases c2553 : a2551 ≥ 1
    · replace H := if_yes c2553 H
      have c2553b0 : decide (1 ≤ a2551) = true := decide_eq_true c2553
      clear c2553
      by_cases c2554 : a2551 ≤ 32
      · replace H := if_yes c2554 H
        have c2554b0 : decide (a2551 ≤ 32) = true := decide_eq_true c2554
        clear c2554
        go_wp2_with fail
        go_ret
        rw [← some_eq H]
        exact ⟨(by first | rfl | (simp [IntKind.wrap_u32]; done)), HS.out⟩
      · replace H := if_no c2554 H
        have c2554b0 : decide (a2551 ≤ 32) = false := decide_eq_false c2554
        clear c2554
        go_wp2_with fail
        go_ret
        rw [← some_eq H]
        exact ⟨(by first | rfl | (simp [IntKind.wrap_u32]; done)), HS.out⟩
    · replace H := if_no c2553 H
      have c2553b0 : decide (1 ≤ a2551) = false := decide_eq_false c2553
      clear c2553
      go_wp2_with fail
      go_ret
      rw [← some_eq H]
      exact ⟨(by first | rfl | (simp [IntKind.wrap_u32]; done)), HS.out⟩
  · replace H := if_no c2552 H
    have c2552b0 : decide (0 ≤ a2550) = false := decide_eq_false c2552
    clear c2552
    go_wp2_with fail
    go_ret
    rw [← some_eq H]
    exact ⟨(by first | rfl | (simp [IntKind.wrap_u32]; done)), HS.out⟩

set_option maxHeartbeats 30000000 in
set_option maxRecDepth 100000 in
theorem pack_Fits.calls (a2559 : Int) (a2560 : Int) (r : Bool) (w : World)  (HGl0 : Aside0 (Gl 0 #[.int .i64 0, .int .i64 0, .int .i64 0, .int .i64 0, .int .i64 0] (fps []) w)) (HS : Aside0 (Sep (fps []) w [] w)) (H : Aside0 (pack_Fits.f a2559 a2560 = some r)) :
    Calls Tryd.prog 152 #[.int .u32 a2559, .int .i64 a2560] w fun e w' => e = .returned (.bool r) ∧ Sep (fps []) w [] w' := by
  unfold pack_Fits.f at H
  go_enter Tryd.func152, Tryd.ntmps152
  by_cases c2561 : a2560 ≥ 32
  · replace H := if_yes c2561 H
    have c2561b0 : decide (32 ≤ a2560) = true := decide_eq_true c2561
    clear c2561
    go_wp2_with fail
    go_ret
    rw [← some_eq H]
    exact ⟨(by first | rfl | (simp [IntKind.wrap_u32]; done)), HS.out⟩
  · replace H := if_no c2561 H
    have c2561b0 : decide (32 ≤ a2560) = false := decide_eq_false c2561
    clear c2561
    by_cases c2562 : a2560 < 0
    · replace H := if_yes c2562 H
      have c2562b0 : decide (a2560 < 0) = true := decide_eq_true c2562
      skip
      go_wp2_with fail
      clear c2562
      go_ret
      rw [← some_eq H]
      exact ⟨(by first | rfl | (simp [IntKind.wrap_u32]; done)), HS.out⟩
    · replace H := if_no c2562 H
      have c2562b0 : decide (a2560 < 0) = false := decide_eq_false c2562
      by_cases c2563 : 0 ≤ (IntKind.u64.wrap (a2560))
      · replace H := if_yes c2563 H
        have c2563b0 : decide (0 ≤ (IntKind.u64.wrap (a2560))) = true := decide_eq_true c2563
        skip
        skip
        go_wp2_with fail
        clear c2562 c2563
        go_ret
        rw [← some_eq H]
        exact ⟨(by first | rfl | (simp [IntKind.wrap_u32]; done)), HS.out⟩
      · replace H := if_no c2563 H
        have c2563b0 : decide (0 ≤ (IntKind.u64.wrap (a2560))) = false := decide_eq_false c2563
        exact (none_no H).elim

set_option maxHeartbeats 30000000 in
set_option maxRecDepth 100000 in
theorem pack_mask.calls (a2568 : Int) (a2569 : Int) (r : Int) (w : World)  (HGl0 : Aside0 (Gl 0 #[.int .i64 0, .int .i64 0, .int .i64 0, .int .i64 0, .int .i64 0] (fps []) w)) (HS : Aside0 (Sep (fps []) w [] w)) (H : Aside0 (pack_mask.f a2568 a2569 = some r)) :
    Calls Tryd.prog 76 #[.int .i64 a2568, .int .i64 a2569] w fun e w' => e = .returned (.int .u32 r) ∧ Sep (fps []) w [] w' := by
  unfold pack_mask.f at H
  go_enter Tryd.func76, Tryd.ntmps76
  by_cases c2570 : 0 ≤ (IntKind.u64.wrap (a2569))
  · replace H := if_yes c2570 H
    have c2570b0 : decide (0 ≤ (IntKind.u64.wrap (a2569))) = true := decide_eq_true c2570
    by_cases c2571 : 0 ≤ (IntKind.u64.wrap (a2568))
    · replace H := if_yes c2571 H
      have c2571b0 : decide (0 ≤ (IntKind.u64.wrap (a2568))) = true := decide_eq_true c2571
      skip
      skip
      go_wp2_with fail
      clear c2570 c2571
      go_ret
      rw [← some_eq H]
      exact ⟨(by first | rfl | (simp [IntKind.wrap_u32]; done)), HS.out⟩
    · replace H := if_no c2571 H
      have c2571b0 : decide (0 ≤ (IntKind.u64.wrap (a2568))) = false := decide_eq_false c2571
      exact (none_no H).elim
  · replace H := if_no c2570 H
    have c2570b0 : decide (0 ≤ (IntKind.u64.wrap (a2569))) = false := decide_eq_false c2570
    exact (none_no H).elim

set_option maxHeartbeats 30000000 in
set_option maxRecDepth 100000 in
theorem pack_Put.calls (a2546 : Int) (a2547 : Int) (a2548 : Int) (a2549 : Int) (r : Int × Int) (w : World)  (HGl0 : Aside0 (Gl 0 #[.int .i64 0, .int .i64 0, .int .i64 0, .int .i64 0, .int .i64 0] (fps []) w)) (HS : Aside0 (Sep (fps []) w [] w)) (H : Aside0 (pack_Put.f a2546 a2547 a2548 a2549 = some r)) :
    Calls Tryd.prog 126 #[.int .u32 a2546, .int .i64 a2547, .int .i64 a2548, .int .u32 a2549] w fun e w' => e = .returned (.tuple #[.int .u32 r.1, .int .i64 r.2]) ∧ Sep (fps []) w [] w' := by
  unfold pack_Put.f at H
  go_enter Tryd.func126, Tryd.ntmps126
  go_wp2_with fail
  obtain ⟨t2555, HA2556, H⟩ := bind_some H
  refine (pack_isPiece.calls a2547 a2548 t2555 _ ⟨HGl0.out.pass (l := []) HS.out⟩ ⟨Sep.start _⟩ HA2556).mono ?_
  rintro e_ w2557 ⟨rfl, hS⟩
  replace HS : Aside0 (Sep (fps []) w [] w2557) := ⟨HS.out.call hS⟩
  clear hS
  by_cases c2558 : t2555 = true
  · replace H := if_yes c2558 H
    have c2558b0 : t2555 = true := c2558
    have c2558b1 : (!t2555) = false := by rw [c2558b0]; rfl
    try rw [c2558b1]
    clear c2558
    go_wp2_with fail
    obtain ⟨t2564, HA2565, H⟩ := bind_some H
    refine (pack_Fits.calls a2549 a2548 t2564 _ ⟨HGl0.out.pass (l := []) HS.out⟩ ⟨Sep.start _⟩ HA2565).mono ?_
    rintro e_ w2566 ⟨rfl, hS⟩
    replace HS : Aside0 (Sep (fps []) w [] w2566) := ⟨HS.out.call hS⟩
    clear hS
    by_cases c2567 : t2564 = true
    · replace H := if_yes c2567 H
      have c2567b0 : t2564 = true := c2567
      have c2567b1 : (!t2564) = false := by rw [c2567b0]; rfl
      try rw [c2567b1]
      clear c2567
      go_wp2_with fail
      obtain ⟨t2572, HA2573, H⟩ := bind_some H
      refine (pack_mask.calls a2547 a2548 t2572 _ ⟨HGl0.out.pass (l := []) HS.out⟩ ⟨Sep.start _⟩ HA2573).mono ?_
      rintro e_ w2574 ⟨rfl, hS⟩
      replace HS : Aside0 (Sep (fps []) w [] w2574) := ⟨HS.out.call hS⟩
      clear hS
      by_cases c2575 : 0 ≤ (IntKind.u64.wrap (a2547))
      · replace H := if_yes c2575 H
        have c2575b0 : decide (0 ≤ (IntKind.u64.wrap (a2547))) = true := decide_eq_true c2575
        skip
        go_wp2_with fail
        clear c2575
        go_ret2
        rw [← some_eq H]
        exact ⟨(by first | rfl | (simp [IntKind.wrap_u32]; done)), HS.out⟩
      · replace H := if_no c2575 H
        have c2575b0 : decide (0 ≤ (IntKind.u64.wrap (a2547))) = false := decide_eq_false c2575
        exact (none_no H).elim
    · replace H := if_no c2567 H
      have c2567b0 : t2564 = false := by simpa using c2567
      have c2567b1 : (!t2564) = true := by rw [c2567b0]; rfl
      try rw [c2567b1]
      clear c2567
      go_wp2_with fail
      go_ret2
      rw [← some_eq H]
      exact ⟨(by first | rfl | (simp [IntKind.wrap_u32]; done)), HS.out⟩
  · replace H := if_no c2558 H
    have c2558b0 : t2555 = false := by simpa using c2558
    have c2558b1 : (!t2555) = true := by rw [c2558b0]; rfl
    try rw [c2558b1]
    clear c2558
    go_wp2_with fail
    go_ret2
    rw [← some_eq H]
    exact ⟨(by first | rfl | (simp [IntKind.wrap_u32]; done)), HS.out⟩

set_option maxHeartbeats 30000000 in
set_option maxRecDepth 100000 in
theorem pack_Join.calls (k : Nat) (l2490 : List Int) (l2494 : List Int) (A2491 : Option Addr) (n2492 : Nat) (A2495 : Option Addr) (n2496 : Nat) (r : Int × Int) (w : World) (HR2493 : Aside0 (Rd (Kd.int .u32) (fps []) w A2491 l2490.length l2490)) (HR2497 : Aside0 (Rd (Kd.int .i64) (fps []) w A2495 l2494.length l2494)) (HGl0 : Aside0 (Gl 0 #[.int .i64 0, .int .i64 0, .int .i64 0, .int .i64 0, .int .i64 0] (fps []) w)) (HS : Aside0 (Sep (fps []) w [] w)) (H : Aside0 (pack_Join.f k l2490 l2494 = some r)) :
    Calls Tryd.prog 69 #[.slice A2491 l2490.length n2492, .slice A2495 l2494.length n2496] w fun e w' => e = .returned (.tuple #[.int .u32 r.1, .int .i64 r.2]) ∧ Sep (fps []) w [] w' := by
  unfold pack_Join.f at H
  go_enter Tryd.func69, Tryd.ntmps69
  go_wp2_with fail
  obtain ⟨t2527, HA2528, H⟩ := bind_some H
  refine (pack_total.calls _ l2494 A2495 n2496 t2527 _ ⟨Rd.pass (l := []) (by decide) (fun _ _ _ _ h => h) HR2497.out HS.out⟩ ⟨HGl0.out.pass (l := []) HS.out⟩ ⟨Sep.start _⟩ HA2528).mono ?_
  rintro e_ w2529 ⟨rfl, hS⟩
  replace HS : Aside0 (Sep (fps []) w [] w2529) := ⟨HS.out.call hS⟩
  clear hS
  by_cases c2530 : t2527 < 0
  · replace H := if_yes c2530 H
    have c2530b0 : decide (t2527 < 0) = true := decide_eq_true c2530
    clear c2530
    go_wp2_with fail
    go_ret2
    rw [← some_eq H]
    exact ⟨(by first | rfl | (simp [IntKind.wrap_u32]; done)), HS.out⟩
  · replace H := if_no c2530 H
    have c2530b0 : decide (t2527 < 0) = false := decide_eq_false c2530
    clear c2530
    by_cases c2531 : (l2490.length : Int) = (l2494.length : Int)
    · replace H := if_yes c2531 H
      have c2531b0 : ((l2490.length : Int) == (l2494.length : Int)) = true := beq_iff_eq.mpr c2531
      have c2531b1 : ((l2490.length : Int) != (l2494.length : Int)) = false := bne_eq_false_iff_eq.mpr c2531
      clear c2531
      go_wp2_with fail
      obtain ⟨o2580, AL2581, H⟩ := bind_some H
      go_loopg [6, 7, 24] k (fun kq v6 v7 v24 wc => ∃ (x2584 : Int) (x2585 : Int) (x2586 : Int), v6 = .int .u32 x2584 ∧ v7 = .int .i64 x2585 ∧ v24 = .int .i64 x2586 ∧ Aside0 (pack_Join.lo0 kq l2490 l2494 x2584 x2585 x2586 = some o2580) ∧ Aside0 (Sep (fps []) w [] wc))
      case atStart => exact ⟨(0), (0), (0), (by first | rfl | (simp [IntKind.wrap_u32]; done)), (by first | rfl | (simp [IntKind.wrap_u32]; done)), (by first | rfl | (simp [IntKind.wrap_u32]; done)), AL2581, ⟨HS.out⟩⟩
      case round =>
        clear AL2581 HS
        obtain ⟨x2584, x2585, x2586, rfl, rfl, rfl, AL2581, HS⟩ := hrel
        obtain ⟨w2582, rfl⟩ : ∃ x : World, x = wr := ⟨_, rfl⟩
        cases gk with
        | zero => exact absurd AL2581.out (by simp [pack_Join.lo0])
        | succ k2583 =>
          have AL0 := AL2581.out
          rw [pack_Join.lo0] at AL0
          clear AL2581
          have AL2581 := Aside0.mk AL0
          clear AL0
          by_cases c2587 : x2586 < (l2494.length : Int)
          · replace AL2581 := if_yes c2587 AL2581
            have c2587b0 : decide (x2586 < (l2494.length : Int)) = true := decide_eq_true c2587
            clear c2587
            by_cases c2588 : 0 ≤ x2586
            · replace AL2581 := if_yes c2588 AL2581
              have c2588b0 : decide (0 ≤ x2586) = true := decide_eq_true c2588
              have c2588p : (0 ≤ x2586) = True := eq_true c2588
              clear c2588
              have ip2589 : (x2586 < (l2494.length : Int)) = True := eq_true (of_decide_eq_true c2587b0)
              by_cases c2591 : x2586 < (l2490.length : Int)
              · replace AL2581 := if_yes c2591 AL2581
                have c2591b0 : decide (x2586 < (l2490.length : Int)) = true := decide_eq_true c2591
                have c2591p : (x2586 < (l2490.length : Int)) = True := eq_true c2591
                clear c2591
                obtain ⟨hx2590a, hx2590e, hx2590⟩ := Kd.at_int (Rd.read (fun _ _ _ _ h => h) HR2497.out HS.out.fr) x2586 (of_decide_eq_true c2588b0) (of_decide_eq_true c2587b0); cases hx2590e
                obtain ⟨hx2592a, hx2592e, hx2592⟩ := Kd.at_int (Rd.read (fun _ _ _ _ h => h) HR2493.out HS.out.fr) x2586 (of_decide_eq_true c2588b0) (of_decide_eq_true c2591b0); cases hx2592e
                go_wp2_with fail
                clear hx2590 hx2592
                obtain ⟨t2576, HA2593, AL2581⟩ := bind_some AL2581
                refine (pack_Put.calls x2584 x2585 (rd l2494 x2586) (rd l2490 x2586) t2576 _ ⟨HGl0.out.pass (l := []) HS.out⟩ ⟨Sep.start _⟩ HA2593).mono ?_
                rintro e_ w2594 ⟨rfl, hS⟩
                replace HS : Aside0 (Sep (fps []) w [] w2594) := ⟨HS.out.call hS⟩
                clear hS
                by_cases c2595 : t2576.2 = 0
                · replace AL2581 := if_yes c2595 AL2581
                  have c2595b0 : (t2576.2 == 0) = true := beq_iff_eq.mpr c2595
                  have c2595b1 : (t2576.2 != 0) = false := bne_eq_false_iff_eq.mpr c2595
                  clear c2595
                  go_wp2_with fail
                  go_roundg k2583
                  case measure => exact Nat.lt_succ_self _
                  case rel => exact ⟨(t2576.1), (wrap64 (x2585 + (rd l2494 x2586))), (wrap64 (x2586 + 1)), (by first | rfl | (simp [IntKind.wrap_u32]; done)), (by first | rfl | (simp [IntKind.wrap_u32]; done)), (by first | rfl | (simp [IntKind.wrap_u32]; done)), Aside0.mk AL2581.out, ⟨HS.out⟩⟩
                · replace AL2581 := if_no c2595 AL2581
                  have c2595b0 : (t2576.2 == 0) = false := beq_eq_false_iff_ne.mpr c2595
                  have c2595b1 : (t2576.2 != 0) = true := bne_iff_ne.mpr c2595
                  clear c2595
                  go_wp2_with fail
                  have ho := some_eq AL2581
                  subst ho
                  have H := lp_ret H
                  go_ret2
                  rw [← some_eq H]
                  exact ⟨(by first | rfl | (simp [IntKind.wrap_u32]; done)), HS.out⟩
              · replace AL2581 := if_no c2591 AL2581
                have c2591b0 : decide (x2586 < (l2490.length : Int)) = false := decide_eq_false c2591
                clear c2591
                exact (none_no AL2581).elim
            · replace AL2581 := if_no c2588 AL2581
              have c2588b0 : decide (0 ≤ x2586) = false := decide_eq_false c2588
              clear c2588
              exact (none_no AL2581).elim
          · replace AL2581 := if_no c2587 AL2581
            have c2587b0 : decide (x2586 < (l2494.length : Int)) = false := decide_eq_false c2587
            clear c2587
            have ho := some_eq AL2581
            subst ho
            clear AL2581
            have H := lp_out H
            go_wp2_with fail
            go_ret2
            rw [← some_eq H]
            exact ⟨(by first | rfl | (simp [IntKind.wrap_u32]; done)), HS.out⟩
    · replace H := if_no c2531 H
      have c2531b0 : ((l2490.length : Int) == (l2494.length : Int)) = false := beq_eq_false_iff_ne.mpr c2531
      have c2531b1 : ((l2490.length : Int) != (l2494.length : Int)) = true := bne_iff_ne.mpr c2531
      clear c2531
      go_wp2_with fail
      go_ret2
      rw [← some_eq H]
      exact ⟨(by first | rfl | (simp [IntKind.wrap_u32]; done)), HS.out⟩

set_option maxHeartbeats 30000000 in
set_option maxRecDepth 100000 in
theorem tag_Pack.calls (k : Nat) (a2283 : Int) (a2284 : Int) (a2285 : Int) (a2286 : Int) (a2287 : Int) (a2288 : Int) (a2289 : Int) (r : Int × Int) (w : World)  (HGl0 : Aside0 (Gl 0 #[.int .i64 0, .int .i64 0, .int .i64 0, .int .i64 0, .int .i64 0] (fps []) w)) (HS : Aside0 (Sep (fps []) w [] w)) (H : Aside0 (tag_Pack.f k a2283 a2284 a2285 a2286 a2287 a2288 a2289 = some r)) :
    Calls Tryd.prog 16 #[.agg #[.int .i64 a2283, .int .i64 a2284, .int .i64 a2285, .int .i64 a2286, .int .i64 a2287, .int .i64 a2288, .int .i64 a2289]] w fun e w' => e = .returned (.tuple #[.int .u32 r.1, .int .i64 r.2]) ∧ Sep (fps []) w [] w' := by
  unfold tag_Pack.f at H
  go_enter Tryd.func16, Tryd.ntmps16
  go_wp2_with (first | ((with_reducible refine gate_dst (N := 1) rfl ?_); refine box_on ?hg (N := 1) ?hd (cs := #[.int .i64 a2283, .int .i64 a2284, .int .i64 a2285, .int .i64 a2286, .int .i64 a2287, .int .i64 a2288, .int .i64 a2289]) (t := 32) ?hr ?_; (case hd => rfl); (case hg => rfl); (case hr => first | (go_simp; done) | (go_simp; rfl)); intro g2290 hg w2291 hbox hb; replace HS : Aside0 (Sep (fps []) w [b16 g2290 a2283 a2284 a2285 a2286 a2287 a2288 a2289] w2291) := ⟨HS.out.box hg hbox hb⟩; clear hg hbox hb; have hc2293 : w2291.cell? ⟨g2290, 0, none⟩ = some (.int .i64 a2283) := blk_cellv (HS.out.at0) 0 rfl; have hc2294 : w2291.cell? ⟨g2290, 1, none⟩ = some (.int .i64 a2284) := blk_cellv (HS.out.at0) 1 rfl; have hc2295 : w2291.cell? ⟨g2290, 2, none⟩ = some (.int .i64 a2285) := blk_cellv (HS.out.at0) 2 rfl; have hc2296 : w2291.cell? ⟨g2290, 3, none⟩ = some (.int .i64 a2286) := blk_cellv (HS.out.at0) 3 rfl; have hc2297 : w2291.cell? ⟨g2290, 4, none⟩ = some (.int .i64 a2287) := blk_cellv (HS.out.at0) 4 rfl; have hc2298 : w2291.cell? ⟨g2290, 5, none⟩ = some (.int .i64 a2288) := blk_cellv (HS.out.at0) 5 rfl; have hc2299 : w2291.cell? ⟨g2290, 6, none⟩ = some (.int .i64 a2289) := blk_cellv (HS.out.at0) 6 rfl))
  clear hc2293 hc2294 hc2295 hc2296 hc2297 hc2298 hc2299
  obtain ⟨t2432, HA2433, H⟩ := bind_some H
  refine (tag_Right.calls _ a2283 a2284 a2285 a2286 a2287 a2288 a2289 t2432 _ ⟨HGl0.out.pass (l := []) HS.out⟩ ⟨Sep.start _⟩ HA2433).mono ?_
  rintro e_ w2434 ⟨rfl, hS⟩
  replace HS : Aside0 (Sep (fps []) w [b16 g2290 a2283 a2284 a2285 a2286 a2287 a2288 a2289] w2434) := ⟨HS.out.call hS⟩
  clear hS
  by_cases c2435 : t2432 = true
  · replace H := if_yes c2435 H
    have c2435b0 : t2432 = true := c2435
    have c2435b1 : (!t2432) = false := by rw [c2435b0]; rfl
    try rw [c2435b1]
    clear c2435
    have hc2436 : w2434.cell? ⟨g2290, 0, none⟩ = some (.int .i64 a2283) := blk_cellv (HS.out.at0) 0 rfl
    go_wp2_with (first | ((with_reducible refine gate_dst (N := 13) rfl ?_); refine slice_on (n := 1) ?hg (N := 13) ?hd (cs := #[.int .u32 ((a2283) % 4294967296)]) (t := 33) ?hr ?_; (case hd => rfl); (case hg => rfl); (case hr => first | (go_simp; done) | (go_simp; rfl)); intro g2437 hg w2438 hbox hb; clear hc2436; replace HS : Aside0 (Sep (fps []) w [b16 g2290 a2283 a2284 a2285 a2286 a2287 a2288 a2289, b18 g2437 ((a2283) % 4294967296)] w2438) := ⟨HS.out.box hg hbox hb⟩; clear hg hbox hb; have hc2440 : w2438.cell? ⟨g2290, 0, none⟩ = some (.int .i64 a2283) := blk_cellv (HS.out.at0) 0 rfl; have hc2441 : w2438.cell? ⟨g2290, 1, none⟩ = some (.int .i64 a2284) := blk_cellv (HS.out.at0) 1 rfl; have hc2442 : w2438.cell? ⟨g2290, 2, none⟩ = some (.int .i64 a2285) := blk_cellv (HS.out.at0) 2 rfl; have hc2443 : w2438.cell? ⟨g2290, 3, none⟩ = some (.int .i64 a2286) := blk_cellv (HS.out.at0) 3 rfl; have hc2444 : w2438.cell? ⟨g2290, 4, none⟩ = some (.int .i64 a2287) := blk_cellv (HS.out.at0) 4 rfl; have hc2445 : w2438.cell? ⟨g2290, 5, none⟩ = some (.int .i64 a2288) := blk_cellv (HS.out.at0) 5 rfl; have hc2446 : w2438.cell? ⟨g2290, 6, none⟩ = some (.int .i64 a2289) := blk_cellv (HS.out.at0) 6 rfl))
    clear hc2440 hc2441 hc2442 hc2443 hc2444 hc2445 hc2446
    obtain ⟨t2447, HA2448, H⟩ := bind_some H
    refine (tag_marks.calls a2283 a2284 a2285 a2286 a2287 a2288 a2289 t2447 _ ⟨HGl0.out.pass (l := []) HS.out⟩ ⟨Sep.start _⟩ HA2448).mono ?_
    rintro e_ w2449 ⟨rfl, hS⟩
    replace HS : Aside0 (Sep (fps []) w [b16 g2290 a2283 a2284 a2285 a2286 a2287 a2288 a2289, b18 g2437 ((a2283) % 4294967296)] w2449) := ⟨HS.out.call hS⟩
    clear hS
    go_wp2_with fail
    replace HS : Aside0 (Sep (fps []) w [b16 g2290 a2283 a2284 a2285 a2286 a2287 a2288 a2289, r5 (some ⟨g2437, 0, none⟩) 1 1 [(a2283) % 4294967296]] w2449) := ⟨Sep.litrow (l1 := [b16 g2290 a2283 a2284 a2285 a2286 a2287 a2288 a2289]) (l2 := []) (enc := Value.int .u32) (xs := [(a2283) % 4294967296]) (n := 1) HS.out rfl (by decide)⟩
    obtain ⟨o2451, AL2452, H⟩ := bind_some H
    go_loopg [4, 16] k (fun kq v4 v16 wc => ∃ (x2456 : Int) (x2457 : List Int) (A2458 : Option Addr) (m2459 : Nat) (n2460 : Nat), v4 = .slice A2458 m2459 n2460 ∧ v16 = .int .i64 x2456 ∧ Aside0 (tag_Pack.lo0 kq t2447 x2456 x2457 = some o2451) ∧ Aside0 (Sep (fps []) w [b16 g2290 a2283 a2284 a2285 a2286 a2287 a2288 a2289, r5 A2458 m2459 n2460 x2457] wc))
    case atStart => exact ⟨(0), ([(a2283) % 4294967296]), ((some ⟨g2437, 0, none⟩)), (1), (1), (by first | rfl | (simp [IntKind.wrap_u32]; done)), (by first | rfl | (simp [IntKind.wrap_u32]; done)), AL2452, ⟨HS.out⟩⟩
    case round =>
      clear AL2452 HS
      obtain ⟨x2456, x2457, A2458, m2459, n2460, rfl, rfl, AL2452, HS⟩ := hrel
      obtain ⟨w2453, rfl⟩ : ∃ x : World, x = wr := ⟨_, rfl⟩
      obtain rfl := (row_len (HS.out.at1)).symm
      cases gk with
      | zero => exact absurd AL2452.out (by simp [tag_Pack.lo0])
      | succ k2454 =>
        have AL0 := AL2452.out
        rw [tag_Pack.lo0] at AL0
        clear AL2452
        have AL2452 := Aside0.mk AL0
        clear AL0
        by_cases c2462 : x2456 < 5
        · replace AL2452 := if_yes c2462 AL2452
          have c2462b0 : decide (x2456 < 5) = true := decide_eq_true c2462
          clear c2462
          by_cases c2463 : 0 ≤ x2456
          · replace AL2452 := if_yes c2463 AL2452
            have c2463b0 : decide (0 ≤ x2456) = true := decide_eq_true c2463
            have c2463p : (0 ≤ x2456) = True := eq_true c2463
            clear c2463
            have ip2464 : (x2456 < 5) = True := eq_true (of_decide_eq_true c2462b0)
            have ix2465 : ∀ w, (Instr.index 108 (.agg #[.int .i64 t2447.1, .int .i64 t2447.2.1, .int .i64 t2447.2.2.1, .int .i64 t2447.2.2.2.1, .int .i64 t2447.2.2.2.2]) (.int .i64 x2456)).run Tryd.prog w = .ok (.int .i64 (rd [t2447.1, t2447.2.1, t2447.2.2.1, t2447.2.2.2.1, t2447.2.2.2.2] x2456)) w := run_index_ints 108 3 5 .i64 .i64 [t2447.1, t2447.2.1, t2447.2.2.1, t2447.2.2.2.1, t2447.2.2.2.2] x2456 Tryd.underlying108 (fun _ => by kernel_rfl) (fun _ => by kernel_rfl) rfl (of_decide_eq_true c2463b0) (of_decide_eq_true c2462b0)
            by_cases c2469 : x2457.length < 35184372088832
            · replace AL2452 := if_yes c2469 AL2452
              have c2469b0 : decide (x2457.length < 35184372088832) = true := decide_eq_true c2469
              clear c2469
              obtain ⟨y2473, HA2474, AL2452⟩ := bind_some AL2452
              go_wp2_with (first | ((with_reducible refine gate_dst (N := 22) rfl ?_); refine slice_on (n := 1) ?hg (N := 22) ?hd (cs := #[.int .u32 ((rd [t2447.1, t2447.2.1, t2447.2.2.1, t2447.2.2.2.1, t2447.2.2.2.2] x2456) % 4294967296)]) (t := 33) ?hr ?_; (case hd => rfl); (case hg => rfl); (case hr => first | (go_simp; done) | (go_simp; rfl)); intro g2466 hg w2467 hbox hb; replace HS : Aside0 (Sep (fps []) w [b16 g2290 a2283 a2284 a2285 a2286 a2287 a2288 a2289, r5 A2458 x2457.length n2460 x2457, b18 g2466 ((rd [t2447.1, t2447.2.1, t2447.2.2.1, t2447.2.2.2.1, t2447.2.2.2.2] x2456) % 4294967296)] w2467) := ⟨HS.out.box hg hbox hb⟩; clear hg hbox hb) | ((with_reducible refine gate_dst (N := 23) rfl ?_); refine append_event (l1 := [b16 g2290 a2283 a2284 a2285 a2286 a2287 a2288 a2289]) (l2 := [b18 g2466 ((rd [t2447.1, t2447.2.1, t2447.2.2.1, t2447.2.2.2.1, t2447.2.2.2.2] x2456) % 4294967296)]) rfl (.tmp 19) (.tmp 22) 69 33 (.int .u32 0) 4 rfl Tryd.underlying69 (by kernel_rfl) rfl (by decide) (Value.int .u32) (fun _ => rfl) (.slice A2458 x2457.length n2460) (x2457 : List Int) [(rd [t2447.1, t2447.2.1, t2447.2.2.1, t2447.2.2.2.1, t2447.2.2.2.2] x2456) % 4294967296] ⟨g2466, 0, none⟩ 1 rfl rfl (blk_news (xs := [(rd [t2447.1, t2447.2.1, t2447.2.2.1, t2447.2.2.2.1, t2447.2.2.2.2] x2456) % 4294967296]) (HS.out.at2)) HS.out (by have := of_decide_eq_true c2469b0; simp only [List.length_cons, List.length_nil]; omega) HA2474 ?_; intro A2470 n2471 w2472 HS1; replace HS : Aside0 (Sep (fps []) w [b16 g2290 a2283 a2284 a2285 a2286 a2287 a2288 a2289, r5 A2470 y2473.length n2471 y2473, b18 g2466 ((rd [t2447.1, t2447.2.1, t2447.2.2.1, t2447.2.2.2.1, t2447.2.2.2.2] x2456) % 4294967296)] w2472) := ⟨HS1⟩; clear HS1; replace HS : Aside0 (Sep (fps []) w [b16 g2290 a2283 a2284 a2285 a2286 a2287 a2288 a2289, r5 A2470 y2473.length n2471 y2473] w2472) := ⟨HS.out.sub (.cons_cons _ (.cons_cons _ (.cons _ .slnil)))⟩))
              go_roundg k2454
              case measure => exact Nat.lt_succ_self _
              case rel => exact ⟨(wrap64 (x2456 + 1)), (y2473), (A2470), (y2473.length), (n2471), (by first | rfl | (simp [IntKind.wrap_u32]; done)), (by first | rfl | (simp [IntKind.wrap_u32]; done)), Aside0.mk AL2452.out, ⟨HS.out⟩⟩
            · replace AL2452 := if_no c2469 AL2452
              have c2469b0 : decide (x2457.length < 35184372088832) = false := decide_eq_false c2469
              clear c2469
              exact (none_no AL2452).elim
          · replace AL2452 := if_no c2463 AL2452
            have c2463b0 : decide (0 ≤ x2456) = false := decide_eq_false c2463
            clear c2463
            exact (none_no AL2452).elim
        · replace AL2452 := if_no c2462 AL2452
          have c2462b0 : decide (x2456 < 5) = false := decide_eq_false c2462
          clear c2462
          have ho := some_eq AL2452
          subst ho
          clear AL2452
          by_cases c2480 : x2457.length < 35184372088831
          · replace H := if_yes c2480 H
            have c2480b0 : decide (x2457.length < 35184372088831) = true := decide_eq_true c2480
            clear c2480
            obtain ⟨y2484, HA2485, H⟩ := bind_some H
            have hc2476 : w2453.cell? ⟨g2290, 6, none⟩ = some (.int .i64 a2289) := blk_cellv (HS.out.at0) 6 rfl
            go_wp2_with (first | ((with_reducible refine gate_dst (N := 29) rfl ?_); refine slice_on (n := 2) ?hg (N := 29) ?hd (cs := #[.int .u32 0, .int .u32 ((a2289) % 4294967296)]) (t := 33) ?hr ?_; (case hd => rfl); (case hg => rfl); (case hr => first | (go_simp; done) | (go_simp; rfl)); intro g2477 hg w2478 hbox hb; clear hc2476; replace HS : Aside0 (Sep (fps []) w [b16 g2290 a2283 a2284 a2285 a2286 a2287 a2288 a2289, r5 A2458 x2457.length n2460 x2457, b19 g2477 0 ((a2289) % 4294967296)] w2478) := ⟨HS.out.box hg hbox hb⟩; clear hg hbox hb) | ((with_reducible refine gate_dst (N := 30) rfl ?_); refine append_event (l1 := [b16 g2290 a2283 a2284 a2285 a2286 a2287 a2288 a2289]) (l2 := [b19 g2477 0 ((a2289) % 4294967296)]) rfl (.tmp 25) (.tmp 29) 69 33 (.int .u32 0) 4 rfl Tryd.underlying69 (by kernel_rfl) rfl (by decide) (Value.int .u32) (fun _ => rfl) (.slice A2458 x2457.length n2460) (x2457 : List Int) [0, (a2289) % 4294967296] ⟨g2477, 0, none⟩ 2 rfl rfl (blk_news (xs := [0, (a2289) % 4294967296]) (HS.out.at2)) HS.out (by have := of_decide_eq_true c2480b0; simp only [List.length_cons, List.length_nil]; omega) HA2485 ?_; intro A2481 n2482 w2483 HS1; replace HS : Aside0 (Sep (fps []) w [b16 g2290 a2283 a2284 a2285 a2286 a2287 a2288 a2289, r5 A2481 y2484.length n2482 y2484, b19 g2477 0 ((a2289) % 4294967296)] w2483) := ⟨HS1⟩; clear HS1) | ((with_reducible refine gate_dst (N := 31) rfl ?_); refine slice_on (n := 8) ?hg (N := 31) ?hd (cs := #[.int .i64 2, .int .i64 1, .int .i64 1, .int .i64 1, .int .i64 1, .int .i64 1, .int .i64 1, .int .i64 24]) (t := 3) ?hr ?_; (case hd => rfl); (case hg => rfl); (case hr => first | (go_simp; done) | (go_simp; rfl)); intro g2487 hg w2488 hbox hb; replace HS : Aside0 (Sep (fps []) w [b16 g2290 a2283 a2284 a2285 a2286 a2287 a2288 a2289, r5 A2481 y2484.length n2482 y2484, b19 g2477 0 ((a2289) % 4294967296), b20 g2487 2 1 1 1 1 1 1 24] w2488) := ⟨HS.out.box hg hbox hb⟩; clear hg hbox hb))
            obtain ⟨t2597, HA2598, H⟩ := bind_some H
            refine (pack_Join.calls _ y2484 [2, 1, 1, 1, 1, 1, 1, 24] A2481 n2482 (some ⟨g2487, 0, none⟩) 8 t2597 _ ⟨Rd.ownI (l := []) HS.out 1 rfl⟩ ⟨Rd.lit (l := []) (xs := [2, 1, 1, 1, 1, 1, 1, 24]) HS.out 3 rfl (by simp)⟩ ⟨HGl0.out.pass (l := []) HS.out⟩ ⟨Sep.start _⟩ HA2598).mono ?_
            rintro e_ w2599 ⟨rfl, hS⟩
            replace HS : Aside0 (Sep (fps []) w [b16 g2290 a2283 a2284 a2285 a2286 a2287 a2288 a2289, r5 A2481 y2484.length n2482 y2484, b19 g2477 0 ((a2289) % 4294967296), b20 g2487 2 1 1 1 1 1 1 24] w2599) := ⟨HS.out.call hS⟩
            clear hS
            replace HS : Aside0 (Sep (fps []) w [] w2599) := ⟨HS.out.sub (.cons _ (.cons _ (.cons _ (.cons _ .slnil))))⟩
            go_wp2_with fail
            go_ret2
            rw [← some_eq H]
            exact ⟨(by first | rfl | (simp [IntKind.wrap_u32]; done)), HS.out⟩
          · replace H := if_no c2480 H
            have c2480b0 : decide (x2457.length < 35184372088831) = false := decide_eq_false c2480
            clear c2480
            exact (none_no H).elim
  · replace H := if_no c2435 H
    have c2435b0 : t2432 = false := by simpa using c2435
    have c2435b1 : (!t2432) = true := by rw [c2435b0]; rfl
    try rw [c2435b1]
    clear c2435
    replace HS : Aside0 (Sep (fps []) w [] w2434) := ⟨HS.out.sub (.cons _ .slnil)⟩
    go_wp2_with fail
    go_ret2
    rw [← some_eq H]
    exact ⟨(by first | rfl | (simp [IntKind.wrap_u32]; done)), HS.out⟩

set_option maxHeartbeats 30000000 in
set_option maxRecDepth 100000 in
theorem obj_mark.calls (k : Nat) (l2255 : List Int) (a2260 : Int) (a2261 : Int) (a2262 : Int) (a2263 : Int) (a2264 : Int) (a2265 : Int) (a2266 : Int) (a2267 : Int) (a2268 : Int) (a2269 : Int) (a2270 : Int) (a2271 : Int) (a2272 : Int) (g2251 : Nat) (g2253 : Nat) (A2256 : Option Addr) (m2257 : Nat) (n2258 : Nat) (r : Int × List Int) (w : World)  (HGl0 : Aside0 (Gl 0 #[.int .i64 0, .int .i64 0, .int .i64 0, .int .i64 0, .int .i64 0] (fps [b7 g2251 g2253 a2261 a2262 a2263 a2264, b6 g2253 A2256 m2257 n2258 a2260, r5 A2256 m2257 n2258 l2255]) w)) (HS : Aside0 (Sep (fps [b7 g2251 g2253 a2261 a2262 a2263 a2264, b6 g2253 A2256 m2257 n2258 a2260, r5 A2256 m2257 n2258 l2255]) w [b7 g2251 g2253 a2261 a2262 a2263 a2264, b6 g2253 A2256 m2257 n2258 a2260, r5 A2256 m2257 n2258 l2255] w)) (H : Aside0 (obj_mark.f k l2255 a2260 a2261 a2262 a2263 a2264 a2265 a2266 a2267 a2268 a2269 a2270 a2271 a2272 = some r)) :
    Calls Tryd.prog 99 #[.pointer (some ⟨g2251, 0, none⟩), .int .i64 a2265, .agg #[.int .i64 a2266, .int .i64 a2267, .int .i64 a2268, .int .i64 a2269, .int .i64 a2270, .int .i64 a2271, .int .i64 a2272]] w fun e w' => e = .returned (.tuple #[]) ∧ Sep (fps [b7 g2251 g2253 a2261 a2262 a2263 a2264, b6 g2253 A2256 m2257 n2258 a2260, r5 A2256 m2257 n2258 l2255]) w [b7 g2251 g2253 a2261 a2262 a2263 a2264, b6 g2253 A2256 m2257 n2258 r.1, r5 A2256 m2257 n2258 r.2] w' := by
  generalize (fps [b7 g2251 g2253 a2261 a2262 a2263 a2264, b6 g2253 A2256 m2257 n2258 a2260, r5 A2256 m2257 n2258 l2255]) = FF at HS HGl0 ⊢
  obtain rfl := (row_len (HS.out.at2)).symm
  unfold obj_mark.f at H
  go_enter Tryd.func99, Tryd.ntmps99
  go_wp2_with (first | ((with_reducible refine gate_dst (N := 5) rfl ?_); refine box_on ?hg (N := 5) ?hd (cs := #[.int .i64 a2266, .int .i64 a2267, .int .i64 a2268, .int .i64 a2269, .int .i64 a2270, .int .i64 a2271, .int .i64 a2272]) (t := 32) ?hr ?_; (case hd => rfl); (case hg => rfl); (case hr => first | (go_simp; done) | (go_simp; rfl)); intro g2626 hg w2627 hbox hb; replace HS : Aside0 (Sep FF w [b7 g2251 g2253 a2261 a2262 a2263 a2264, b6 g2253 A2256 l2255.length n2258 a2260, r5 A2256 l2255.length n2258 l2255, b16 g2626 a2266 a2267 a2268 a2269 a2270 a2271 a2272] w2627) := ⟨HS.out.box hg hbox hb⟩; clear hg hbox hb; have hc2629 : w2627.cell? ⟨g2626, 0, none⟩ = some (.int .i64 a2266) := blk_cellv (HS.out.at3) 0 rfl; have hc2630 : w2627.cell? ⟨g2626, 1, none⟩ = some (.int .i64 a2267) := blk_cellv (HS.out.at3) 1 rfl; have hc2631 : w2627.cell? ⟨g2626, 2, none⟩ = some (.int .i64 a2268) := blk_cellv (HS.out.at3) 2 rfl; have hc2632 : w2627.cell? ⟨g2626, 3, none⟩ = some (.int .i64 a2269) := blk_cellv (HS.out.at3) 3 rfl; have hc2633 : w2627.cell? ⟨g2626, 4, none⟩ = some (.int .i64 a2270) := blk_cellv (HS.out.at3) 4 rfl; have hc2634 : w2627.cell? ⟨g2626, 5, none⟩ = some (.int .i64 a2271) := blk_cellv (HS.out.at3) 5 rfl; have hc2635 : w2627.cell? ⟨g2626, 6, none⟩ = some (.int .i64 a2272) := blk_cellv (HS.out.at3) 6 rfl))
  clear hc2629 hc2630 hc2631 hc2632 hc2633 hc2634 hc2635
  obtain ⟨t2636, HA2637, H⟩ := bind_some H
  refine (tag_Pack.calls _ a2266 a2267 a2268 a2269 a2270 a2271 a2272 t2636 _ ⟨HGl0.out.pass (l := []) HS.out⟩ ⟨Sep.start _⟩ HA2637).mono ?_
  rintro e_ w2638 ⟨rfl, hS⟩
  replace HS : Aside0 (Sep FF w [b7 g2251 g2253 a2261 a2262 a2263 a2264, b6 g2253 A2256 l2255.length n2258 a2260, r5 A2256 l2255.length n2258 l2255, b16 g2626 a2266 a2267 a2268 a2269 a2270 a2271 a2272] w2638) := ⟨HS.out.call hS⟩
  clear hS
  by_cases c2639 : t2636.2 = 0
  · replace H := if_yes c2639 H
    have c2639b0 : (t2636.2 == 0) = true := beq_iff_eq.mpr c2639
    have c2639b1 : (t2636.2 != 0) = false := bne_eq_false_iff_eq.mpr c2639
    clear c2639
    replace HS : Aside0 (Sep FF w [b7 g2251 g2253 a2261 a2262 a2263 a2264, b6 g2253 A2256 l2255.length n2258 a2260, r5 A2256 l2255.length n2258 l2255] w2638) := ⟨HS.out.sub (.cons_cons _ (.cons_cons _ (.cons_cons _ (.cons _ .slnil))))⟩
    go_wp2_with fail
    obtain ⟨t2640, HA2641, H⟩ := bind_some H
    refine (ground_Ground_SetWord.calls l2255 a2260 a2261 a2262 a2263 a2264 a2265 0 t2636.1 g2251 g2253 A2256 l2255.length n2258 t2640 _ ⟨HGl0.out.pass HS.out⟩ ⟨HS.out.begin⟩ HA2641).mono ?_
    rintro e_ w2642 ⟨rfl, hS⟩
    replace HS : Aside0 (Sep FF w [b7 g2251 g2253 a2261 a2262 a2263 a2264, b6 g2253 A2256 l2255.length n2258 t2640.2.1, r5 A2256 l2255.length n2258 t2640.2.2] w2642) := ⟨HS.out.call hS⟩
    clear hS
    go_wp2_with fail
    first | go_end0 | refine bodyPost_ret (results_none rfl _ _ _) rfl ?_
    rw [← some_eq H]
    exact ⟨rfl, HS.out⟩
  · replace H := if_no c2639 H
    have c2639b0 : (t2636.2 == 0) = false := beq_eq_false_iff_ne.mpr c2639
    have c2639b1 : (t2636.2 != 0) = true := bne_iff_ne.mpr c2639
    clear c2639
    replace HS : Aside0 (Sep FF w [b7 g2251 g2253 a2261 a2262 a2263 a2264, b6 g2253 A2256 l2255.length n2258 a2260, r5 A2256 l2255.length n2258 l2255] w2638) := ⟨HS.out.sub (.cons_cons _ (.cons_cons _ (.cons_cons _ (.cons _ .slnil))))⟩
    go_wp2_with fail
    first | go_end0 | refine bodyPost_ret (results_none rfl _ _ _) rfl ?_
    rw [← some_eq H]
    exact ⟨rfl, HS.out⟩
end Go.Proofs.YtobeonkddamnoaaDoor.C

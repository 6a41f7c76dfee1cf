/- Each function of the group OA does what its plain function says, and changes nothing that was there; proved by walking its code. No condition. -/
import Derived.Test.YtobeonkddamnoaaDoorQw
import Derived.Test.YtobeonkddamnoaaDoorMOA
import Derived.Test.YtobeonkddamnoaaDoorGOA0
namespace Go.Proofs.YtobeonkddamnoaaDoor.C
open Go.RowKit Go.Proofs.YtobeonkddamnoaaDoorW.PrintWords Go.Proofs.YtobeonkddamnoaaDoorW.PrintLast Go.Proofs.YtobeonkddamnoaaDoor.Q Go.Proofs.YtobeonkddamnoaaDoor.M
set_option linter.unusedVariables false
set_option linter.unusedSimpArgs false
set_option maxHeartbeats 30000000 in
set_option maxRecDepth 100000 in
theorem chain_put_F143.calls (l1160 : List Int) (a1165 : Int) (a1166 : Int) (a1167 : Int) (a1168 : Int) (a1169 : Int) (a1170 : Int) (a1171 : Int) (a1176 : Int) (g1156 : Nat) (g1158 : Nat) (A1161 : Option Addr) (m1162 : Nat) (n1163 : Nat) (g1173 : Nat) (g1175 : Nat) (r : Bool × Int × List Int) (w : World)  (HGl0 : Aside0 (Gl 0 #[.int .i64 0, .int .i64 0, .int .i64 0, .int .i64 0, .int .i64 0] (fps [b8 g1156 g1158 a1166 a1167 a1168 a1169, b7 g1158 A1161 m1162 n1163 a1165, r6 A1161 m1162 n1163 l1160, b10 g1173 g1156, b11 g1175 a1176]) w)) (HS : Aside0 (Sep (fps [b8 g1156 g1158 a1166 a1167 a1168 a1169, b7 g1158 A1161 m1162 n1163 a1165, r6 A1161 m1162 n1163 l1160, b10 g1173 g1156, b11 g1175 a1176]) w [b8 g1156 g1158 a1166 a1167 a1168 a1169, b7 g1158 A1161 m1162 n1163 a1165, r6 A1161 m1162 n1163 l1160, b10 g1173 g1156, b11 g1175 a1176] w)) (H : Aside0 (chain_put_F143.f l1160 a1165 a1166 a1167 a1168 a1169 a1170 a1171 a1176 = some r)) :
    Calls Tryd.prog 142 #[.pointer (some ⟨g1156, 0, none⟩), .int .i64 a1170, .int .i64 a1171, .func (.func 143) #[] #[.pointer (some ⟨g1173, 0, none⟩), .pointer (some ⟨g1175, 0, none⟩)]] w fun e w' => e = .returned (.bool r.1) ∧ Sep (fps [b8 g1156 g1158 a1166 a1167 a1168 a1169, b7 g1158 A1161 m1162 n1163 a1165, r6 A1161 m1162 n1163 l1160, b10 g1173 g1156, b11 g1175 a1176]) w [b8 g1156 g1158 a1166 a1167 a1168 a1169, b7 g1158 A1161 m1162 n1163 r.2.1, r6 A1161 m1162 n1163 r.2.2, b10 g1173 g1156, b11 g1175 a1176] w' := by
  generalize (fps [b8 g1156 g1158 a1166 a1167 a1168 a1169, b7 g1158 A1161 m1162 n1163 a1165, r6 A1161 m1162 n1163 l1160, b10 g1173 g1156, b11 g1175 a1176]) = FF at HS HGl0 ⊢
  obtain rfl := (row_len (HS.out.at2)).symm
  unfold chain_put_F143.f at H
  go_enter Tryd.func142, Tryd.ntmps142
  go_wp2_with fail
  obtain ⟨t1469, HA1470, H⟩ := bind_some H
  refine (chain_of.calls l1160 a1165 a1166 a1167 a1168 a1169 a1170 g1156 g1158 A1161 l1160.length n1163 t1469 _ ⟨HGl0.out.pass HS.out⟩ ⟨HS.out.begin⟩ HA1470).mono ?_
  rintro e_ w1471 ⟨rfl, hS⟩
  replace HS : Aside0 (Sep FF w [b8 g1156 g1158 a1166 a1167 a1168 a1169, b7 g1158 A1161 l1160.length n1163 a1165, r6 A1161 l1160.length n1163 l1160, b10 g1173 g1156, b11 g1175 a1176] w1471) := ⟨HS.out.call hS⟩
  clear hS
  by_cases c1482 : t1469.2.2.2 = true
  · replace H := if_yes c1482 H
    have c1482b0 : t1469.2.2.2 = true := c1482
    have c1482b1 : (!t1469.2.2.2) = false := by rw [c1482b0]; rfl
    try rw [c1482b1]
    clear c1482
    by_cases c1483 : a1171 < 0
    · replace H := if_yes c1483 H
      have c1483b0 : decide (a1171 < 0) = true := decide_eq_true c1483
      clear c1483
      go_wp2_with (first | ((with_reducible refine gate_dst (N := 9) rfl ?_); refine box_on ?hg (N := 9) ?hd (cs := #[.int .i64 0, .int .i64 0, .int .i64 0]) (t := 166) ?hr ?_; (case hd => rfl); (case hg => rfl); (case hr => first | (go_simp; done) | (go_simp; rfl)); intro g1472 hg w1473 hbox hb; replace HS : Aside0 (Sep FF w [b8 g1156 g1158 a1166 a1167 a1168 a1169, b7 g1158 A1161 l1160.length n1163 a1165, r6 A1161 l1160.length n1163 l1160, b10 g1173 g1156, b11 g1175 a1176, b9 g1472 0 0 0] w1473) := ⟨HS.out.box hg hbox hb⟩; clear hg hbox hb; have hc1475 : w1473.cell? ⟨g1472, 0, none⟩ = some (.int .i64 0) := blk_cellv (HS.out.at5) 0 rfl; have hz1476 : w1473.frozen? ⟨g1472, 0, none⟩ = false := blk_fz (HS.out.at5) 0; have hc1477 : w1473.cell? ⟨g1472, 1, none⟩ = some (.int .i64 0) := blk_cellv (HS.out.at5) 1 rfl; have hz1478 : w1473.frozen? ⟨g1472, 1, none⟩ = false := blk_fz (HS.out.at5) 1; have hc1479 : w1473.cell? ⟨g1472, 2, none⟩ = some (.int .i64 0) := blk_cellv (HS.out.at5) 2 rfl; have hz1480 : w1473.frozen? ⟨g1472, 2, none⟩ = false := blk_fz (HS.out.at5) 2) | ((with_reducible refine gate_store (t := 166) (p := 9) rfl ?_); refine store_event (w1 := (World.setCell (World.setCell (World.setCell w1473 ⟨g1472, 0, none⟩ (.int .i64 t1469.1)) ⟨g1472, 1, none⟩ (.int .i64 t1469.2.1)) ⟨g1472, 2, none⟩ (.int .i64 t1469.2.2.1))) rfl (t := 166) (p := 9) rfl rfl ?hr ?_; (case hr => first | (go_simp; done) | (go_simp; rfl)); intro w1481 hst; clear hc1475 hz1476 hc1477 hz1478 hc1479 hz1480; replace HS : Aside0 (Sep FF w [b8 g1156 g1158 a1166 a1167 a1168 a1169, b7 g1158 A1161 l1160.length n1163 a1165, r6 A1161 l1160.length n1163 l1160, b10 g1173 g1156, b11 g1175 a1176, b9 g1472 t1469.1 t1469.2.1 t1469.2.2.1] w1481) := ⟨by rw [hst]; exact HS.out.setAll (l1 := [b8 g1156 g1158 a1166 a1167 a1168 a1169, b7 g1158 A1161 l1160.length n1163 a1165, r6 A1161 l1160.length n1163 l1160, b10 g1173 g1156, b11 g1175 a1176]) (l2 := []) [.int .i64 t1469.1, .int .i64 t1469.2.1, .int .i64 t1469.2.2.1] rfl⟩; clear hst; replace HS : Aside0 (Sep FF w [b8 g1156 g1158 a1166 a1167 a1168 a1169, b7 g1158 A1161 l1160.length n1163 a1165, r6 A1161 l1160.length n1163 l1160, b10 g1173 g1156, b11 g1175 a1176] w1481) := ⟨HS.out.sub (.cons_cons _ (.cons_cons _ (.cons_cons _ (.cons_cons _ (.cons_cons _ (.cons _ .slnil))))))⟩))
      go_ret
      rw [← some_eq H]
      exact ⟨(by first | rfl | (simp [IntKind.wrap_u32]; done)), HS.out⟩
    · replace H := if_no c1483 H
      have c1483b0 : decide (a1171 < 0) = false := decide_eq_false c1483
      clear c1483
      go_wp2_with (first | ((with_reducible refine gate_dst (N := 9) rfl ?_); refine box_on ?hg (N := 9) ?hd (cs := #[.int .i64 0, .int .i64 0, .int .i64 0]) (t := 166) ?hr ?_; (case hd => rfl); (case hg => rfl); (case hr => first | (go_simp; done) | (go_simp; rfl)); intro g1472 hg w1473 hbox hb; replace HS : Aside0 (Sep FF w [b8 g1156 g1158 a1166 a1167 a1168 a1169, b7 g1158 A1161 l1160.length n1163 a1165, r6 A1161 l1160.length n1163 l1160, b10 g1173 g1156, b11 g1175 a1176, b9 g1472 0 0 0] w1473) := ⟨HS.out.box hg hbox hb⟩; clear hg hbox hb; have hc1475 : w1473.cell? ⟨g1472, 0, none⟩ = some (.int .i64 0) := blk_cellv (HS.out.at5) 0 rfl; have hz1476 : w1473.frozen? ⟨g1472, 0, none⟩ = false := blk_fz (HS.out.at5) 0; have hc1477 : w1473.cell? ⟨g1472, 1, none⟩ = some (.int .i64 0) := blk_cellv (HS.out.at5) 1 rfl; have hz1478 : w1473.frozen? ⟨g1472, 1, none⟩ = false := blk_fz (HS.out.at5) 1; have hc1479 : w1473.cell? ⟨g1472, 2, none⟩ = some (.int .i64 0) := blk_cellv (HS.out.at5) 2 rfl; have hz1480 : w1473.frozen? ⟨g1472, 2, none⟩ = false := blk_fz (HS.out.at5) 2) | ((with_reducible refine gate_store (t := 166) (p := 9) rfl ?_); refine store_event (w1 := (World.setCell (World.setCell (World.setCell w1473 ⟨g1472, 0, none⟩ (.int .i64 t1469.1)) ⟨g1472, 1, none⟩ (.int .i64 t1469.2.1)) ⟨g1472, 2, none⟩ (.int .i64 t1469.2.2.1))) rfl (t := 166) (p := 9) rfl rfl ?hr ?_; (case hr => first | (go_simp; done) | (go_simp; rfl)); intro w1481 hst; clear hc1475 hz1476 hc1477 hz1478 hc1479 hz1480; replace HS : Aside0 (Sep FF w [b8 g1156 g1158 a1166 a1167 a1168 a1169, b7 g1158 A1161 l1160.length n1163 a1165, r6 A1161 l1160.length n1163 l1160, b10 g1173 g1156, b11 g1175 a1176, b9 g1472 t1469.1 t1469.2.1 t1469.2.2.1] w1481) := ⟨by rw [hst]; exact HS.out.setAll (l1 := [b8 g1156 g1158 a1166 a1167 a1168 a1169, b7 g1158 A1161 l1160.length n1163 a1165, r6 A1161 l1160.length n1163 l1160, b10 g1173 g1156, b11 g1175 a1176]) (l2 := []) [.int .i64 t1469.1, .int .i64 t1469.2.1, .int .i64 t1469.2.2.1] rfl⟩; clear hst))
      obtain ⟨t1484, HA1485, H⟩ := bind_some H
      refine (ground_Ground_Conf.calls l1160 a1165 a1166 a1167 a1168 a1169 g1156 g1158 A1161 l1160.length n1163 t1484 _ ⟨HGl0.out.pass HS.out⟩ ⟨HS.out.begin⟩ HA1485).mono ?_
      rintro e_ w1486 ⟨rfl, hS⟩
      replace HS : Aside0 (Sep FF w [b8 g1156 g1158 a1166 a1167 a1168 a1169, b7 g1158 A1161 l1160.length n1163 a1165, r6 A1161 l1160.length n1163 l1160, b10 g1173 g1156, b11 g1175 a1176, b9 g1472 t1469.1 t1469.2.1 t1469.2.2.1] w1486) := ⟨HS.out.call hS⟩
      clear hS
      by_cases c1488 : a1171 ≥ t1484.1
      · replace H := if_yes c1488 H
        have c1488b0 : decide (t1484.1 ≤ a1171) = true := decide_eq_true c1488
        clear c1488
        have fl1487 : ∀ w, (Instr.field 30 (.agg #[.int .i64 t1484.1, .int .i64 t1484.2.1, .int .i64 t1484.2.2.1, .int .i64 t1484.2.2.2]) 0).run Tryd.prog w = .ok (.int .i64 t1484.1) w := fun _ => by kernel_rfl
        replace HS : Aside0 (Sep FF w [b8 g1156 g1158 a1166 a1167 a1168 a1169, b7 g1158 A1161 l1160.length n1163 a1165, r6 A1161 l1160.length n1163 l1160, b10 g1173 g1156, b11 g1175 a1176] w1486) := ⟨HS.out.sub (.cons_cons _ (.cons_cons _ (.cons_cons _ (.cons_cons _ (.cons_cons _ (.cons _ .slnil))))))⟩
        go_wp2_with fail
        clear fl1487
        go_ret
        rw [← some_eq H]
        exact ⟨(by first | rfl | (simp [IntKind.wrap_u32]; done)), HS.out⟩
      · replace H := if_no c1488 H
        have c1488b0 : decide (t1484.1 ≤ a1171) = false := decide_eq_false c1488
        clear c1488
        have fl1487 : ∀ w, (Instr.field 30 (.agg #[.int .i64 t1484.1, .int .i64 t1484.2.1, .int .i64 t1484.2.2.1, .int .i64 t1484.2.2.2]) 0).run Tryd.prog w = .ok (.int .i64 t1484.1) w := fun _ => by kernel_rfl
        have hc1489 : w1486.cell? ⟨g1472, 2, none⟩ = some (.int .i64 t1469.2.2.1) := blk_cellv (HS.out.at5) 2 rfl
        go_wp2_with fail
        clear fl1487 hc1489
        obtain ⟨t1490, HA1491, H⟩ := bind_some H
        refine (ground_Ground_Reg.calls l1160 a1165 a1166 a1167 a1168 a1169 t1469.2.2.1 g1156 g1158 A1161 l1160.length n1163 t1490 _ ⟨HGl0.out.pass HS.out⟩ ⟨HS.out.begin⟩ HA1491).mono ?_
        rintro e_ w1492 ⟨rfl, hS⟩
        replace HS : Aside0 (Sep FF w [b8 g1156 g1158 a1166 a1167 a1168 a1169, b7 g1158 A1161 l1160.length n1163 t1490.2, r6 A1161 l1160.length n1163 l1160, b10 g1173 g1156, b11 g1175 a1176, b9 g1472 t1469.1 t1469.2.1 t1469.2.2.1] w1492) := ⟨HS.out.call hS⟩
        clear hS
        have hc1493 : w1492.cell? ⟨g1472, 0, none⟩ = some (.int .i64 t1469.1) := blk_cellv (HS.out.at5) 0 rfl
        have hc1494 : w1492.cell? ⟨g1472, 1, none⟩ = some (.int .i64 t1469.2.1) := blk_cellv (HS.out.at5) 1 rfl
        have hc1495 : w1492.cell? ⟨g1472, 2, none⟩ = some (.int .i64 t1469.2.2.1) := blk_cellv (HS.out.at5) 2 rfl
        go_wp2_with fail
        clear hc1493 hc1494 hc1495
        replace HS : Aside0 (Sep FF w [b11 g1175 a1176, b8 g1156 g1158 a1166 a1167 a1168 a1169, b7 g1158 A1161 l1160.length n1163 t1490.2, r6 A1161 l1160.length n1163 l1160, b10 g1173 g1156, b9 g1472 t1469.1 t1469.2.1 t1469.2.2.1] w1492) := ⟨HS.out.front 4 (by simp)⟩
        replace HS : Aside0 (Sep FF w [r6 A1161 l1160.length n1163 l1160, b11 g1175 a1176, b8 g1156 g1158 a1166 a1167 a1168 a1169, b7 g1158 A1161 l1160.length n1163 t1490.2, b10 g1173 g1156, b9 g1472 t1469.1 t1469.2.1 t1469.2.2.1] w1492) := ⟨HS.out.front 3 (by simp)⟩
        replace HS : Aside0 (Sep FF w [b7 g1158 A1161 l1160.length n1163 t1490.2, r6 A1161 l1160.length n1163 l1160, b11 g1175 a1176, b8 g1156 g1158 a1166 a1167 a1168 a1169, b10 g1173 g1156, b9 g1472 t1469.1 t1469.2.1 t1469.2.2.1] w1492) := ⟨HS.out.front 3 (by simp)⟩
        replace HS : Aside0 (Sep FF w [b8 g1156 g1158 a1166 a1167 a1168 a1169, b7 g1158 A1161 l1160.length n1163 t1490.2, r6 A1161 l1160.length n1163 l1160, b11 g1175 a1176, b10 g1173 g1156, b9 g1472 t1469.1 t1469.2.1 t1469.2.2.1] w1492) := ⟨HS.out.front 3 (by simp)⟩
        replace HS : Aside0 (Sep FF w [b10 g1173 g1156, b8 g1156 g1158 a1166 a1167 a1168 a1169, b7 g1158 A1161 l1160.length n1163 t1490.2, r6 A1161 l1160.length n1163 l1160, b11 g1175 a1176, b9 g1472 t1469.1 t1469.2.1 t1469.2.2.1] w1492) := ⟨HS.out.front 4 (by simp)⟩
        obtain ⟨t1496, HA1497, H⟩ := bind_some H
        refine (chain_Add_1.calls t1469.1 t1469.2.1 t1469.2.2.1 (wrap64 (a1171 + 1)) t1490.1 l1160 t1490.2 a1166 a1167 a1168 a1169 a1176 g1173 g1156 g1158 A1161 l1160.length n1163 g1175 t1496 _ ⟨HGl0.out.pass HS.out⟩ ⟨HS.out.begin⟩ HA1497).mono ?_
        rintro e_ w1498 ⟨rfl, hS⟩
        replace HS : Aside0 (Sep FF w [b10 g1173 g1156, b8 g1156 g1158 a1166 a1167 a1168 a1169, b7 g1158 A1161 l1160.length n1163 t1496.1, r6 A1161 l1160.length n1163 t1496.2, b11 g1175 a1176, b9 g1472 t1469.1 t1469.2.1 t1469.2.2.1] w1498) := ⟨HS.out.call hS⟩
        clear hS
        have hc1499 : w1498.cell? ⟨g1472, 2, none⟩ = some (.int .i64 t1469.2.2.1) := blk_cellv (HS.out.at5) 2 rfl
        go_wp2_with fail
        clear hc1499
        replace HS : Aside0 (Sep FF w [r6 A1161 l1160.length n1163 t1496.2, b10 g1173 g1156, b8 g1156 g1158 a1166 a1167 a1168 a1169, b7 g1158 A1161 l1160.length n1163 t1496.1, b11 g1175 a1176, b9 g1472 t1469.1 t1469.2.1 t1469.2.2.1] w1498) := ⟨HS.out.front 3 (by simp)⟩
        replace HS : Aside0 (Sep FF w [b7 g1158 A1161 l1160.length n1163 t1496.1, r6 A1161 l1160.length n1163 t1496.2, b10 g1173 g1156, b8 g1156 g1158 a1166 a1167 a1168 a1169, b11 g1175 a1176, b9 g1472 t1469.1 t1469.2.1 t1469.2.2.1] w1498) := ⟨HS.out.front 3 (by simp)⟩
        replace HS : Aside0 (Sep FF w [b8 g1156 g1158 a1166 a1167 a1168 a1169, b7 g1158 A1161 l1160.length n1163 t1496.1, r6 A1161 l1160.length n1163 t1496.2, b10 g1173 g1156, b11 g1175 a1176, b9 g1472 t1469.1 t1469.2.1 t1469.2.2.1] w1498) := ⟨HS.out.front 3 (by simp)⟩
        obtain ⟨t1500, HA1501, H⟩ := bind_some H
        refine (ground_Ground_SetReg.calls t1496.2 t1496.1 a1166 a1167 a1168 a1169 t1469.2.2.1 (wrap64 (t1490.1 + 1)) g1156 g1158 A1161 l1160.length n1163 t1500 _ ⟨HGl0.out.pass HS.out⟩ ⟨HS.out.begin⟩ HA1501).mono ?_
        rintro e_ w1502 ⟨rfl, hS⟩
        replace HS : Aside0 (Sep FF w [b8 g1156 g1158 a1166 a1167 a1168 a1169, b7 g1158 A1161 l1160.length n1163 t1500.2.1, r6 A1161 l1160.length n1163 t1500.2.2, b10 g1173 g1156, b11 g1175 a1176, b9 g1472 t1469.1 t1469.2.1 t1469.2.2.1] w1502) := ⟨HS.out.call hS⟩
        clear hS
        replace HS : Aside0 (Sep FF w [b8 g1156 g1158 a1166 a1167 a1168 a1169, b7 g1158 A1161 l1160.length n1163 t1500.2.1, r6 A1161 l1160.length n1163 t1500.2.2, b10 g1173 g1156, b11 g1175 a1176] w1502) := ⟨HS.out.sub (.cons_cons _ (.cons_cons _ (.cons_cons _ (.cons_cons _ (.cons_cons _ (.cons _ .slnil))))))⟩
        go_wp2_with fail
        go_ret
        rw [← some_eq H]
        exact ⟨(by first | rfl | (simp [IntKind.wrap_u32]; done)), HS.out⟩
  · replace H := if_no c1482 H
    have c1482b0 : t1469.2.2.2 = false := by simpa using c1482
    have c1482b1 : (!t1469.2.2.2) = true := by rw [c1482b0]; rfl
    try rw [c1482b1]
    clear c1482
    go_wp2_with (first | ((with_reducible refine gate_dst (N := 9) rfl ?_); refine box_on ?hg (N := 9) ?hd (cs := #[.int .i64 0, .int .i64 0, .int .i64 0]) (t := 166) ?hr ?_; (case hd => rfl); (case hg => rfl); (case hr => first | (go_simp; done) | (go_simp; rfl)); intro g1472 hg w1473 hbox hb; replace HS : Aside0 (Sep FF w [b8 g1156 g1158 a1166 a1167 a1168 a1169, b7 g1158 A1161 l1160.length n1163 a1165, r6 A1161 l1160.length n1163 l1160, b10 g1173 g1156, b11 g1175 a1176, b9 g1472 0 0 0] w1473) := ⟨HS.out.box hg hbox hb⟩; clear hg hbox hb; have hc1475 : w1473.cell? ⟨g1472, 0, none⟩ = some (.int .i64 0) := blk_cellv (HS.out.at5) 0 rfl; have hz1476 : w1473.frozen? ⟨g1472, 0, none⟩ = false := blk_fz (HS.out.at5) 0; have hc1477 : w1473.cell? ⟨g1472, 1, none⟩ = some (.int .i64 0) := blk_cellv (HS.out.at5) 1 rfl; have hz1478 : w1473.frozen? ⟨g1472, 1, none⟩ = false := blk_fz (HS.out.at5) 1; have hc1479 : w1473.cell? ⟨g1472, 2, none⟩ = some (.int .i64 0) := blk_cellv (HS.out.at5) 2 rfl; have hz1480 : w1473.frozen? ⟨g1472, 2, none⟩ = false := blk_fz (HS.out.at5) 2) | ((with_reducible refine gate_store (t := 166) (p := 9) rfl ?_); refine store_event (w1 := (World.setCell (World.setCell (World.setCell w1473 ⟨g1472, 0, none⟩ (.int .i64 t1469.1)) ⟨g1472, 1, none⟩ (.int .i64 t1469.2.1)) ⟨g1472, 2, none⟩ (.int .i64 t1469.2.2.1))) rfl (t := 166) (p := 9) rfl rfl ?hr ?_; (case hr => first | (go_simp; done) | (go_simp; rfl)); intro w1481 hst; clear hc1475 hz1476 hc1477 hz1478 hc1479 hz1480; replace HS : Aside0 (Sep FF w [b8 g1156 g1158 a1166 a1167 a1168 a1169, b7 g1158 A1161 l1160.length n1163 a1165, r6 A1161 l1160.length n1163 l1160, b10 g1173 g1156, b11 g1175 a1176, b9 g1472 t1469.1 t1469.2.1 t1469.2.2.1] w1481) := ⟨by rw [hst]; exact HS.out.setAll (l1 := [b8 g1156 g1158 a1166 a1167 a1168 a1169, b7 g1158 A1161 l1160.length n1163 a1165, r6 A1161 l1160.length n1163 l1160, b10 g1173 g1156, b11 g1175 a1176]) (l2 := []) [.int .i64 t1469.1, .int .i64 t1469.2.1, .int .i64 t1469.2.2.1] rfl⟩; clear hst; replace HS : Aside0 (Sep FF w [b8 g1156 g1158 a1166 a1167 a1168 a1169, b7 g1158 A1161 l1160.length n1163 a1165, r6 A1161 l1160.length n1163 l1160, b10 g1173 g1156, b11 g1175 a1176] w1481) := ⟨HS.out.sub (.cons_cons _ (.cons_cons _ (.cons_cons _ (.cons_cons _ (.cons_cons _ (.cons _ .slnil))))))⟩))
    go_ret
    rw [← some_eq H]
    exact ⟨(by first | rfl | (simp [IntKind.wrap_u32]; done)), HS.out⟩

set_option maxHeartbeats 30000000 in
set_option maxRecDepth 100000 in
theorem chain_Add.calls (l1135 : List Int) (a1140 : Int) (a1141 : Int) (a1142 : Int) (a1143 : Int) (a1144 : Int) (a1145 : Int) (a1146 : Int) (g1131 : Nat) (g1133 : Nat) (A1136 : Option Addr) (m1137 : Nat) (n1138 : Nat) (r : Bool × Int × List Int) (w : World)  (HGl0 : Aside0 (Gl 0 #[.int .i64 0, .int .i64 0, .int .i64 0, .int .i64 0, .int .i64 0] (fps [b8 g1131 g1133 a1141 a1142 a1143 a1144, b7 g1133 A1136 m1137 n1138 a1140, r6 A1136 m1137 n1138 l1135]) w)) (HS : Aside0 (Sep (fps [b8 g1131 g1133 a1141 a1142 a1143 a1144, b7 g1133 A1136 m1137 n1138 a1140, r6 A1136 m1137 n1138 l1135]) w [b8 g1131 g1133 a1141 a1142 a1143 a1144, b7 g1133 A1136 m1137 n1138 a1140, r6 A1136 m1137 n1138 l1135] w)) (H : Aside0 (chain_Add.f l1135 a1140 a1141 a1142 a1143 a1144 a1145 a1146 = some r)) :
    Calls Tryd.prog 117 #[.pointer (some ⟨g1131, 0, none⟩), .int .i64 a1145, .int .i64 a1146] w fun e w' => e = .returned (.bool r.1) ∧ Sep (fps [b8 g1131 g1133 a1141 a1142 a1143 a1144, b7 g1133 A1136 m1137 n1138 a1140, r6 A1136 m1137 n1138 l1135]) w [b8 g1131 g1133 a1141 a1142 a1143 a1144, b7 g1133 A1136 m1137 n1138 r.2.1, r6 A1136 m1137 n1138 r.2.2] w' := by
  generalize (fps [b8 g1131 g1133 a1141 a1142 a1143 a1144, b7 g1133 A1136 m1137 n1138 a1140, r6 A1136 m1137 n1138 l1135]) = FF at HS HGl0 ⊢
  obtain rfl := (row_len (HS.out.at2)).symm
  unfold chain_Add.f at H
  go_enter Tryd.func117, Tryd.ntmps117
  go_wp2_with (first | ((with_reducible refine gate_dst (N := 3) rfl ?_); refine box_on ?hg (N := 3) ?hd (cs := #[.pointer (some ⟨g1131, 0, none⟩)]) (t := 25) ?hr ?_; (case hd => rfl); (case hg => rfl); (case hr => first | (go_simp; done) | (go_simp; rfl)); intro g1506 hg w1507 hbox hb; replace HS : Aside0 (Sep FF w [b8 g1131 g1133 a1141 a1142 a1143 a1144, b7 g1133 A1136 l1135.length n1138 a1140, r6 A1136 l1135.length n1138 l1135, b10 g1506 g1131] w1507) := ⟨HS.out.box hg hbox hb⟩; clear hg hbox hb) | ((with_reducible refine gate_dst (N := 5) rfl ?_); refine box_on ?hg (N := 5) ?hd (cs := #[.int .i64 a1146]) (t := 3) ?hr ?_; (case hd => rfl); (case hg => rfl); (case hr => first | (go_simp; done) | (go_simp; rfl)); intro g1509 hg w1510 hbox hb; replace HS : Aside0 (Sep FF w [b8 g1131 g1133 a1141 a1142 a1143 a1144, b7 g1133 A1136 l1135.length n1138 a1140, r6 A1136 l1135.length n1138 l1135, b10 g1506 g1131, b11 g1509 a1146] w1510) := ⟨HS.out.box hg hbox hb⟩; clear hg hbox hb; have hc1512 : w1510.cell? ⟨g1506, 0, none⟩ = some (.pointer (some ⟨g1131, 0, none⟩)) := blk_cellv (HS.out.at3) 0 rfl; have hc1513 : w1510.cell? ⟨g1509, 0, none⟩ = some (.int .i64 a1146) := blk_cellv (HS.out.at4) 0 rfl))
  clear hc1512 hc1513
  obtain ⟨t1514, HA1515, H⟩ := bind_some H
  refine (chain_put_F143.calls l1135 a1140 a1141 a1142 a1143 a1144 a1145 a1146 a1146 g1131 g1133 A1136 l1135.length n1138 g1506 g1509 t1514 _ ⟨HGl0.out.pass HS.out⟩ ⟨HS.out.begin⟩ HA1515).mono ?_
  rintro e_ w1516 ⟨rfl, hS⟩
  replace HS : Aside0 (Sep FF w [b8 g1131 g1133 a1141 a1142 a1143 a1144, b7 g1133 A1136 l1135.length n1138 t1514.2.1, r6 A1136 l1135.length n1138 t1514.2.2, b10 g1506 g1131, b11 g1509 a1146] w1516) := ⟨HS.out.call hS⟩
  clear hS
  replace HS : Aside0 (Sep FF w [b8 g1131 g1133 a1141 a1142 a1143 a1144, b7 g1133 A1136 l1135.length n1138 t1514.2.1, r6 A1136 l1135.length n1138 t1514.2.2] w1516) := ⟨HS.out.sub (.cons_cons _ (.cons_cons _ (.cons_cons _ (.cons _ (.cons _ .slnil)))))⟩
  go_wp2_with fail
  go_ret
  rw [← some_eq H]
  exact ⟨(by first | rfl | (simp [IntKind.wrap_u32]; done)), HS.out⟩

set_option maxHeartbeats 30000000 in
set_option maxRecDepth 100000 in
theorem pool_Open.calls (k : Nat) (l834 : List Int) (a839 : Int) (a840 : Int) (a841 : Int) (a842 : Int) (a843 : Int) (g830 : Nat) (g832 : Nat) (A835 : Option Addr) (m836 : Nat) (n837 : Nat) (r : Bool × Int × List Int) (w : World)  (HGl0 : Aside0 (Gl 0 #[.int .i64 0, .int .i64 0, .int .i64 0, .int .i64 0, .int .i64 0] (fps [b8 g830 g832 a840 a841 a842 a843, b7 g832 A835 m836 n837 a839, r6 A835 m836 n837 l834]) w)) (HS : Aside0 (Sep (fps [b8 g830 g832 a840 a841 a842 a843, b7 g832 A835 m836 n837 a839, r6 A835 m836 n837 l834]) w [b8 g830 g832 a840 a841 a842 a843, b7 g832 A835 m836 n837 a839, r6 A835 m836 n837 l834] w)) (H : Aside0 (pool_Open.f k l834 a839 a840 a841 a842 a843 = some r)) :
    Calls Tryd.prog 62 #[.pointer (some ⟨g830, 0, none⟩)] w fun e w' => e = .returned (.bool r.1) ∧ Sep (fps [b8 g830 g832 a840 a841 a842 a843, b7 g832 A835 m836 n837 a839, r6 A835 m836 n837 l834]) w [b8 g830 g832 a840 a841 a842 a843, b7 g832 A835 m836 n837 r.2.1, r6 A835 m836 n837 r.2.2] w' := by
  generalize (fps [b8 g830 g832 a840 a841 a842 a843, b7 g832 A835 m836 n837 a839, r6 A835 m836 n837 l834]) = FF at HS HGl0 ⊢
  obtain rfl := (row_len (HS.out.at2)).symm
  unfold pool_Open.f at H
  go_enter Tryd.func62, Tryd.ntmps62
  go_wp2_with fail
  obtain ⟨t1530, HA1531, H⟩ := bind_some H
  refine (chain_Len.calls l834 a839 a840 a841 a842 a843 0 g830 g832 A835 l834.length n837 t1530 _ ⟨HGl0.out.pass HS.out⟩ ⟨HS.out.begin⟩ HA1531).mono ?_
  rintro e_ w1532 ⟨rfl, hS⟩
  replace HS : Aside0 (Sep FF w [b8 g830 g832 a840 a841 a842 a843, b7 g832 A835 l834.length n837 t1530.2, r6 A835 l834.length n837 l834] w1532) := ⟨HS.out.call hS⟩
  clear hS
  by_cases c1533 : t1530.1 > 0
  · replace H := if_yes c1533 H
    have c1533b0 : decide (0 < t1530.1) = true := decide_eq_true c1533
    clear c1533
    go_wp2_with fail
    go_ret
    rw [← some_eq H]
    exact ⟨(by first | rfl | (simp [IntKind.wrap_u32]; done)), HS.out⟩
  · replace H := if_no c1533 H
    have c1533b0 : decide (0 < t1530.1) = false := decide_eq_false c1533
    clear c1533
    go_wp2_with fail
    obtain ⟨t1534, HA1535, H⟩ := bind_some H
    refine (ground_Ground_Conf.calls l834 t1530.2 a840 a841 a842 a843 g830 g832 A835 l834.length n837 t1534 _ ⟨HGl0.out.pass HS.out⟩ ⟨HS.out.begin⟩ HA1535).mono ?_
    rintro e_ w1536 ⟨rfl, hS⟩
    replace HS : Aside0 (Sep FF w [b8 g830 g832 a840 a841 a842 a843, b7 g832 A835 l834.length n837 t1530.2, r6 A835 l834.length n837 l834] w1536) := ⟨HS.out.call hS⟩
    clear hS
    have fl1537 : ∀ w, (Instr.field 30 (.agg #[.int .i64 t1534.1, .int .i64 t1534.2.1, .int .i64 t1534.2.2.1, .int .i64 t1534.2.2.2]) 0).run Tryd.prog w = .ok (.int .i64 t1534.1) w := fun _ => by kernel_rfl
    go_wp2_with fail
    clear fl1537
    obtain ⟨o1548, AL1549, H⟩ := bind_some H
    go_loopg [14] k (fun kq v14 wc => ∃ (x1552 : Int) (x1553 : List Int) (x1554 : Int), v14 = .int .i64 x1552 ∧ Aside0 (pool_Open.lo0 kq a840 a841 a842 a843 t1534 x1552 x1553 x1554 = some o1548) ∧ Aside0 (Sep FF w [b8 g830 g832 a840 a841 a842 a843, b7 g832 A835 l834.length n837 x1554, r6 A835 l834.length n837 x1553] wc))
    case atStart => exact ⟨(0), (l834), (t1530.2), (by first | rfl | (simp [IntKind.wrap_u32]; done)), AL1549, ⟨HS.out⟩⟩
    case round =>
      clear AL1549 HS
      obtain ⟨x1552, x1553, x1554, rfl, AL1549, HS⟩ := hrel
      obtain ⟨w1550, rfl⟩ : ∃ x : World, x = wr := ⟨_, rfl⟩
      cases gk with
      | zero => exact absurd AL1549.out (by simp [pool_Open.lo0])
      | succ k1551 =>
        have AL0 := AL1549.out
        rw [pool_Open.lo0] at AL0
        clear AL1549
        have AL1549 := Aside0.mk AL0
        clear AL0
        by_cases c1555 : x1552 < t1534.1
        · replace AL1549 := if_yes c1555 AL1549
          have c1555b0 : decide (x1552 < t1534.1) = true := decide_eq_true c1555
          clear c1555
          go_wp2_with fail
          obtain ⟨t1545, HA1556, AL1549⟩ := bind_some AL1549
          refine (chain_Add.calls x1553 x1554 a840 a841 a842 a843 0 x1552 g830 g832 A835 l834.length n837 t1545 _ ⟨HGl0.out.pass HS.out⟩ ⟨HS.out.begin⟩ HA1556).mono ?_
          rintro e_ w1557 ⟨rfl, hS⟩
          replace HS : Aside0 (Sep FF w [b8 g830 g832 a840 a841 a842 a843, b7 g832 A835 l834.length n837 t1545.2.1, r6 A835 l834.length n837 t1545.2.2] w1557) := ⟨HS.out.call hS⟩
          clear hS
          go_wp2_with fail
          go_roundg k1551
          case measure => exact Nat.lt_succ_self _
          case rel => exact ⟨(wrap64 (x1552 + 1)), (t1545.2.2), (t1545.2.1), (by first | rfl | (simp [IntKind.wrap_u32]; done)), Aside0.mk AL1549.out, ⟨HS.out⟩⟩
        · replace AL1549 := if_no c1555 AL1549
          have c1555b0 : decide (x1552 < t1534.1) = false := decide_eq_false c1555
          clear c1555
          have ho := some_eq AL1549
          subst ho
          clear AL1549
          go_wp2_with fail
          go_ret
          rw [← some_eq H]
          exact ⟨(by first | rfl | (simp [IntKind.wrap_u32]; done)), HS.out⟩

set_option maxHeartbeats 30000000 in
set_option maxRecDepth 100000 in
theorem quitrentlaw11_opened.calls (k : Nat) (a14 : Int) (a15 : Int) (a16 : Int) (a17 : Int) (r : Bool ⊕ (Bool × Int × Int × Int × Int × Int × List Int)) (w : World)  (HGl0 : Aside0 (Gl 0 #[.int .i64 0, .int .i64 0, .int .i64 0, .int .i64 0, .int .i64 0] (fps []) w)) (HS : Aside0 (Sep (fps []) w [] w)) (H : Aside0 (quitrentlaw11_opened.f k a14 a15 a16 a17 = some r)) :
    Calls Tryd.prog 43 #[.agg #[.int .i64 a14, .int .i64 a15, .int .i64 a16, .int .i64 a17]] w fun e w' => Sum.elim (fun (r : Bool) => e = .returned (.tuple #[.pointer none, .bool r]) ∧ Sep (fps []) w [] w') (fun (r : Bool × Int × Int × Int × Int × Int × List Int) => ∃ (g1602 : Nat), e = .returned (.tuple #[.pointer (some ⟨g1602, 0, none⟩), .bool r.1]) ∧ ∃ (g1603 : Nat) (A1604 : Option Addr) (m1605 : Nat) (n1606 : Nat), Sep (fps []) w [b8 g1602 g1603 r.2.1 r.2.2.1 r.2.2.2.1 r.2.2.2.2.1, b7 g1603 A1604 m1605 n1606 r.2.2.2.2.2.1, r6 A1604 m1605 n1606 r.2.2.2.2.2.2] w') r := by
  unfold quitrentlaw11_opened.f at H
  go_enter Tryd.func43, Tryd.ntmps43
  go_wp2_with (first | ((with_reducible refine gate_dst (N := 1) rfl ?_); refine box_on ?hg (N := 1) ?hd (cs := #[.int .i64 a14, .int .i64 a15, .int .i64 a16, .int .i64 a17]) (t := 30) ?hr ?_; (case hd => rfl); (case hg => rfl); (case hr => first | (go_simp; done) | (go_simp; rfl)); intro g1562 hg w1563 hbox hb; replace HS : Aside0 (Sep (fps []) w [b2 g1562 a14 a15 a16 a17] w1563) := ⟨HS.out.box hg hbox hb⟩; clear hg hbox hb; have hc1565 : w1563.cell? ⟨g1562, 0, none⟩ = some (.int .i64 a14) := blk_cellv (HS.out.at0) 0 rfl; have hc1566 : w1563.cell? ⟨g1562, 1, none⟩ = some (.int .i64 a15) := blk_cellv (HS.out.at0) 1 rfl; have hc1567 : w1563.cell? ⟨g1562, 2, none⟩ = some (.int .i64 a16) := blk_cellv (HS.out.at0) 2 rfl; have hc1568 : w1563.cell? ⟨g1562, 3, none⟩ = some (.int .i64 a17) := blk_cellv (HS.out.at0) 3 rfl))
  clear hc1565 hc1566 hc1567 hc1568
  obtain ⟨t1569, HA1570, H⟩ := bind_some H
  rcases t1569 with t1571 | (t1572 | t1573)
  · have H := sum_l H
    refine (ground_New.calls _ a14 a15 a16 a17 (.inl t1571) _ ⟨HGl0.out.pass (l := []) HS.out⟩ ⟨Sep.start _⟩ HA1570).mono ?_
    rintro e_ w1574 ⟨rfl, hS⟩
    replace HS : Aside0 (Sep (fps []) w [b2 g1562 a14 a15 a16 a17] w1574) := ⟨HS.out.call hS⟩
    clear hS
    replace HS : Aside0 (Sep (fps []) w [] w1574) := ⟨HS.out.sub (.cons _ .slnil)⟩
    go_wp2_with fail
    go_ret2
    rw [← some_eq H]
    exact ⟨(by first | rfl | (simp [IntKind.wrap_u32]; done)), HS.out⟩
  · have H := sum_r H
    have H := sum_l H
    refine (ground_New.calls _ a14 a15 a16 a17 (.inr (.inl t1572)) _ ⟨HGl0.out.pass (l := []) HS.out⟩ ⟨Sep.start _⟩ HA1570).mono ?_
    rintro e_ w1575 ⟨g1579, rfl, g1580, A1581, m1582, n1583, hS⟩
    replace HS : Aside0 (Sep (fps []) w [b8 g1579 g1580 t1572.1 t1572.2.1 t1572.2.2.1 t1572.2.2.2.1, b7 g1580 A1581 m1582 n1583 0, r6 A1581 m1582 n1583 t1572.2.2.2.2, b2 g1562 a14 a15 a16 a17] w1575) := ⟨HS.out.call hS⟩
    clear hS
    obtain rfl := (row_len (HS.out.at2)).symm
    replace HS : Aside0 (Sep (fps []) w [b8 g1579 g1580 t1572.1 t1572.2.1 t1572.2.2.1 t1572.2.2.2.1, b7 g1580 A1581 ((t1572.2.2.2.2).length) n1583 0, r6 A1581 ((t1572.2.2.2.2).length) n1583 t1572.2.2.2.2] w1575) := ⟨HS.out.sub (.cons_cons _ (.cons_cons _ (.cons_cons _ (.cons _ .slnil))))⟩
    go_wp2_with fail
    obtain ⟨t1585, HA1586, H⟩ := bind_some H
    refine (pool_Open.calls _ t1572.2.2.2.2 0 t1572.1 t1572.2.1 t1572.2.2.1 t1572.2.2.2.1 g1579 g1580 A1581 ((t1572.2.2.2.2).length) n1583 t1585 _ ⟨HGl0.out.pass HS.out⟩ ⟨HS.out.begin⟩ HA1586).mono ?_
    rintro e_ w1587 ⟨rfl, hS⟩
    replace HS : Aside0 (Sep (fps []) w [b8 g1579 g1580 t1572.1 t1572.2.1 t1572.2.2.1 t1572.2.2.2.1, b7 g1580 A1581 ((t1572.2.2.2.2).length) n1583 t1585.2.1, r6 A1581 ((t1572.2.2.2.2).length) n1583 t1585.2.2] w1587) := ⟨HS.out.call hS⟩
    clear hS
    go_wp2_with fail
    go_ret2
    rw [← some_eq H]
    exact ⟨g1579, (by first | rfl | (simp [IntKind.wrap_u32]; done)), g1580, A1581, ((t1572.2.2.2.2).length), n1583, HS.out⟩
  · have H := sum_r H
    have H := sum_r H
    refine (ground_New.calls _ a14 a15 a16 a17 (.inr (.inr t1573)) _ ⟨HGl0.out.pass (l := []) HS.out⟩ ⟨Sep.start _⟩ HA1570).mono ?_
    rintro e_ w1597 ⟨rfl, hS⟩
    replace HS : Aside0 (Sep (fps []) w [b2 g1562 a14 a15 a16 a17] w1597) := ⟨HS.out.call hS⟩
    clear hS
    by_cases c1598 : t1573 = 0
    · replace H := if_yes c1598 H
      have c1598b0 : (t1573 == 0) = true := beq_iff_eq.mpr c1598
      have c1598b1 : (t1573 != 0) = false := bne_eq_false_iff_eq.mpr c1598
      clear c1598
      exact (none_no H).elim
    · replace H := if_no c1598 H
      have c1598b0 : (t1573 == 0) = false := beq_eq_false_iff_ne.mpr c1598
      have c1598b1 : (t1573 != 0) = true := bne_iff_ne.mpr c1598
      clear c1598
      replace HS : Aside0 (Sep (fps []) w [] w1597) := ⟨HS.out.sub (.cons _ .slnil)⟩
      go_wp2_with fail
      go_ret2
      rw [← some_eq H]
      exact ⟨(by first | rfl | (simp [IntKind.wrap_u32]; done)), HS.out⟩

set_option maxHeartbeats 30000000 in
set_option maxRecDepth 100000 in
theorem shape_isWidth.calls (a1661 : Int) (r : Bool) (w : World)  (HGl0 : Aside0 (Gl 0 #[.int .i64 0, .int .i64 0, .int .i64 0, .int .i64 0, .int .i64 0] (fps []) w)) (HS : Aside0 (Sep (fps []) w [] w)) (H : Aside0 (shape_isWidth.f a1661 = some r)) :
    Calls Tryd.prog 144 #[.int .i64 a1661] w fun e w' => e = .returned (.bool r) ∧ Sep (fps []) w [] w' := by
  unfold shape_isWidth.f at H
  go_enter Tryd.func144, Tryd.ntmps144
  by_cases c1662 : a1661 ≥ 16
  · replace H := if_yes c1662 H
    have c1662b0 : decide (16 ≤ a1661) = true := decide_eq_true c1662
    clear c1662
    go_wp2_with fail
    go_ret
    rw [← some_eq H]
    exact ⟨(by first | rfl | (simp [IntKind.wrap_u32]; done)), HS.out⟩
  · replace H := if_no c1662 H
    have c1662b0 : decide (16 ≤ a1661) = false := decide_eq_false c1662
    clear c1662
    go_wp2_with fail
    go_ret
    rw [← some_eq H]
    exact ⟨(by first | rfl | (simp [IntKind.wrap_u32]; done)), HS.out⟩

set_option maxHeartbeats 30000000 in
set_option maxRecDepth 100000 in
theorem shape_inHead.calls (a1668 : Int) (r : Int) (w : World)  (HGl0 : Aside0 (Gl 0 #[.int .i64 0, .int .i64 0, .int .i64 0, .int .i64 0, .int .i64 0] (fps []) w)) (HS : Aside0 (Sep (fps []) w [] w)) (H : Aside0 (shape_inHead.f a1668 = some r)) :
    Calls Tryd.prog 146 #[.int .i64 a1668] w fun e w' => e = .returned (.int .i64 r) ∧ Sep (fps []) w [] w' := by
  unfold shape_inHead.f at H
  go_enter Tryd.func146, Tryd.ntmps146
  go_wp2_with fail
  go_ret
  rw [← some_eq H]
  exact ⟨(by first | rfl | (simp [IntKind.wrap_u32]; done)), HS.out⟩

set_option maxHeartbeats 30000000 in
set_option maxRecDepth 100000 in
theorem shape_inLeaf.calls (a1672 : Int) (r : Int) (w : World)  (HGl0 : Aside0 (Gl 0 #[.int .i64 0, .int .i64 0, .int .i64 0, .int .i64 0, .int .i64 0] (fps []) w)) (HS : Aside0 (Sep (fps []) w [] w)) (H : Aside0 (shape_inLeaf.f a1672 = some r)) :
    Calls Tryd.prog 120 #[.int .i64 a1672] w fun e w' => e = .returned (.int .i64 r) ∧ Sep (fps []) w [] w' := by
  unfold shape_inLeaf.f at H
  go_enter Tryd.func120, Tryd.ntmps120
  go_wp2_with fail
  go_ret
  rw [← some_eq H]
  exact ⟨(by first | rfl | (simp [IntKind.wrap_u32]; done)), HS.out⟩

set_option maxHeartbeats 30000000 in
set_option maxRecDepth 100000 in
theorem shape_most.calls (a1667 : Int) (r : Int) (w : World)  (HGl0 : Aside0 (Gl 0 #[.int .i64 0, .int .i64 0, .int .i64 0, .int .i64 0, .int .i64 0] (fps []) w)) (HS : Aside0 (Sep (fps []) w [] w)) (H : Aside0 (shape_most.f a1667 = some r)) :
    Calls Tryd.prog 145 #[.int .i64 a1667] w fun e w' => e = .returned (.int .i64 r) ∧ Sep (fps []) w [] w' := by
  unfold shape_most.f at H
  go_enter Tryd.func145, Tryd.ntmps145
  go_wp2_with fail
  obtain ⟨t1669, HA1670, H⟩ := bind_some H
  refine (shape_inHead.calls a1667 t1669 _ ⟨HGl0.out.pass (l := []) HS.out⟩ ⟨Sep.start _⟩ HA1670).mono ?_
  rintro e_ w1671 ⟨rfl, hS⟩
  replace HS : Aside0 (Sep (fps []) w [] w1671) := ⟨HS.out.call hS⟩
  clear hS
  go_wp2_with fail
  obtain ⟨t1673, HA1674, H⟩ := bind_some H
  refine (shape_inLeaf.calls a1667 t1673 _ ⟨HGl0.out.pass (l := []) HS.out⟩ ⟨Sep.start _⟩ HA1674).mono ?_
  rintro e_ w1675 ⟨rfl, hS⟩
  replace HS : Aside0 (Sep (fps []) w [] w1675) := ⟨HS.out.call hS⟩
  clear hS
  go_wp2_with fail
  go_ret
  rw [← some_eq H]
  exact ⟨(by first | rfl | (simp [IntKind.wrap_u32]; done)), HS.out⟩

set_option maxHeartbeats 30000000 in
set_option maxRecDepth 100000 in
theorem shape_wrong.calls (k : Nat) (a1656 : Int) (l1657 : List Int) (A1658 : Option Addr) (n1659 : Nat) (r : Int) (w : World) (HR1660 : Aside0 (Rd (Kd.int .i64) (fps []) w A1658 l1657.length l1657)) (HGl0 : Aside0 (Gl 0 #[.int .i64 0, .int .i64 0, .int .i64 0, .int .i64 0, .int .i64 0] (fps []) w)) (HS : Aside0 (Sep (fps []) w [] w)) (H : Aside0 (shape_wrong.f k a1656 l1657 = some r)) :
    Calls Tryd.prog 118 #[.int .i64 a1656, .slice A1658 l1657.length n1659] w fun e w' => e = .returned (.int .i64 r) ∧ Sep (fps []) w [] w' := by
  unfold shape_wrong.f at H
  go_enter Tryd.func118, Tryd.ntmps118
  go_wp2_with fail
  obtain ⟨t1663, HA1664, H⟩ := bind_some H
  refine (shape_isWidth.calls a1656 t1663 _ ⟨HGl0.out.pass (l := []) HS.out⟩ ⟨Sep.start _⟩ HA1664).mono ?_
  rintro e_ w1665 ⟨rfl, hS⟩
  replace HS : Aside0 (Sep (fps []) w [] w1665) := ⟨HS.out.call hS⟩
  clear hS
  by_cases c1666 : t1663 = true
  · replace H := if_yes c1666 H
    have c1666b0 : t1663 = true := c1666
    have c1666b1 : (!t1663) = false := by rw [c1666b0]; rfl
    try rw [c1666b1]
    clear c1666
    go_wp2_with fail
    obtain ⟨t1676, HA1677, H⟩ := bind_some H
    refine (shape_most.calls a1656 t1676 _ ⟨HGl0.out.pass (l := []) HS.out⟩ ⟨Sep.start _⟩ HA1677).mono ?_
    rintro e_ w1678 ⟨rfl, hS⟩
    replace HS : Aside0 (Sep (fps []) w [] w1678) := ⟨HS.out.call hS⟩
    clear hS
    go_wp2_with fail
    obtain ⟨o1691, AL1692, H⟩ := bind_some H
    go_loopg [5, 15] k (fun kq v5 v15 wc => ∃ (x1695 : Int) (x1696 : Int), v5 = .int .i64 x1695 ∧ v15 = .int .i64 x1696 ∧ Aside0 (shape_wrong.lo0 kq l1657 x1695 x1696 = some o1691) ∧ Aside0 (Sep (fps []) w [] wc))
    case atStart => exact ⟨(t1676), (0), (by first | rfl | (simp [IntKind.wrap_u32]; done)), (by first | rfl | (simp [IntKind.wrap_u32]; done)), AL1692, ⟨HS.out⟩⟩
    case round =>
      clear AL1692 HS
      obtain ⟨x1695, x1696, rfl, rfl, AL1692, HS⟩ := hrel
      obtain ⟨w1693, rfl⟩ : ∃ x : World, x = wr := ⟨_, rfl⟩
      cases gk with
      | zero => exact absurd AL1692.out (by simp [shape_wrong.lo0])
      | succ k1694 =>
        have AL0 := AL1692.out
        rw [shape_wrong.lo0] at AL0
        clear AL1692
        have AL1692 := Aside0.mk AL0
        clear AL0
        by_cases c1697 : x1696 < (l1657.length : Int)
        · replace AL1692 := if_yes c1697 AL1692
          have c1697b0 : decide (x1696 < (l1657.length : Int)) = true := decide_eq_true c1697
          clear c1697
          by_cases c1698 : 0 ≤ x1696
          · replace AL1692 := if_yes c1698 AL1692
            have c1698b0 : decide (0 ≤ x1696) = true := decide_eq_true c1698
            have c1698p : (0 ≤ x1696) = True := eq_true c1698
            clear c1698
            have ip1699 : (x1696 < (l1657.length : Int)) = True := eq_true (of_decide_eq_true c1697b0)
            by_cases c1701 : (rd l1657 x1696) < 0
            · replace AL1692 := if_yes c1701 AL1692
              have c1701b0 : decide ((rd l1657 x1696) < 0) = true := decide_eq_true c1701
              clear c1701
              obtain ⟨hx1700a, hx1700e, hx1700⟩ := Kd.at_int (Rd.read (fun _ _ _ _ h => h) HR1660.out HS.out.fr) x1696 (of_decide_eq_true c1698b0) (of_decide_eq_true c1697b0); cases hx1700e
              go_wp2_with fail
              clear hx1700
              have ho := some_eq AL1692
              subst ho
              have H := lp_ret H
              go_ret
              rw [← some_eq H]
              exact ⟨(by first | rfl | (simp [IntKind.wrap_u32]; done)), HS.out⟩
            · replace AL1692 := if_no c1701 AL1692
              have c1701b0 : decide ((rd l1657 x1696) < 0) = false := decide_eq_false c1701
              clear c1701
              by_cases c1702 : (rd l1657 x1696) > x1695
              · replace AL1692 := if_yes c1702 AL1692
                have c1702b0 : decide (x1695 < (rd l1657 x1696)) = true := decide_eq_true c1702
                clear c1702
                obtain ⟨hx1700a, hx1700e, hx1700⟩ := Kd.at_int (Rd.read (fun _ _ _ _ h => h) HR1660.out HS.out.fr) x1696 (of_decide_eq_true c1698b0) (of_decide_eq_true c1697b0); cases hx1700e
                go_wp2_with fail
                clear hx1700
                have ho := some_eq AL1692
                subst ho
                have H := lp_ret H
                go_ret
                rw [← some_eq H]
                exact ⟨(by first | rfl | (simp [IntKind.wrap_u32]; done)), HS.out⟩
              · replace AL1692 := if_no c1702 AL1692
                have c1702b0 : decide (x1695 < (rd l1657 x1696)) = false := decide_eq_false c1702
                clear c1702
                obtain ⟨hx1700a, hx1700e, hx1700⟩ := Kd.at_int (Rd.read (fun _ _ _ _ h => h) HR1660.out HS.out.fr) x1696 (of_decide_eq_true c1698b0) (of_decide_eq_true c1697b0); cases hx1700e
                go_wp2_with fail
                clear hx1700
                go_roundg k1694
                case measure => exact Nat.lt_succ_self _
                case rel => exact ⟨(wrap64 (x1695 - (rd l1657 x1696))), (wrap64 (x1696 + 1)), (by first | rfl | (simp [IntKind.wrap_u32]; done)), (by first | rfl | (simp [IntKind.wrap_u32]; done)), Aside0.mk AL1692.out, ⟨HS.out⟩⟩
          · replace AL1692 := if_no c1698 AL1692
            have c1698b0 : decide (0 ≤ x1696) = false := decide_eq_false c1698
            clear c1698
            exact (none_no AL1692).elim
        · replace AL1692 := if_no c1697 AL1692
          have c1697b0 : decide (x1696 < (l1657.length : Int)) = false := decide_eq_false c1697
          clear c1697
          have ho := some_eq AL1692
          subst ho
          clear AL1692
          have H := lp_out H
          go_wp2_with fail
          go_ret
          rw [← some_eq H]
          exact ⟨(by first | rfl | (simp [IntKind.wrap_u32]; done)), HS.out⟩
  · replace H := if_no c1666 H
    have c1666b0 : t1663 = false := by simpa using c1666
    have c1666b1 : (!t1663) = true := by rw [c1666b0]; rfl
    try rw [c1666b1]
    clear c1666
    go_wp2_with fail
    go_ret
    rw [← some_eq H]
    exact ⟨(by first | rfl | (simp [IntKind.wrap_u32]; done)), HS.out⟩

set_option maxHeartbeats 30000000 in
set_option maxRecDepth 100000 in
theorem shape_leaves.calls (a1708 : Int) (a1709 : Int) (r : Int) (w : World)  (HGl0 : Aside0 (Gl 0 #[.int .i64 0, .int .i64 0, .int .i64 0, .int .i64 0, .int .i64 0] (fps []) w)) (HS : Aside0 (Sep (fps []) w [] w)) (H : Aside0 (shape_leaves.f a1708 a1709 = some r)) :
    Calls Tryd.prog 119 #[.int .i64 a1708, .int .i64 a1709] w fun e w' => e = .returned (.int .i64 r) ∧ Sep (fps []) w [] w' := by
  unfold shape_leaves.f at H
  go_enter Tryd.func119, Tryd.ntmps119
  go_wp2_with fail
  obtain ⟨t1710, HA1711, H⟩ := bind_some H
  refine (shape_inHead.calls a1708 t1710 _ ⟨HGl0.out.pass (l := []) HS.out⟩ ⟨Sep.start _⟩ HA1711).mono ?_
  rintro e_ w1712 ⟨rfl, hS⟩
  replace HS : Aside0 (Sep (fps []) w [] w1712) := ⟨HS.out.call hS⟩
  clear hS
  by_cases c1713 : a1709 ≤ t1710
  · replace H := if_yes c1713 H
    have c1713b0 : decide (a1709 ≤ t1710) = true := decide_eq_true c1713
    clear c1713
    go_wp2_with fail
    go_ret
    rw [← some_eq H]
    exact ⟨(by first | rfl | (simp [IntKind.wrap_u32]; done)), HS.out⟩
  · replace H := if_no c1713 H
    have c1713b0 : decide (a1709 ≤ t1710) = false := decide_eq_false c1713
    clear c1713
    go_wp2_with fail
    obtain ⟨t1714, HA1715, H⟩ := bind_some H
    refine (shape_inLeaf.calls a1708 t1714 _ ⟨HGl0.out.pass (l := []) HS.out⟩ ⟨Sep.start _⟩ HA1715).mono ?_
    rintro e_ w1716 ⟨rfl, hS⟩
    replace HS : Aside0 (Sep (fps []) w [] w1716) := ⟨HS.out.call hS⟩
    clear hS
    go_wp2_with fail
    obtain ⟨t1717, HA1718, H⟩ := bind_some H
    refine (ratio_Up.calls a1709 t1714 t1717 _ ⟨HGl0.out.pass (l := []) HS.out⟩ ⟨Sep.start _⟩ HA1718).mono ?_
    rintro e_ w1719 ⟨rfl, hS⟩
    replace HS : Aside0 (Sep (fps []) w [] w1719) := ⟨HS.out.call hS⟩
    clear hS
    go_wp2_with fail
    go_ret
    rw [← some_eq H]
    exact ⟨(by first | rfl | (simp [IntKind.wrap_u32]; done)), HS.out⟩

set_option maxHeartbeats 30000000 in
set_option maxRecDepth 100000 in
theorem shape_Blocks.calls (k : Nat) (a1650 : Int) (a1651 : Int) (a1652 : Int) (r : Int × Int) (w : World)  (HGl0 : Aside0 (Gl 0 #[.int .i64 0, .int .i64 0, .int .i64 0, .int .i64 0, .int .i64 0] (fps []) w)) (HS : Aside0 (Sep (fps []) w [] w)) (H : Aside0 (shape_Blocks.f k a1650 a1651 a1652 = some r)) :
    Calls Tryd.prog 97 #[.int .i64 a1650, .int .i64 a1651, .int .i64 a1652] w fun e w' => e = .returned (.tuple #[.int .i64 r.1, .int .i64 r.2]) ∧ Sep (fps []) w [] w' := by
  unfold shape_Blocks.f at H
  go_enter Tryd.func97, Tryd.ntmps97
  go_wp2_with (first | ((with_reducible refine gate_dst (N := 12) rfl ?_); refine slice_on (n := 2) ?hg (N := 12) ?hd (cs := #[.int .i64 a1651, .int .i64 a1652]) (t := 3) ?hr ?_; (case hd => rfl); (case hg => rfl); (case hr => first | (go_simp; done) | (go_simp; rfl)); intro g1653 hg w1654 hbox hb; replace HS : Aside0 (Sep (fps []) w [b4 g1653 a1651 a1652] w1654) := ⟨HS.out.box hg hbox hb⟩; clear hg hbox hb))
  obtain ⟨t1704, HA1705, H⟩ := bind_some H
  refine (shape_wrong.calls _ a1650 [a1651, a1652] (some ⟨g1653, 0, none⟩) 2 t1704 _ ⟨Rd.lit (l := []) (xs := [a1651, a1652]) HS.out 0 rfl (by simp)⟩ ⟨HGl0.out.pass (l := []) HS.out⟩ ⟨Sep.start _⟩ HA1705).mono ?_
  rintro e_ w1706 ⟨rfl, hS⟩
  replace HS : Aside0 (Sep (fps []) w [b4 g1653 a1651 a1652] w1706) := ⟨HS.out.call hS⟩
  clear hS
  by_cases c1707 : t1704 = 0
  · replace H := if_yes c1707 H
    have c1707b0 : (t1704 == 0) = true := beq_iff_eq.mpr c1707
    have c1707b1 : (t1704 != 0) = false := bne_eq_false_iff_eq.mpr c1707
    clear c1707
    replace HS : Aside0 (Sep (fps []) w [] w1706) := ⟨HS.out.sub (.cons _ .slnil)⟩
    go_wp2_with fail
    obtain ⟨t1720, HA1721, H⟩ := bind_some H
    refine (shape_leaves.calls a1650 (wrap64 (a1651 + a1652)) t1720 _ ⟨HGl0.out.pass (l := []) HS.out⟩ ⟨Sep.start _⟩ HA1721).mono ?_
    rintro e_ w1722 ⟨rfl, hS⟩
    replace HS : Aside0 (Sep (fps []) w [] w1722) := ⟨HS.out.call hS⟩
    clear hS
    go_wp2_with fail
    go_ret2
    rw [← some_eq H]
    exact ⟨(by first | rfl | (simp [IntKind.wrap_u32]; done)), HS.out⟩
  · replace H := if_no c1707 H
    have c1707b0 : (t1704 == 0) = false := beq_eq_false_iff_ne.mpr c1707
    have c1707b1 : (t1704 != 0) = true := bne_iff_ne.mpr c1707
    clear c1707
    replace HS : Aside0 (Sep (fps []) w [] w1706) := ⟨HS.out.sub (.cons _ .slnil)⟩
    go_wp2_with fail
    go_ret2
    rw [← some_eq H]
    exact ⟨(by first | rfl | (simp [IntKind.wrap_u32]; done)), HS.out⟩

set_option maxHeartbeats 30000000 in
set_option maxRecDepth 100000 in
theorem pool_Len.calls (l1732 : List Int) (a1737 : Int) (a1738 : Int) (a1739 : Int) (a1740 : Int) (a1741 : Int) (g1728 : Nat) (g1730 : Nat) (A1733 : Option Addr) (m1734 : Nat) (n1735 : Nat) (r : Int × Int) (w : World)  (HGl0 : Aside0 (Gl 0 #[.int .i64 0, .int .i64 0, .int .i64 0, .int .i64 0, .int .i64 0] (fps [b8 g1728 g1730 a1738 a1739 a1740 a1741, b7 g1730 A1733 m1734 n1735 a1737, r6 A1733 m1734 n1735 l1732]) w)) (HS : Aside0 (Sep (fps [b8 g1728 g1730 a1738 a1739 a1740 a1741, b7 g1730 A1733 m1734 n1735 a1737, r6 A1733 m1734 n1735 l1732]) w [b8 g1728 g1730 a1738 a1739 a1740 a1741, b7 g1730 A1733 m1734 n1735 a1737, r6 A1733 m1734 n1735 l1732] w)) (H : Aside0 (pool_Len.f l1732 a1737 a1738 a1739 a1740 a1741 = some r)) :
    Calls Tryd.prog 44 #[.pointer (some ⟨g1728, 0, none⟩)] w fun e w' => e = .returned (.int .i64 r.1) ∧ Sep (fps [b8 g1728 g1730 a1738 a1739 a1740 a1741, b7 g1730 A1733 m1734 n1735 a1737, r6 A1733 m1734 n1735 l1732]) w [b8 g1728 g1730 a1738 a1739 a1740 a1741, b7 g1730 A1733 m1734 n1735 r.2, r6 A1733 m1734 n1735 l1732] w' := by
  generalize (fps [b8 g1728 g1730 a1738 a1739 a1740 a1741, b7 g1730 A1733 m1734 n1735 a1737, r6 A1733 m1734 n1735 l1732]) = FF at HS HGl0 ⊢
  obtain rfl := (row_len (HS.out.at2)).symm
  unfold pool_Len.f at H
  go_enter Tryd.func44, Tryd.ntmps44
  go_wp2_with fail
  obtain ⟨t1745, HA1746, H⟩ := bind_some H
  refine (chain_Len.calls l1732 a1737 a1738 a1739 a1740 a1741 0 g1728 g1730 A1733 l1732.length n1735 t1745 _ ⟨HGl0.out.pass HS.out⟩ ⟨HS.out.begin⟩ HA1746).mono ?_
  rintro e_ w1747 ⟨rfl, hS⟩
  replace HS : Aside0 (Sep FF w [b8 g1728 g1730 a1738 a1739 a1740 a1741, b7 g1730 A1733 l1732.length n1735 t1745.2, r6 A1733 l1732.length n1735 l1732] w1747) := ⟨HS.out.call hS⟩
  clear hS
  go_wp2_with fail
  go_ret
  rw [← some_eq H]
  exact ⟨(by first | rfl | (simp [IntKind.wrap_u32]; done)), HS.out⟩

set_option maxHeartbeats 30000000 in
set_option maxRecDepth 100000 in
theorem ground_Ground_Word.calls (l1838 : List Int) (a1843 : Int) (a1844 : Int) (a1845 : Int) (a1846 : Int) (a1847 : Int) (a1848 : Int) (a1849 : Int) (g1834 : Nat) (g1836 : Nat) (A1839 : Option Addr) (m1840 : Nat) (n1841 : Nat) (r : Int × Int) (w : World)  (HGl0 : Aside0 (Gl 0 #[.int .i64 0, .int .i64 0, .int .i64 0, .int .i64 0, .int .i64 0] (fps [b8 g1834 g1836 a1844 a1845 a1846 a1847, b7 g1836 A1839 m1840 n1841 a1843, r6 A1839 m1840 n1841 l1838]) w)) (HS : Aside0 (Sep (fps [b8 g1834 g1836 a1844 a1845 a1846 a1847, b7 g1836 A1839 m1840 n1841 a1843, r6 A1839 m1840 n1841 l1838]) w [b8 g1834 g1836 a1844 a1845 a1846 a1847, b7 g1836 A1839 m1840 n1841 a1843, r6 A1839 m1840 n1841 l1838] w)) (H : Aside0 (ground_Ground_Word.f l1838 a1843 a1844 a1845 a1846 a1847 a1848 a1849 = some r)) :
    Calls Tryd.prog 84 #[.pointer (some ⟨g1834, 0, none⟩), .int .i64 a1848, .int .i64 a1849] w fun e w' => e = .returned (.int .u32 r.1) ∧ Sep (fps [b8 g1834 g1836 a1844 a1845 a1846 a1847, b7 g1836 A1839 m1840 n1841 a1843, r6 A1839 m1840 n1841 l1838]) w [b8 g1834 g1836 a1844 a1845 a1846 a1847, b7 g1836 A1839 m1840 n1841 r.2, r6 A1839 m1840 n1841 l1838] w' := by
  generalize (fps [b8 g1834 g1836 a1844 a1845 a1846 a1847, b7 g1836 A1839 m1840 n1841 a1843, r6 A1839 m1840 n1841 l1838]) = FF at HS HGl0 ⊢
  obtain rfl := (row_len (HS.out.at2)).symm
  unfold ground_Ground_Word.f at H
  go_enter Tryd.func84, Tryd.ntmps84
  go_wp2_with fail
  obtain ⟨t1859, HA1860, H⟩ := bind_some H
  refine (ground_Ground_all.calls l1838 a1843 a1844 a1845 a1846 a1847 g1834 g1836 A1839 l1838.length n1841 t1859 _ ⟨HGl0.out.pass HS.out⟩ ⟨HS.out.begin⟩ HA1860).mono ?_
  rintro e_ w1861 ⟨rfl, hS⟩
  replace HS : Aside0 (Sep FF w [b8 g1834 g1836 a1844 a1845 a1846 a1847, b7 g1836 A1839 l1838.length n1841 a1843, r6 A1839 l1838.length n1841 l1838] w1861) := ⟨HS.out.call hS⟩
  clear hS
  go_wp2_with fail
  obtain ⟨t1862, HA1863, H⟩ := bind_some H
  refine (ground_Ground_word.calls l1838 a1843 a1844 a1845 a1846 a1847 a1848 a1849 g1834 g1836 A1839 l1838.length n1841 t1862 _ ⟨HGl0.out.pass HS.out⟩ ⟨HS.out.begin⟩ HA1863).mono ?_
  rintro e_ w1864 ⟨rfl, hS⟩
  replace HS : Aside0 (Sep FF w [b8 g1834 g1836 a1844 a1845 a1846 a1847, b7 g1836 A1839 l1838.length n1841 a1843, r6 A1839 l1838.length n1841 l1838] w1864) := ⟨HS.out.call hS⟩
  clear hS
  go_wp2_with fail
  replace HS : Aside0 (Sep FF w [r6 A1839 l1838.length n1841 l1838, b8 g1834 g1836 a1844 a1845 a1846 a1847, b7 g1836 A1839 l1838.length n1841 a1843] w1864) := ⟨HS.out.front 2 (by simp)⟩
  replace HS : Aside0 (Sep FF w [b7 g1836 A1839 l1838.length n1841 a1843, r6 A1839 l1838.length n1841 l1838, b8 g1834 g1836 a1844 a1845 a1846 a1847] w1864) := ⟨HS.out.front 2 (by simp)⟩
  obtain ⟨t1865, HA1866, H⟩ := bind_some H
  refine (store_Store_Get.calls l1838 a1843 t1862 g1836 A1839 l1838.length n1841 t1865 _ ⟨HGl0.out.pass HS.out⟩ ⟨HS.out.begin⟩ HA1866).mono ?_
  rintro e_ w1867 ⟨rfl, hS⟩
  replace HS : Aside0 (Sep FF w [b7 g1836 A1839 l1838.length n1841 t1865.2, r6 A1839 l1838.length n1841 l1838, b8 g1834 g1836 a1844 a1845 a1846 a1847] w1867) := ⟨HS.out.call hS⟩
  clear hS
  go_wp2_with fail
  go_ret
  rw [← some_eq H]
  exact ⟨(by first | rfl | (simp [IntKind.wrap_u32]; done)), ((((HS.out).front 1 (by simp)).front 1 (by simp)).front 2 (by simp)).keep (l := [b8 g1834 g1836 a1844 a1845 a1846 a1847, b7 g1836 A1839 l1838.length n1841 t1865.2, r6 A1839 l1838.length n1841 l1838]) (rest := [])⟩

set_option maxHeartbeats 30000000 in
set_option maxRecDepth 100000 in
theorem chain_Take.calls (l1784 : List Int) (a1789 : Int) (a1790 : Int) (a1791 : Int) (a1792 : Int) (a1793 : Int) (a1794 : Int) (g1780 : Nat) (g1782 : Nat) (A1785 : Option Addr) (m1786 : Nat) (n1787 : Nat) (r : Int × Bool × Int × List Int) (w : World)  (HGl0 : Aside0 (Gl 0 #[.int .i64 0, .int .i64 0, .int .i64 0, .int .i64 0, .int .i64 0] (fps [b8 g1780 g1782 a1790 a1791 a1792 a1793, b7 g1782 A1785 m1786 n1787 a1789, r6 A1785 m1786 n1787 l1784]) w)) (HS : Aside0 (Sep (fps [b8 g1780 g1782 a1790 a1791 a1792 a1793, b7 g1782 A1785 m1786 n1787 a1789, r6 A1785 m1786 n1787 l1784]) w [b8 g1780 g1782 a1790 a1791 a1792 a1793, b7 g1782 A1785 m1786 n1787 a1789, r6 A1785 m1786 n1787 l1784] w)) (H : Aside0 (chain_Take.f l1784 a1789 a1790 a1791 a1792 a1793 a1794 = some r)) :
    Calls Tryd.prog 135 #[.pointer (some ⟨g1780, 0, none⟩), .int .i64 a1794] w fun e w' => e = .returned (.tuple #[.int .i64 r.1, .bool r.2.1]) ∧ Sep (fps [b8 g1780 g1782 a1790 a1791 a1792 a1793, b7 g1782 A1785 m1786 n1787 a1789, r6 A1785 m1786 n1787 l1784]) w [b8 g1780 g1782 a1790 a1791 a1792 a1793, b7 g1782 A1785 m1786 n1787 r.2.2.1, r6 A1785 m1786 n1787 r.2.2.2] w' := by
  generalize (fps [b8 g1780 g1782 a1790 a1791 a1792 a1793, b7 g1782 A1785 m1786 n1787 a1789, r6 A1785 m1786 n1787 l1784]) = FF at HS HGl0 ⊢
  obtain rfl := (row_len (HS.out.at2)).symm
  unfold chain_Take.f at H
  go_enter Tryd.func135, Tryd.ntmps135
  go_wp2_with fail
  obtain ⟨t1891, HA1892, H⟩ := bind_some H
  refine (chain_of.calls l1784 a1789 a1790 a1791 a1792 a1793 a1794 g1780 g1782 A1785 l1784.length n1787 t1891 _ ⟨HGl0.out.pass HS.out⟩ ⟨HS.out.begin⟩ HA1892).mono ?_
  rintro e_ w1893 ⟨rfl, hS⟩
  replace HS : Aside0 (Sep FF w [b8 g1780 g1782 a1790 a1791 a1792 a1793, b7 g1782 A1785 l1784.length n1787 a1789, r6 A1785 l1784.length n1787 l1784] w1893) := ⟨HS.out.call hS⟩
  clear hS
  by_cases c1904 : t1891.2.2.2 = true
  · replace H := if_yes c1904 H
    have c1904b0 : t1891.2.2.2 = true := c1904
    have c1904b1 : (!t1891.2.2.2) = false := by rw [c1904b0]; rfl
    try rw [c1904b1]
    clear c1904
    go_wp2_with (first | ((with_reducible refine gate_dst (N := 6) rfl ?_); refine box_on ?hg (N := 6) ?hd (cs := #[.int .i64 0, .int .i64 0, .int .i64 0]) (t := 166) ?hr ?_; (case hd => rfl); (case hg => rfl); (case hr => first | (go_simp; done) | (go_simp; rfl)); intro g1894 hg w1895 hbox hb; replace HS : Aside0 (Sep FF w [b8 g1780 g1782 a1790 a1791 a1792 a1793, b7 g1782 A1785 l1784.length n1787 a1789, r6 A1785 l1784.length n1787 l1784, b9 g1894 0 0 0] w1895) := ⟨HS.out.box hg hbox hb⟩; clear hg hbox hb; have hc1897 : w1895.cell? ⟨g1894, 0, none⟩ = some (.int .i64 0) := blk_cellv (HS.out.at3) 0 rfl; have hz1898 : w1895.frozen? ⟨g1894, 0, none⟩ = false := blk_fz (HS.out.at3) 0; have hc1899 : w1895.cell? ⟨g1894, 1, none⟩ = some (.int .i64 0) := blk_cellv (HS.out.at3) 1 rfl; have hz1900 : w1895.frozen? ⟨g1894, 1, none⟩ = false := blk_fz (HS.out.at3) 1; have hc1901 : w1895.cell? ⟨g1894, 2, none⟩ = some (.int .i64 0) := blk_cellv (HS.out.at3) 2 rfl; have hz1902 : w1895.frozen? ⟨g1894, 2, none⟩ = false := blk_fz (HS.out.at3) 2) | ((with_reducible refine gate_store (t := 166) (p := 6) rfl ?_); refine store_event (w1 := (World.setCell (World.setCell (World.setCell w1895 ⟨g1894, 0, none⟩ (.int .i64 t1891.1)) ⟨g1894, 1, none⟩ (.int .i64 t1891.2.1)) ⟨g1894, 2, none⟩ (.int .i64 t1891.2.2.1))) rfl (t := 166) (p := 6) rfl rfl ?hr ?_; (case hr => first | (go_simp; done) | (go_simp; rfl)); intro w1903 hst; clear hc1897 hz1898 hc1899 hz1900 hc1901 hz1902; replace HS : Aside0 (Sep FF w [b8 g1780 g1782 a1790 a1791 a1792 a1793, b7 g1782 A1785 l1784.length n1787 a1789, r6 A1785 l1784.length n1787 l1784, b9 g1894 t1891.1 t1891.2.1 t1891.2.2.1] w1903) := ⟨by rw [hst]; exact HS.out.setAll (l1 := [b8 g1780 g1782 a1790 a1791 a1792 a1793, b7 g1782 A1785 l1784.length n1787 a1789, r6 A1785 l1784.length n1787 l1784]) (l2 := []) [.int .i64 t1891.1, .int .i64 t1891.2.1, .int .i64 t1891.2.2.1] rfl⟩; clear hst; have hc1905 : w1903.cell? ⟨g1894, 0, none⟩ = some (.int .i64 t1891.1) := blk_cellv (HS.out.at3) 0 rfl))
    clear hc1905
    obtain ⟨t1906, HA1907, H⟩ := bind_some H
    refine (ground_Ground_Reg.calls l1784 a1789 a1790 a1791 a1792 a1793 t1891.1 g1780 g1782 A1785 l1784.length n1787 t1906 _ ⟨HGl0.out.pass HS.out⟩ ⟨HS.out.begin⟩ HA1907).mono ?_
    rintro e_ w1908 ⟨rfl, hS⟩
    replace HS : Aside0 (Sep FF w [b8 g1780 g1782 a1790 a1791 a1792 a1793, b7 g1782 A1785 l1784.length n1787 t1906.2, r6 A1785 l1784.length n1787 l1784, b9 g1894 t1891.1 t1891.2.1 t1891.2.2.1] w1908) := ⟨HS.out.call hS⟩
    clear hS
    by_cases c1909 : t1906.1 = 0
    · replace H := if_yes c1909 H
      have c1909b0 : (t1906.1 == 0) = true := beq_iff_eq.mpr c1909
      have c1909b1 : (t1906.1 != 0) = false := bne_eq_false_iff_eq.mpr c1909
      clear c1909
      replace HS : Aside0 (Sep FF w [b8 g1780 g1782 a1790 a1791 a1792 a1793, b7 g1782 A1785 l1784.length n1787 t1906.2, r6 A1785 l1784.length n1787 l1784] w1908) := ⟨HS.out.sub (.cons_cons _ (.cons_cons _ (.cons_cons _ (.cons _ .slnil))))⟩
      go_wp2_with fail
      go_ret2
      rw [← some_eq H]
      exact ⟨(by first | rfl | (simp [IntKind.wrap_u32]; done)), HS.out⟩
    · replace H := if_no c1909 H
      have c1909b0 : (t1906.1 == 0) = false := beq_eq_false_iff_ne.mpr c1909
      have c1909b1 : (t1906.1 != 0) = true := bne_iff_ne.mpr c1909
      clear c1909
      go_wp2_with fail
      obtain ⟨t1910, HA1911, H⟩ := bind_some H
      refine (ground_Ground_Word.calls l1784 t1906.2 a1790 a1791 a1792 a1793 (wrap64 (t1906.1 - 1)) 5 g1780 g1782 A1785 l1784.length n1787 t1910 _ ⟨HGl0.out.pass HS.out⟩ ⟨HS.out.begin⟩ HA1911).mono ?_
      rintro e_ w1912 ⟨rfl, hS⟩
      replace HS : Aside0 (Sep FF w [b8 g1780 g1782 a1790 a1791 a1792 a1793, b7 g1782 A1785 l1784.length n1787 t1910.2, r6 A1785 l1784.length n1787 l1784, b9 g1894 t1891.1 t1891.2.1 t1891.2.2.1] w1912) := ⟨HS.out.call hS⟩
      clear hS
      go_wp2_with fail
      obtain ⟨t1913, HA1914, H⟩ := bind_some H
      refine (ground_Ground_SetWord.calls l1784 t1910.2 a1790 a1791 a1792 a1793 (wrap64 (t1906.1 - 1)) 5 0 g1780 g1782 A1785 l1784.length n1787 t1913 _ ⟨HGl0.out.pass HS.out⟩ ⟨HS.out.begin⟩ HA1914).mono ?_
      rintro e_ w1915 ⟨rfl, hS⟩
      replace HS : Aside0 (Sep FF w [b8 g1780 g1782 a1790 a1791 a1792 a1793, b7 g1782 A1785 l1784.length n1787 t1913.2.1, r6 A1785 l1784.length n1787 t1913.2.2, b9 g1894 t1891.1 t1891.2.1 t1891.2.2.1] w1915) := ⟨HS.out.call hS⟩
      clear hS
      have hc1916 : w1915.cell? ⟨g1894, 0, none⟩ = some (.int .i64 t1891.1) := blk_cellv (HS.out.at3) 0 rfl
      go_wp2_with fail
      clear hc1916
      obtain ⟨t1917, HA1918, H⟩ := bind_some H
      refine (ground_Ground_SetReg.calls t1913.2.2 t1913.2.1 a1790 a1791 a1792 a1793 t1891.1 (wrap64 (t1910.1)) g1780 g1782 A1785 l1784.length n1787 t1917 _ ⟨HGl0.out.pass HS.out⟩ ⟨HS.out.begin⟩ HA1918).mono ?_
      rintro e_ w1919 ⟨rfl, hS⟩
      replace HS : Aside0 (Sep FF w [b8 g1780 g1782 a1790 a1791 a1792 a1793, b7 g1782 A1785 l1784.length n1787 t1917.2.1, r6 A1785 l1784.length n1787 t1917.2.2, b9 g1894 t1891.1 t1891.2.1 t1891.2.2.1] w1919) := ⟨HS.out.call hS⟩
      clear hS
      by_cases c1920 : (wrap64 (t1910.1)) = 0
      · replace H := if_yes c1920 H
        have c1920b0 : ((wrap64 (t1910.1)) == 0) = true := beq_iff_eq.mpr c1920
        have c1920b1 : ((wrap64 (t1910.1)) != 0) = false := bne_eq_false_iff_eq.mpr c1920
        clear c1920
        have hc1921 : w1919.cell? ⟨g1894, 1, none⟩ = some (.int .i64 t1891.2.1) := blk_cellv (HS.out.at3) 1 rfl
        go_wp2_with fail
        clear hc1921
        obtain ⟨t1922, HA1923, H⟩ := bind_some H
        refine (ground_Ground_SetReg.calls t1917.2.2 t1917.2.1 a1790 a1791 a1792 a1793 t1891.2.1 0 g1780 g1782 A1785 l1784.length n1787 t1922 _ ⟨HGl0.out.pass HS.out⟩ ⟨HS.out.begin⟩ HA1923).mono ?_
        rintro e_ w1924 ⟨rfl, hS⟩
        replace HS : Aside0 (Sep FF w [b8 g1780 g1782 a1790 a1791 a1792 a1793, b7 g1782 A1785 l1784.length n1787 t1922.2.1, r6 A1785 l1784.length n1787 t1922.2.2, b9 g1894 t1891.1 t1891.2.1 t1891.2.2.1] w1924) := ⟨HS.out.call hS⟩
        clear hS
        go_wp2_with fail
        refine start_ (n := 9) (S := (fun w' => w'.cell? ⟨g1894, 2, none⟩ = some (.int .i64 t1891.2.2.1))) (ds := []) #[false, false, false, false, false, false, false, false, false] (by kernel_rfl) rfl rfl (blk_cellv ((HS.out.drew).at3) 2 rfl) (fun hHeld => ?_)
        have HS_ := Aside0.mk HS.out.drew
        clear HS
        generalize World.drew _ = w1926 at HS_ hHeld ⊢
        have HS := HS_
        clear HS_
        refine pure_ (i := 0) (N := some 44) (v := ?_) (a' := ?_) #[true, false, false, false, false, false, false, false, false] rfl rfl (by kernel_rfl) (fun _ _ _ h => h) (Or.inl ⟨by rfl, ?_⟩) ?_ ?_
        rotate_left
        · intro w'
          go_simp
          with_reducible rfl
        rotate_left
        · simp only [Act.put, List.setIfInBounds_toArray, List.set_cons_zero, List.set_cons_succ, i64_w, i32_w]
          rfl
        refine pure_ (i := 1) (N := some 45) (v := ?_) (a' := ?_) #[true, true, false, false, false, false, false, false, false] rfl rfl (by kernel_rfl) (fun _ _ _ h => h) (Or.inl ⟨by rfl, ?_⟩) ?_ ?_
        rotate_left
        · intro w'
          go_simp
          with_reducible rfl
        rotate_left
        · simp only [Act.put, List.setIfInBounds_toArray, List.set_cons_zero, List.set_cons_succ, i64_w, i32_w]
          rfl
        refine pure_ (i := 3) (N := some 47) (v := ?_) (a' := ?_) #[true, true, false, true, false, false, false, false, false] rfl rfl (by kernel_rfl) (fun _ _ _ h => h) (Or.inl ⟨by rfl, ?_⟩) ?_ ?_
        rotate_left
        · intro w'
          go_simp
          with_reducible rfl
        rotate_left
        · simp only [Act.put, List.setIfInBounds_toArray, List.set_cons_zero, List.set_cons_succ, i64_w, i32_w]
          rfl
        refine pure_ (i := 4) (N := some 48) (v := ?_) (a' := ?_) #[true, true, false, true, true, false, false, false, false] rfl rfl (by kernel_rfl) (fun _ _ _ h => h) (Or.inl ⟨by rfl, ?_⟩) ?_ ?_
        rotate_left
        · intro w'
          go_simp
          with_reducible rfl
        rotate_left
        · simp only [Act.put, List.setIfInBounds_toArray, List.set_cons_zero, List.set_cons_succ, i64_w, i32_w]
          rfl
        refine take_ (i := 2) (N := some 46) (v := ?_) (a' := ?_) #[true, true, true, true, true, false, false, false, false] rfl rfl (by kernel_rfl) (fun _ _ _ h => h) (Or.inl ⟨by rfl, ?_⟩) hHeld ?_ ?_
        rotate_left
        · rintro w' hS'
          have s0 := hS'
          go_simp
          with_reducible rfl
        rotate_left
        · simp only [Act.put, List.setIfInBounds_toArray, List.set_cons_zero, List.set_cons_succ, i64_w, i32_w]
          rfl
        refine take_ (i := 5) (N := some 49) (v := ?_) (a' := ?_) #[true, true, true, true, true, true, false, false, false] rfl rfl (by kernel_rfl) (fun _ _ _ h => h) (Or.inl ⟨by rfl, ?_⟩) hHeld ?_ ?_
        rotate_left
        · rintro w' hS'
          have s0 := hS'
          go_simp
          with_reducible rfl
        rotate_left
        · simp only [Act.put, List.setIfInBounds_toArray, List.set_cons_zero, List.set_cons_succ, i64_w, i32_w]
          rfl
        refine one_ (i := 6) (N := some 50) #[true, true, true, true, true, true, true, false, false] rfl rfl (by kernel_rfl) (by decide) (fun K hK => ?_)
        obtain ⟨t1927, HA1928, H⟩ := bind_some H
        refine goes_ Tryd.func81 (by kernel_rfl) rfl #[.pointer (some ⟨g1780, 0, none⟩), .int .i64 t1891.2.2.1] (by rfl) rfl rfl (by (try simp only [List.map_toArray, List.map_cons, List.map_nil]); first | done | rfl) ?_
        refine (ground_Ground_Reg.calls t1922.2.2 t1922.2.1 a1790 a1791 a1792 a1793 t1891.2.2.1 g1780 g1782 A1785 l1784.length n1787 t1927 _ ⟨HGl0.out.pass HS.out⟩ ⟨HS.out.begin⟩ HA1928).mono ?_
        rintro e_ w1929 ⟨rfl, hS⟩
        replace HS : Aside0 (Sep FF w [b8 g1780 g1782 a1790 a1791 a1792 a1793, b7 g1782 A1785 l1784.length n1787 t1927.2, r6 A1785 l1784.length n1787 t1922.2.2, b9 g1894 t1891.1 t1891.2.1 t1891.2.2.1] w1929) := ⟨HS.out.call hS⟩
        clear hS
        refine ⟨_, rfl, ?_⟩
        refine hK.out _ _ (blk_cellv (HS.out.at3) 2 rfl) (fun hHeld => ?_)
        clear hK K
        refine norm_ (a' := ?_) ?_ ?_
        rotate_left
        · show Act.put _ (some 50) _ = _
          simp only [Act.put, List.setIfInBounds_toArray, List.set_cons_zero, List.set_cons_succ, i64_w, i32_w]
          rfl
        refine pure_ (i := 7) (N := some 51) (v := ?_) (a' := ?_) #[true, true, true, true, true, true, true, true, false] rfl rfl (by kernel_rfl) (fun _ _ _ h => h) (Or.inl ⟨by rfl, ?_⟩) ?_ ?_
        rotate_left
        · intro w'
          go_simp
          with_reducible rfl
        rotate_left
        · simp only [Act.put, List.setIfInBounds_toArray, List.set_cons_zero, List.set_cons_succ, i64_w, i32_w]
          rfl
        refine one_ (i := 8) (N := some 52) #[true, true, true, true, true, true, true, true, true] rfl rfl (by kernel_rfl) (by decide) (fun K hK => ?_)
        obtain ⟨t1930, HA1931, H⟩ := bind_some H
        refine goes_ Tryd.func83 (by kernel_rfl) rfl #[.pointer (some ⟨g1780, 0, none⟩), .int .i64 t1891.2.2.1, .int .i64 (wrap64 (t1927.1 - 1))] (by rfl) rfl rfl (by (try simp only [List.map_toArray, List.map_cons, List.map_nil]); first | done | rfl) ?_
        refine (ground_Ground_SetReg.calls t1922.2.2 t1927.2 a1790 a1791 a1792 a1793 t1891.2.2.1 (wrap64 (t1927.1 - 1)) g1780 g1782 A1785 l1784.length n1787 t1930 _ ⟨HGl0.out.pass HS.out⟩ ⟨HS.out.begin⟩ HA1931).mono ?_
        rintro e_ w1932 ⟨rfl, hS⟩
        replace HS : Aside0 (Sep FF w [b8 g1780 g1782 a1790 a1791 a1792 a1793, b7 g1782 A1785 l1784.length n1787 t1930.2.1, r6 A1785 l1784.length n1787 t1930.2.2, b9 g1894 t1891.1 t1891.2.1 t1891.2.2.1] w1932) := ⟨HS.out.call hS⟩
        clear hS
        refine ⟨_, rfl, ?_⟩
        refine hK.out _ _ (blk_cellv (HS.out.at3) 2 rfl) (fun hHeld => ?_)
        clear hK K
        refine norm_ (a' := ?_) ?_ ?_
        rotate_left
        · show Act.put _ (some 52) _ = _
          simp only [Act.put, List.setIfInBounds_toArray, List.set_cons_zero, List.set_cons_succ, i64_w, i32_w]
          rfl
        refine done_ (by kernel_rfl) ?_
        replace HS : Aside0 (Sep FF w [b8 g1780 g1782 a1790 a1791 a1792 a1793, b7 g1782 A1785 l1784.length n1787 t1930.2.1, r6 A1785 l1784.length n1787 t1930.2.2] w1932) := ⟨HS.out.sub (.cons_cons _ (.cons_cons _ (.cons_cons _ (.cons _ .slnil))))⟩
        go_wp2_with fail
        go_ret2
        rw [← some_eq H]
        exact ⟨(by first | rfl | (simp [IntKind.wrap_u32]; done)), HS.out⟩
      · replace H := if_no c1920 H
        have c1920b0 : ((wrap64 (t1910.1)) == 0) = false := beq_eq_false_iff_ne.mpr c1920
        have c1920b1 : ((wrap64 (t1910.1)) != 0) = true := bne_iff_ne.mpr c1920
        clear c1920
        go_wp2_with fail
        refine start_ (n := 9) (S := (fun w' => w'.cell? ⟨g1894, 2, none⟩ = some (.int .i64 t1891.2.2.1))) (ds := []) #[false, false, false, false, false, false, false, false, false] (by kernel_rfl) rfl rfl (blk_cellv ((HS.out.drew).at3) 2 rfl) (fun hHeld => ?_)
        have HS_ := Aside0.mk HS.out.drew
        clear HS
        generalize World.drew _ = w1934 at HS_ hHeld ⊢
        have HS := HS_
        clear HS_
        refine pure_ (i := 0) (N := some 44) (v := ?_) (a' := ?_) #[true, false, false, false, false, false, false, false, false] rfl rfl (by kernel_rfl) (fun _ _ _ h => h) (Or.inl ⟨by rfl, ?_⟩) ?_ ?_
        rotate_left
        · intro w'
          go_simp
          with_reducible rfl
        rotate_left
        · simp only [Act.put, List.setIfInBounds_toArray, List.set_cons_zero, List.set_cons_succ, i64_w, i32_w]
          rfl
        refine pure_ (i := 1) (N := some 45) (v := ?_) (a' := ?_) #[true, true, false, false, false, false, false, false, false] rfl rfl (by kernel_rfl) (fun _ _ _ h => h) (Or.inl ⟨by rfl, ?_⟩) ?_ ?_
        rotate_left
        · intro w'
          go_simp
          with_reducible rfl
        rotate_left
        · simp only [Act.put, List.setIfInBounds_toArray, List.set_cons_zero, List.set_cons_succ, i64_w, i32_w]
          rfl
        refine pure_ (i := 3) (N := some 47) (v := ?_) (a' := ?_) #[true, true, false, true, false, false, false, false, false] rfl rfl (by kernel_rfl) (fun _ _ _ h => h) (Or.inl ⟨by rfl, ?_⟩) ?_ ?_
        rotate_left
        · intro w'
          go_simp
          with_reducible rfl
        rotate_left
        · simp only [Act.put, List.setIfInBounds_toArray, List.set_cons_zero, List.set_cons_succ, i64_w, i32_w]
          rfl
        refine pure_ (i := 4) (N := some 48) (v := ?_) (a' := ?_) #[true, true, false, true, true, false, false, false, false] rfl rfl (by kernel_rfl) (fun _ _ _ h => h) (Or.inl ⟨by rfl, ?_⟩) ?_ ?_
        rotate_left
        · intro w'
          go_simp
          with_reducible rfl
        rotate_left
        · simp only [Act.put, List.setIfInBounds_toArray, List.set_cons_zero, List.set_cons_succ, i64_w, i32_w]
          rfl
        refine take_ (i := 2) (N := some 46) (v := ?_) (a' := ?_) #[true, true, true, true, true, false, false, false, false] rfl rfl (by kernel_rfl) (fun _ _ _ h => h) (Or.inl ⟨by rfl, ?_⟩) hHeld ?_ ?_
        rotate_left
        · rintro w' hS'
          have s0 := hS'
          go_simp
          with_reducible rfl
        rotate_left
        · simp only [Act.put, List.setIfInBounds_toArray, List.set_cons_zero, List.set_cons_succ, i64_w, i32_w]
          rfl
        refine take_ (i := 5) (N := some 49) (v := ?_) (a' := ?_) #[true, true, true, true, true, true, false, false, false] rfl rfl (by kernel_rfl) (fun _ _ _ h => h) (Or.inl ⟨by rfl, ?_⟩) hHeld ?_ ?_
        rotate_left
        · rintro w' hS'
          have s0 := hS'
          go_simp
          with_reducible rfl
        rotate_left
        · simp only [Act.put, List.setIfInBounds_toArray, List.set_cons_zero, List.set_cons_succ, i64_w, i32_w]
          rfl
        refine one_ (i := 6) (N := some 50) #[true, true, true, true, true, true, true, false, false] rfl rfl (by kernel_rfl) (by decide) (fun K hK => ?_)
        obtain ⟨t1927, HA1935, H⟩ := bind_some H
        refine goes_ Tryd.func81 (by kernel_rfl) rfl #[.pointer (some ⟨g1780, 0, none⟩), .int .i64 t1891.2.2.1] (by rfl) rfl rfl (by (try simp only [List.map_toArray, List.map_cons, List.map_nil]); first | done | rfl) ?_
        refine (ground_Ground_Reg.calls t1917.2.2 t1917.2.1 a1790 a1791 a1792 a1793 t1891.2.2.1 g1780 g1782 A1785 l1784.length n1787 t1927 _ ⟨HGl0.out.pass HS.out⟩ ⟨HS.out.begin⟩ HA1935).mono ?_
        rintro e_ w1936 ⟨rfl, hS⟩
        replace HS : Aside0 (Sep FF w [b8 g1780 g1782 a1790 a1791 a1792 a1793, b7 g1782 A1785 l1784.length n1787 t1927.2, r6 A1785 l1784.length n1787 t1917.2.2, b9 g1894 t1891.1 t1891.2.1 t1891.2.2.1] w1936) := ⟨HS.out.call hS⟩
        clear hS
        refine ⟨_, rfl, ?_⟩
        refine hK.out _ _ (blk_cellv (HS.out.at3) 2 rfl) (fun hHeld => ?_)
        clear hK K
        refine norm_ (a' := ?_) ?_ ?_
        rotate_left
        · show Act.put _ (some 50) _ = _
          simp only [Act.put, List.setIfInBounds_toArray, List.set_cons_zero, List.set_cons_succ, i64_w, i32_w]
          rfl
        refine pure_ (i := 7) (N := some 51) (v := ?_) (a' := ?_) #[true, true, true, true, true, true, true, true, false] rfl rfl (by kernel_rfl) (fun _ _ _ h => h) (Or.inl ⟨by rfl, ?_⟩) ?_ ?_
        rotate_left
        · intro w'
          go_simp
          with_reducible rfl
        rotate_left
        · simp only [Act.put, List.setIfInBounds_toArray, List.set_cons_zero, List.set_cons_succ, i64_w, i32_w]
          rfl
        refine one_ (i := 8) (N := some 52) #[true, true, true, true, true, true, true, true, true] rfl rfl (by kernel_rfl) (by decide) (fun K hK => ?_)
        obtain ⟨t1930, HA1937, H⟩ := bind_some H
        refine goes_ Tryd.func83 (by kernel_rfl) rfl #[.pointer (some ⟨g1780, 0, none⟩), .int .i64 t1891.2.2.1, .int .i64 (wrap64 (t1927.1 - 1))] (by rfl) rfl rfl (by (try simp only [List.map_toArray, List.map_cons, List.map_nil]); first | done | rfl) ?_
        refine (ground_Ground_SetReg.calls t1917.2.2 t1927.2 a1790 a1791 a1792 a1793 t1891.2.2.1 (wrap64 (t1927.1 - 1)) g1780 g1782 A1785 l1784.length n1787 t1930 _ ⟨HGl0.out.pass HS.out⟩ ⟨HS.out.begin⟩ HA1937).mono ?_
        rintro e_ w1938 ⟨rfl, hS⟩
        replace HS : Aside0 (Sep FF w [b8 g1780 g1782 a1790 a1791 a1792 a1793, b7 g1782 A1785 l1784.length n1787 t1930.2.1, r6 A1785 l1784.length n1787 t1930.2.2, b9 g1894 t1891.1 t1891.2.1 t1891.2.2.1] w1938) := ⟨HS.out.call hS⟩
        clear hS
        refine ⟨_, rfl, ?_⟩
        refine hK.out _ _ (blk_cellv (HS.out.at3) 2 rfl) (fun hHeld => ?_)
        clear hK K
        refine norm_ (a' := ?_) ?_ ?_
        rotate_left
        · show Act.put _ (some 52) _ = _
          simp only [Act.put, List.setIfInBounds_toArray, List.set_cons_zero, List.set_cons_succ, i64_w, i32_w]
          rfl
        refine done_ (by kernel_rfl) ?_
        replace HS : Aside0 (Sep FF w [b8 g1780 g1782 a1790 a1791 a1792 a1793, b7 g1782 A1785 l1784.length n1787 t1930.2.1, r6 A1785 l1784.length n1787 t1930.2.2] w1938) := ⟨HS.out.sub (.cons_cons _ (.cons_cons _ (.cons_cons _ (.cons _ .slnil))))⟩
        go_wp2_with fail
        go_ret2
        rw [← some_eq H]
        exact ⟨(by first | rfl | (simp [IntKind.wrap_u32]; done)), HS.out⟩
  · replace H := if_no c1904 H
    have c1904b0 : t1891.2.2.2 = false := by simpa using c1904
    have c1904b1 : (!t1891.2.2.2) = true := by rw [c1904b0]; rfl
    try rw [c1904b1]
    clear c1904
    go_wp2_with (first | ((with_reducible refine gate_dst (N := 6) rfl ?_); refine box_on ?hg (N := 6) ?hd (cs := #[.int .i64 0, .int .i64 0, .int .i64 0]) (t := 166) ?hr ?_; (case hd => rfl); (case hg => rfl); (case hr => first | (go_simp; done) | (go_simp; rfl)); intro g1894 hg w1895 hbox hb; replace HS : Aside0 (Sep FF w [b8 g1780 g1782 a1790 a1791 a1792 a1793, b7 g1782 A1785 l1784.length n1787 a1789, r6 A1785 l1784.length n1787 l1784, b9 g1894 0 0 0] w1895) := ⟨HS.out.box hg hbox hb⟩; clear hg hbox hb; have hc1897 : w1895.cell? ⟨g1894, 0, none⟩ = some (.int .i64 0) := blk_cellv (HS.out.at3) 0 rfl; have hz1898 : w1895.frozen? ⟨g1894, 0, none⟩ = false := blk_fz (HS.out.at3) 0; have hc1899 : w1895.cell? ⟨g1894, 1, none⟩ = some (.int .i64 0) := blk_cellv (HS.out.at3) 1 rfl; have hz1900 : w1895.frozen? ⟨g1894, 1, none⟩ = false := blk_fz (HS.out.at3) 1; have hc1901 : w1895.cell? ⟨g1894, 2, none⟩ = some (.int .i64 0) := blk_cellv (HS.out.at3) 2 rfl; have hz1902 : w1895.frozen? ⟨g1894, 2, none⟩ = false := blk_fz (HS.out.at3) 2) | ((with_reducible refine gate_store (t := 166) (p := 6) rfl ?_); refine store_event (w1 := (World.setCell (World.setCell (World.setCell w1895 ⟨g1894, 0, none⟩ (.int .i64 t1891.1)) ⟨g1894, 1, none⟩ (.int .i64 t1891.2.1)) ⟨g1894, 2, none⟩ (.int .i64 t1891.2.2.1))) rfl (t := 166) (p := 6) rfl rfl ?hr ?_; (case hr => first | (go_simp; done) | (go_simp; rfl)); intro w1903 hst; clear hc1897 hz1898 hc1899 hz1900 hc1901 hz1902; replace HS : Aside0 (Sep FF w [b8 g1780 g1782 a1790 a1791 a1792 a1793, b7 g1782 A1785 l1784.length n1787 a1789, r6 A1785 l1784.length n1787 l1784, b9 g1894 t1891.1 t1891.2.1 t1891.2.2.1] w1903) := ⟨by rw [hst]; exact HS.out.setAll (l1 := [b8 g1780 g1782 a1790 a1791 a1792 a1793, b7 g1782 A1785 l1784.length n1787 a1789, r6 A1785 l1784.length n1787 l1784]) (l2 := []) [.int .i64 t1891.1, .int .i64 t1891.2.1, .int .i64 t1891.2.2.1] rfl⟩; clear hst; replace HS : Aside0 (Sep FF w [b8 g1780 g1782 a1790 a1791 a1792 a1793, b7 g1782 A1785 l1784.length n1787 a1789, r6 A1785 l1784.length n1787 l1784] w1903) := ⟨HS.out.sub (.cons_cons _ (.cons_cons _ (.cons_cons _ (.cons _ .slnil))))⟩))
    go_ret2
    rw [← some_eq H]
    exact ⟨(by first | rfl | (simp [IntKind.wrap_u32]; done)), HS.out⟩

set_option maxHeartbeats 30000000 in
set_option maxRecDepth 100000 in
theorem ground_Ground_Wipe.calls (k : Nat) (l1948 : List Int) (a1953 : Int) (a1954 : Int) (a1955 : Int) (a1956 : Int) (a1957 : Int) (a1958 : Int) (g1944 : Nat) (g1946 : Nat) (A1949 : Option Addr) (m1950 : Nat) (n1951 : Nat) (r : Int × Int × List Int) (w : World)  (HGl0 : Aside0 (Gl 0 #[.int .i64 0, .int .i64 0, .int .i64 0, .int .i64 0, .int .i64 0] (fps [b8 g1944 g1946 a1954 a1955 a1956 a1957, b7 g1946 A1949 m1950 n1951 a1953, r6 A1949 m1950 n1951 l1948]) w)) (HS : Aside0 (Sep (fps [b8 g1944 g1946 a1954 a1955 a1956 a1957, b7 g1946 A1949 m1950 n1951 a1953, r6 A1949 m1950 n1951 l1948]) w [b8 g1944 g1946 a1954 a1955 a1956 a1957, b7 g1946 A1949 m1950 n1951 a1953, r6 A1949 m1950 n1951 l1948] w)) (H : Aside0 (ground_Ground_Wipe.f k l1948 a1953 a1954 a1955 a1956 a1957 a1958 = some r)) :
    Calls Tryd.prog 136 #[.pointer (some ⟨g1944, 0, none⟩), .int .i64 a1958] w fun e w' => e = .returned (.int .i64 r.1) ∧ Sep (fps [b8 g1944 g1946 a1954 a1955 a1956 a1957, b7 g1946 A1949 m1950 n1951 a1953, r6 A1949 m1950 n1951 l1948]) w [b8 g1944 g1946 a1954 a1955 a1956 a1957, b7 g1946 A1949 m1950 n1951 r.2.1, r6 A1949 m1950 n1951 r.2.2] w' := by
  generalize (fps [b8 g1944 g1946 a1954 a1955 a1956 a1957, b7 g1946 A1949 m1950 n1951 a1953, r6 A1949 m1950 n1951 l1948]) = FF at HS HGl0 ⊢
  obtain rfl := (row_len (HS.out.at2)).symm
  unfold ground_Ground_Wipe.f at H
  go_enter Tryd.func136, Tryd.ntmps136
  go_wp2_with fail
  obtain ⟨t1987, HA1988, H⟩ := bind_some H
  refine (ground_Ground_Conf.calls l1948 a1953 a1954 a1955 a1956 a1957 g1944 g1946 A1949 l1948.length n1951 t1987 _ ⟨HGl0.out.pass HS.out⟩ ⟨HS.out.begin⟩ HA1988).mono ?_
  rintro e_ w1989 ⟨rfl, hS⟩
  replace HS : Aside0 (Sep FF w [b8 g1944 g1946 a1954 a1955 a1956 a1957, b7 g1946 A1949 l1948.length n1951 a1953, r6 A1949 l1948.length n1951 l1948] w1989) := ⟨HS.out.call hS⟩
  clear hS
  have fl1990 : ∀ w, (Instr.field 30 (.agg #[.int .i64 t1987.1, .int .i64 t1987.2.1, .int .i64 t1987.2.2.1, .int .i64 t1987.2.2.2]) 1).run Tryd.prog w = .ok (.int .i64 t1987.2.1) w := fun _ => by kernel_rfl
  go_wp2_with fail
  clear fl1990
  obtain ⟨o2003, AL2004, H⟩ := bind_some H
  go_loopg [5, 10] k (fun kq v5 v10 wc => ∃ (x2007 : Int) (x2008 : Int) (x2009 : List Int) (x2010 : Int), v5 = .int .i64 x2007 ∧ v10 = .int .i64 x2008 ∧ Aside0 (ground_Ground_Wipe.lo0 kq a1954 a1955 a1956 a1957 a1958 t1987 x2007 x2008 x2009 x2010 = some o2003) ∧ Aside0 (Sep FF w [b8 g1944 g1946 a1954 a1955 a1956 a1957, b7 g1946 A1949 l1948.length n1951 x2010, r6 A1949 l1948.length n1951 x2009] wc))
  case atStart => exact ⟨(0), (0), (l1948), (a1953), (by first | rfl | (simp [IntKind.wrap_u32]; done)), (by first | rfl | (simp [IntKind.wrap_u32]; done)), AL2004, ⟨HS.out⟩⟩
  case round =>
    clear AL2004 HS
    obtain ⟨x2007, x2008, x2009, x2010, rfl, rfl, AL2004, HS⟩ := hrel
    obtain ⟨w2005, rfl⟩ : ∃ x : World, x = wr := ⟨_, rfl⟩
    cases gk with
    | zero => exact absurd AL2004.out (by simp [ground_Ground_Wipe.lo0])
    | succ k2006 =>
      have AL0 := AL2004.out
      rw [ground_Ground_Wipe.lo0] at AL0
      clear AL2004
      have AL2004 := Aside0.mk AL0
      clear AL0
      by_cases c2011 : x2008 < t1987.2.1
      · replace AL2004 := if_yes c2011 AL2004
        have c2011b0 : decide (x2008 < t1987.2.1) = true := decide_eq_true c2011
        clear c2011
        go_wp2_with fail
        obtain ⟨t1999, HA2012, AL2004⟩ := bind_some AL2004
        refine (ground_Ground_SetWord.calls x2009 x2010 a1954 a1955 a1956 a1957 a1958 x2008 0 g1944 g1946 A1949 l1948.length n1951 t1999 _ ⟨HGl0.out.pass HS.out⟩ ⟨HS.out.begin⟩ HA2012).mono ?_
        rintro e_ w2013 ⟨rfl, hS⟩
        replace HS : Aside0 (Sep FF w [b8 g1944 g1946 a1954 a1955 a1956 a1957, b7 g1946 A1949 l1948.length n1951 t1999.2.1, r6 A1949 l1948.length n1951 t1999.2.2] w2013) := ⟨HS.out.call hS⟩
        clear hS
        by_cases c2014 : t1999.1 = true
        · replace AL2004 := if_yes c2014 AL2004
          have c2014b0 : t1999.1 = true := c2014
          have c2014b1 : (!t1999.1) = false := by rw [c2014b0]; rfl
          clear c2014
          go_wp2_with fail
          go_roundg k2006
          case measure => exact Nat.lt_succ_self _
          case rel => exact ⟨(wrap64 (x2007 + 1)), (wrap64 (x2008 + 1)), (t1999.2.2), (t1999.2.1), (by first | rfl | (simp [IntKind.wrap_u32]; done)), (by first | rfl | (simp [IntKind.wrap_u32]; done)), Aside0.mk AL2004.out, ⟨HS.out⟩⟩
        · replace AL2004 := if_no c2014 AL2004
          have c2014b0 : t1999.1 = false := by simpa using c2014
          have c2014b1 : (!t1999.1) = true := by rw [c2014b0]; rfl
          clear c2014
          go_wp2_with fail
          go_roundg k2006
          case measure => exact Nat.lt_succ_self _
          case rel => exact ⟨(x2007), (wrap64 (x2008 + 1)), (t1999.2.2), (t1999.2.1), (by first | rfl | (simp [IntKind.wrap_u32]; done)), (by first | rfl | (simp [IntKind.wrap_u32]; done)), Aside0.mk AL2004.out, ⟨HS.out⟩⟩
      · replace AL2004 := if_no c2011 AL2004
        have c2011b0 : decide (x2008 < t1987.2.1) = false := decide_eq_false c2011
        clear c2011
        have ho := some_eq AL2004
        subst ho
        clear AL2004
        go_wp2_with fail
        go_ret
        rw [← some_eq H]
        exact ⟨(by first | rfl | (simp [IntKind.wrap_u32]; done)), HS.out⟩

set_option maxHeartbeats 30000000 in
set_option maxRecDepth 100000 in
theorem pool_Take.calls (k : Nat) (l1769 : List Int) (a1774 : Int) (a1775 : Int) (a1776 : Int) (a1777 : Int) (a1778 : Int) (g1765 : Nat) (g1767 : Nat) (A1770 : Option Addr) (m1771 : Nat) (n1772 : Nat) (r : Int × Bool × Int × List Int) (w : World)  (HGl0 : Aside0 (Gl 0 #[.int .i64 0, .int .i64 0, .int .i64 0, .int .i64 0, .int .i64 0] (fps [b8 g1765 g1767 a1775 a1776 a1777 a1778, b7 g1767 A1770 m1771 n1772 a1774, r6 A1770 m1771 n1772 l1769]) w)) (HS : Aside0 (Sep (fps [b8 g1765 g1767 a1775 a1776 a1777 a1778, b7 g1767 A1770 m1771 n1772 a1774, r6 A1770 m1771 n1772 l1769]) w [b8 g1765 g1767 a1775 a1776 a1777 a1778, b7 g1767 A1770 m1771 n1772 a1774, r6 A1770 m1771 n1772 l1769] w)) (H : Aside0 (pool_Take.f k l1769 a1774 a1775 a1776 a1777 a1778 = some r)) :
    Calls Tryd.prog 98 #[.pointer (some ⟨g1765, 0, none⟩)] w fun e w' => e = .returned (.tuple #[.int .i64 r.1, .bool r.2.1]) ∧ Sep (fps [b8 g1765 g1767 a1775 a1776 a1777 a1778, b7 g1767 A1770 m1771 n1772 a1774, r6 A1770 m1771 n1772 l1769]) w [b8 g1765 g1767 a1775 a1776 a1777 a1778, b7 g1767 A1770 m1771 n1772 r.2.2.1, r6 A1770 m1771 n1772 r.2.2.2] w' := by
  generalize (fps [b8 g1765 g1767 a1775 a1776 a1777 a1778, b7 g1767 A1770 m1771 n1772 a1774, r6 A1770 m1771 n1772 l1769]) = FF at HS HGl0 ⊢
  obtain rfl := (row_len (HS.out.at2)).symm
  unfold pool_Take.f at H
  go_enter Tryd.func98, Tryd.ntmps98
  go_wp2_with fail
  obtain ⟨t2019, HA2020, H⟩ := bind_some H
  refine (chain_Take.calls l1769 a1774 a1775 a1776 a1777 a1778 0 g1765 g1767 A1770 l1769.length n1772 t2019 _ ⟨HGl0.out.pass HS.out⟩ ⟨HS.out.begin⟩ HA2020).mono ?_
  rintro e_ w2021 ⟨rfl, hS⟩
  replace HS : Aside0 (Sep FF w [b8 g1765 g1767 a1775 a1776 a1777 a1778, b7 g1767 A1770 l1769.length n1772 t2019.2.2.1, r6 A1770 l1769.length n1772 t2019.2.2.2] w2021) := ⟨HS.out.call hS⟩
  clear hS
  by_cases c2022 : t2019.2.1 = true
  · replace H := if_yes c2022 H
    have c2022b0 : t2019.2.1 = true := c2022
    have c2022b1 : (!t2019.2.1) = false := by rw [c2022b0]; rfl
    try rw [c2022b1]
    clear c2022
    go_wp2_with fail
    obtain ⟨t2023, HA2024, H⟩ := bind_some H
    refine (ground_Ground_Wipe.calls _ t2019.2.2.2 t2019.2.2.1 a1775 a1776 a1777 a1778 t2019.1 g1765 g1767 A1770 l1769.length n1772 t2023 _ ⟨HGl0.out.pass HS.out⟩ ⟨HS.out.begin⟩ HA2024).mono ?_
    rintro e_ w2025 ⟨rfl, hS⟩
    replace HS : Aside0 (Sep FF w [b8 g1765 g1767 a1775 a1776 a1777 a1778, b7 g1767 A1770 l1769.length n1772 t2023.2.1, r6 A1770 l1769.length n1772 t2023.2.2] w2025) := ⟨HS.out.call hS⟩
    clear hS
    go_wp2_with fail
    go_ret2
    rw [← some_eq H]
    exact ⟨(by first | rfl | (simp [IntKind.wrap_u32]; done)), HS.out⟩
  · replace H := if_no c2022 H
    have c2022b0 : t2019.2.1 = false := by simpa using c2022
    have c2022b1 : (!t2019.2.1) = true := by rw [c2022b0]; rfl
    try rw [c2022b1]
    clear c2022
    go_wp2_with fail
    go_ret2
    rw [← some_eq H]
    exact ⟨(by first | rfl | (simp [IntKind.wrap_u32]; done)), HS.out⟩

set_option maxHeartbeats 30000000 in
set_option maxRecDepth 100000 in
theorem tag_marks.calls (a2097 : Int) (a2098 : Int) (a2099 : Int) (a2100 : Int) (a2101 : Int) (a2102 : Int) (a2103 : Int) (r : Int × Int × Int × Int × Int) (w : World)  (HGl0 : Aside0 (Gl 0 #[.int .i64 0, .int .i64 0, .int .i64 0, .int .i64 0, .int .i64 0] (fps []) w)) (HS : Aside0 (Sep (fps []) w [] w)) (H : Aside0 (tag_marks.f a2097 a2098 a2099 a2100 a2101 a2102 a2103 = some r)) :
    Calls Tryd.prog 68 #[.agg #[.int .i64 a2097, .int .i64 a2098, .int .i64 a2099, .int .i64 a2100, .int .i64 a2101, .int .i64 a2102, .int .i64 a2103]] w fun e w' => e = .returned (.agg #[.int .i64 r.1, .int .i64 r.2.1, .int .i64 r.2.2.1, .int .i64 r.2.2.2.1, .int .i64 r.2.2.2.2]) ∧ Sep (fps []) w [] w' := by
  unfold tag_marks.f at H
  go_enter Tryd.func68, Tryd.ntmps68
  go_wp2_with (first | ((with_reducible refine gate_dst (N := 1) rfl ?_); refine box_on ?hg (N := 1) ?hd (cs := #[.int .i64 a2097, .int .i64 a2098, .int .i64 a2099, .int .i64 a2100, .int .i64 a2101, .int .i64 a2102, .int .i64 a2103]) (t := 32) ?hr ?_; (case hd => rfl); (case hg => rfl); (case hr => first | (go_simp; done) | (go_simp; rfl)); intro g2104 hg w2105 hbox hb; replace HS : Aside0 (Sep (fps []) w [b12 g2104 a2097 a2098 a2099 a2100 a2101 a2102 a2103] w2105) := ⟨HS.out.box hg hbox hb⟩; clear hg hbox hb) | ((with_reducible refine gate_dst (N := 2) rfl ?_); refine box_on ?hg (N := 2) ?hd (cs := #[.int .i64 0, .int .i64 0, .int .i64 0, .int .i64 0, .int .i64 0]) (t := 108) ?hr ?_; (case hd => rfl); (case hg => rfl); (case hr => first | (go_simp; done) | (go_simp; rfl)); intro g2107 hg w2108 hbox hb; replace HS : Aside0 (Sep (fps []) w [b12 g2104 a2097 a2098 a2099 a2100 a2101 a2102 a2103, b13 g2107 0 0 0 0 0] w2108) := ⟨HS.out.box hg hbox hb⟩; clear hg hbox hb; have hc2110 : w2108.cell? ⟨g2104, 1, none⟩ = some (.int .i64 a2098) := blk_cellv (HS.out.at0) 1 rfl; have hc2111 : w2108.cell? ⟨g2104, 2, none⟩ = some (.int .i64 a2099) := blk_cellv (HS.out.at0) 2 rfl; have hc2112 : w2108.cell? ⟨g2104, 3, none⟩ = some (.int .i64 a2100) := blk_cellv (HS.out.at0) 3 rfl; have hc2113 : w2108.cell? ⟨g2104, 4, none⟩ = some (.int .i64 a2101) := blk_cellv (HS.out.at0) 4 rfl; have hc2114 : w2108.cell? ⟨g2104, 5, none⟩ = some (.int .i64 a2102) := blk_cellv (HS.out.at0) 5 rfl; have hc2115 : w2108.cell? ⟨g2107, 0, none⟩ = some (.int .i64 0) := blk_cellv (HS.out.at1) 0 rfl; have hz2116 : w2108.frozen? ⟨g2107, 0, none⟩ = false := blk_fz (HS.out.at1) 0; have hc2117 : w2108.cell? ⟨g2107, 1, none⟩ = some (.int .i64 0) := blk_cellv (HS.out.at1) 1 rfl; have hz2118 : w2108.frozen? ⟨g2107, 1, none⟩ = false := blk_fz (HS.out.at1) 1; have hc2119 : w2108.cell? ⟨g2107, 2, none⟩ = some (.int .i64 0) := blk_cellv (HS.out.at1) 2 rfl; have hz2120 : w2108.frozen? ⟨g2107, 2, none⟩ = false := blk_fz (HS.out.at1) 2; have hc2121 : w2108.cell? ⟨g2107, 3, none⟩ = some (.int .i64 0) := blk_cellv (HS.out.at1) 3 rfl; have hz2122 : w2108.frozen? ⟨g2107, 3, none⟩ = false := blk_fz (HS.out.at1) 3; have hc2123 : w2108.cell? ⟨g2107, 4, none⟩ = some (.int .i64 0) := blk_cellv (HS.out.at1) 4 rfl; have hz2124 : w2108.frozen? ⟨g2107, 4, none⟩ = false := blk_fz (HS.out.at1) 4) | ((with_reducible refine gate_store (t := 108) (p := 2) rfl ?_); refine store_event (w1 := (World.setCell (World.setCell (World.setCell (World.setCell (World.setCell w2108 ⟨g2107, 0, none⟩ (.int .i64 a2098)) ⟨g2107, 1, none⟩ (.int .i64 a2099)) ⟨g2107, 2, none⟩ (.int .i64 a2100)) ⟨g2107, 3, none⟩ (.int .i64 a2101)) ⟨g2107, 4, none⟩ (.int .i64 a2102))) rfl (t := 108) (p := 2) rfl rfl ?hr ?_; (case hr => first | (go_simp; done) | (go_simp; rfl)); intro w2125 hst; clear hc2110 hc2111 hc2112 hc2113 hc2114 hc2115 hz2116 hc2117 hz2118 hc2119 hz2120 hc2121 hz2122 hc2123 hz2124; replace HS : Aside0 (Sep (fps []) w [b12 g2104 a2097 a2098 a2099 a2100 a2101 a2102 a2103, b13 g2107 a2098 a2099 a2100 a2101 a2102] w2125) := ⟨by rw [hst]; exact HS.out.setAll (l1 := [b12 g2104 a2097 a2098 a2099 a2100 a2101 a2102 a2103]) (l2 := []) [.int .i64 a2098, .int .i64 a2099, .int .i64 a2100, .int .i64 a2101, .int .i64 a2102] rfl⟩; clear hst; replace HS : Aside0 (Sep (fps []) w [b13 g2107 a2098 a2099 a2100 a2101 a2102] w2125) := ⟨HS.out.sub (.cons _ (.cons_cons _ .slnil))⟩))
  have hc2126 : w2125.cell? ⟨g2107, 0, none⟩ = some (.int .i64 a2098) := blk_cellv (HS.out.at0) 0 rfl
  have hc2127 : w2125.cell? ⟨g2107, 1, none⟩ = some (.int .i64 a2099) := blk_cellv (HS.out.at0) 1 rfl
  have hc2128 : w2125.cell? ⟨g2107, 2, none⟩ = some (.int .i64 a2100) := blk_cellv (HS.out.at0) 2 rfl
  have hc2129 : w2125.cell? ⟨g2107, 3, none⟩ = some (.int .i64 a2101) := blk_cellv (HS.out.at0) 3 rfl
  have hc2130 : w2125.cell? ⟨g2107, 4, none⟩ = some (.int .i64 a2102) := blk_cellv (HS.out.at0) 4 rfl
  refine bodyPost_ret (v := .agg #[.int .i64 a2098, .int .i64 a2099, .int .i64 a2100, .int .i64 a2101, .int .i64 a2102]) (by simp [results, Tryd.results68, go_sem, hc2126, hc2127, hc2128, hc2129, hc2130]) rfl ?_
  rw [← some_eq H]
  exact ⟨(by first | rfl | (simp [IntKind.wrap_u32]; done)), HS.out.sub (.cons _ .slnil)⟩

set_option maxHeartbeats 30000000 in
set_option maxRecDepth 100000 in
theorem tag_Right.calls (k : Nat) (a2080 : Int) (a2081 : Int) (a2082 : Int) (a2083 : Int) (a2084 : Int) (a2085 : Int) (a2086 : Int) (r : Bool) (w : World)  (HGl0 : Aside0 (Gl 0 #[.int .i64 0, .int .i64 0, .int .i64 0, .int .i64 0, .int .i64 0] (fps []) w)) (HS : Aside0 (Sep (fps []) w [] w)) (H : Aside0 (tag_Right.f k a2080 a2081 a2082 a2083 a2084 a2085 a2086 = some r)) :
    Calls Tryd.prog 67 #[.agg #[.int .i64 a2080, .int .i64 a2081, .int .i64 a2082, .int .i64 a2083, .int .i64 a2084, .int .i64 a2085, .int .i64 a2086]] w fun e w' => e = .returned (.bool r) ∧ Sep (fps []) w [] w' := by
  unfold tag_Right.f at H
  go_enter Tryd.func67, Tryd.ntmps67
  go_wp2_with (first | ((with_reducible refine gate_dst (N := 1) rfl ?_); refine box_on ?hg (N := 1) ?hd (cs := #[.int .i64 a2080, .int .i64 a2081, .int .i64 a2082, .int .i64 a2083, .int .i64 a2084, .int .i64 a2085, .int .i64 a2086]) (t := 32) ?hr ?_; (case hd => rfl); (case hg => rfl); (case hr => first | (go_simp; done) | (go_simp; rfl)); intro g2087 hg w2088 hbox hb; replace HS : Aside0 (Sep (fps []) w [b12 g2087 a2080 a2081 a2082 a2083 a2084 a2085 a2086] w2088) := ⟨HS.out.box hg hbox hb⟩; clear hg hbox hb; have hc2090 : w2088.cell? ⟨g2087, 0, none⟩ = some (.int .i64 a2080) := blk_cellv (HS.out.at0) 0 rfl; have hc2091 : w2088.cell? ⟨g2087, 1, none⟩ = some (.int .i64 a2081) := blk_cellv (HS.out.at0) 1 rfl; have hc2092 : w2088.cell? ⟨g2087, 2, none⟩ = some (.int .i64 a2082) := blk_cellv (HS.out.at0) 2 rfl; have hc2093 : w2088.cell? ⟨g2087, 3, none⟩ = some (.int .i64 a2083) := blk_cellv (HS.out.at0) 3 rfl; have hc2094 : w2088.cell? ⟨g2087, 4, none⟩ = some (.int .i64 a2084) := blk_cellv (HS.out.at0) 4 rfl; have hc2095 : w2088.cell? ⟨g2087, 5, none⟩ = some (.int .i64 a2085) := blk_cellv (HS.out.at0) 5 rfl; have hc2096 : w2088.cell? ⟨g2087, 6, none⟩ = some (.int .i64 a2086) := blk_cellv (HS.out.at0) 6 rfl))
  clear hc2090 hc2091 hc2092 hc2093 hc2094 hc2095 hc2096
  obtain ⟨t2131, HA2132, H⟩ := bind_some H
  refine (tag_marks.calls a2080 a2081 a2082 a2083 a2084 a2085 a2086 t2131 _ ⟨HGl0.out.pass (l := []) HS.out⟩ ⟨Sep.start _⟩ HA2132).mono ?_
  rintro e_ w2133 ⟨rfl, hS⟩
  replace HS : Aside0 (Sep (fps []) w [b12 g2087 a2080 a2081 a2082 a2083 a2084 a2085 a2086] w2133) := ⟨HS.out.call hS⟩
  clear hS
  go_wp2_with fail
  obtain ⟨o2146, AL2147, H⟩ := bind_some H
  go_loopg [7] k (fun kq v7 wc => ∃ (x2150 : Int), v7 = .int .i64 x2150 ∧ Aside0 (tag_Right.lo0 kq t2131 x2150 = some o2146) ∧ Aside0 (Sep (fps []) w [b12 g2087 a2080 a2081 a2082 a2083 a2084 a2085 a2086] wc))
  case atStart => exact ⟨(0), (by first | rfl | (simp [IntKind.wrap_u32]; done)), AL2147, ⟨HS.out⟩⟩
  case round =>
    clear AL2147 HS
    obtain ⟨x2150, rfl, AL2147, HS⟩ := hrel
    obtain ⟨w2148, rfl⟩ : ∃ x : World, x = wr := ⟨_, rfl⟩
    cases gk with
    | zero => exact absurd AL2147.out (by simp [tag_Right.lo0])
    | succ k2149 =>
      have AL0 := AL2147.out
      rw [tag_Right.lo0] at AL0
      clear AL2147
      have AL2147 := Aside0.mk AL0
      clear AL0
      by_cases c2151 : x2150 < 5
      · replace AL2147 := if_yes c2151 AL2147
        have c2151b0 : decide (x2150 < 5) = true := decide_eq_true c2151
        clear c2151
        by_cases c2152 : 0 ≤ x2150
        · replace AL2147 := if_yes c2152 AL2147
          have c2152b0 : decide (0 ≤ x2150) = true := decide_eq_true c2152
          have c2152p : (0 ≤ x2150) = True := eq_true c2152
          clear c2152
          have ip2153 : (x2150 < 5) = True := eq_true (of_decide_eq_true c2151b0)
          have ix2154 : ∀ w, (Instr.index 108 (.agg #[.int .i64 t2131.1, .int .i64 t2131.2.1, .int .i64 t2131.2.2.1, .int .i64 t2131.2.2.2.1, .int .i64 t2131.2.2.2.2]) (.int .i64 x2150)).run Tryd.prog w = .ok (.int .i64 (rd [t2131.1, t2131.2.1, t2131.2.2.1, t2131.2.2.2.1, t2131.2.2.2.2] x2150)) w := run_index_ints 108 3 5 .i64 .i64 [t2131.1, t2131.2.1, t2131.2.2.1, t2131.2.2.2.1, t2131.2.2.2.2] x2150 Tryd.underlying108 (fun _ => by kernel_rfl) (fun _ => by kernel_rfl) rfl (of_decide_eq_true c2152b0) (of_decide_eq_true c2151b0)
          by_cases c2155 : (rd [t2131.1, t2131.2.1, t2131.2.2.1, t2131.2.2.2.1, t2131.2.2.2.2] x2150) = 0
          · replace AL2147 := if_yes c2155 AL2147
            have c2155b0 : ((rd [t2131.1, t2131.2.1, t2131.2.2.1, t2131.2.2.2.1, t2131.2.2.2.2] x2150) == 0) = true := beq_iff_eq.mpr c2155
            have c2155b1 : ((rd [t2131.1, t2131.2.1, t2131.2.2.1, t2131.2.2.2.1, t2131.2.2.2.2] x2150) != 0) = false := bne_eq_false_iff_eq.mpr c2155
            clear c2155
            go_wp2_with fail
            go_roundg k2149
            case measure => exact Nat.lt_succ_self _
            case rel => exact ⟨(wrap64 (x2150 + 1)), (by first | rfl | (simp [IntKind.wrap_u32]; done)), Aside0.mk AL2147.out, ⟨HS.out⟩⟩
          · replace AL2147 := if_no c2155 AL2147
            have c2155b0 : ((rd [t2131.1, t2131.2.1, t2131.2.2.1, t2131.2.2.2.1, t2131.2.2.2.2] x2150) == 0) = false := beq_eq_false_iff_ne.mpr c2155
            have c2155b1 : ((rd [t2131.1, t2131.2.1, t2131.2.2.1, t2131.2.2.2.1, t2131.2.2.2.2] x2150) != 0) = true := bne_iff_ne.mpr c2155
            clear c2155
            by_cases c2156 : (rd [t2131.1, t2131.2.1, t2131.2.2.1, t2131.2.2.2.1, t2131.2.2.2.2] x2150) = 1
            · replace AL2147 := if_yes c2156 AL2147
              have c2156b0 : ((rd [t2131.1, t2131.2.1, t2131.2.2.1, t2131.2.2.2.1, t2131.2.2.2.2] x2150) == 1) = true := beq_iff_eq.mpr c2156
              have c2156b1 : ((rd [t2131.1, t2131.2.1, t2131.2.2.1, t2131.2.2.2.1, t2131.2.2.2.2] x2150) != 1) = false := bne_eq_false_iff_eq.mpr c2156
              clear c2156
              go_wp2_with fail
              go_roundg k2149
              case measure => exact Nat.lt_succ_self _
              case rel => exact ⟨(wrap64 (x2150 + 1)), (by first | rfl | (simp [IntKind.wrap_u32]; done)), Aside0.mk AL2147.out, ⟨HS.out⟩⟩
            · replace AL2147 := if_no c2156 AL2147
              have c2156b0 : ((rd [t2131.1, t2131.2.1, t2131.2.2.1, t2131.2.2.2.1, t2131.2.2.2.2] x2150) == 1) = false := beq_eq_false_iff_ne.mpr c2156
              have c2156b1 : ((rd [t2131.1, t2131.2.1, t2131.2.2.1, t2131.2.2.2.1, t2131.2.2.2.2] x2150) != 1) = true := bne_iff_ne.mpr c2156
              clear c2156
              go_wp2_with fail
              have ho := some_eq AL2147
              subst ho
              have H := lp_ret H
              go_ret
              rw [← some_eq H]
              exact ⟨(by first | rfl | (simp [IntKind.wrap_u32]; done)), HS.out.sub (.cons _ .slnil)⟩
        · replace AL2147 := if_no c2152 AL2147
          have c2152b0 : decide (0 ≤ x2150) = false := decide_eq_false c2152
          clear c2152
          exact (none_no AL2147).elim
      · replace AL2147 := if_no c2151 AL2147
        have c2151b0 : decide (x2150 < 5) = false := decide_eq_false c2151
        clear c2151
        have ho := some_eq AL2147
        subst ho
        clear AL2147
        have H := lp_out H
        by_cases c2158 : a2080 = 1
        · replace H := if_yes c2158 H
          have c2158b0 : (a2080 == 1) = true := beq_iff_eq.mpr c2158
          have c2158b1 : (a2080 != 1) = false := bne_eq_false_iff_eq.mpr c2158
          clear c2158
          have hc2157 : w2148.cell? ⟨g2087, 0, none⟩ = some (.int .i64 a2080) := blk_cellv (HS.out.at0) 0 rfl
          have hc2159 : w2148.cell? ⟨g2087, 6, none⟩ = some (.int .i64 a2086) := blk_cellv (HS.out.at0) 6 rfl
          replace HS : Aside0 (Sep (fps []) w [] w2148) := ⟨HS.out.sub (.cons _ .slnil)⟩
          go_wp2_with fail
          clear hc2157 hc2159
          go_ret
          rw [← some_eq H]
          exact ⟨(by first | rfl | (simp [IntKind.wrap_u32]; done)), HS.out⟩
        · replace H := if_no c2158 H
          have c2158b0 : (a2080 == 1) = false := beq_eq_false_iff_ne.mpr c2158
          have c2158b1 : (a2080 != 1) = true := bne_iff_ne.mpr c2158
          clear c2158
          by_cases c2160 : a2080 = 2
          · replace H := if_yes c2160 H
            have c2160b0 : (a2080 == 2) = true := beq_iff_eq.mpr c2160
            have c2160b1 : (a2080 != 2) = false := bne_eq_false_iff_eq.mpr c2160
            clear c2160
            have hc2157 : w2148.cell? ⟨g2087, 0, none⟩ = some (.int .i64 a2080) := blk_cellv (HS.out.at0) 0 rfl
            have hc2161 : w2148.cell? ⟨g2087, 6, none⟩ = some (.int .i64 a2086) := blk_cellv (HS.out.at0) 6 rfl
            replace HS : Aside0 (Sep (fps []) w [] w2148) := ⟨HS.out.sub (.cons _ .slnil)⟩
            go_wp2_with fail
            clear hc2157 hc2161
            go_ret
            rw [← some_eq H]
            exact ⟨(by first | rfl | (simp [IntKind.wrap_u32]; done)), HS.out⟩
          · replace H := if_no c2160 H
            have c2160b0 : (a2080 == 2) = false := beq_eq_false_iff_ne.mpr c2160
            have c2160b1 : (a2080 != 2) = true := bne_iff_ne.mpr c2160
            clear c2160
            by_cases c2162 : a2080 = 0
            · replace H := if_yes c2162 H
              have c2162b0 : (a2080 == 0) = true := beq_iff_eq.mpr c2162
              have c2162b1 : (a2080 != 0) = false := bne_eq_false_iff_eq.mpr c2162
              clear c2162
              have hc2157 : w2148.cell? ⟨g2087, 0, none⟩ = some (.int .i64 a2080) := blk_cellv (HS.out.at0) 0 rfl
              go_wp2_with fail
              clear hc2157
              refine start_ (n := 25) (S := (fun w' => w'.cell? ⟨g2087, 0, none⟩ = some (.int .i64 a2080) ∧ w'.cell? ⟨g2087, 1, none⟩ = some (.int .i64 a2081) ∧ w'.cell? ⟨g2087, 2, none⟩ = some (.int .i64 a2082) ∧ w'.cell? ⟨g2087, 3, none⟩ = some (.int .i64 a2083) ∧ w'.cell? ⟨g2087, 4, none⟩ = some (.int .i64 a2084) ∧ w'.cell? ⟨g2087, 5, none⟩ = some (.int .i64 a2085) ∧ w'.cell? ⟨g2087, 6, none⟩ = some (.int .i64 a2086) ∧ w'.cell? ⟨0, 0, none⟩ = some (.int .i64 0) ∧ w'.cell? ⟨0, 1, none⟩ = some (.int .i64 0) ∧ w'.cell? ⟨0, 2, none⟩ = some (.int .i64 0) ∧ w'.cell? ⟨0, 3, none⟩ = some (.int .i64 0) ∧ w'.cell? ⟨0, 4, none⟩ = some (.int .i64 0))) (ds := []) #[false, false, false, false, false, false, false, false, false, false, false, false, false, false, false, false, false, false, false, false, false, false, false, false, false] (by kernel_rfl) rfl rfl (⟨blk_cellv ((HS.out.drew).at0) 0 rfl, blk_cellv ((HS.out.drew).at0) 1 rfl, blk_cellv ((HS.out.drew).at0) 2 rfl, blk_cellv ((HS.out.drew).at0) 3 rfl, blk_cellv ((HS.out.drew).at0) 4 rfl, blk_cellv ((HS.out.drew).at0) 5 rfl, blk_cellv ((HS.out.drew).at0) 6 rfl, Gl.cell HGl0.out (HS.out.drew).fr 0 rfl, Gl.cell HGl0.out (HS.out.drew).fr 1 rfl, Gl.cell HGl0.out (HS.out.drew).fr 2 rfl, Gl.cell HGl0.out (HS.out.drew).fr 3 rfl, Gl.cell HGl0.out (HS.out.drew).fr 4 rfl⟩) (fun hHeld => ?_)
              have HS_ := Aside0.mk HS.out.drew
              clear HS
              generalize World.drew _ = w2164 at HS_ hHeld ⊢
              have HS := HS_
              clear HS_
              refine take_ (i := 0) (N := some 28) (v := ?_) (a' := ?_) #[true, false, false, false, false, false, false, false, false, false, false, false, false, false, false, false, false, false, false, false, false, false, false, false, false] rfl rfl (by kernel_rfl) (fun _ _ _ h => h) (Or.inl ⟨by rfl, ?_⟩) hHeld ?_ ?_
              rotate_left
              · rintro w' hS'
                obtain ⟨s0, s1, s2, s3, s4, s5, s6, s7, s8, s9, s10, s11⟩ := hS'
                go_simp
                with_reducible rfl
              rotate_left
              · simp only [Act.put, List.setIfInBounds_toArray, List.set_cons_zero, List.set_cons_succ, i64_w, i32_w]
                rfl
              refine take_ (i := 2) (N := some 30) (v := ?_) (a' := ?_) #[true, false, true, false, false, false, false, false, false, false, false, false, false, false, false, false, false, false, false, false, false, false, false, false, false] rfl rfl (by kernel_rfl) (fun _ _ _ h => h) (Or.inl ⟨by rfl, ?_⟩) hHeld ?_ ?_
              rotate_left
              · rintro w' hS'
                obtain ⟨s0, s1, s2, s3, s4, s5, s6, s7, s8, s9, s10, s11⟩ := hS'
                go_simp
                with_reducible rfl
              rotate_left
              · simp only [Act.put, List.setIfInBounds_toArray, List.set_cons_zero, List.set_cons_succ, i64_w, i32_w]
                rfl
              refine one_ (i := 1) (N := some 29) #[true, true, true, false, false, false, false, false, false, false, false, false, false, false, false, false, false, false, false, false, false, false, false, false, false] rfl rfl (by kernel_rfl) (by decide) (fun K hK => ?_)
              obtain ⟨t2165, HA2166, H⟩ := bind_some H
              refine goes_ Tryd.func68 (by kernel_rfl) rfl #[.agg #[.int .i64 a2080, .int .i64 a2081, .int .i64 a2082, .int .i64 a2083, .int .i64 a2084, .int .i64 a2085, .int .i64 a2086]] (by rfl) rfl rfl (by (try simp only [List.map_toArray, List.map_cons, List.map_nil]); first | done | rfl) ?_
              refine (tag_marks.calls a2080 a2081 a2082 a2083 a2084 a2085 a2086 t2165 _ ⟨HGl0.out.pass (l := []) HS.out⟩ ⟨Sep.start _⟩ HA2166).mono ?_
              rintro e_ w2167 ⟨rfl, hS⟩
              replace HS : Aside0 (Sep (fps []) w [b12 g2087 a2080 a2081 a2082 a2083 a2084 a2085 a2086] w2167) := ⟨HS.out.call hS⟩
              clear hS
              refine ⟨_, rfl, ?_⟩
              refine hK.out _ _ (⟨blk_cellv (HS.out.at0) 0 rfl, blk_cellv (HS.out.at0) 1 rfl, blk_cellv (HS.out.at0) 2 rfl, blk_cellv (HS.out.at0) 3 rfl, blk_cellv (HS.out.at0) 4 rfl, blk_cellv (HS.out.at0) 5 rfl, blk_cellv (HS.out.at0) 6 rfl, Gl.cell HGl0.out HS.out.fr 0 rfl, Gl.cell HGl0.out HS.out.fr 1 rfl, Gl.cell HGl0.out HS.out.fr 2 rfl, Gl.cell HGl0.out HS.out.fr 3 rfl, Gl.cell HGl0.out HS.out.fr 4 rfl⟩) (fun hHeld => ?_)
              clear hK K
              refine norm_ (a' := ?_) ?_ ?_
              rotate_left
              · show Act.put _ (some 29) _ = _
                simp only [Act.put, List.setIfInBounds_toArray, List.set_cons_zero, List.set_cons_succ, i64_w, i32_w]
                rfl
              obtain ⟨b2169, HA2170, H⟩ := bind_some H
              have eb2168 : ∀ w, (Op.equalIn 10000 108 (.agg #[.int .i64 t2165.1, .int .i64 t2165.2.1, .int .i64 t2165.2.2.1, .int .i64 t2165.2.2.2.1, .int .i64 t2165.2.2.2.2]) (.agg #[.int .i64 0, .int .i64 0, .int .i64 0, .int .i64 0, .int .i64 0])).run Tryd.prog w = .ok b2169 w := some_eq HA2170 ▸ run_eq_ints 9998 108 3 5 .i64 [t2165.1, t2165.2.1, t2165.2.2.1, t2165.2.2.2.1, t2165.2.2.2.2] [0, 0, 0, 0, 0] Tryd.underlying108 (by kernel_rfl) (by kernel_rfl) Tryd.underlying3 (fun _ => by kernel_rfl) rfl rfl
              refine pure_ (i := 3) (N := some 31) (v := ?_) (a' := ?_) #[true, true, true, true, false, false, false, false, false, false, false, false, false, false, false, false, false, false, false, false, false, false, false, false, false] rfl rfl (by kernel_rfl) (fun _ _ _ h => h) (Or.inl ⟨by rfl, ?_⟩) ?_ ?_
              rotate_left
              · intro w'
                go_simp
                with_reducible rfl
              rotate_left
              · simp only [Act.put, List.setIfInBounds_toArray, List.set_cons_zero, List.set_cons_succ, i64_w, i32_w]
                rfl
              refine pure_ (i := 4) (N := some 32) (v := ?_) (a' := ?_) #[true, true, true, true, true, false, false, false, false, false, false, false, false, false, false, false, false, false, false, false, false, false, false, false, false] rfl rfl (by kernel_rfl) (fun _ _ _ h => h) (Or.inl ⟨by rfl, ?_⟩) ?_ ?_
              rotate_left
              · intro w'
                go_simp
                with_reducible rfl
              rotate_left
              · simp only [Act.put, List.setIfInBounds_toArray, List.set_cons_zero, List.set_cons_succ, i64_w, i32_w]
                rfl
              by_cases c2171 : b2169 = true
              · replace H := if_yes c2171 H
                have c2171b0 : b2169 = true := c2171
                have c2171b1 : (!b2169) = false := by rw [c2171b0]; rfl
                clear c2171
                try simp only [c2171b0, Bool.not_true, Bool.not_false]
                refine pure_ (i := 5) (N := some 33) (v := ?_) (a' := ?_) #[true, true, true, true, true, true, false, false, false, false, false, false, false, false, false, false, false, false, false, false, false, false, false, false, false] rfl rfl (by kernel_rfl) (fun _ _ _ h => h) (Or.inl ⟨by rfl, ?_⟩) ?_ ?_
                rotate_left
                · intro w'
                  go_simp
                  with_reducible rfl
                rotate_left
                · simp only [Act.put, List.setIfInBounds_toArray, List.set_cons_zero, List.set_cons_succ, i64_w, i32_w]
                  rfl
                try simp only [c2171b0, Bool.not_true, Bool.not_false]
                refine take_ (i := 6) (N := some 34) (v := ?_) (a' := ?_) #[true, true, true, true, true, true, true, false, false, false, false, false, false, false, false, false, false, false, false, false, false, false, false, false, false] rfl rfl (by kernel_rfl) (fun _ _ _ h => h) (Or.inl ⟨by rfl, ?_⟩) hHeld ?_ ?_
                rotate_left
                · rintro w' hS'
                  obtain ⟨s0, s1, s2, s3, s4, s5, s6, s7, s8, s9, s10, s11⟩ := hS'
                  go_simp
                  with_reducible rfl
                rotate_left
                · simp only [Act.put, List.setIfInBounds_toArray, List.set_cons_zero, List.set_cons_succ, i64_w, i32_w]
                  rfl
                try simp only [c2171b0, Bool.not_true, Bool.not_false]
                refine pure_ (i := 7) (N := some 35) (v := ?_) (a' := ?_) #[true, true, true, true, true, true, true, true, false, false, false, false, false, false, false, false, false, false, false, false, false, false, false, false, false] rfl rfl (by kernel_rfl) (fun _ _ _ h => h) (Or.inl ⟨by rfl, ?_⟩) ?_ ?_
                rotate_left
                · intro w'
                  go_simp
                  with_reducible rfl
                rotate_left
                · simp only [Act.put, List.setIfInBounds_toArray, List.set_cons_zero, List.set_cons_succ, i64_w, i32_w]
                  rfl
                refine pure_ (i := 8) (N := some 36) (v := ?_) (a' := ?_) #[true, true, true, true, true, true, true, true, true, false, false, false, false, false, false, false, false, false, false, false, false, false, false, false, false] rfl rfl (by kernel_rfl) (fun _ _ _ h => h) (Or.inl ⟨by rfl, ?_⟩) ?_ ?_
                rotate_left
                · intro w'
                  go_simp
                  with_reducible rfl
                rotate_left
                · simp only [Act.put, List.setIfInBounds_toArray, List.set_cons_zero, List.set_cons_succ, i64_w, i32_w]
                  rfl
                refine pure_ (i := 9) (N := some 37) (v := ?_) (a' := ?_) #[true, true, true, true, true, true, true, true, true, true, false, false, false, false, false, false, false, false, false, false, false, false, false, false, false] rfl rfl (by kernel_rfl) (fun _ _ _ h => h) (Or.inl ⟨by rfl, ?_⟩) ?_ ?_
                rotate_left
                · intro w'
                  go_simp
                  with_reducible rfl
                rotate_left
                · simp only [Act.put, List.setIfInBounds_toArray, List.set_cons_zero, List.set_cons_succ, i64_w, i32_w]
                  rfl
                by_cases c2172 : a2086 ≥ 0
                · replace H := if_yes c2172 H
                  have c2172b0 : decide (0 ≤ a2086) = true := decide_eq_true c2172
                  clear c2172
                  try simp only [c2172b0, Bool.not_true, Bool.not_false]
                  refine pure_ (i := 10) (N := some 38) (v := ?_) (a' := ?_) #[true, true, true, true, true, true, true, true, true, true, true, false, false, false, false, false, false, false, false, false, false, false, false, false, false] rfl rfl (by kernel_rfl) (fun _ _ _ h => h) (Or.inl ⟨by rfl, ?_⟩) ?_ ?_
                  rotate_left
                  · intro w'
                    go_simp
                    with_reducible rfl
                  rotate_left
                  · simp only [Act.put, List.setIfInBounds_toArray, List.set_cons_zero, List.set_cons_succ, i64_w, i32_w]
                    rfl
                  try simp only [c2172b0, Bool.not_true, Bool.not_false]
                  refine take_ (i := 11) (N := some 39) (v := ?_) (a' := ?_) #[true, true, true, true, true, true, true, true, true, true, true, true, false, false, false, false, false, false, false, false, false, false, false, false, false] rfl rfl (by kernel_rfl) (fun _ _ _ h => h) (Or.inl ⟨by rfl, ?_⟩) hHeld ?_ ?_
                  rotate_left
                  · rintro w' hS'
                    obtain ⟨s0, s1, s2, s3, s4, s5, s6, s7, s8, s9, s10, s11⟩ := hS'
                    go_simp
                    with_reducible rfl
                  rotate_left
                  · simp only [Act.put, List.setIfInBounds_toArray, List.set_cons_zero, List.set_cons_succ, i64_w, i32_w]
                    rfl
                  try simp only [c2172b0, Bool.not_true, Bool.not_false]
                  refine pure_ (i := 12) (N := some 40) (v := ?_) (a' := ?_) #[true, true, true, true, true, true, true, true, true, true, true, true, true, false, false, false, false, false, false, false, false, false, false, false, false] rfl rfl (by kernel_rfl) (fun _ _ _ h => h) (Or.inl ⟨by rfl, ?_⟩) ?_ ?_
                  rotate_left
                  · intro w'
                    go_simp
                    with_reducible rfl
                  rotate_left
                  · simp only [Act.put, List.setIfInBounds_toArray, List.set_cons_zero, List.set_cons_succ, i64_w, i32_w]
                    rfl
                  refine pure_ (i := 13) (N := some 41) (v := ?_) (a' := ?_) #[true, true, true, true, true, true, true, true, true, true, true, true, true, true, false, false, false, false, false, false, false, false, false, false, false] rfl rfl (by kernel_rfl) (fun _ _ _ h => h) (Or.inl ⟨by rfl, ?_⟩) ?_ ?_
                  rotate_left
                  · intro w'
                    go_simp
                    with_reducible rfl
                  rotate_left
                  · simp only [Act.put, List.setIfInBounds_toArray, List.set_cons_zero, List.set_cons_succ, i64_w, i32_w]
                    rfl
                  refine pure_ (i := 14) (N := some 42) (v := ?_) (a' := ?_) #[true, true, true, true, true, true, true, true, true, true, true, true, true, true, true, false, false, false, false, false, false, false, false, false, false] rfl rfl (by kernel_rfl) (fun _ _ _ h => h) (Or.inl ⟨by rfl, ?_⟩) ?_ ?_
                  rotate_left
                  · intro w'
                    go_simp
                    with_reducible rfl
                  rotate_left
                  · simp only [Act.put, List.setIfInBounds_toArray, List.set_cons_zero, List.set_cons_succ, i64_w, i32_w]
                    rfl
                  by_cases c2173 : a2086 < 1048576
                  · replace H := if_yes c2173 H
                    have c2173b0 : decide (a2086 < 1048576) = true := decide_eq_true c2173
                    clear c2173
                    try simp only [c2173b0, Bool.not_true, Bool.not_false]
                    refine pure_ (i := 15) (N := some 43) (v := ?_) (a' := ?_) #[true, true, true, true, true, true, true, true, true, true, true, true, true, true, true, true, false, false, false, false, false, false, false, false, false] rfl rfl (by kernel_rfl) (fun _ _ _ h => h) (Or.inl ⟨by rfl, ?_⟩) ?_ ?_
                    rotate_left
                    · intro w'
                      go_simp
                      with_reducible rfl
                    rotate_left
                    · simp only [Act.put, List.setIfInBounds_toArray, List.set_cons_zero, List.set_cons_succ, i64_w, i32_w]
                      rfl
                    try simp only [c2173b0, Bool.not_true, Bool.not_false]
                    refine take_ (i := 16) (N := some 44) (v := ?_) (a' := ?_) #[true, true, true, true, true, true, true, true, true, true, true, true, true, true, true, true, true, false, false, false, false, false, false, false, false] rfl rfl (by kernel_rfl) (fun _ _ _ h => h) (Or.inl ⟨by rfl, ?_⟩) hHeld ?_ ?_
                    rotate_left
                    · rintro w' hS'
                      obtain ⟨s0, s1, s2, s3, s4, s5, s6, s7, s8, s9, s10, s11⟩ := hS'
                      go_simp
                      with_reducible rfl
                    rotate_left
                    · simp only [Act.put, List.setIfInBounds_toArray, List.set_cons_zero, List.set_cons_succ, i64_w, i32_w]
                      rfl
                    try simp only [c2173b0, Bool.not_true, Bool.not_false]
                    refine pure_ (i := 17) (N := some 45) (v := ?_) (a' := ?_) #[true, true, true, true, true, true, true, true, true, true, true, true, true, true, true, true, true, true, false, false, false, false, false, false, false] rfl rfl (by kernel_rfl) (fun _ _ _ h => h) (Or.inl ⟨by rfl, ?_⟩) ?_ ?_
                    rotate_left
                    · intro w'
                      go_simp
                      with_reducible rfl
                    rotate_left
                    · simp only [Act.put, List.setIfInBounds_toArray, List.set_cons_zero, List.set_cons_succ, i64_w, i32_w]
                      rfl
                    try simp only [c2173b0, Bool.not_true, Bool.not_false]
                    refine pure_ (i := 18) (N := some 46) (v := ?_) (a' := ?_) #[true, true, true, true, true, true, true, true, true, true, true, true, true, true, true, true, true, true, true, false, false, false, false, false, false] rfl rfl (by kernel_rfl) (fun _ _ _ h => h) (Or.inl ⟨by rfl, ?_⟩) ?_ ?_
                    rotate_left
                    · intro w'
                      go_simp
                      with_reducible rfl
                    rotate_left
                    · simp only [Act.put, List.setIfInBounds_toArray, List.set_cons_zero, List.set_cons_succ, i64_w, i32_w]
                      rfl
                    by_cases c2174 : a2080 = 3
                    · replace H := if_yes c2174 H
                      have c2174b0 : (a2080 == 3) = true := beq_iff_eq.mpr c2174
                      have c2174b1 : (a2080 != 3) = false := bne_eq_false_iff_eq.mpr c2174
                      clear c2174
                      try simp only [c2174b0, c2174b1, Bool.not_true, Bool.not_false]
                      refine pure_ (i := 19) (N := some 47) (v := undef) (a' := ?_) #[true, true, true, true, true, true, true, true, true, true, true, true, true, true, true, true, true, true, true, true, false, false, false, false, false] rfl rfl (by kernel_rfl) (fun _ _ _ h => h) (Or.inr ⟨by rfl, rfl⟩) ?_ ?_
                      rotate_left
                      · simp only [Act.put, List.setIfInBounds_toArray, List.set_cons_zero, List.set_cons_succ, i64_w, i32_w]
                        rfl
                      try simp only [c2174b0, c2174b1, Bool.not_true, Bool.not_false]
                      refine pure_ (i := 20) (N := some 48) (v := undef) (a' := ?_) #[true, true, true, true, true, true, true, true, true, true, true, true, true, true, true, true, true, true, true, true, true, false, false, false, false] rfl rfl (by kernel_rfl) (fun _ _ _ h => h) (Or.inr ⟨by rfl, rfl⟩) ?_ ?_
                      rotate_left
                      · simp only [Act.put, List.setIfInBounds_toArray, List.set_cons_zero, List.set_cons_succ, i64_w, i32_w]
                        rfl
                      try simp only [c2174b0, c2174b1, Bool.not_true, Bool.not_false]
                      refine pure_ (i := 21) (N := some 49) (v := undef) (a' := ?_) #[true, true, true, true, true, true, true, true, true, true, true, true, true, true, true, true, true, true, true, true, true, true, false, false, false] rfl rfl (by kernel_rfl) (fun _ _ _ h => h) (Or.inr ⟨by rfl, rfl⟩) ?_ ?_
                      rotate_left
                      · simp only [Act.put, List.setIfInBounds_toArray, List.set_cons_zero, List.set_cons_succ, i64_w, i32_w]
                        rfl
                      try simp only [c2173b0, Bool.not_true, Bool.not_false]
                      refine pure_ (i := 22) (N := some 50) (v := ?_) (a' := ?_) #[true, true, true, true, true, true, true, true, true, true, true, true, true, true, true, true, true, true, true, true, true, true, true, false, false] rfl rfl (by kernel_rfl) (fun _ _ _ h => h) (Or.inl ⟨by rfl, ?_⟩) ?_ ?_
                      rotate_left
                      · intro w'
                        go_simp
                        with_reducible rfl
                      rotate_left
                      · simp only [Act.put, List.setIfInBounds_toArray, List.set_cons_zero, List.set_cons_succ, i64_w, i32_w]
                        rfl
                      refine pure_ (i := 23) (N := some 51) (v := ?_) (a' := ?_) #[true, true, true, true, true, true, true, true, true, true, true, true, true, true, true, true, true, true, true, true, true, true, true, true, false] rfl rfl (by kernel_rfl) (fun _ _ _ h => h) (Or.inl ⟨by rfl, ?_⟩) ?_ ?_
                      rotate_left
                      · intro w'
                        go_simp
                        with_reducible rfl
                      rotate_left
                      · simp only [Act.put, List.setIfInBounds_toArray, List.set_cons_zero, List.set_cons_succ, i64_w, i32_w]
                        rfl
                      refine pure_ (i := 24) (N := some 2) (v := ?_) (a' := ?_) #[true, true, true, true, true, true, true, true, true, true, true, true, true, true, true, true, true, true, true, true, true, true, true, true, true] rfl rfl (by kernel_rfl) (fun _ _ _ h => h) (Or.inl ⟨by rfl, ?_⟩) ?_ ?_
                      rotate_left
                      · intro w'
                        go_simp
                        with_reducible rfl
                      rotate_left
                      · simp only [Act.put, List.setIfInBounds_toArray, List.set_cons_zero, List.set_cons_succ, i64_w, i32_w]
                        rfl
                      refine done_ (by kernel_rfl) ?_
                      replace HS : Aside0 (Sep (fps []) w [] w2167) := ⟨HS.out.sub (.cons _ .slnil)⟩
                      go_wp2_with fail
                      go_ret
                      rw [← some_eq H]
                      exact ⟨(by first | rfl | (simp [IntKind.wrap_u32]; done)), HS.out⟩
                    · replace H := if_no c2174 H
                      have c2174b0 : (a2080 == 3) = false := beq_eq_false_iff_ne.mpr c2174
                      have c2174b1 : (a2080 != 3) = true := bne_iff_ne.mpr c2174
                      clear c2174
                      try simp only [c2174b0, c2174b1, Bool.not_true, Bool.not_false]
                      refine pure_ (i := 19) (N := some 47) (v := ?_) (a' := ?_) #[true, true, true, true, true, true, true, true, true, true, true, true, true, true, true, true, true, true, true, true, false, false, false, false, false] rfl rfl (by kernel_rfl) (fun _ _ _ h => h) (Or.inl ⟨by rfl, ?_⟩) ?_ ?_
                      rotate_left
                      · intro w'
                        go_simp
                        with_reducible rfl
                      rotate_left
                      · simp only [Act.put, List.setIfInBounds_toArray, List.set_cons_zero, List.set_cons_succ, i64_w, i32_w]
                        rfl
                      try simp only [c2174b0, c2174b1, Bool.not_true, Bool.not_false]
                      refine take_ (i := 20) (N := some 48) (v := ?_) (a' := ?_) #[true, true, true, true, true, true, true, true, true, true, true, true, true, true, true, true, true, true, true, true, true, false, false, false, false] rfl rfl (by kernel_rfl) (fun _ _ _ h => h) (Or.inl ⟨by rfl, ?_⟩) hHeld ?_ ?_
                      rotate_left
                      · rintro w' hS'
                        obtain ⟨s0, s1, s2, s3, s4, s5, s6, s7, s8, s9, s10, s11⟩ := hS'
                        go_simp
                        with_reducible rfl
                      rotate_left
                      · simp only [Act.put, List.setIfInBounds_toArray, List.set_cons_zero, List.set_cons_succ, i64_w, i32_w]
                        rfl
                      try simp only [c2174b0, c2174b1, Bool.not_true, Bool.not_false]
                      refine pure_ (i := 21) (N := some 49) (v := ?_) (a' := ?_) #[true, true, true, true, true, true, true, true, true, true, true, true, true, true, true, true, true, true, true, true, true, true, false, false, false] rfl rfl (by kernel_rfl) (fun _ _ _ h => h) (Or.inl ⟨by rfl, ?_⟩) ?_ ?_
                      rotate_left
                      · intro w'
                        go_simp
                        with_reducible rfl
                      rotate_left
                      · simp only [Act.put, List.setIfInBounds_toArray, List.set_cons_zero, List.set_cons_succ, i64_w, i32_w]
                        rfl
                      try simp only [c2173b0, Bool.not_true, Bool.not_false]
                      refine pure_ (i := 22) (N := some 50) (v := ?_) (a' := ?_) #[true, true, true, true, true, true, true, true, true, true, true, true, true, true, true, true, true, true, true, true, true, true, true, false, false] rfl rfl (by kernel_rfl) (fun _ _ _ h => h) (Or.inl ⟨by rfl, ?_⟩) ?_ ?_
                      rotate_left
                      · intro w'
                        go_simp
                        with_reducible rfl
                      rotate_left
                      · simp only [Act.put, List.setIfInBounds_toArray, List.set_cons_zero, List.set_cons_succ, i64_w, i32_w]
                        rfl
                      refine pure_ (i := 23) (N := some 51) (v := ?_) (a' := ?_) #[true, true, true, true, true, true, true, true, true, true, true, true, true, true, true, true, true, true, true, true, true, true, true, true, false] rfl rfl (by kernel_rfl) (fun _ _ _ h => h) (Or.inl ⟨by rfl, ?_⟩) ?_ ?_
                      rotate_left
                      · intro w'
                        go_simp
                        with_reducible rfl
                      rotate_left
                      · simp only [Act.put, List.setIfInBounds_toArray, List.set_cons_zero, List.set_cons_succ, i64_w, i32_w]
                        rfl
                      refine pure_ (i := 24) (N := some 2) (v := ?_) (a' := ?_) #[true, true, true, true, true, true, true, true, true, true, true, true, true, true, true, true, true, true, true, true, true, true, true, true, true] rfl rfl (by kernel_rfl) (fun _ _ _ h => h) (Or.inl ⟨by rfl, ?_⟩) ?_ ?_
                      rotate_left
                      · intro w'
                        go_simp
                        with_reducible rfl
                      rotate_left
                      · simp only [Act.put, List.setIfInBounds_toArray, List.set_cons_zero, List.set_cons_succ, i64_w, i32_w]
                        rfl
                      refine done_ (by kernel_rfl) ?_
                      replace HS : Aside0 (Sep (fps []) w [] w2167) := ⟨HS.out.sub (.cons _ .slnil)⟩
                      go_wp2_with fail
                      go_ret
                      rw [← some_eq H]
                      exact ⟨(by first | rfl | (simp [IntKind.wrap_u32]; done)), HS.out⟩
                  · replace H := if_no c2173 H
                    have c2173b0 : decide (a2086 < 1048576) = false := decide_eq_false c2173
                    clear c2173
                    try simp only [c2173b0, Bool.not_true, Bool.not_false]
                    refine pure_ (i := 15) (N := some 43) (v := undef) (a' := ?_) #[true, true, true, true, true, true, true, true, true, true, true, true, true, true, true, true, false, false, false, false, false, false, false, false, false] rfl rfl (by kernel_rfl) (fun _ _ _ h => h) (Or.inr ⟨by rfl, rfl⟩) ?_ ?_
                    rotate_left
                    · simp only [Act.put, List.setIfInBounds_toArray, List.set_cons_zero, List.set_cons_succ, i64_w, i32_w]
                      rfl
                    try simp only [c2173b0, Bool.not_true, Bool.not_false]
                    refine pure_ (i := 16) (N := some 44) (v := undef) (a' := ?_) #[true, true, true, true, true, true, true, true, true, true, true, true, true, true, true, true, true, false, false, false, false, false, false, false, false] rfl rfl (by kernel_rfl) (fun _ _ _ h => h) (Or.inr ⟨by rfl, rfl⟩) ?_ ?_
                    rotate_left
                    · simp only [Act.put, List.setIfInBounds_toArray, List.set_cons_zero, List.set_cons_succ, i64_w, i32_w]
                      rfl
                    try simp only [c2173b0, Bool.not_true, Bool.not_false]
                    refine pure_ (i := 17) (N := some 45) (v := undef) (a' := ?_) #[true, true, true, true, true, true, true, true, true, true, true, true, true, true, true, true, true, true, false, false, false, false, false, false, false] rfl rfl (by kernel_rfl) (fun _ _ _ h => h) (Or.inr ⟨by rfl, rfl⟩) ?_ ?_
                    rotate_left
                    · simp only [Act.put, List.setIfInBounds_toArray, List.set_cons_zero, List.set_cons_succ, i64_w, i32_w]
                      rfl
                    try simp only [c2173b0, Bool.not_true, Bool.not_false]
                    refine pure_ (i := 18) (N := some 46) (v := undef) (a' := ?_) #[true, true, true, true, true, true, true, true, true, true, true, true, true, true, true, true, true, true, true, false, false, false, false, false, false] rfl rfl (by kernel_rfl) (fun _ _ _ h => h) (Or.inr ⟨by rfl, rfl⟩) ?_ ?_
                    rotate_left
                    · simp only [Act.put, List.setIfInBounds_toArray, List.set_cons_zero, List.set_cons_succ, i64_w, i32_w]
                      rfl
                    refine pure_ (i := 19) (N := some 47) (v := undef) (a' := ?_) #[true, true, true, true, true, true, true, true, true, true, true, true, true, true, true, true, true, true, true, true, false, false, false, false, false] rfl rfl (by kernel_rfl) (fun _ _ _ h => h) (Or.inr ⟨by rfl, rfl⟩) ?_ ?_
                    rotate_left
                    · simp only [Act.put, List.setIfInBounds_toArray, List.set_cons_zero, List.set_cons_succ, i64_w, i32_w]
                      rfl
                    refine pure_ (i := 20) (N := some 48) (v := undef) (a' := ?_) #[true, true, true, true, true, true, true, true, true, true, true, true, true, true, true, true, true, true, true, true, true, false, false, false, false] rfl rfl (by kernel_rfl) (fun _ _ _ h => h) (Or.inr ⟨by rfl, rfl⟩) ?_ ?_
                    rotate_left
                    · simp only [Act.put, List.setIfInBounds_toArray, List.set_cons_zero, List.set_cons_succ, i64_w, i32_w]
                      rfl
                    refine pure_ (i := 21) (N := some 49) (v := undef) (a' := ?_) #[true, true, true, true, true, true, true, true, true, true, true, true, true, true, true, true, true, true, true, true, true, true, false, false, false] rfl rfl (by kernel_rfl) (fun _ _ _ h => h) (Or.inr ⟨by rfl, rfl⟩) ?_ ?_
                    rotate_left
                    · simp only [Act.put, List.setIfInBounds_toArray, List.set_cons_zero, List.set_cons_succ, i64_w, i32_w]
                      rfl
                    try simp only [c2173b0, Bool.not_true, Bool.not_false]
                    refine pure_ (i := 22) (N := some 50) (v := undef) (a' := ?_) #[true, true, true, true, true, true, true, true, true, true, true, true, true, true, true, true, true, true, true, true, true, true, true, false, false] rfl rfl (by kernel_rfl) (fun _ _ _ h => h) (Or.inr ⟨by rfl, rfl⟩) ?_ ?_
                    rotate_left
                    · simp only [Act.put, List.setIfInBounds_toArray, List.set_cons_zero, List.set_cons_succ, i64_w, i32_w]
                      rfl
                    refine pure_ (i := 23) (N := some 51) (v := ?_) (a' := ?_) #[true, true, true, true, true, true, true, true, true, true, true, true, true, true, true, true, true, true, true, true, true, true, true, true, false] rfl rfl (by kernel_rfl) (fun _ _ _ h => h) (Or.inl ⟨by rfl, ?_⟩) ?_ ?_
                    rotate_left
                    · intro w'
                      go_simp
                      with_reducible rfl
                    rotate_left
                    · simp only [Act.put, List.setIfInBounds_toArray, List.set_cons_zero, List.set_cons_succ, i64_w, i32_w]
                      rfl
                    refine pure_ (i := 24) (N := some 2) (v := ?_) (a' := ?_) #[true, true, true, true, true, true, true, true, true, true, true, true, true, true, true, true, true, true, true, true, true, true, true, true, true] rfl rfl (by kernel_rfl) (fun _ _ _ h => h) (Or.inl ⟨by rfl, ?_⟩) ?_ ?_
                    rotate_left
                    · intro w'
                      go_simp
                      with_reducible rfl
                    rotate_left
                    · simp only [Act.put, List.setIfInBounds_toArray, List.set_cons_zero, List.set_cons_succ, i64_w, i32_w]
                      rfl
                    refine done_ (by kernel_rfl) ?_
                    replace HS : Aside0 (Sep (fps []) w [] w2167) := ⟨HS.out.sub (.cons _ .slnil)⟩
                    go_wp2_with fail
                    go_ret
                    rw [← some_eq H]
                    exact ⟨(by first | rfl | (simp [IntKind.wrap_u32]; done)), HS.out⟩
                · replace H := if_no c2172 H
                  have c2172b0 : decide (0 ≤ a2086) = false := decide_eq_false c2172
                  clear c2172
                  try simp only [c2172b0, Bool.not_true, Bool.not_false]
                  refine pure_ (i := 10) (N := some 38) (v := undef) (a' := ?_) #[true, true, true, true, true, true, true, true, true, true, true, false, false, false, false, false, false, false, false, false, false, false, false, false, false] rfl rfl (by kernel_rfl) (fun _ _ _ h => h) (Or.inr ⟨by rfl, rfl⟩) ?_ ?_
                  rotate_left
                  · simp only [Act.put, List.setIfInBounds_toArray, List.set_cons_zero, List.set_cons_succ, i64_w, i32_w]
                    rfl
                  try simp only [c2172b0, Bool.not_true, Bool.not_false]
                  refine pure_ (i := 11) (N := some 39) (v := undef) (a' := ?_) #[true, true, true, true, true, true, true, true, true, true, true, true, false, false, false, false, false, false, false, false, false, false, false, false, false] rfl rfl (by kernel_rfl) (fun _ _ _ h => h) (Or.inr ⟨by rfl, rfl⟩) ?_ ?_
                  rotate_left
                  · simp only [Act.put, List.setIfInBounds_toArray, List.set_cons_zero, List.set_cons_succ, i64_w, i32_w]
                    rfl
                  try simp only [c2172b0, Bool.not_true, Bool.not_false]
                  refine pure_ (i := 12) (N := some 40) (v := undef) (a' := ?_) #[true, true, true, true, true, true, true, true, true, true, true, true, true, false, false, false, false, false, false, false, false, false, false, false, false] rfl rfl (by kernel_rfl) (fun _ _ _ h => h) (Or.inr ⟨by rfl, rfl⟩) ?_ ?_
                  rotate_left
                  · simp only [Act.put, List.setIfInBounds_toArray, List.set_cons_zero, List.set_cons_succ, i64_w, i32_w]
                    rfl
                  refine pure_ (i := 13) (N := some 41) (v := ?_) (a' := ?_) #[true, true, true, true, true, true, true, true, true, true, true, true, true, true, false, false, false, false, false, false, false, false, false, false, false] rfl rfl (by kernel_rfl) (fun _ _ _ h => h) (Or.inl ⟨by rfl, ?_⟩) ?_ ?_
                  rotate_left
                  · intro w'
                    go_simp
                    with_reducible rfl
                  rotate_left
                  · simp only [Act.put, List.setIfInBounds_toArray, List.set_cons_zero, List.set_cons_succ, i64_w, i32_w]
                    rfl
                  refine pure_ (i := 14) (N := some 42) (v := ?_) (a' := ?_) #[true, true, true, true, true, true, true, true, true, true, true, true, true, true, true, false, false, false, false, false, false, false, false, false, false] rfl rfl (by kernel_rfl) (fun _ _ _ h => h) (Or.inl ⟨by rfl, ?_⟩) ?_ ?_
                  rotate_left
                  · intro w'
                    go_simp
                    with_reducible rfl
                  rotate_left
                  · simp only [Act.put, List.setIfInBounds_toArray, List.set_cons_zero, List.set_cons_succ, i64_w, i32_w]
                    rfl
                  refine pure_ (i := 15) (N := some 43) (v := undef) (a' := ?_) #[true, true, true, true, true, true, true, true, true, true, true, true, true, true, true, true, false, false, false, false, false, false, false, false, false] rfl rfl (by kernel_rfl) (fun _ _ _ h => h) (Or.inr ⟨by rfl, rfl⟩) ?_ ?_
                  rotate_left
                  · simp only [Act.put, List.setIfInBounds_toArray, List.set_cons_zero, List.set_cons_succ, i64_w, i32_w]
                    rfl
                  refine pure_ (i := 16) (N := some 44) (v := undef) (a' := ?_) #[true, true, true, true, true, true, true, true, true, true, true, true, true, true, true, true, true, false, false, false, false, false, false, false, false] rfl rfl (by kernel_rfl) (fun _ _ _ h => h) (Or.inr ⟨by rfl, rfl⟩) ?_ ?_
                  rotate_left
                  · simp only [Act.put, List.setIfInBounds_toArray, List.set_cons_zero, List.set_cons_succ, i64_w, i32_w]
                    rfl
                  refine pure_ (i := 17) (N := some 45) (v := undef) (a' := ?_) #[true, true, true, true, true, true, true, true, true, true, true, true, true, true, true, true, true, true, false, false, false, false, false, false, false] rfl rfl (by kernel_rfl) (fun _ _ _ h => h) (Or.inr ⟨by rfl, rfl⟩) ?_ ?_
                  rotate_left
                  · simp only [Act.put, List.setIfInBounds_toArray, List.set_cons_zero, List.set_cons_succ, i64_w, i32_w]
                    rfl
                  refine pure_ (i := 18) (N := some 46) (v := undef) (a' := ?_) #[true, true, true, true, true, true, true, true, true, true, true, true, true, true, true, true, true, true, true, false, false, false, false, false, false] rfl rfl (by kernel_rfl) (fun _ _ _ h => h) (Or.inr ⟨by rfl, rfl⟩) ?_ ?_
                  rotate_left
                  · simp only [Act.put, List.setIfInBounds_toArray, List.set_cons_zero, List.set_cons_succ, i64_w, i32_w]
                    rfl
                  refine pure_ (i := 19) (N := some 47) (v := undef) (a' := ?_) #[true, true, true, true, true, true, true, true, true, true, true, true, true, true, true, true, true, true, true, true, false, false, false, false, false] rfl rfl (by kernel_rfl) (fun _ _ _ h => h) (Or.inr ⟨by rfl, rfl⟩) ?_ ?_
                  rotate_left
                  · simp only [Act.put, List.setIfInBounds_toArray, List.set_cons_zero, List.set_cons_succ, i64_w, i32_w]
                    rfl
                  refine pure_ (i := 20) (N := some 48) (v := undef) (a' := ?_) #[true, true, true, true, true, true, true, true, true, true, true, true, true, true, true, true, true, true, true, true, true, false, false, false, false] rfl rfl (by kernel_rfl) (fun _ _ _ h => h) (Or.inr ⟨by rfl, rfl⟩) ?_ ?_
                  rotate_left
                  · simp only [Act.put, List.setIfInBounds_toArray, List.set_cons_zero, List.set_cons_succ, i64_w, i32_w]
                    rfl
                  refine pure_ (i := 21) (N := some 49) (v := undef) (a' := ?_) #[true, true, true, true, true, true, true, true, true, true, true, true, true, true, true, true, true, true, true, true, true, true, false, false, false] rfl rfl (by kernel_rfl) (fun _ _ _ h => h) (Or.inr ⟨by rfl, rfl⟩) ?_ ?_
                  rotate_left
                  · simp only [Act.put, List.setIfInBounds_toArray, List.set_cons_zero, List.set_cons_succ, i64_w, i32_w]
                    rfl
                  refine pure_ (i := 22) (N := some 50) (v := undef) (a' := ?_) #[true, true, true, true, true, true, true, true, true, true, true, true, true, true, true, true, true, true, true, true, true, true, true, false, false] rfl rfl (by kernel_rfl) (fun _ _ _ h => h) (Or.inr ⟨by rfl, rfl⟩) ?_ ?_
                  rotate_left
                  · simp only [Act.put, List.setIfInBounds_toArray, List.set_cons_zero, List.set_cons_succ, i64_w, i32_w]
                    rfl
                  refine pure_ (i := 23) (N := some 51) (v := ?_) (a' := ?_) #[true, true, true, true, true, true, true, true, true, true, true, true, true, true, true, true, true, true, true, true, true, true, true, true, false] rfl rfl (by kernel_rfl) (fun _ _ _ h => h) (Or.inl ⟨by rfl, ?_⟩) ?_ ?_
                  rotate_left
                  · intro w'
                    go_simp
                    with_reducible rfl
                  rotate_left
                  · simp only [Act.put, List.setIfInBounds_toArray, List.set_cons_zero, List.set_cons_succ, i64_w, i32_w]
                    rfl
                  refine pure_ (i := 24) (N := some 2) (v := ?_) (a' := ?_) #[true, true, true, true, true, true, true, true, true, true, true, true, true, true, true, true, true, true, true, true, true, true, true, true, true] rfl rfl (by kernel_rfl) (fun _ _ _ h => h) (Or.inl ⟨by rfl, ?_⟩) ?_ ?_
                  rotate_left
                  · intro w'
                    go_simp
                    with_reducible rfl
                  rotate_left
                  · simp only [Act.put, List.setIfInBounds_toArray, List.set_cons_zero, List.set_cons_succ, i64_w, i32_w]
                    rfl
                  refine done_ (by kernel_rfl) ?_
                  replace HS : Aside0 (Sep (fps []) w [] w2167) := ⟨HS.out.sub (.cons _ .slnil)⟩
                  go_wp2_with fail
                  go_ret
                  rw [← some_eq H]
                  exact ⟨(by first | rfl | (simp [IntKind.wrap_u32]; done)), HS.out⟩
              · replace H := if_no c2171 H
                have c2171b0 : b2169 = false := by simpa using c2171
                have c2171b1 : (!b2169) = true := by rw [c2171b0]; rfl
                clear c2171
                try simp only [c2171b0, Bool.not_true, Bool.not_false]
                refine pure_ (i := 5) (N := some 33) (v := undef) (a' := ?_) #[true, true, true, true, true, true, false, false, false, false, false, false, false, false, false, false, false, false, false, false, false, false, false, false, false] rfl rfl (by kernel_rfl) (fun _ _ _ h => h) (Or.inr ⟨by rfl, rfl⟩) ?_ ?_
                rotate_left
                · simp only [Act.put, List.setIfInBounds_toArray, List.set_cons_zero, List.set_cons_succ, i64_w, i32_w]
                  rfl
                try simp only [c2171b0, Bool.not_true, Bool.not_false]
                refine pure_ (i := 6) (N := some 34) (v := undef) (a' := ?_) #[true, true, true, true, true, true, true, false, false, false, false, false, false, false, false, false, false, false, false, false, false, false, false, false, false] rfl rfl (by kernel_rfl) (fun _ _ _ h => h) (Or.inr ⟨by rfl, rfl⟩) ?_ ?_
                rotate_left
                · simp only [Act.put, List.setIfInBounds_toArray, List.set_cons_zero, List.set_cons_succ, i64_w, i32_w]
                  rfl
                try simp only [c2171b0, Bool.not_true, Bool.not_false]
                refine pure_ (i := 7) (N := some 35) (v := undef) (a' := ?_) #[true, true, true, true, true, true, true, true, false, false, false, false, false, false, false, false, false, false, false, false, false, false, false, false, false] rfl rfl (by kernel_rfl) (fun _ _ _ h => h) (Or.inr ⟨by rfl, rfl⟩) ?_ ?_
                rotate_left
                · simp only [Act.put, List.setIfInBounds_toArray, List.set_cons_zero, List.set_cons_succ, i64_w, i32_w]
                  rfl
                refine pure_ (i := 8) (N := some 36) (v := ?_) (a' := ?_) #[true, true, true, true, true, true, true, true, true, false, false, false, false, false, false, false, false, false, false, false, false, false, false, false, false] rfl rfl (by kernel_rfl) (fun _ _ _ h => h) (Or.inl ⟨by rfl, ?_⟩) ?_ ?_
                rotate_left
                · intro w'
                  go_simp
                  with_reducible rfl
                rotate_left
                · simp only [Act.put, List.setIfInBounds_toArray, List.set_cons_zero, List.set_cons_succ, i64_w, i32_w]
                  rfl
                refine pure_ (i := 9) (N := some 37) (v := ?_) (a' := ?_) #[true, true, true, true, true, true, true, true, true, true, false, false, false, false, false, false, false, false, false, false, false, false, false, false, false] rfl rfl (by kernel_rfl) (fun _ _ _ h => h) (Or.inl ⟨by rfl, ?_⟩) ?_ ?_
                rotate_left
                · intro w'
                  go_simp
                  with_reducible rfl
                rotate_left
                · simp only [Act.put, List.setIfInBounds_toArray, List.set_cons_zero, List.set_cons_succ, i64_w, i32_w]
                  rfl
                refine pure_ (i := 10) (N := some 38) (v := undef) (a' := ?_) #[true, true, true, true, true, true, true, true, true, true, true, false, false, false, false, false, false, false, false, false, false, false, false, false, false] rfl rfl (by kernel_rfl) (fun _ _ _ h => h) (Or.inr ⟨by rfl, rfl⟩) ?_ ?_
                rotate_left
                · simp only [Act.put, List.setIfInBounds_toArray, List.set_cons_zero, List.set_cons_succ, i64_w, i32_w]
                  rfl
                refine pure_ (i := 11) (N := some 39) (v := undef) (a' := ?_) #[true, true, true, true, true, true, true, true, true, true, true, true, false, false, false, false, false, false, false, false, false, false, false, false, false] rfl rfl (by kernel_rfl) (fun _ _ _ h => h) (Or.inr ⟨by rfl, rfl⟩) ?_ ?_
                rotate_left
                · simp only [Act.put, List.setIfInBounds_toArray, List.set_cons_zero, List.set_cons_succ, i64_w, i32_w]
                  rfl
                refine pure_ (i := 12) (N := some 40) (v := undef) (a' := ?_) #[true, true, true, true, true, true, true, true, true, true, true, true, true, false, false, false, false, false, false, false, false, false, false, false, false] rfl rfl (by kernel_rfl) (fun _ _ _ h => h) (Or.inr ⟨by rfl, rfl⟩) ?_ ?_
                rotate_left
                · simp only [Act.put, List.setIfInBounds_toArray, List.set_cons_zero, List.set_cons_succ, i64_w, i32_w]
                  rfl
                refine pure_ (i := 13) (N := some 41) (v := ?_) (a' := ?_) #[true, true, true, true, true, true, true, true, true, true, true, true, true, true, false, false, false, false, false, false, false, false, false, false, false] rfl rfl (by kernel_rfl) (fun _ _ _ h => h) (Or.inl ⟨by rfl, ?_⟩) ?_ ?_
                rotate_left
                · intro w'
                  go_simp
                  with_reducible rfl
                rotate_left
                · simp only [Act.put, List.setIfInBounds_toArray, List.set_cons_zero, List.set_cons_succ, i64_w, i32_w]
                  rfl
                refine pure_ (i := 14) (N := some 42) (v := ?_) (a' := ?_) #[true, true, true, true, true, true, true, true, true, true, true, true, true, true, true, false, false, false, false, false, false, false, false, false, false] rfl rfl (by kernel_rfl) (fun _ _ _ h => h) (Or.inl ⟨by rfl, ?_⟩) ?_ ?_
                rotate_left
                · intro w'
                  go_simp
                  with_reducible rfl
                rotate_left
                · simp only [Act.put, List.setIfInBounds_toArray, List.set_cons_zero, List.set_cons_succ, i64_w, i32_w]
                  rfl
                refine pure_ (i := 15) (N := some 43) (v := undef) (a' := ?_) #[true, true, true, true, true, true, true, true, true, true, true, true, true, true, true, true, false, false, false, false, false, false, false, false, false] rfl rfl (by kernel_rfl) (fun _ _ _ h => h) (Or.inr ⟨by rfl, rfl⟩) ?_ ?_
                rotate_left
                · simp only [Act.put, List.setIfInBounds_toArray, List.set_cons_zero, List.set_cons_succ, i64_w, i32_w]
                  rfl
                refine pure_ (i := 16) (N := some 44) (v := undef) (a' := ?_) #[true, true, true, true, true, true, true, true, true, true, true, true, true, true, true, true, true, false, false, false, false, false, false, false, false] rfl rfl (by kernel_rfl) (fun _ _ _ h => h) (Or.inr ⟨by rfl, rfl⟩) ?_ ?_
                rotate_left
                · simp only [Act.put, List.setIfInBounds_toArray, List.set_cons_zero, List.set_cons_succ, i64_w, i32_w]
                  rfl
                refine pure_ (i := 17) (N := some 45) (v := undef) (a' := ?_) #[true, true, true, true, true, true, true, true, true, true, true, true, true, true, true, true, true, true, false, false, false, false, false, false, false] rfl rfl (by kernel_rfl) (fun _ _ _ h => h) (Or.inr ⟨by rfl, rfl⟩) ?_ ?_
                rotate_left
                · simp only [Act.put, List.setIfInBounds_toArray, List.set_cons_zero, List.set_cons_succ, i64_w, i32_w]
                  rfl
                refine pure_ (i := 18) (N := some 46) (v := undef) (a' := ?_) #[true, true, true, true, true, true, true, true, true, true, true, true, true, true, true, true, true, true, true, false, false, false, false, false, false] rfl rfl (by kernel_rfl) (fun _ _ _ h => h) (Or.inr ⟨by rfl, rfl⟩) ?_ ?_
                rotate_left
                · simp only [Act.put, List.setIfInBounds_toArray, List.set_cons_zero, List.set_cons_succ, i64_w, i32_w]
                  rfl
                refine pure_ (i := 19) (N := some 47) (v := undef) (a' := ?_) #[true, true, true, true, true, true, true, true, true, true, true, true, true, true, true, true, true, true, true, true, false, false, false, false, false] rfl rfl (by kernel_rfl) (fun _ _ _ h => h) (Or.inr ⟨by rfl, rfl⟩) ?_ ?_
                rotate_left
                · simp only [Act.put, List.setIfInBounds_toArray, List.set_cons_zero, List.set_cons_succ, i64_w, i32_w]
                  rfl
                refine pure_ (i := 20) (N := some 48) (v := undef) (a' := ?_) #[true, true, true, true, true, true, true, true, true, true, true, true, true, true, true, true, true, true, true, true, true, false, false, false, false] rfl rfl (by kernel_rfl) (fun _ _ _ h => h) (Or.inr ⟨by rfl, rfl⟩) ?_ ?_
                rotate_left
                · simp only [Act.put, List.setIfInBounds_toArray, List.set_cons_zero, List.set_cons_succ, i64_w, i32_w]
                  rfl
                refine pure_ (i := 21) (N := some 49) (v := undef) (a' := ?_) #[true, true, true, true, true, true, true, true, true, true, true, true, true, true, true, true, true, true, true, true, true, true, false, false, false] rfl rfl (by kernel_rfl) (fun _ _ _ h => h) (Or.inr ⟨by rfl, rfl⟩) ?_ ?_
                rotate_left
                · simp only [Act.put, List.setIfInBounds_toArray, List.set_cons_zero, List.set_cons_succ, i64_w, i32_w]
                  rfl
                refine pure_ (i := 22) (N := some 50) (v := undef) (a' := ?_) #[true, true, true, true, true, true, true, true, true, true, true, true, true, true, true, true, true, true, true, true, true, true, true, false, false] rfl rfl (by kernel_rfl) (fun _ _ _ h => h) (Or.inr ⟨by rfl, rfl⟩) ?_ ?_
                rotate_left
                · simp only [Act.put, List.setIfInBounds_toArray, List.set_cons_zero, List.set_cons_succ, i64_w, i32_w]
                  rfl
                refine pure_ (i := 23) (N := some 51) (v := ?_) (a' := ?_) #[true, true, true, true, true, true, true, true, true, true, true, true, true, true, true, true, true, true, true, true, true, true, true, true, false] rfl rfl (by kernel_rfl) (fun _ _ _ h => h) (Or.inl ⟨by rfl, ?_⟩) ?_ ?_
                rotate_left
                · intro w'
                  go_simp
                  with_reducible rfl
                rotate_left
                · simp only [Act.put, List.setIfInBounds_toArray, List.set_cons_zero, List.set_cons_succ, i64_w, i32_w]
                  rfl
                refine pure_ (i := 24) (N := some 2) (v := ?_) (a' := ?_) #[true, true, true, true, true, true, true, true, true, true, true, true, true, true, true, true, true, true, true, true, true, true, true, true, true] rfl rfl (by kernel_rfl) (fun _ _ _ h => h) (Or.inl ⟨by rfl, ?_⟩) ?_ ?_
                rotate_left
                · intro w'
                  go_simp
                  with_reducible rfl
                rotate_left
                · simp only [Act.put, List.setIfInBounds_toArray, List.set_cons_zero, List.set_cons_succ, i64_w, i32_w]
                  rfl
                refine done_ (by kernel_rfl) ?_
                replace HS : Aside0 (Sep (fps []) w [] w2167) := ⟨HS.out.sub (.cons _ .slnil)⟩
                go_wp2_with fail
                go_ret
                rw [← some_eq H]
                exact ⟨(by first | rfl | (simp [IntKind.wrap_u32]; done)), HS.out⟩
            · replace H := if_no c2162 H
              have c2162b0 : (a2080 == 0) = false := beq_eq_false_iff_ne.mpr c2162
              have c2162b1 : (a2080 != 0) = true := bne_iff_ne.mpr c2162
              clear c2162
              by_cases c2175 : a2080 = 3
              · replace H := if_yes c2175 H
                have c2175b0 : (a2080 == 3) = true := beq_iff_eq.mpr c2175
                have c2175b1 : (a2080 != 3) = false := bne_eq_false_iff_eq.mpr c2175
                clear c2175
                have hc2157 : w2148.cell? ⟨g2087, 0, none⟩ = some (.int .i64 a2080) := blk_cellv (HS.out.at0) 0 rfl
                go_wp2_with fail
                clear hc2157
                refine start_ (n := 25) (S := (fun w' => w'.cell? ⟨g2087, 0, none⟩ = some (.int .i64 a2080) ∧ w'.cell? ⟨g2087, 1, none⟩ = some (.int .i64 a2081) ∧ w'.cell? ⟨g2087, 2, none⟩ = some (.int .i64 a2082) ∧ w'.cell? ⟨g2087, 3, none⟩ = some (.int .i64 a2083) ∧ w'.cell? ⟨g2087, 4, none⟩ = some (.int .i64 a2084) ∧ w'.cell? ⟨g2087, 5, none⟩ = some (.int .i64 a2085) ∧ w'.cell? ⟨g2087, 6, none⟩ = some (.int .i64 a2086) ∧ w'.cell? ⟨0, 0, none⟩ = some (.int .i64 0) ∧ w'.cell? ⟨0, 1, none⟩ = some (.int .i64 0) ∧ w'.cell? ⟨0, 2, none⟩ = some (.int .i64 0) ∧ w'.cell? ⟨0, 3, none⟩ = some (.int .i64 0) ∧ w'.cell? ⟨0, 4, none⟩ = some (.int .i64 0))) (ds := []) #[false, false, false, false, false, false, false, false, false, false, false, false, false, false, false, false, false, false, false, false, false, false, false, false, false] (by kernel_rfl) rfl rfl (⟨blk_cellv ((HS.out.drew).at0) 0 rfl, blk_cellv ((HS.out.drew).at0) 1 rfl, blk_cellv ((HS.out.drew).at0) 2 rfl, blk_cellv ((HS.out.drew).at0) 3 rfl, blk_cellv ((HS.out.drew).at0) 4 rfl, blk_cellv ((HS.out.drew).at0) 5 rfl, blk_cellv ((HS.out.drew).at0) 6 rfl, Gl.cell HGl0.out (HS.out.drew).fr 0 rfl, Gl.cell HGl0.out (HS.out.drew).fr 1 rfl, Gl.cell HGl0.out (HS.out.drew).fr 2 rfl, Gl.cell HGl0.out (HS.out.drew).fr 3 rfl, Gl.cell HGl0.out (HS.out.drew).fr 4 rfl⟩) (fun hHeld => ?_)
                have HS_ := Aside0.mk HS.out.drew
                clear HS
                generalize World.drew _ = w2177 at HS_ hHeld ⊢
                have HS := HS_
                clear HS_
                refine take_ (i := 0) (N := some 28) (v := ?_) (a' := ?_) #[true, false, false, false, false, false, false, false, false, false, false, false, false, false, false, false, false, false, false, false, false, false, false, false, false] rfl rfl (by kernel_rfl) (fun _ _ _ h => h) (Or.inl ⟨by rfl, ?_⟩) hHeld ?_ ?_
                rotate_left
                · rintro w' hS'
                  obtain ⟨s0, s1, s2, s3, s4, s5, s6, s7, s8, s9, s10, s11⟩ := hS'
                  go_simp
                  with_reducible rfl
                rotate_left
                · simp only [Act.put, List.setIfInBounds_toArray, List.set_cons_zero, List.set_cons_succ, i64_w, i32_w]
                  rfl
                refine take_ (i := 2) (N := some 30) (v := ?_) (a' := ?_) #[true, false, true, false, false, false, false, false, false, false, false, false, false, false, false, false, false, false, false, false, false, false, false, false, false] rfl rfl (by kernel_rfl) (fun _ _ _ h => h) (Or.inl ⟨by rfl, ?_⟩) hHeld ?_ ?_
                rotate_left
                · rintro w' hS'
                  obtain ⟨s0, s1, s2, s3, s4, s5, s6, s7, s8, s9, s10, s11⟩ := hS'
                  go_simp
                  with_reducible rfl
                rotate_left
                · simp only [Act.put, List.setIfInBounds_toArray, List.set_cons_zero, List.set_cons_succ, i64_w, i32_w]
                  rfl
                refine one_ (i := 1) (N := some 29) #[true, true, true, false, false, false, false, false, false, false, false, false, false, false, false, false, false, false, false, false, false, false, false, false, false] rfl rfl (by kernel_rfl) (by decide) (fun K hK => ?_)
                obtain ⟨t2165, HA2178, H⟩ := bind_some H
                refine goes_ Tryd.func68 (by kernel_rfl) rfl #[.agg #[.int .i64 a2080, .int .i64 a2081, .int .i64 a2082, .int .i64 a2083, .int .i64 a2084, .int .i64 a2085, .int .i64 a2086]] (by rfl) rfl rfl (by (try simp only [List.map_toArray, List.map_cons, List.map_nil]); first | done | rfl) ?_
                refine (tag_marks.calls a2080 a2081 a2082 a2083 a2084 a2085 a2086 t2165 _ ⟨HGl0.out.pass (l := []) HS.out⟩ ⟨Sep.start _⟩ HA2178).mono ?_
                rintro e_ w2179 ⟨rfl, hS⟩
                replace HS : Aside0 (Sep (fps []) w [b12 g2087 a2080 a2081 a2082 a2083 a2084 a2085 a2086] w2179) := ⟨HS.out.call hS⟩
                clear hS
                refine ⟨_, rfl, ?_⟩
                refine hK.out _ _ (⟨blk_cellv (HS.out.at0) 0 rfl, blk_cellv (HS.out.at0) 1 rfl, blk_cellv (HS.out.at0) 2 rfl, blk_cellv (HS.out.at0) 3 rfl, blk_cellv (HS.out.at0) 4 rfl, blk_cellv (HS.out.at0) 5 rfl, blk_cellv (HS.out.at0) 6 rfl, Gl.cell HGl0.out HS.out.fr 0 rfl, Gl.cell HGl0.out HS.out.fr 1 rfl, Gl.cell HGl0.out HS.out.fr 2 rfl, Gl.cell HGl0.out HS.out.fr 3 rfl, Gl.cell HGl0.out HS.out.fr 4 rfl⟩) (fun hHeld => ?_)
                clear hK K
                refine norm_ (a' := ?_) ?_ ?_
                rotate_left
                · show Act.put _ (some 29) _ = _
                  simp only [Act.put, List.setIfInBounds_toArray, List.set_cons_zero, List.set_cons_succ, i64_w, i32_w]
                  rfl
                obtain ⟨b2169, HA2181, H⟩ := bind_some H
                have eb2180 : ∀ w, (Op.equalIn 10000 108 (.agg #[.int .i64 t2165.1, .int .i64 t2165.2.1, .int .i64 t2165.2.2.1, .int .i64 t2165.2.2.2.1, .int .i64 t2165.2.2.2.2]) (.agg #[.int .i64 0, .int .i64 0, .int .i64 0, .int .i64 0, .int .i64 0])).run Tryd.prog w = .ok b2169 w := some_eq HA2181 ▸ run_eq_ints 9998 108 3 5 .i64 [t2165.1, t2165.2.1, t2165.2.2.1, t2165.2.2.2.1, t2165.2.2.2.2] [0, 0, 0, 0, 0] Tryd.underlying108 (by kernel_rfl) (by kernel_rfl) Tryd.underlying3 (fun _ => by kernel_rfl) rfl rfl
                refine pure_ (i := 3) (N := some 31) (v := ?_) (a' := ?_) #[true, true, true, true, false, false, false, false, false, false, false, false, false, false, false, false, false, false, false, false, false, false, false, false, false] rfl rfl (by kernel_rfl) (fun _ _ _ h => h) (Or.inl ⟨by rfl, ?_⟩) ?_ ?_
                rotate_left
                · intro w'
                  go_simp
                  with_reducible rfl
                rotate_left
                · simp only [Act.put, List.setIfInBounds_toArray, List.set_cons_zero, List.set_cons_succ, i64_w, i32_w]
                  rfl
                refine pure_ (i := 4) (N := some 32) (v := ?_) (a' := ?_) #[true, true, true, true, true, false, false, false, false, false, false, false, false, false, false, false, false, false, false, false, false, false, false, false, false] rfl rfl (by kernel_rfl) (fun _ _ _ h => h) (Or.inl ⟨by rfl, ?_⟩) ?_ ?_
                rotate_left
                · intro w'
                  go_simp
                  with_reducible rfl
                rotate_left
                · simp only [Act.put, List.setIfInBounds_toArray, List.set_cons_zero, List.set_cons_succ, i64_w, i32_w]
                  rfl
                by_cases c2182 : b2169 = true
                · replace H := if_yes c2182 H
                  have c2182b0 : b2169 = true := c2182
                  have c2182b1 : (!b2169) = false := by rw [c2182b0]; rfl
                  clear c2182
                  try simp only [c2182b0, Bool.not_true, Bool.not_false]
                  refine pure_ (i := 5) (N := some 33) (v := ?_) (a' := ?_) #[true, true, true, true, true, true, false, false, false, false, false, false, false, false, false, false, false, false, false, false, false, false, false, false, false] rfl rfl (by kernel_rfl) (fun _ _ _ h => h) (Or.inl ⟨by rfl, ?_⟩) ?_ ?_
                  rotate_left
                  · intro w'
                    go_simp
                    with_reducible rfl
                  rotate_left
                  · simp only [Act.put, List.setIfInBounds_toArray, List.set_cons_zero, List.set_cons_succ, i64_w, i32_w]
                    rfl
                  try simp only [c2182b0, Bool.not_true, Bool.not_false]
                  refine take_ (i := 6) (N := some 34) (v := ?_) (a' := ?_) #[true, true, true, true, true, true, true, false, false, false, false, false, false, false, false, false, false, false, false, false, false, false, false, false, false] rfl rfl (by kernel_rfl) (fun _ _ _ h => h) (Or.inl ⟨by rfl, ?_⟩) hHeld ?_ ?_
                  rotate_left
                  · rintro w' hS'
                    obtain ⟨s0, s1, s2, s3, s4, s5, s6, s7, s8, s9, s10, s11⟩ := hS'
                    go_simp
                    with_reducible rfl
                  rotate_left
                  · simp only [Act.put, List.setIfInBounds_toArray, List.set_cons_zero, List.set_cons_succ, i64_w, i32_w]
                    rfl
                  try simp only [c2182b0, Bool.not_true, Bool.not_false]
                  refine pure_ (i := 7) (N := some 35) (v := ?_) (a' := ?_) #[true, true, true, true, true, true, true, true, false, false, false, false, false, false, false, false, false, false, false, false, false, false, false, false, false] rfl rfl (by kernel_rfl) (fun _ _ _ h => h) (Or.inl ⟨by rfl, ?_⟩) ?_ ?_
                  rotate_left
                  · intro w'
                    go_simp
                    with_reducible rfl
                  rotate_left
                  · simp only [Act.put, List.setIfInBounds_toArray, List.set_cons_zero, List.set_cons_succ, i64_w, i32_w]
                    rfl
                  refine pure_ (i := 8) (N := some 36) (v := ?_) (a' := ?_) #[true, true, true, true, true, true, true, true, true, false, false, false, false, false, false, false, false, false, false, false, false, false, false, false, false] rfl rfl (by kernel_rfl) (fun _ _ _ h => h) (Or.inl ⟨by rfl, ?_⟩) ?_ ?_
                  rotate_left
                  · intro w'
                    go_simp
                    with_reducible rfl
                  rotate_left
                  · simp only [Act.put, List.setIfInBounds_toArray, List.set_cons_zero, List.set_cons_succ, i64_w, i32_w]
                    rfl
                  refine pure_ (i := 9) (N := some 37) (v := ?_) (a' := ?_) #[true, true, true, true, true, true, true, true, true, true, false, false, false, false, false, false, false, false, false, false, false, false, false, false, false] rfl rfl (by kernel_rfl) (fun _ _ _ h => h) (Or.inl ⟨by rfl, ?_⟩) ?_ ?_
                  rotate_left
                  · intro w'
                    go_simp
                    with_reducible rfl
                  rotate_left
                  · simp only [Act.put, List.setIfInBounds_toArray, List.set_cons_zero, List.set_cons_succ, i64_w, i32_w]
                    rfl
                  by_cases c2183 : a2086 ≥ 0
                  · replace H := if_yes c2183 H
                    have c2183b0 : decide (0 ≤ a2086) = true := decide_eq_true c2183
                    clear c2183
                    try simp only [c2183b0, Bool.not_true, Bool.not_false]
                    refine pure_ (i := 10) (N := some 38) (v := ?_) (a' := ?_) #[true, true, true, true, true, true, true, true, true, true, true, false, false, false, false, false, false, false, false, false, false, false, false, false, false] rfl rfl (by kernel_rfl) (fun _ _ _ h => h) (Or.inl ⟨by rfl, ?_⟩) ?_ ?_
                    rotate_left
                    · intro w'
                      go_simp
                      with_reducible rfl
                    rotate_left
                    · simp only [Act.put, List.setIfInBounds_toArray, List.set_cons_zero, List.set_cons_succ, i64_w, i32_w]
                      rfl
                    try simp only [c2183b0, Bool.not_true, Bool.not_false]
                    refine take_ (i := 11) (N := some 39) (v := ?_) (a' := ?_) #[true, true, true, true, true, true, true, true, true, true, true, true, false, false, false, false, false, false, false, false, false, false, false, false, false] rfl rfl (by kernel_rfl) (fun _ _ _ h => h) (Or.inl ⟨by rfl, ?_⟩) hHeld ?_ ?_
                    rotate_left
                    · rintro w' hS'
                      obtain ⟨s0, s1, s2, s3, s4, s5, s6, s7, s8, s9, s10, s11⟩ := hS'
                      go_simp
                      with_reducible rfl
                    rotate_left
                    · simp only [Act.put, List.setIfInBounds_toArray, List.set_cons_zero, List.set_cons_succ, i64_w, i32_w]
                      rfl
                    try simp only [c2183b0, Bool.not_true, Bool.not_false]
                    refine pure_ (i := 12) (N := some 40) (v := ?_) (a' := ?_) #[true, true, true, true, true, true, true, true, true, true, true, true, true, false, false, false, false, false, false, false, false, false, false, false, false] rfl rfl (by kernel_rfl) (fun _ _ _ h => h) (Or.inl ⟨by rfl, ?_⟩) ?_ ?_
                    rotate_left
                    · intro w'
                      go_simp
                      with_reducible rfl
                    rotate_left
                    · simp only [Act.put, List.setIfInBounds_toArray, List.set_cons_zero, List.set_cons_succ, i64_w, i32_w]
                      rfl
                    refine pure_ (i := 13) (N := some 41) (v := ?_) (a' := ?_) #[true, true, true, true, true, true, true, true, true, true, true, true, true, true, false, false, false, false, false, false, false, false, false, false, false] rfl rfl (by kernel_rfl) (fun _ _ _ h => h) (Or.inl ⟨by rfl, ?_⟩) ?_ ?_
                    rotate_left
                    · intro w'
                      go_simp
                      with_reducible rfl
                    rotate_left
                    · simp only [Act.put, List.setIfInBounds_toArray, List.set_cons_zero, List.set_cons_succ, i64_w, i32_w]
                      rfl
                    refine pure_ (i := 14) (N := some 42) (v := ?_) (a' := ?_) #[true, true, true, true, true, true, true, true, true, true, true, true, true, true, true, false, false, false, false, false, false, false, false, false, false] rfl rfl (by kernel_rfl) (fun _ _ _ h => h) (Or.inl ⟨by rfl, ?_⟩) ?_ ?_
                    rotate_left
                    · intro w'
                      go_simp
                      with_reducible rfl
                    rotate_left
                    · simp only [Act.put, List.setIfInBounds_toArray, List.set_cons_zero, List.set_cons_succ, i64_w, i32_w]
                      rfl
                    by_cases c2184 : a2086 < 1048576
                    · replace H := if_yes c2184 H
                      have c2184b0 : decide (a2086 < 1048576) = true := decide_eq_true c2184
                      clear c2184
                      try simp only [c2184b0, Bool.not_true, Bool.not_false]
                      refine pure_ (i := 15) (N := some 43) (v := ?_) (a' := ?_) #[true, true, true, true, true, true, true, true, true, true, true, true, true, true, true, true, false, false, false, false, false, false, false, false, false] rfl rfl (by kernel_rfl) (fun _ _ _ h => h) (Or.inl ⟨by rfl, ?_⟩) ?_ ?_
                      rotate_left
                      · intro w'
                        go_simp
                        with_reducible rfl
                      rotate_left
                      · simp only [Act.put, List.setIfInBounds_toArray, List.set_cons_zero, List.set_cons_succ, i64_w, i32_w]
                        rfl
                      try simp only [c2184b0, Bool.not_true, Bool.not_false]
                      refine take_ (i := 16) (N := some 44) (v := ?_) (a' := ?_) #[true, true, true, true, true, true, true, true, true, true, true, true, true, true, true, true, true, false, false, false, false, false, false, false, false] rfl rfl (by kernel_rfl) (fun _ _ _ h => h) (Or.inl ⟨by rfl, ?_⟩) hHeld ?_ ?_
                      rotate_left
                      · rintro w' hS'
                        obtain ⟨s0, s1, s2, s3, s4, s5, s6, s7, s8, s9, s10, s11⟩ := hS'
                        go_simp
                        with_reducible rfl
                      rotate_left
                      · simp only [Act.put, List.setIfInBounds_toArray, List.set_cons_zero, List.set_cons_succ, i64_w, i32_w]
                        rfl
                      try simp only [c2184b0, Bool.not_true, Bool.not_false]
                      refine pure_ (i := 17) (N := some 45) (v := ?_) (a' := ?_) #[true, true, true, true, true, true, true, true, true, true, true, true, true, true, true, true, true, true, false, false, false, false, false, false, false] rfl rfl (by kernel_rfl) (fun _ _ _ h => h) (Or.inl ⟨by rfl, ?_⟩) ?_ ?_
                      rotate_left
                      · intro w'
                        go_simp
                        with_reducible rfl
                      rotate_left
                      · simp only [Act.put, List.setIfInBounds_toArray, List.set_cons_zero, List.set_cons_succ, i64_w, i32_w]
                        rfl
                      try simp only [c2184b0, Bool.not_true, Bool.not_false]
                      refine pure_ (i := 18) (N := some 46) (v := ?_) (a' := ?_) #[true, true, true, true, true, true, true, true, true, true, true, true, true, true, true, true, true, true, true, false, false, false, false, false, false] rfl rfl (by kernel_rfl) (fun _ _ _ h => h) (Or.inl ⟨by rfl, ?_⟩) ?_ ?_
                      rotate_left
                      · intro w'
                        go_simp
                        with_reducible rfl
                      rotate_left
                      · simp only [Act.put, List.setIfInBounds_toArray, List.set_cons_zero, List.set_cons_succ, i64_w, i32_w]
                        rfl
                      try simp only [c2175b0, c2175b1, Bool.not_true, Bool.not_false]
                      refine pure_ (i := 19) (N := some 47) (v := undef) (a' := ?_) #[true, true, true, true, true, true, true, true, true, true, true, true, true, true, true, true, true, true, true, true, false, false, false, false, false] rfl rfl (by kernel_rfl) (fun _ _ _ h => h) (Or.inr ⟨by rfl, rfl⟩) ?_ ?_
                      rotate_left
                      · simp only [Act.put, List.setIfInBounds_toArray, List.set_cons_zero, List.set_cons_succ, i64_w, i32_w]
                        rfl
                      try simp only [c2175b0, c2175b1, Bool.not_true, Bool.not_false]
                      refine pure_ (i := 20) (N := some 48) (v := undef) (a' := ?_) #[true, true, true, true, true, true, true, true, true, true, true, true, true, true, true, true, true, true, true, true, true, false, false, false, false] rfl rfl (by kernel_rfl) (fun _ _ _ h => h) (Or.inr ⟨by rfl, rfl⟩) ?_ ?_
                      rotate_left
                      · simp only [Act.put, List.setIfInBounds_toArray, List.set_cons_zero, List.set_cons_succ, i64_w, i32_w]
                        rfl
                      try simp only [c2175b0, c2175b1, Bool.not_true, Bool.not_false]
                      refine pure_ (i := 21) (N := some 49) (v := undef) (a' := ?_) #[true, true, true, true, true, true, true, true, true, true, true, true, true, true, true, true, true, true, true, true, true, true, false, false, false] rfl rfl (by kernel_rfl) (fun _ _ _ h => h) (Or.inr ⟨by rfl, rfl⟩) ?_ ?_
                      rotate_left
                      · simp only [Act.put, List.setIfInBounds_toArray, List.set_cons_zero, List.set_cons_succ, i64_w, i32_w]
                        rfl
                      try simp only [c2184b0, Bool.not_true, Bool.not_false]
                      refine pure_ (i := 22) (N := some 50) (v := ?_) (a' := ?_) #[true, true, true, true, true, true, true, true, true, true, true, true, true, true, true, true, true, true, true, true, true, true, true, false, false] rfl rfl (by kernel_rfl) (fun _ _ _ h => h) (Or.inl ⟨by rfl, ?_⟩) ?_ ?_
                      rotate_left
                      · intro w'
                        go_simp
                        with_reducible rfl
                      rotate_left
                      · simp only [Act.put, List.setIfInBounds_toArray, List.set_cons_zero, List.set_cons_succ, i64_w, i32_w]
                        rfl
                      refine pure_ (i := 23) (N := some 51) (v := ?_) (a' := ?_) #[true, true, true, true, true, true, true, true, true, true, true, true, true, true, true, true, true, true, true, true, true, true, true, true, false] rfl rfl (by kernel_rfl) (fun _ _ _ h => h) (Or.inl ⟨by rfl, ?_⟩) ?_ ?_
                      rotate_left
                      · intro w'
                        go_simp
                        with_reducible rfl
                      rotate_left
                      · simp only [Act.put, List.setIfInBounds_toArray, List.set_cons_zero, List.set_cons_succ, i64_w, i32_w]
                        rfl
                      refine pure_ (i := 24) (N := some 2) (v := ?_) (a' := ?_) #[true, true, true, true, true, true, true, true, true, true, true, true, true, true, true, true, true, true, true, true, true, true, true, true, true] rfl rfl (by kernel_rfl) (fun _ _ _ h => h) (Or.inl ⟨by rfl, ?_⟩) ?_ ?_
                      rotate_left
                      · intro w'
                        go_simp
                        with_reducible rfl
                      rotate_left
                      · simp only [Act.put, List.setIfInBounds_toArray, List.set_cons_zero, List.set_cons_succ, i64_w, i32_w]
                        rfl
                      refine done_ (by kernel_rfl) ?_
                      replace HS : Aside0 (Sep (fps []) w [] w2179) := ⟨HS.out.sub (.cons _ .slnil)⟩
                      go_wp2_with fail
                      go_ret
                      rw [← some_eq H]
                      exact ⟨(by first | rfl | (simp [IntKind.wrap_u32]; done)), HS.out⟩
                    · replace H := if_no c2184 H
                      have c2184b0 : decide (a2086 < 1048576) = false := decide_eq_false c2184
                      clear c2184
                      try simp only [c2184b0, Bool.not_true, Bool.not_false]
                      refine pure_ (i := 15) (N := some 43) (v := undef) (a' := ?_) #[true, true, true, true, true, true, true, true, true, true, true, true, true, true, true, true, false, false, false, false, false, false, false, false, false] rfl rfl (by kernel_rfl) (fun _ _ _ h => h) (Or.inr ⟨by rfl, rfl⟩) ?_ ?_
                      rotate_left
                      · simp only [Act.put, List.setIfInBounds_toArray, List.set_cons_zero, List.set_cons_succ, i64_w, i32_w]
                        rfl
                      try simp only [c2184b0, Bool.not_true, Bool.not_false]
                      refine pure_ (i := 16) (N := some 44) (v := undef) (a' := ?_) #[true, true, true, true, true, true, true, true, true, true, true, true, true, true, true, true, true, false, false, false, false, false, false, false, false] rfl rfl (by kernel_rfl) (fun _ _ _ h => h) (Or.inr ⟨by rfl, rfl⟩) ?_ ?_
                      rotate_left
                      · simp only [Act.put, List.setIfInBounds_toArray, List.set_cons_zero, List.set_cons_succ, i64_w, i32_w]
                        rfl
                      try simp only [c2184b0, Bool.not_true, Bool.not_false]
                      refine pure_ (i := 17) (N := some 45) (v := undef) (a' := ?_) #[true, true, true, true, true, true, true, true, true, true, true, true, true, true, true, true, true, true, false, false, false, false, false, false, false] rfl rfl (by kernel_rfl) (fun _ _ _ h => h) (Or.inr ⟨by rfl, rfl⟩) ?_ ?_
                      rotate_left
                      · simp only [Act.put, List.setIfInBounds_toArray, List.set_cons_zero, List.set_cons_succ, i64_w, i32_w]
                        rfl
                      try simp only [c2184b0, Bool.not_true, Bool.not_false]
                      refine pure_ (i := 18) (N := some 46) (v := undef) (a' := ?_) #[true, true, true, true, true, true, true, true, true, true, true, true, true, true, true, true, true, true, true, false, false, false, false, false, false] rfl rfl (by kernel_rfl) (fun _ _ _ h => h) (Or.inr ⟨by rfl, rfl⟩) ?_ ?_
                      rotate_left
                      · simp only [Act.put, List.setIfInBounds_toArray, List.set_cons_zero, List.set_cons_succ, i64_w, i32_w]
                        rfl
                      refine pure_ (i := 19) (N := some 47) (v := undef) (a' := ?_) #[true, true, true, true, true, true, true, true, true, true, true, true, true, true, true, true, true, true, true, true, false, false, false, false, false] rfl rfl (by kernel_rfl) (fun _ _ _ h => h) (Or.inr ⟨by rfl, rfl⟩) ?_ ?_
                      rotate_left
                      · simp only [Act.put, List.setIfInBounds_toArray, List.set_cons_zero, List.set_cons_succ, i64_w, i32_w]
                        rfl
                      refine pure_ (i := 20) (N := some 48) (v := undef) (a' := ?_) #[true, true, true, true, true, true, true, true, true, true, true, true, true, true, true, true, true, true, true, true, true, false, false, false, false] rfl rfl (by kernel_rfl) (fun _ _ _ h => h) (Or.inr ⟨by rfl, rfl⟩) ?_ ?_
                      rotate_left
                      · simp only [Act.put, List.setIfInBounds_toArray, List.set_cons_zero, List.set_cons_succ, i64_w, i32_w]
                        rfl
                      refine pure_ (i := 21) (N := some 49) (v := undef) (a' := ?_) #[true, true, true, true, true, true, true, true, true, true, true, true, true, true, true, true, true, true, true, true, true, true, false, false, false] rfl rfl (by kernel_rfl) (fun _ _ _ h => h) (Or.inr ⟨by rfl, rfl⟩) ?_ ?_
                      rotate_left
                      · simp only [Act.put, List.setIfInBounds_toArray, List.set_cons_zero, List.set_cons_succ, i64_w, i32_w]
                        rfl
                      try simp only [c2184b0, Bool.not_true, Bool.not_false]
                      refine pure_ (i := 22) (N := some 50) (v := undef) (a' := ?_) #[true, true, true, true, true, true, true, true, true, true, true, true, true, true, true, true, true, true, true, true, true, true, true, false, false] rfl rfl (by kernel_rfl) (fun _ _ _ h => h) (Or.inr ⟨by rfl, rfl⟩) ?_ ?_
                      rotate_left
                      · simp only [Act.put, List.setIfInBounds_toArray, List.set_cons_zero, List.set_cons_succ, i64_w, i32_w]
                        rfl
                      refine pure_ (i := 23) (N := some 51) (v := ?_) (a' := ?_) #[true, true, true, true, true, true, true, true, true, true, true, true, true, true, true, true, true, true, true, true, true, true, true, true, false] rfl rfl (by kernel_rfl) (fun _ _ _ h => h) (Or.inl ⟨by rfl, ?_⟩) ?_ ?_
                      rotate_left
                      · intro w'
                        go_simp
                        with_reducible rfl
                      rotate_left
                      · simp only [Act.put, List.setIfInBounds_toArray, List.set_cons_zero, List.set_cons_succ, i64_w, i32_w]
                        rfl
                      refine pure_ (i := 24) (N := some 2) (v := ?_) (a' := ?_) #[true, true, true, true, true, true, true, true, true, true, true, true, true, true, true, true, true, true, true, true, true, true, true, true, true] rfl rfl (by kernel_rfl) (fun _ _ _ h => h) (Or.inl ⟨by rfl, ?_⟩) ?_ ?_
                      rotate_left
                      · intro w'
                        go_simp
                        with_reducible rfl
                      rotate_left
                      · simp only [Act.put, List.setIfInBounds_toArray, List.set_cons_zero, List.set_cons_succ, i64_w, i32_w]
                        rfl
                      refine done_ (by kernel_rfl) ?_
                      replace HS : Aside0 (Sep (fps []) w [] w2179) := ⟨HS.out.sub (.cons _ .slnil)⟩
                      go_wp2_with fail
                      go_ret
                      rw [← some_eq H]
                      exact ⟨(by first | rfl | (simp [IntKind.wrap_u32]; done)), HS.out⟩
                  · replace H := if_no c2183 H
                    have c2183b0 : decide (0 ≤ a2086) = false := decide_eq_false c2183
                    clear c2183
                    try simp only [c2183b0, Bool.not_true, Bool.not_false]
                    refine pure_ (i := 10) (N := some 38) (v := undef) (a' := ?_) #[true, true, true, true, true, true, true, true, true, true, true, false, false, false, false, false, false, false, false, false, false, false, false, false, false] rfl rfl (by kernel_rfl) (fun _ _ _ h => h) (Or.inr ⟨by rfl, rfl⟩) ?_ ?_
                    rotate_left
                    · simp only [Act.put, List.setIfInBounds_toArray, List.set_cons_zero, List.set_cons_succ, i64_w, i32_w]
                      rfl
                    try simp only [c2183b0, Bool.not_true, Bool.not_false]
                    refine pure_ (i := 11) (N := some 39) (v := undef) (a' := ?_) #[true, true, true, true, true, true, true, true, true, true, true, true, false, false, false, false, false, false, false, false, false, false, false, false, false] rfl rfl (by kernel_rfl) (fun _ _ _ h => h) (Or.inr ⟨by rfl, rfl⟩) ?_ ?_
                    rotate_left
                    · simp only [Act.put, List.setIfInBounds_toArray, List.set_cons_zero, List.set_cons_succ, i64_w, i32_w]
                      rfl
                    try simp only [c2183b0, Bool.not_true, Bool.not_false]
                    refine pure_ (i := 12) (N := some 40) (v := undef) (a' := ?_) #[true, true, true, true, true, true, true, true, true, true, true, true, true, false, false, false, false, false, false, false, false, false, false, false, false] rfl rfl (by kernel_rfl) (fun _ _ _ h => h) (Or.inr ⟨by rfl, rfl⟩) ?_ ?_
                    rotate_left
                    · simp only [Act.put, List.setIfInBounds_toArray, List.set_cons_zero, List.set_cons_succ, i64_w, i32_w]
                      rfl
                    refine pure_ (i := 13) (N := some 41) (v := ?_) (a' := ?_) #[true, true, true, true, true, true, true, true, true, true, true, true, true, true, false, false, false, false, false, false, false, false, false, false, false] rfl rfl (by kernel_rfl) (fun _ _ _ h => h) (Or.inl ⟨by rfl, ?_⟩) ?_ ?_
                    rotate_left
                    · intro w'
                      go_simp
                      with_reducible rfl
                    rotate_left
                    · simp only [Act.put, List.setIfInBounds_toArray, List.set_cons_zero, List.set_cons_succ, i64_w, i32_w]
                      rfl
                    refine pure_ (i := 14) (N := some 42) (v := ?_) (a' := ?_) #[true, true, true, true, true, true, true, true, true, true, true, true, true, true, true, false, false, false, false, false, false, false, false, false, false] rfl rfl (by kernel_rfl) (fun _ _ _ h => h) (Or.inl ⟨by rfl, ?_⟩) ?_ ?_
                    rotate_left
                    · intro w'
                      go_simp
                      with_reducible rfl
                    rotate_left
                    · simp only [Act.put, List.setIfInBounds_toArray, List.set_cons_zero, List.set_cons_succ, i64_w, i32_w]
                      rfl
                    refine pure_ (i := 15) (N := some 43) (v := undef) (a' := ?_) #[true, true, true, true, true, true, true, true, true, true, true, true, true, true, true, true, false, false, false, false, false, false, false, false, false] rfl rfl (by kernel_rfl) (fun _ _ _ h => h) (Or.inr ⟨by rfl, rfl⟩) ?_ ?_
                    rotate_left
                    · simp only [Act.put, List.setIfInBounds_toArray, List.set_cons_zero, List.set_cons_succ, i64_w, i32_w]
                      rfl
                    refine pure_ (i := 16) (N := some 44) (v := undef) (a' := ?_) #[true, true, true, true, true, true, true, true, true, true, true, true, true, true, true, true, true, false, false, false, false, false, false, false, false] rfl rfl (by kernel_rfl) (fun _ _ _ h => h) (Or.inr ⟨by rfl, rfl⟩) ?_ ?_
                    rotate_left
                    · simp only [Act.put, List.setIfInBounds_toArray, List.set_cons_zero, List.set_cons_succ, i64_w, i32_w]
                      rfl
                    refine pure_ (i := 17) (N := some 45) (v := undef) (a' := ?_) #[true, true, true, true, true, true, true, true, true, true, true, true, true, true, true, true, true, true, false, false, false, false, false, false, false] rfl rfl (by kernel_rfl) (fun _ _ _ h => h) (Or.inr ⟨by rfl, rfl⟩) ?_ ?_
                    rotate_left
                    · simp only [Act.put, List.setIfInBounds_toArray, List.set_cons_zero, List.set_cons_succ, i64_w, i32_w]
                      rfl
                    refine pure_ (i := 18) (N := some 46) (v := undef) (a' := ?_) #[true, true, true, true, true, true, true, true, true, true, true, true, true, true, true, true, true, true, true, false, false, false, false, false, false] rfl rfl (by kernel_rfl) (fun _ _ _ h => h) (Or.inr ⟨by rfl, rfl⟩) ?_ ?_
                    rotate_left
                    · simp only [Act.put, List.setIfInBounds_toArray, List.set_cons_zero, List.set_cons_succ, i64_w, i32_w]
                      rfl
                    refine pure_ (i := 19) (N := some 47) (v := undef) (a' := ?_) #[true, true, true, true, true, true, true, true, true, true, true, true, true, true, true, true, true, true, true, true, false, false, false, false, false] rfl rfl (by kernel_rfl) (fun _ _ _ h => h) (Or.inr ⟨by rfl, rfl⟩) ?_ ?_
                    rotate_left
                    · simp only [Act.put, List.setIfInBounds_toArray, List.set_cons_zero, List.set_cons_succ, i64_w, i32_w]
                      rfl
                    refine pure_ (i := 20) (N := some 48) (v := undef) (a' := ?_) #[true, true, true, true, true, true, true, true, true, true, true, true, true, true, true, true, true, true, true, true, true, false, false, false, false] rfl rfl (by kernel_rfl) (fun _ _ _ h => h) (Or.inr ⟨by rfl, rfl⟩) ?_ ?_
                    rotate_left
                    · simp only [Act.put, List.setIfInBounds_toArray, List.set_cons_zero, List.set_cons_succ, i64_w, i32_w]
                      rfl
                    refine pure_ (i := 21) (N := some 49) (v := undef) (a' := ?_) #[true, true, true, true, true, true, true, true, true, true, true, true, true, true, true, true, true, true, true, true, true, true, false, false, false] rfl rfl (by kernel_rfl) (fun _ _ _ h => h) (Or.inr ⟨by rfl, rfl⟩) ?_ ?_
                    rotate_left
                    · simp only [Act.put, List.setIfInBounds_toArray, List.set_cons_zero, List.set_cons_succ, i64_w, i32_w]
                      rfl
                    refine pure_ (i := 22) (N := some 50) (v := undef) (a' := ?_) #[true, true, true, true, true, true, true, true, true, true, true, true, true, true, true, true, true, true, true, true, true, true, true, false, false] rfl rfl (by kernel_rfl) (fun _ _ _ h => h) (Or.inr ⟨by rfl, rfl⟩) ?_ ?_
                    rotate_left
                    · simp only [Act.put, List.setIfInBounds_toArray, List.set_cons_zero, List.set_cons_succ, i64_w, i32_w]
                      rfl
                    refine pure_ (i := 23) (N := some 51) (v := ?_) (a' := ?_) #[true, true, true, true, true, true, true, true, true, true, true, true, true, true, true, true, true, true, true, true, true, true, true, true, false] rfl rfl (by kernel_rfl) (fun _ _ _ h => h) (Or.inl ⟨by rfl, ?_⟩) ?_ ?_
                    rotate_left
                    · intro w'
                      go_simp
                      with_reducible rfl
                    rotate_left
                    · simp only [Act.put, List.setIfInBounds_toArray, List.set_cons_zero, List.set_cons_succ, i64_w, i32_w]
                      rfl
                    refine pure_ (i := 24) (N := some 2) (v := ?_) (a' := ?_) #[true, true, true, true, true, true, true, true, true, true, true, true, true, true, true, true, true, true, true, true, true, true, true, true, true] rfl rfl (by kernel_rfl) (fun _ _ _ h => h) (Or.inl ⟨by rfl, ?_⟩) ?_ ?_
                    rotate_left
                    · intro w'
                      go_simp
                      with_reducible rfl
                    rotate_left
                    · simp only [Act.put, List.setIfInBounds_toArray, List.set_cons_zero, List.set_cons_succ, i64_w, i32_w]
                      rfl
                    refine done_ (by kernel_rfl) ?_
                    replace HS : Aside0 (Sep (fps []) w [] w2179) := ⟨HS.out.sub (.cons _ .slnil)⟩
                    go_wp2_with fail
                    go_ret
                    rw [← some_eq H]
                    exact ⟨(by first | rfl | (simp [IntKind.wrap_u32]; done)), HS.out⟩
                · replace H := if_no c2182 H
                  have c2182b0 : b2169 = false := by simpa using c2182
                  have c2182b1 : (!b2169) = true := by rw [c2182b0]; rfl
                  clear c2182
                  try simp only [c2182b0, Bool.not_true, Bool.not_false]
                  refine pure_ (i := 5) (N := some 33) (v := undef) (a' := ?_) #[true, true, true, true, true, true, false, false, false, false, false, false, false, false, false, false, false, false, false, false, false, false, false, false, false] rfl rfl (by kernel_rfl) (fun _ _ _ h => h) (Or.inr ⟨by rfl, rfl⟩) ?_ ?_
                  rotate_left
                  · simp only [Act.put, List.setIfInBounds_toArray, List.set_cons_zero, List.set_cons_succ, i64_w, i32_w]
                    rfl
                  try simp only [c2182b0, Bool.not_true, Bool.not_false]
                  refine pure_ (i := 6) (N := some 34) (v := undef) (a' := ?_) #[true, true, true, true, true, true, true, false, false, false, false, false, false, false, false, false, false, false, false, false, false, false, false, false, false] rfl rfl (by kernel_rfl) (fun _ _ _ h => h) (Or.inr ⟨by rfl, rfl⟩) ?_ ?_
                  rotate_left
                  · simp only [Act.put, List.setIfInBounds_toArray, List.set_cons_zero, List.set_cons_succ, i64_w, i32_w]
                    rfl
                  try simp only [c2182b0, Bool.not_true, Bool.not_false]
                  refine pure_ (i := 7) (N := some 35) (v := undef) (a' := ?_) #[true, true, true, true, true, true, true, true, false, false, false, false, false, false, false, false, false, false, false, false, false, false, false, false, false] rfl rfl (by kernel_rfl) (fun _ _ _ h => h) (Or.inr ⟨by rfl, rfl⟩) ?_ ?_
                  rotate_left
                  · simp only [Act.put, List.setIfInBounds_toArray, List.set_cons_zero, List.set_cons_succ, i64_w, i32_w]
                    rfl
                  refine pure_ (i := 8) (N := some 36) (v := ?_) (a' := ?_) #[true, true, true, true, true, true, true, true, true, false, false, false, false, false, false, false, false, false, false, false, false, false, false, false, false] rfl rfl (by kernel_rfl) (fun _ _ _ h => h) (Or.inl ⟨by rfl, ?_⟩) ?_ ?_
                  rotate_left
                  · intro w'
                    go_simp
                    with_reducible rfl
                  rotate_left
                  · simp only [Act.put, List.setIfInBounds_toArray, List.set_cons_zero, List.set_cons_succ, i64_w, i32_w]
                    rfl
                  refine pure_ (i := 9) (N := some 37) (v := ?_) (a' := ?_) #[true, true, true, true, true, true, true, true, true, true, false, false, false, false, false, false, false, false, false, false, false, false, false, false, false] rfl rfl (by kernel_rfl) (fun _ _ _ h => h) (Or.inl ⟨by rfl, ?_⟩) ?_ ?_
                  rotate_left
                  · intro w'
                    go_simp
                    with_reducible rfl
                  rotate_left
                  · simp only [Act.put, List.setIfInBounds_toArray, List.set_cons_zero, List.set_cons_succ, i64_w, i32_w]
                    rfl
                  refine pure_ (i := 10) (N := some 38) (v := undef) (a' := ?_) #[true, true, true, true, true, true, true, true, true, true, true, false, false, false, false, false, false, false, false, false, false, false, false, false, false] rfl rfl (by kernel_rfl) (fun _ _ _ h => h) (Or.inr ⟨by rfl, rfl⟩) ?_ ?_
                  rotate_left
                  · simp only [Act.put, List.setIfInBounds_toArray, List.set_cons_zero, List.set_cons_succ, i64_w, i32_w]
                    rfl
                  refine pure_ (i := 11) (N := some 39) (v := undef) (a' := ?_) #[true, true, true, true, true, true, true, true, true, true, true, true, false, false, false, false, false, false, false, false, false, false, false, false, false] rfl rfl (by kernel_rfl) (fun _ _ _ h => h) (Or.inr ⟨by rfl, rfl⟩) ?_ ?_
                  rotate_left
                  · simp only [Act.put, List.setIfInBounds_toArray, List.set_cons_zero, List.set_cons_succ, i64_w, i32_w]
                    rfl
                  refine pure_ (i := 12) (N := some 40) (v := undef) (a' := ?_) #[true, true, true, true, true, true, true, true, true, true, true, true, true, false, false, false, false, false, false, false, false, false, false, false, false] rfl rfl (by kernel_rfl) (fun _ _ _ h => h) (Or.inr ⟨by rfl, rfl⟩) ?_ ?_
                  rotate_left
                  · simp only [Act.put, List.setIfInBounds_toArray, List.set_cons_zero, List.set_cons_succ, i64_w, i32_w]
                    rfl
                  refine pure_ (i := 13) (N := some 41) (v := ?_) (a' := ?_) #[true, true, true, true, true, true, true, true, true, true, true, true, true, true, false, false, false, false, false, false, false, false, false, false, false] rfl rfl (by kernel_rfl) (fun _ _ _ h => h) (Or.inl ⟨by rfl, ?_⟩) ?_ ?_
                  rotate_left
                  · intro w'
                    go_simp
                    with_reducible rfl
                  rotate_left
                  · simp only [Act.put, List.setIfInBounds_toArray, List.set_cons_zero, List.set_cons_succ, i64_w, i32_w]
                    rfl
                  refine pure_ (i := 14) (N := some 42) (v := ?_) (a' := ?_) #[true, true, true, true, true, true, true, true, true, true, true, true, true, true, true, false, false, false, false, false, false, false, false, false, false] rfl rfl (by kernel_rfl) (fun _ _ _ h => h) (Or.inl ⟨by rfl, ?_⟩) ?_ ?_
                  rotate_left
                  · intro w'
                    go_simp
                    with_reducible rfl
                  rotate_left
                  · simp only [Act.put, List.setIfInBounds_toArray, List.set_cons_zero, List.set_cons_succ, i64_w, i32_w]
                    rfl
                  refine pure_ (i := 15) (N := some 43) (v := undef) (a' := ?_) #[true, true, true, true, true, true, true, true, true, true, true, true, true, true, true, true, false, false, false, false, false, false, false, false, false] rfl rfl (by kernel_rfl) (fun _ _ _ h => h) (Or.inr ⟨by rfl, rfl⟩) ?_ ?_
                  rotate_left
                  · simp only [Act.put, List.setIfInBounds_toArray, List.set_cons_zero, List.set_cons_succ, i64_w, i32_w]
                    rfl
                  refine pure_ (i := 16) (N := some 44) (v := undef) (a' := ?_) #[true, true, true, true, true, true, true, true, true, true, true, true, true, true, true, true, true, false, false, false, false, false, false, false, false] rfl rfl (by kernel_rfl) (fun _ _ _ h => h) (Or.inr ⟨by rfl, rfl⟩) ?_ ?_
                  rotate_left
                  · simp only [Act.put, List.setIfInBounds_toArray, List.set_cons_zero, List.set_cons_succ, i64_w, i32_w]
                    rfl
                  refine pure_ (i := 17) (N := some 45) (v := undef) (a' := ?_) #[true, true, true, true, true, true, true, true, true, true, true, true, true, true, true, true, true, true, false, false, false, false, false, false, false] rfl rfl (by kernel_rfl) (fun _ _ _ h => h) (Or.inr ⟨by rfl, rfl⟩) ?_ ?_
                  rotate_left
                  · simp only [Act.put, List.setIfInBounds_toArray, List.set_cons_zero, List.set_cons_succ, i64_w, i32_w]
                    rfl
                  refine pure_ (i := 18) (N := some 46) (v := undef) (a' := ?_) #[true, true, true, true, true, true, true, true, true, true, true, true, true, true, true, true, true, true, true, false, false, false, false, false, false] rfl rfl (by kernel_rfl) (fun _ _ _ h => h) (Or.inr ⟨by rfl, rfl⟩) ?_ ?_
                  rotate_left
                  · simp only [Act.put, List.setIfInBounds_toArray, List.set_cons_zero, List.set_cons_succ, i64_w, i32_w]
                    rfl
                  refine pure_ (i := 19) (N := some 47) (v := undef) (a' := ?_) #[true, true, true, true, true, true, true, true, true, true, true, true, true, true, true, true, true, true, true, true, false, false, false, false, false] rfl rfl (by kernel_rfl) (fun _ _ _ h => h) (Or.inr ⟨by rfl, rfl⟩) ?_ ?_
                  rotate_left
                  · simp only [Act.put, List.setIfInBounds_toArray, List.set_cons_zero, List.set_cons_succ, i64_w, i32_w]
                    rfl
                  refine pure_ (i := 20) (N := some 48) (v := undef) (a' := ?_) #[true, true, true, true, true, true, true, true, true, true, true, true, true, true, true, true, true, true, true, true, true, false, false, false, false] rfl rfl (by kernel_rfl) (fun _ _ _ h => h) (Or.inr ⟨by rfl, rfl⟩) ?_ ?_
                  rotate_left
                  · simp only [Act.put, List.setIfInBounds_toArray, List.set_cons_zero, List.set_cons_succ, i64_w, i32_w]
                    rfl
                  refine pure_ (i := 21) (N := some 49) (v := undef) (a' := ?_) #[true, true, true, true, true, true, true, true, true, true, true, true, true, true, true, true, true, true, true, true, true, true, false, false, false] rfl rfl (by kernel_rfl) (fun _ _ _ h => h) (Or.inr ⟨by rfl, rfl⟩) ?_ ?_
                  rotate_left
                  · simp only [Act.put, List.setIfInBounds_toArray, List.set_cons_zero, List.set_cons_succ, i64_w, i32_w]
                    rfl
                  refine pure_ (i := 22) (N := some 50) (v := undef) (a' := ?_) #[true, true, true, true, true, true, true, true, true, true, true, true, true, true, true, true, true, true, true, true, true, true, true, false, false] rfl rfl (by kernel_rfl) (fun _ _ _ h => h) (Or.inr ⟨by rfl, rfl⟩) ?_ ?_
                  rotate_left
                  · simp only [Act.put, List.setIfInBounds_toArray, List.set_cons_zero, List.set_cons_succ, i64_w, i32_w]
                    rfl
                  refine pure_ (i := 23) (N := some 51) (v := ?_) (a' := ?_) #[true, true, true, true, true, true, true, true, true, true, true, true, true, true, true, true, true, true, true, true, true, true, true, true, false] rfl rfl (by kernel_rfl) (fun _ _ _ h => h) (Or.inl ⟨by rfl, ?_⟩) ?_ ?_
                  rotate_left
                  · intro w'
                    go_simp
                    with_reducible rfl
                  rotate_left
                  · simp only [Act.put, List.setIfInBounds_toArray, List.set_cons_zero, List.set_cons_succ, i64_w, i32_w]
                    rfl
                  refine pure_ (i := 24) (N := some 2) (v := ?_) (a' := ?_) #[true, true, true, true, true, true, true, true, true, true, true, true, true, true, true, true, true, true, true, true, true, true, true, true, true] rfl rfl (by kernel_rfl) (fun _ _ _ h => h) (Or.inl ⟨by rfl, ?_⟩) ?_ ?_
                  rotate_left
                  · intro w'
                    go_simp
                    with_reducible rfl
                  rotate_left
                  · simp only [Act.put, List.setIfInBounds_toArray, List.set_cons_zero, List.set_cons_succ, i64_w, i32_w]
                    rfl
                  refine done_ (by kernel_rfl) ?_
                  replace HS : Aside0 (Sep (fps []) w [] w2179) := ⟨HS.out.sub (.cons _ .slnil)⟩
                  go_wp2_with fail
                  go_ret
                  rw [← some_eq H]
                  exact ⟨(by first | rfl | (simp [IntKind.wrap_u32]; done)), HS.out⟩
              · replace H := if_no c2175 H
                have c2175b0 : (a2080 == 3) = false := beq_eq_false_iff_ne.mpr c2175
                have c2175b1 : (a2080 != 3) = true := bne_iff_ne.mpr c2175
                clear c2175
                have hc2157 : w2148.cell? ⟨g2087, 0, none⟩ = some (.int .i64 a2080) := blk_cellv (HS.out.at0) 0 rfl
                replace HS : Aside0 (Sep (fps []) w [] w2148) := ⟨HS.out.sub (.cons _ .slnil)⟩
                go_wp2_with fail
                clear hc2157
                go_ret
                rw [← some_eq H]
                exact ⟨(by first | rfl | (simp [IntKind.wrap_u32]; done)), HS.out⟩

set_option maxHeartbeats 30000000 in
set_option maxRecDepth 100000 in
theorem pack_total.calls (k : Nat) (l2278 : List Int) (A2279 : Option Addr) (n2280 : Nat) (r : Int) (w : World) (HR2281 : Aside0 (Rd (Kd.int .i64) (fps []) w A2279 l2278.length l2278)) (HGl0 : Aside0 (Gl 0 #[.int .i64 0, .int .i64 0, .int .i64 0, .int .i64 0, .int .i64 0] (fps []) w)) (HS : Aside0 (Sep (fps []) w [] w)) (H : Aside0 (pack_total.f k l2278 = some r)) :
    Calls Tryd.prog 125 #[.slice A2279 l2278.length n2280] w fun e w' => e = .returned (.int .i64 r) ∧ Sep (fps []) w [] w' := by
  unfold pack_total.f at H
  go_enter Tryd.func125, Tryd.ntmps125
  go_wp2_with fail
  obtain ⟨o2294, AL2295, H⟩ := bind_some H
  go_loopg [3, 8] k (fun kq v3 v8 wc => ∃ (x2298 : Int) (x2299 : Int), v3 = .int .i64 x2298 ∧ v8 = .int .i64 x2299 ∧ Aside0 (pack_total.lo0 kq l2278 x2298 x2299 = some o2294) ∧ Aside0 (Sep (fps []) w [] wc))
  case atStart => exact ⟨(0), (0), (by first | rfl | (simp [IntKind.wrap_u32]; done)), (by first | rfl | (simp [IntKind.wrap_u32]; done)), AL2295, ⟨HS.out⟩⟩
  case round =>
    clear AL2295 HS
    obtain ⟨x2298, x2299, rfl, rfl, AL2295, HS⟩ := hrel
    obtain ⟨w2296, rfl⟩ : ∃ x : World, x = wr := ⟨_, rfl⟩
    cases gk with
    | zero => exact absurd AL2295.out (by simp [pack_total.lo0])
    | succ k2297 =>
      have AL0 := AL2295.out
      rw [pack_total.lo0] at AL0
      clear AL2295
      have AL2295 := Aside0.mk AL0
      clear AL0
      by_cases c2300 : x2299 < (l2278.length : Int)
      · replace AL2295 := if_yes c2300 AL2295
        have c2300b0 : decide (x2299 < (l2278.length : Int)) = true := decide_eq_true c2300
        clear c2300
        by_cases c2301 : 0 ≤ x2299
        · replace AL2295 := if_yes c2301 AL2295
          have c2301b0 : decide (0 ≤ x2299) = true := decide_eq_true c2301
          have c2301p : (0 ≤ x2299) = True := eq_true c2301
          clear c2301
          have ip2302 : (x2299 < (l2278.length : Int)) = True := eq_true (of_decide_eq_true c2300b0)
          by_cases c2304 : (rd l2278 x2299) < 1
          · replace AL2295 := if_yes c2304 AL2295
            have c2304b0 : decide ((rd l2278 x2299) < 1) = true := decide_eq_true c2304
            clear c2304
            obtain ⟨hx2303a, hx2303e, hx2303⟩ := Kd.at_int (Rd.read (fun _ _ _ _ h => h) HR2281.out HS.out.fr) x2299 (of_decide_eq_true c2301b0) (of_decide_eq_true c2300b0); cases hx2303e
            go_wp2_with fail
            clear hx2303
            have ho := some_eq AL2295
            subst ho
            have H := lp_ret H
            go_ret
            rw [← some_eq H]
            exact ⟨(by first | rfl | (simp [IntKind.wrap_u32]; done)), HS.out⟩
          · replace AL2295 := if_no c2304 AL2295
            have c2304b0 : decide ((rd l2278 x2299) < 1) = false := decide_eq_false c2304
            clear c2304
            by_cases c2305 : (rd l2278 x2299) > (wrap64 (32 - x2298))
            · replace AL2295 := if_yes c2305 AL2295
              have c2305b0 : decide ((wrap64 (32 - x2298)) < (rd l2278 x2299)) = true := decide_eq_true c2305
              clear c2305
              obtain ⟨hx2303a, hx2303e, hx2303⟩ := Kd.at_int (Rd.read (fun _ _ _ _ h => h) HR2281.out HS.out.fr) x2299 (of_decide_eq_true c2301b0) (of_decide_eq_true c2300b0); cases hx2303e
              go_wp2_with fail
              clear hx2303
              have ho := some_eq AL2295
              subst ho
              have H := lp_ret H
              go_ret
              rw [← some_eq H]
              exact ⟨(by first | rfl | (simp [IntKind.wrap_u32]; done)), HS.out⟩
            · replace AL2295 := if_no c2305 AL2295
              have c2305b0 : decide ((wrap64 (32 - x2298)) < (rd l2278 x2299)) = false := decide_eq_false c2305
              clear c2305
              obtain ⟨hx2303a, hx2303e, hx2303⟩ := Kd.at_int (Rd.read (fun _ _ _ _ h => h) HR2281.out HS.out.fr) x2299 (of_decide_eq_true c2301b0) (of_decide_eq_true c2300b0); cases hx2303e
              go_wp2_with fail
              clear hx2303
              go_roundg k2297
              case measure => exact Nat.lt_succ_self _
              case rel => exact ⟨(wrap64 (x2298 + (rd l2278 x2299))), (wrap64 (x2299 + 1)), (by first | rfl | (simp [IntKind.wrap_u32]; done)), (by first | rfl | (simp [IntKind.wrap_u32]; done)), Aside0.mk AL2295.out, ⟨HS.out⟩⟩
        · replace AL2295 := if_no c2301 AL2295
          have c2301b0 : decide (0 ≤ x2299) = false := decide_eq_false c2301
          clear c2301
          exact (none_no AL2295).elim
      · replace AL2295 := if_no c2300 AL2295
        have c2300b0 : decide (x2299 < (l2278.length : Int)) = false := decide_eq_false c2300
        clear c2300
        have ho := some_eq AL2295
        subst ho
        clear AL2295
        have H := lp_out H
        go_wp2_with fail
        go_ret
        rw [← some_eq H]
        exact ⟨(by first | rfl | (simp [IntKind.wrap_u32]; done)), HS.out⟩

set_option maxHeartbeats 30000000 in
set_option maxRecDepth 100000 in
theorem pack_isPiece.calls (a2330 : Int) (a2331 : Int) (r : Bool) (w : World)  (HGl0 : Aside0 (Gl 0 #[.int .i64 0, .int .i64 0, .int .i64 0, .int .i64 0, .int .i64 0] (fps []) w)) (HS : Aside0 (Sep (fps []) w [] w)) (H : Aside0 (pack_isPiece.f a2330 a2331 = some r)) :
    Calls Tryd.prog 75 #[.int .i64 a2330, .int .i64 a2331] w fun e w' => e = .returned (.bool r) ∧ Sep (fps []) w [] w' := by
  unfold pack_isPiece.f at H
  go_enter Tryd.func75, Tryd.ntmps75
  by_cases c2332 : a2330 ≥ 0
  · replace H := if_yes c2332 H
    have c2332b0 : decide (0 ≤ a2330) = true := decide_eq_true c2332
    clear c2332
    by_cases c2333 : a2331 ≥ 1
    · replace H := if_yes c2333 H
      have c2333b0 : decide (1 ≤ a2331) = true := decide_eq_true c2333
      clear c2333
      by_cases c2334 : a2331 ≤ 32
      · replace H := if_yes c2334 H
        have c2334b0 : decide (a2331 ≤ 32) = true := decide_eq_true c2334
        clear c2334
        go_wp2_with fail
        go_ret
        rw [← some_eq H]
        exact ⟨(by first | rfl | (simp [IntKind.wrap_u32]; done)), HS.out⟩
      · replace H := if_no c2334 H
        have c2334b0 : decide (a2331 ≤ 32) = false := decide_eq_false c2334
        clear c2334
        go_wp2_with fail
        go_ret
        rw [← some_eq H]
        exact ⟨(by first | rfl | (simp [IntKind.wrap_u32]; done)), HS.out⟩
    · replace H := if_no c2333 H
      have c2333b0 : decide (1 ≤ a2331) = false := decide_eq_false c2333
      clear c2333
      go_wp2_with fail
      go_ret
      rw [← some_eq H]
      exact ⟨(by first | rfl | (simp [IntKind.wrap_u32]; done)), HS.out⟩
  · replace H := if_no c2332 H
    have c2332b0 : decide (0 ≤ a2330) = false := decide_eq_false c2332
    clear c2332
    go_wp2_with fail
    go_ret
    rw [← some_eq H]
    exact ⟨(by first | rfl | (simp [IntKind.wrap_u32]; done)), HS.out⟩

set_option maxHeartbeats 30000000 in
set_option maxRecDepth 100000 in
theorem pack_Fits.calls (a2339 : Int) (a2340 : Int) (r : Bool) (w : World)  (HGl0 : Aside0 (Gl 0 #[.int .i64 0, .int .i64 0, .int .i64 0, .int .i64 0, .int .i64 0] (fps []) w)) (HS : Aside0 (Sep (fps []) w [] w)) (H : Aside0 (pack_Fits.f a2339 a2340 = some r)) :
    Calls Tryd.prog 152 #[.int .u32 a2339, .int .i64 a2340] w fun e w' => e = .returned (.bool r) ∧ Sep (fps []) w [] w' := by
  unfold pack_Fits.f at H
  go_enter Tryd.func152, Tryd.ntmps152
  by_cases c2341 : a2340 ≥ 32
  · replace H := if_yes c2341 H
    have c2341b0 : decide (32 ≤ a2340) = true := decide_eq_true c2341
    clear c2341
    go_wp2_with fail
    go_ret
    rw [← some_eq H]
    exact ⟨(by first | rfl | (simp [IntKind.wrap_u32]; done)), HS.out⟩
  · replace H := if_no c2341 H
    have c2341b0 : decide (32 ≤ a2340) = false := decide_eq_false c2341
    clear c2341
    by_cases c2342 : a2340 < 0
    · replace H := if_yes c2342 H
      have c2342b0 : decide (a2340 < 0) = true := decide_eq_true c2342
      skip
      go_wp2_with fail
      clear c2342
      go_ret
      rw [← some_eq H]
      exact ⟨(by first | rfl | (simp [IntKind.wrap_u32]; done)), HS.out⟩
    · replace H := if_no c2342 H
      have c2342b0 : decide (a2340 < 0) = false := decide_eq_false c2342
      by_cases c2343 : 0 ≤ (IntKind.u64.wrap (a2340))
      · replace H := if_yes c2343 H
        have c2343b0 : decide (0 ≤ (IntKind.u64.wrap (a2340))) = true := decide_eq_true c2343
        skip
        skip
        go_wp2_with fail
        clear c2342 c2343
        go_ret
        rw [← some_eq H]
        exact ⟨(by first | rfl | (simp [IntKind.wrap_u32]; done)), HS.out⟩
      · replace H := if_no c2343 H
        have c2343b0 : decide (0 ≤ (IntKind.u64.wrap (a2340))) = false := decide_eq_false c2343
        exact (none_no H).elim

set_option maxHeartbeats 30000000 in
set_option maxRecDepth 100000 in
theorem pack_mask.calls (a2348 : Int) (a2349 : Int) (r : Int) (w : World)  (HGl0 : Aside0 (Gl 0 #[.int .i64 0, .int .i64 0, .int .i64 0, .int .i64 0, .int .i64 0] (fps []) w)) (HS : Aside0 (Sep (fps []) w [] w)) (H : Aside0 (pack_mask.f a2348 a2349 = some r)) :
    Calls Tryd.prog 76 #[.int .i64 a2348, .int .i64 a2349] w fun e w' => e = .returned (.int .u32 r) ∧ Sep (fps []) w [] w' := by
  unfold pack_mask.f at H
  go_enter Tryd.func76, Tryd.ntmps76
  by_cases c2350 : 0 ≤ (IntKind.u64.wrap (a2349))
  · replace H := if_yes c2350 H
    have c2350b0 : decide (0 ≤ (IntKind.u64.wrap (a2349))) = true := decide_eq_true c2350
    by_cases c2351 : 0 ≤ (IntKind.u64.wrap (a2348))
    · replace H := if_yes c2351 H
      have c2351b0 : decide (0 ≤ (IntKind.u64.wrap (a2348))) = true := decide_eq_true c2351
      skip
      skip
      go_wp2_with fail
      clear c2350 c2351
      go_ret
      rw [← some_eq H]
      exact ⟨(by first | rfl | (simp [IntKind.wrap_u32]; done)), HS.out⟩
    · replace H := if_no c2351 H
      have c2351b0 : decide (0 ≤ (IntKind.u64.wrap (a2348))) = false := decide_eq_false c2351
      exact (none_no H).elim
  · replace H := if_no c2350 H
    have c2350b0 : decide (0 ≤ (IntKind.u64.wrap (a2349))) = false := decide_eq_false c2350
    exact (none_no H).elim

set_option maxHeartbeats 30000000 in
set_option maxRecDepth 100000 in
theorem pack_Put.calls (a2326 : Int) (a2327 : Int) (a2328 : Int) (a2329 : Int) (r : Int × Int) (w : World)  (HGl0 : Aside0 (Gl 0 #[.int .i64 0, .int .i64 0, .int .i64 0, .int .i64 0, .int .i64 0] (fps []) w)) (HS : Aside0 (Sep (fps []) w [] w)) (H : Aside0 (pack_Put.f a2326 a2327 a2328 a2329 = some r)) :
    Calls Tryd.prog 126 #[.int .u32 a2326, .int .i64 a2327, .int .i64 a2328, .int .u32 a2329] w fun e w' => e = .returned (.tuple #[.int .u32 r.1, .int .i64 r.2]) ∧ Sep (fps []) w [] w' := by
  unfold pack_Put.f at H
  go_enter Tryd.func126, Tryd.ntmps126
  go_wp2_with fail
  obtain ⟨t2335, HA2336, H⟩ := bind_some H
  refine (pack_isPiece.calls a2327 a2328 t2335 _ ⟨HGl0.out.pass (l := []) HS.out⟩ ⟨Sep.start _⟩ HA2336).mono ?_
  rintro e_ w2337 ⟨rfl, hS⟩
  replace HS : Aside0 (Sep (fps []) w [] w2337) := ⟨HS.out.call hS⟩
  clear hS
  by_cases c2338 : t2335 = true
  · replace H := if_yes c2338 H
    have c2338b0 : t2335 = true := c2338
    have c2338b1 : (!t2335) = false := by rw [c2338b0]; rfl
    try rw [c2338b1]
    clear c2338
    go_wp2_with fail
    obtain ⟨t2344, HA2345, H⟩ := bind_some H
    refine (pack_Fits.calls a2329 a2328 t2344 _ ⟨HGl0.out.pass (l := []) HS.out⟩ ⟨Sep.start _⟩ HA2345).mono ?_
    rintro e_ w2346 ⟨rfl, hS⟩
    replace HS : Aside0 (Sep (fps []) w [] w2346) := ⟨HS.out.call hS⟩
    clear hS
    by_cases c2347 : t2344 = true
    · replace H := if_yes c2347 H
      have c2347b0 : t2344 = true := c2347
      have c2347b1 : (!t2344) = false := by rw [c2347b0]; rfl
      try rw [c2347b1]
      clear c2347
      go_wp2_with fail
      obtain ⟨t2352, HA2353, H⟩ := bind_some H
      refine (pack_mask.calls a2327 a2328 t2352 _ ⟨HGl0.out.pass (l := []) HS.out⟩ ⟨Sep.start _⟩ HA2353).mono ?_
      rintro e_ w2354 ⟨rfl, hS⟩
      replace HS : Aside0 (Sep (fps []) w [] w2354) := ⟨HS.out.call hS⟩
      clear hS
      by_cases c2355 : 0 ≤ (IntKind.u64.wrap (a2327))
      · replace H := if_yes c2355 H
        have c2355b0 : decide (0 ≤ (IntKind.u64.wrap (a2327))) = true := decide_eq_true c2355
        skip
        go_wp2_with fail
        clear c2355
        go_ret2
        rw [← some_eq H]
        exact ⟨(by first | rfl | (simp [IntKind.wrap_u32]; done)), HS.out⟩
      · replace H := if_no c2355 H
        have c2355b0 : decide (0 ≤ (IntKind.u64.wrap (a2327))) = false := decide_eq_false c2355
        exact (none_no H).elim
    · replace H := if_no c2347 H
      have c2347b0 : t2344 = false := by simpa using c2347
      have c2347b1 : (!t2344) = true := by rw [c2347b0]; rfl
      try rw [c2347b1]
      clear c2347
      go_wp2_with fail
      go_ret2
      rw [← some_eq H]
      exact ⟨(by first | rfl | (simp [IntKind.wrap_u32]; done)), HS.out⟩
  · replace H := if_no c2338 H
    have c2338b0 : t2335 = false := by simpa using c2338
    have c2338b1 : (!t2335) = true := by rw [c2338b0]; rfl
    try rw [c2338b1]
    clear c2338
    go_wp2_with fail
    go_ret2
    rw [← some_eq H]
    exact ⟨(by first | rfl | (simp [IntKind.wrap_u32]; done)), HS.out⟩

set_option maxHeartbeats 30000000 in
set_option maxRecDepth 100000 in
theorem pack_Join.calls (k : Nat) (l2270 : List Int) (l2274 : List Int) (A2271 : Option Addr) (n2272 : Nat) (A2275 : Option Addr) (n2276 : Nat) (r : Int × Int) (w : World) (HR2273 : Aside0 (Rd (Kd.int .u32) (fps []) w A2271 l2270.length l2270)) (HR2277 : Aside0 (Rd (Kd.int .i64) (fps []) w A2275 l2274.length l2274)) (HGl0 : Aside0 (Gl 0 #[.int .i64 0, .int .i64 0, .int .i64 0, .int .i64 0, .int .i64 0] (fps []) w)) (HS : Aside0 (Sep (fps []) w [] w)) (H : Aside0 (pack_Join.f k l2270 l2274 = some r)) :
    Calls Tryd.prog 69 #[.slice A2271 l2270.length n2272, .slice A2275 l2274.length n2276] w fun e w' => e = .returned (.tuple #[.int .u32 r.1, .int .i64 r.2]) ∧ Sep (fps []) w [] w' := by
  unfold pack_Join.f at H
  go_enter Tryd.func69, Tryd.ntmps69
  go_wp2_with fail
  obtain ⟨t2307, HA2308, H⟩ := bind_some H
  refine (pack_total.calls _ l2274 A2275 n2276 t2307 _ ⟨Rd.pass (l := []) (by decide) (fun _ _ _ _ h => h) HR2277.out HS.out⟩ ⟨HGl0.out.pass (l := []) HS.out⟩ ⟨Sep.start _⟩ HA2308).mono ?_
  rintro e_ w2309 ⟨rfl, hS⟩
  replace HS : Aside0 (Sep (fps []) w [] w2309) := ⟨HS.out.call hS⟩
  clear hS
  by_cases c2310 : t2307 < 0
  · replace H := if_yes c2310 H
    have c2310b0 : decide (t2307 < 0) = true := decide_eq_true c2310
    clear c2310
    go_wp2_with fail
    go_ret2
    rw [← some_eq H]
    exact ⟨(by first | rfl | (simp [IntKind.wrap_u32]; done)), HS.out⟩
  · replace H := if_no c2310 H
    have c2310b0 : decide (t2307 < 0) = false := decide_eq_false c2310
    clear c2310
    by_cases c2311 : (l2270.length : Int) = (l2274.length : Int)
    · replace H := if_yes c2311 H
      have c2311b0 : ((l2270.length : Int) == (l2274.length : Int)) = true := beq_iff_eq.mpr c2311
      have c2311b1 : ((l2270.length : Int) != (l2274.length : Int)) = false := bne_eq_false_iff_eq.mpr c2311
      clear c2311
      go_wp2_with fail
      obtain ⟨o2360, AL2361, H⟩ := bind_some H
      go_loopg [6, 7, 24] k (fun kq v6 v7 v24 wc => ∃ (x2364 : Int) (x2365 : Int) (x2366 : Int), v6 = .int .u32 x2364 ∧ v7 = .int .i64 x2365 ∧ v24 = .int .i64 x2366 ∧ Aside0 (pack_Join.lo0 kq l2270 l2274 x2364 x2365 x2366 = some o2360) ∧ Aside0 (Sep (fps []) w [] wc))
      case atStart => exact ⟨(0), (0), (0), (by first | rfl | (simp [IntKind.wrap_u32]; done)), (by first | rfl | (simp [IntKind.wrap_u32]; done)), (by first | rfl | (simp [IntKind.wrap_u32]; done)), AL2361, ⟨HS.out⟩⟩
      case round =>
        clear AL2361 HS
        obtain ⟨x2364, x2365, x2366, rfl, rfl, rfl, AL2361, HS⟩ := hrel
        obtain ⟨w2362, rfl⟩ : ∃ x : World, x = wr := ⟨_, rfl⟩
        cases gk with
        | zero => exact absurd AL2361.out (by simp [pack_Join.lo0])
        | succ k2363 =>
          have AL0 := AL2361.out
          rw [pack_Join.lo0] at AL0
          clear AL2361
          have AL2361 := Aside0.mk AL0
          clear AL0
          by_cases c2367 : x2366 < (l2274.length : Int)
          · replace AL2361 := if_yes c2367 AL2361
            have c2367b0 : decide (x2366 < (l2274.length : Int)) = true := decide_eq_true c2367
            clear c2367
            by_cases c2368 : 0 ≤ x2366
            · replace AL2361 := if_yes c2368 AL2361
              have c2368b0 : decide (0 ≤ x2366) = true := decide_eq_true c2368
              have c2368p : (0 ≤ x2366) = True := eq_true c2368
              clear c2368
              have ip2369 : (x2366 < (l2274.length : Int)) = True := eq_true (of_decide_eq_true c2367b0)
              by_cases c2371 : x2366 < (l2270.length : Int)
              · replace AL2361 := if_yes c2371 AL2361
                have c2371b0 : decide (x2366 < (l2270.length : Int)) = true := decide_eq_true c2371
                have c2371p : (x2366 < (l2270.length : Int)) = True := eq_true c2371
                clear c2371
                obtain ⟨hx2370a, hx2370e, hx2370⟩ := Kd.at_int (Rd.read (fun _ _ _ _ h => h) HR2277.out HS.out.fr) x2366 (of_decide_eq_true c2368b0) (of_decide_eq_true c2367b0); cases hx2370e
                obtain ⟨hx2372a, hx2372e, hx2372⟩ := Kd.at_int (Rd.read (fun _ _ _ _ h => h) HR2273.out HS.out.fr) x2366 (of_decide_eq_true c2368b0) (of_decide_eq_true c2371b0); cases hx2372e
                go_wp2_with fail
                clear hx2370 hx2372
                obtain ⟨t2356, HA2373, AL2361⟩ := bind_some AL2361
                refine (pack_Put.calls x2364 x2365 (rd l2274 x2366) (rd l2270 x2366) t2356 _ ⟨HGl0.out.pass (l := []) HS.out⟩ ⟨Sep.start _⟩ HA2373).mono ?_
                rintro e_ w2374 ⟨rfl, hS⟩
                replace HS : Aside0 (Sep (fps []) w [] w2374) := ⟨HS.out.call hS⟩
                clear hS
                by_cases c2375 : t2356.2 = 0
                · replace AL2361 := if_yes c2375 AL2361
                  have c2375b0 : (t2356.2 == 0) = true := beq_iff_eq.mpr c2375
                  have c2375b1 : (t2356.2 != 0) = false := bne_eq_false_iff_eq.mpr c2375
                  clear c2375
                  go_wp2_with fail
                  go_roundg k2363
                  case measure => exact Nat.lt_succ_self _
                  case rel => exact ⟨(t2356.1), (wrap64 (x2365 + (rd l2274 x2366))), (wrap64 (x2366 + 1)), (by first | rfl | (simp [IntKind.wrap_u32]; done)), (by first | rfl | (simp [IntKind.wrap_u32]; done)), (by first | rfl | (simp [IntKind.wrap_u32]; done)), Aside0.mk AL2361.out, ⟨HS.out⟩⟩
                · replace AL2361 := if_no c2375 AL2361
                  have c2375b0 : (t2356.2 == 0) = false := beq_eq_false_iff_ne.mpr c2375
                  have c2375b1 : (t2356.2 != 0) = true := bne_iff_ne.mpr c2375
                  clear c2375
                  go_wp2_with fail
                  have ho := some_eq AL2361
                  subst ho
                  have H := lp_ret H
                  go_ret2
                  rw [← some_eq H]
                  exact ⟨(by first | rfl | (simp [IntKind.wrap_u32]; done)), HS.out⟩
              · replace AL2361 := if_no c2371 AL2361
                have c2371b0 : decide (x2366 < (l2270.length : Int)) = false := decide_eq_false c2371
                clear c2371
                exact (none_no AL2361).elim
            · replace AL2361 := if_no c2368 AL2361
              have c2368b0 : decide (0 ≤ x2366) = false := decide_eq_false c2368
              clear c2368
              exact (none_no AL2361).elim
          · replace AL2361 := if_no c2367 AL2361
            have c2367b0 : decide (x2366 < (l2274.length : Int)) = false := decide_eq_false c2367
            clear c2367
            have ho := some_eq AL2361
            subst ho
            clear AL2361
            have H := lp_out H
            go_wp2_with fail
            go_ret2
            rw [← some_eq H]
            exact ⟨(by first | rfl | (simp [IntKind.wrap_u32]; done)), HS.out⟩
    · replace H := if_no c2311 H
      have c2311b0 : ((l2270.length : Int) == (l2274.length : Int)) = false := beq_eq_false_iff_ne.mpr c2311
      have c2311b1 : ((l2270.length : Int) != (l2274.length : Int)) = true := bne_iff_ne.mpr c2311
      clear c2311
      go_wp2_with fail
      go_ret2
      rw [← some_eq H]
      exact ⟨(by first | rfl | (simp [IntKind.wrap_u32]; done)), HS.out⟩

set_option maxHeartbeats 30000000 in
set_option maxRecDepth 100000 in
theorem tag_Pack.calls (k : Nat) (a2063 : Int) (a2064 : Int) (a2065 : Int) (a2066 : Int) (a2067 : Int) (a2068 : Int) (a2069 : Int) (r : Int × Int) (w : World)  (HGl0 : Aside0 (Gl 0 #[.int .i64 0, .int .i64 0, .int .i64 0, .int .i64 0, .int .i64 0] (fps []) w)) (HS : Aside0 (Sep (fps []) w [] w)) (H : Aside0 (tag_Pack.f k a2063 a2064 a2065 a2066 a2067 a2068 a2069 = some r)) :
    Calls Tryd.prog 16 #[.agg #[.int .i64 a2063, .int .i64 a2064, .int .i64 a2065, .int .i64 a2066, .int .i64 a2067, .int .i64 a2068, .int .i64 a2069]] w fun e w' => e = .returned (.tuple #[.int .u32 r.1, .int .i64 r.2]) ∧ Sep (fps []) w [] w' := by
  unfold tag_Pack.f at H
  go_enter Tryd.func16, Tryd.ntmps16
  go_wp2_with (first | ((with_reducible refine gate_dst (N := 1) rfl ?_); refine box_on ?hg (N := 1) ?hd (cs := #[.int .i64 a2063, .int .i64 a2064, .int .i64 a2065, .int .i64 a2066, .int .i64 a2067, .int .i64 a2068, .int .i64 a2069]) (t := 32) ?hr ?_; (case hd => rfl); (case hg => rfl); (case hr => first | (go_simp; done) | (go_simp; rfl)); intro g2070 hg w2071 hbox hb; replace HS : Aside0 (Sep (fps []) w [b12 g2070 a2063 a2064 a2065 a2066 a2067 a2068 a2069] w2071) := ⟨HS.out.box hg hbox hb⟩; clear hg hbox hb; have hc2073 : w2071.cell? ⟨g2070, 0, none⟩ = some (.int .i64 a2063) := blk_cellv (HS.out.at0) 0 rfl; have hc2074 : w2071.cell? ⟨g2070, 1, none⟩ = some (.int .i64 a2064) := blk_cellv (HS.out.at0) 1 rfl; have hc2075 : w2071.cell? ⟨g2070, 2, none⟩ = some (.int .i64 a2065) := blk_cellv (HS.out.at0) 2 rfl; have hc2076 : w2071.cell? ⟨g2070, 3, none⟩ = some (.int .i64 a2066) := blk_cellv (HS.out.at0) 3 rfl; have hc2077 : w2071.cell? ⟨g2070, 4, none⟩ = some (.int .i64 a2067) := blk_cellv (HS.out.at0) 4 rfl; have hc2078 : w2071.cell? ⟨g2070, 5, none⟩ = some (.int .i64 a2068) := blk_cellv (HS.out.at0) 5 rfl; have hc2079 : w2071.cell? ⟨g2070, 6, none⟩ = some (.int .i64 a2069) := blk_cellv (HS.out.at0) 6 rfl))
  clear hc2073 hc2074 hc2075 hc2076 hc2077 hc2078 hc2079
  obtain ⟨t2212, HA2213, H⟩ := bind_some H
  refine (tag_Right.calls _ a2063 a2064 a2065 a2066 a2067 a2068 a2069 t2212 _ ⟨HGl0.out.pass (l := []) HS.out⟩ ⟨Sep.start _⟩ HA2213).mono ?_
  rintro e_ w2214 ⟨rfl, hS⟩
  replace HS : Aside0 (Sep (fps []) w [b12 g2070 a2063 a2064 a2065 a2066 a2067 a2068 a2069] w2214) := ⟨HS.out.call hS⟩
  clear hS
  by_cases c2215 : t2212 = true
  · replace H := if_yes c2215 H
    have c2215b0 : t2212 = true := c2215
    have c2215b1 : (!t2212) = false := by rw [c2215b0]; rfl
    try rw [c2215b1]
    clear c2215
    have hc2216 : w2214.cell? ⟨g2070, 0, none⟩ = some (.int .i64 a2063) := blk_cellv (HS.out.at0) 0 rfl
    go_wp2_with (first | ((with_reducible refine gate_dst (N := 13) rfl ?_); refine slice_on (n := 1) ?hg (N := 13) ?hd (cs := #[.int .u32 ((a2063) % 4294967296)]) (t := 33) ?hr ?_; (case hd => rfl); (case hg => rfl); (case hr => first | (go_simp; done) | (go_simp; rfl)); intro g2217 hg w2218 hbox hb; clear hc2216; replace HS : Aside0 (Sep (fps []) w [b12 g2070 a2063 a2064 a2065 a2066 a2067 a2068 a2069, b14 g2217 ((a2063) % 4294967296)] w2218) := ⟨HS.out.box hg hbox hb⟩; clear hg hbox hb; have hc2220 : w2218.cell? ⟨g2070, 0, none⟩ = some (.int .i64 a2063) := blk_cellv (HS.out.at0) 0 rfl; have hc2221 : w2218.cell? ⟨g2070, 1, none⟩ = some (.int .i64 a2064) := blk_cellv (HS.out.at0) 1 rfl; have hc2222 : w2218.cell? ⟨g2070, 2, none⟩ = some (.int .i64 a2065) := blk_cellv (HS.out.at0) 2 rfl; have hc2223 : w2218.cell? ⟨g2070, 3, none⟩ = some (.int .i64 a2066) := blk_cellv (HS.out.at0) 3 rfl; have hc2224 : w2218.cell? ⟨g2070, 4, none⟩ = some (.int .i64 a2067) := blk_cellv (HS.out.at0) 4 rfl; have hc2225 : w2218.cell? ⟨g2070, 5, none⟩ = some (.int .i64 a2068) := blk_cellv (HS.out.at0) 5 rfl; have hc2226 : w2218.cell? ⟨g2070, 6, none⟩ = some (.int .i64 a2069) := blk_cellv (HS.out.at0) 6 rfl))
    clear hc2220 hc2221 hc2222 hc2223 hc2224 hc2225 hc2226
    obtain ⟨t2227, HA2228, H⟩ := bind_some H
    refine (tag_marks.calls a2063 a2064 a2065 a2066 a2067 a2068 a2069 t2227 _ ⟨HGl0.out.pass (l := []) HS.out⟩ ⟨Sep.start _⟩ HA2228).mono ?_
    rintro e_ w2229 ⟨rfl, hS⟩
    replace HS : Aside0 (Sep (fps []) w [b12 g2070 a2063 a2064 a2065 a2066 a2067 a2068 a2069, b14 g2217 ((a2063) % 4294967296)] w2229) := ⟨HS.out.call hS⟩
    clear hS
    go_wp2_with fail
    replace HS : Aside0 (Sep (fps []) w [b12 g2070 a2063 a2064 a2065 a2066 a2067 a2068 a2069, r6 (some ⟨g2217, 0, none⟩) 1 1 [(a2063) % 4294967296]] w2229) := ⟨Sep.litrow (l1 := [b12 g2070 a2063 a2064 a2065 a2066 a2067 a2068 a2069]) (l2 := []) (enc := Value.int .u32) (xs := [(a2063) % 4294967296]) (n := 1) HS.out rfl (by decide)⟩
    obtain ⟨o2231, AL2232, H⟩ := bind_some H
    go_loopg [4, 16] k (fun kq v4 v16 wc => ∃ (x2236 : Int) (x2237 : List Int) (A2238 : Option Addr) (m2239 : Nat) (n2240 : Nat), v4 = .slice A2238 m2239 n2240 ∧ v16 = .int .i64 x2236 ∧ Aside0 (tag_Pack.lo0 kq t2227 x2236 x2237 = some o2231) ∧ Aside0 (Sep (fps []) w [b12 g2070 a2063 a2064 a2065 a2066 a2067 a2068 a2069, r6 A2238 m2239 n2240 x2237] wc))
    case atStart => exact ⟨(0), ([(a2063) % 4294967296]), ((some ⟨g2217, 0, none⟩)), (1), (1), (by first | rfl | (simp [IntKind.wrap_u32]; done)), (by first | rfl | (simp [IntKind.wrap_u32]; done)), AL2232, ⟨HS.out⟩⟩
    case round =>
      clear AL2232 HS
      obtain ⟨x2236, x2237, A2238, m2239, n2240, rfl, rfl, AL2232, HS⟩ := hrel
      obtain ⟨w2233, rfl⟩ : ∃ x : World, x = wr := ⟨_, rfl⟩
      obtain rfl := (row_len (HS.out.at1)).symm
      cases gk with
      | zero => exact absurd AL2232.out (by simp [tag_Pack.lo0])
      | succ k2234 =>
        have AL0 := AL2232.out
        rw [tag_Pack.lo0] at AL0
        clear AL2232
        have AL2232 := Aside0.mk AL0
        clear AL0
        by_cases c2242 : x2236 < 5
        · replace AL2232 := if_yes c2242 AL2232
          have c2242b0 : decide (x2236 < 5) = true := decide_eq_true c2242
          clear c2242
          by_cases c2243 : 0 ≤ x2236
          · replace AL2232 := if_yes c2243 AL2232
            have c2243b0 : decide (0 ≤ x2236) = true := decide_eq_true c2243
            have c2243p : (0 ≤ x2236) = True := eq_true c2243
            clear c2243
            have ip2244 : (x2236 < 5) = True := eq_true (of_decide_eq_true c2242b0)
            have ix2245 : ∀ w, (Instr.index 108 (.agg #[.int .i64 t2227.1, .int .i64 t2227.2.1, .int .i64 t2227.2.2.1, .int .i64 t2227.2.2.2.1, .int .i64 t2227.2.2.2.2]) (.int .i64 x2236)).run Tryd.prog w = .ok (.int .i64 (rd [t2227.1, t2227.2.1, t2227.2.2.1, t2227.2.2.2.1, t2227.2.2.2.2] x2236)) w := run_index_ints 108 3 5 .i64 .i64 [t2227.1, t2227.2.1, t2227.2.2.1, t2227.2.2.2.1, t2227.2.2.2.2] x2236 Tryd.underlying108 (fun _ => by kernel_rfl) (fun _ => by kernel_rfl) rfl (of_decide_eq_true c2243b0) (of_decide_eq_true c2242b0)
            by_cases c2249 : x2237.length < 35184372088832
            · replace AL2232 := if_yes c2249 AL2232
              have c2249b0 : decide (x2237.length < 35184372088832) = true := decide_eq_true c2249
              clear c2249
              obtain ⟨y2253, HA2254, AL2232⟩ := bind_some AL2232
              go_wp2_with (first | ((with_reducible refine gate_dst (N := 22) rfl ?_); refine slice_on (n := 1) ?hg (N := 22) ?hd (cs := #[.int .u32 ((rd [t2227.1, t2227.2.1, t2227.2.2.1, t2227.2.2.2.1, t2227.2.2.2.2] x2236) % 4294967296)]) (t := 33) ?hr ?_; (case hd => rfl); (case hg => rfl); (case hr => first | (go_simp; done) | (go_simp; rfl)); intro g2246 hg w2247 hbox hb; replace HS : Aside0 (Sep (fps []) w [b12 g2070 a2063 a2064 a2065 a2066 a2067 a2068 a2069, r6 A2238 x2237.length n2240 x2237, b14 g2246 ((rd [t2227.1, t2227.2.1, t2227.2.2.1, t2227.2.2.2.1, t2227.2.2.2.2] x2236) % 4294967296)] w2247) := ⟨HS.out.box hg hbox hb⟩; clear hg hbox hb) | ((with_reducible refine gate_dst (N := 23) rfl ?_); refine append_event (l1 := [b12 g2070 a2063 a2064 a2065 a2066 a2067 a2068 a2069]) (l2 := [b14 g2246 ((rd [t2227.1, t2227.2.1, t2227.2.2.1, t2227.2.2.2.1, t2227.2.2.2.2] x2236) % 4294967296)]) rfl (.tmp 19) (.tmp 22) 69 33 (.int .u32 0) 4 rfl Tryd.underlying69 (by kernel_rfl) rfl (by decide) (Value.int .u32) (fun _ => rfl) (.slice A2238 x2237.length n2240) (x2237 : List Int) [(rd [t2227.1, t2227.2.1, t2227.2.2.1, t2227.2.2.2.1, t2227.2.2.2.2] x2236) % 4294967296] ⟨g2246, 0, none⟩ 1 rfl rfl (blk_news (xs := [(rd [t2227.1, t2227.2.1, t2227.2.2.1, t2227.2.2.2.1, t2227.2.2.2.2] x2236) % 4294967296]) (HS.out.at2)) HS.out (by have := of_decide_eq_true c2249b0; simp only [List.length_cons, List.length_nil]; omega) HA2254 ?_; intro A2250 n2251 w2252 HS1; replace HS : Aside0 (Sep (fps []) w [b12 g2070 a2063 a2064 a2065 a2066 a2067 a2068 a2069, r6 A2250 y2253.length n2251 y2253, b14 g2246 ((rd [t2227.1, t2227.2.1, t2227.2.2.1, t2227.2.2.2.1, t2227.2.2.2.2] x2236) % 4294967296)] w2252) := ⟨HS1⟩; clear HS1; replace HS : Aside0 (Sep (fps []) w [b12 g2070 a2063 a2064 a2065 a2066 a2067 a2068 a2069, r6 A2250 y2253.length n2251 y2253] w2252) := ⟨HS.out.sub (.cons_cons _ (.cons_cons _ (.cons _ .slnil)))⟩))
              go_roundg k2234
              case measure => exact Nat.lt_succ_self _
              case rel => exact ⟨(wrap64 (x2236 + 1)), (y2253), (A2250), (y2253.length), (n2251), (by first | rfl | (simp [IntKind.wrap_u32]; done)), (by first | rfl | (simp [IntKind.wrap_u32]; done)), Aside0.mk AL2232.out, ⟨HS.out⟩⟩
            · replace AL2232 := if_no c2249 AL2232
              have c2249b0 : decide (x2237.length < 35184372088832) = false := decide_eq_false c2249
              clear c2249
              exact (none_no AL2232).elim
          · replace AL2232 := if_no c2243 AL2232
            have c2243b0 : decide (0 ≤ x2236) = false := decide_eq_false c2243
            clear c2243
            exact (none_no AL2232).elim
        · replace AL2232 := if_no c2242 AL2232
          have c2242b0 : decide (x2236 < 5) = false := decide_eq_false c2242
          clear c2242
          have ho := some_eq AL2232
          subst ho
          clear AL2232
          by_cases c2260 : x2237.length < 35184372088831
          · replace H := if_yes c2260 H
            have c2260b0 : decide (x2237.length < 35184372088831) = true := decide_eq_true c2260
            clear c2260
            obtain ⟨y2264, HA2265, H⟩ := bind_some H
            have hc2256 : w2233.cell? ⟨g2070, 6, none⟩ = some (.int .i64 a2069) := blk_cellv (HS.out.at0) 6 rfl
            go_wp2_with (first | ((with_reducible refine gate_dst (N := 29) rfl ?_); refine slice_on (n := 2) ?hg (N := 29) ?hd (cs := #[.int .u32 0, .int .u32 ((a2069) % 4294967296)]) (t := 33) ?hr ?_; (case hd => rfl); (case hg => rfl); (case hr => first | (go_simp; done) | (go_simp; rfl)); intro g2257 hg w2258 hbox hb; clear hc2256; replace HS : Aside0 (Sep (fps []) w [b12 g2070 a2063 a2064 a2065 a2066 a2067 a2068 a2069, r6 A2238 x2237.length n2240 x2237, b15 g2257 0 ((a2069) % 4294967296)] w2258) := ⟨HS.out.box hg hbox hb⟩; clear hg hbox hb) | ((with_reducible refine gate_dst (N := 30) rfl ?_); refine append_event (l1 := [b12 g2070 a2063 a2064 a2065 a2066 a2067 a2068 a2069]) (l2 := [b15 g2257 0 ((a2069) % 4294967296)]) rfl (.tmp 25) (.tmp 29) 69 33 (.int .u32 0) 4 rfl Tryd.underlying69 (by kernel_rfl) rfl (by decide) (Value.int .u32) (fun _ => rfl) (.slice A2238 x2237.length n2240) (x2237 : List Int) [0, (a2069) % 4294967296] ⟨g2257, 0, none⟩ 2 rfl rfl (blk_news (xs := [0, (a2069) % 4294967296]) (HS.out.at2)) HS.out (by have := of_decide_eq_true c2260b0; simp only [List.length_cons, List.length_nil]; omega) HA2265 ?_; intro A2261 n2262 w2263 HS1; replace HS : Aside0 (Sep (fps []) w [b12 g2070 a2063 a2064 a2065 a2066 a2067 a2068 a2069, r6 A2261 y2264.length n2262 y2264, b15 g2257 0 ((a2069) % 4294967296)] w2263) := ⟨HS1⟩; clear HS1) | ((with_reducible refine gate_dst (N := 31) rfl ?_); refine slice_on (n := 8) ?hg (N := 31) ?hd (cs := #[.int .i64 2, .int .i64 1, .int .i64 1, .int .i64 1, .int .i64 1, .int .i64 1, .int .i64 1, .int .i64 24]) (t := 3) ?hr ?_; (case hd => rfl); (case hg => rfl); (case hr => first | (go_simp; done) | (go_simp; rfl)); intro g2267 hg w2268 hbox hb; replace HS : Aside0 (Sep (fps []) w [b12 g2070 a2063 a2064 a2065 a2066 a2067 a2068 a2069, r6 A2261 y2264.length n2262 y2264, b15 g2257 0 ((a2069) % 4294967296), b16 g2267 2 1 1 1 1 1 1 24] w2268) := ⟨HS.out.box hg hbox hb⟩; clear hg hbox hb))
            obtain ⟨t2377, HA2378, H⟩ := bind_some H
            refine (pack_Join.calls _ y2264 [2, 1, 1, 1, 1, 1, 1, 24] A2261 n2262 (some ⟨g2267, 0, none⟩) 8 t2377 _ ⟨Rd.ownI (l := []) HS.out 1 rfl⟩ ⟨Rd.lit (l := []) (xs := [2, 1, 1, 1, 1, 1, 1, 24]) HS.out 3 rfl (by simp)⟩ ⟨HGl0.out.pass (l := []) HS.out⟩ ⟨Sep.start _⟩ HA2378).mono ?_
            rintro e_ w2379 ⟨rfl, hS⟩
            replace HS : Aside0 (Sep (fps []) w [b12 g2070 a2063 a2064 a2065 a2066 a2067 a2068 a2069, r6 A2261 y2264.length n2262 y2264, b15 g2257 0 ((a2069) % 4294967296), b16 g2267 2 1 1 1 1 1 1 24] w2379) := ⟨HS.out.call hS⟩
            clear hS
            replace HS : Aside0 (Sep (fps []) w [] w2379) := ⟨HS.out.sub (.cons _ (.cons _ (.cons _ (.cons _ .slnil))))⟩
            go_wp2_with fail
            go_ret2
            rw [← some_eq H]
            exact ⟨(by first | rfl | (simp [IntKind.wrap_u32]; done)), HS.out⟩
          · replace H := if_no c2260 H
            have c2260b0 : decide (x2237.length < 35184372088831) = false := decide_eq_false c2260
            clear c2260
            exact (none_no H).elim
  · replace H := if_no c2215 H
    have c2215b0 : t2212 = false := by simpa using c2215
    have c2215b1 : (!t2212) = true := by rw [c2215b0]; rfl
    try rw [c2215b1]
    clear c2215
    replace HS : Aside0 (Sep (fps []) w [] w2214) := ⟨HS.out.sub (.cons _ .slnil)⟩
    go_wp2_with fail
    go_ret2
    rw [← some_eq H]
    exact ⟨(by first | rfl | (simp [IntKind.wrap_u32]; done)), HS.out⟩

set_option maxHeartbeats 30000000 in
set_option maxRecDepth 100000 in
theorem obj_mark.calls (k : Nat) (l2035 : List Int) (a2040 : Int) (a2041 : Int) (a2042 : Int) (a2043 : Int) (a2044 : Int) (a2045 : Int) (a2046 : Int) (a2047 : Int) (a2048 : Int) (a2049 : Int) (a2050 : Int) (a2051 : Int) (a2052 : Int) (g2031 : Nat) (g2033 : Nat) (A2036 : Option Addr) (m2037 : Nat) (n2038 : Nat) (r : Int × List Int) (w : World)  (HGl0 : Aside0 (Gl 0 #[.int .i64 0, .int .i64 0, .int .i64 0, .int .i64 0, .int .i64 0] (fps [b8 g2031 g2033 a2041 a2042 a2043 a2044, b7 g2033 A2036 m2037 n2038 a2040, r6 A2036 m2037 n2038 l2035]) w)) (HS : Aside0 (Sep (fps [b8 g2031 g2033 a2041 a2042 a2043 a2044, b7 g2033 A2036 m2037 n2038 a2040, r6 A2036 m2037 n2038 l2035]) w [b8 g2031 g2033 a2041 a2042 a2043 a2044, b7 g2033 A2036 m2037 n2038 a2040, r6 A2036 m2037 n2038 l2035] w)) (H : Aside0 (obj_mark.f k l2035 a2040 a2041 a2042 a2043 a2044 a2045 a2046 a2047 a2048 a2049 a2050 a2051 a2052 = some r)) :
    Calls Tryd.prog 99 #[.pointer (some ⟨g2031, 0, none⟩), .int .i64 a2045, .agg #[.int .i64 a2046, .int .i64 a2047, .int .i64 a2048, .int .i64 a2049, .int .i64 a2050, .int .i64 a2051, .int .i64 a2052]] w fun e w' => e = .returned (.tuple #[]) ∧ Sep (fps [b8 g2031 g2033 a2041 a2042 a2043 a2044, b7 g2033 A2036 m2037 n2038 a2040, r6 A2036 m2037 n2038 l2035]) w [b8 g2031 g2033 a2041 a2042 a2043 a2044, b7 g2033 A2036 m2037 n2038 r.1, r6 A2036 m2037 n2038 r.2] w' := by
  generalize (fps [b8 g2031 g2033 a2041 a2042 a2043 a2044, b7 g2033 A2036 m2037 n2038 a2040, r6 A2036 m2037 n2038 l2035]) = FF at HS HGl0 ⊢
  obtain rfl := (row_len (HS.out.at2)).symm
  unfold obj_mark.f at H
  go_enter Tryd.func99, Tryd.ntmps99
  go_wp2_with (first | ((with_reducible refine gate_dst (N := 5) rfl ?_); refine box_on ?hg (N := 5) ?hd (cs := #[.int .i64 a2046, .int .i64 a2047, .int .i64 a2048, .int .i64 a2049, .int .i64 a2050, .int .i64 a2051, .int .i64 a2052]) (t := 32) ?hr ?_; (case hd => rfl); (case hg => rfl); (case hr => first | (go_simp; done) | (go_simp; rfl)); intro g2406 hg w2407 hbox hb; replace HS : Aside0 (Sep FF w [b8 g2031 g2033 a2041 a2042 a2043 a2044, b7 g2033 A2036 l2035.length n2038 a2040, r6 A2036 l2035.length n2038 l2035, b12 g2406 a2046 a2047 a2048 a2049 a2050 a2051 a2052] w2407) := ⟨HS.out.box hg hbox hb⟩; clear hg hbox hb; have hc2409 : w2407.cell? ⟨g2406, 0, none⟩ = some (.int .i64 a2046) := blk_cellv (HS.out.at3) 0 rfl; have hc2410 : w2407.cell? ⟨g2406, 1, none⟩ = some (.int .i64 a2047) := blk_cellv (HS.out.at3) 1 rfl; have hc2411 : w2407.cell? ⟨g2406, 2, none⟩ = some (.int .i64 a2048) := blk_cellv (HS.out.at3) 2 rfl; have hc2412 : w2407.cell? ⟨g2406, 3, none⟩ = some (.int .i64 a2049) := blk_cellv (HS.out.at3) 3 rfl; have hc2413 : w2407.cell? ⟨g2406, 4, none⟩ = some (.int .i64 a2050) := blk_cellv (HS.out.at3) 4 rfl; have hc2414 : w2407.cell? ⟨g2406, 5, none⟩ = some (.int .i64 a2051) := blk_cellv (HS.out.at3) 5 rfl; have hc2415 : w2407.cell? ⟨g2406, 6, none⟩ = some (.int .i64 a2052) := blk_cellv (HS.out.at3) 6 rfl))
  clear hc2409 hc2410 hc2411 hc2412 hc2413 hc2414 hc2415
  obtain ⟨t2416, HA2417, H⟩ := bind_some H
  refine (tag_Pack.calls _ a2046 a2047 a2048 a2049 a2050 a2051 a2052 t2416 _ ⟨HGl0.out.pass (l := []) HS.out⟩ ⟨Sep.start _⟩ HA2417).mono ?_
  rintro e_ w2418 ⟨rfl, hS⟩
  replace HS : Aside0 (Sep FF w [b8 g2031 g2033 a2041 a2042 a2043 a2044, b7 g2033 A2036 l2035.length n2038 a2040, r6 A2036 l2035.length n2038 l2035, b12 g2406 a2046 a2047 a2048 a2049 a2050 a2051 a2052] w2418) := ⟨HS.out.call hS⟩
  clear hS
  by_cases c2419 : t2416.2 = 0
  · replace H := if_yes c2419 H
    have c2419b0 : (t2416.2 == 0) = true := beq_iff_eq.mpr c2419
    have c2419b1 : (t2416.2 != 0) = false := bne_eq_false_iff_eq.mpr c2419
    clear c2419
    replace HS : Aside0 (Sep FF w [b8 g2031 g2033 a2041 a2042 a2043 a2044, b7 g2033 A2036 l2035.length n2038 a2040, r6 A2036 l2035.length n2038 l2035] w2418) := ⟨HS.out.sub (.cons_cons _ (.cons_cons _ (.cons_cons _ (.cons _ .slnil))))⟩
    go_wp2_with fail
    obtain ⟨t2420, HA2421, H⟩ := bind_some H
    refine (ground_Ground_SetWord.calls l2035 a2040 a2041 a2042 a2043 a2044 a2045 0 t2416.1 g2031 g2033 A2036 l2035.length n2038 t2420 _ ⟨HGl0.out.pass HS.out⟩ ⟨HS.out.begin⟩ HA2421).mono ?_
    rintro e_ w2422 ⟨rfl, hS⟩
    replace HS : Aside0 (Sep FF w [b8 g2031 g2033 a2041 a2042 a2043 a2044, b7 g2033 A2036 l2035.length n2038 t2420.2.1, r6 A2036 l2035.length n2038 t2420.2.2] w2422) := ⟨HS.out.call hS⟩
    clear hS
    go_wp2_with fail
    first | go_end0 | refine bodyPost_ret (results_none rfl _ _ _) rfl ?_
    rw [← some_eq H]
    exact ⟨rfl, HS.out⟩
  · replace H := if_no c2419 H
    have c2419b0 : (t2416.2 == 0) = false := beq_eq_false_iff_ne.mpr c2419
    have c2419b1 : (t2416.2 != 0) = true := bne_iff_ne.mpr c2419
    clear c2419
    replace HS : Aside0 (Sep FF w [b8 g2031 g2033 a2041 a2042 a2043 a2044, b7 g2033 A2036 l2035.length n2038 a2040, r6 A2036 l2035.length n2038 l2035] w2418) := ⟨HS.out.sub (.cons_cons _ (.cons_cons _ (.cons_cons _ (.cons _ .slnil))))⟩
    go_wp2_with fail
    first | go_end0 | refine bodyPost_ret (results_none rfl _ _ _) rfl ?_
    rw [← some_eq H]
    exact ⟨rfl, HS.out⟩
end Go.Proofs.YtobeonkddamnoaaDoor.C

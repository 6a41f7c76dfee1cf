/- Each function of the group CN does what its plain function says, and changes nothing that was there; proved by walking its code. No condition. -/
import Derived.Test.YtobeonkddamnoaaDoorQw
import Derived.Test.YtobeonkddamnoaaDoorMCN
import Derived.Test.YtobeonkddamnoaaDoorGCN0
namespace Go.Proofs.YtobeonkddamnoaaDoor.C
open Go.RowKit Go.Proofs.YtobeonkddamnoaaDoorW.PrintWords Go.Proofs.YtobeonkddamnoaaDoorW.PrintLast Go.Proofs.YtobeonkddamnoaaDoor.Q Go.Proofs.YtobeonkddamnoaaDoor.M
set_option linter.unusedVariables false
set_option linter.unusedSimpArgs false
set_option maxHeartbeats 30000000 in
set_option maxRecDepth 100000 in
theorem chain_put_F143.calls (l1148 : List Int) (a1153 : Int) (a1154 : Int) (a1155 : Int) (a1156 : Int) (a1157 : Int) (a1158 : Int) (a1159 : Int) (a1164 : Int) (g1144 : Nat) (g1146 : Nat) (A1149 : Option Addr) (m1150 : Nat) (n1151 : Nat) (g1161 : Nat) (g1163 : Nat) (r : Bool × Int × List Int) (w : World)  (HGl0 : Aside0 (Gl 0 #[.int .i64 0, .int .i64 0, .int .i64 0, .int .i64 0, .int .i64 0] (fps [b7 g1144 g1146 a1154 a1155 a1156 a1157, b6 g1146 A1149 m1150 n1151 a1153, r5 A1149 m1150 n1151 l1148, b9 g1161 g1144, b10 g1163 a1164]) w)) (HS : Aside0 (Sep (fps [b7 g1144 g1146 a1154 a1155 a1156 a1157, b6 g1146 A1149 m1150 n1151 a1153, r5 A1149 m1150 n1151 l1148, b9 g1161 g1144, b10 g1163 a1164]) w [b7 g1144 g1146 a1154 a1155 a1156 a1157, b6 g1146 A1149 m1150 n1151 a1153, r5 A1149 m1150 n1151 l1148, b9 g1161 g1144, b10 g1163 a1164] w)) (H : Aside0 (chain_put_F143.f l1148 a1153 a1154 a1155 a1156 a1157 a1158 a1159 a1164 = some r)) :
    Calls Tryd.prog 142 #[.pointer (some ⟨g1144, 0, none⟩), .int .i64 a1158, .int .i64 a1159, .func (.func 143) #[] #[.pointer (some ⟨g1161, 0, none⟩), .pointer (some ⟨g1163, 0, none⟩)]] w fun e w' => e = .returned (.bool r.1) ∧ Sep (fps [b7 g1144 g1146 a1154 a1155 a1156 a1157, b6 g1146 A1149 m1150 n1151 a1153, r5 A1149 m1150 n1151 l1148, b9 g1161 g1144, b10 g1163 a1164]) w [b7 g1144 g1146 a1154 a1155 a1156 a1157, b6 g1146 A1149 m1150 n1151 r.2.1, r5 A1149 m1150 n1151 r.2.2, b9 g1161 g1144, b10 g1163 a1164] w' := by
  generalize (fps [b7 g1144 g1146 a1154 a1155 a1156 a1157, b6 g1146 A1149 m1150 n1151 a1153, r5 A1149 m1150 n1151 l1148, b9 g1161 g1144, b10 g1163 a1164]) = FF at HS HGl0 ⊢
  obtain rfl := (row_len (HS.out.at2)).symm
  unfold chain_put_F143.f at H
  go_enter Tryd.func142, Tryd.ntmps142
  go_wp2_with fail
  obtain ⟨t1457, HA1458, H⟩ := bind_some H
  refine (chain_of.calls l1148 a1153 a1154 a1155 a1156 a1157 a1158 g1144 g1146 A1149 l1148.length n1151 t1457 _ ⟨HGl0.out.pass HS.out⟩ ⟨HS.out.begin⟩ HA1458).mono ?_
  rintro e_ w1459 ⟨rfl, hS⟩
  replace HS : Aside0 (Sep FF w [b7 g1144 g1146 a1154 a1155 a1156 a1157, b6 g1146 A1149 l1148.length n1151 a1153, r5 A1149 l1148.length n1151 l1148, b9 g1161 g1144, b10 g1163 a1164] w1459) := ⟨HS.out.call hS⟩
  clear hS
  by_cases c1470 : t1457.2.2.2 = true
  · have H := if_yes c1470 H
    have c1470b0 : t1457.2.2.2 = true := c1470
    have c1470b1 : (!t1457.2.2.2) = false := by rw [c1470b0]; rfl
    try rw [c1470b1]
    clear c1470
    by_cases c1471 : a1159 < 0
    · have H := if_yes c1471 H
      have c1471b0 : decide (a1159 < 0) = true := decide_eq_true c1471
      clear c1471
      go_wp2_with (first | ((with_reducible refine gate_dst (N := 9) rfl ?_); refine box_on ?hg (N := 9) ?hd (cs := #[.int .i64 0, .int .i64 0, .int .i64 0]) (t := 166) ?hr ?_; (case hd => rfl); (case hg => rfl); (case hr => first | (go_simp; done) | (go_simp; rfl)); intro g1460 hg w1461 hbox hb; replace HS : Aside0 (Sep FF w [b7 g1144 g1146 a1154 a1155 a1156 a1157, b6 g1146 A1149 l1148.length n1151 a1153, r5 A1149 l1148.length n1151 l1148, b9 g1161 g1144, b10 g1163 a1164, b8 g1460 0 0 0] w1461) := ⟨HS.out.box hg hbox hb⟩; clear hg hbox hb; have hc1463 : w1461.cell? ⟨g1460, 0, none⟩ = some (.int .i64 0) := blk_cellv (HS.out.at5) 0 rfl; have hz1464 : w1461.frozen? ⟨g1460, 0, none⟩ = false := blk_fz (HS.out.at5) 0; have hc1465 : w1461.cell? ⟨g1460, 1, none⟩ = some (.int .i64 0) := blk_cellv (HS.out.at5) 1 rfl; have hz1466 : w1461.frozen? ⟨g1460, 1, none⟩ = false := blk_fz (HS.out.at5) 1; have hc1467 : w1461.cell? ⟨g1460, 2, none⟩ = some (.int .i64 0) := blk_cellv (HS.out.at5) 2 rfl; have hz1468 : w1461.frozen? ⟨g1460, 2, none⟩ = false := blk_fz (HS.out.at5) 2) | ((with_reducible refine gate_store (t := 166) (p := 9) rfl ?_); refine store_event (w1 := (World.setCell (World.setCell (World.setCell w1461 ⟨g1460, 0, none⟩ (.int .i64 t1457.1)) ⟨g1460, 1, none⟩ (.int .i64 t1457.2.1)) ⟨g1460, 2, none⟩ (.int .i64 t1457.2.2.1))) rfl (t := 166) (p := 9) rfl rfl ?hr ?_; (case hr => first | (go_simp; done) | (go_simp; rfl)); intro w1469 hst; clear hc1463 hz1464 hc1465 hz1466 hc1467 hz1468; replace HS : Aside0 (Sep FF w [b7 g1144 g1146 a1154 a1155 a1156 a1157, b6 g1146 A1149 l1148.length n1151 a1153, r5 A1149 l1148.length n1151 l1148, b9 g1161 g1144, b10 g1163 a1164, b8 g1460 t1457.1 t1457.2.1 t1457.2.2.1] w1469) := ⟨by rw [hst]; exact HS.out.setAll (l1 := [b7 g1144 g1146 a1154 a1155 a1156 a1157, b6 g1146 A1149 l1148.length n1151 a1153, r5 A1149 l1148.length n1151 l1148, b9 g1161 g1144, b10 g1163 a1164]) (l2 := []) [.int .i64 t1457.1, .int .i64 t1457.2.1, .int .i64 t1457.2.2.1] rfl⟩; clear hst; replace HS : Aside0 (Sep FF w [b7 g1144 g1146 a1154 a1155 a1156 a1157, b6 g1146 A1149 l1148.length n1151 a1153, r5 A1149 l1148.length n1151 l1148, b9 g1161 g1144, b10 g1163 a1164] w1469) := ⟨HS.out.sub (.cons_cons _ (.cons_cons _ (.cons_cons _ (.cons_cons _ (.cons_cons _ (.cons _ .slnil))))))⟩))
      go_ret
      rw [← some_eq H]
      exact ⟨(by first | rfl | (simp [IntKind.wrap_u32]; done)), HS.out⟩
    · have H := if_no c1471 H
      have c1471b0 : decide (a1159 < 0) = false := decide_eq_false c1471
      clear c1471
      go_wp2_with (first | ((with_reducible refine gate_dst (N := 9) rfl ?_); refine box_on ?hg (N := 9) ?hd (cs := #[.int .i64 0, .int .i64 0, .int .i64 0]) (t := 166) ?hr ?_; (case hd => rfl); (case hg => rfl); (case hr => first | (go_simp; done) | (go_simp; rfl)); intro g1460 hg w1461 hbox hb; replace HS : Aside0 (Sep FF w [b7 g1144 g1146 a1154 a1155 a1156 a1157, b6 g1146 A1149 l1148.length n1151 a1153, r5 A1149 l1148.length n1151 l1148, b9 g1161 g1144, b10 g1163 a1164, b8 g1460 0 0 0] w1461) := ⟨HS.out.box hg hbox hb⟩; clear hg hbox hb; have hc1463 : w1461.cell? ⟨g1460, 0, none⟩ = some (.int .i64 0) := blk_cellv (HS.out.at5) 0 rfl; have hz1464 : w1461.frozen? ⟨g1460, 0, none⟩ = false := blk_fz (HS.out.at5) 0; have hc1465 : w1461.cell? ⟨g1460, 1, none⟩ = some (.int .i64 0) := blk_cellv (HS.out.at5) 1 rfl; have hz1466 : w1461.frozen? ⟨g1460, 1, none⟩ = false := blk_fz (HS.out.at5) 1; have hc1467 : w1461.cell? ⟨g1460, 2, none⟩ = some (.int .i64 0) := blk_cellv (HS.out.at5) 2 rfl; have hz1468 : w1461.frozen? ⟨g1460, 2, none⟩ = false := blk_fz (HS.out.at5) 2) | ((with_reducible refine gate_store (t := 166) (p := 9) rfl ?_); refine store_event (w1 := (World.setCell (World.setCell (World.setCell w1461 ⟨g1460, 0, none⟩ (.int .i64 t1457.1)) ⟨g1460, 1, none⟩ (.int .i64 t1457.2.1)) ⟨g1460, 2, none⟩ (.int .i64 t1457.2.2.1))) rfl (t := 166) (p := 9) rfl rfl ?hr ?_; (case hr => first | (go_simp; done) | (go_simp; rfl)); intro w1469 hst; clear hc1463 hz1464 hc1465 hz1466 hc1467 hz1468; replace HS : Aside0 (Sep FF w [b7 g1144 g1146 a1154 a1155 a1156 a1157, b6 g1146 A1149 l1148.length n1151 a1153, r5 A1149 l1148.length n1151 l1148, b9 g1161 g1144, b10 g1163 a1164, b8 g1460 t1457.1 t1457.2.1 t1457.2.2.1] w1469) := ⟨by rw [hst]; exact HS.out.setAll (l1 := [b7 g1144 g1146 a1154 a1155 a1156 a1157, b6 g1146 A1149 l1148.length n1151 a1153, r5 A1149 l1148.length n1151 l1148, b9 g1161 g1144, b10 g1163 a1164]) (l2 := []) [.int .i64 t1457.1, .int .i64 t1457.2.1, .int .i64 t1457.2.2.1] rfl⟩; clear hst))
      obtain ⟨t1472, HA1473, H⟩ := bind_some H
      refine (ground_Ground_Conf.calls l1148 a1153 a1154 a1155 a1156 a1157 g1144 g1146 A1149 l1148.length n1151 t1472 _ ⟨HGl0.out.pass HS.out⟩ ⟨HS.out.begin⟩ HA1473).mono ?_
      rintro e_ w1474 ⟨rfl, hS⟩
      replace HS : Aside0 (Sep FF w [b7 g1144 g1146 a1154 a1155 a1156 a1157, b6 g1146 A1149 l1148.length n1151 a1153, r5 A1149 l1148.length n1151 l1148, b9 g1161 g1144, b10 g1163 a1164, b8 g1460 t1457.1 t1457.2.1 t1457.2.2.1] w1474) := ⟨HS.out.call hS⟩
      clear hS
      by_cases c1476 : a1159 ≥ t1472.1
      · have H := if_yes c1476 H
        have c1476b0 : decide (t1472.1 ≤ a1159) = true := decide_eq_true c1476
        clear c1476
        have fl1475 : ∀ w, (Instr.field 30 (.agg #[.int .i64 t1472.1, .int .i64 t1472.2.1, .int .i64 t1472.2.2.1, .int .i64 t1472.2.2.2]) 0).run Tryd.prog w = .ok (.int .i64 t1472.1) w := fun _ => by kernel_rfl
        replace HS : Aside0 (Sep FF w [b7 g1144 g1146 a1154 a1155 a1156 a1157, b6 g1146 A1149 l1148.length n1151 a1153, r5 A1149 l1148.length n1151 l1148, b9 g1161 g1144, b10 g1163 a1164] w1474) := ⟨HS.out.sub (.cons_cons _ (.cons_cons _ (.cons_cons _ (.cons_cons _ (.cons_cons _ (.cons _ .slnil))))))⟩
        go_wp2_with fail
        clear fl1475
        go_ret
        rw [← some_eq H]
        exact ⟨(by first | rfl | (simp [IntKind.wrap_u32]; done)), HS.out⟩
      · have H := if_no c1476 H
        have c1476b0 : decide (t1472.1 ≤ a1159) = false := decide_eq_false c1476
        clear c1476
        have fl1475 : ∀ w, (Instr.field 30 (.agg #[.int .i64 t1472.1, .int .i64 t1472.2.1, .int .i64 t1472.2.2.1, .int .i64 t1472.2.2.2]) 0).run Tryd.prog w = .ok (.int .i64 t1472.1) w := fun _ => by kernel_rfl
        have hc1477 : w1474.cell? ⟨g1460, 2, none⟩ = some (.int .i64 t1457.2.2.1) := blk_cellv (HS.out.at5) 2 rfl
        go_wp2_with fail
        clear fl1475 hc1477
        obtain ⟨t1478, HA1479, H⟩ := bind_some H
        refine (ground_Ground_Reg.calls l1148 a1153 a1154 a1155 a1156 a1157 t1457.2.2.1 g1144 g1146 A1149 l1148.length n1151 t1478 _ ⟨HGl0.out.pass HS.out⟩ ⟨HS.out.begin⟩ HA1479).mono ?_
        rintro e_ w1480 ⟨rfl, hS⟩
        replace HS : Aside0 (Sep FF w [b7 g1144 g1146 a1154 a1155 a1156 a1157, b6 g1146 A1149 l1148.length n1151 t1478.2, r5 A1149 l1148.length n1151 l1148, b9 g1161 g1144, b10 g1163 a1164, b8 g1460 t1457.1 t1457.2.1 t1457.2.2.1] w1480) := ⟨HS.out.call hS⟩
        clear hS
        have hc1481 : w1480.cell? ⟨g1460, 0, none⟩ = some (.int .i64 t1457.1) := blk_cellv (HS.out.at5) 0 rfl
        have hc1482 : w1480.cell? ⟨g1460, 1, none⟩ = some (.int .i64 t1457.2.1) := blk_cellv (HS.out.at5) 1 rfl
        have hc1483 : w1480.cell? ⟨g1460, 2, none⟩ = some (.int .i64 t1457.2.2.1) := blk_cellv (HS.out.at5) 2 rfl
        go_wp2_with fail
        clear hc1481 hc1482 hc1483
        replace HS : Aside0 (Sep FF w [b10 g1163 a1164, b7 g1144 g1146 a1154 a1155 a1156 a1157, b6 g1146 A1149 l1148.length n1151 t1478.2, r5 A1149 l1148.length n1151 l1148, b9 g1161 g1144, b8 g1460 t1457.1 t1457.2.1 t1457.2.2.1] w1480) := ⟨HS.out.front 4 (by simp)⟩
        replace HS : Aside0 (Sep FF w [r5 A1149 l1148.length n1151 l1148, b10 g1163 a1164, b7 g1144 g1146 a1154 a1155 a1156 a1157, b6 g1146 A1149 l1148.length n1151 t1478.2, b9 g1161 g1144, b8 g1460 t1457.1 t1457.2.1 t1457.2.2.1] w1480) := ⟨HS.out.front 3 (by simp)⟩
        replace HS : Aside0 (Sep FF w [b6 g1146 A1149 l1148.length n1151 t1478.2, r5 A1149 l1148.length n1151 l1148, b10 g1163 a1164, b7 g1144 g1146 a1154 a1155 a1156 a1157, b9 g1161 g1144, b8 g1460 t1457.1 t1457.2.1 t1457.2.2.1] w1480) := ⟨HS.out.front 3 (by simp)⟩
        replace HS : Aside0 (Sep FF w [b7 g1144 g1146 a1154 a1155 a1156 a1157, b6 g1146 A1149 l1148.length n1151 t1478.2, r5 A1149 l1148.length n1151 l1148, b10 g1163 a1164, b9 g1161 g1144, b8 g1460 t1457.1 t1457.2.1 t1457.2.2.1] w1480) := ⟨HS.out.front 3 (by simp)⟩
        replace HS : Aside0 (Sep FF w [b9 g1161 g1144, b7 g1144 g1146 a1154 a1155 a1156 a1157, b6 g1146 A1149 l1148.length n1151 t1478.2, r5 A1149 l1148.length n1151 l1148, b10 g1163 a1164, b8 g1460 t1457.1 t1457.2.1 t1457.2.2.1] w1480) := ⟨HS.out.front 4 (by simp)⟩
        obtain ⟨t1484, HA1485, H⟩ := bind_some H
        refine (chain_Add_1.calls t1457.1 t1457.2.1 t1457.2.2.1 (wrap64 (a1159 + 1)) t1478.1 l1148 t1478.2 a1154 a1155 a1156 a1157 a1164 g1161 g1144 g1146 A1149 l1148.length n1151 g1163 t1484 _ ⟨HGl0.out.pass HS.out⟩ ⟨HS.out.begin⟩ HA1485).mono ?_
        rintro e_ w1486 ⟨rfl, hS⟩
        replace HS : Aside0 (Sep FF w [b9 g1161 g1144, b7 g1144 g1146 a1154 a1155 a1156 a1157, b6 g1146 A1149 l1148.length n1151 t1484.1, r5 A1149 l1148.length n1151 t1484.2, b10 g1163 a1164, b8 g1460 t1457.1 t1457.2.1 t1457.2.2.1] w1486) := ⟨HS.out.call hS⟩
        clear hS
        have hc1487 : w1486.cell? ⟨g1460, 2, none⟩ = some (.int .i64 t1457.2.2.1) := blk_cellv (HS.out.at5) 2 rfl
        go_wp2_with fail
        clear hc1487
        replace HS : Aside0 (Sep FF w [r5 A1149 l1148.length n1151 t1484.2, b9 g1161 g1144, b7 g1144 g1146 a1154 a1155 a1156 a1157, b6 g1146 A1149 l1148.length n1151 t1484.1, b10 g1163 a1164, b8 g1460 t1457.1 t1457.2.1 t1457.2.2.1] w1486) := ⟨HS.out.front 3 (by simp)⟩
        replace HS : Aside0 (Sep FF w [b6 g1146 A1149 l1148.length n1151 t1484.1, r5 A1149 l1148.length n1151 t1484.2, b9 g1161 g1144, b7 g1144 g1146 a1154 a1155 a1156 a1157, b10 g1163 a1164, b8 g1460 t1457.1 t1457.2.1 t1457.2.2.1] w1486) := ⟨HS.out.front 3 (by simp)⟩
        replace HS : Aside0 (Sep FF w [b7 g1144 g1146 a1154 a1155 a1156 a1157, b6 g1146 A1149 l1148.length n1151 t1484.1, r5 A1149 l1148.length n1151 t1484.2, b9 g1161 g1144, b10 g1163 a1164, b8 g1460 t1457.1 t1457.2.1 t1457.2.2.1] w1486) := ⟨HS.out.front 3 (by simp)⟩
        obtain ⟨t1488, HA1489, H⟩ := bind_some H
        refine (ground_Ground_SetReg.calls t1484.2 t1484.1 a1154 a1155 a1156 a1157 t1457.2.2.1 (wrap64 (t1478.1 + 1)) g1144 g1146 A1149 l1148.length n1151 t1488 _ ⟨HGl0.out.pass HS.out⟩ ⟨HS.out.begin⟩ HA1489).mono ?_
        rintro e_ w1490 ⟨rfl, hS⟩
        replace HS : Aside0 (Sep FF w [b7 g1144 g1146 a1154 a1155 a1156 a1157, b6 g1146 A1149 l1148.length n1151 t1488.2.1, r5 A1149 l1148.length n1151 t1488.2.2, b9 g1161 g1144, b10 g1163 a1164, b8 g1460 t1457.1 t1457.2.1 t1457.2.2.1] w1490) := ⟨HS.out.call hS⟩
        clear hS
        replace HS : Aside0 (Sep FF w [b7 g1144 g1146 a1154 a1155 a1156 a1157, b6 g1146 A1149 l1148.length n1151 t1488.2.1, r5 A1149 l1148.length n1151 t1488.2.2, b9 g1161 g1144, b10 g1163 a1164] w1490) := ⟨HS.out.sub (.cons_cons _ (.cons_cons _ (.cons_cons _ (.cons_cons _ (.cons_cons _ (.cons _ .slnil))))))⟩
        go_wp2_with fail
        go_ret
        rw [← some_eq H]
        exact ⟨(by first | rfl | (simp [IntKind.wrap_u32]; done)), HS.out⟩
  · have H := if_no c1470 H
    have c1470b0 : t1457.2.2.2 = false := by simpa using c1470
    have c1470b1 : (!t1457.2.2.2) = true := by rw [c1470b0]; rfl
    try rw [c1470b1]
    clear c1470
    go_wp2_with (first | ((with_reducible refine gate_dst (N := 9) rfl ?_); refine box_on ?hg (N := 9) ?hd (cs := #[.int .i64 0, .int .i64 0, .int .i64 0]) (t := 166) ?hr ?_; (case hd => rfl); (case hg => rfl); (case hr => first | (go_simp; done) | (go_simp; rfl)); intro g1460 hg w1461 hbox hb; replace HS : Aside0 (Sep FF w [b7 g1144 g1146 a1154 a1155 a1156 a1157, b6 g1146 A1149 l1148.length n1151 a1153, r5 A1149 l1148.length n1151 l1148, b9 g1161 g1144, b10 g1163 a1164, b8 g1460 0 0 0] w1461) := ⟨HS.out.box hg hbox hb⟩; clear hg hbox hb; have hc1463 : w1461.cell? ⟨g1460, 0, none⟩ = some (.int .i64 0) := blk_cellv (HS.out.at5) 0 rfl; have hz1464 : w1461.frozen? ⟨g1460, 0, none⟩ = false := blk_fz (HS.out.at5) 0; have hc1465 : w1461.cell? ⟨g1460, 1, none⟩ = some (.int .i64 0) := blk_cellv (HS.out.at5) 1 rfl; have hz1466 : w1461.frozen? ⟨g1460, 1, none⟩ = false := blk_fz (HS.out.at5) 1; have hc1467 : w1461.cell? ⟨g1460, 2, none⟩ = some (.int .i64 0) := blk_cellv (HS.out.at5) 2 rfl; have hz1468 : w1461.frozen? ⟨g1460, 2, none⟩ = false := blk_fz (HS.out.at5) 2) | ((with_reducible refine gate_store (t := 166) (p := 9) rfl ?_); refine store_event (w1 := (World.setCell (World.setCell (World.setCell w1461 ⟨g1460, 0, none⟩ (.int .i64 t1457.1)) ⟨g1460, 1, none⟩ (.int .i64 t1457.2.1)) ⟨g1460, 2, none⟩ (.int .i64 t1457.2.2.1))) rfl (t := 166) (p := 9) rfl rfl ?hr ?_; (case hr => first | (go_simp; done) | (go_simp; rfl)); intro w1469 hst; clear hc1463 hz1464 hc1465 hz1466 hc1467 hz1468; replace HS : Aside0 (Sep FF w [b7 g1144 g1146 a1154 a1155 a1156 a1157, b6 g1146 A1149 l1148.length n1151 a1153, r5 A1149 l1148.length n1151 l1148, b9 g1161 g1144, b10 g1163 a1164, b8 g1460 t1457.1 t1457.2.1 t1457.2.2.1] w1469) := ⟨by rw [hst]; exact HS.out.setAll (l1 := [b7 g1144 g1146 a1154 a1155 a1156 a1157, b6 g1146 A1149 l1148.length n1151 a1153, r5 A1149 l1148.length n1151 l1148, b9 g1161 g1144, b10 g1163 a1164]) (l2 := []) [.int .i64 t1457.1, .int .i64 t1457.2.1, .int .i64 t1457.2.2.1] rfl⟩; clear hst; replace HS : Aside0 (Sep FF w [b7 g1144 g1146 a1154 a1155 a1156 a1157, b6 g1146 A1149 l1148.length n1151 a1153, r5 A1149 l1148.length n1151 l1148, b9 g1161 g1144, b10 g1163 a1164] w1469) := ⟨HS.out.sub (.cons_cons _ (.cons_cons _ (.cons_cons _ (.cons_cons _ (.cons_cons _ (.cons _ .slnil))))))⟩))
    go_ret
    rw [← some_eq H]
    exact ⟨(by first | rfl | (simp [IntKind.wrap_u32]; done)), HS.out⟩

set_option maxHeartbeats 30000000 in
set_option maxRecDepth 100000 in
theorem chain_Add.calls (l1123 : List Int) (a1128 : Int) (a1129 : Int) (a1130 : Int) (a1131 : Int) (a1132 : Int) (a1133 : Int) (a1134 : Int) (g1119 : Nat) (g1121 : Nat) (A1124 : Option Addr) (m1125 : Nat) (n1126 : Nat) (r : Bool × Int × List Int) (w : World)  (HGl0 : Aside0 (Gl 0 #[.int .i64 0, .int .i64 0, .int .i64 0, .int .i64 0, .int .i64 0] (fps [b7 g1119 g1121 a1129 a1130 a1131 a1132, b6 g1121 A1124 m1125 n1126 a1128, r5 A1124 m1125 n1126 l1123]) w)) (HS : Aside0 (Sep (fps [b7 g1119 g1121 a1129 a1130 a1131 a1132, b6 g1121 A1124 m1125 n1126 a1128, r5 A1124 m1125 n1126 l1123]) w [b7 g1119 g1121 a1129 a1130 a1131 a1132, b6 g1121 A1124 m1125 n1126 a1128, r5 A1124 m1125 n1126 l1123] w)) (H : Aside0 (chain_Add.f l1123 a1128 a1129 a1130 a1131 a1132 a1133 a1134 = some r)) :
    Calls Tryd.prog 117 #[.pointer (some ⟨g1119, 0, none⟩), .int .i64 a1133, .int .i64 a1134] w fun e w' => e = .returned (.bool r.1) ∧ Sep (fps [b7 g1119 g1121 a1129 a1130 a1131 a1132, b6 g1121 A1124 m1125 n1126 a1128, r5 A1124 m1125 n1126 l1123]) w [b7 g1119 g1121 a1129 a1130 a1131 a1132, b6 g1121 A1124 m1125 n1126 r.2.1, r5 A1124 m1125 n1126 r.2.2] w' := by
  generalize (fps [b7 g1119 g1121 a1129 a1130 a1131 a1132, b6 g1121 A1124 m1125 n1126 a1128, r5 A1124 m1125 n1126 l1123]) = FF at HS HGl0 ⊢
  obtain rfl := (row_len (HS.out.at2)).symm
  unfold chain_Add.f at H
  go_enter Tryd.func117, Tryd.ntmps117
  go_wp2_with (first | ((with_reducible refine gate_dst (N := 3) rfl ?_); refine box_on ?hg (N := 3) ?hd (cs := #[.pointer (some ⟨g1119, 0, none⟩)]) (t := 25) ?hr ?_; (case hd => rfl); (case hg => rfl); (case hr => first | (go_simp; done) | (go_simp; rfl)); intro g1494 hg w1495 hbox hb; replace HS : Aside0 (Sep FF w [b7 g1119 g1121 a1129 a1130 a1131 a1132, b6 g1121 A1124 l1123.length n1126 a1128, r5 A1124 l1123.length n1126 l1123, b9 g1494 g1119] w1495) := ⟨HS.out.box hg hbox hb⟩; clear hg hbox hb) | ((with_reducible refine gate_dst (N := 5) rfl ?_); refine box_on ?hg (N := 5) ?hd (cs := #[.int .i64 a1134]) (t := 3) ?hr ?_; (case hd => rfl); (case hg => rfl); (case hr => first | (go_simp; done) | (go_simp; rfl)); intro g1497 hg w1498 hbox hb; replace HS : Aside0 (Sep FF w [b7 g1119 g1121 a1129 a1130 a1131 a1132, b6 g1121 A1124 l1123.length n1126 a1128, r5 A1124 l1123.length n1126 l1123, b9 g1494 g1119, b10 g1497 a1134] w1498) := ⟨HS.out.box hg hbox hb⟩; clear hg hbox hb; have hc1500 : w1498.cell? ⟨g1494, 0, none⟩ = some (.pointer (some ⟨g1119, 0, none⟩)) := blk_cellv (HS.out.at3) 0 rfl; have hc1501 : w1498.cell? ⟨g1497, 0, none⟩ = some (.int .i64 a1134) := blk_cellv (HS.out.at4) 0 rfl))
  clear hc1500 hc1501
  obtain ⟨t1502, HA1503, H⟩ := bind_some H
  refine (chain_put_F143.calls l1123 a1128 a1129 a1130 a1131 a1132 a1133 a1134 a1134 g1119 g1121 A1124 l1123.length n1126 g1494 g1497 t1502 _ ⟨HGl0.out.pass HS.out⟩ ⟨HS.out.begin⟩ HA1503).mono ?_
  rintro e_ w1504 ⟨rfl, hS⟩
  replace HS : Aside0 (Sep FF w [b7 g1119 g1121 a1129 a1130 a1131 a1132, b6 g1121 A1124 l1123.length n1126 t1502.2.1, r5 A1124 l1123.length n1126 t1502.2.2, b9 g1494 g1119, b10 g1497 a1134] w1504) := ⟨HS.out.call hS⟩
  clear hS
  replace HS : Aside0 (Sep FF w [b7 g1119 g1121 a1129 a1130 a1131 a1132, b6 g1121 A1124 l1123.length n1126 t1502.2.1, r5 A1124 l1123.length n1126 t1502.2.2] w1504) := ⟨HS.out.sub (.cons_cons _ (.cons_cons _ (.cons_cons _ (.cons _ (.cons _ .slnil)))))⟩
  go_wp2_with fail
  go_ret
  rw [← some_eq H]
  exact ⟨(by first | rfl | (simp [IntKind.wrap_u32]; done)), HS.out⟩

set_option maxHeartbeats 30000000 in
set_option maxRecDepth 100000 in
theorem pool_Open.calls (k : Nat) (l822 : List Int) (a827 : Int) (a828 : Int) (a829 : Int) (a830 : Int) (a831 : Int) (g818 : Nat) (g820 : Nat) (A823 : Option Addr) (m824 : Nat) (n825 : Nat) (r : Bool × Int × List Int) (w : World)  (HGl0 : Aside0 (Gl 0 #[.int .i64 0, .int .i64 0, .int .i64 0, .int .i64 0, .int .i64 0] (fps [b7 g818 g820 a828 a829 a830 a831, b6 g820 A823 m824 n825 a827, r5 A823 m824 n825 l822]) w)) (HS : Aside0 (Sep (fps [b7 g818 g820 a828 a829 a830 a831, b6 g820 A823 m824 n825 a827, r5 A823 m824 n825 l822]) w [b7 g818 g820 a828 a829 a830 a831, b6 g820 A823 m824 n825 a827, r5 A823 m824 n825 l822] w)) (H : Aside0 (pool_Open.f k l822 a827 a828 a829 a830 a831 = some r)) :
    Calls Tryd.prog 62 #[.pointer (some ⟨g818, 0, none⟩)] w fun e w' => e = .returned (.bool r.1) ∧ Sep (fps [b7 g818 g820 a828 a829 a830 a831, b6 g820 A823 m824 n825 a827, r5 A823 m824 n825 l822]) w [b7 g818 g820 a828 a829 a830 a831, b6 g820 A823 m824 n825 r.2.1, r5 A823 m824 n825 r.2.2] w' := by
  generalize (fps [b7 g818 g820 a828 a829 a830 a831, b6 g820 A823 m824 n825 a827, r5 A823 m824 n825 l822]) = FF at HS HGl0 ⊢
  obtain rfl := (row_len (HS.out.at2)).symm
  unfold pool_Open.f at H
  go_enter Tryd.func62, Tryd.ntmps62
  go_wp2_with fail
  obtain ⟨t1518, HA1519, H⟩ := bind_some H
  refine (chain_Len.calls l822 a827 a828 a829 a830 a831 0 g818 g820 A823 l822.length n825 t1518 _ ⟨HGl0.out.pass HS.out⟩ ⟨HS.out.begin⟩ HA1519).mono ?_
  rintro e_ w1520 ⟨rfl, hS⟩
  replace HS : Aside0 (Sep FF w [b7 g818 g820 a828 a829 a830 a831, b6 g820 A823 l822.length n825 t1518.2, r5 A823 l822.length n825 l822] w1520) := ⟨HS.out.call hS⟩
  clear hS
  by_cases c1521 : t1518.1 > 0
  · have H := if_yes c1521 H
    have c1521b0 : decide (0 < t1518.1) = true := decide_eq_true c1521
    clear c1521
    go_wp2_with fail
    go_ret
    rw [← some_eq H]
    exact ⟨(by first | rfl | (simp [IntKind.wrap_u32]; done)), HS.out⟩
  · have H := if_no c1521 H
    have c1521b0 : decide (0 < t1518.1) = false := decide_eq_false c1521
    clear c1521
    go_wp2_with fail
    obtain ⟨t1522, HA1523, H⟩ := bind_some H
    refine (ground_Ground_Conf.calls l822 t1518.2 a828 a829 a830 a831 g818 g820 A823 l822.length n825 t1522 _ ⟨HGl0.out.pass HS.out⟩ ⟨HS.out.begin⟩ HA1523).mono ?_
    rintro e_ w1524 ⟨rfl, hS⟩
    replace HS : Aside0 (Sep FF w [b7 g818 g820 a828 a829 a830 a831, b6 g820 A823 l822.length n825 t1518.2, r5 A823 l822.length n825 l822] w1524) := ⟨HS.out.call hS⟩
    clear hS
    have fl1525 : ∀ w, (Instr.field 30 (.agg #[.int .i64 t1522.1, .int .i64 t1522.2.1, .int .i64 t1522.2.2.1, .int .i64 t1522.2.2.2]) 0).run Tryd.prog w = .ok (.int .i64 t1522.1) w := fun _ => by kernel_rfl
    go_wp2_with fail
    clear fl1525
    obtain ⟨o1536, AL1537, H⟩ := bind_some H
    go_loopg [14] k (fun kq v14 wc => ∃ (x1540 : Int) (x1541 : List Int) (x1542 : Int), v14 = .int .i64 x1540 ∧ Aside0 (pool_Open.lo0 kq a828 a829 a830 a831 t1522 x1540 x1541 x1542 = some o1536) ∧ Aside0 (Sep FF w [b7 g818 g820 a828 a829 a830 a831, b6 g820 A823 l822.length n825 x1542, r5 A823 l822.length n825 x1541] wc))
    case atStart => exact ⟨(0), (l822), (t1518.2), (by first | rfl | (simp [IntKind.wrap_u32]; done)), AL1537, ⟨HS.out⟩⟩
    case round =>
      clear AL1537 HS
      obtain ⟨x1540, x1541, x1542, rfl, AL1537, HS⟩ := hrel
      obtain ⟨w1538, rfl⟩ : ∃ x : World, x = wr := ⟨_, rfl⟩
      cases gk with
      | zero => exact absurd AL1537.out (by simp [pool_Open.lo0])
      | succ k1539 =>
        have AL0 := AL1537.out
        rw [pool_Open.lo0] at AL0
        clear AL1537
        have AL1537 := Aside0.mk AL0
        clear AL0
        by_cases c1543 : x1540 < t1522.1
        · have AL1537 := if_yes c1543 AL1537
          have c1543b0 : decide (x1540 < t1522.1) = true := decide_eq_true c1543
          clear c1543
          go_wp2_with fail
          obtain ⟨t1533, HA1544, AL1537⟩ := bind_some AL1537
          refine (chain_Add.calls x1541 x1542 a828 a829 a830 a831 0 x1540 g818 g820 A823 l822.length n825 t1533 _ ⟨HGl0.out.pass HS.out⟩ ⟨HS.out.begin⟩ HA1544).mono ?_
          rintro e_ w1545 ⟨rfl, hS⟩
          replace HS : Aside0 (Sep FF w [b7 g818 g820 a828 a829 a830 a831, b6 g820 A823 l822.length n825 t1533.2.1, r5 A823 l822.length n825 t1533.2.2] w1545) := ⟨HS.out.call hS⟩
          clear hS
          go_wp2_with fail
          go_roundg k1539
          case measure => exact Nat.lt_succ_self _
          case rel => exact ⟨(wrap64 (x1540 + 1)), (t1533.2.2), (t1533.2.1), (by first | rfl | (simp [IntKind.wrap_u32]; done)), Aside0.mk AL1537.out, ⟨HS.out⟩⟩
        · have AL1537 := if_no c1543 AL1537
          have c1543b0 : decide (x1540 < t1522.1) = false := decide_eq_false c1543
          clear c1543
          have ho := some_eq AL1537
          subst ho
          clear AL1537
          go_wp2_with fail
          go_ret
          rw [← some_eq H]
          exact ⟨(by first | rfl | (simp [IntKind.wrap_u32]; done)), HS.out⟩

set_option maxHeartbeats 30000000 in
set_option maxRecDepth 100000 in
theorem quitrentref10_Open.calls (k : Nat) (a1557 : Int) (r : List Int) (w : World)  (HGl0 : Aside0 (Gl 0 #[.int .i64 0, .int .i64 0, .int .i64 0, .int .i64 0, .int .i64 0] (fps []) w)) (HS : Aside0 (Sep (fps []) w [] w)) (H : Aside0 (quitrentref10_Open.f k a1557 = some r)) :
    Calls Tryd.prog 155 #[.int .i64 a1557] w fun e w' => ∃ (A1597 : Option Addr) (m1598 : Nat) (n1599 : Nat), e = .returned (.slice A1597 m1598 n1599) ∧ Sep (fps []) w [r11 A1597 m1598 n1599 r] w' := by
  unfold quitrentref10_Open.f at H
  go_enter Tryd.func155, Tryd.ntmps155
  go_wp2_with fail
  replace HS : Aside0 (Sep (fps []) w [r11 none 0 0 []] w) := ⟨HS.out.nilrow 3 (Value.int .i64)⟩
  obtain ⟨o1559, AL1560, H⟩ := bind_some H
  go_loopg [3, 4] k (fun kq v3 v4 wc => ∃ (x1565 : Int) (x1566 : List Int) (A1567 : Option Addr) (m1568 : Nat) (n1569 : Nat), v3 = .slice A1567 m1568 n1569 ∧ v4 = .int .i64 x1565 ∧ Aside0 (quitrentref10_Open.lo0 kq a1557 x1565 x1566 = some o1559) ∧ Aside0 (Sep (fps []) w [r11 A1567 m1568 n1569 x1566] wc))
  case atStart => exact ⟨(0), (([] : List Int)), (none), (0), (0), (by first | rfl | (simp [IntKind.wrap_u32]; done)), (by first | rfl | (simp [IntKind.wrap_u32]; done)), AL1560, ⟨HS.out⟩⟩
  case round =>
    clear AL1560 HS
    obtain ⟨x1565, x1566, A1567, m1568, n1569, rfl, rfl, AL1560, HS⟩ := hrel
    obtain ⟨w1561, rfl⟩ : ∃ x : World, x = wr := ⟨_, rfl⟩
    obtain rfl := (row_len (HS.out.at0)).symm
    cases gk with
    | zero => exact absurd AL1560.out (by simp [quitrentref10_Open.lo0])
    | succ k1562 =>
      have AL0 := AL1560.out
      rw [quitrentref10_Open.lo0] at AL0
      clear AL1560
      have AL1560 := Aside0.mk AL0
      clear AL0
      by_cases c1571 : x1565 < a1557
      · have AL1560 := if_yes c1571 AL1560
        have c1571b0 : decide (x1565 < a1557) = true := decide_eq_true c1571
        clear c1571
        by_cases c1575 : x1566.length < 17592186044416
        · have AL1560 := if_yes c1575 AL1560
          have c1575b0 : decide (x1566.length < 17592186044416) = true := decide_eq_true c1575
          clear c1575
          obtain ⟨y1579, HA1580, AL1560⟩ := bind_some AL1560
          go_wp2_with (first | ((with_reducible refine gate_dst (N := 12) rfl ?_); refine slice_on (n := 1) ?hg (N := 12) ?hd (cs := #[.int .i64 x1565]) (t := 3) ?hr ?_; (case hd => rfl); (case hg => rfl); (case hr => first | (go_simp; done) | (go_simp; rfl)); intro g1572 hg w1573 hbox hb; replace HS : Aside0 (Sep (fps []) w [r11 A1567 x1566.length n1569 x1566, b10 g1572 x1565] w1573) := ⟨HS.out.box hg hbox hb⟩; clear hg hbox hb) | ((with_reducible refine gate_dst (N := 13) rfl ?_); refine append_event (l1 := []) (l2 := [b10 g1572 x1565]) rfl (.tmp 10) (.tmp 12) 49 3 (.int .i64 0) 8 rfl Tryd.underlying49 (by kernel_rfl) rfl (by decide) (Value.int .i64) (fun _ => rfl) (.slice A1567 x1566.length n1569) (x1566 : List Int) [x1565] ⟨g1572, 0, none⟩ 1 rfl rfl (blk_news (xs := [x1565]) (HS.out.at1)) HS.out (by have := of_decide_eq_true c1575b0; simp only [List.length_cons, List.length_nil]; omega) HA1580 ?_; intro A1576 n1577 w1578 HS1; replace HS : Aside0 (Sep (fps []) w [r11 A1576 y1579.length n1577 y1579, b10 g1572 x1565] w1578) := ⟨HS1⟩; clear HS1; replace HS : Aside0 (Sep (fps []) w [r11 A1576 y1579.length n1577 y1579] w1578) := ⟨HS.out.sub (.cons_cons _ (.cons _ .slnil))⟩))
          go_roundg k1562
          case measure => exact Nat.lt_succ_self _
          case rel => exact ⟨(wrap64 (x1565 + 1)), (y1579), (A1576), (y1579.length), (n1577), (by first | rfl | (simp [IntKind.wrap_u32]; done)), (by first | rfl | (simp [IntKind.wrap_u32]; done)), Aside0.mk AL1560.out, ⟨HS.out⟩⟩
        · have AL1560 := if_no c1575 AL1560
          have c1575b0 : decide (x1566.length < 17592186044416) = false := decide_eq_false c1575
          clear c1575
          exact (none_no AL1560).elim
      · have AL1560 := if_no c1571 AL1560
        have c1571b0 : decide (x1565 < a1557) = false := decide_eq_false c1571
        clear c1571
        have ho := some_eq AL1560
        subst ho
        clear AL1560
        go_wp2_with fail
        go_ret
        rw [← some_eq H]
        exact ⟨A1567, x1566.length, n1569, (by first | rfl | (simp [IntKind.wrap_u32]; done)), HS.out⟩

set_option maxHeartbeats 30000000 in
set_option maxRecDepth 100000 in
theorem quitrentref11_New.calls (k : Nat) (a1555 : Int) (a1556 : Int) (r : Int × Int × List Int) (w : World)  (HGl0 : Aside0 (Gl 0 #[.int .i64 0, .int .i64 0, .int .i64 0, .int .i64 0, .int .i64 0] (fps []) w)) (HS : Aside0 (Sep (fps []) w [] w)) (H : Aside0 (quitrentref11_New.f k a1555 a1556 = some r)) :
    Calls Tryd.prog 134 #[.int .i64 a1555, .int .i64 a1556] w fun e w' => ∃ (g1621 : Nat), e = .returned (.pointer (some ⟨g1621, 0, none⟩)) ∧ ∃ (A1622 : Option Addr) (m1623 : Nat) (n1624 : Nat), Sep (fps []) w [b12 g1621 r.1 r.2.1 A1622 m1623 n1624, r11 A1622 m1623 n1624 r.2.2] w' := by
  unfold quitrentref11_New.f at H
  go_enter Tryd.func134, Tryd.ntmps134
  go_wp2_with fail
  obtain ⟨t1601, HA1602, H⟩ := bind_some H
  refine (quitrentref10_Open.calls _ a1555 t1601 _ ⟨HGl0.out.pass (l := []) HS.out⟩ ⟨Sep.start _⟩ HA1602).mono ?_
  rintro e_ w1603 ⟨A1605, m1606, n1607, rfl, hS⟩
  replace HS : Aside0 (Sep (fps []) w [r11 A1605 m1606 n1607 t1601] w1603) := ⟨HS.out.call hS⟩
  clear hS
  obtain rfl := (row_len (HS.out.at0)).symm
  go_wp2_with (first | ((with_reducible refine gate_dst (N := 10) rfl ?_); refine box_on ?hg (N := 10) ?hd (cs := #[.int .i64 a1555, .int .i64 a1556, .slice A1605 t1601.length n1607, .slice none 0 0]) (t := 180) ?hr ?_; (case hd => rfl); (case hg => rfl); (case hr => first | (go_simp; done) | (go_simp; rfl)); intro g1609 hg w1610 hbox hb; replace HS : Aside0 (Sep (fps []) w [r11 A1605 t1601.length n1607 t1601, b12 g1609 a1555 a1556 A1605 t1601.length n1607] w1610) := ⟨HS.out.box hg hbox hb⟩; clear hg hbox hb))
  go_ret
  rw [← some_eq H]
  exact ⟨g1609, (by first | rfl | (simp [IntKind.wrap_u32]; done)), A1605, t1601.length, n1607, ((HS.out).front 1 (by simp)).keep (l := [b12 g1609 a1555 a1556 A1605 t1601.length n1607, r11 A1605 t1601.length n1607 t1601]) (rest := [])⟩

set_option maxHeartbeats 30000000 in
set_option maxRecDepth 100000 in
theorem quitrentref12_New.calls (k : Nat) (a1553 : Int) (a1554 : Int) (r : Int × Int × List Int × List Int × List Int) (w : World)  (HGl0 : Aside0 (Gl 0 #[.int .i64 0, .int .i64 0, .int .i64 0, .int .i64 0, .int .i64 0] (fps []) w)) (HS : Aside0 (Sep (fps []) w [] w)) (H : Aside0 (quitrentref12_New.f k a1553 a1554 = some r)) :
    Calls Tryd.prog 96 #[.int .i64 a1553, .int .i64 a1554] w fun e w' => ∃ (g1667 : Nat), e = .returned (.pointer (some ⟨g1667, 0, none⟩)) ∧ ∃ (g1668 : Nat) (A1669 : Option Addr) (m1670 : Nat) (n1671 : Nat) (A1673 : Option Addr) (m1674 : Nat) (n1675 : Nat) (A1677 : Option Addr) (m1678 : Nat) (n1679 : Nat), Sep (fps []) w [b15 g1667 g1668 0 0 0 0 0 0 0 0 0 A1669 m1670 n1671 A1673 m1674 n1675 0, b12 g1668 r.1 r.2.1 A1677 m1678 n1679, r11 A1669 m1670 n1671 r.2.2.1, r11 A1673 m1674 n1675 r.2.2.2.1, r11 A1677 m1678 n1679 r.2.2.2.2] w' := by
  unfold quitrentref12_New.f at H
  go_enter Tryd.func96, Tryd.ntmps96
  go_wp2_with fail
  obtain ⟨t1626, HA1627, H⟩ := bind_some H
  refine (quitrentref11_New.calls _ a1553 a1554 t1626 _ ⟨HGl0.out.pass (l := []) HS.out⟩ ⟨Sep.start _⟩ HA1627).mono ?_
  rintro e_ w1628 ⟨g1631, rfl, A1632, m1633, n1634, hS⟩
  replace HS : Aside0 (Sep (fps []) w [b12 g1631 t1626.1 t1626.2.1 A1632 m1633 n1634, r11 A1632 m1633 n1634 t1626.2.2] w1628) := ⟨HS.out.call hS⟩
  clear hS
  obtain rfl := (row_len (HS.out.at1)).symm
  go_wp2_with (first | ((with_reducible refine gate_dst (N := 9) rfl ?_); refine box_on ?hg (N := 9) ?hd (cs := #[.pointer (some ⟨g1631, 0, none⟩), .slice none 0 0, .int .i64 0, .int .i64 0, .int .i64 0, .int .i64 0, .int .i64 0, .int .i64 0, .int .i64 0, .int .i64 0, .int .i64 0, .slice none 0 0, .slice none 0 0, .int .i64 0]) (t := 162) ?hr ?_; (case hd => rfl); (case hg => rfl); (case hr => first | (go_simp; done) | (go_simp; rfl)); intro g1636 hg w1637 hbox hb; replace HS : Aside0 (Sep (fps []) w [b12 g1631 t1626.1 t1626.2.1 A1632 ((t1626.2.2).length) n1634, r11 A1632 ((t1626.2.2).length) n1634 t1626.2.2, b13 g1636 g1631 0 0 0 0 0 0 0 0 0 0] w1637) := ⟨HS.out.box hg hbox hb⟩; clear hg hbox hb; replace HS : Aside0 (Sep (fps []) w [r11 none 0 0 [], b12 g1631 t1626.1 t1626.2.1 A1632 ((t1626.2.2).length) n1634, r11 A1632 ((t1626.2.2).length) n1634 t1626.2.2, b14 g1636 g1631 0 0 0 0 0 0 0 0 0 none 0 0 0] w1637) := ⟨HS.out.nilrow 3 (Value.int .i64)⟩; replace HS : Aside0 (Sep (fps []) w [r11 none 0 0 [], r11 none 0 0 [], b12 g1631 t1626.1 t1626.2.1 A1632 ((t1626.2.2).length) n1634, r11 A1632 ((t1626.2.2).length) n1634 t1626.2.2, b15 g1636 g1631 0 0 0 0 0 0 0 0 0 none 0 0 none 0 0 0] w1637) := ⟨HS.out.nilrow 3 (Value.int .i64)⟩))
  go_ret
  rw [← some_eq H]
  exact ⟨g1636, (by first | rfl | (simp [IntKind.wrap_u32]; done)), g1631, none, 0, 0, none, 0, 0, A1632, ((t1626.2.2).length), n1634, ((((((HS.out).front 3 (by simp)).front 1 (by simp)).front 2 (by simp)).front 3 (by simp)).front 4 (by simp)).keep (l := [b15 g1636 g1631 0 0 0 0 0 0 0 0 0 none 0 0 none 0 0 0, b12 g1631 t1626.1 t1626.2.1 A1632 ((t1626.2.2).length) n1634, r11 none 0 0 [], r11 none 0 0 [], r11 A1632 ((t1626.2.2).length) n1634 t1626.2.2]) (rest := [])⟩

set_option maxHeartbeats 30000000 in
set_option maxRecDepth 100000 in
theorem pool_Open_nil.calls  (r : Bool) (w : World)  (HGl0 : Aside0 (Gl 0 #[.int .i64 0, .int .i64 0, .int .i64 0, .int .i64 0, .int .i64 0] (fps []) w)) (HS : Aside0 (Sep (fps []) w [] w)) (H : Aside0 (pool_Open_nil.f = some r)) :
    Calls Tryd.prog 62 #[.pointer none] w fun e w' => e = .returned (.bool r) ∧ Sep (fps []) w [] w' := by
  unfold pool_Open_nil.f at H
  go_enter Tryd.func62, Tryd.ntmps62
  go_wp2_with fail
  go_ret
  rw [← some_eq H]
  exact ⟨(by first | rfl | (simp [IntKind.wrap_u32]; done)), HS.out⟩

set_option maxHeartbeats 30000000 in
set_option maxRecDepth 100000 in
theorem quitrentlaw12_Opened.calls (k : Nat) (a2 : Int) (a3 : Int) (a4 : Int) (a5 : Int) (r : Bool ⊕ ((Bool × Int × Int × Int × Int × Int × Int × Int × List Int × List Int × List Int × List Int) ⊕ (Bool × Int × Int × List Int × List Int × List Int))) (w : World)  (HGl0 : Aside0 (Gl 0 #[.int .i64 0, .int .i64 0, .int .i64 0, .int .i64 0, .int .i64 0] (fps []) w)) (HS : Aside0 (Sep (fps []) w [] w)) (H : Aside0 (quitrentlaw12_Opened.f k a2 a3 a4 a5 = some r)) :
    Calls Tryd.prog 33 #[.agg #[.int .i64 a2, .int .i64 a3, .int .i64 a4, .int .i64 a5]] w fun e w' => Sum.elim (fun (r : Bool) => e = .returned (.tuple #[.pointer none, .pointer none, .bool r]) ∧ Sep (fps []) w [] w') (fun (r_ : (Bool × Int × Int × Int × Int × Int × Int × Int × List Int × List Int × List Int × List Int) ⊕ (Bool × Int × Int × List Int × List Int × List Int)) => Sum.elim (fun (r : Bool × Int × Int × Int × Int × Int × Int × Int × List Int × List Int × List Int × List Int) => ∃ (g1944 : Nat) (g1945 : Nat), e = .returned (.tuple #[.pointer (some ⟨g1944, 0, none⟩), .pointer (some ⟨g1945, 0, none⟩), .bool r.1]) ∧ ∃ (g1946 : Nat) (g1947 : Nat) (A1948 : Option Addr) (m1949 : Nat) (n1950 : Nat) (A1952 : Option Addr) (m1953 : Nat) (n1954 : Nat) (A1956 : Option Addr) (m1957 : Nat) (n1958 : Nat) (A1960 : Option Addr) (m1961 : Nat) (n1962 : Nat), Sep (fps []) w [b7 g1944 g1946 r.2.1 r.2.2.1 r.2.2.2.1 r.2.2.2.2.1, b15 g1945 g1947 0 0 0 0 0 0 0 0 0 A1948 m1949 n1950 A1952 m1953 n1954 0, b6 g1946 A1956 m1957 n1958 r.2.2.2.2.2.1, b12 g1947 r.2.2.2.2.2.2.1 r.2.2.2.2.2.2.2.1 A1960 m1961 n1962, r11 A1948 m1949 n1950 r.2.2.2.2.2.2.2.2.1, r11 A1952 m1953 n1954 r.2.2.2.2.2.2.2.2.2.1, r5 A1956 m1957 n1958 r.2.2.2.2.2.2.2.2.2.2.1, r11 A1960 m1961 n1962 r.2.2.2.2.2.2.2.2.2.2.2] w') (fun (r : Bool × Int × Int × List Int × List Int × List Int) => ∃ (g1969 : Nat), e = .returned (.tuple #[.pointer none, .pointer (some ⟨g1969, 0, none⟩), .bool r.1]) ∧ ∃ (g1970 : Nat) (A1971 : Option Addr) (m1972 : Nat) (n1973 : Nat) (A1975 : Option Addr) (m1976 : Nat) (n1977 : Nat) (A1979 : Option Addr) (m1980 : Nat) (n1981 : Nat), Sep (fps []) w [b15 g1969 g1970 0 0 0 0 0 0 0 0 0 A1971 m1972 n1973 A1975 m1976 n1977 0, b12 g1970 r.2.1 r.2.2.1 A1979 m1980 n1981, r11 A1971 m1972 n1973 r.2.2.2.1, r11 A1975 m1976 n1977 r.2.2.2.2.1, r11 A1979 m1980 n1981 r.2.2.2.2.2] w') r_) r := by
  unfold quitrentlaw12_Opened.f at H
  go_enter Tryd.func33, Tryd.ntmps33
  go_wp2_with (first | ((with_reducible refine gate_dst (N := 1) rfl ?_); refine box_on ?hg (N := 1) ?hd (cs := #[.int .i64 a2, .int .i64 a3, .int .i64 a4, .int .i64 a5]) (t := 30) ?hr ?_; (case hd => rfl); (case hg => rfl); (case hr => first | (go_simp; done) | (go_simp; rfl)); intro g1810 hg w1811 hbox hb; replace HS : Aside0 (Sep (fps []) w [b1 g1810 a2 a3 a4 a5] w1811) := ⟨HS.out.box hg hbox hb⟩; clear hg hbox hb; have hc1813 : w1811.cell? ⟨g1810, 0, none⟩ = some (.int .i64 a2) := blk_cellv (HS.out.at0) 0 rfl; have hc1814 : w1811.cell? ⟨g1810, 1, none⟩ = some (.int .i64 a3) := blk_cellv (HS.out.at0) 1 rfl; have hc1815 : w1811.cell? ⟨g1810, 2, none⟩ = some (.int .i64 a4) := blk_cellv (HS.out.at0) 2 rfl; have hc1816 : w1811.cell? ⟨g1810, 3, none⟩ = some (.int .i64 a5) := blk_cellv (HS.out.at0) 3 rfl))
  clear hc1813 hc1814 hc1815 hc1816
  obtain ⟨t1817, HA1818, H⟩ := bind_some H
  rcases t1817 with t1819 | (t1820 | t1821)
  · have H := sum_l H
    refine (ground_New.calls _ a2 a3 a4 a5 (.inl t1819) _ ⟨HGl0.out.pass (l := []) HS.out⟩ ⟨Sep.start _⟩ HA1818).mono ?_
    rintro e_ w1822 ⟨rfl, hS⟩
    replace HS : Aside0 (Sep (fps []) w [b1 g1810 a2 a3 a4 a5] w1822) := ⟨HS.out.call hS⟩
    clear hS
    replace HS : Aside0 (Sep (fps []) w [] w1822) := ⟨HS.out.sub (.cons _ .slnil)⟩
    go_wp2_with fail
    go_ret3
    rw [← some_eq H]
    exact ⟨(by first | rfl | (simp [IntKind.wrap_u32]; done)), HS.out⟩
  · have H := sum_r H
    have H := sum_l H
    refine (ground_New.calls _ a2 a3 a4 a5 (.inr (.inl t1820)) _ ⟨HGl0.out.pass (l := []) HS.out⟩ ⟨Sep.start _⟩ HA1818).mono ?_
    rintro e_ w1823 ⟨g1827, rfl, g1828, A1829, m1830, n1831, hS⟩
    replace HS : Aside0 (Sep (fps []) w [b7 g1827 g1828 t1820.1 t1820.2.1 t1820.2.2.1 t1820.2.2.2.1, b6 g1828 A1829 m1830 n1831 0, r5 A1829 m1830 n1831 t1820.2.2.2.2, b1 g1810 a2 a3 a4 a5] w1823) := ⟨HS.out.call hS⟩
    clear hS
    obtain rfl := (row_len (HS.out.at2)).symm
    go_wp2_with fail
    obtain ⟨t1833, HA1834, H⟩ := bind_some H
    refine (pool_Open.calls _ t1820.2.2.2.2 0 t1820.1 t1820.2.1 t1820.2.2.1 t1820.2.2.2.1 g1827 g1828 A1829 ((t1820.2.2.2.2).length) n1831 t1833 _ ⟨HGl0.out.pass HS.out⟩ ⟨HS.out.begin⟩ HA1834).mono ?_
    rintro e_ w1835 ⟨rfl, hS⟩
    replace HS : Aside0 (Sep (fps []) w [b7 g1827 g1828 t1820.1 t1820.2.1 t1820.2.2.1 t1820.2.2.2.1, b6 g1828 A1829 ((t1820.2.2.2.2).length) n1831 t1833.2.1, r5 A1829 ((t1820.2.2.2.2).length) n1831 t1833.2.2, b1 g1810 a2 a3 a4 a5] w1835) := ⟨HS.out.call hS⟩
    clear hS
    by_cases c1836 : t1833.1 = true
    · have H := if_yes c1836 H
      have c1836b0 : t1833.1 = true := c1836
      have c1836b1 : (!t1833.1) = false := by rw [c1836b0]; rfl
      try rw [c1836b1]
      clear c1836
      have hc1837 : w1835.cell? ⟨g1810, 0, none⟩ = some (.int .i64 a2) := blk_cellv (HS.out.at3) 0 rfl
      have hc1838 : w1835.cell? ⟨g1810, 1, none⟩ = some (.int .i64 a3) := blk_cellv (HS.out.at3) 1 rfl
      go_wp2_with fail
      clear hc1837 hc1838
      obtain ⟨t1839, HA1840, H⟩ := bind_some H
      refine (quitrentref12_New.calls _ a2 a3 t1839 _ ⟨HGl0.out.pass (l := []) HS.out⟩ ⟨Sep.start _⟩ HA1840).mono ?_
      rintro e_ w1841 ⟨g1847, rfl, g1848, A1849, m1850, n1851, A1853, m1854, n1855, A1857, m1858, n1859, hS⟩
      replace HS : Aside0 (Sep (fps []) w [b15 g1847 g1848 0 0 0 0 0 0 0 0 0 A1849 m1850 n1851 A1853 m1854 n1855 0, b12 g1848 t1839.1 t1839.2.1 A1857 m1858 n1859, r11 A1849 m1850 n1851 t1839.2.2.1, r11 A1853 m1854 n1855 t1839.2.2.2.1, r11 A1857 m1858 n1859 t1839.2.2.2.2, b7 g1827 g1828 t1820.1 t1820.2.1 t1820.2.2.1 t1820.2.2.2.1, b6 g1828 A1829 ((t1820.2.2.2.2).length) n1831 t1833.2.1, r5 A1829 ((t1820.2.2.2.2).length) n1831 t1833.2.2, b1 g1810 a2 a3 a4 a5] w1841) := ⟨HS.out.call hS⟩
      clear hS
      obtain rfl := (row_len (HS.out.at2)).symm
      obtain rfl := (row_len (HS.out.at3)).symm
      obtain rfl := (row_len (HS.out.at4)).symm
      replace HS : Aside0 (Sep (fps []) w [b15 g1847 g1848 0 0 0 0 0 0 0 0 0 A1849 ((t1839.2.2.1).length) n1851 A1853 ((t1839.2.2.2.1).length) n1855 0, b12 g1848 t1839.1 t1839.2.1 A1857 ((t1839.2.2.2.2).length) n1859, r11 A1849 ((t1839.2.2.1).length) n1851 t1839.2.2.1, r11 A1853 ((t1839.2.2.2.1).length) n1855 t1839.2.2.2.1, r11 A1857 ((t1839.2.2.2.2).length) n1859 t1839.2.2.2.2, b7 g1827 g1828 t1820.1 t1820.2.1 t1820.2.2.1 t1820.2.2.2.1, b6 g1828 A1829 ((t1820.2.2.2.2).length) n1831 t1833.2.1, r5 A1829 ((t1820.2.2.2.2).length) n1831 t1833.2.2] w1841) := ⟨HS.out.sub (.cons_cons _ (.cons_cons _ (.cons_cons _ (.cons_cons _ (.cons_cons _ (.cons_cons _ (.cons_cons _ (.cons_cons _ (.cons _ .slnil)))))))))⟩
      go_wp2_with fail
      go_ret3
      rw [← some_eq H]
      exact ⟨g1827, g1847, (by first | rfl | (simp [IntKind.wrap_u32]; done)), g1828, g1848, A1849, ((t1839.2.2.1).length), n1851, A1853, ((t1839.2.2.2.1).length), n1855, A1829, ((t1820.2.2.2.2).length), n1831, A1857, ((t1839.2.2.2.2).length), n1859, (((((((((HS.out).front 4 (by simp)).front 7 (by simp)).front 5 (by simp)).front 5 (by simp)).front 5 (by simp)).front 7 (by simp)).front 6 (by simp)).front 7 (by simp)).keep (l := [b7 g1827 g1828 t1820.1 t1820.2.1 t1820.2.2.1 t1820.2.2.2.1, b15 g1847 g1848 0 0 0 0 0 0 0 0 0 A1849 ((t1839.2.2.1).length) n1851 A1853 ((t1839.2.2.2.1).length) n1855 0, b6 g1828 A1829 ((t1820.2.2.2.2).length) n1831 t1833.2.1, b12 g1848 t1839.1 t1839.2.1 A1857 ((t1839.2.2.2.2).length) n1859, r11 A1849 ((t1839.2.2.1).length) n1851 t1839.2.2.1, r11 A1853 ((t1839.2.2.2.1).length) n1855 t1839.2.2.2.1, r5 A1829 ((t1820.2.2.2.2).length) n1831 t1833.2.2, r11 A1857 ((t1839.2.2.2.2).length) n1859 t1839.2.2.2.2]) (rest := [])⟩
    · have H := if_no c1836 H
      have c1836b0 : t1833.1 = false := by simpa using c1836
      have c1836b1 : (!t1833.1) = true := by rw [c1836b0]; rfl
      try rw [c1836b1]
      clear c1836
      replace HS : Aside0 (Sep (fps []) w [] w1835) := ⟨HS.out.sub (.cons _ (.cons _ (.cons _ (.cons _ .slnil))))⟩
      go_wp2_with fail
      go_ret3
      rw [← some_eq H]
      exact ⟨(by first | rfl | (simp [IntKind.wrap_u32]; done)), HS.out⟩
  · have H := sum_r H
    have H := sum_r H
    refine (ground_New.calls _ a2 a3 a4 a5 (.inr (.inr t1821)) _ ⟨HGl0.out.pass (l := []) HS.out⟩ ⟨Sep.start _⟩ HA1818).mono ?_
    rintro e_ w1889 ⟨rfl, hS⟩
    replace HS : Aside0 (Sep (fps []) w [b1 g1810 a2 a3 a4 a5] w1889) := ⟨HS.out.call hS⟩
    clear hS
    by_cases c1890 : t1821 = 0
    · have H := if_yes c1890 H
      have c1890b0 : (t1821 == 0) = true := beq_iff_eq.mpr c1890
      have c1890b1 : (t1821 != 0) = false := bne_eq_false_iff_eq.mpr c1890
      clear c1890
      go_wp2_with fail
      obtain ⟨t1833, HA1891, H⟩ := bind_some H
      refine (pool_Open_nil.calls t1833 _ ⟨HGl0.out.pass (l := []) HS.out⟩ ⟨Sep.start _⟩ HA1891).mono ?_
      rintro e_ w1892 ⟨rfl, hS⟩
      replace HS : Aside0 (Sep (fps []) w [b1 g1810 a2 a3 a4 a5] w1892) := ⟨HS.out.call hS⟩
      clear hS
      by_cases c1893 : t1833 = true
      · have H := if_yes c1893 H
        have c1893b0 : t1833 = true := c1893
        have c1893b1 : (!t1833) = false := by rw [c1893b0]; rfl
        try rw [c1893b1]
        clear c1893
        have hc1894 : w1892.cell? ⟨g1810, 0, none⟩ = some (.int .i64 a2) := blk_cellv (HS.out.at0) 0 rfl
        have hc1895 : w1892.cell? ⟨g1810, 1, none⟩ = some (.int .i64 a3) := blk_cellv (HS.out.at0) 1 rfl
        go_wp2_with fail
        clear hc1894 hc1895
        obtain ⟨t1839, HA1896, H⟩ := bind_some H
        refine (quitrentref12_New.calls _ a2 a3 t1839 _ ⟨HGl0.out.pass (l := []) HS.out⟩ ⟨Sep.start _⟩ HA1896).mono ?_
        rintro e_ w1897 ⟨g1903, rfl, g1904, A1905, m1906, n1907, A1909, m1910, n1911, A1913, m1914, n1915, hS⟩
        replace HS : Aside0 (Sep (fps []) w [b15 g1903 g1904 0 0 0 0 0 0 0 0 0 A1905 m1906 n1907 A1909 m1910 n1911 0, b12 g1904 t1839.1 t1839.2.1 A1913 m1914 n1915, r11 A1905 m1906 n1907 t1839.2.2.1, r11 A1909 m1910 n1911 t1839.2.2.2.1, r11 A1913 m1914 n1915 t1839.2.2.2.2, b1 g1810 a2 a3 a4 a5] w1897) := ⟨HS.out.call hS⟩
        clear hS
        obtain rfl := (row_len (HS.out.at2)).symm
        obtain rfl := (row_len (HS.out.at3)).symm
        obtain rfl := (row_len (HS.out.at4)).symm
        replace HS : Aside0 (Sep (fps []) w [b15 g1903 g1904 0 0 0 0 0 0 0 0 0 A1905 ((t1839.2.2.1).length) n1907 A1909 ((t1839.2.2.2.1).length) n1911 0, b12 g1904 t1839.1 t1839.2.1 A1913 ((t1839.2.2.2.2).length) n1915, r11 A1905 ((t1839.2.2.1).length) n1907 t1839.2.2.1, r11 A1909 ((t1839.2.2.2.1).length) n1911 t1839.2.2.2.1, r11 A1913 ((t1839.2.2.2.2).length) n1915 t1839.2.2.2.2] w1897) := ⟨HS.out.sub (.cons_cons _ (.cons_cons _ (.cons_cons _ (.cons_cons _ (.cons_cons _ (.cons _ .slnil))))))⟩
        go_wp2_with fail
        go_ret3
        rw [← some_eq H]
        exact ⟨g1903, (by first | rfl | (simp [IntKind.wrap_u32]; done)), g1904, A1905, ((t1839.2.2.1).length), n1907, A1909, ((t1839.2.2.2.1).length), n1911, A1913, ((t1839.2.2.2.2).length), n1915, HS.out⟩
      · have H := if_no c1893 H
        have c1893b0 : t1833 = false := by simpa using c1893
        have c1893b1 : (!t1833) = true := by rw [c1893b0]; rfl
        try rw [c1893b1]
        clear c1893
        replace HS : Aside0 (Sep (fps []) w [] w1892) := ⟨HS.out.sub (.cons _ .slnil)⟩
        go_wp2_with fail
        go_ret3
        rw [← some_eq H]
        exact ⟨(by first | rfl | (simp [IntKind.wrap_u32]; done)), HS.out⟩
    · have H := if_no c1890 H
      have c1890b0 : (t1821 == 0) = false := beq_eq_false_iff_ne.mpr c1890
      have c1890b1 : (t1821 != 0) = true := bne_iff_ne.mpr c1890
      clear c1890
      replace HS : Aside0 (Sep (fps []) w [] w1889) := ⟨HS.out.sub (.cons _ .slnil)⟩
      go_wp2_with fail
      go_ret3
      rw [← some_eq H]
      exact ⟨(by first | rfl | (simp [IntKind.wrap_u32]; done)), HS.out⟩

set_option maxHeartbeats 30000000 in
set_option maxRecDepth 100000 in
theorem ground_Ground_Conf_nil.calls  (r : Int × Int × Int × Int) (w : World)  (HGl0 : Aside0 (Gl 0 #[.int .i64 0, .int .i64 0, .int .i64 0, .int .i64 0, .int .i64 0] (fps []) w)) (HS : Aside0 (Sep (fps []) w [] w)) (H : Aside0 (ground_Ground_Conf_nil.f = some r)) :
    Calls Tryd.prog 86 #[.pointer none] w fun e w' => e = .returned (.agg #[.int .i64 r.1, .int .i64 r.2.1, .int .i64 r.2.2.1, .int .i64 r.2.2.2]) ∧ Sep (fps []) w [] w' := by
  unfold ground_Ground_Conf_nil.f at H
  go_enter Tryd.func86, Tryd.ntmps86
  go_wp2_with (first | ((with_reducible refine gate_dst (N := 2) rfl ?_); refine box_on ?hg (N := 2) ?hd (cs := #[.int .i64 0, .int .i64 0, .int .i64 0, .int .i64 0]) (t := 30) ?hr ?_; (case hd => rfl); (case hg => rfl); (case hr => first | (go_simp; done) | (go_simp; rfl)); intro g1997 hg w1998 hbox hb; replace HS : Aside0 (Sep (fps []) w [b1 g1997 0 0 0 0] w1998) := ⟨HS.out.box hg hbox hb⟩; clear hg hbox hb; have hc2000 : w1998.cell? ⟨g1997, 0, none⟩ = some (.int .i64 0) := blk_cellv (HS.out.at0) 0 rfl; have hz2001 : w1998.frozen? ⟨g1997, 0, none⟩ = false := blk_fz (HS.out.at0) 0; have hc2002 : w1998.cell? ⟨g1997, 1, none⟩ = some (.int .i64 0) := blk_cellv (HS.out.at0) 1 rfl; have hz2003 : w1998.frozen? ⟨g1997, 1, none⟩ = false := blk_fz (HS.out.at0) 1; have hc2004 : w1998.cell? ⟨g1997, 2, none⟩ = some (.int .i64 0) := blk_cellv (HS.out.at0) 2 rfl; have hz2005 : w1998.frozen? ⟨g1997, 2, none⟩ = false := blk_fz (HS.out.at0) 2; have hc2006 : w1998.cell? ⟨g1997, 3, none⟩ = some (.int .i64 0) := blk_cellv (HS.out.at0) 3 rfl; have hz2007 : w1998.frozen? ⟨g1997, 3, none⟩ = false := blk_fz (HS.out.at0) 3) | ((with_reducible refine gate_store (t := 30) (p := 2) rfl ?_); refine store_event (w1 := (World.setCell (World.setCell (World.setCell (World.setCell w1998 ⟨g1997, 0, none⟩ (.int .i64 0)) ⟨g1997, 1, none⟩ (.int .i64 0)) ⟨g1997, 2, none⟩ (.int .i64 0)) ⟨g1997, 3, none⟩ (.int .i64 0))) rfl (t := 30) (p := 2) rfl rfl ?hr ?_; (case hr => first | (go_simp; done) | (go_simp; rfl)); intro w2008 hst; clear hc2000 hz2001 hc2002 hz2003 hc2004 hz2005 hc2006 hz2007; replace HS : Aside0 (Sep (fps []) w [b1 g1997 0 0 0 0] w2008) := ⟨by rw [hst]; exact HS.out.setAll (l1 := []) (l2 := []) [.int .i64 0, .int .i64 0, .int .i64 0, .int .i64 0] rfl⟩; clear hst))
  have hc2009 : w2008.cell? ⟨g1997, 0, none⟩ = some (.int .i64 0) := blk_cellv (HS.out.at0) 0 rfl
  have hc2010 : w2008.cell? ⟨g1997, 1, none⟩ = some (.int .i64 0) := blk_cellv (HS.out.at0) 1 rfl
  have hc2011 : w2008.cell? ⟨g1997, 2, none⟩ = some (.int .i64 0) := blk_cellv (HS.out.at0) 2 rfl
  have hc2012 : w2008.cell? ⟨g1997, 3, none⟩ = some (.int .i64 0) := blk_cellv (HS.out.at0) 3 rfl
  refine bodyPost_ret (v := .agg #[.int .i64 0, .int .i64 0, .int .i64 0, .int .i64 0]) (by simp [results, Tryd.results86, go_sem, hc2009, hc2010, hc2011, hc2012]) rfl ?_
  rw [← some_eq H]
  exact ⟨(by first | rfl | (simp [IntKind.wrap_u32]; done)), HS.out.sub (.cons _ .slnil)⟩

set_option maxHeartbeats 30000000 in
set_option maxRecDepth 100000 in
theorem obj_in_nil.calls (a1995 : Int) (r : Bool) (w : World)  (HGl0 : Aside0 (Gl 0 #[.int .i64 0, .int .i64 0, .int .i64 0, .int .i64 0, .int .i64 0] (fps []) w)) (HS : Aside0 (Sep (fps []) w [] w)) (H : Aside0 (obj_in_nil.f a1995 = some r)) :
    Calls Tryd.prog 100 #[.pointer none, .int .i64 a1995] w fun e w' => e = .returned (.bool r) ∧ Sep (fps []) w [] w' := by
  unfold obj_in_nil.f at H
  go_enter Tryd.func100, Tryd.ntmps100
  by_cases c1996 : a1995 > 0
  · have H := if_yes c1996 H
    have c1996b0 : decide (0 < a1995) = true := decide_eq_true c1996
    clear c1996
    go_wp2_with fail
    obtain ⟨t2013, HA2014, H⟩ := bind_some H
    refine (ground_Ground_Conf_nil.calls t2013 _ ⟨HGl0.out.pass (l := []) HS.out⟩ ⟨Sep.start _⟩ HA2014).mono ?_
    rintro e_ w2015 ⟨rfl, hS⟩
    replace HS : Aside0 (Sep (fps []) w [] w2015) := ⟨HS.out.call hS⟩
    clear hS
    have fl2016 : ∀ w, (Instr.field 30 (.agg #[.int .i64 t2013.1, .int .i64 t2013.2.1, .int .i64 t2013.2.2.1, .int .i64 t2013.2.2.2]) 0).run Tryd.prog w = .ok (.int .i64 t2013.1) w := fun _ => by kernel_rfl
    go_wp2_with fail
    clear fl2016
    go_ret
    rw [← some_eq H]
    exact ⟨(by first | rfl | (simp [IntKind.wrap_u32]; done)), HS.out⟩
  · have H := if_no c1996 H
    have c1996b0 : decide (0 < a1995) = false := decide_eq_false c1996
    clear c1996
    go_wp2_with fail
    go_ret
    rw [← some_eq H]
    exact ⟨(by first | rfl | (simp [IntKind.wrap_u32]; done)), HS.out⟩

set_option maxHeartbeats 30000000 in
set_option maxRecDepth 100000 in
theorem ground_Ground_all_nil.calls  (r : Unit) (w : World)  (HGl0 : Aside0 (Gl 0 #[.int .i64 0, .int .i64 0, .int .i64 0, .int .i64 0, .int .i64 0] (fps []) w)) (HS : Aside0 (Sep (fps []) w [] w)) (H : Aside0 (ground_Ground_all_nil.f = some r)) :
    Calls Tryd.prog 70 #[.pointer none] w fun e w' => e = .returned (.pointer none) ∧ Sep (fps []) w [] w' := by
  unfold ground_Ground_all_nil.f at H
  go_enter Tryd.func70, Tryd.ntmps70
  go_wp2_with fail
  go_ret
  clear H
  exact ⟨(by first | rfl | (simp [IntKind.wrap_u32]; done)), HS.out⟩

set_option maxHeartbeats 30000000 in
set_option maxRecDepth 100000 in
theorem ground_Ground_word_nil.calls (a2026 : Int) (a2027 : Int) (r : Int) (w : World)  (HGl0 : Aside0 (Gl 0 #[.int .i64 0, .int .i64 0, .int .i64 0, .int .i64 0, .int .i64 0] (fps []) w)) (HS : Aside0 (Sep (fps []) w [] w)) (H : Aside0 (ground_Ground_word_nil.f a2026 a2027 = some r)) :
    Calls Tryd.prog 72 #[.pointer none, .int .i64 a2026, .int .i64 a2027] w fun e w' => e = .returned (.int .i64 r) ∧ Sep (fps []) w [] w' := by
  unfold ground_Ground_word_nil.f at H
  go_enter Tryd.func72, Tryd.ntmps72
  go_wp2_with fail
  obtain ⟨t2028, HA2029, H⟩ := bind_some H
  refine (ground_Ground_Conf_nil.calls t2028 _ ⟨HGl0.out.pass (l := []) HS.out⟩ ⟨Sep.start _⟩ HA2029).mono ?_
  rintro e_ w2030 ⟨rfl, hS⟩
  replace HS : Aside0 (Sep (fps []) w [] w2030) := ⟨HS.out.call hS⟩
  clear hS
  go_wp2_with (first | ((with_reducible refine gate_dst (N := 7) rfl ?_); refine box_on ?hg (N := 7) ?hd (cs := #[.int .i64 0, .int .i64 0, .int .i64 0, .int .i64 0]) (t := 30) ?hr ?_; (case hd => rfl); (case hg => rfl); (case hr => first | (go_simp; done) | (go_simp; rfl)); intro g2031 hg w2032 hbox hb; replace HS : Aside0 (Sep (fps []) w [b1 g2031 0 0 0 0] w2032) := ⟨HS.out.box hg hbox hb⟩; clear hg hbox hb; have hc2034 : w2032.cell? ⟨g2031, 0, none⟩ = some (.int .i64 0) := blk_cellv (HS.out.at0) 0 rfl; have hz2035 : w2032.frozen? ⟨g2031, 0, none⟩ = false := blk_fz (HS.out.at0) 0; have hc2036 : w2032.cell? ⟨g2031, 1, none⟩ = some (.int .i64 0) := blk_cellv (HS.out.at0) 1 rfl; have hz2037 : w2032.frozen? ⟨g2031, 1, none⟩ = false := blk_fz (HS.out.at0) 1; have hc2038 : w2032.cell? ⟨g2031, 2, none⟩ = some (.int .i64 0) := blk_cellv (HS.out.at0) 2 rfl; have hz2039 : w2032.frozen? ⟨g2031, 2, none⟩ = false := blk_fz (HS.out.at0) 2; have hc2040 : w2032.cell? ⟨g2031, 3, none⟩ = some (.int .i64 0) := blk_cellv (HS.out.at0) 3 rfl; have hz2041 : w2032.frozen? ⟨g2031, 3, none⟩ = false := blk_fz (HS.out.at0) 3) | ((with_reducible refine gate_store (t := 30) (p := 7) rfl ?_); refine store_event (w1 := (World.setCell (World.setCell (World.setCell (World.setCell w2032 ⟨g2031, 0, none⟩ (.int .i64 t2028.1)) ⟨g2031, 1, none⟩ (.int .i64 t2028.2.1)) ⟨g2031, 2, none⟩ (.int .i64 t2028.2.2.1)) ⟨g2031, 3, none⟩ (.int .i64 t2028.2.2.2))) rfl (t := 30) (p := 7) rfl rfl ?hr ?_; (case hr => first | (go_simp; done) | (go_simp; rfl)); intro w2042 hst; clear hc2034 hz2035 hc2036 hz2037 hc2038 hz2039 hc2040 hz2041; replace HS : Aside0 (Sep (fps []) w [b1 g2031 t2028.1 t2028.2.1 t2028.2.2.1 t2028.2.2.2] w2042) := ⟨by rw [hst]; exact HS.out.setAll (l1 := []) (l2 := []) [.int .i64 t2028.1, .int .i64 t2028.2.1, .int .i64 t2028.2.2.1, .int .i64 t2028.2.2.2] rfl⟩; clear hst; have hc2043 : w2042.cell? ⟨g2031, 0, none⟩ = some (.int .i64 t2028.1) := blk_cellv (HS.out.at0) 0 rfl))
  clear hc2043
  obtain ⟨t2044, HA2045, H⟩ := bind_some H
  refine (ground_within.calls a2026 t2028.1 0 t2044 _ ⟨HGl0.out.pass (l := []) HS.out⟩ ⟨Sep.start _⟩ HA2045).mono ?_
  rintro e_ w2046 ⟨rfl, hS⟩
  replace HS : Aside0 (Sep (fps []) w [b1 g2031 t2028.1 t2028.2.1 t2028.2.2.1 t2028.2.2.2] w2046) := ⟨HS.out.call hS⟩
  clear hS
  by_cases c2047 : t2044 = (-1)
  · have H := if_yes c2047 H
    have c2047b0 : (t2044 == (-1)) = true := beq_iff_eq.mpr c2047
    have c2047b1 : (t2044 != (-1)) = false := bne_eq_false_iff_eq.mpr c2047
    clear c2047
    replace HS : Aside0 (Sep (fps []) w [] w2046) := ⟨HS.out.sub (.cons _ .slnil)⟩
    go_wp2_with fail
    go_ret
    rw [← some_eq H]
    exact ⟨(by first | rfl | (simp [IntKind.wrap_u32]; done)), HS.out⟩
  · have H := if_no c2047 H
    have c2047b0 : (t2044 == (-1)) = false := beq_eq_false_iff_ne.mpr c2047
    have c2047b1 : (t2044 != (-1)) = true := bne_iff_ne.mpr c2047
    clear c2047
    have hc2048 : w2046.cell? ⟨g2031, 1, none⟩ = some (.int .i64 t2028.2.1) := blk_cellv (HS.out.at0) 1 rfl
    have hc2049 : w2046.cell? ⟨g2031, 2, none⟩ = some (.int .i64 t2028.2.2.1) := blk_cellv (HS.out.at0) 2 rfl
    go_wp2_with fail
    clear hc2048 hc2049
    obtain ⟨t2050, HA2051, H⟩ := bind_some H
    refine (ground_within.calls a2027 t2028.2.1 (wrap64 ((wrap64 (24 + t2028.2.2.1)) + (wrap64 (a2026 * t2028.2.1)))) t2050 _ ⟨HGl0.out.pass (l := []) HS.out⟩ ⟨Sep.start _⟩ HA2051).mono ?_
    rintro e_ w2052 ⟨rfl, hS⟩
    replace HS : Aside0 (Sep (fps []) w [b1 g2031 t2028.1 t2028.2.1 t2028.2.2.1 t2028.2.2.2] w2052) := ⟨HS.out.call hS⟩
    clear hS
    replace HS : Aside0 (Sep (fps []) w [] w2052) := ⟨HS.out.sub (.cons _ .slnil)⟩
    go_wp2_with fail
    go_ret
    rw [← some_eq H]
    exact ⟨(by first | rfl | (simp [IntKind.wrap_u32]; done)), HS.out⟩

set_option maxHeartbeats 30000000 in
set_option maxRecDepth 100000 in
theorem store_Store_has_nil.calls (a2057 : Int) (r : Bool) (w : World)  (HGl0 : Aside0 (Gl 0 #[.int .i64 0, .int .i64 0, .int .i64 0, .int .i64 0, .int .i64 0] (fps []) w)) (HS : Aside0 (Sep (fps []) w [] w)) (H : Aside0 (store_Store_has_nil.f a2057 = some r)) :
    Calls Tryd.prog 127 #[.pointer none, .int .i64 a2057] w fun e w' => e = .returned (.bool r) ∧ Sep (fps []) w [] w' := by
  unfold store_Store_has_nil.f at H
  go_enter Tryd.func127, Tryd.ntmps127
  go_wp2_with fail
  go_ret
  rw [← some_eq H]
  exact ⟨(by first | rfl | (simp [IntKind.wrap_u32]; done)), HS.out⟩

set_option maxHeartbeats 30000000 in
set_option maxRecDepth 100000 in
theorem store_Store_Get_nil.calls (a2056 : Int) (r : Int) (w : World)  (HGl0 : Aside0 (Gl 0 #[.int .i64 0, .int .i64 0, .int .i64 0, .int .i64 0, .int .i64 0] (fps []) w)) (HS : Aside0 (Sep (fps []) w [] w)) (H : Aside0 (store_Store_Get_nil.f a2056 = some r)) :
    Calls Tryd.prog 130 #[.pointer none, .int .i64 a2056] w fun e w' => e = .returned (.int .u32 r) ∧ Sep (fps []) w [] w' := by
  unfold store_Store_Get_nil.f at H
  go_enter Tryd.func130, Tryd.ntmps130
  go_wp2_with fail
  obtain ⟨t2058, HA2059, H⟩ := bind_some H
  refine (store_Store_has_nil.calls a2056 t2058 _ ⟨HGl0.out.pass (l := []) HS.out⟩ ⟨Sep.start _⟩ HA2059).mono ?_
  rintro e_ w2060 ⟨rfl, hS⟩
  replace HS : Aside0 (Sep (fps []) w [] w2060) := ⟨HS.out.call hS⟩
  clear hS
  by_cases c2061 : t2058 = true
  · have H := if_yes c2061 H
    have c2061b0 : t2058 = true := c2061
    have c2061b1 : (!t2058) = false := by rw [c2061b0]; rfl
    try rw [c2061b1]
    clear c2061
    exact (none_no H).elim
  · have H := if_no c2061 H
    have c2061b0 : t2058 = false := by simpa using c2061
    have c2061b1 : (!t2058) = true := by rw [c2061b0]; rfl
    try rw [c2061b1]
    clear c2061
    go_wp2_with fail
    go_ret
    rw [← some_eq H]
    exact ⟨(by first | rfl | (simp [IntKind.wrap_u32]; done)), HS.out⟩

set_option maxHeartbeats 30000000 in
set_option maxRecDepth 100000 in
theorem ground_Ground_Word_nil.calls (a2021 : Int) (a2022 : Int) (r : Int) (w : World)  (HGl0 : Aside0 (Gl 0 #[.int .i64 0, .int .i64 0, .int .i64 0, .int .i64 0, .int .i64 0] (fps []) w)) (HS : Aside0 (Sep (fps []) w [] w)) (H : Aside0 (ground_Ground_Word_nil.f a2021 a2022 = some r)) :
    Calls Tryd.prog 84 #[.pointer none, .int .i64 a2021, .int .i64 a2022] w fun e w' => e = .returned (.int .u32 r) ∧ Sep (fps []) w [] w' := by
  unfold ground_Ground_Word_nil.f at H
  go_enter Tryd.func84, Tryd.ntmps84
  go_wp2_with fail
  obtain ⟨t2023, HA2024, H⟩ := bind_some H
  refine (ground_Ground_all_nil.calls t2023 _ ⟨HGl0.out.pass (l := []) HS.out⟩ ⟨Sep.start _⟩ HA2024).mono ?_
  rintro e_ w2025 ⟨rfl, hS⟩
  replace HS : Aside0 (Sep (fps []) w [] w2025) := ⟨HS.out.call hS⟩
  clear hS
  go_wp2_with fail
  obtain ⟨t2053, HA2054, H⟩ := bind_some H
  refine (ground_Ground_word_nil.calls a2021 a2022 t2053 _ ⟨HGl0.out.pass (l := []) HS.out⟩ ⟨Sep.start _⟩ HA2054).mono ?_
  rintro e_ w2055 ⟨rfl, hS⟩
  replace HS : Aside0 (Sep (fps []) w [] w2055) := ⟨HS.out.call hS⟩
  clear hS
  go_wp2_with fail
  obtain ⟨t2062, HA2063, H⟩ := bind_some H
  refine (store_Store_Get_nil.calls t2053 t2062 _ ⟨HGl0.out.pass (l := []) HS.out⟩ ⟨Sep.start _⟩ HA2063).mono ?_
  rintro e_ w2064 ⟨rfl, hS⟩
  replace HS : Aside0 (Sep (fps []) w [] w2064) := ⟨HS.out.call hS⟩
  clear hS
  go_wp2_with fail
  go_ret
  rw [← some_eq H]
  exact ⟨(by first | rfl | (simp [IntKind.wrap_u32]; done)), HS.out⟩

set_option maxHeartbeats 30000000 in
set_option maxRecDepth 100000 in
theorem pack_isPiece.calls (a2084 : Int) (a2085 : Int) (r : Bool) (w : World)  (HGl0 : Aside0 (Gl 0 #[.int .i64 0, .int .i64 0, .int .i64 0, .int .i64 0, .int .i64 0] (fps []) w)) (HS : Aside0 (Sep (fps []) w [] w)) (H : Aside0 (pack_isPiece.f a2084 a2085 = some r)) :
    Calls Tryd.prog 75 #[.int .i64 a2084, .int .i64 a2085] w fun e w' => e = .returned (.bool r) ∧ Sep (fps []) w [] w' := by
  unfold pack_isPiece.f at H
  go_enter Tryd.func75, Tryd.ntmps75
  by_cases c2086 : a2084 ≥ 0
  · have H := if_yes c2086 H
    have c2086b0 : decide (0 ≤ a2084) = true := decide_eq_true c2086
    clear c2086
    by_cases c2087 : a2085 ≥ 1
    · have H := if_yes c2087 H
      have c2087b0 : decide (1 ≤ a2085) = true := decide_eq_true c2087
      clear c2087
      by_cases c2088 : a2085 ≤ 32
      · have H := if_yes c2088 H
        have c2088b0 : decide (a2085 ≤ 32) = true := decide_eq_true c2088
        clear c2088
        go_wp2_with fail
        go_ret
        rw [← some_eq H]
        exact ⟨(by first | rfl | (simp [IntKind.wrap_u32]; done)), HS.out⟩
      · have H := if_no c2088 H
        have c2088b0 : decide (a2085 ≤ 32) = false := decide_eq_false c2088
        clear c2088
        go_wp2_with fail
        go_ret
        rw [← some_eq H]
        exact ⟨(by first | rfl | (simp [IntKind.wrap_u32]; done)), HS.out⟩
    · have H := if_no c2087 H
      have c2087b0 : decide (1 ≤ a2085) = false := decide_eq_false c2087
      clear c2087
      go_wp2_with fail
      go_ret
      rw [← some_eq H]
      exact ⟨(by first | rfl | (simp [IntKind.wrap_u32]; done)), HS.out⟩
  · have H := if_no c2086 H
    have c2086b0 : decide (0 ≤ a2084) = false := decide_eq_false c2086
    clear c2086
    go_wp2_with fail
    go_ret
    rw [← some_eq H]
    exact ⟨(by first | rfl | (simp [IntKind.wrap_u32]; done)), HS.out⟩

set_option maxHeartbeats 30000000 in
set_option maxRecDepth 100000 in
theorem pack_mask.calls (a2093 : Int) (a2094 : Int) (r : Int) (w : World)  (HGl0 : Aside0 (Gl 0 #[.int .i64 0, .int .i64 0, .int .i64 0, .int .i64 0, .int .i64 0] (fps []) w)) (HS : Aside0 (Sep (fps []) w [] w)) (H : Aside0 (pack_mask.f a2093 a2094 = some r)) :
    Calls Tryd.prog 76 #[.int .i64 a2093, .int .i64 a2094] w fun e w' => e = .returned (.int .u32 r) ∧ Sep (fps []) w [] w' := by
  unfold pack_mask.f at H
  go_enter Tryd.func76, Tryd.ntmps76
  by_cases c2095 : 0 ≤ (IntKind.u64.wrap (a2094))
  · have H := if_yes c2095 H
    have c2095b0 : decide (0 ≤ (IntKind.u64.wrap (a2094))) = true := decide_eq_true c2095
    by_cases c2096 : 0 ≤ (IntKind.u64.wrap (a2093))
    · have H := if_yes c2096 H
      have c2096b0 : decide (0 ≤ (IntKind.u64.wrap (a2093))) = true := decide_eq_true c2096
      skip
      skip
      go_wp2_with fail
      clear c2095 c2096
      go_ret
      rw [← some_eq H]
      exact ⟨(by first | rfl | (simp [IntKind.wrap_u32]; done)), HS.out⟩
    · have H := if_no c2096 H
      have c2096b0 : decide (0 ≤ (IntKind.u64.wrap (a2093))) = false := decide_eq_false c2096
      exact (none_no H).elim
  · have H := if_no c2095 H
    have c2095b0 : decide (0 ≤ (IntKind.u64.wrap (a2094))) = false := decide_eq_false c2095
    exact (none_no H).elim

set_option maxHeartbeats 30000000 in
set_option maxRecDepth 100000 in
theorem pack_Get.calls (a2081 : Int) (a2082 : Int) (a2083 : Int) (r : Int) (w : World)  (HGl0 : Aside0 (Gl 0 #[.int .i64 0, .int .i64 0, .int .i64 0, .int .i64 0, .int .i64 0] (fps []) w)) (HS : Aside0 (Sep (fps []) w [] w)) (H : Aside0 (pack_Get.f a2081 a2082 a2083 = some r)) :
    Calls Tryd.prog 20 #[.int .u32 a2081, .int .i64 a2082, .int .i64 a2083] w fun e w' => e = .returned (.int .u32 r) ∧ Sep (fps []) w [] w' := by
  unfold pack_Get.f at H
  go_enter Tryd.func20, Tryd.ntmps20
  go_wp2_with fail
  obtain ⟨t2089, HA2090, H⟩ := bind_some H
  refine (pack_isPiece.calls a2082 a2083 t2089 _ ⟨HGl0.out.pass (l := []) HS.out⟩ ⟨Sep.start _⟩ HA2090).mono ?_
  rintro e_ w2091 ⟨rfl, hS⟩
  replace HS : Aside0 (Sep (fps []) w [] w2091) := ⟨HS.out.call hS⟩
  clear hS
  by_cases c2092 : t2089 = true
  · have H := if_yes c2092 H
    have c2092b0 : t2089 = true := c2092
    have c2092b1 : (!t2089) = false := by rw [c2092b0]; rfl
    try rw [c2092b1]
    clear c2092
    go_wp2_with fail
    obtain ⟨t2097, HA2098, H⟩ := bind_some H
    refine (pack_mask.calls a2082 a2083 t2097 _ ⟨HGl0.out.pass (l := []) HS.out⟩ ⟨Sep.start _⟩ HA2098).mono ?_
    rintro e_ w2099 ⟨rfl, hS⟩
    replace HS : Aside0 (Sep (fps []) w [] w2099) := ⟨HS.out.call hS⟩
    clear hS
    by_cases c2100 : 0 ≤ (IntKind.u64.wrap (a2082))
    · have H := if_yes c2100 H
      have c2100b0 : decide (0 ≤ (IntKind.u64.wrap (a2082))) = true := decide_eq_true c2100
      skip
      go_wp2_with fail
      clear c2100
      go_ret
      rw [← some_eq H]
      exact ⟨(by first | rfl | (simp [IntKind.wrap_u32]; done)), HS.out⟩
    · have H := if_no c2100 H
      have c2100b0 : decide (0 ≤ (IntKind.u64.wrap (a2082))) = false := decide_eq_false c2100
      exact (none_no H).elim
  · have H := if_no c2092 H
    have c2092b0 : t2089 = false := by simpa using c2092
    have c2092b1 : (!t2089) = true := by rw [c2092b0]; rfl
    try rw [c2092b1]
    clear c2092
    go_wp2_with fail
    go_ret
    rw [← some_eq H]
    exact ⟨(by first | rfl | (simp [IntKind.wrap_u32]; done)), HS.out⟩

set_option maxHeartbeats 30000000 in
set_option maxRecDepth 100000 in
theorem tag_Unpack_1.calls (a2075 : Int) (a2076 : Int) (a2079 : Int) (g2078 : Nat) (r : Int) (w : World)  (HGl0 : Aside0 (Gl 0 #[.int .i64 0, .int .i64 0, .int .i64 0, .int .i64 0, .int .i64 0] (fps [b16 g2078 a2079]) w)) (HS : Aside0 (Sep (fps [b16 g2078 a2079]) w [b16 g2078 a2079] w)) (H : Aside0 (tag_Unpack_1.f a2075 a2076 a2079 = some r)) :
    Calls Tryd.prog 74 #[.int .i64 a2075, .int .i64 a2076, .pointer (some ⟨g2078, 0, none⟩)] w fun e w' => e = .returned (.int .i64 r) ∧ Sep (fps [b16 g2078 a2079]) w [b16 g2078 a2079] w' := by
  generalize (fps [b16 g2078 a2079]) = FF at HS HGl0 ⊢
  unfold tag_Unpack_1.f at H
  go_enter Tryd.func74, Tryd.ntmps74
  have hc2080 : w.cell? ⟨g2078, 0, none⟩ = some (.int .u32 a2079) := blk_cellv (HS.out.at0) 0 rfl
  go_wp2_with fail
  clear hc2080
  obtain ⟨t2101, HA2102, H⟩ := bind_some H
  refine (pack_Get.calls a2079 a2075 a2076 t2101 _ ⟨HGl0.out.pass (l := []) HS.out⟩ ⟨Sep.start _⟩ HA2102).mono ?_
  rintro e_ w2103 ⟨rfl, hS⟩
  replace HS : Aside0 (Sep FF w [b16 g2078 a2079] w2103) := ⟨HS.out.call hS⟩
  clear hS
  go_wp2_with fail
  go_ret
  rw [← some_eq H]
  exact ⟨(by first | rfl | (simp [IntKind.wrap_u32]; done)), HS.out⟩

set_option maxHeartbeats 30000000 in
set_option maxRecDepth 100000 in
theorem tag_Unpack.calls (a2068 : Int) (r : Int × Int × Int × Int × Int × Int × Int) (w : World)  (HGl0 : Aside0 (Gl 0 #[.int .i64 0, .int .i64 0, .int .i64 0, .int .i64 0, .int .i64 0] (fps []) w)) (HS : Aside0 (Sep (fps []) w [] w)) (H : Aside0 (tag_Unpack.f a2068 = some r)) :
    Calls Tryd.prog 19 #[.int .u32 a2068] w fun e w' => e = .returned (.agg #[.int .i64 r.1, .int .i64 r.2.1, .int .i64 r.2.2.1, .int .i64 r.2.2.2.1, .int .i64 r.2.2.2.2.1, .int .i64 r.2.2.2.2.2.1, .int .i64 r.2.2.2.2.2.2]) ∧ Sep (fps []) w [] w' := by
  unfold tag_Unpack.f at H
  go_enter Tryd.func19, Tryd.ntmps19
  go_wp2_with (first | ((with_reducible refine gate_dst (N := 1) rfl ?_); refine box_on ?hg (N := 1) ?hd (cs := #[.int .u32 a2068]) (t := 33) ?hr ?_; (case hd => rfl); (case hg => rfl); (case hr => first | (go_simp; done) | (go_simp; rfl)); intro g2069 hg w2070 hbox hb; replace HS : Aside0 (Sep (fps []) w [b16 g2069 a2068] w2070) := ⟨HS.out.box hg hbox hb⟩; clear hg hbox hb) | ((with_reducible refine gate_dst (N := 2) rfl ?_); refine box_on ?hg (N := 2) ?hd (cs := #[.int .i64 0, .int .i64 0, .int .i64 0, .int .i64 0, .int .i64 0, .int .i64 0, .int .i64 0]) (t := 32) ?hr ?_; (case hd => rfl); (case hg => rfl); (case hr => first | (go_simp; done) | (go_simp; rfl)); intro g2072 hg w2073 hbox hb; replace HS : Aside0 (Sep (fps []) w [b16 g2069 a2068, b17 g2072 0 0 0 0 0 0 0] w2073) := ⟨HS.out.box hg hbox hb⟩; clear hg hbox hb))
  obtain ⟨t2104, HA2105, H⟩ := bind_some H
  refine (tag_Unpack_1.calls 0 2 a2068 g2069 t2104 _ ⟨HGl0.out.pass HS.out⟩ ⟨HS.out.begin⟩ HA2105).mono ?_
  rintro e_ w2106 ⟨rfl, hS⟩
  replace HS : Aside0 (Sep (fps []) w [b16 g2069 a2068, b17 g2072 0 0 0 0 0 0 0] w2106) := ⟨HS.out.call hS⟩
  clear hS
  go_wp2_with fail
  obtain ⟨t2107, HA2108, H⟩ := bind_some H
  refine (tag_Unpack_1.calls 2 1 a2068 g2069 t2107 _ ⟨HGl0.out.pass HS.out⟩ ⟨HS.out.begin⟩ HA2108).mono ?_
  rintro e_ w2109 ⟨rfl, hS⟩
  replace HS : Aside0 (Sep (fps []) w [b16 g2069 a2068, b17 g2072 0 0 0 0 0 0 0] w2109) := ⟨HS.out.call hS⟩
  clear hS
  go_wp2_with fail
  obtain ⟨t2110, HA2111, H⟩ := bind_some H
  refine (tag_Unpack_1.calls 3 1 a2068 g2069 t2110 _ ⟨HGl0.out.pass HS.out⟩ ⟨HS.out.begin⟩ HA2111).mono ?_
  rintro e_ w2112 ⟨rfl, hS⟩
  replace HS : Aside0 (Sep (fps []) w [b16 g2069 a2068, b17 g2072 0 0 0 0 0 0 0] w2112) := ⟨HS.out.call hS⟩
  clear hS
  go_wp2_with fail
  obtain ⟨t2113, HA2114, H⟩ := bind_some H
  refine (tag_Unpack_1.calls 4 1 a2068 g2069 t2113 _ ⟨HGl0.out.pass HS.out⟩ ⟨HS.out.begin⟩ HA2114).mono ?_
  rintro e_ w2115 ⟨rfl, hS⟩
  replace HS : Aside0 (Sep (fps []) w [b16 g2069 a2068, b17 g2072 0 0 0 0 0 0 0] w2115) := ⟨HS.out.call hS⟩
  clear hS
  go_wp2_with fail
  obtain ⟨t2116, HA2117, H⟩ := bind_some H
  refine (tag_Unpack_1.calls 5 1 a2068 g2069 t2116 _ ⟨HGl0.out.pass HS.out⟩ ⟨HS.out.begin⟩ HA2117).mono ?_
  rintro e_ w2118 ⟨rfl, hS⟩
  replace HS : Aside0 (Sep (fps []) w [b16 g2069 a2068, b17 g2072 0 0 0 0 0 0 0] w2118) := ⟨HS.out.call hS⟩
  clear hS
  go_wp2_with fail
  obtain ⟨t2119, HA2120, H⟩ := bind_some H
  refine (tag_Unpack_1.calls 6 1 a2068 g2069 t2119 _ ⟨HGl0.out.pass HS.out⟩ ⟨HS.out.begin⟩ HA2120).mono ?_
  rintro e_ w2121 ⟨rfl, hS⟩
  replace HS : Aside0 (Sep (fps []) w [b16 g2069 a2068, b17 g2072 0 0 0 0 0 0 0] w2121) := ⟨HS.out.call hS⟩
  clear hS
  go_wp2_with fail
  obtain ⟨t2122, HA2123, H⟩ := bind_some H
  refine (tag_Unpack_1.calls 8 24 a2068 g2069 t2122 _ ⟨HGl0.out.pass HS.out⟩ ⟨HS.out.begin⟩ HA2123).mono ?_
  rintro e_ w2124 ⟨rfl, hS⟩
  replace HS : Aside0 (Sep (fps []) w [b16 g2069 a2068, b17 g2072 0 0 0 0 0 0 0] w2124) := ⟨HS.out.call hS⟩
  clear hS
  have hc2125 : w2124.cell? ⟨g2072, 0, none⟩ = some (.int .i64 0) := blk_cellv (HS.out.at1) 0 rfl
  have hz2126 : w2124.frozen? ⟨g2072, 0, none⟩ = false := blk_fz (HS.out.at1) 0
  have hc2127 : w2124.cell? ⟨g2072, 1, none⟩ = some (.int .i64 0) := blk_cellv (HS.out.at1) 1 rfl
  have hz2128 : w2124.frozen? ⟨g2072, 1, none⟩ = false := blk_fz (HS.out.at1) 1
  have hc2129 : w2124.cell? ⟨g2072, 2, none⟩ = some (.int .i64 0) := blk_cellv (HS.out.at1) 2 rfl
  have hz2130 : w2124.frozen? ⟨g2072, 2, none⟩ = false := blk_fz (HS.out.at1) 2
  have hc2131 : w2124.cell? ⟨g2072, 3, none⟩ = some (.int .i64 0) := blk_cellv (HS.out.at1) 3 rfl
  have hz2132 : w2124.frozen? ⟨g2072, 3, none⟩ = false := blk_fz (HS.out.at1) 3
  have hc2133 : w2124.cell? ⟨g2072, 4, none⟩ = some (.int .i64 0) := blk_cellv (HS.out.at1) 4 rfl
  have hz2134 : w2124.frozen? ⟨g2072, 4, none⟩ = false := blk_fz (HS.out.at1) 4
  have hc2135 : w2124.cell? ⟨g2072, 5, none⟩ = some (.int .i64 0) := blk_cellv (HS.out.at1) 5 rfl
  have hz2136 : w2124.frozen? ⟨g2072, 5, none⟩ = false := blk_fz (HS.out.at1) 5
  have hc2137 : w2124.cell? ⟨g2072, 6, none⟩ = some (.int .i64 0) := blk_cellv (HS.out.at1) 6 rfl
  have hz2138 : w2124.frozen? ⟨g2072, 6, none⟩ = false := blk_fz (HS.out.at1) 6
  go_wp2_with (first | ((with_reducible refine gate_store (t := 32) (p := 2) rfl ?_); refine store_event (w1 := (World.setCell (World.setCell (World.setCell (World.setCell (World.setCell (World.setCell (World.setCell w2124 ⟨g2072, 0, none⟩ (.int .i64 t2104)) ⟨g2072, 1, none⟩ (.int .i64 t2107)) ⟨g2072, 2, none⟩ (.int .i64 t2110)) ⟨g2072, 3, none⟩ (.int .i64 t2113)) ⟨g2072, 4, none⟩ (.int .i64 t2116)) ⟨g2072, 5, none⟩ (.int .i64 t2119)) ⟨g2072, 6, none⟩ (.int .i64 t2122))) rfl (t := 32) (p := 2) rfl rfl ?hr ?_; (case hr => first | (go_simp; done) | (go_simp; rfl)); intro w2139 hst; clear hc2125 hz2126 hc2127 hz2128 hc2129 hz2130 hc2131 hz2132 hc2133 hz2134 hc2135 hz2136 hc2137 hz2138; replace HS : Aside0 (Sep (fps []) w [b16 g2069 a2068, b17 g2072 t2104 t2107 t2110 t2113 t2116 t2119 t2122] w2139) := ⟨by rw [hst]; exact HS.out.setAll (l1 := [b16 g2069 a2068]) (l2 := []) [.int .i64 t2104, .int .i64 t2107, .int .i64 t2110, .int .i64 t2113, .int .i64 t2116, .int .i64 t2119, .int .i64 t2122] rfl⟩; clear hst; replace HS : Aside0 (Sep (fps []) w [b17 g2072 t2104 t2107 t2110 t2113 t2116 t2119 t2122] w2139) := ⟨HS.out.sub (.cons _ (.cons_cons _ .slnil))⟩))
  have hc2140 : w2139.cell? ⟨g2072, 0, none⟩ = some (.int .i64 t2104) := blk_cellv (HS.out.at0) 0 rfl
  have hc2141 : w2139.cell? ⟨g2072, 1, none⟩ = some (.int .i64 t2107) := blk_cellv (HS.out.at0) 1 rfl
  have hc2142 : w2139.cell? ⟨g2072, 2, none⟩ = some (.int .i64 t2110) := blk_cellv (HS.out.at0) 2 rfl
  have hc2143 : w2139.cell? ⟨g2072, 3, none⟩ = some (.int .i64 t2113) := blk_cellv (HS.out.at0) 3 rfl
  have hc2144 : w2139.cell? ⟨g2072, 4, none⟩ = some (.int .i64 t2116) := blk_cellv (HS.out.at0) 4 rfl
  have hc2145 : w2139.cell? ⟨g2072, 5, none⟩ = some (.int .i64 t2119) := blk_cellv (HS.out.at0) 5 rfl
  have hc2146 : w2139.cell? ⟨g2072, 6, none⟩ = some (.int .i64 t2122) := blk_cellv (HS.out.at0) 6 rfl
  refine bodyPost_ret (v := .agg #[.int .i64 t2104, .int .i64 t2107, .int .i64 t2110, .int .i64 t2113, .int .i64 t2116, .int .i64 t2119, .int .i64 t2122]) (by simp [results, Tryd.results19, go_sem, hc2140, hc2141, hc2142, hc2143, hc2144, hc2145, hc2146]) rfl ?_
  rw [← some_eq H]
  exact ⟨(by first | rfl | (simp [IntKind.wrap_u32]; done)), HS.out.sub (.cons _ .slnil)⟩

set_option maxHeartbeats 30000000 in
set_option maxRecDepth 100000 in
theorem obj_isHead.calls (a2151 : Int) (r : Bool) (w : World)  (HGl0 : Aside0 (Gl 0 #[.int .i64 0, .int .i64 0, .int .i64 0, .int .i64 0, .int .i64 0] (fps []) w)) (HS : Aside0 (Sep (fps []) w [] w)) (H : Aside0 (obj_isHead.f a2151 = some r)) :
    Calls Tryd.prog 101 #[.int .i64 a2151] w fun e w' => e = .returned (.bool r) ∧ Sep (fps []) w [] w' := by
  unfold obj_isHead.f at H
  go_enter Tryd.func101, Tryd.ntmps101
  by_cases c2152 : a2151 = 1
  · have H := if_yes c2152 H
    have c2152b0 : (a2151 == 1) = true := beq_iff_eq.mpr c2152
    have c2152b1 : (a2151 != 1) = false := bne_eq_false_iff_eq.mpr c2152
    clear c2152
    go_wp2_with fail
    go_ret
    rw [← some_eq H]
    exact ⟨(by first | rfl | (simp [IntKind.wrap_u32]; done)), HS.out⟩
  · have H := if_no c2152 H
    have c2152b0 : (a2151 == 1) = false := beq_eq_false_iff_ne.mpr c2152
    have c2152b1 : (a2151 != 1) = true := bne_iff_ne.mpr c2152
    clear c2152
    go_wp2_with fail
    go_ret
    rw [← some_eq H]
    exact ⟨(by first | rfl | (simp [IntKind.wrap_u32]; done)), HS.out⟩

set_option maxHeartbeats 30000000 in
set_option maxRecDepth 100000 in
theorem obj_Is_nil.calls (a1994 : Int) (r : Bool) (w : World)  (HGl0 : Aside0 (Gl 0 #[.int .i64 0, .int .i64 0, .int .i64 0, .int .i64 0, .int .i64 0] (fps []) w)) (HS : Aside0 (Sep (fps []) w [] w)) (H : Aside0 (obj_Is_nil.f a1994 = some r)) :
    Calls Tryd.prog 48 #[.pointer none, .int .i64 a1994] w fun e w' => e = .returned (.bool r) ∧ Sep (fps []) w [] w' := by
  unfold obj_Is_nil.f at H
  go_enter Tryd.func48, Tryd.ntmps48
  go_wp2_with fail
  obtain ⟨t2017, HA2018, H⟩ := bind_some H
  refine (obj_in_nil.calls a1994 t2017 _ ⟨HGl0.out.pass (l := []) HS.out⟩ ⟨Sep.start _⟩ HA2018).mono ?_
  rintro e_ w2019 ⟨rfl, hS⟩
  replace HS : Aside0 (Sep (fps []) w [] w2019) := ⟨HS.out.call hS⟩
  clear hS
  by_cases c2020 : t2017 = true
  · have H := if_yes c2020 H
    have c2020b0 : t2017 = true := c2020
    have c2020b1 : (!t2017) = false := by rw [c2020b0]; rfl
    clear c2020
    go_wp2_with fail
    obtain ⟨t2065, HA2066, H⟩ := bind_some H
    refine (ground_Ground_Word_nil.calls (wrap64 (a1994 - 1)) 0 t2065 _ ⟨HGl0.out.pass (l := []) HS.out⟩ ⟨Sep.start _⟩ HA2066).mono ?_
    rintro e_ w2067 ⟨rfl, hS⟩
    replace HS : Aside0 (Sep (fps []) w [] w2067) := ⟨HS.out.call hS⟩
    clear hS
    go_wp2_with fail
    obtain ⟨t2147, HA2148, H⟩ := bind_some H
    refine (tag_Unpack.calls t2065 t2147 _ ⟨HGl0.out.pass (l := []) HS.out⟩ ⟨Sep.start _⟩ HA2148).mono ?_
    rintro e_ w2149 ⟨rfl, hS⟩
    replace HS : Aside0 (Sep (fps []) w [] w2149) := ⟨HS.out.call hS⟩
    clear hS
    have fl2150 : ∀ w, (Instr.field 32 (.agg #[.int .i64 t2147.1, .int .i64 t2147.2.1, .int .i64 t2147.2.2.1, .int .i64 t2147.2.2.2.1, .int .i64 t2147.2.2.2.2.1, .int .i64 t2147.2.2.2.2.2.1, .int .i64 t2147.2.2.2.2.2.2]) 0).run Tryd.prog w = .ok (.int .i64 t2147.1) w := fun _ => by kernel_rfl
    go_wp2_with fail
    clear fl2150
    obtain ⟨t2153, HA2154, H⟩ := bind_some H
    refine (obj_isHead.calls t2147.1 t2153 _ ⟨HGl0.out.pass (l := []) HS.out⟩ ⟨Sep.start _⟩ HA2154).mono ?_
    rintro e_ w2155 ⟨rfl, hS⟩
    replace HS : Aside0 (Sep (fps []) w [] w2155) := ⟨HS.out.call hS⟩
    clear hS
    go_wp2_with fail
    go_ret
    rw [← some_eq H]
    exact ⟨(by first | rfl | (simp [IntKind.wrap_u32]; done)), HS.out⟩
  · have H := if_no c2020 H
    have c2020b0 : t2017 = false := by simpa using c2020
    have c2020b1 : (!t2017) = true := by rw [c2020b0]; rfl
    clear c2020
    go_wp2_with fail
    go_ret
    rw [← some_eq H]
    exact ⟨(by first | rfl | (simp [IntKind.wrap_u32]; done)), HS.out⟩

set_option maxHeartbeats 30000000 in
set_option maxRecDepth 100000 in
theorem store_Store_Put_nil.calls (a2173 : Int) (a2174 : Int) (r : Bool) (w : World)  (HGl0 : Aside0 (Gl 0 #[.int .i64 0, .int .i64 0, .int .i64 0, .int .i64 0, .int .i64 0] (fps []) w)) (HS : Aside0 (Sep (fps []) w [] w)) (H : Aside0 (store_Store_Put_nil.f a2173 a2174 = some r)) :
    Calls Tryd.prog 71 #[.pointer none, .int .i64 a2173, .int .u32 a2174] w fun e w' => e = .returned (.bool r) ∧ Sep (fps []) w [] w' := by
  unfold store_Store_Put_nil.f at H
  go_enter Tryd.func71, Tryd.ntmps71
  go_wp2_with fail
  obtain ⟨t2175, HA2176, H⟩ := bind_some H
  refine (store_Store_has_nil.calls a2173 t2175 _ ⟨HGl0.out.pass (l := []) HS.out⟩ ⟨Sep.start _⟩ HA2176).mono ?_
  rintro e_ w2177 ⟨rfl, hS⟩
  replace HS : Aside0 (Sep (fps []) w [] w2177) := ⟨HS.out.call hS⟩
  clear hS
  by_cases c2178 : t2175 = true
  · have H := if_yes c2178 H
    have c2178b0 : t2175 = true := c2178
    have c2178b1 : (!t2175) = false := by rw [c2178b0]; rfl
    try rw [c2178b1]
    clear c2178
    exact (none_no H).elim
  · have H := if_no c2178 H
    have c2178b0 : t2175 = false := by simpa using c2178
    have c2178b1 : (!t2175) = true := by rw [c2178b0]; rfl
    try rw [c2178b1]
    clear c2178
    go_wp2_with fail
    go_ret
    rw [← some_eq H]
    exact ⟨(by first | rfl | (simp [IntKind.wrap_u32]; done)), HS.out⟩

set_option maxHeartbeats 30000000 in
set_option maxRecDepth 100000 in
theorem ground_Ground_SetWord_nil.calls (a2164 : Int) (a2165 : Int) (a2166 : Int) (r : Bool) (w : World)  (HGl0 : Aside0 (Gl 0 #[.int .i64 0, .int .i64 0, .int .i64 0, .int .i64 0, .int .i64 0] (fps []) w)) (HS : Aside0 (Sep (fps []) w [] w)) (H : Aside0 (ground_Ground_SetWord_nil.f a2164 a2165 a2166 = some r)) :
    Calls Tryd.prog 17 #[.pointer none, .int .i64 a2164, .int .i64 a2165, .int .u32 a2166] w fun e w' => e = .returned (.bool r) ∧ Sep (fps []) w [] w' := by
  unfold ground_Ground_SetWord_nil.f at H
  go_enter Tryd.func17, Tryd.ntmps17
  go_wp2_with fail
  obtain ⟨t2167, HA2168, H⟩ := bind_some H
  refine (ground_Ground_all_nil.calls t2167 _ ⟨HGl0.out.pass (l := []) HS.out⟩ ⟨Sep.start _⟩ HA2168).mono ?_
  rintro e_ w2169 ⟨rfl, hS⟩
  replace HS : Aside0 (Sep (fps []) w [] w2169) := ⟨HS.out.call hS⟩
  clear hS
  go_wp2_with fail
  obtain ⟨t2170, HA2171, H⟩ := bind_some H
  refine (ground_Ground_word_nil.calls a2164 a2165 t2170 _ ⟨HGl0.out.pass (l := []) HS.out⟩ ⟨Sep.start _⟩ HA2171).mono ?_
  rintro e_ w2172 ⟨rfl, hS⟩
  replace HS : Aside0 (Sep (fps []) w [] w2172) := ⟨HS.out.call hS⟩
  clear hS
  go_wp2_with fail
  obtain ⟨t2179, HA2180, H⟩ := bind_some H
  refine (store_Store_Put_nil.calls t2170 a2166 t2179 _ ⟨HGl0.out.pass (l := []) HS.out⟩ ⟨Sep.start _⟩ HA2180).mono ?_
  rintro e_ w2181 ⟨rfl, hS⟩
  replace HS : Aside0 (Sep (fps []) w [] w2181) := ⟨HS.out.call hS⟩
  clear hS
  go_wp2_with fail
  go_ret
  rw [← some_eq H]
  exact ⟨(by first | rfl | (simp [IntKind.wrap_u32]; done)), HS.out⟩

set_option maxHeartbeats 30000000 in
set_option maxRecDepth 100000 in
theorem count_change_nil.calls (a1991 : Int) (a1992 : Int) (a1993 : Int) (r : Int × Bool) (w : World)  (HGl0 : Aside0 (Gl 0 #[.int .i64 0, .int .i64 0, .int .i64 0, .int .i64 0, .int .i64 0] (fps []) w)) (HS : Aside0 (Sep (fps []) w [] w)) (H : Aside0 (count_change_nil.f a1991 a1992 a1993 = some r)) :
    Calls Tryd.prog 103 #[.pointer none, .int .i64 a1991, .int .i64 a1992, .int .i64 a1993] w fun e w' => e = .returned (.tuple #[.int .i64 r.1, .bool r.2]) ∧ Sep (fps []) w [] w' := by
  unfold count_change_nil.f at H
  go_enter Tryd.func103, Tryd.ntmps103
  go_wp2_with fail
  obtain ⟨t2156, HA2157, H⟩ := bind_some H
  refine (obj_Is_nil.calls a1991 t2156 _ ⟨HGl0.out.pass (l := []) HS.out⟩ ⟨Sep.start _⟩ HA2157).mono ?_
  rintro e_ w2158 ⟨rfl, hS⟩
  replace HS : Aside0 (Sep (fps []) w [] w2158) := ⟨HS.out.call hS⟩
  clear hS
  by_cases c2159 : t2156 = true
  · have H := if_yes c2159 H
    have c2159b0 : t2156 = true := c2159
    have c2159b1 : (!t2156) = false := by rw [c2159b0]; rfl
    try rw [c2159b1]
    clear c2159
    go_wp2_with fail
    obtain ⟨t2160, HA2161, H⟩ := bind_some H
    refine (ground_Ground_Word_nil.calls (wrap64 (a1991 - 1)) 3 t2160 _ ⟨HGl0.out.pass (l := []) HS.out⟩ ⟨Sep.start _⟩ HA2161).mono ?_
    rintro e_ w2162 ⟨rfl, hS⟩
    replace HS : Aside0 (Sep (fps []) w [] w2162) := ⟨HS.out.call hS⟩
    clear hS
    by_cases c2163 : (wrap64 (t2160)) = a1993
    · have H := if_yes c2163 H
      have c2163b0 : ((wrap64 (t2160)) == a1993) = true := beq_iff_eq.mpr c2163
      have c2163b1 : ((wrap64 (t2160)) != a1993) = false := bne_eq_false_iff_eq.mpr c2163
      clear c2163
      go_wp2_with fail
      go_ret2
      rw [← some_eq H]
      exact ⟨(by first | rfl | (simp [IntKind.wrap_u32]; done)), HS.out⟩
    · have H := if_no c2163 H
      have c2163b0 : ((wrap64 (t2160)) == a1993) = false := beq_eq_false_iff_ne.mpr c2163
      have c2163b1 : ((wrap64 (t2160)) != a1993) = true := bne_iff_ne.mpr c2163
      clear c2163
      go_wp2_with fail
      obtain ⟨t2182, HA2183, H⟩ := bind_some H
      refine (ground_Ground_SetWord_nil.calls (wrap64 (a1991 - 1)) 3 ((wrap64 ((wrap64 (t2160)) + a1992)) % 4294967296) t2182 _ ⟨HGl0.out.pass (l := []) HS.out⟩ ⟨Sep.start _⟩ HA2183).mono ?_
      rintro e_ w2184 ⟨rfl, hS⟩
      replace HS : Aside0 (Sep (fps []) w [] w2184) := ⟨HS.out.call hS⟩
      clear hS
      go_wp2_with fail
      go_ret2
      rw [← some_eq H]
      exact ⟨(by first | rfl | (simp [IntKind.wrap_u32]; done)), HS.out⟩
  · have H := if_no c2159 H
    have c2159b0 : t2156 = false := by simpa using c2159
    have c2159b1 : (!t2156) = true := by rw [c2159b0]; rfl
    try rw [c2159b1]
    clear c2159
    go_wp2_with fail
    go_ret2
    rw [← some_eq H]
    exact ⟨(by first | rfl | (simp [IntKind.wrap_u32]; done)), HS.out⟩

set_option maxHeartbeats 30000000 in
set_option maxRecDepth 100000 in
theorem count_Up_nil.calls (a1990 : Int) (r : Int × Bool) (w : World)  (HGl0 : Aside0 (Gl 0 #[.int .i64 0, .int .i64 0, .int .i64 0, .int .i64 0, .int .i64 0] (fps []) w)) (HS : Aside0 (Sep (fps []) w [] w)) (H : Aside0 (count_Up_nil.f a1990 = some r)) :
    Calls Tryd.prog 37 #[.pointer none, .int .i64 a1990] w fun e w' => e = .returned (.tuple #[.int .i64 r.1, .bool r.2]) ∧ Sep (fps []) w [] w' := by
  unfold count_Up_nil.f at H
  go_enter Tryd.func37, Tryd.ntmps37
  go_wp2_with fail
  obtain ⟨t2185, HA2186, H⟩ := bind_some H
  refine (count_change_nil.calls a1990 1 4294967295 t2185 _ ⟨HGl0.out.pass (l := []) HS.out⟩ ⟨Sep.start _⟩ HA2186).mono ?_
  rintro e_ w2187 ⟨rfl, hS⟩
  replace HS : Aside0 (Sep (fps []) w [] w2187) := ⟨HS.out.call hS⟩
  clear hS
  go_wp2_with fail
  go_ret2
  rw [← some_eq H]
  exact ⟨(by first | rfl | (simp [IntKind.wrap_u32]; done)), HS.out⟩

set_option maxHeartbeats 30000000 in
set_option maxRecDepth 100000 in
theorem count_Down_nil.calls (a2191 : Int) (r : Int × Bool) (w : World)  (HGl0 : Aside0 (Gl 0 #[.int .i64 0, .int .i64 0, .int .i64 0, .int .i64 0, .int .i64 0] (fps []) w)) (HS : Aside0 (Sep (fps []) w [] w)) (H : Aside0 (count_Down_nil.f a2191 = some r)) :
    Calls Tryd.prog 38 #[.pointer none, .int .i64 a2191] w fun e w' => e = .returned (.tuple #[.int .i64 r.1, .bool r.2]) ∧ Sep (fps []) w [] w' := by
  unfold count_Down_nil.f at H
  go_enter Tryd.func38, Tryd.ntmps38
  go_wp2_with fail
  obtain ⟨t2192, HA2193, H⟩ := bind_some H
  refine (count_change_nil.calls a2191 (-1) 0 t2192 _ ⟨HGl0.out.pass (l := []) HS.out⟩ ⟨Sep.start _⟩ HA2193).mono ?_
  rintro e_ w2194 ⟨rfl, hS⟩
  replace HS : Aside0 (Sep (fps []) w [] w2194) := ⟨HS.out.call hS⟩
  clear hS
  go_wp2_with fail
  go_ret2
  rw [← some_eq H]
  exact ⟨(by first | rfl | (simp [IntKind.wrap_u32]; done)), HS.out⟩

set_option maxHeartbeats 30000000 in
set_option maxRecDepth 100000 in
theorem count_Of_nil.calls (a2212 : Int) (r : Int) (w : World)  (HGl0 : Aside0 (Gl 0 #[.int .i64 0, .int .i64 0, .int .i64 0, .int .i64 0, .int .i64 0] (fps []) w)) (HS : Aside0 (Sep (fps []) w [] w)) (H : Aside0 (count_Of_nil.f a2212 = some r)) :
    Calls Tryd.prog 39 #[.pointer none, .int .i64 a2212] w fun e w' => e = .returned (.int .i64 r) ∧ Sep (fps []) w [] w' := by
  unfold count_Of_nil.f at H
  go_enter Tryd.func39, Tryd.ntmps39
  go_wp2_with fail
  obtain ⟨t2213, HA2214, H⟩ := bind_some H
  refine (obj_Is_nil.calls a2212 t2213 _ ⟨HGl0.out.pass (l := []) HS.out⟩ ⟨Sep.start _⟩ HA2214).mono ?_
  rintro e_ w2215 ⟨rfl, hS⟩
  replace HS : Aside0 (Sep (fps []) w [] w2215) := ⟨HS.out.call hS⟩
  clear hS
  by_cases c2216 : t2213 = true
  · have H := if_yes c2216 H
    have c2216b0 : t2213 = true := c2216
    have c2216b1 : (!t2213) = false := by rw [c2216b0]; rfl
    try rw [c2216b1]
    clear c2216
    go_wp2_with fail
    obtain ⟨t2217, HA2218, H⟩ := bind_some H
    refine (ground_Ground_Word_nil.calls (wrap64 (a2212 - 1)) 3 t2217 _ ⟨HGl0.out.pass (l := []) HS.out⟩ ⟨Sep.start _⟩ HA2218).mono ?_
    rintro e_ w2219 ⟨rfl, hS⟩
    replace HS : Aside0 (Sep (fps []) w [] w2219) := ⟨HS.out.call hS⟩
    clear hS
    go_wp2_with fail
    go_ret
    rw [← some_eq H]
    exact ⟨(by first | rfl | (simp [IntKind.wrap_u32]; done)), HS.out⟩
  · have H := if_no c2216 H
    have c2216b0 : t2213 = false := by simpa using c2216
    have c2216b1 : (!t2213) = true := by rw [c2216b0]; rfl
    try rw [c2216b1]
    clear c2216
    go_wp2_with fail
    go_ret
    rw [← some_eq H]
    exact ⟨(by first | rfl | (simp [IntKind.wrap_u32]; done)), HS.out⟩

set_option maxHeartbeats 30000000 in
set_option maxRecDepth 100000 in
theorem store_Store_Peek_nil.calls (a2245 : Int) (r : Int) (w : World)  (HGl0 : Aside0 (Gl 0 #[.int .i64 0, .int .i64 0, .int .i64 0, .int .i64 0, .int .i64 0] (fps []) w)) (HS : Aside0 (Sep (fps []) w [] w)) (H : Aside0 (store_Store_Peek_nil.f a2245 = some r)) :
    Calls Tryd.prog 73 #[.pointer none, .int .i64 a2245] w fun e w' => e = .returned (.int .u32 r) ∧ Sep (fps []) w [] w' := by
  unfold store_Store_Peek_nil.f at H
  go_enter Tryd.func73, Tryd.ntmps73
  go_wp2_with fail
  obtain ⟨t2246, HA2247, H⟩ := bind_some H
  refine (store_Store_has_nil.calls a2245 t2246 _ ⟨HGl0.out.pass (l := []) HS.out⟩ ⟨Sep.start _⟩ HA2247).mono ?_
  rintro e_ w2248 ⟨rfl, hS⟩
  replace HS : Aside0 (Sep (fps []) w [] w2248) := ⟨HS.out.call hS⟩
  clear hS
  by_cases c2249 : t2246 = true
  · have H := if_yes c2249 H
    have c2249b0 : t2246 = true := c2249
    have c2249b1 : (!t2246) = false := by rw [c2249b0]; rfl
    try rw [c2249b1]
    clear c2249
    exact (none_no H).elim
  · have H := if_no c2249 H
    have c2249b0 : t2246 = false := by simpa using c2249
    have c2249b1 : (!t2246) = true := by rw [c2249b0]; rfl
    try rw [c2249b1]
    clear c2249
    go_wp2_with fail
    go_ret
    rw [← some_eq H]
    exact ⟨(by first | rfl | (simp [IntKind.wrap_u32]; done)), HS.out⟩

set_option maxHeartbeats 30000000 in
set_option maxRecDepth 100000 in
theorem ground_Ground_SeeWord_nil.calls (a2237 : Int) (a2238 : Int) (r : Int) (w : World)  (HGl0 : Aside0 (Gl 0 #[.int .i64 0, .int .i64 0, .int .i64 0, .int .i64 0, .int .i64 0] (fps []) w)) (HS : Aside0 (Sep (fps []) w [] w)) (H : Aside0 (ground_Ground_SeeWord_nil.f a2237 a2238 = some r)) :
    Calls Tryd.prog 18 #[.pointer none, .int .i64 a2237, .int .i64 a2238] w fun e w' => e = .returned (.int .u32 r) ∧ Sep (fps []) w [] w' := by
  unfold ground_Ground_SeeWord_nil.f at H
  go_enter Tryd.func18, Tryd.ntmps18
  go_wp2_with fail
  obtain ⟨t2239, HA2240, H⟩ := bind_some H
  refine (ground_Ground_all_nil.calls t2239 _ ⟨HGl0.out.pass (l := []) HS.out⟩ ⟨Sep.start _⟩ HA2240).mono ?_
  rintro e_ w2241 ⟨rfl, hS⟩
  replace HS : Aside0 (Sep (fps []) w [] w2241) := ⟨HS.out.call hS⟩
  clear hS
  go_wp2_with fail
  obtain ⟨t2242, HA2243, H⟩ := bind_some H
  refine (ground_Ground_word_nil.calls a2237 a2238 t2242 _ ⟨HGl0.out.pass (l := []) HS.out⟩ ⟨Sep.start _⟩ HA2243).mono ?_
  rintro e_ w2244 ⟨rfl, hS⟩
  replace HS : Aside0 (Sep (fps []) w [] w2244) := ⟨HS.out.call hS⟩
  clear hS
  go_wp2_with fail
  obtain ⟨t2250, HA2251, H⟩ := bind_some H
  refine (store_Store_Peek_nil.calls t2242 t2250 _ ⟨HGl0.out.pass (l := []) HS.out⟩ ⟨Sep.start _⟩ HA2251).mono ?_
  rintro e_ w2252 ⟨rfl, hS⟩
  replace HS : Aside0 (Sep (fps []) w [] w2252) := ⟨HS.out.call hS⟩
  clear hS
  go_wp2_with fail
  go_ret
  rw [← some_eq H]
  exact ⟨(by first | rfl | (simp [IntKind.wrap_u32]; done)), HS.out⟩

set_option maxHeartbeats 30000000 in
set_option maxRecDepth 100000 in
theorem shape_isWidth.calls (a2285 : Int) (r : Bool) (w : World)  (HGl0 : Aside0 (Gl 0 #[.int .i64 0, .int .i64 0, .int .i64 0, .int .i64 0, .int .i64 0] (fps []) w)) (HS : Aside0 (Sep (fps []) w [] w)) (H : Aside0 (shape_isWidth.f a2285 = some r)) :
    Calls Tryd.prog 144 #[.int .i64 a2285] w fun e w' => e = .returned (.bool r) ∧ Sep (fps []) w [] w' := by
  unfold shape_isWidth.f at H
  go_enter Tryd.func144, Tryd.ntmps144
  by_cases c2286 : a2285 ≥ 16
  · have H := if_yes c2286 H
    have c2286b0 : decide (16 ≤ a2285) = true := decide_eq_true c2286
    clear c2286
    go_wp2_with fail
    go_ret
    rw [← some_eq H]
    exact ⟨(by first | rfl | (simp [IntKind.wrap_u32]; done)), HS.out⟩
  · have H := if_no c2286 H
    have c2286b0 : decide (16 ≤ a2285) = false := decide_eq_false c2286
    clear c2286
    go_wp2_with fail
    go_ret
    rw [← some_eq H]
    exact ⟨(by first | rfl | (simp [IntKind.wrap_u32]; done)), HS.out⟩

set_option maxHeartbeats 30000000 in
set_option maxRecDepth 100000 in
theorem shape_inHead.calls (a2292 : Int) (r : Int) (w : World)  (HGl0 : Aside0 (Gl 0 #[.int .i64 0, .int .i64 0, .int .i64 0, .int .i64 0, .int .i64 0] (fps []) w)) (HS : Aside0 (Sep (fps []) w [] w)) (H : Aside0 (shape_inHead.f a2292 = some r)) :
    Calls Tryd.prog 146 #[.int .i64 a2292] w fun e w' => e = .returned (.int .i64 r) ∧ Sep (fps []) w [] w' := by
  unfold shape_inHead.f at H
  go_enter Tryd.func146, Tryd.ntmps146
  go_wp2_with fail
  go_ret
  rw [← some_eq H]
  exact ⟨(by first | rfl | (simp [IntKind.wrap_u32]; done)), HS.out⟩

set_option maxHeartbeats 30000000 in
set_option maxRecDepth 100000 in
theorem shape_inLeaf.calls (a2296 : Int) (r : Int) (w : World)  (HGl0 : Aside0 (Gl 0 #[.int .i64 0, .int .i64 0, .int .i64 0, .int .i64 0, .int .i64 0] (fps []) w)) (HS : Aside0 (Sep (fps []) w [] w)) (H : Aside0 (shape_inLeaf.f a2296 = some r)) :
    Calls Tryd.prog 120 #[.int .i64 a2296] w fun e w' => e = .returned (.int .i64 r) ∧ Sep (fps []) w [] w' := by
  unfold shape_inLeaf.f at H
  go_enter Tryd.func120, Tryd.ntmps120
  go_wp2_with fail
  go_ret
  rw [← some_eq H]
  exact ⟨(by first | rfl | (simp [IntKind.wrap_u32]; done)), HS.out⟩

set_option maxHeartbeats 30000000 in
set_option maxRecDepth 100000 in
theorem shape_most.calls (a2291 : Int) (r : Int) (w : World)  (HGl0 : Aside0 (Gl 0 #[.int .i64 0, .int .i64 0, .int .i64 0, .int .i64 0, .int .i64 0] (fps []) w)) (HS : Aside0 (Sep (fps []) w [] w)) (H : Aside0 (shape_most.f a2291 = some r)) :
    Calls Tryd.prog 145 #[.int .i64 a2291] w fun e w' => e = .returned (.int .i64 r) ∧ Sep (fps []) w [] w' := by
  unfold shape_most.f at H
  go_enter Tryd.func145, Tryd.ntmps145
  go_wp2_with fail
  obtain ⟨t2293, HA2294, H⟩ := bind_some H
  refine (shape_inHead.calls a2291 t2293 _ ⟨HGl0.out.pass (l := []) HS.out⟩ ⟨Sep.start _⟩ HA2294).mono ?_
  rintro e_ w2295 ⟨rfl, hS⟩
  replace HS : Aside0 (Sep (fps []) w [] w2295) := ⟨HS.out.call hS⟩
  clear hS
  go_wp2_with fail
  obtain ⟨t2297, HA2298, H⟩ := bind_some H
  refine (shape_inLeaf.calls a2291 t2297 _ ⟨HGl0.out.pass (l := []) HS.out⟩ ⟨Sep.start _⟩ HA2298).mono ?_
  rintro e_ w2299 ⟨rfl, hS⟩
  replace HS : Aside0 (Sep (fps []) w [] w2299) := ⟨HS.out.call hS⟩
  clear hS
  go_wp2_with fail
  go_ret
  rw [← some_eq H]
  exact ⟨(by first | rfl | (simp [IntKind.wrap_u32]; done)), HS.out⟩

set_option maxHeartbeats 30000000 in
set_option maxRecDepth 100000 in
theorem shape_wrong.calls (k : Nat) (a2280 : Int) (l2281 : List Int) (A2282 : Option Addr) (n2283 : Nat) (r : Int) (w : World) (HR2284 : Aside0 (Rd (Kd.int .i64) (fps []) w A2282 l2281.length l2281)) (HGl0 : Aside0 (Gl 0 #[.int .i64 0, .int .i64 0, .int .i64 0, .int .i64 0, .int .i64 0] (fps []) w)) (HS : Aside0 (Sep (fps []) w [] w)) (H : Aside0 (shape_wrong.f k a2280 l2281 = some r)) :
    Calls Tryd.prog 118 #[.int .i64 a2280, .slice A2282 l2281.length n2283] w fun e w' => e = .returned (.int .i64 r) ∧ Sep (fps []) w [] w' := by
  unfold shape_wrong.f at H
  go_enter Tryd.func118, Tryd.ntmps118
  go_wp2_with fail
  obtain ⟨t2287, HA2288, H⟩ := bind_some H
  refine (shape_isWidth.calls a2280 t2287 _ ⟨HGl0.out.pass (l := []) HS.out⟩ ⟨Sep.start _⟩ HA2288).mono ?_
  rintro e_ w2289 ⟨rfl, hS⟩
  replace HS : Aside0 (Sep (fps []) w [] w2289) := ⟨HS.out.call hS⟩
  clear hS
  by_cases c2290 : t2287 = true
  · have H := if_yes c2290 H
    have c2290b0 : t2287 = true := c2290
    have c2290b1 : (!t2287) = false := by rw [c2290b0]; rfl
    try rw [c2290b1]
    clear c2290
    go_wp2_with fail
    obtain ⟨t2300, HA2301, H⟩ := bind_some H
    refine (shape_most.calls a2280 t2300 _ ⟨HGl0.out.pass (l := []) HS.out⟩ ⟨Sep.start _⟩ HA2301).mono ?_
    rintro e_ w2302 ⟨rfl, hS⟩
    replace HS : Aside0 (Sep (fps []) w [] w2302) := ⟨HS.out.call hS⟩
    clear hS
    go_wp2_with fail
    obtain ⟨o2315, AL2316, H⟩ := bind_some H
    go_loopg [5, 15] k (fun kq v5 v15 wc => ∃ (x2319 : Int) (x2320 : Int), v5 = .int .i64 x2319 ∧ v15 = .int .i64 x2320 ∧ Aside0 (shape_wrong.lo0 kq l2281 x2319 x2320 = some o2315) ∧ Aside0 (Sep (fps []) w [] wc))
    case atStart => exact ⟨(t2300), (0), (by first | rfl | (simp [IntKind.wrap_u32]; done)), (by first | rfl | (simp [IntKind.wrap_u32]; done)), AL2316, ⟨HS.out⟩⟩
    case round =>
      clear AL2316 HS
      obtain ⟨x2319, x2320, rfl, rfl, AL2316, HS⟩ := hrel
      obtain ⟨w2317, rfl⟩ : ∃ x : World, x = wr := ⟨_, rfl⟩
      cases gk with
      | zero => exact absurd AL2316.out (by simp [shape_wrong.lo0])
      | succ k2318 =>
        have AL0 := AL2316.out
        rw [shape_wrong.lo0] at AL0
        clear AL2316
        have AL2316 := Aside0.mk AL0
        clear AL0
        by_cases c2321 : x2320 < (l2281.length : Int)
        · have AL2316 := if_yes c2321 AL2316
          have c2321b0 : decide (x2320 < (l2281.length : Int)) = true := decide_eq_true c2321
          clear c2321
          by_cases c2322 : 0 ≤ x2320
          · have AL2316 := if_yes c2322 AL2316
            have c2322b0 : decide (0 ≤ x2320) = true := decide_eq_true c2322
            have c2322p : (0 ≤ x2320) = True := eq_true c2322
            clear c2322
            have ip2323 : (x2320 < (l2281.length : Int)) = True := eq_true (of_decide_eq_true c2321b0)
            by_cases c2325 : (rd l2281 x2320) < 0
            · have AL2316 := if_yes c2325 AL2316
              have c2325b0 : decide ((rd l2281 x2320) < 0) = true := decide_eq_true c2325
              clear c2325
              obtain ⟨hx2324a, hx2324e, hx2324⟩ := Kd.at_int (Rd.read (fun _ _ _ _ h => h) HR2284.out HS.out.fr) x2320 (of_decide_eq_true c2322b0) (of_decide_eq_true c2321b0); cases hx2324e
              go_wp2_with fail
              clear hx2324
              have ho := some_eq AL2316
              subst ho
              have H := lp_ret H
              go_ret
              rw [← some_eq H]
              exact ⟨(by first | rfl | (simp [IntKind.wrap_u32]; done)), HS.out⟩
            · have AL2316 := if_no c2325 AL2316
              have c2325b0 : decide ((rd l2281 x2320) < 0) = false := decide_eq_false c2325
              clear c2325
              by_cases c2326 : (rd l2281 x2320) > x2319
              · have AL2316 := if_yes c2326 AL2316
                have c2326b0 : decide (x2319 < (rd l2281 x2320)) = true := decide_eq_true c2326
                clear c2326
                obtain ⟨hx2324a, hx2324e, hx2324⟩ := Kd.at_int (Rd.read (fun _ _ _ _ h => h) HR2284.out HS.out.fr) x2320 (of_decide_eq_true c2322b0) (of_decide_eq_true c2321b0); cases hx2324e
                go_wp2_with fail
                clear hx2324
                have ho := some_eq AL2316
                subst ho
                have H := lp_ret H
                go_ret
                rw [← some_eq H]
                exact ⟨(by first | rfl | (simp [IntKind.wrap_u32]; done)), HS.out⟩
              · have AL2316 := if_no c2326 AL2316
                have c2326b0 : decide (x2319 < (rd l2281 x2320)) = false := decide_eq_false c2326
                clear c2326
                obtain ⟨hx2324a, hx2324e, hx2324⟩ := Kd.at_int (Rd.read (fun _ _ _ _ h => h) HR2284.out HS.out.fr) x2320 (of_decide_eq_true c2322b0) (of_decide_eq_true c2321b0); cases hx2324e
                go_wp2_with fail
                clear hx2324
                go_roundg k2318
                case measure => exact Nat.lt_succ_self _
                case rel => exact ⟨(wrap64 (x2319 - (rd l2281 x2320))), (wrap64 (x2320 + 1)), (by first | rfl | (simp [IntKind.wrap_u32]; done)), (by first | rfl | (simp [IntKind.wrap_u32]; done)), Aside0.mk AL2316.out, ⟨HS.out⟩⟩
          · have AL2316 := if_no c2322 AL2316
            have c2322b0 : decide (0 ≤ x2320) = false := decide_eq_false c2322
            clear c2322
            exact (none_no AL2316).elim
        · have AL2316 := if_no c2321 AL2316
          have c2321b0 : decide (x2320 < (l2281.length : Int)) = false := decide_eq_false c2321
          clear c2321
          have ho := some_eq AL2316
          subst ho
          clear AL2316
          have H := lp_out H
          go_wp2_with fail
          go_ret
          rw [← some_eq H]
          exact ⟨(by first | rfl | (simp [IntKind.wrap_u32]; done)), HS.out⟩
  · have H := if_no c2290 H
    have c2290b0 : t2287 = false := by simpa using c2290
    have c2290b1 : (!t2287) = true := by rw [c2290b0]; rfl
    try rw [c2290b1]
    clear c2290
    go_wp2_with fail
    go_ret
    rw [← some_eq H]
    exact ⟨(by first | rfl | (simp [IntKind.wrap_u32]; done)), HS.out⟩

set_option maxHeartbeats 30000000 in
set_option maxRecDepth 100000 in
theorem shape_leaves.calls (a2332 : Int) (a2333 : Int) (r : Int) (w : World)  (HGl0 : Aside0 (Gl 0 #[.int .i64 0, .int .i64 0, .int .i64 0, .int .i64 0, .int .i64 0] (fps []) w)) (HS : Aside0 (Sep (fps []) w [] w)) (H : Aside0 (shape_leaves.f a2332 a2333 = some r)) :
    Calls Tryd.prog 119 #[.int .i64 a2332, .int .i64 a2333] w fun e w' => e = .returned (.int .i64 r) ∧ Sep (fps []) w [] w' := by
  unfold shape_leaves.f at H
  go_enter Tryd.func119, Tryd.ntmps119
  go_wp2_with fail
  obtain ⟨t2334, HA2335, H⟩ := bind_some H
  refine (shape_inHead.calls a2332 t2334 _ ⟨HGl0.out.pass (l := []) HS.out⟩ ⟨Sep.start _⟩ HA2335).mono ?_
  rintro e_ w2336 ⟨rfl, hS⟩
  replace HS : Aside0 (Sep (fps []) w [] w2336) := ⟨HS.out.call hS⟩
  clear hS
  by_cases c2337 : a2333 ≤ t2334
  · have H := if_yes c2337 H
    have c2337b0 : decide (a2333 ≤ t2334) = true := decide_eq_true c2337
    clear c2337
    go_wp2_with fail
    go_ret
    rw [← some_eq H]
    exact ⟨(by first | rfl | (simp [IntKind.wrap_u32]; done)), HS.out⟩
  · have H := if_no c2337 H
    have c2337b0 : decide (a2333 ≤ t2334) = false := decide_eq_false c2337
    clear c2337
    go_wp2_with fail
    obtain ⟨t2338, HA2339, H⟩ := bind_some H
    refine (shape_inLeaf.calls a2332 t2338 _ ⟨HGl0.out.pass (l := []) HS.out⟩ ⟨Sep.start _⟩ HA2339).mono ?_
    rintro e_ w2340 ⟨rfl, hS⟩
    replace HS : Aside0 (Sep (fps []) w [] w2340) := ⟨HS.out.call hS⟩
    clear hS
    go_wp2_with fail
    obtain ⟨t2341, HA2342, H⟩ := bind_some H
    refine (ratio_Up.calls a2333 t2338 t2341 _ ⟨HGl0.out.pass (l := []) HS.out⟩ ⟨Sep.start _⟩ HA2342).mono ?_
    rintro e_ w2343 ⟨rfl, hS⟩
    replace HS : Aside0 (Sep (fps []) w [] w2343) := ⟨HS.out.call hS⟩
    clear hS
    go_wp2_with fail
    go_ret
    rw [← some_eq H]
    exact ⟨(by first | rfl | (simp [IntKind.wrap_u32]; done)), HS.out⟩

set_option maxHeartbeats 30000000 in
set_option maxRecDepth 100000 in
theorem shape_Blocks.calls (k : Nat) (a2274 : Int) (a2275 : Int) (a2276 : Int) (r : Int × Int) (w : World)  (HGl0 : Aside0 (Gl 0 #[.int .i64 0, .int .i64 0, .int .i64 0, .int .i64 0, .int .i64 0] (fps []) w)) (HS : Aside0 (Sep (fps []) w [] w)) (H : Aside0 (shape_Blocks.f k a2274 a2275 a2276 = some r)) :
    Calls Tryd.prog 97 #[.int .i64 a2274, .int .i64 a2275, .int .i64 a2276] w fun e w' => e = .returned (.tuple #[.int .i64 r.1, .int .i64 r.2]) ∧ Sep (fps []) w [] w' := by
  unfold shape_Blocks.f at H
  go_enter Tryd.func97, Tryd.ntmps97
  go_wp2_with (first | ((with_reducible refine gate_dst (N := 12) rfl ?_); refine slice_on (n := 2) ?hg (N := 12) ?hd (cs := #[.int .i64 a2275, .int .i64 a2276]) (t := 3) ?hr ?_; (case hd => rfl); (case hg => rfl); (case hr => first | (go_simp; done) | (go_simp; rfl)); intro g2277 hg w2278 hbox hb; replace HS : Aside0 (Sep (fps []) w [b3 g2277 a2275 a2276] w2278) := ⟨HS.out.box hg hbox hb⟩; clear hg hbox hb))
  obtain ⟨t2328, HA2329, H⟩ := bind_some H
  refine (shape_wrong.calls _ a2274 [a2275, a2276] (some ⟨g2277, 0, none⟩) 2 t2328 _ ⟨Rd.lit (l := []) (xs := [a2275, a2276]) HS.out 0 rfl (by simp)⟩ ⟨HGl0.out.pass (l := []) HS.out⟩ ⟨Sep.start _⟩ HA2329).mono ?_
  rintro e_ w2330 ⟨rfl, hS⟩
  replace HS : Aside0 (Sep (fps []) w [b3 g2277 a2275 a2276] w2330) := ⟨HS.out.call hS⟩
  clear hS
  by_cases c2331 : t2328 = 0
  · have H := if_yes c2331 H
    have c2331b0 : (t2328 == 0) = true := beq_iff_eq.mpr c2331
    have c2331b1 : (t2328 != 0) = false := bne_eq_false_iff_eq.mpr c2331
    clear c2331
    replace HS : Aside0 (Sep (fps []) w [] w2330) := ⟨HS.out.sub (.cons _ .slnil)⟩
    go_wp2_with fail
    obtain ⟨t2344, HA2345, H⟩ := bind_some H
    refine (shape_leaves.calls a2274 (wrap64 (a2275 + a2276)) t2344 _ ⟨HGl0.out.pass (l := []) HS.out⟩ ⟨Sep.start _⟩ HA2345).mono ?_
    rintro e_ w2346 ⟨rfl, hS⟩
    replace HS : Aside0 (Sep (fps []) w [] w2346) := ⟨HS.out.call hS⟩
    clear hS
    go_wp2_with fail
    go_ret2
    rw [← some_eq H]
    exact ⟨(by first | rfl | (simp [IntKind.wrap_u32]; done)), HS.out⟩
  · have H := if_no c2331 H
    have c2331b0 : (t2328 == 0) = false := beq_eq_false_iff_ne.mpr c2331
    have c2331b1 : (t2328 != 0) = true := bne_iff_ne.mpr c2331
    clear c2331
    replace HS : Aside0 (Sep (fps []) w [] w2330) := ⟨HS.out.sub (.cons _ .slnil)⟩
    go_wp2_with fail
    go_ret2
    rw [← some_eq H]
    exact ⟨(by first | rfl | (simp [IntKind.wrap_u32]; done)), HS.out⟩

set_option maxHeartbeats 30000000 in
set_option maxRecDepth 100000 in
theorem shape_Place.calls (k : Nat) (a2374 : Int) (a2375 : Int) (a2376 : Int) (r : Int × Int × Int) (w : World)  (HGl0 : Aside0 (Gl 0 #[.int .i64 0, .int .i64 0, .int .i64 0, .int .i64 0, .int .i64 0] (fps []) w)) (HS : Aside0 (Sep (fps []) w [] w)) (H : Aside0 (shape_Place.f k a2374 a2375 a2376 = some r)) :
    Calls Tryd.prog 137 #[.int .i64 a2374, .int .i64 a2375, .int .i64 a2376] w fun e w' => e = .returned (.tuple #[.int .i64 r.1, .int .i64 r.2.1, .int .i64 r.2.2]) ∧ Sep (fps []) w [] w' := by
  unfold shape_Place.f at H
  go_enter Tryd.func137, Tryd.ntmps137
  go_wp2_with (first | ((with_reducible refine gate_dst (N := 12) rfl ?_); refine slice_on (n := 1) ?hg (N := 12) ?hd (cs := #[.int .i64 a2375]) (t := 3) ?hr ?_; (case hd => rfl); (case hg => rfl); (case hr => first | (go_simp; done) | (go_simp; rfl)); intro g2377 hg w2378 hbox hb; replace HS : Aside0 (Sep (fps []) w [b10 g2377 a2375] w2378) := ⟨HS.out.box hg hbox hb⟩; clear hg hbox hb))
  obtain ⟨t2380, HA2381, H⟩ := bind_some H
  refine (shape_wrong.calls _ a2374 [a2375] (some ⟨g2377, 0, none⟩) 1 t2380 _ ⟨Rd.lit (l := []) (xs := [a2375]) HS.out 0 rfl (by simp)⟩ ⟨HGl0.out.pass (l := []) HS.out⟩ ⟨Sep.start _⟩ HA2381).mono ?_
  rintro e_ w2382 ⟨rfl, hS⟩
  replace HS : Aside0 (Sep (fps []) w [b10 g2377 a2375] w2382) := ⟨HS.out.call hS⟩
  clear hS
  by_cases c2383 : t2380 = 0
  · have H := if_yes c2383 H
    have c2383b0 : (t2380 == 0) = true := beq_iff_eq.mpr c2383
    have c2383b1 : (t2380 != 0) = false := bne_eq_false_iff_eq.mpr c2383
    clear c2383
    by_cases c2384 : a2376 < 0
    · have H := if_yes c2384 H
      have c2384b0 : decide (a2376 < 0) = true := decide_eq_true c2384
      clear c2384
      replace HS : Aside0 (Sep (fps []) w [] w2382) := ⟨HS.out.sub (.cons _ .slnil)⟩
      go_wp2_with fail
      go_ret3
      rw [← some_eq H]
      exact ⟨(by first | rfl | (simp [IntKind.wrap_u32]; done)), HS.out⟩
    · have H := if_no c2384 H
      have c2384b0 : decide (a2376 < 0) = false := decide_eq_false c2384
      clear c2384
      by_cases c2385 : a2376 ≥ a2375
      · have H := if_yes c2385 H
        have c2385b0 : decide (a2375 ≤ a2376) = true := decide_eq_true c2385
        clear c2385
        replace HS : Aside0 (Sep (fps []) w [] w2382) := ⟨HS.out.sub (.cons _ .slnil)⟩
        go_wp2_with fail
        go_ret3
        rw [← some_eq H]
        exact ⟨(by first | rfl | (simp [IntKind.wrap_u32]; done)), HS.out⟩
      · have H := if_no c2385 H
        have c2385b0 : decide (a2375 ≤ a2376) = false := decide_eq_false c2385
        clear c2385
        replace HS : Aside0 (Sep (fps []) w [] w2382) := ⟨HS.out.sub (.cons _ .slnil)⟩
        go_wp2_with fail
        obtain ⟨t2386, HA2387, H⟩ := bind_some H
        refine (shape_leaves.calls a2374 a2375 t2386 _ ⟨HGl0.out.pass (l := []) HS.out⟩ ⟨Sep.start _⟩ HA2387).mono ?_
        rintro e_ w2388 ⟨rfl, hS⟩
        replace HS : Aside0 (Sep (fps []) w [] w2388) := ⟨HS.out.call hS⟩
        clear hS
        by_cases c2389 : t2386 = 0
        · have H := if_yes c2389 H
          have c2389b0 : (t2386 == 0) = true := beq_iff_eq.mpr c2389
          have c2389b1 : (t2386 != 0) = false := bne_eq_false_iff_eq.mpr c2389
          clear c2389
          go_wp2_with fail
          go_ret3
          rw [← some_eq H]
          exact ⟨(by first | rfl | (simp [IntKind.wrap_u32]; done)), HS.out⟩
        · have H := if_no c2389 H
          have c2389b0 : (t2386 == 0) = false := beq_eq_false_iff_ne.mpr c2389
          have c2389b1 : (t2386 != 0) = true := bne_iff_ne.mpr c2389
          clear c2389
          go_wp2_with fail
          refine start_ (n := 12) (S := (fun _ => True)) (ds := []) #[false, false, false, false, false, false, false, false, false, false, false, false] (by kernel_rfl) rfl rfl (trivial) (fun hHeld => ?_)
          have HS_ := Aside0.mk HS.out.drew
          clear HS
          generalize World.drew _ = w2391 at HS_ hHeld ⊢
          have HS := HS_
          clear HS_
          refine pure_ (i := 0) (N := some 32) (v := ?_) (a' := ?_) #[true, false, false, false, false, false, false, false, false, false, false, false] rfl rfl (by kernel_rfl) (fun _ _ _ h => h) (Or.inl ⟨by rfl, ?_⟩) ?_ ?_
          rotate_left
          · intro w'
            go_simp
            with_reducible rfl
          rotate_left
          · simp only [Act.put, List.setIfInBounds_toArray, List.set_cons_zero, List.set_cons_succ, i64_w, i32_w]
            rfl
          refine pure_ (i := 1) (N := some 33) (v := ?_) (a' := ?_) #[true, true, false, false, false, false, false, false, false, false, false, false] rfl rfl (by kernel_rfl) (fun _ _ _ h => h) (Or.inl ⟨by rfl, ?_⟩) ?_ ?_
          rotate_left
          · intro w'
            go_simp
            with_reducible rfl
          rotate_left
          · simp only [Act.put, List.setIfInBounds_toArray, List.set_cons_zero, List.set_cons_succ, i64_w, i32_w]
            rfl
          refine pure_ (i := 4) (N := some 36) (v := ?_) (a' := ?_) #[true, true, false, false, true, false, false, false, false, false, false, false] rfl rfl (by kernel_rfl) (fun _ _ _ h => h) (Or.inl ⟨by rfl, ?_⟩) ?_ ?_
          rotate_left
          · intro w'
            go_simp
            with_reducible rfl
          rotate_left
          · simp only [Act.put, List.setIfInBounds_toArray, List.set_cons_zero, List.set_cons_succ, i64_w, i32_w]
            rfl
          refine pure_ (i := 5) (N := some 37) (v := ?_) (a' := ?_) #[true, true, false, false, true, true, false, false, false, false, false, false] rfl rfl (by kernel_rfl) (fun _ _ _ h => h) (Or.inl ⟨by rfl, ?_⟩) ?_ ?_
          rotate_left
          · intro w'
            go_simp
            with_reducible rfl
          rotate_left
          · simp only [Act.put, List.setIfInBounds_toArray, List.set_cons_zero, List.set_cons_succ, i64_w, i32_w]
            rfl
          refine one_ (i := 2) (N := some 34) #[true, true, true, false, true, true, false, false, false, false, false, false] rfl rfl (by kernel_rfl) (by decide) (fun K hK => ?_)
          obtain ⟨t2392, HA2393, H⟩ := bind_some H
          refine goes_ Tryd.func120 (by kernel_rfl) rfl #[.int .i64 a2374] (by rfl) rfl rfl (by (try simp only [List.map_toArray, List.map_cons, List.map_nil]); first | done | rfl) ?_
          refine (shape_inLeaf.calls a2374 t2392 _ ⟨HGl0.out.pass (l := []) HS.out⟩ ⟨Sep.start _⟩ HA2393).mono ?_
          rintro e_ w2394 ⟨rfl, hS⟩
          replace HS : Aside0 (Sep (fps []) w [] w2394) := ⟨HS.out.call hS⟩
          clear hS
          refine ⟨_, rfl, ?_⟩
          refine hK.out _ _ (trivial) (fun hHeld => ?_)
          clear hK K
          refine norm_ (a' := ?_) ?_ ?_
          rotate_left
          · show Act.put _ (some 34) _ = _
            simp only [Act.put, List.setIfInBounds_toArray, List.set_cons_zero, List.set_cons_succ, i64_w, i32_w]
            rfl
          by_cases c2395 : t2392 = 0
          · have H := if_yes c2395 H
            have c2395b0 : (t2392 == 0) = true := beq_iff_eq.mpr c2395
            have c2395b1 : (t2392 != 0) = false := bne_eq_false_iff_eq.mpr c2395
            exact (none_no H).elim
          · have H := if_no c2395 H
            have c2395b0 : (t2392 == 0) = false := beq_eq_false_iff_ne.mpr c2395
            have c2395b1 : (t2392 != 0) = true := bne_iff_ne.mpr c2395
            refine pure_ (i := 3) (N := some 35) (v := ?_) (a' := ?_) #[true, true, true, true, true, true, false, false, false, false, false, false] rfl rfl (by kernel_rfl) (fun _ _ _ h => h) (Or.inl ⟨by rfl, ?_⟩) ?_ ?_
            rotate_left
            · intro w'
              go_simp
              with_reducible rfl
            rotate_left
            · simp only [Act.put, List.setIfInBounds_toArray, List.set_cons_zero, List.set_cons_succ, i64_w, i32_w]
              rfl
            refine one_ (i := 6) (N := some 38) #[true, true, true, true, true, true, true, false, false, false, false, false] rfl rfl (by kernel_rfl) (by decide) (fun K hK => ?_)
            obtain ⟨t2396, HA2397, H⟩ := bind_some H
            refine goes_ Tryd.func120 (by kernel_rfl) rfl #[.int .i64 a2374] (by rfl) rfl rfl (by (try simp only [List.map_toArray, List.map_cons, List.map_nil]); first | done | rfl) ?_
            refine (shape_inLeaf.calls a2374 t2396 _ ⟨HGl0.out.pass (l := []) HS.out⟩ ⟨Sep.start _⟩ HA2397).mono ?_
            rintro e_ w2398 ⟨rfl, hS⟩
            replace HS : Aside0 (Sep (fps []) w [] w2398) := ⟨HS.out.call hS⟩
            clear hS
            refine ⟨_, rfl, ?_⟩
            refine hK.out _ _ (trivial) (fun hHeld => ?_)
            clear hK K
            refine norm_ (a' := ?_) ?_ ?_
            rotate_left
            · show Act.put _ (some 38) _ = _
              simp only [Act.put, List.setIfInBounds_toArray, List.set_cons_zero, List.set_cons_succ, i64_w, i32_w]
              rfl
            by_cases c2399 : t2396 = 0
            · have H := if_yes c2399 H
              have c2399b0 : (t2396 == 0) = true := beq_iff_eq.mpr c2399
              have c2399b1 : (t2396 != 0) = false := bne_eq_false_iff_eq.mpr c2399
              exact (none_no H).elim
            · have H := if_no c2399 H
              have c2399b0 : (t2396 == 0) = false := beq_eq_false_iff_ne.mpr c2399
              have c2399b1 : (t2396 != 0) = true := bne_iff_ne.mpr c2399
              refine pure_ (i := 7) (N := some 39) (v := ?_) (a' := ?_) #[true, true, true, true, true, true, true, true, false, false, false, false] rfl rfl (by kernel_rfl) (fun _ _ _ h => h) (Or.inl ⟨by rfl, ?_⟩) ?_ ?_
              rotate_left
              · intro w'
                go_simp
                with_reducible rfl
              rotate_left
              · simp only [Act.put, List.setIfInBounds_toArray, List.set_cons_zero, List.set_cons_succ, i64_w, i32_w]
                rfl
              refine pure_ (i := 8) (N := some 40) (v := ?_) (a' := ?_) #[true, true, true, true, true, true, true, true, true, false, false, false] rfl rfl (by kernel_rfl) (fun _ _ _ h => h) (Or.inl ⟨by rfl, ?_⟩) ?_ ?_
              rotate_left
              · intro w'
                go_simp
                with_reducible rfl
              rotate_left
              · simp only [Act.put, List.setIfInBounds_toArray, List.set_cons_zero, List.set_cons_succ, i64_w, i32_w]
                rfl
              refine pure_ (i := 9) (N := some 6) (v := ?_) (a' := ?_) #[true, true, true, true, true, true, true, true, true, true, false, false] rfl rfl (by kernel_rfl) (fun _ _ _ h => h) (Or.inl ⟨by rfl, ?_⟩) ?_ ?_
              rotate_left
              · intro w'
                go_simp
                with_reducible rfl
              rotate_left
              · simp only [Act.put, List.setIfInBounds_toArray, List.set_cons_zero, List.set_cons_succ, i64_w, i32_w]
                rfl
              refine pure_ (i := 10) (N := some 7) (v := ?_) (a' := ?_) #[true, true, true, true, true, true, true, true, true, true, true, false] rfl rfl (by kernel_rfl) (fun _ _ _ h => h) (Or.inl ⟨by rfl, ?_⟩) ?_ ?_
              rotate_left
              · intro w'
                go_simp
                with_reducible rfl
              rotate_left
              · simp only [Act.put, List.setIfInBounds_toArray, List.set_cons_zero, List.set_cons_succ, i64_w, i32_w]
                rfl
              refine pure_ (i := 11) (N := some 8) (v := ?_) (a' := ?_) #[true, true, true, true, true, true, true, true, true, true, true, true] rfl rfl (by kernel_rfl) (fun _ _ _ h => h) (Or.inl ⟨by rfl, ?_⟩) ?_ ?_
              rotate_left
              · intro w'
                go_simp
                with_reducible rfl
              rotate_left
              · simp only [Act.put, List.setIfInBounds_toArray, List.set_cons_zero, List.set_cons_succ, i64_w, i32_w]
                rfl
              refine done_ (by kernel_rfl) ?_
              skip
              skip
              go_wp2_with fail
              clear c2395 c2399
              go_ret3
              rw [← some_eq H]
              exact ⟨(by first | rfl | (simp [IntKind.wrap_u32]; done)), HS.out⟩
  · have H := if_no c2383 H
    have c2383b0 : (t2380 == 0) = false := beq_eq_false_iff_ne.mpr c2383
    have c2383b1 : (t2380 != 0) = true := bne_iff_ne.mpr c2383
    clear c2383
    replace HS : Aside0 (Sep (fps []) w [] w2382) := ⟨HS.out.sub (.cons _ .slnil)⟩
    go_wp2_with fail
    go_ret3
    rw [← some_eq H]
    exact ⟨(by first | rfl | (simp [IntKind.wrap_u32]; done)), HS.out⟩

set_option maxHeartbeats 30000000 in
set_option maxRecDepth 100000 in
theorem obj_look_nil.calls (k : Nat) (a2367 : Int) (a2368 : Int) (a2369 : Int) (r : Int) (w : World)  (HGl0 : Aside0 (Gl 0 #[.int .i64 0, .int .i64 0, .int .i64 0, .int .i64 0, .int .i64 0] (fps []) w)) (HS : Aside0 (Sep (fps []) w [] w)) (H : Aside0 (obj_look_nil.f k a2367 a2368 a2369 = some r)) :
    Calls Tryd.prog 102 #[.pointer none, .int .i64 a2367, .int .i64 a2368, .int .i64 a2369] w fun e w' => e = .returned (.int .u32 r) ∧ Sep (fps []) w [] w' := by
  unfold obj_look_nil.f at H
  go_enter Tryd.func102, Tryd.ntmps102
  go_wp2_with fail
  obtain ⟨t2370, HA2371, H⟩ := bind_some H
  refine (ground_Ground_Conf_nil.calls t2370 _ ⟨HGl0.out.pass (l := []) HS.out⟩ ⟨Sep.start _⟩ HA2371).mono ?_
  rintro e_ w2372 ⟨rfl, hS⟩
  replace HS : Aside0 (Sep (fps []) w [] w2372) := ⟨HS.out.call hS⟩
  clear hS
  have fl2373 : ∀ w, (Instr.field 30 (.agg #[.int .i64 t2370.1, .int .i64 t2370.2.1, .int .i64 t2370.2.2.1, .int .i64 t2370.2.2.2]) 1).run Tryd.prog w = .ok (.int .i64 t2370.2.1) w := fun _ => by kernel_rfl
  go_wp2_with fail
  clear fl2373
  obtain ⟨t2400, HA2401, H⟩ := bind_some H
  refine (shape_Place.calls _ t2370.2.1 a2368 a2369 t2400 _ ⟨HGl0.out.pass (l := []) HS.out⟩ ⟨Sep.start _⟩ HA2401).mono ?_
  rintro e_ w2402 ⟨rfl, hS⟩
  replace HS : Aside0 (Sep (fps []) w [] w2402) := ⟨HS.out.call hS⟩
  clear hS
  by_cases c2403 : t2400.2.2 = 0
  · have H := if_yes c2403 H
    have c2403b0 : (t2400.2.2 == 0) = true := beq_iff_eq.mpr c2403
    have c2403b1 : (t2400.2.2 != 0) = false := bne_eq_false_iff_eq.mpr c2403
    clear c2403
    by_cases c2404 : t2400.1 < 0
    · have H := if_yes c2404 H
      have c2404b0 : decide (t2400.1 < 0) = true := decide_eq_true c2404
      clear c2404
      go_wp2_with fail
      obtain ⟨t2405, HA2406, H⟩ := bind_some H
      refine (ground_Ground_SeeWord_nil.calls (wrap64 (a2367 - 1)) t2400.2.1 t2405 _ ⟨HGl0.out.pass (l := []) HS.out⟩ ⟨Sep.start _⟩ HA2406).mono ?_
      rintro e_ w2407 ⟨rfl, hS⟩
      replace HS : Aside0 (Sep (fps []) w [] w2407) := ⟨HS.out.call hS⟩
      clear hS
      go_wp2_with fail
      go_ret
      rw [← some_eq H]
      exact ⟨(by first | rfl | (simp [IntKind.wrap_u32]; done)), HS.out⟩
    · have H := if_no c2404 H
      have c2404b0 : decide (t2400.1 < 0) = false := decide_eq_false c2404
      clear c2404
      go_wp2_with fail
      obtain ⟨t2408, HA2409, H⟩ := bind_some H
      refine (ground_Ground_SeeWord_nil.calls (wrap64 (a2367 - 1)) (wrap64 (8 + t2400.1)) t2408 _ ⟨HGl0.out.pass (l := []) HS.out⟩ ⟨Sep.start _⟩ HA2409).mono ?_
      rintro e_ w2410 ⟨rfl, hS⟩
      replace HS : Aside0 (Sep (fps []) w [] w2410) := ⟨HS.out.call hS⟩
      clear hS
      go_wp2_with fail
      obtain ⟨t2411, HA2412, H⟩ := bind_some H
      refine (ground_Ground_SeeWord_nil.calls (wrap64 ((wrap64 (t2408)) - 1)) t2400.2.1 t2411 _ ⟨HGl0.out.pass (l := []) HS.out⟩ ⟨Sep.start _⟩ HA2412).mono ?_
      rintro e_ w2413 ⟨rfl, hS⟩
      replace HS : Aside0 (Sep (fps []) w [] w2413) := ⟨HS.out.call hS⟩
      clear hS
      go_wp2_with fail
      go_ret
      rw [← some_eq H]
      exact ⟨(by first | rfl | (simp [IntKind.wrap_u32]; done)), HS.out⟩
  · have H := if_no c2403 H
    have c2403b0 : (t2400.2.2 == 0) = false := beq_eq_false_iff_ne.mpr c2403
    have c2403b1 : (t2400.2.2 != 0) = true := bne_iff_ne.mpr c2403
    clear c2403
    go_wp2_with fail
    go_ret
    rw [← some_eq H]
    exact ⟨(by first | rfl | (simp [IntKind.wrap_u32]; done)), HS.out⟩

set_option maxHeartbeats 30000000 in
set_option maxRecDepth 100000 in
theorem obj_See_nil.calls (k : Nat) (a2225 : Int) (r : Bool × List Int × List Int) (w : World)  (HGl0 : Aside0 (Gl 0 #[.int .i64 0, .int .i64 0, .int .i64 0, .int .i64 0, .int .i64 0] (fps []) w)) (HS : Aside0 (Sep (fps []) w [] w)) (H : Aside0 (obj_See_nil.f k a2225 = some r)) :
    Calls Tryd.prog 36 #[.pointer none, .int .i64 a2225] w fun e w' => ∃ (A2687 : Option Addr) (m2688 : Nat) (n2689 : Nat) (A2691 : Option Addr) (m2692 : Nat) (n2693 : Nat), e = .returned (.tuple #[.agg #[.slice A2687 m2688 n2689, .slice A2691 m2692 n2693], .bool r.1]) ∧ Sep (fps []) w [r11 A2687 m2688 n2689 r.2.1, r5 A2691 m2692 n2693 r.2.2] w' := by
  unfold obj_See_nil.f at H
  go_enter Tryd.func36, Tryd.ntmps36
  go_wp2_with (first | ((with_reducible refine gate_dst (N := 4) rfl ?_); refine box_on ?hg (N := 4) ?hd (cs := #[.slice none 0 0, .slice none 0 0]) (t := 71) ?hr ?_; (case hd => rfl); (case hg => rfl); (case hr => first | (go_simp; done) | (go_simp; rfl)); intro g2226 hg w2227 hbox hb; replace HS : Aside0 (Sep (fps []) w [b18 g2226] w2227) := ⟨HS.out.box hg hbox hb⟩; clear hg hbox hb; replace HS : Aside0 (Sep (fps []) w [r11 none 0 0 [], b19 g2226 none 0 0] w2227) := ⟨HS.out.nilrow 3 (Value.int .i64)⟩; replace HS : Aside0 (Sep (fps []) w [r5 none 0 0 [], r11 none 0 0 [], b20 g2226 none 0 0 none 0 0] w2227) := ⟨HS.out.nilrow 33 (Value.int .u32)⟩))
  obtain ⟨t2233, HA2234, H⟩ := bind_some H
  refine (obj_in_nil.calls a2225 t2233 _ ⟨HGl0.out.pass (l := []) HS.out⟩ ⟨Sep.start _⟩ HA2234).mono ?_
  rintro e_ w2235 ⟨rfl, hS⟩
  replace HS : Aside0 (Sep (fps []) w [r5 none 0 0 [], r11 none 0 0 [], b20 g2226 none 0 0 none 0 0] w2235) := ⟨HS.out.call hS⟩
  clear hS
  by_cases c2236 : t2233 = true
  · have H := if_yes c2236 H
    have c2236b0 : t2233 = true := c2236
    have c2236b1 : (!t2233) = false := by rw [c2236b0]; rfl
    try rw [c2236b1]
    clear c2236
    go_wp2_with fail
    obtain ⟨t2253, HA2254, H⟩ := bind_some H
    refine (ground_Ground_SeeWord_nil.calls (wrap64 (a2225 - 1)) 0 t2253 _ ⟨HGl0.out.pass (l := []) HS.out⟩ ⟨Sep.start _⟩ HA2254).mono ?_
    rintro e_ w2255 ⟨rfl, hS⟩
    replace HS : Aside0 (Sep (fps []) w [r5 none 0 0 [], r11 none 0 0 [], b20 g2226 none 0 0 none 0 0] w2255) := ⟨HS.out.call hS⟩
    clear hS
    go_wp2_with fail
    obtain ⟨t2256, HA2257, H⟩ := bind_some H
    refine (tag_Unpack.calls t2253 t2256 _ ⟨HGl0.out.pass (l := []) HS.out⟩ ⟨Sep.start _⟩ HA2257).mono ?_
    rintro e_ w2258 ⟨rfl, hS⟩
    replace HS : Aside0 (Sep (fps []) w [r5 none 0 0 [], r11 none 0 0 [], b20 g2226 none 0 0 none 0 0] w2258) := ⟨HS.out.call hS⟩
    clear hS
    have fl2259 : ∀ w, (Instr.field 32 (.agg #[.int .i64 t2256.1, .int .i64 t2256.2.1, .int .i64 t2256.2.2.1, .int .i64 t2256.2.2.2.1, .int .i64 t2256.2.2.2.2.1, .int .i64 t2256.2.2.2.2.2.1, .int .i64 t2256.2.2.2.2.2.2]) 0).run Tryd.prog w = .ok (.int .i64 t2256.1) w := fun _ => by kernel_rfl
    go_wp2_with fail
    clear fl2259
    obtain ⟨t2260, HA2261, H⟩ := bind_some H
    refine (obj_isHead.calls t2256.1 t2260 _ ⟨HGl0.out.pass (l := []) HS.out⟩ ⟨Sep.start _⟩ HA2261).mono ?_
    rintro e_ w2262 ⟨rfl, hS⟩
    replace HS : Aside0 (Sep (fps []) w [r5 none 0 0 [], r11 none 0 0 [], b20 g2226 none 0 0 none 0 0] w2262) := ⟨HS.out.call hS⟩
    clear hS
    by_cases c2263 : t2260 = true
    · have H := if_yes c2263 H
      have c2263b0 : t2260 = true := c2263
      have c2263b1 : (!t2260) = false := by rw [c2263b0]; rfl
      try rw [c2263b1]
      clear c2263
      go_wp2_with fail
      obtain ⟨t2264, HA2265, H⟩ := bind_some H
      refine (ground_Ground_SeeWord_nil.calls (wrap64 (a2225 - 1)) 1 t2264 _ ⟨HGl0.out.pass (l := []) HS.out⟩ ⟨Sep.start _⟩ HA2265).mono ?_
      rintro e_ w2266 ⟨rfl, hS⟩
      replace HS : Aside0 (Sep (fps []) w [r5 none 0 0 [], r11 none 0 0 [], b20 g2226 none 0 0 none 0 0] w2266) := ⟨HS.out.call hS⟩
      clear hS
      go_wp2_with fail
      obtain ⟨t2267, HA2268, H⟩ := bind_some H
      refine (ground_Ground_SeeWord_nil.calls (wrap64 (a2225 - 1)) 2 t2267 _ ⟨HGl0.out.pass (l := []) HS.out⟩ ⟨Sep.start _⟩ HA2268).mono ?_
      rintro e_ w2269 ⟨rfl, hS⟩
      replace HS : Aside0 (Sep (fps []) w [r5 none 0 0 [], r11 none 0 0 [], b20 g2226 none 0 0 none 0 0] w2269) := ⟨HS.out.call hS⟩
      clear hS
      go_wp2_with fail
      obtain ⟨t2270, HA2271, H⟩ := bind_some H
      refine (ground_Ground_Conf_nil.calls t2270 _ ⟨HGl0.out.pass (l := []) HS.out⟩ ⟨Sep.start _⟩ HA2271).mono ?_
      rintro e_ w2272 ⟨rfl, hS⟩
      replace HS : Aside0 (Sep (fps []) w [r5 none 0 0 [], r11 none 0 0 [], b20 g2226 none 0 0 none 0 0] w2272) := ⟨HS.out.call hS⟩
      clear hS
      have fl2273 : ∀ w, (Instr.field 30 (.agg #[.int .i64 t2270.1, .int .i64 t2270.2.1, .int .i64 t2270.2.2.1, .int .i64 t2270.2.2.2]) 1).run Tryd.prog w = .ok (.int .i64 t2270.2.1) w := fun _ => by kernel_rfl
      go_wp2_with fail
      clear fl2273
      obtain ⟨t2347, HA2348, H⟩ := bind_some H
      refine (shape_Blocks.calls _ t2270.2.1 (wrap64 (t2264)) (wrap64 (t2267)) t2347 _ ⟨HGl0.out.pass (l := []) HS.out⟩ ⟨Sep.start _⟩ HA2348).mono ?_
      rintro e_ w2349 ⟨rfl, hS⟩
      replace HS : Aside0 (Sep (fps []) w [r5 none 0 0 [], r11 none 0 0 [], b20 g2226 none 0 0 none 0 0] w2349) := ⟨HS.out.call hS⟩
      clear hS
      by_cases c2350 : t2347.2 = 0
      · have H := if_yes c2350 H
        have c2350b0 : (t2347.2 == 0) = true := beq_iff_eq.mpr c2350
        have c2350b1 : (t2347.2 != 0) = false := bne_eq_false_iff_eq.mpr c2350
        clear c2350
        go_wp2_with (first | ((with_reducible refine gate_dst (N := 10) rfl ?_); refine box_on ?hg (N := 10) ?hd (cs := #[.slice none 0 0, .slice none 0 0]) (t := 71) ?hr ?_; (case hd => rfl); (case hg => rfl); (case hr => first | (go_simp; done) | (go_simp; rfl)); intro g2351 hg w2352 hbox hb; replace HS : Aside0 (Sep (fps []) w [r5 none 0 0 [], r11 none 0 0 [], b20 g2226 none 0 0 none 0 0, b18 g2351] w2352) := ⟨HS.out.box hg hbox hb⟩; clear hg hbox hb; replace HS : Aside0 (Sep (fps []) w [r11 none 0 0 [], r5 none 0 0 [], r11 none 0 0 [], b20 g2226 none 0 0 none 0 0, b19 g2351 none 0 0] w2352) := ⟨HS.out.nilrow 3 (Value.int .i64)⟩; replace HS : Aside0 (Sep (fps []) w [r5 none 0 0 [], r11 none 0 0 [], r5 none 0 0 [], r11 none 0 0 [], b20 g2226 none 0 0 none 0 0, b20 g2351 none 0 0 none 0 0] w2352) := ⟨HS.out.nilrow 33 (Value.int .u32)⟩))
        obtain ⟨o2429, AL2430, H⟩ := bind_some H
        go_loopg [51] k (fun kq v51 wc => ∃ (x2433 : Int) (x2434 : List Int) (A2435 : Option Addr) (m2436 : Nat) (n2437 : Nat), v51 = .int .i64 x2433 ∧ Aside0 (obj_See_nil.lo0 kq a2225 t2264 t2267 x2433 x2434 = some o2429) ∧ Aside0 (Sep (fps []) w [r5 none 0 0 [], r11 A2435 m2436 n2437 x2434, r5 none 0 0 [], r11 none 0 0 [], b20 g2226 none 0 0 none 0 0, b20 g2351 A2435 m2436 n2437 none 0 0] wc))
        case atStart => exact ⟨(0), (([] : List Int)), (none), (0), (0), (by first | rfl | (simp [IntKind.wrap_u32]; done)), AL2430, ⟨HS.out⟩⟩
        case round =>
          clear AL2430 HS
          obtain ⟨x2433, x2434, A2435, m2436, n2437, rfl, AL2430, HS⟩ := hrel
          obtain ⟨w2431, rfl⟩ : ∃ x : World, x = wr := ⟨_, rfl⟩
          obtain rfl := (row_len (HS.out.at1)).symm
          cases gk with
          | zero => exact absurd AL2430.out (by simp [obj_See_nil.lo0])
          | succ k2432 =>
            have AL0 := AL2430.out
            rw [obj_See_nil.lo0] at AL0
            clear AL2430
            have AL2430 := Aside0.mk AL0
            clear AL0
            by_cases c2439 : x2433 < (wrap64 (t2264))
            · have AL2430 := if_yes c2439 AL2430
              have c2439b0 : decide (x2433 < (wrap64 (t2264))) = true := decide_eq_true c2439
              clear c2439
              go_wp2_with fail
              refine start_ (n := 14) (S := (fun w' => w'.cell? ⟨g2351, 0, none⟩ = some (.slice A2435 x2434.length n2437))) (ds := [13]) #[false, false, false, false, false, false, false, false, false, false, false, false, false, false] (by kernel_rfl) rfl rfl (blk_cellv ((HS.out.drew).at5) 0 rfl) (fun hHeld => ?_)
              have HS_ := Aside0.mk HS.out.drew
              clear HS
              generalize World.drew _ = w2441 at HS_ hHeld ⊢
              have HS := HS_
              clear HS_
              refine pure_ (i := 0) (N := some 54) (v := ?_) (a' := ?_) #[true, false, false, false, false, false, false, false, false, false, false, false, false, false] rfl rfl (by kernel_rfl) (fun _ _ _ h => h) (Or.inl ⟨by rfl, ?_⟩) ?_ ?_
              rotate_left
              · intro w'
                go_simp
                with_reducible rfl
              rotate_left
              · simp only [Act.put, List.setIfInBounds_toArray, List.set_cons_zero, List.set_cons_succ, i64_w, i32_w]
                rfl
              refine pure_ (i := 2) (N := some 56) (v := ?_) (a' := ?_) #[true, false, true, false, false, false, false, false, false, false, false, false, false, false] rfl rfl (by kernel_rfl) (fun _ _ _ h => h) (Or.inl ⟨by rfl, ?_⟩) ?_ ?_
              rotate_left
              · intro w'
                go_simp
                with_reducible rfl
              rotate_left
              · simp only [Act.put, List.setIfInBounds_toArray, List.set_cons_zero, List.set_cons_succ, i64_w, i32_w]
                rfl
              refine pure_ (i := 3) (N := some 57) (v := ?_) (a' := ?_) #[true, false, true, true, false, false, false, false, false, false, false, false, false, false] rfl rfl (by kernel_rfl) (fun _ _ _ h => h) (Or.inl ⟨by rfl, ?_⟩) ?_ ?_
              rotate_left
              · intro w'
                go_simp
                with_reducible rfl
              rotate_left
              · simp only [Act.put, List.setIfInBounds_toArray, List.set_cons_zero, List.set_cons_succ, i64_w, i32_w]
                rfl
              refine pure_ (i := 4) (N := some 58) (v := ?_) (a' := ?_) #[true, false, true, true, true, false, false, false, false, false, false, false, false, false] rfl rfl (by kernel_rfl) (fun _ _ _ h => h) (Or.inl ⟨by rfl, ?_⟩) ?_ ?_
              rotate_left
              · intro w'
                go_simp
                with_reducible rfl
              rotate_left
              · simp only [Act.put, List.setIfInBounds_toArray, List.set_cons_zero, List.set_cons_succ, i64_w, i32_w]
                rfl
              refine pure_ (i := 5) (N := some 59) (v := ?_) (a' := ?_) #[true, false, true, true, true, true, false, false, false, false, false, false, false, false] rfl rfl (by kernel_rfl) (fun _ _ _ h => h) (Or.inl ⟨by rfl, ?_⟩) ?_ ?_
              rotate_left
              · intro w'
                go_simp
                with_reducible rfl
              rotate_left
              · simp only [Act.put, List.setIfInBounds_toArray, List.set_cons_zero, List.set_cons_succ, i64_w, i32_w]
                rfl
              refine pure_ (i := 6) (N := some 60) (v := ?_) (a' := ?_) #[true, false, true, true, true, true, true, false, false, false, false, false, false, false] rfl rfl (by kernel_rfl) (fun _ _ _ h => h) (Or.inl ⟨by rfl, ?_⟩) ?_ ?_
              rotate_left
              · intro w'
                go_simp
                with_reducible rfl
              rotate_left
              · simp only [Act.put, List.setIfInBounds_toArray, List.set_cons_zero, List.set_cons_succ, i64_w, i32_w]
                rfl
              refine pure_ (i := 7) (N := some 61) (v := ?_) (a' := ?_) #[true, false, true, true, true, true, true, true, false, false, false, false, false, false] rfl rfl (by kernel_rfl) (fun _ _ _ h => h) (Or.inl ⟨by rfl, ?_⟩) ?_ ?_
              rotate_left
              · intro w'
                go_simp
                with_reducible rfl
              rotate_left
              · simp only [Act.put, List.setIfInBounds_toArray, List.set_cons_zero, List.set_cons_succ, i64_w, i32_w]
                rfl
              refine take_ (i := 1) (N := some 55) (v := ?_) (a' := ?_) #[true, true, true, true, true, true, true, true, false, false, false, false, false, false] rfl rfl (by kernel_rfl) (fun _ _ _ h => h) (Or.inl ⟨by rfl, ?_⟩) hHeld ?_ ?_
              rotate_left
              · rintro w' hS'
                have s0 := hS'
                go_simp
                with_reducible rfl
              rotate_left
              · simp only [Act.put, List.setIfInBounds_toArray, List.set_cons_zero, List.set_cons_succ, i64_w, i32_w]
                rfl
              refine one_ (i := 8) (N := some 62) #[true, true, true, true, true, true, true, true, true, false, false, false, false, false] rfl rfl (by kernel_rfl) (by decide) (fun K hK => ?_)
              obtain ⟨t2414, HA2442, AL2430⟩ := bind_some AL2430
              refine goes_ Tryd.func102 (by kernel_rfl) rfl #[.pointer none, .int .i64 a2225, .int .i64 (wrap64 ((wrap64 (t2264)) + (wrap64 (t2267)))), .int .i64 x2433] (by rfl) rfl rfl (by (try simp only [List.map_toArray, List.map_cons, List.map_nil]); first | done | rfl) ?_
              refine (obj_look_nil.calls _ a2225 (wrap64 ((wrap64 (t2264)) + (wrap64 (t2267)))) x2433 t2414 _ ⟨HGl0.out.pass (l := []) HS.out⟩ ⟨Sep.start _⟩ HA2442).mono ?_
              rintro e_ w2443 ⟨rfl, hS⟩
              replace HS : Aside0 (Sep (fps []) w [r5 none 0 0 [], r11 A2435 x2434.length n2437 x2434, r5 none 0 0 [], r11 none 0 0 [], b20 g2226 none 0 0 none 0 0, b20 g2351 A2435 x2434.length n2437 none 0 0] w2443) := ⟨HS.out.call hS⟩
              clear hS
              refine ⟨_, rfl, ?_⟩
              refine hK.out _ _ (blk_cellv (HS.out.at5) 0 rfl) (fun hHeld => ?_)
              clear hK K
              refine norm_ (a' := ?_) ?_ ?_
              rotate_left
              · show Act.put _ (some 62) _ = _
                simp only [Act.put, List.setIfInBounds_toArray, List.set_cons_zero, List.set_cons_succ, i64_w, i32_w]
                rfl
              refine pure_ (i := 9) (N := some 63) (v := ?_) (a' := ?_) #[true, true, true, true, true, true, true, true, true, true, false, false, false, false] rfl rfl (by kernel_rfl) (fun _ _ _ h => h) (Or.inl ⟨by rfl, ?_⟩) ?_ ?_
              rotate_left
              · intro w'
                go_simp
                with_reducible rfl
              rotate_left
              · simp only [Act.put, List.setIfInBounds_toArray, List.set_cons_zero, List.set_cons_succ, i64_w, i32_w]
                rfl
              refine one_ (i := 10) (N := some 64) #[true, true, true, true, true, true, true, true, true, true, true, false, false, false] rfl rfl (by kernel_rfl) (by decide) (fun K hK => ?_)
              refine slice_step (n := 1) (by rfl) (N := 64) rfl (cs := #[.int .i64 (wrap64 (t2414))]) (t := 3) ?hr ?_
              case hr => first | (go_simp; done) | (go_simp; rfl)
              intro g2444 hg w2445 hbox hb
              replace HS : Aside0 (Sep (fps []) w [r5 none 0 0 [], r11 A2435 x2434.length n2437 x2434, r5 none 0 0 [], r11 none 0 0 [], b20 g2226 none 0 0 none 0 0, b20 g2351 A2435 x2434.length n2437 none 0 0, b10 g2444 (wrap64 (t2414))] w2445) := ⟨HS.out.box hg hbox hb⟩
              clear hg hbox hb
              refine hK.out _ _ (blk_cellv (HS.out.at5) 0 rfl) (fun hHeld => ?_)
              clear hK K
              refine norm_ (a' := ?_) ?_ ?_
              rotate_left
              · show Act.put _ (some 64) _ = _
                simp only [Act.put, List.setIfInBounds_toArray, List.set_cons_zero, List.set_cons_succ, i64_w, i32_w]
                rfl
              refine one_ (i := 11) (N := some 65) #[true, true, true, true, true, true, true, true, true, true, true, true, false, false] rfl rfl (by kernel_rfl) (by decide) (fun K hK => ?_)
              by_cases c2447 : x2434.length < 17592186044416
              · have AL2430 := if_yes c2447 AL2430
                have c2447b0 : decide (x2434.length < 17592186044416) = true := decide_eq_true c2447
                clear c2447
                obtain ⟨y2423, HA2451, AL2430⟩ := bind_some AL2430
                refine append_step (l1 := [r5 none 0 0 []]) (l2 := [r5 none 0 0 [], r11 none 0 0 [], b20 g2226 none 0 0 none 0 0, b20 g2351 A2435 x2434.length n2437 none 0 0, b10 g2444 (wrap64 (t2414))]) (by rfl) (.tmp 55) (.tmp 64) 49 3 (.int .i64 0) 8 rfl Tryd.underlying49 (by kernel_rfl) rfl (by decide) (Value.int .i64) (fun _ => rfl) (.slice A2435 x2434.length n2437) (x2434 : List Int) [wrap64 (t2414)] ⟨g2444, 0, none⟩ 1 rfl rfl (blk_news (xs := [wrap64 (t2414)]) (HS.out.at6)) HS.out (by have := of_decide_eq_true c2447b0; simp only [List.length_cons, List.length_nil]; omega) HA2451 ?_
                intro A2448 n2449 w2450 HS1
                replace HS : Aside0 (Sep (fps []) w [r5 none 0 0 [], r11 A2448 y2423.length n2449 y2423, r5 none 0 0 [], r11 none 0 0 [], b20 g2226 none 0 0 none 0 0, b20 g2351 A2435 x2434.length n2437 none 0 0, b10 g2444 (wrap64 (t2414))] w2450) := ⟨HS1⟩
                clear HS1
                refine hK.out _ _ (blk_cellv (HS.out.at5) 0 rfl) (fun hHeld => ?_)
                clear hK K
                refine norm_ (a' := ?_) ?_ ?_
                rotate_left
                · show Act.put _ (some 65) _ = _
                  simp only [Act.put, List.setIfInBounds_toArray, List.set_cons_zero, List.set_cons_succ, i64_w, i32_w]
                  rfl
                refine pure_ (i := 12) (N := some 66) (v := ?_) (a' := ?_) #[true, true, true, true, true, true, true, true, true, true, true, true, true, false] rfl rfl (by kernel_rfl) (fun _ _ _ h => h) (Or.inl ⟨by rfl, ?_⟩) ?_ ?_
                rotate_left
                · intro w'
                  go_simp
                  with_reducible rfl
                rotate_left
                · simp only [Act.put, List.setIfInBounds_toArray, List.set_cons_zero, List.set_cons_succ, i64_w, i32_w]
                  rfl
                refine last_ (i := 13) (N := none) #[true, true, true, true, true, true, true, true, true, true, true, true, true, true] rfl rfl (by kernel_rfl) (by decide) (fun K hK => ?_)
                have hc2454 := blk_cellv (v := .slice A2435 x2434.length n2437) (HS.out.at5) 0 rfl
                have hz2455 := blk_fz (HS.out.at5) 0
                refine store_step (w1 := (World.setCell w2450 ⟨g2351, 0, none⟩ (.slice A2448 y2423.length n2449))) (by rfl) rfl ?hr ?_
                case hr => first | (go_simp; done) | (go_simp; rfl)
                clear hc2454 hz2455
                intro w2453 hst
                have hq0 : Sep (fps []) w [r5 none 0 0 [], r11 A2448 y2423.length n2449 y2423, r5 none 0 0 [], r11 none 0 0 [], b20 g2226 none 0 0 none 0 0, b20 g2351 A2448 y2423.length n2449 none 0 0, b10 g2444 (wrap64 (t2414))] (World.setCell w2450 ⟨g2351, 0, none⟩ (.slice A2448 y2423.length n2449)) := (HS.out).set1 (l1 := [r5 none 0 0 [], r11 A2448 y2423.length n2449 y2423, r5 none 0 0 [], r11 none 0 0 [], b20 g2226 none 0 0 none 0 0]) (l2 := [b10 g2444 (wrap64 (t2414))]) 0 (.slice A2448 y2423.length n2449)
                have HS_ : Aside0 (Sep (fps []) w [r5 none 0 0 [], r11 A2448 y2423.length n2449 y2423, r5 none 0 0 [], r11 none 0 0 [], b20 g2226 none 0 0 none 0 0, b20 g2351 A2448 y2423.length n2449 none 0 0, b10 g2444 (wrap64 (t2414))] w2453) := ⟨by rw [hst]; exact hq0⟩
                clear hq0
                clear HS hst
                have HS := HS_
                clear HS_
                refine hK.out _ _ ?_
                clear hK K
                refine done_ (by kernel_rfl) ?_
                replace HS : Aside0 (Sep (fps []) w [r5 none 0 0 [], r11 A2448 y2423.length n2449 y2423, r5 none 0 0 [], r11 none 0 0 [], b20 g2226 none 0 0 none 0 0, b20 g2351 A2448 y2423.length n2449 none 0 0] w2453) := ⟨HS.out.sub (.cons_cons _ (.cons_cons _ (.cons_cons _ (.cons_cons _ (.cons_cons _ (.cons_cons _ (.cons _ .slnil)))))))⟩
                go_wp2_with fail
                go_roundg k2432
                case measure => exact Nat.lt_succ_self _
                case rel => exact ⟨(wrap64 (x2433 + 1)), (y2423), (A2448), (y2423.length), (n2449), (by first | rfl | (simp [IntKind.wrap_u32]; done)), Aside0.mk AL2430.out, ⟨HS.out⟩⟩
              · have AL2430 := if_no c2447 AL2430
                have c2447b0 : decide (x2434.length < 17592186044416) = false := decide_eq_false c2447
                clear c2447
                exact (none_no AL2430).elim
            · have AL2430 := if_no c2439 AL2430
              have c2439b0 : decide (x2433 < (wrap64 (t2264))) = false := decide_eq_false c2439
              clear c2439
              have ho := some_eq AL2430
              subst ho
              clear AL2430
              go_wp2_with fail
              obtain ⟨o2480, AL2481, H⟩ := bind_some H
              go_loopg [69] k (fun kq v69 wc => ∃ (x2484 : Int) (x2485 : List Int) (A2486 : Option Addr) (m2487 : Nat) (n2488 : Nat), v69 = .int .i64 x2484 ∧ Aside0 (obj_See_nil.lo1 kq a2225 t2264 t2267 x2484 x2485 = some o2480) ∧ Aside0 (Sep (fps []) w [r5 A2486 m2487 n2488 x2485, r11 A2435 x2434.length n2437 x2434, r5 none 0 0 [], r11 none 0 0 [], b20 g2226 none 0 0 none 0 0, b20 g2351 A2435 x2434.length n2437 A2486 m2487 n2488] wc))
              case atStart => exact ⟨(0), (([] : List Int)), (none), (0), (0), (by first | rfl | (simp [IntKind.wrap_u32]; done)), AL2481, ⟨HS.out⟩⟩
              case round =>
                clear AL2481 HS
                obtain ⟨x2484, x2485, A2486, m2487, n2488, rfl, AL2481, HS⟩ := hrel
                obtain ⟨w2482, rfl⟩ : ∃ x : World, x = wr := ⟨_, rfl⟩
                obtain rfl := (row_len (HS.out.at0)).symm
                cases gk with
                | zero => exact absurd AL2481.out (by simp [obj_See_nil.lo1])
                | succ k2483 =>
                  have AL0 := AL2481.out
                  rw [obj_See_nil.lo1] at AL0
                  clear AL2481
                  have AL2481 := Aside0.mk AL0
                  clear AL0
                  by_cases c2490 : x2484 < (wrap64 (t2267))
                  · have AL2481 := if_yes c2490 AL2481
                    have c2490b0 : decide (x2484 < (wrap64 (t2267))) = true := decide_eq_true c2490
                    clear c2490
                    go_wp2_with fail
                    refine start_ (n := 15) (S := (fun w' => w'.cell? ⟨g2351, 1, none⟩ = some (.slice A2486 x2485.length n2488))) (ds := [14]) #[false, false, false, false, false, false, false, false, false, false, false, false, false, false, false] (by kernel_rfl) rfl rfl (blk_cellv ((HS.out.drew).at5) 1 rfl) (fun hHeld => ?_)
                    have HS_ := Aside0.mk HS.out.drew
                    clear HS
                    generalize World.drew _ = w2492 at HS_ hHeld ⊢
                    have HS := HS_
                    clear HS_
                    refine pure_ (i := 0) (N := some 72) (v := ?_) (a' := ?_) #[true, false, false, false, false, false, false, false, false, false, false, false, false, false, false] rfl rfl (by kernel_rfl) (fun _ _ _ h => h) (Or.inl ⟨by rfl, ?_⟩) ?_ ?_
                    rotate_left
                    · intro w'
                      go_simp
                      with_reducible rfl
                    rotate_left
                    · simp only [Act.put, List.setIfInBounds_toArray, List.set_cons_zero, List.set_cons_succ, i64_w, i32_w]
                      rfl
                    refine pure_ (i := 2) (N := some 74) (v := ?_) (a' := ?_) #[true, false, true, false, false, false, false, false, false, false, false, false, false, false, false] rfl rfl (by kernel_rfl) (fun _ _ _ h => h) (Or.inl ⟨by rfl, ?_⟩) ?_ ?_
                    rotate_left
                    · intro w'
                      go_simp
                      with_reducible rfl
                    rotate_left
                    · simp only [Act.put, List.setIfInBounds_toArray, List.set_cons_zero, List.set_cons_succ, i64_w, i32_w]
                      rfl
                    refine pure_ (i := 3) (N := some 75) (v := ?_) (a' := ?_) #[true, false, true, true, false, false, false, false, false, false, false, false, false, false, false] rfl rfl (by kernel_rfl) (fun _ _ _ h => h) (Or.inl ⟨by rfl, ?_⟩) ?_ ?_
                    rotate_left
                    · intro w'
                      go_simp
                      with_reducible rfl
                    rotate_left
                    · simp only [Act.put, List.setIfInBounds_toArray, List.set_cons_zero, List.set_cons_succ, i64_w, i32_w]
                      rfl
                    refine pure_ (i := 4) (N := some 76) (v := ?_) (a' := ?_) #[true, false, true, true, true, false, false, false, false, false, false, false, false, false, false] rfl rfl (by kernel_rfl) (fun _ _ _ h => h) (Or.inl ⟨by rfl, ?_⟩) ?_ ?_
                    rotate_left
                    · intro w'
                      go_simp
                      with_reducible rfl
                    rotate_left
                    · simp only [Act.put, List.setIfInBounds_toArray, List.set_cons_zero, List.set_cons_succ, i64_w, i32_w]
                      rfl
                    refine pure_ (i := 5) (N := some 77) (v := ?_) (a' := ?_) #[true, false, true, true, true, true, false, false, false, false, false, false, false, false, false] rfl rfl (by kernel_rfl) (fun _ _ _ h => h) (Or.inl ⟨by rfl, ?_⟩) ?_ ?_
                    rotate_left
                    · intro w'
                      go_simp
                      with_reducible rfl
                    rotate_left
                    · simp only [Act.put, List.setIfInBounds_toArray, List.set_cons_zero, List.set_cons_succ, i64_w, i32_w]
                      rfl
                    refine pure_ (i := 6) (N := some 78) (v := ?_) (a' := ?_) #[true, false, true, true, true, true, true, false, false, false, false, false, false, false, false] rfl rfl (by kernel_rfl) (fun _ _ _ h => h) (Or.inl ⟨by rfl, ?_⟩) ?_ ?_
                    rotate_left
                    · intro w'
                      go_simp
                      with_reducible rfl
                    rotate_left
                    · simp only [Act.put, List.setIfInBounds_toArray, List.set_cons_zero, List.set_cons_succ, i64_w, i32_w]
                      rfl
                    refine pure_ (i := 7) (N := some 79) (v := ?_) (a' := ?_) #[true, false, true, true, true, true, true, true, false, false, false, false, false, false, false] rfl rfl (by kernel_rfl) (fun _ _ _ h => h) (Or.inl ⟨by rfl, ?_⟩) ?_ ?_
                    rotate_left
                    · intro w'
                      go_simp
                      with_reducible rfl
                    rotate_left
                    · simp only [Act.put, List.setIfInBounds_toArray, List.set_cons_zero, List.set_cons_succ, i64_w, i32_w]
                      rfl
                    refine pure_ (i := 8) (N := some 80) (v := ?_) (a' := ?_) #[true, false, true, true, true, true, true, true, true, false, false, false, false, false, false] rfl rfl (by kernel_rfl) (fun _ _ _ h => h) (Or.inl ⟨by rfl, ?_⟩) ?_ ?_
                    rotate_left
                    · intro w'
                      go_simp
                      with_reducible rfl
                    rotate_left
                    · simp only [Act.put, List.setIfInBounds_toArray, List.set_cons_zero, List.set_cons_succ, i64_w, i32_w]
                      rfl
                    refine pure_ (i := 9) (N := some 81) (v := ?_) (a' := ?_) #[true, false, true, true, true, true, true, true, true, true, false, false, false, false, false] rfl rfl (by kernel_rfl) (fun _ _ _ h => h) (Or.inl ⟨by rfl, ?_⟩) ?_ ?_
                    rotate_left
                    · intro w'
                      go_simp
                      with_reducible rfl
                    rotate_left
                    · simp only [Act.put, List.setIfInBounds_toArray, List.set_cons_zero, List.set_cons_succ, i64_w, i32_w]
                      rfl
                    refine take_ (i := 1) (N := some 73) (v := ?_) (a' := ?_) #[true, true, true, true, true, true, true, true, true, true, false, false, false, false, false] rfl rfl (by kernel_rfl) (fun _ _ _ h => h) (Or.inl ⟨by rfl, ?_⟩) hHeld ?_ ?_
                    rotate_left
                    · rintro w' hS'
                      have s0 := hS'
                      go_simp
                      with_reducible rfl
                    rotate_left
                    · simp only [Act.put, List.setIfInBounds_toArray, List.set_cons_zero, List.set_cons_succ, i64_w, i32_w]
                      rfl
                    refine one_ (i := 10) (N := some 82) #[true, true, true, true, true, true, true, true, true, true, true, false, false, false, false] rfl rfl (by kernel_rfl) (by decide) (fun K hK => ?_)
                    obtain ⟨t2465, HA2493, AL2481⟩ := bind_some AL2481
                    refine goes_ Tryd.func102 (by kernel_rfl) rfl #[.pointer none, .int .i64 a2225, .int .i64 (wrap64 ((wrap64 (t2264)) + (wrap64 (t2267)))), .int .i64 (wrap64 ((wrap64 (t2264)) + x2484))] (by rfl) rfl rfl (by (try simp only [List.map_toArray, List.map_cons, List.map_nil]); first | done | rfl) ?_
                    refine (obj_look_nil.calls _ a2225 (wrap64 ((wrap64 (t2264)) + (wrap64 (t2267)))) (wrap64 ((wrap64 (t2264)) + x2484)) t2465 _ ⟨HGl0.out.pass (l := []) HS.out⟩ ⟨Sep.start _⟩ HA2493).mono ?_
                    rintro e_ w2494 ⟨rfl, hS⟩
                    replace HS : Aside0 (Sep (fps []) w [r5 A2486 x2485.length n2488 x2485, r11 A2435 x2434.length n2437 x2434, r5 none 0 0 [], r11 none 0 0 [], b20 g2226 none 0 0 none 0 0, b20 g2351 A2435 x2434.length n2437 A2486 x2485.length n2488] w2494) := ⟨HS.out.call hS⟩
                    clear hS
                    refine ⟨_, rfl, ?_⟩
                    refine hK.out _ _ (blk_cellv (HS.out.at5) 1 rfl) (fun hHeld => ?_)
                    clear hK K
                    refine norm_ (a' := ?_) ?_ ?_
                    rotate_left
                    · show Act.put _ (some 82) _ = _
                      simp only [Act.put, List.setIfInBounds_toArray, List.set_cons_zero, List.set_cons_succ, i64_w, i32_w]
                      rfl
                    refine one_ (i := 11) (N := some 83) #[true, true, true, true, true, true, true, true, true, true, true, true, false, false, false] rfl rfl (by kernel_rfl) (by decide) (fun K hK => ?_)
                    refine slice_step (n := 1) (by rfl) (N := 83) rfl (cs := #[.int .u32 t2465]) (t := 33) ?hr ?_
                    case hr => first | (go_simp; done) | (go_simp; rfl)
                    intro g2495 hg w2496 hbox hb
                    replace HS : Aside0 (Sep (fps []) w [r5 A2486 x2485.length n2488 x2485, r11 A2435 x2434.length n2437 x2434, r5 none 0 0 [], r11 none 0 0 [], b20 g2226 none 0 0 none 0 0, b20 g2351 A2435 x2434.length n2437 A2486 x2485.length n2488, b16 g2495 t2465] w2496) := ⟨HS.out.box hg hbox hb⟩
                    clear hg hbox hb
                    refine hK.out _ _ (blk_cellv (HS.out.at5) 1 rfl) (fun hHeld => ?_)
                    clear hK K
                    refine norm_ (a' := ?_) ?_ ?_
                    rotate_left
                    · show Act.put _ (some 83) _ = _
                      simp only [Act.put, List.setIfInBounds_toArray, List.set_cons_zero, List.set_cons_succ, i64_w, i32_w]
                      rfl
                    refine one_ (i := 12) (N := some 84) #[true, true, true, true, true, true, true, true, true, true, true, true, true, false, false] rfl rfl (by kernel_rfl) (by decide) (fun K hK => ?_)
                    by_cases c2498 : x2485.length < 35184372088832
                    · have AL2481 := if_yes c2498 AL2481
                      have c2498b0 : decide (x2485.length < 35184372088832) = true := decide_eq_true c2498
                      clear c2498
                      obtain ⟨y2474, HA2502, AL2481⟩ := bind_some AL2481
                      refine append_step (l1 := []) (l2 := [r11 A2435 x2434.length n2437 x2434, r5 none 0 0 [], r11 none 0 0 [], b20 g2226 none 0 0 none 0 0, b20 g2351 A2435 x2434.length n2437 A2486 x2485.length n2488, b16 g2495 t2465]) (by rfl) (.tmp 73) (.tmp 83) 69 33 (.int .u32 0) 4 rfl Tryd.underlying69 (by kernel_rfl) rfl (by decide) (Value.int .u32) (fun _ => rfl) (.slice A2486 x2485.length n2488) (x2485 : List Int) [t2465] ⟨g2495, 0, none⟩ 1 rfl rfl (blk_news (xs := [t2465]) (HS.out.at6)) HS.out (by have := of_decide_eq_true c2498b0; simp only [List.length_cons, List.length_nil]; omega) HA2502 ?_
                      intro A2499 n2500 w2501 HS1
                      replace HS : Aside0 (Sep (fps []) w [r5 A2499 y2474.length n2500 y2474, r11 A2435 x2434.length n2437 x2434, r5 none 0 0 [], r11 none 0 0 [], b20 g2226 none 0 0 none 0 0, b20 g2351 A2435 x2434.length n2437 A2486 x2485.length n2488, b16 g2495 t2465] w2501) := ⟨HS1⟩
                      clear HS1
                      refine hK.out _ _ (blk_cellv (HS.out.at5) 1 rfl) (fun hHeld => ?_)
                      clear hK K
                      refine norm_ (a' := ?_) ?_ ?_
                      rotate_left
                      · show Act.put _ (some 84) _ = _
                        simp only [Act.put, List.setIfInBounds_toArray, List.set_cons_zero, List.set_cons_succ, i64_w, i32_w]
                        rfl
                      refine pure_ (i := 13) (N := some 85) (v := ?_) (a' := ?_) #[true, true, true, true, true, true, true, true, true, true, true, true, true, true, false] rfl rfl (by kernel_rfl) (fun _ _ _ h => h) (Or.inl ⟨by rfl, ?_⟩) ?_ ?_
                      rotate_left
                      · intro w'
                        go_simp
                        with_reducible rfl
                      rotate_left
                      · simp only [Act.put, List.setIfInBounds_toArray, List.set_cons_zero, List.set_cons_succ, i64_w, i32_w]
                        rfl
                      refine last_ (i := 14) (N := none) #[true, true, true, true, true, true, true, true, true, true, true, true, true, true, true] rfl rfl (by kernel_rfl) (by decide) (fun K hK => ?_)
                      have hc2505 := blk_cellv (v := .slice A2486 x2485.length n2488) (HS.out.at5) 1 rfl
                      have hz2506 := blk_fz (HS.out.at5) 1
                      refine store_step (w1 := (World.setCell w2501 ⟨g2351, 1, none⟩ (.slice A2499 y2474.length n2500))) (by rfl) rfl ?hr ?_
                      case hr => first | (go_simp; done) | (go_simp; rfl)
                      clear hc2505 hz2506
                      intro w2504 hst
                      have hq0 : Sep (fps []) w [r5 A2499 y2474.length n2500 y2474, r11 A2435 x2434.length n2437 x2434, r5 none 0 0 [], r11 none 0 0 [], b20 g2226 none 0 0 none 0 0, b20 g2351 A2435 x2434.length n2437 A2499 y2474.length n2500, b16 g2495 t2465] (World.setCell w2501 ⟨g2351, 1, none⟩ (.slice A2499 y2474.length n2500)) := (HS.out).set1 (l1 := [r5 A2499 y2474.length n2500 y2474, r11 A2435 x2434.length n2437 x2434, r5 none 0 0 [], r11 none 0 0 [], b20 g2226 none 0 0 none 0 0]) (l2 := [b16 g2495 t2465]) 1 (.slice A2499 y2474.length n2500)
                      have HS_ : Aside0 (Sep (fps []) w [r5 A2499 y2474.length n2500 y2474, r11 A2435 x2434.length n2437 x2434, r5 none 0 0 [], r11 none 0 0 [], b20 g2226 none 0 0 none 0 0, b20 g2351 A2435 x2434.length n2437 A2499 y2474.length n2500, b16 g2495 t2465] w2504) := ⟨by rw [hst]; exact hq0⟩
                      clear hq0
                      clear HS hst
                      have HS := HS_
                      clear HS_
                      refine hK.out _ _ ?_
                      clear hK K
                      refine done_ (by kernel_rfl) ?_
                      replace HS : Aside0 (Sep (fps []) w [r5 A2499 y2474.length n2500 y2474, r11 A2435 x2434.length n2437 x2434, r5 none 0 0 [], r11 none 0 0 [], b20 g2226 none 0 0 none 0 0, b20 g2351 A2435 x2434.length n2437 A2499 y2474.length n2500] w2504) := ⟨HS.out.sub (.cons_cons _ (.cons_cons _ (.cons_cons _ (.cons_cons _ (.cons_cons _ (.cons_cons _ (.cons _ .slnil)))))))⟩
                      go_wp2_with fail
                      go_roundg k2483
                      case measure => exact Nat.lt_succ_self _
                      case rel => exact ⟨(wrap64 (x2484 + 1)), (y2474), (A2499), (y2474.length), (n2500), (by first | rfl | (simp [IntKind.wrap_u32]; done)), Aside0.mk AL2481.out, ⟨HS.out⟩⟩
                    · have AL2481 := if_no c2498 AL2481
                      have c2498b0 : decide (x2485.length < 35184372088832) = false := decide_eq_false c2498
                      clear c2498
                      exact (none_no AL2481).elim
                  · have AL2481 := if_no c2490 AL2481
                    have c2490b0 : decide (x2484 < (wrap64 (t2267))) = false := decide_eq_false c2490
                    clear c2490
                    have ho := some_eq AL2481
                    subst ho
                    clear AL2481
                    have hc2507 : w2482.cell? ⟨g2351, 0, none⟩ = some (.slice A2435 x2434.length n2437) := blk_cellv (HS.out.at5) 0 rfl
                    have hc2508 : w2482.cell? ⟨g2351, 1, none⟩ = some (.slice A2486 x2485.length n2488) := blk_cellv (HS.out.at5) 1 rfl
                    have hc2509 : w2482.cell? ⟨g2226, 0, none⟩ = some (.slice none 0 0) := blk_cellv (HS.out.at4) 0 rfl
                    have hz2510 : w2482.frozen? ⟨g2226, 0, none⟩ = false := blk_fz (HS.out.at4) 0
                    have hc2511 : w2482.cell? ⟨g2226, 1, none⟩ = some (.slice none 0 0) := blk_cellv (HS.out.at4) 1 rfl
                    have hz2512 : w2482.frozen? ⟨g2226, 1, none⟩ = false := blk_fz (HS.out.at4) 1
                    go_wp2_with (first | ((with_reducible refine gate_store (t := 71) (p := 4) rfl ?_); refine store_event (w1 := (World.setCell (World.setCell w2482 ⟨g2226, 0, none⟩ (.slice A2435 x2434.length n2437)) ⟨g2226, 1, none⟩ (.slice A2486 x2485.length n2488))) rfl (t := 71) (p := 4) rfl rfl ?hr ?_; (case hr => first | (go_simp; done) | (go_simp; rfl)); intro w2513 hst; clear hc2507 hc2508 hc2509 hz2510 hc2511 hz2512; have hq0 : Sep (fps []) w [r5 A2486 x2485.length n2488 x2485, r11 A2435 x2434.length n2437 x2434, r5 none 0 0 [], r11 none 0 0 [], b20 g2226 A2435 x2434.length n2437 none 0 0, b20 g2351 A2435 x2434.length n2437 A2486 x2485.length n2488] (World.setCell w2482 ⟨g2226, 0, none⟩ (.slice A2435 x2434.length n2437)) := (HS.out).set1 (l1 := [r5 A2486 x2485.length n2488 x2485, r11 A2435 x2434.length n2437 x2434, r5 none 0 0 [], r11 none 0 0 []]) (l2 := [b20 g2351 A2435 x2434.length n2437 A2486 x2485.length n2488]) 0 (.slice A2435 x2434.length n2437); have hq1 : Sep (fps []) w [r5 A2486 x2485.length n2488 x2485, r11 A2435 x2434.length n2437 x2434, r5 none 0 0 [], r11 none 0 0 [], b20 g2226 A2435 x2434.length n2437 A2486 x2485.length n2488, b20 g2351 A2435 x2434.length n2437 A2486 x2485.length n2488] (World.setCell (World.setCell w2482 ⟨g2226, 0, none⟩ (.slice A2435 x2434.length n2437)) ⟨g2226, 1, none⟩ (.slice A2486 x2485.length n2488)) := (hq0).set1 (l1 := [r5 A2486 x2485.length n2488 x2485, r11 A2435 x2434.length n2437 x2434, r5 none 0 0 [], r11 none 0 0 []]) (l2 := [b20 g2351 A2435 x2434.length n2437 A2486 x2485.length n2488]) 1 (.slice A2486 x2485.length n2488); replace HS : Aside0 (Sep (fps []) w [r5 A2486 x2485.length n2488 x2485, r11 A2435 x2434.length n2437 x2434, r5 none 0 0 [], r11 none 0 0 [], b20 g2226 A2435 x2434.length n2437 A2486 x2485.length n2488, b20 g2351 A2435 x2434.length n2437 A2486 x2485.length n2488] w2513) := ⟨by rw [hst]; exact hq1⟩; clear hq0 hq1; clear hst; replace HS : Aside0 (Sep (fps []) w [r5 A2486 x2485.length n2488 x2485, r11 A2435 x2434.length n2437 x2434, b20 g2226 A2435 x2434.length n2437 A2486 x2485.length n2488] w2513) := ⟨HS.out.sub (.cons_cons _ (.cons_cons _ (.cons _ (.cons _ (.cons_cons _ (.cons _ .slnil))))))⟩))
                    have hc2514 : w2513.cell? ⟨g2226, 0, none⟩ = some (.slice A2435 x2434.length n2437) := blk_cellv (HS.out.at2) 0 rfl
                    have hc2515 : w2513.cell? ⟨g2226, 1, none⟩ = some (.slice A2486 x2485.length n2488) := blk_cellv (HS.out.at2) 1 rfl
                    refine bodyPost_ret (v := .tuple #[.agg #[.slice A2435 x2434.length n2437, .slice A2486 x2485.length n2488], .bool true]) (by simp [results, Tryd.results36, go_sem, hc2514, hc2515]) rfl ?_
                    rw [← some_eq H]
                    exact ⟨A2435, x2434.length, n2437, A2486, x2485.length, n2488, (by first | rfl | (simp [IntKind.wrap_u32]; done)), ((HS.out).front 1 (by simp)).keep (l := [r11 A2435 x2434.length n2437 x2434, r5 A2486 x2485.length n2488 x2485]) (rest := [b20 g2226 A2435 x2434.length n2437 A2486 x2485.length n2488])⟩
      · have H := if_no c2350 H
        have c2350b0 : (t2347.2 == 0) = false := beq_eq_false_iff_ne.mpr c2350
        have c2350b1 : (t2347.2 != 0) = true := bne_iff_ne.mpr c2350
        clear c2350
        have hc2622 : w2349.cell? ⟨g2226, 0, none⟩ = some (.slice none 0 0) := blk_cellv (HS.out.at2) 0 rfl
        have hz2623 : w2349.frozen? ⟨g2226, 0, none⟩ = false := blk_fz (HS.out.at2) 0
        have hc2624 : w2349.cell? ⟨g2226, 1, none⟩ = some (.slice none 0 0) := blk_cellv (HS.out.at2) 1 rfl
        have hz2625 : w2349.frozen? ⟨g2226, 1, none⟩ = false := blk_fz (HS.out.at2) 1
        go_wp2_with (first | ((with_reducible refine gate_store (t := 71) (p := 4) rfl ?_); refine store_event (w1 := (World.setCell (World.setCell w2349 ⟨g2226, 0, none⟩ (.slice none 0 0)) ⟨g2226, 1, none⟩ (.slice none 0 0))) rfl (t := 71) (p := 4) rfl rfl ?hr ?_; (case hr => first | (go_simp; done) | (go_simp; rfl)); intro w2626 hst; clear hc2622 hz2623 hc2624 hz2625; have hq0 : Sep (fps []) w [r5 none 0 0 [], r11 none 0 0 [], b21 g2226 none 0 0] (World.setCell w2349 ⟨g2226, 0, none⟩ (.slice none 0 0)) := (HS.out).set1 (l1 := [r5 none 0 0 [], r11 none 0 0 []]) (l2 := []) 0 (.slice none 0 0); have hq1 : Sep (fps []) w [r5 none 0 0 [], r11 none 0 0 [], b18 g2226] (World.setCell (World.setCell w2349 ⟨g2226, 0, none⟩ (.slice none 0 0)) ⟨g2226, 1, none⟩ (.slice none 0 0)) := (hq0).set1 (l1 := [r5 none 0 0 [], r11 none 0 0 []]) (l2 := []) 1 (.slice none 0 0); replace HS : Aside0 (Sep (fps []) w [r5 none 0 0 [], r11 none 0 0 [], b18 g2226] w2626) := ⟨by rw [hst]; exact hq1⟩; clear hq0 hq1; clear hst; replace HS : Aside0 (Sep (fps []) w [r11 none 0 0 [], r5 none 0 0 [], r11 none 0 0 [], b19 g2226 none 0 0] w2626) := ⟨HS.out.nilrow 3 (Value.int .i64)⟩; replace HS : Aside0 (Sep (fps []) w [r5 none 0 0 [], r11 none 0 0 [], r5 none 0 0 [], r11 none 0 0 [], b20 g2226 none 0 0 none 0 0] w2626) := ⟨HS.out.nilrow 33 (Value.int .u32)⟩; replace HS : Aside0 (Sep (fps []) w [r5 none 0 0 [], r11 none 0 0 [], b20 g2226 none 0 0 none 0 0] w2626) := ⟨HS.out.sub (.cons_cons _ (.cons_cons _ (.cons _ (.cons _ (.cons_cons _ .slnil)))))⟩))
        have hc2631 : w2626.cell? ⟨g2226, 0, none⟩ = some (.slice none 0 0) := blk_cellv (HS.out.at2) 0 rfl
        have hc2632 : w2626.cell? ⟨g2226, 1, none⟩ = some (.slice none 0 0) := blk_cellv (HS.out.at2) 1 rfl
        refine bodyPost_ret (v := .tuple #[.agg #[.slice none 0 0, .slice none 0 0], .bool false]) (by simp [results, Tryd.results36, go_sem, hc2631, hc2632]) rfl ?_
        rw [← some_eq H]
        exact ⟨none, 0, 0, none, 0, 0, (by first | rfl | (simp [IntKind.wrap_u32]; done)), ((HS.out).front 1 (by simp)).keep (l := [r11 none 0 0 [], r5 none 0 0 []]) (rest := [b20 g2226 none 0 0 none 0 0])⟩
    · have H := if_no c2263 H
      have c2263b0 : t2260 = false := by simpa using c2263
      have c2263b1 : (!t2260) = true := by rw [c2263b0]; rfl
      try rw [c2263b1]
      clear c2263
      have hc2643 : w2262.cell? ⟨g2226, 0, none⟩ = some (.slice none 0 0) := blk_cellv (HS.out.at2) 0 rfl
      have hz2644 : w2262.frozen? ⟨g2226, 0, none⟩ = false := blk_fz (HS.out.at2) 0
      have hc2645 : w2262.cell? ⟨g2226, 1, none⟩ = some (.slice none 0 0) := blk_cellv (HS.out.at2) 1 rfl
      have hz2646 : w2262.frozen? ⟨g2226, 1, none⟩ = false := blk_fz (HS.out.at2) 1
      go_wp2_with (first | ((with_reducible refine gate_store (t := 71) (p := 4) rfl ?_); refine store_event (w1 := (World.setCell (World.setCell w2262 ⟨g2226, 0, none⟩ (.slice none 0 0)) ⟨g2226, 1, none⟩ (.slice none 0 0))) rfl (t := 71) (p := 4) rfl rfl ?hr ?_; (case hr => first | (go_simp; done) | (go_simp; rfl)); intro w2647 hst; clear hc2643 hz2644 hc2645 hz2646; have hq0 : Sep (fps []) w [r5 none 0 0 [], r11 none 0 0 [], b21 g2226 none 0 0] (World.setCell w2262 ⟨g2226, 0, none⟩ (.slice none 0 0)) := (HS.out).set1 (l1 := [r5 none 0 0 [], r11 none 0 0 []]) (l2 := []) 0 (.slice none 0 0); have hq1 : Sep (fps []) w [r5 none 0 0 [], r11 none 0 0 [], b18 g2226] (World.setCell (World.setCell w2262 ⟨g2226, 0, none⟩ (.slice none 0 0)) ⟨g2226, 1, none⟩ (.slice none 0 0)) := (hq0).set1 (l1 := [r5 none 0 0 [], r11 none 0 0 []]) (l2 := []) 1 (.slice none 0 0); replace HS : Aside0 (Sep (fps []) w [r5 none 0 0 [], r11 none 0 0 [], b18 g2226] w2647) := ⟨by rw [hst]; exact hq1⟩; clear hq0 hq1; clear hst; replace HS : Aside0 (Sep (fps []) w [r11 none 0 0 [], r5 none 0 0 [], r11 none 0 0 [], b19 g2226 none 0 0] w2647) := ⟨HS.out.nilrow 3 (Value.int .i64)⟩; replace HS : Aside0 (Sep (fps []) w [r5 none 0 0 [], r11 none 0 0 [], r5 none 0 0 [], r11 none 0 0 [], b20 g2226 none 0 0 none 0 0] w2647) := ⟨HS.out.nilrow 33 (Value.int .u32)⟩; replace HS : Aside0 (Sep (fps []) w [r5 none 0 0 [], r11 none 0 0 [], b20 g2226 none 0 0 none 0 0] w2647) := ⟨HS.out.sub (.cons_cons _ (.cons_cons _ (.cons _ (.cons _ (.cons_cons _ .slnil)))))⟩))
      have hc2652 : w2647.cell? ⟨g2226, 0, none⟩ = some (.slice none 0 0) := blk_cellv (HS.out.at2) 0 rfl
      have hc2653 : w2647.cell? ⟨g2226, 1, none⟩ = some (.slice none 0 0) := blk_cellv (HS.out.at2) 1 rfl
      refine bodyPost_ret (v := .tuple #[.agg #[.slice none 0 0, .slice none 0 0], .bool false]) (by simp [results, Tryd.results36, go_sem, hc2652, hc2653]) rfl ?_
      rw [← some_eq H]
      exact ⟨none, 0, 0, none, 0, 0, (by first | rfl | (simp [IntKind.wrap_u32]; done)), ((HS.out).front 1 (by simp)).keep (l := [r11 none 0 0 [], r5 none 0 0 []]) (rest := [b20 g2226 none 0 0 none 0 0])⟩
  · have H := if_no c2236 H
    have c2236b0 : t2233 = false := by simpa using c2236
    have c2236b1 : (!t2233) = true := by rw [c2236b0]; rfl
    try rw [c2236b1]
    clear c2236
    have hc2664 : w2235.cell? ⟨g2226, 0, none⟩ = some (.slice none 0 0) := blk_cellv (HS.out.at2) 0 rfl
    have hz2665 : w2235.frozen? ⟨g2226, 0, none⟩ = false := blk_fz (HS.out.at2) 0
    have hc2666 : w2235.cell? ⟨g2226, 1, none⟩ = some (.slice none 0 0) := blk_cellv (HS.out.at2) 1 rfl
    have hz2667 : w2235.frozen? ⟨g2226, 1, none⟩ = false := blk_fz (HS.out.at2) 1
    go_wp2_with (first | ((with_reducible refine gate_store (t := 71) (p := 4) rfl ?_); refine store_event (w1 := (World.setCell (World.setCell w2235 ⟨g2226, 0, none⟩ (.slice none 0 0)) ⟨g2226, 1, none⟩ (.slice none 0 0))) rfl (t := 71) (p := 4) rfl rfl ?hr ?_; (case hr => first | (go_simp; done) | (go_simp; rfl)); intro w2668 hst; clear hc2664 hz2665 hc2666 hz2667; have hq0 : Sep (fps []) w [r5 none 0 0 [], r11 none 0 0 [], b21 g2226 none 0 0] (World.setCell w2235 ⟨g2226, 0, none⟩ (.slice none 0 0)) := (HS.out).set1 (l1 := [r5 none 0 0 [], r11 none 0 0 []]) (l2 := []) 0 (.slice none 0 0); have hq1 : Sep (fps []) w [r5 none 0 0 [], r11 none 0 0 [], b18 g2226] (World.setCell (World.setCell w2235 ⟨g2226, 0, none⟩ (.slice none 0 0)) ⟨g2226, 1, none⟩ (.slice none 0 0)) := (hq0).set1 (l1 := [r5 none 0 0 [], r11 none 0 0 []]) (l2 := []) 1 (.slice none 0 0); replace HS : Aside0 (Sep (fps []) w [r5 none 0 0 [], r11 none 0 0 [], b18 g2226] w2668) := ⟨by rw [hst]; exact hq1⟩; clear hq0 hq1; clear hst; replace HS : Aside0 (Sep (fps []) w [r11 none 0 0 [], r5 none 0 0 [], r11 none 0 0 [], b19 g2226 none 0 0] w2668) := ⟨HS.out.nilrow 3 (Value.int .i64)⟩; replace HS : Aside0 (Sep (fps []) w [r5 none 0 0 [], r11 none 0 0 [], r5 none 0 0 [], r11 none 0 0 [], b20 g2226 none 0 0 none 0 0] w2668) := ⟨HS.out.nilrow 33 (Value.int .u32)⟩; replace HS : Aside0 (Sep (fps []) w [r5 none 0 0 [], r11 none 0 0 [], b20 g2226 none 0 0 none 0 0] w2668) := ⟨HS.out.sub (.cons_cons _ (.cons_cons _ (.cons _ (.cons _ (.cons_cons _ .slnil)))))⟩))
    have hc2673 : w2668.cell? ⟨g2226, 0, none⟩ = some (.slice none 0 0) := blk_cellv (HS.out.at2) 0 rfl
    have hc2674 : w2668.cell? ⟨g2226, 1, none⟩ = some (.slice none 0 0) := blk_cellv (HS.out.at2) 1 rfl
    refine bodyPost_ret (v := .tuple #[.agg #[.slice none 0 0, .slice none 0 0], .bool false]) (by simp [results, Tryd.results36, go_sem, hc2673, hc2674]) rfl ?_
    rw [← some_eq H]
    exact ⟨none, 0, 0, none, 0, 0, (by first | rfl | (simp [IntKind.wrap_u32]; done)), ((HS.out).front 1 (by simp)).keep (l := [r11 none 0 0 [], r5 none 0 0 []]) (rest := [b20 g2226 none 0 0 none 0 0])⟩

set_option maxHeartbeats 30000000 in
set_option maxRecDepth 100000 in
theorem count_See_nil.calls (k : Nat) (a2224 : Int) (r : Int) (w : World)  (HGl0 : Aside0 (Gl 0 #[.int .i64 0, .int .i64 0, .int .i64 0, .int .i64 0, .int .i64 0] (fps []) w)) (HS : Aside0 (Sep (fps []) w [] w)) (H : Aside0 (count_See_nil.f k a2224 = some r)) :
    Calls Tryd.prog 41 #[.pointer none, .int .i64 a2224] w fun e w' => e = .returned (.int .i64 r) ∧ Sep (fps []) w [] w' := by
  unfold count_See_nil.f at H
  go_enter Tryd.func41, Tryd.ntmps41
  go_wp2_with fail
  obtain ⟨t2695, HA2696, H⟩ := bind_some H
  refine (obj_See_nil.calls _ a2224 t2695 _ ⟨HGl0.out.pass (l := []) HS.out⟩ ⟨Sep.start _⟩ HA2696).mono ?_
  rintro e_ w2697 ⟨A2700, m2701, n2702, A2704, m2705, n2706, rfl, hS⟩
  replace HS : Aside0 (Sep (fps []) w [r11 A2700 m2701 n2702 t2695.2.1, r5 A2704 m2705 n2706 t2695.2.2] w2697) := ⟨HS.out.call hS⟩
  clear hS
  obtain rfl := (row_len (HS.out.at0)).symm
  obtain rfl := (row_len (HS.out.at1)).symm
  by_cases c2720 : t2695.1 = true
  · have H := if_yes c2720 H
    have c2720b0 : t2695.1 = true := c2720
    have c2720b1 : (!t2695.1) = false := by rw [c2720b0]; rfl
    try rw [c2720b1]
    clear c2720
    go_wp2_with (first | ((with_reducible refine gate_dst (N := 5) rfl ?_); refine box_on ?hg (N := 5) ?hd (cs := #[.slice none 0 0, .slice none 0 0]) (t := 71) ?hr ?_; (case hd => rfl); (case hg => rfl); (case hr => first | (go_simp; done) | (go_simp; rfl)); intro g2708 hg w2709 hbox hb; replace HS : Aside0 (Sep (fps []) w [r11 A2700 ((t2695.2.1).length) n2702 t2695.2.1, r5 A2704 ((t2695.2.2).length) n2706 t2695.2.2, b18 g2708] w2709) := ⟨HS.out.box hg hbox hb⟩; clear hg hbox hb; replace HS : Aside0 (Sep (fps []) w [r11 none 0 0 [], r11 A2700 ((t2695.2.1).length) n2702 t2695.2.1, r5 A2704 ((t2695.2.2).length) n2706 t2695.2.2, b19 g2708 none 0 0] w2709) := ⟨HS.out.nilrow 3 (Value.int .i64)⟩; replace HS : Aside0 (Sep (fps []) w [r5 none 0 0 [], r11 none 0 0 [], r11 A2700 ((t2695.2.1).length) n2702 t2695.2.1, r5 A2704 ((t2695.2.2).length) n2706 t2695.2.2, b20 g2708 none 0 0 none 0 0] w2709) := ⟨HS.out.nilrow 33 (Value.int .u32)⟩; have hc2715 : w2709.cell? ⟨g2708, 0, none⟩ = some (.slice none 0 0) := blk_cellv (HS.out.at4) 0 rfl; have hz2716 : w2709.frozen? ⟨g2708, 0, none⟩ = false := blk_fz (HS.out.at4) 0; have hc2717 : w2709.cell? ⟨g2708, 1, none⟩ = some (.slice none 0 0) := blk_cellv (HS.out.at4) 1 rfl; have hz2718 : w2709.frozen? ⟨g2708, 1, none⟩ = false := blk_fz (HS.out.at4) 1) | ((with_reducible refine gate_store (t := 71) (p := 5) rfl ?_); refine store_event (w1 := (World.setCell (World.setCell w2709 ⟨g2708, 0, none⟩ (.slice A2700 ((t2695.2.1).length) n2702)) ⟨g2708, 1, none⟩ (.slice A2704 ((t2695.2.2).length) n2706))) rfl (t := 71) (p := 5) rfl rfl ?hr ?_; (case hr => first | (go_simp; done) | (go_simp; rfl)); intro w2719 hst; clear hc2715 hz2716 hc2717 hz2718; have hq0 : Sep (fps []) w [r5 none 0 0 [], r11 none 0 0 [], r11 A2700 ((t2695.2.1).length) n2702 t2695.2.1, r5 A2704 ((t2695.2.2).length) n2706 t2695.2.2, b20 g2708 A2700 ((t2695.2.1).length) n2702 none 0 0] (World.setCell w2709 ⟨g2708, 0, none⟩ (.slice A2700 ((t2695.2.1).length) n2702)) := (HS.out).set1 (l1 := [r5 none 0 0 [], r11 none 0 0 [], r11 A2700 ((t2695.2.1).length) n2702 t2695.2.1, r5 A2704 ((t2695.2.2).length) n2706 t2695.2.2]) (l2 := []) 0 (.slice A2700 ((t2695.2.1).length) n2702); have hq1 : Sep (fps []) w [r5 none 0 0 [], r11 none 0 0 [], r11 A2700 ((t2695.2.1).length) n2702 t2695.2.1, r5 A2704 ((t2695.2.2).length) n2706 t2695.2.2, b20 g2708 A2700 ((t2695.2.1).length) n2702 A2704 ((t2695.2.2).length) n2706] (World.setCell (World.setCell w2709 ⟨g2708, 0, none⟩ (.slice A2700 ((t2695.2.1).length) n2702)) ⟨g2708, 1, none⟩ (.slice A2704 ((t2695.2.2).length) n2706)) := (hq0).set1 (l1 := [r5 none 0 0 [], r11 none 0 0 [], r11 A2700 ((t2695.2.1).length) n2702 t2695.2.1, r5 A2704 ((t2695.2.2).length) n2706 t2695.2.2]) (l2 := []) 1 (.slice A2704 ((t2695.2.2).length) n2706); replace HS : Aside0 (Sep (fps []) w [r5 none 0 0 [], r11 none 0 0 [], r11 A2700 ((t2695.2.1).length) n2702 t2695.2.1, r5 A2704 ((t2695.2.2).length) n2706 t2695.2.2, b20 g2708 A2700 ((t2695.2.1).length) n2702 A2704 ((t2695.2.2).length) n2706] w2719) := ⟨by rw [hst]; exact hq1⟩; clear hq0 hq1; clear hst; replace HS : Aside0 (Sep (fps []) w [] w2719) := ⟨HS.out.sub (.cons _ (.cons _ (.cons _ (.cons _ (.cons _ .slnil)))))⟩))
    obtain ⟨t2721, HA2722, H⟩ := bind_some H
    refine (ground_Ground_SeeWord_nil.calls (wrap64 (a2224 - 1)) 3 t2721 _ ⟨HGl0.out.pass (l := []) HS.out⟩ ⟨Sep.start _⟩ HA2722).mono ?_
    rintro e_ w2723 ⟨rfl, hS⟩
    replace HS : Aside0 (Sep (fps []) w [] w2723) := ⟨HS.out.call hS⟩
    clear hS
    go_wp2_with fail
    go_ret
    rw [← some_eq H]
    exact ⟨(by first | rfl | (simp [IntKind.wrap_u32]; done)), HS.out⟩
  · have H := if_no c2720 H
    have c2720b0 : t2695.1 = false := by simpa using c2720
    have c2720b1 : (!t2695.1) = true := by rw [c2720b0]; rfl
    try rw [c2720b1]
    clear c2720
    go_wp2_with (first | ((with_reducible refine gate_dst (N := 5) rfl ?_); refine box_on ?hg (N := 5) ?hd (cs := #[.slice none 0 0, .slice none 0 0]) (t := 71) ?hr ?_; (case hd => rfl); (case hg => rfl); (case hr => first | (go_simp; done) | (go_simp; rfl)); intro g2708 hg w2709 hbox hb; replace HS : Aside0 (Sep (fps []) w [r11 A2700 ((t2695.2.1).length) n2702 t2695.2.1, r5 A2704 ((t2695.2.2).length) n2706 t2695.2.2, b18 g2708] w2709) := ⟨HS.out.box hg hbox hb⟩; clear hg hbox hb; replace HS : Aside0 (Sep (fps []) w [r11 none 0 0 [], r11 A2700 ((t2695.2.1).length) n2702 t2695.2.1, r5 A2704 ((t2695.2.2).length) n2706 t2695.2.2, b19 g2708 none 0 0] w2709) := ⟨HS.out.nilrow 3 (Value.int .i64)⟩; replace HS : Aside0 (Sep (fps []) w [r5 none 0 0 [], r11 none 0 0 [], r11 A2700 ((t2695.2.1).length) n2702 t2695.2.1, r5 A2704 ((t2695.2.2).length) n2706 t2695.2.2, b20 g2708 none 0 0 none 0 0] w2709) := ⟨HS.out.nilrow 33 (Value.int .u32)⟩; have hc2715 : w2709.cell? ⟨g2708, 0, none⟩ = some (.slice none 0 0) := blk_cellv (HS.out.at4) 0 rfl; have hz2716 : w2709.frozen? ⟨g2708, 0, none⟩ = false := blk_fz (HS.out.at4) 0; have hc2717 : w2709.cell? ⟨g2708, 1, none⟩ = some (.slice none 0 0) := blk_cellv (HS.out.at4) 1 rfl; have hz2718 : w2709.frozen? ⟨g2708, 1, none⟩ = false := blk_fz (HS.out.at4) 1) | ((with_reducible refine gate_store (t := 71) (p := 5) rfl ?_); refine store_event (w1 := (World.setCell (World.setCell w2709 ⟨g2708, 0, none⟩ (.slice A2700 ((t2695.2.1).length) n2702)) ⟨g2708, 1, none⟩ (.slice A2704 ((t2695.2.2).length) n2706))) rfl (t := 71) (p := 5) rfl rfl ?hr ?_; (case hr => first | (go_simp; done) | (go_simp; rfl)); intro w2719 hst; clear hc2715 hz2716 hc2717 hz2718; have hq0 : Sep (fps []) w [r5 none 0 0 [], r11 none 0 0 [], r11 A2700 ((t2695.2.1).length) n2702 t2695.2.1, r5 A2704 ((t2695.2.2).length) n2706 t2695.2.2, b20 g2708 A2700 ((t2695.2.1).length) n2702 none 0 0] (World.setCell w2709 ⟨g2708, 0, none⟩ (.slice A2700 ((t2695.2.1).length) n2702)) := (HS.out).set1 (l1 := [r5 none 0 0 [], r11 none 0 0 [], r11 A2700 ((t2695.2.1).length) n2702 t2695.2.1, r5 A2704 ((t2695.2.2).length) n2706 t2695.2.2]) (l2 := []) 0 (.slice A2700 ((t2695.2.1).length) n2702); have hq1 : Sep (fps []) w [r5 none 0 0 [], r11 none 0 0 [], r11 A2700 ((t2695.2.1).length) n2702 t2695.2.1, r5 A2704 ((t2695.2.2).length) n2706 t2695.2.2, b20 g2708 A2700 ((t2695.2.1).length) n2702 A2704 ((t2695.2.2).length) n2706] (World.setCell (World.setCell w2709 ⟨g2708, 0, none⟩ (.slice A2700 ((t2695.2.1).length) n2702)) ⟨g2708, 1, none⟩ (.slice A2704 ((t2695.2.2).length) n2706)) := (hq0).set1 (l1 := [r5 none 0 0 [], r11 none 0 0 [], r11 A2700 ((t2695.2.1).length) n2702 t2695.2.1, r5 A2704 ((t2695.2.2).length) n2706 t2695.2.2]) (l2 := []) 1 (.slice A2704 ((t2695.2.2).length) n2706); replace HS : Aside0 (Sep (fps []) w [r5 none 0 0 [], r11 none 0 0 [], r11 A2700 ((t2695.2.1).length) n2702 t2695.2.1, r5 A2704 ((t2695.2.2).length) n2706 t2695.2.2, b20 g2708 A2700 ((t2695.2.1).length) n2702 A2704 ((t2695.2.2).length) n2706] w2719) := ⟨by rw [hst]; exact hq1⟩; clear hq0 hq1; clear hst; replace HS : Aside0 (Sep (fps []) w [] w2719) := ⟨HS.out.sub (.cons _ (.cons _ (.cons _ (.cons _ (.cons _ .slnil)))))⟩))
    go_ret
    rw [← some_eq H]
    exact ⟨(by first | rfl | (simp [IntKind.wrap_u32]; done)), HS.out⟩

set_option maxHeartbeats 30000000 in
set_option maxRecDepth 100000 in
theorem chain_of_nil.calls (a2754 : Int) (r : Int × Int × Int × Bool) (w : World)  (HGl0 : Aside0 (Gl 0 #[.int .i64 0, .int .i64 0, .int .i64 0, .int .i64 0, .int .i64 0] (fps []) w)) (HS : Aside0 (Sep (fps []) w [] w)) (H : Aside0 (chain_of_nil.f a2754 = some r)) :
    Calls Tryd.prog 139 #[.pointer none, .int .i64 a2754] w fun e w' => e = .returned (.tuple #[.agg #[.int .i64 r.1, .int .i64 r.2.1, .int .i64 r.2.2.1], .bool r.2.2.2]) ∧ Sep (fps []) w [] w' := by
  unfold chain_of_nil.f at H
  go_enter Tryd.func139, Tryd.ntmps139
  go_wp2_with (first | ((with_reducible refine gate_dst (N := 4) rfl ?_); refine box_on ?hg (N := 4) ?hd (cs := #[.int .i64 0, .int .i64 0, .int .i64 0]) (t := 166) ?hr ?_; (case hd => rfl); (case hg => rfl); (case hr => first | (go_simp; done) | (go_simp; rfl)); intro g2755 hg w2756 hbox hb; replace HS : Aside0 (Sep (fps []) w [b8 g2755 0 0 0] w2756) := ⟨HS.out.box hg hbox hb⟩; clear hg hbox hb; have hc2758 : w2756.cell? ⟨g2755, 0, none⟩ = some (.int .i64 0) := blk_cellv (HS.out.at0) 0 rfl; have hz2759 : w2756.frozen? ⟨g2755, 0, none⟩ = false := blk_fz (HS.out.at0) 0; have hc2760 : w2756.cell? ⟨g2755, 1, none⟩ = some (.int .i64 0) := blk_cellv (HS.out.at0) 1 rfl; have hz2761 : w2756.frozen? ⟨g2755, 1, none⟩ = false := blk_fz (HS.out.at0) 1; have hc2762 : w2756.cell? ⟨g2755, 2, none⟩ = some (.int .i64 0) := blk_cellv (HS.out.at0) 2 rfl; have hz2763 : w2756.frozen? ⟨g2755, 2, none⟩ = false := blk_fz (HS.out.at0) 2) | ((with_reducible refine gate_store (t := 166) (p := 4) rfl ?_); refine store_event (w1 := (World.setCell (World.setCell (World.setCell w2756 ⟨g2755, 0, none⟩ (.int .i64 0)) ⟨g2755, 1, none⟩ (.int .i64 0)) ⟨g2755, 2, none⟩ (.int .i64 0))) rfl (t := 166) (p := 4) rfl rfl ?hr ?_; (case hr => first | (go_simp; done) | (go_simp; rfl)); intro w2764 hst; clear hc2758 hz2759 hc2760 hz2761 hc2762 hz2763; replace HS : Aside0 (Sep (fps []) w [b8 g2755 0 0 0] w2764) := ⟨by rw [hst]; exact HS.out.setAll (l1 := []) (l2 := []) [.int .i64 0, .int .i64 0, .int .i64 0] rfl⟩; clear hst))
  have hc2765 : w2764.cell? ⟨g2755, 0, none⟩ = some (.int .i64 0) := blk_cellv (HS.out.at0) 0 rfl
  have hc2766 : w2764.cell? ⟨g2755, 1, none⟩ = some (.int .i64 0) := blk_cellv (HS.out.at0) 1 rfl
  have hc2767 : w2764.cell? ⟨g2755, 2, none⟩ = some (.int .i64 0) := blk_cellv (HS.out.at0) 2 rfl
  refine bodyPost_ret (v := .tuple #[.agg #[.int .i64 0, .int .i64 0, .int .i64 0], .bool false]) (by simp [results, Tryd.results139, go_sem, hc2765, hc2766, hc2767]) rfl ?_
  rw [← some_eq H]
  exact ⟨(by first | rfl | (simp [IntKind.wrap_u32]; done)), HS.out.sub (.cons _ .slnil)⟩

set_option maxHeartbeats 30000000 in
set_option maxRecDepth 100000 in
theorem ground_Ground_Reg_nil.calls (a2783 : Int) (r : Int) (w : World)  (HGl0 : Aside0 (Gl 0 #[.int .i64 0, .int .i64 0, .int .i64 0, .int .i64 0, .int .i64 0] (fps []) w)) (HS : Aside0 (Sep (fps []) w [] w)) (H : Aside0 (ground_Ground_Reg_nil.f a2783 = some r)) :
    Calls Tryd.prog 81 #[.pointer none, .int .i64 a2783] w fun e w' => e = .returned (.int .i64 r) ∧ Sep (fps []) w [] w' := by
  unfold ground_Ground_Reg_nil.f at H
  go_enter Tryd.func81, Tryd.ntmps81
  go_wp2_with fail
  obtain ⟨t2784, HA2785, H⟩ := bind_some H
  refine (ground_Ground_all_nil.calls t2784 _ ⟨HGl0.out.pass (l := []) HS.out⟩ ⟨Sep.start _⟩ HA2785).mono ?_
  rintro e_ w2786 ⟨rfl, hS⟩
  replace HS : Aside0 (Sep (fps []) w [] w2786) := ⟨HS.out.call hS⟩
  clear hS
  go_wp2_with fail
  obtain ⟨t2787, HA2788, H⟩ := bind_some H
  refine (ground_reg.calls a2783 t2787 _ ⟨HGl0.out.pass (l := []) HS.out⟩ ⟨Sep.start _⟩ HA2788).mono ?_
  rintro e_ w2789 ⟨rfl, hS⟩
  replace HS : Aside0 (Sep (fps []) w [] w2789) := ⟨HS.out.call hS⟩
  clear hS
  go_wp2_with fail
  obtain ⟨t2790, HA2791, H⟩ := bind_some H
  refine (store_Store_Get_nil.calls t2787 t2790 _ ⟨HGl0.out.pass (l := []) HS.out⟩ ⟨Sep.start _⟩ HA2791).mono ?_
  rintro e_ w2792 ⟨rfl, hS⟩
  replace HS : Aside0 (Sep (fps []) w [] w2792) := ⟨HS.out.call hS⟩
  clear hS
  go_wp2_with fail
  go_ret
  rw [← some_eq H]
  exact ⟨(by first | rfl | (simp [IntKind.wrap_u32]; done)), HS.out⟩

set_option maxHeartbeats 30000000 in
set_option maxRecDepth 100000 in
theorem chain_Len_nil.calls (a2753 : Int) (r : Int) (w : World)  (HGl0 : Aside0 (Gl 0 #[.int .i64 0, .int .i64 0, .int .i64 0, .int .i64 0, .int .i64 0] (fps []) w)) (HS : Aside0 (Sep (fps []) w [] w)) (H : Aside0 (chain_Len_nil.f a2753 = some r)) :
    Calls Tryd.prog 105 #[.pointer none, .int .i64 a2753] w fun e w' => e = .returned (.int .i64 r) ∧ Sep (fps []) w [] w' := by
  unfold chain_Len_nil.f at H
  go_enter Tryd.func105, Tryd.ntmps105
  go_wp2_with fail
  obtain ⟨t2768, HA2769, H⟩ := bind_some H
  refine (chain_of_nil.calls a2753 t2768 _ ⟨HGl0.out.pass (l := []) HS.out⟩ ⟨Sep.start _⟩ HA2769).mono ?_
  rintro e_ w2770 ⟨rfl, hS⟩
  replace HS : Aside0 (Sep (fps []) w [] w2770) := ⟨HS.out.call hS⟩
  clear hS
  by_cases c2781 : t2768.2.2.2 = true
  · have H := if_yes c2781 H
    have c2781b0 : t2768.2.2.2 = true := c2781
    have c2781b1 : (!t2768.2.2.2) = false := by rw [c2781b0]; rfl
    try rw [c2781b1]
    clear c2781
    go_wp2_with (first | ((with_reducible refine gate_dst (N := 5) rfl ?_); refine box_on ?hg (N := 5) ?hd (cs := #[.int .i64 0, .int .i64 0, .int .i64 0]) (t := 166) ?hr ?_; (case hd => rfl); (case hg => rfl); (case hr => first | (go_simp; done) | (go_simp; rfl)); intro g2771 hg w2772 hbox hb; replace HS : Aside0 (Sep (fps []) w [b8 g2771 0 0 0] w2772) := ⟨HS.out.box hg hbox hb⟩; clear hg hbox hb; have hc2774 : w2772.cell? ⟨g2771, 0, none⟩ = some (.int .i64 0) := blk_cellv (HS.out.at0) 0 rfl; have hz2775 : w2772.frozen? ⟨g2771, 0, none⟩ = false := blk_fz (HS.out.at0) 0; have hc2776 : w2772.cell? ⟨g2771, 1, none⟩ = some (.int .i64 0) := blk_cellv (HS.out.at0) 1 rfl; have hz2777 : w2772.frozen? ⟨g2771, 1, none⟩ = false := blk_fz (HS.out.at0) 1; have hc2778 : w2772.cell? ⟨g2771, 2, none⟩ = some (.int .i64 0) := blk_cellv (HS.out.at0) 2 rfl; have hz2779 : w2772.frozen? ⟨g2771, 2, none⟩ = false := blk_fz (HS.out.at0) 2) | ((with_reducible refine gate_store (t := 166) (p := 5) rfl ?_); refine store_event (w1 := (World.setCell (World.setCell (World.setCell w2772 ⟨g2771, 0, none⟩ (.int .i64 t2768.1)) ⟨g2771, 1, none⟩ (.int .i64 t2768.2.1)) ⟨g2771, 2, none⟩ (.int .i64 t2768.2.2.1))) rfl (t := 166) (p := 5) rfl rfl ?hr ?_; (case hr => first | (go_simp; done) | (go_simp; rfl)); intro w2780 hst; clear hc2774 hz2775 hc2776 hz2777 hc2778 hz2779; replace HS : Aside0 (Sep (fps []) w [b8 g2771 t2768.1 t2768.2.1 t2768.2.2.1] w2780) := ⟨by rw [hst]; exact HS.out.setAll (l1 := []) (l2 := []) [.int .i64 t2768.1, .int .i64 t2768.2.1, .int .i64 t2768.2.2.1] rfl⟩; clear hst; have hc2782 : w2780.cell? ⟨g2771, 2, none⟩ = some (.int .i64 t2768.2.2.1) := blk_cellv (HS.out.at0) 2 rfl))
    clear hc2782
    obtain ⟨t2793, HA2794, H⟩ := bind_some H
    refine (ground_Ground_Reg_nil.calls t2768.2.2.1 t2793 _ ⟨HGl0.out.pass (l := []) HS.out⟩ ⟨Sep.start _⟩ HA2794).mono ?_
    rintro e_ w2795 ⟨rfl, hS⟩
    replace HS : Aside0 (Sep (fps []) w [b8 g2771 t2768.1 t2768.2.1 t2768.2.2.1] w2795) := ⟨HS.out.call hS⟩
    clear hS
    replace HS : Aside0 (Sep (fps []) w [] w2795) := ⟨HS.out.sub (.cons _ .slnil)⟩
    go_wp2_with fail
    go_ret
    rw [← some_eq H]
    exact ⟨(by first | rfl | (simp [IntKind.wrap_u32]; done)), HS.out⟩
  · have H := if_no c2781 H
    have c2781b0 : t2768.2.2.2 = false := by simpa using c2781
    have c2781b1 : (!t2768.2.2.2) = true := by rw [c2781b0]; rfl
    try rw [c2781b1]
    clear c2781
    go_wp2_with (first | ((with_reducible refine gate_dst (N := 5) rfl ?_); refine box_on ?hg (N := 5) ?hd (cs := #[.int .i64 0, .int .i64 0, .int .i64 0]) (t := 166) ?hr ?_; (case hd => rfl); (case hg => rfl); (case hr => first | (go_simp; done) | (go_simp; rfl)); intro g2771 hg w2772 hbox hb; replace HS : Aside0 (Sep (fps []) w [b8 g2771 0 0 0] w2772) := ⟨HS.out.box hg hbox hb⟩; clear hg hbox hb; have hc2774 : w2772.cell? ⟨g2771, 0, none⟩ = some (.int .i64 0) := blk_cellv (HS.out.at0) 0 rfl; have hz2775 : w2772.frozen? ⟨g2771, 0, none⟩ = false := blk_fz (HS.out.at0) 0; have hc2776 : w2772.cell? ⟨g2771, 1, none⟩ = some (.int .i64 0) := blk_cellv (HS.out.at0) 1 rfl; have hz2777 : w2772.frozen? ⟨g2771, 1, none⟩ = false := blk_fz (HS.out.at0) 1; have hc2778 : w2772.cell? ⟨g2771, 2, none⟩ = some (.int .i64 0) := blk_cellv (HS.out.at0) 2 rfl; have hz2779 : w2772.frozen? ⟨g2771, 2, none⟩ = false := blk_fz (HS.out.at0) 2) | ((with_reducible refine gate_store (t := 166) (p := 5) rfl ?_); refine store_event (w1 := (World.setCell (World.setCell (World.setCell w2772 ⟨g2771, 0, none⟩ (.int .i64 t2768.1)) ⟨g2771, 1, none⟩ (.int .i64 t2768.2.1)) ⟨g2771, 2, none⟩ (.int .i64 t2768.2.2.1))) rfl (t := 166) (p := 5) rfl rfl ?hr ?_; (case hr => first | (go_simp; done) | (go_simp; rfl)); intro w2780 hst; clear hc2774 hz2775 hc2776 hz2777 hc2778 hz2779; replace HS : Aside0 (Sep (fps []) w [b8 g2771 t2768.1 t2768.2.1 t2768.2.2.1] w2780) := ⟨by rw [hst]; exact HS.out.setAll (l1 := []) (l2 := []) [.int .i64 t2768.1, .int .i64 t2768.2.1, .int .i64 t2768.2.2.1] rfl⟩; clear hst; replace HS : Aside0 (Sep (fps []) w [] w2780) := ⟨HS.out.sub (.cons _ .slnil)⟩))
    go_ret
    rw [← some_eq H]
    exact ⟨(by first | rfl | (simp [IntKind.wrap_u32]; done)), HS.out⟩

set_option maxHeartbeats 30000000 in
set_option maxRecDepth 100000 in
theorem pool_Len_nil.calls  (r : Int) (w : World)  (HGl0 : Aside0 (Gl 0 #[.int .i64 0, .int .i64 0, .int .i64 0, .int .i64 0, .int .i64 0] (fps []) w)) (HS : Aside0 (Sep (fps []) w [] w)) (H : Aside0 (pool_Len_nil.f = some r)) :
    Calls Tryd.prog 44 #[.pointer none] w fun e w' => e = .returned (.int .i64 r) ∧ Sep (fps []) w [] w' := by
  unfold pool_Len_nil.f at H
  go_enter Tryd.func44, Tryd.ntmps44
  go_wp2_with fail
  obtain ⟨t2796, HA2797, H⟩ := bind_some H
  refine (chain_Len_nil.calls 0 t2796 _ ⟨HGl0.out.pass (l := []) HS.out⟩ ⟨Sep.start _⟩ HA2797).mono ?_
  rintro e_ w2798 ⟨rfl, hS⟩
  replace HS : Aside0 (Sep (fps []) w [] w2798) := ⟨HS.out.call hS⟩
  clear hS
  go_wp2_with fail
  go_ret
  rw [← some_eq H]
  exact ⟨(by first | rfl | (simp [IntKind.wrap_u32]; done)), HS.out⟩

set_option maxHeartbeats 30000000 in
set_option maxRecDepth 100000 in
theorem ground_Ground_set_nil.calls (a2835 : Int) (a2836 : Int) (r : Bool) (w : World)  (HGl0 : Aside0 (Gl 0 #[.int .i64 0, .int .i64 0, .int .i64 0, .int .i64 0, .int .i64 0] (fps []) w)) (HS : Aside0 (Sep (fps []) w [] w)) (H : Aside0 (ground_Ground_set_nil.f a2835 a2836 = some r)) :
    Calls Tryd.prog 132 #[.pointer none, .int .i64 a2835, .int .i64 a2836] w fun e w' => e = .returned (.bool r) ∧ Sep (fps []) w [] w' := by
  unfold ground_Ground_set_nil.f at H
  go_enter Tryd.func132, Tryd.ntmps132
  by_cases c2837 : a2836 < 0
  · have H := if_yes c2837 H
    have c2837b0 : decide (a2836 < 0) = true := decide_eq_true c2837
    clear c2837
    go_wp2_with fail
    go_ret
    rw [← some_eq H]
    exact ⟨(by first | rfl | (simp [IntKind.wrap_u32]; done)), HS.out⟩
  · have H := if_no c2837 H
    have c2837b0 : decide (a2836 < 0) = false := decide_eq_false c2837
    clear c2837
    by_cases c2838 : a2836 > 4294967295
    · have H := if_yes c2838 H
      have c2838b0 : decide (4294967295 < a2836) = true := decide_eq_true c2838
      clear c2838
      go_wp2_with fail
      go_ret
      rw [← some_eq H]
      exact ⟨(by first | rfl | (simp [IntKind.wrap_u32]; done)), HS.out⟩
    · have H := if_no c2838 H
      have c2838b0 : decide (4294967295 < a2836) = false := decide_eq_false c2838
      clear c2838
      go_wp2_with fail
      obtain ⟨t2839, HA2840, H⟩ := bind_some H
      refine (ground_Ground_all_nil.calls t2839 _ ⟨HGl0.out.pass (l := []) HS.out⟩ ⟨Sep.start _⟩ HA2840).mono ?_
      rintro e_ w2841 ⟨rfl, hS⟩
      replace HS : Aside0 (Sep (fps []) w [] w2841) := ⟨HS.out.call hS⟩
      clear hS
      go_wp2_with fail
      obtain ⟨t2842, HA2843, H⟩ := bind_some H
      refine (store_Store_Put_nil.calls a2835 ((a2836) % 4294967296) t2842 _ ⟨HGl0.out.pass (l := []) HS.out⟩ ⟨Sep.start _⟩ HA2843).mono ?_
      rintro e_ w2844 ⟨rfl, hS⟩
      replace HS : Aside0 (Sep (fps []) w [] w2844) := ⟨HS.out.call hS⟩
      clear hS
      go_wp2_with fail
      go_ret
      rw [← some_eq H]
      exact ⟨(by first | rfl | (simp [IntKind.wrap_u32]; done)), HS.out⟩

set_option maxHeartbeats 30000000 in
set_option maxRecDepth 100000 in
theorem ground_Ground_SetReg_nil.calls (a2830 : Int) (a2831 : Int) (r : Bool) (w : World)  (HGl0 : Aside0 (Gl 0 #[.int .i64 0, .int .i64 0, .int .i64 0, .int .i64 0, .int .i64 0] (fps []) w)) (HS : Aside0 (Sep (fps []) w [] w)) (H : Aside0 (ground_Ground_SetReg_nil.f a2830 a2831 = some r)) :
    Calls Tryd.prog 83 #[.pointer none, .int .i64 a2830, .int .i64 a2831] w fun e w' => e = .returned (.bool r) ∧ Sep (fps []) w [] w' := by
  unfold ground_Ground_SetReg_nil.f at H
  go_enter Tryd.func83, Tryd.ntmps83
  go_wp2_with fail
  obtain ⟨t2832, HA2833, H⟩ := bind_some H
  refine (ground_reg.calls a2830 t2832 _ ⟨HGl0.out.pass (l := []) HS.out⟩ ⟨Sep.start _⟩ HA2833).mono ?_
  rintro e_ w2834 ⟨rfl, hS⟩
  replace HS : Aside0 (Sep (fps []) w [] w2834) := ⟨HS.out.call hS⟩
  clear hS
  go_wp2_with fail
  obtain ⟨t2845, HA2846, H⟩ := bind_some H
  refine (ground_Ground_set_nil.calls t2832 a2831 t2845 _ ⟨HGl0.out.pass (l := []) HS.out⟩ ⟨Sep.start _⟩ HA2846).mono ?_
  rintro e_ w2847 ⟨rfl, hS⟩
  replace HS : Aside0 (Sep (fps []) w [] w2847) := ⟨HS.out.call hS⟩
  clear hS
  go_wp2_with fail
  go_ret
  rw [← some_eq H]
  exact ⟨(by first | rfl | (simp [IntKind.wrap_u32]; done)), HS.out⟩

set_option maxHeartbeats 30000000 in
set_option maxRecDepth 100000 in
theorem chain_Take_nil.calls (a2803 : Int) (r : Int × Bool) (w : World)  (HGl0 : Aside0 (Gl 0 #[.int .i64 0, .int .i64 0, .int .i64 0, .int .i64 0, .int .i64 0] (fps []) w)) (HS : Aside0 (Sep (fps []) w [] w)) (H : Aside0 (chain_Take_nil.f a2803 = some r)) :
    Calls Tryd.prog 135 #[.pointer none, .int .i64 a2803] w fun e w' => e = .returned (.tuple #[.int .i64 r.1, .bool r.2]) ∧ Sep (fps []) w [] w' := by
  unfold chain_Take_nil.f at H
  go_enter Tryd.func135, Tryd.ntmps135
  go_wp2_with fail
  obtain ⟨t2804, HA2805, H⟩ := bind_some H
  refine (chain_of_nil.calls a2803 t2804 _ ⟨HGl0.out.pass (l := []) HS.out⟩ ⟨Sep.start _⟩ HA2805).mono ?_
  rintro e_ w2806 ⟨rfl, hS⟩
  replace HS : Aside0 (Sep (fps []) w [] w2806) := ⟨HS.out.call hS⟩
  clear hS
  by_cases c2817 : t2804.2.2.2 = true
  · have H := if_yes c2817 H
    have c2817b0 : t2804.2.2.2 = true := c2817
    have c2817b1 : (!t2804.2.2.2) = false := by rw [c2817b0]; rfl
    try rw [c2817b1]
    clear c2817
    go_wp2_with (first | ((with_reducible refine gate_dst (N := 6) rfl ?_); refine box_on ?hg (N := 6) ?hd (cs := #[.int .i64 0, .int .i64 0, .int .i64 0]) (t := 166) ?hr ?_; (case hd => rfl); (case hg => rfl); (case hr => first | (go_simp; done) | (go_simp; rfl)); intro g2807 hg w2808 hbox hb; replace HS : Aside0 (Sep (fps []) w [b8 g2807 0 0 0] w2808) := ⟨HS.out.box hg hbox hb⟩; clear hg hbox hb; have hc2810 : w2808.cell? ⟨g2807, 0, none⟩ = some (.int .i64 0) := blk_cellv (HS.out.at0) 0 rfl; have hz2811 : w2808.frozen? ⟨g2807, 0, none⟩ = false := blk_fz (HS.out.at0) 0; have hc2812 : w2808.cell? ⟨g2807, 1, none⟩ = some (.int .i64 0) := blk_cellv (HS.out.at0) 1 rfl; have hz2813 : w2808.frozen? ⟨g2807, 1, none⟩ = false := blk_fz (HS.out.at0) 1; have hc2814 : w2808.cell? ⟨g2807, 2, none⟩ = some (.int .i64 0) := blk_cellv (HS.out.at0) 2 rfl; have hz2815 : w2808.frozen? ⟨g2807, 2, none⟩ = false := blk_fz (HS.out.at0) 2) | ((with_reducible refine gate_store (t := 166) (p := 6) rfl ?_); refine store_event (w1 := (World.setCell (World.setCell (World.setCell w2808 ⟨g2807, 0, none⟩ (.int .i64 t2804.1)) ⟨g2807, 1, none⟩ (.int .i64 t2804.2.1)) ⟨g2807, 2, none⟩ (.int .i64 t2804.2.2.1))) rfl (t := 166) (p := 6) rfl rfl ?hr ?_; (case hr => first | (go_simp; done) | (go_simp; rfl)); intro w2816 hst; clear hc2810 hz2811 hc2812 hz2813 hc2814 hz2815; replace HS : Aside0 (Sep (fps []) w [b8 g2807 t2804.1 t2804.2.1 t2804.2.2.1] w2816) := ⟨by rw [hst]; exact HS.out.setAll (l1 := []) (l2 := []) [.int .i64 t2804.1, .int .i64 t2804.2.1, .int .i64 t2804.2.2.1] rfl⟩; clear hst; have hc2818 : w2816.cell? ⟨g2807, 0, none⟩ = some (.int .i64 t2804.1) := blk_cellv (HS.out.at0) 0 rfl))
    clear hc2818
    obtain ⟨t2819, HA2820, H⟩ := bind_some H
    refine (ground_Ground_Reg_nil.calls t2804.1 t2819 _ ⟨HGl0.out.pass (l := []) HS.out⟩ ⟨Sep.start _⟩ HA2820).mono ?_
    rintro e_ w2821 ⟨rfl, hS⟩
    replace HS : Aside0 (Sep (fps []) w [b8 g2807 t2804.1 t2804.2.1 t2804.2.2.1] w2821) := ⟨HS.out.call hS⟩
    clear hS
    by_cases c2822 : t2819 = 0
    · have H := if_yes c2822 H
      have c2822b0 : (t2819 == 0) = true := beq_iff_eq.mpr c2822
      have c2822b1 : (t2819 != 0) = false := bne_eq_false_iff_eq.mpr c2822
      clear c2822
      replace HS : Aside0 (Sep (fps []) w [] w2821) := ⟨HS.out.sub (.cons _ .slnil)⟩
      go_wp2_with fail
      go_ret2
      rw [← some_eq H]
      exact ⟨(by first | rfl | (simp [IntKind.wrap_u32]; done)), HS.out⟩
    · have H := if_no c2822 H
      have c2822b0 : (t2819 == 0) = false := beq_eq_false_iff_ne.mpr c2822
      have c2822b1 : (t2819 != 0) = true := bne_iff_ne.mpr c2822
      clear c2822
      go_wp2_with fail
      obtain ⟨t2823, HA2824, H⟩ := bind_some H
      refine (ground_Ground_Word_nil.calls (wrap64 (t2819 - 1)) 5 t2823 _ ⟨HGl0.out.pass (l := []) HS.out⟩ ⟨Sep.start _⟩ HA2824).mono ?_
      rintro e_ w2825 ⟨rfl, hS⟩
      replace HS : Aside0 (Sep (fps []) w [b8 g2807 t2804.1 t2804.2.1 t2804.2.2.1] w2825) := ⟨HS.out.call hS⟩
      clear hS
      go_wp2_with fail
      obtain ⟨t2826, HA2827, H⟩ := bind_some H
      refine (ground_Ground_SetWord_nil.calls (wrap64 (t2819 - 1)) 5 0 t2826 _ ⟨HGl0.out.pass (l := []) HS.out⟩ ⟨Sep.start _⟩ HA2827).mono ?_
      rintro e_ w2828 ⟨rfl, hS⟩
      replace HS : Aside0 (Sep (fps []) w [b8 g2807 t2804.1 t2804.2.1 t2804.2.2.1] w2828) := ⟨HS.out.call hS⟩
      clear hS
      have hc2829 : w2828.cell? ⟨g2807, 0, none⟩ = some (.int .i64 t2804.1) := blk_cellv (HS.out.at0) 0 rfl
      go_wp2_with fail
      clear hc2829
      obtain ⟨t2848, HA2849, H⟩ := bind_some H
      refine (ground_Ground_SetReg_nil.calls t2804.1 (wrap64 (t2823)) t2848 _ ⟨HGl0.out.pass (l := []) HS.out⟩ ⟨Sep.start _⟩ HA2849).mono ?_
      rintro e_ w2850 ⟨rfl, hS⟩
      replace HS : Aside0 (Sep (fps []) w [b8 g2807 t2804.1 t2804.2.1 t2804.2.2.1] w2850) := ⟨HS.out.call hS⟩
      clear hS
      by_cases c2851 : (wrap64 (t2823)) = 0
      · have H := if_yes c2851 H
        have c2851b0 : ((wrap64 (t2823)) == 0) = true := beq_iff_eq.mpr c2851
        have c2851b1 : ((wrap64 (t2823)) != 0) = false := bne_eq_false_iff_eq.mpr c2851
        clear c2851
        have hc2852 : w2850.cell? ⟨g2807, 1, none⟩ = some (.int .i64 t2804.2.1) := blk_cellv (HS.out.at0) 1 rfl
        go_wp2_with fail
        clear hc2852
        obtain ⟨t2853, HA2854, H⟩ := bind_some H
        refine (ground_Ground_SetReg_nil.calls t2804.2.1 0 t2853 _ ⟨HGl0.out.pass (l := []) HS.out⟩ ⟨Sep.start _⟩ HA2854).mono ?_
        rintro e_ w2855 ⟨rfl, hS⟩
        replace HS : Aside0 (Sep (fps []) w [b8 g2807 t2804.1 t2804.2.1 t2804.2.2.1] w2855) := ⟨HS.out.call hS⟩
        clear hS
        go_wp2_with fail
        refine start_ (n := 9) (S := (fun w' => w'.cell? ⟨g2807, 2, none⟩ = some (.int .i64 t2804.2.2.1))) (ds := []) #[false, false, false, false, false, false, false, false, false] (by kernel_rfl) rfl rfl (blk_cellv ((HS.out.drew).at0) 2 rfl) (fun hHeld => ?_)
        have HS_ := Aside0.mk HS.out.drew
        clear HS
        generalize World.drew _ = w2857 at HS_ hHeld ⊢
        have HS := HS_
        clear HS_
        refine pure_ (i := 0) (N := some 44) (v := ?_) (a' := ?_) #[true, false, false, false, false, false, false, false, false] rfl rfl (by kernel_rfl) (fun _ _ _ h => h) (Or.inl ⟨by rfl, ?_⟩) ?_ ?_
        rotate_left
        · intro w'
          go_simp
          with_reducible rfl
        rotate_left
        · simp only [Act.put, List.setIfInBounds_toArray, List.set_cons_zero, List.set_cons_succ, i64_w, i32_w]
          rfl
        refine pure_ (i := 1) (N := some 45) (v := ?_) (a' := ?_) #[true, true, false, false, false, false, false, false, false] rfl rfl (by kernel_rfl) (fun _ _ _ h => h) (Or.inl ⟨by rfl, ?_⟩) ?_ ?_
        rotate_left
        · intro w'
          go_simp
          with_reducible rfl
        rotate_left
        · simp only [Act.put, List.setIfInBounds_toArray, List.set_cons_zero, List.set_cons_succ, i64_w, i32_w]
          rfl
        refine pure_ (i := 3) (N := some 47) (v := ?_) (a' := ?_) #[true, true, false, true, false, false, false, false, false] rfl rfl (by kernel_rfl) (fun _ _ _ h => h) (Or.inl ⟨by rfl, ?_⟩) ?_ ?_
        rotate_left
        · intro w'
          go_simp
          with_reducible rfl
        rotate_left
        · simp only [Act.put, List.setIfInBounds_toArray, List.set_cons_zero, List.set_cons_succ, i64_w, i32_w]
          rfl
        refine pure_ (i := 4) (N := some 48) (v := ?_) (a' := ?_) #[true, true, false, true, true, false, false, false, false] rfl rfl (by kernel_rfl) (fun _ _ _ h => h) (Or.inl ⟨by rfl, ?_⟩) ?_ ?_
        rotate_left
        · intro w'
          go_simp
          with_reducible rfl
        rotate_left
        · simp only [Act.put, List.setIfInBounds_toArray, List.set_cons_zero, List.set_cons_succ, i64_w, i32_w]
          rfl
        refine take_ (i := 2) (N := some 46) (v := ?_) (a' := ?_) #[true, true, true, true, true, false, false, false, false] rfl rfl (by kernel_rfl) (fun _ _ _ h => h) (Or.inl ⟨by rfl, ?_⟩) hHeld ?_ ?_
        rotate_left
        · rintro w' hS'
          have s0 := hS'
          go_simp
          with_reducible rfl
        rotate_left
        · simp only [Act.put, List.setIfInBounds_toArray, List.set_cons_zero, List.set_cons_succ, i64_w, i32_w]
          rfl
        refine take_ (i := 5) (N := some 49) (v := ?_) (a' := ?_) #[true, true, true, true, true, true, false, false, false] rfl rfl (by kernel_rfl) (fun _ _ _ h => h) (Or.inl ⟨by rfl, ?_⟩) hHeld ?_ ?_
        rotate_left
        · rintro w' hS'
          have s0 := hS'
          go_simp
          with_reducible rfl
        rotate_left
        · simp only [Act.put, List.setIfInBounds_toArray, List.set_cons_zero, List.set_cons_succ, i64_w, i32_w]
          rfl
        refine one_ (i := 6) (N := some 50) #[true, true, true, true, true, true, true, false, false] rfl rfl (by kernel_rfl) (by decide) (fun K hK => ?_)
        obtain ⟨t2858, HA2859, H⟩ := bind_some H
        refine goes_ Tryd.func81 (by kernel_rfl) rfl #[.pointer none, .int .i64 t2804.2.2.1] (by rfl) rfl rfl (by (try simp only [List.map_toArray, List.map_cons, List.map_nil]); first | done | rfl) ?_
        refine (ground_Ground_Reg_nil.calls t2804.2.2.1 t2858 _ ⟨HGl0.out.pass (l := []) HS.out⟩ ⟨Sep.start _⟩ HA2859).mono ?_
        rintro e_ w2860 ⟨rfl, hS⟩
        replace HS : Aside0 (Sep (fps []) w [b8 g2807 t2804.1 t2804.2.1 t2804.2.2.1] w2860) := ⟨HS.out.call hS⟩
        clear hS
        refine ⟨_, rfl, ?_⟩
        refine hK.out _ _ (blk_cellv (HS.out.at0) 2 rfl) (fun hHeld => ?_)
        clear hK K
        refine norm_ (a' := ?_) ?_ ?_
        rotate_left
        · show Act.put _ (some 50) _ = _
          simp only [Act.put, List.setIfInBounds_toArray, List.set_cons_zero, List.set_cons_succ, i64_w, i32_w]
          rfl
        refine pure_ (i := 7) (N := some 51) (v := ?_) (a' := ?_) #[true, true, true, true, true, true, true, true, false] rfl rfl (by kernel_rfl) (fun _ _ _ h => h) (Or.inl ⟨by rfl, ?_⟩) ?_ ?_
        rotate_left
        · intro w'
          go_simp
          with_reducible rfl
        rotate_left
        · simp only [Act.put, List.setIfInBounds_toArray, List.set_cons_zero, List.set_cons_succ, i64_w, i32_w]
          rfl
        refine one_ (i := 8) (N := some 52) #[true, true, true, true, true, true, true, true, true] rfl rfl (by kernel_rfl) (by decide) (fun K hK => ?_)
        obtain ⟨t2861, HA2862, H⟩ := bind_some H
        refine goes_ Tryd.func83 (by kernel_rfl) rfl #[.pointer none, .int .i64 t2804.2.2.1, .int .i64 (wrap64 (t2858 - 1))] (by rfl) rfl rfl (by (try simp only [List.map_toArray, List.map_cons, List.map_nil]); first | done | rfl) ?_
        refine (ground_Ground_SetReg_nil.calls t2804.2.2.1 (wrap64 (t2858 - 1)) t2861 _ ⟨HGl0.out.pass (l := []) HS.out⟩ ⟨Sep.start _⟩ HA2862).mono ?_
        rintro e_ w2863 ⟨rfl, hS⟩
        replace HS : Aside0 (Sep (fps []) w [b8 g2807 t2804.1 t2804.2.1 t2804.2.2.1] w2863) := ⟨HS.out.call hS⟩
        clear hS
        refine ⟨_, rfl, ?_⟩
        refine hK.out _ _ (blk_cellv (HS.out.at0) 2 rfl) (fun hHeld => ?_)
        clear hK K
        refine norm_ (a' := ?_) ?_ ?_
        rotate_left
        · show Act.put _ (some 52) _ = _
          simp only [Act.put, List.setIfInBounds_toArray, List.set_cons_zero, List.set_cons_succ, i64_w, i32_w]
          rfl
        refine done_ (by kernel_rfl) ?_
        replace HS : Aside0 (Sep (fps []) w [] w2863) := ⟨HS.out.sub (.cons _ .slnil)⟩
        go_wp2_with fail
        go_ret2
        rw [← some_eq H]
        exact ⟨(by first | rfl | (simp [IntKind.wrap_u32]; done)), HS.out⟩
      · have H := if_no c2851 H
        have c2851b0 : ((wrap64 (t2823)) == 0) = false := beq_eq_false_iff_ne.mpr c2851
        have c2851b1 : ((wrap64 (t2823)) != 0) = true := bne_iff_ne.mpr c2851
        clear c2851
        go_wp2_with fail
        refine start_ (n := 9) (S := (fun w' => w'.cell? ⟨g2807, 2, none⟩ = some (.int .i64 t2804.2.2.1))) (ds := []) #[false, false, false, false, false, false, false, false, false] (by kernel_rfl) rfl rfl (blk_cellv ((HS.out.drew).at0) 2 rfl) (fun hHeld => ?_)
        have HS_ := Aside0.mk HS.out.drew
        clear HS
        generalize World.drew _ = w2865 at HS_ hHeld ⊢
        have HS := HS_
        clear HS_
        refine pure_ (i := 0) (N := some 44) (v := ?_) (a' := ?_) #[true, false, false, false, false, false, false, false, false] rfl rfl (by kernel_rfl) (fun _ _ _ h => h) (Or.inl ⟨by rfl, ?_⟩) ?_ ?_
        rotate_left
        · intro w'
          go_simp
          with_reducible rfl
        rotate_left
        · simp only [Act.put, List.setIfInBounds_toArray, List.set_cons_zero, List.set_cons_succ, i64_w, i32_w]
          rfl
        refine pure_ (i := 1) (N := some 45) (v := ?_) (a' := ?_) #[true, true, false, false, false, false, false, false, false] rfl rfl (by kernel_rfl) (fun _ _ _ h => h) (Or.inl ⟨by rfl, ?_⟩) ?_ ?_
        rotate_left
        · intro w'
          go_simp
          with_reducible rfl
        rotate_left
        · simp only [Act.put, List.setIfInBounds_toArray, List.set_cons_zero, List.set_cons_succ, i64_w, i32_w]
          rfl
        refine pure_ (i := 3) (N := some 47) (v := ?_) (a' := ?_) #[true, true, false, true, false, false, false, false, false] rfl rfl (by kernel_rfl) (fun _ _ _ h => h) (Or.inl ⟨by rfl, ?_⟩) ?_ ?_
        rotate_left
        · intro w'
          go_simp
          with_reducible rfl
        rotate_left
        · simp only [Act.put, List.setIfInBounds_toArray, List.set_cons_zero, List.set_cons_succ, i64_w, i32_w]
          rfl
        refine pure_ (i := 4) (N := some 48) (v := ?_) (a' := ?_) #[true, true, false, true, true, false, false, false, false] rfl rfl (by kernel_rfl) (fun _ _ _ h => h) (Or.inl ⟨by rfl, ?_⟩) ?_ ?_
        rotate_left
        · intro w'
          go_simp
          with_reducible rfl
        rotate_left
        · simp only [Act.put, List.setIfInBounds_toArray, List.set_cons_zero, List.set_cons_succ, i64_w, i32_w]
          rfl
        refine take_ (i := 2) (N := some 46) (v := ?_) (a' := ?_) #[true, true, true, true, true, false, false, false, false] rfl rfl (by kernel_rfl) (fun _ _ _ h => h) (Or.inl ⟨by rfl, ?_⟩) hHeld ?_ ?_
        rotate_left
        · rintro w' hS'
          have s0 := hS'
          go_simp
          with_reducible rfl
        rotate_left
        · simp only [Act.put, List.setIfInBounds_toArray, List.set_cons_zero, List.set_cons_succ, i64_w, i32_w]
          rfl
        refine take_ (i := 5) (N := some 49) (v := ?_) (a' := ?_) #[true, true, true, true, true, true, false, false, false] rfl rfl (by kernel_rfl) (fun _ _ _ h => h) (Or.inl ⟨by rfl, ?_⟩) hHeld ?_ ?_
        rotate_left
        · rintro w' hS'
          have s0 := hS'
          go_simp
          with_reducible rfl
        rotate_left
        · simp only [Act.put, List.setIfInBounds_toArray, List.set_cons_zero, List.set_cons_succ, i64_w, i32_w]
          rfl
        refine one_ (i := 6) (N := some 50) #[true, true, true, true, true, true, true, false, false] rfl rfl (by kernel_rfl) (by decide) (fun K hK => ?_)
        obtain ⟨t2858, HA2866, H⟩ := bind_some H
        refine goes_ Tryd.func81 (by kernel_rfl) rfl #[.pointer none, .int .i64 t2804.2.2.1] (by rfl) rfl rfl (by (try simp only [List.map_toArray, List.map_cons, List.map_nil]); first | done | rfl) ?_
        refine (ground_Ground_Reg_nil.calls t2804.2.2.1 t2858 _ ⟨HGl0.out.pass (l := []) HS.out⟩ ⟨Sep.start _⟩ HA2866).mono ?_
        rintro e_ w2867 ⟨rfl, hS⟩
        replace HS : Aside0 (Sep (fps []) w [b8 g2807 t2804.1 t2804.2.1 t2804.2.2.1] w2867) := ⟨HS.out.call hS⟩
        clear hS
        refine ⟨_, rfl, ?_⟩
        refine hK.out _ _ (blk_cellv (HS.out.at0) 2 rfl) (fun hHeld => ?_)
        clear hK K
        refine norm_ (a' := ?_) ?_ ?_
        rotate_left
        · show Act.put _ (some 50) _ = _
          simp only [Act.put, List.setIfInBounds_toArray, List.set_cons_zero, List.set_cons_succ, i64_w, i32_w]
          rfl
        refine pure_ (i := 7) (N := some 51) (v := ?_) (a' := ?_) #[true, true, true, true, true, true, true, true, false] rfl rfl (by kernel_rfl) (fun _ _ _ h => h) (Or.inl ⟨by rfl, ?_⟩) ?_ ?_
        rotate_left
        · intro w'
          go_simp
          with_reducible rfl
        rotate_left
        · simp only [Act.put, List.setIfInBounds_toArray, List.set_cons_zero, List.set_cons_succ, i64_w, i32_w]
          rfl
        refine one_ (i := 8) (N := some 52) #[true, true, true, true, true, true, true, true, true] rfl rfl (by kernel_rfl) (by decide) (fun K hK => ?_)
        obtain ⟨t2861, HA2868, H⟩ := bind_some H
        refine goes_ Tryd.func83 (by kernel_rfl) rfl #[.pointer none, .int .i64 t2804.2.2.1, .int .i64 (wrap64 (t2858 - 1))] (by rfl) rfl rfl (by (try simp only [List.map_toArray, List.map_cons, List.map_nil]); first | done | rfl) ?_
        refine (ground_Ground_SetReg_nil.calls t2804.2.2.1 (wrap64 (t2858 - 1)) t2861 _ ⟨HGl0.out.pass (l := []) HS.out⟩ ⟨Sep.start _⟩ HA2868).mono ?_
        rintro e_ w2869 ⟨rfl, hS⟩
        replace HS : Aside0 (Sep (fps []) w [b8 g2807 t2804.1 t2804.2.1 t2804.2.2.1] w2869) := ⟨HS.out.call hS⟩
        clear hS
        refine ⟨_, rfl, ?_⟩
        refine hK.out _ _ (blk_cellv (HS.out.at0) 2 rfl) (fun hHeld => ?_)
        clear hK K
        refine norm_ (a' := ?_) ?_ ?_
        rotate_left
        · show Act.put _ (some 52) _ = _
          simp only [Act.put, List.setIfInBounds_toArray, List.set_cons_zero, List.set_cons_succ, i64_w, i32_w]
          rfl
        refine done_ (by kernel_rfl) ?_
        replace HS : Aside0 (Sep (fps []) w [] w2869) := ⟨HS.out.sub (.cons _ .slnil)⟩
        go_wp2_with fail
        go_ret2
        rw [← some_eq H]
        exact ⟨(by first | rfl | (simp [IntKind.wrap_u32]; done)), HS.out⟩
  · have H := if_no c2817 H
    have c2817b0 : t2804.2.2.2 = false := by simpa using c2817
    have c2817b1 : (!t2804.2.2.2) = true := by rw [c2817b0]; rfl
    try rw [c2817b1]
    clear c2817
    go_wp2_with (first | ((with_reducible refine gate_dst (N := 6) rfl ?_); refine box_on ?hg (N := 6) ?hd (cs := #[.int .i64 0, .int .i64 0, .int .i64 0]) (t := 166) ?hr ?_; (case hd => rfl); (case hg => rfl); (case hr => first | (go_simp; done) | (go_simp; rfl)); intro g2807 hg w2808 hbox hb; replace HS : Aside0 (Sep (fps []) w [b8 g2807 0 0 0] w2808) := ⟨HS.out.box hg hbox hb⟩; clear hg hbox hb; have hc2810 : w2808.cell? ⟨g2807, 0, none⟩ = some (.int .i64 0) := blk_cellv (HS.out.at0) 0 rfl; have hz2811 : w2808.frozen? ⟨g2807, 0, none⟩ = false := blk_fz (HS.out.at0) 0; have hc2812 : w2808.cell? ⟨g2807, 1, none⟩ = some (.int .i64 0) := blk_cellv (HS.out.at0) 1 rfl; have hz2813 : w2808.frozen? ⟨g2807, 1, none⟩ = false := blk_fz (HS.out.at0) 1; have hc2814 : w2808.cell? ⟨g2807, 2, none⟩ = some (.int .i64 0) := blk_cellv (HS.out.at0) 2 rfl; have hz2815 : w2808.frozen? ⟨g2807, 2, none⟩ = false := blk_fz (HS.out.at0) 2) | ((with_reducible refine gate_store (t := 166) (p := 6) rfl ?_); refine store_event (w1 := (World.setCell (World.setCell (World.setCell w2808 ⟨g2807, 0, none⟩ (.int .i64 t2804.1)) ⟨g2807, 1, none⟩ (.int .i64 t2804.2.1)) ⟨g2807, 2, none⟩ (.int .i64 t2804.2.2.1))) rfl (t := 166) (p := 6) rfl rfl ?hr ?_; (case hr => first | (go_simp; done) | (go_simp; rfl)); intro w2816 hst; clear hc2810 hz2811 hc2812 hz2813 hc2814 hz2815; replace HS : Aside0 (Sep (fps []) w [b8 g2807 t2804.1 t2804.2.1 t2804.2.2.1] w2816) := ⟨by rw [hst]; exact HS.out.setAll (l1 := []) (l2 := []) [.int .i64 t2804.1, .int .i64 t2804.2.1, .int .i64 t2804.2.2.1] rfl⟩; clear hst; replace HS : Aside0 (Sep (fps []) w [] w2816) := ⟨HS.out.sub (.cons _ .slnil)⟩))
    go_ret2
    rw [← some_eq H]
    exact ⟨(by first | rfl | (simp [IntKind.wrap_u32]; done)), HS.out⟩

set_option maxHeartbeats 30000000 in
set_option maxRecDepth 100000 in
theorem ground_Ground_Wipe_nil.calls (k : Nat) (a2874 : Int) (r : Int) (w : World)  (HGl0 : Aside0 (Gl 0 #[.int .i64 0, .int .i64 0, .int .i64 0, .int .i64 0, .int .i64 0] (fps []) w)) (HS : Aside0 (Sep (fps []) w [] w)) (H : Aside0 (ground_Ground_Wipe_nil.f k a2874 = some r)) :
    Calls Tryd.prog 136 #[.pointer none, .int .i64 a2874] w fun e w' => e = .returned (.int .i64 r) ∧ Sep (fps []) w [] w' := by
  unfold ground_Ground_Wipe_nil.f at H
  go_enter Tryd.func136, Tryd.ntmps136
  go_wp2_with fail
  obtain ⟨t2875, HA2876, H⟩ := bind_some H
  refine (ground_Ground_Conf_nil.calls t2875 _ ⟨HGl0.out.pass (l := []) HS.out⟩ ⟨Sep.start _⟩ HA2876).mono ?_
  rintro e_ w2877 ⟨rfl, hS⟩
  replace HS : Aside0 (Sep (fps []) w [] w2877) := ⟨HS.out.call hS⟩
  clear hS
  have fl2878 : ∀ w, (Instr.field 30 (.agg #[.int .i64 t2875.1, .int .i64 t2875.2.1, .int .i64 t2875.2.2.1, .int .i64 t2875.2.2.2]) 1).run Tryd.prog w = .ok (.int .i64 t2875.2.1) w := fun _ => by kernel_rfl
  go_wp2_with fail
  clear fl2878
  obtain ⟨o2880, AL2881, H⟩ := bind_some H
  go_loopg [5, 10] k (fun kq v5 v10 wc => ∃ (x2884 : Int) (x2885 : Int), v5 = .int .i64 x2884 ∧ v10 = .int .i64 x2885 ∧ Aside0 (ground_Ground_Wipe_nil.lo0 kq a2874 t2875 x2884 x2885 = some o2880) ∧ Aside0 (Sep (fps []) w [] wc))
  case atStart => exact ⟨(0), (0), (by first | rfl | (simp [IntKind.wrap_u32]; done)), (by first | rfl | (simp [IntKind.wrap_u32]; done)), AL2881, ⟨HS.out⟩⟩
  case round =>
    clear AL2881 HS
    obtain ⟨x2884, x2885, rfl, rfl, AL2881, HS⟩ := hrel
    obtain ⟨w2882, rfl⟩ : ∃ x : World, x = wr := ⟨_, rfl⟩
    cases gk with
    | zero => exact absurd AL2881.out (by simp [ground_Ground_Wipe_nil.lo0])
    | succ k2883 =>
      have AL0 := AL2881.out
      rw [ground_Ground_Wipe_nil.lo0] at AL0
      clear AL2881
      have AL2881 := Aside0.mk AL0
      clear AL0
      by_cases c2886 : x2885 < t2875.2.1
      · have AL2881 := if_yes c2886 AL2881
        have c2886b0 : decide (x2885 < t2875.2.1) = true := decide_eq_true c2886
        clear c2886
        go_wp2_with fail
        obtain ⟨t2887, HA2888, AL2881⟩ := bind_some AL2881
        refine (ground_Ground_SetWord_nil.calls a2874 x2885 0 t2887 _ ⟨HGl0.out.pass (l := []) HS.out⟩ ⟨Sep.start _⟩ HA2888).mono ?_
        rintro e_ w2889 ⟨rfl, hS⟩
        replace HS : Aside0 (Sep (fps []) w [] w2889) := ⟨HS.out.call hS⟩
        clear hS
        by_cases c2890 : t2887 = true
        · have AL2881 := if_yes c2890 AL2881
          have c2890b0 : t2887 = true := c2890
          have c2890b1 : (!t2887) = false := by rw [c2890b0]; rfl
          clear c2890
          go_wp2_with fail
          go_roundg k2883
          case measure => exact Nat.lt_succ_self _
          case rel => exact ⟨(wrap64 (x2884 + 1)), (wrap64 (x2885 + 1)), (by first | rfl | (simp [IntKind.wrap_u32]; done)), (by first | rfl | (simp [IntKind.wrap_u32]; done)), Aside0.mk AL2881.out, ⟨HS.out⟩⟩
        · have AL2881 := if_no c2890 AL2881
          have c2890b0 : t2887 = false := by simpa using c2890
          have c2890b1 : (!t2887) = true := by rw [c2890b0]; rfl
          clear c2890
          go_wp2_with fail
          go_roundg k2883
          case measure => exact Nat.lt_succ_self _
          case rel => exact ⟨(x2884), (wrap64 (x2885 + 1)), (by first | rfl | (simp [IntKind.wrap_u32]; done)), (by first | rfl | (simp [IntKind.wrap_u32]; done)), Aside0.mk AL2881.out, ⟨HS.out⟩⟩
      · have AL2881 := if_no c2886 AL2881
        have c2886b0 : decide (x2885 < t2875.2.1) = false := decide_eq_false c2886
        clear c2886
        have ho := some_eq AL2881
        subst ho
        clear AL2881
        go_wp2_with fail
        go_ret
        rw [← some_eq H]
        exact ⟨(by first | rfl | (simp [IntKind.wrap_u32]; done)), HS.out⟩

set_option maxHeartbeats 30000000 in
set_option maxRecDepth 100000 in
theorem pool_Take_nil.calls (k : Nat)  (r : Int × Bool) (w : World)  (HGl0 : Aside0 (Gl 0 #[.int .i64 0, .int .i64 0, .int .i64 0, .int .i64 0, .int .i64 0] (fps []) w)) (HS : Aside0 (Sep (fps []) w [] w)) (H : Aside0 (pool_Take_nil.f k = some r)) :
    Calls Tryd.prog 98 #[.pointer none] w fun e w' => e = .returned (.tuple #[.int .i64 r.1, .bool r.2]) ∧ Sep (fps []) w [] w' := by
  unfold pool_Take_nil.f at H
  go_enter Tryd.func98, Tryd.ntmps98
  go_wp2_with fail
  obtain ⟨t2870, HA2871, H⟩ := bind_some H
  refine (chain_Take_nil.calls 0 t2870 _ ⟨HGl0.out.pass (l := []) HS.out⟩ ⟨Sep.start _⟩ HA2871).mono ?_
  rintro e_ w2872 ⟨rfl, hS⟩
  replace HS : Aside0 (Sep (fps []) w [] w2872) := ⟨HS.out.call hS⟩
  clear hS
  by_cases c2873 : t2870.2 = true
  · have H := if_yes c2873 H
    have c2873b0 : t2870.2 = true := c2873
    have c2873b1 : (!t2870.2) = false := by rw [c2873b0]; rfl
    try rw [c2873b1]
    clear c2873
    go_wp2_with fail
    obtain ⟨t2892, HA2893, H⟩ := bind_some H
    refine (ground_Ground_Wipe_nil.calls _ t2870.1 t2892 _ ⟨HGl0.out.pass (l := []) HS.out⟩ ⟨Sep.start _⟩ HA2893).mono ?_
    rintro e_ w2894 ⟨rfl, hS⟩
    replace HS : Aside0 (Sep (fps []) w [] w2894) := ⟨HS.out.call hS⟩
    clear hS
    go_wp2_with fail
    go_ret2
    rw [← some_eq H]
    exact ⟨(by first | rfl | (simp [IntKind.wrap_u32]; done)), HS.out⟩
  · have H := if_no c2873 H
    have c2873b0 : t2870.2 = false := by simpa using c2873
    have c2873b1 : (!t2870.2) = true := by rw [c2873b0]; rfl
    try rw [c2873b1]
    clear c2873
    go_wp2_with fail
    go_ret2
    rw [← some_eq H]
    exact ⟨(by first | rfl | (simp [IntKind.wrap_u32]; done)), HS.out⟩

set_option maxHeartbeats 30000000 in
set_option maxRecDepth 100000 in
theorem tag_marks.calls (a2951 : Int) (a2952 : Int) (a2953 : Int) (a2954 : Int) (a2955 : Int) (a2956 : Int) (a2957 : Int) (r : Int × Int × Int × Int × Int) (w : World)  (HGl0 : Aside0 (Gl 0 #[.int .i64 0, .int .i64 0, .int .i64 0, .int .i64 0, .int .i64 0] (fps []) w)) (HS : Aside0 (Sep (fps []) w [] w)) (H : Aside0 (tag_marks.f a2951 a2952 a2953 a2954 a2955 a2956 a2957 = some r)) :
    Calls Tryd.prog 68 #[.agg #[.int .i64 a2951, .int .i64 a2952, .int .i64 a2953, .int .i64 a2954, .int .i64 a2955, .int .i64 a2956, .int .i64 a2957]] w fun e w' => e = .returned (.agg #[.int .i64 r.1, .int .i64 r.2.1, .int .i64 r.2.2.1, .int .i64 r.2.2.2.1, .int .i64 r.2.2.2.2]) ∧ Sep (fps []) w [] w' := by
  unfold tag_marks.f at H
  go_enter Tryd.func68, Tryd.ntmps68
  go_wp2_with (first | ((with_reducible refine gate_dst (N := 1) rfl ?_); refine box_on ?hg (N := 1) ?hd (cs := #[.int .i64 a2951, .int .i64 a2952, .int .i64 a2953, .int .i64 a2954, .int .i64 a2955, .int .i64 a2956, .int .i64 a2957]) (t := 32) ?hr ?_; (case hd => rfl); (case hg => rfl); (case hr => first | (go_simp; done) | (go_simp; rfl)); intro g2958 hg w2959 hbox hb; replace HS : Aside0 (Sep (fps []) w [b17 g2958 a2951 a2952 a2953 a2954 a2955 a2956 a2957] w2959) := ⟨HS.out.box hg hbox hb⟩; clear hg hbox hb) | ((with_reducible refine gate_dst (N := 2) rfl ?_); refine box_on ?hg (N := 2) ?hd (cs := #[.int .i64 0, .int .i64 0, .int .i64 0, .int .i64 0, .int .i64 0]) (t := 108) ?hr ?_; (case hd => rfl); (case hg => rfl); (case hr => first | (go_simp; done) | (go_simp; rfl)); intro g2961 hg w2962 hbox hb; replace HS : Aside0 (Sep (fps []) w [b17 g2958 a2951 a2952 a2953 a2954 a2955 a2956 a2957, b22 g2961 0 0 0 0 0] w2962) := ⟨HS.out.box hg hbox hb⟩; clear hg hbox hb; have hc2964 : w2962.cell? ⟨g2958, 1, none⟩ = some (.int .i64 a2952) := blk_cellv (HS.out.at0) 1 rfl; have hc2965 : w2962.cell? ⟨g2958, 2, none⟩ = some (.int .i64 a2953) := blk_cellv (HS.out.at0) 2 rfl; have hc2966 : w2962.cell? ⟨g2958, 3, none⟩ = some (.int .i64 a2954) := blk_cellv (HS.out.at0) 3 rfl; have hc2967 : w2962.cell? ⟨g2958, 4, none⟩ = some (.int .i64 a2955) := blk_cellv (HS.out.at0) 4 rfl; have hc2968 : w2962.cell? ⟨g2958, 5, none⟩ = some (.int .i64 a2956) := blk_cellv (HS.out.at0) 5 rfl; have hc2969 : w2962.cell? ⟨g2961, 0, none⟩ = some (.int .i64 0) := blk_cellv (HS.out.at1) 0 rfl; have hz2970 : w2962.frozen? ⟨g2961, 0, none⟩ = false := blk_fz (HS.out.at1) 0; have hc2971 : w2962.cell? ⟨g2961, 1, none⟩ = some (.int .i64 0) := blk_cellv (HS.out.at1) 1 rfl; have hz2972 : w2962.frozen? ⟨g2961, 1, none⟩ = false := blk_fz (HS.out.at1) 1; have hc2973 : w2962.cell? ⟨g2961, 2, none⟩ = some (.int .i64 0) := blk_cellv (HS.out.at1) 2 rfl; have hz2974 : w2962.frozen? ⟨g2961, 2, none⟩ = false := blk_fz (HS.out.at1) 2; have hc2975 : w2962.cell? ⟨g2961, 3, none⟩ = some (.int .i64 0) := blk_cellv (HS.out.at1) 3 rfl; have hz2976 : w2962.frozen? ⟨g2961, 3, none⟩ = false := blk_fz (HS.out.at1) 3; have hc2977 : w2962.cell? ⟨g2961, 4, none⟩ = some (.int .i64 0) := blk_cellv (HS.out.at1) 4 rfl; have hz2978 : w2962.frozen? ⟨g2961, 4, none⟩ = false := blk_fz (HS.out.at1) 4) | ((with_reducible refine gate_store (t := 108) (p := 2) rfl ?_); refine store_event (w1 := (World.setCell (World.setCell (World.setCell (World.setCell (World.setCell w2962 ⟨g2961, 0, none⟩ (.int .i64 a2952)) ⟨g2961, 1, none⟩ (.int .i64 a2953)) ⟨g2961, 2, none⟩ (.int .i64 a2954)) ⟨g2961, 3, none⟩ (.int .i64 a2955)) ⟨g2961, 4, none⟩ (.int .i64 a2956))) rfl (t := 108) (p := 2) rfl rfl ?hr ?_; (case hr => first | (go_simp; done) | (go_simp; rfl)); intro w2979 hst; clear hc2964 hc2965 hc2966 hc2967 hc2968 hc2969 hz2970 hc2971 hz2972 hc2973 hz2974 hc2975 hz2976 hc2977 hz2978; replace HS : Aside0 (Sep (fps []) w [b17 g2958 a2951 a2952 a2953 a2954 a2955 a2956 a2957, b22 g2961 a2952 a2953 a2954 a2955 a2956] w2979) := ⟨by rw [hst]; exact HS.out.setAll (l1 := [b17 g2958 a2951 a2952 a2953 a2954 a2955 a2956 a2957]) (l2 := []) [.int .i64 a2952, .int .i64 a2953, .int .i64 a2954, .int .i64 a2955, .int .i64 a2956] rfl⟩; clear hst; replace HS : Aside0 (Sep (fps []) w [b22 g2961 a2952 a2953 a2954 a2955 a2956] w2979) := ⟨HS.out.sub (.cons _ (.cons_cons _ .slnil))⟩))
  have hc2980 : w2979.cell? ⟨g2961, 0, none⟩ = some (.int .i64 a2952) := blk_cellv (HS.out.at0) 0 rfl
  have hc2981 : w2979.cell? ⟨g2961, 1, none⟩ = some (.int .i64 a2953) := blk_cellv (HS.out.at0) 1 rfl
  have hc2982 : w2979.cell? ⟨g2961, 2, none⟩ = some (.int .i64 a2954) := blk_cellv (HS.out.at0) 2 rfl
  have hc2983 : w2979.cell? ⟨g2961, 3, none⟩ = some (.int .i64 a2955) := blk_cellv (HS.out.at0) 3 rfl
  have hc2984 : w2979.cell? ⟨g2961, 4, none⟩ = some (.int .i64 a2956) := blk_cellv (HS.out.at0) 4 rfl
  refine bodyPost_ret (v := .agg #[.int .i64 a2952, .int .i64 a2953, .int .i64 a2954, .int .i64 a2955, .int .i64 a2956]) (by simp [results, Tryd.results68, go_sem, hc2980, hc2981, hc2982, hc2983, hc2984]) rfl ?_
  rw [← some_eq H]
  exact ⟨(by first | rfl | (simp [IntKind.wrap_u32]; done)), HS.out.sub (.cons _ .slnil)⟩
end Go.Proofs.YtobeonkddamnoaaDoor.C

/- Each function of the group Pp does what its plain function says, and changes nothing that was there; proved by walking its code. No condition. -/
import Derived.Test.YtobeonkddamnoaaQw
import Derived.Test.YtobeonkddamnoaaMPp
import Derived.Test.YtobeonkddamnoaaGPp0
namespace Go.Proofs.Ytobeonkddamnoaa.C
open Go.RowKit Go.Proofs.YtobeonkddamnoaaW.PrintWords Go.Proofs.YtobeonkddamnoaaW.PrintLast Go.Proofs.Ytobeonkddamnoaa.Q Go.Proofs.Ytobeonkddamnoaa.M
set_option linter.unusedVariables false
set_option linter.unusedSimpArgs false
set_option maxHeartbeats 30000000 in
set_option maxRecDepth 100000 in
theorem chain_put_F89.calls (l1205 : List Int) (a1210 : Int) (a1211 : Int) (a1212 : Int) (a1213 : Int) (a1214 : Int) (a1215 : Int) (a1216 : Int) (a1221 : Int) (g1201 : Nat) (g1203 : Nat) (A1206 : Option Addr) (m1207 : Nat) (n1208 : Nat) (g1218 : Nat) (g1220 : Nat) (r : Bool × Int × List Int) (w : World)   (HS : Aside0 (Sep (fps [b7 g1201 g1203 a1211 a1212 a1213 a1214, b6 g1203 A1206 m1207 n1208 a1210, r5 A1206 m1207 n1208 l1205, b9 g1218 g1201, b10 g1220 a1221]) w [b7 g1201 g1203 a1211 a1212 a1213 a1214, b6 g1203 A1206 m1207 n1208 a1210, r5 A1206 m1207 n1208 l1205, b9 g1218 g1201, b10 g1220 a1221] w)) (H : Aside0 (chain_put_F89.f l1205 a1210 a1211 a1212 a1213 a1214 a1215 a1216 a1221 = some r)) :
    Calls Try.prog 88 #[.pointer (some ⟨g1201, 0, none⟩), .int .i64 a1215, .int .i64 a1216, .func (.func 89) #[] #[.pointer (some ⟨g1218, 0, none⟩), .pointer (some ⟨g1220, 0, none⟩)]] w fun e w' => e = .returned (.bool r.1) ∧ Sep (fps [b7 g1201 g1203 a1211 a1212 a1213 a1214, b6 g1203 A1206 m1207 n1208 a1210, r5 A1206 m1207 n1208 l1205, b9 g1218 g1201, b10 g1220 a1221]) w [b7 g1201 g1203 a1211 a1212 a1213 a1214, b6 g1203 A1206 m1207 n1208 r.2.1, r5 A1206 m1207 n1208 r.2.2, b9 g1218 g1201, b10 g1220 a1221] w' := by
  generalize (fps [b7 g1201 g1203 a1211 a1212 a1213 a1214, b6 g1203 A1206 m1207 n1208 a1210, r5 A1206 m1207 n1208 l1205, b9 g1218 g1201, b10 g1220 a1221]) = FF at HS ⊢
  obtain rfl := (row_len (HS.out.at2)).symm
  unfold chain_put_F89.f at H
  go_enter Try.func88, Try.ntmps88
  go_wp2_with fail
  obtain ⟨t1514, HA1515, H⟩ := bind_some H
  refine (chain_of.calls l1205 a1210 a1211 a1212 a1213 a1214 a1215 g1201 g1203 A1206 l1205.length n1208 t1514 _ ⟨HS.out.begin⟩ HA1515).mono ?_
  rintro e_ w1516 ⟨rfl, hS⟩
  replace HS : Aside0 (Sep FF w [b7 g1201 g1203 a1211 a1212 a1213 a1214, b6 g1203 A1206 l1205.length n1208 a1210, r5 A1206 l1205.length n1208 l1205, b9 g1218 g1201, b10 g1220 a1221] w1516) := ⟨HS.out.call hS⟩
  clear hS
  by_cases c1527 : t1514.2.2.2 = true
  · replace H := if_yes c1527 H
    have c1527b0 : t1514.2.2.2 = true := c1527
    have c1527b1 : (!t1514.2.2.2) = false := by rw [c1527b0]; rfl
    try rw [c1527b1]
    clear c1527
    by_cases c1528 : a1216 < 0
    · replace H := if_yes c1528 H
      have c1528b0 : decide (a1216 < 0) = true := decide_eq_true c1528
      clear c1528
      go_wp2_with (first | ((with_reducible refine gate_dst (N := 9) rfl ?_); refine box_on ?hg (N := 9) ?hd (cs := #[.int .i64 0, .int .i64 0, .int .i64 0]) (t := 134) ?hr ?_; (case hd => rfl); (case hg => rfl); (case hr => first | (go_simp; done) | (go_simp; rfl)); intro g1517 hg w1518 hbox hb; replace HS : Aside0 (Sep FF w [b7 g1201 g1203 a1211 a1212 a1213 a1214, b6 g1203 A1206 l1205.length n1208 a1210, r5 A1206 l1205.length n1208 l1205, b9 g1218 g1201, b10 g1220 a1221, b8 g1517 0 0 0] w1518) := ⟨HS.out.box hg hbox hb⟩; clear hg hbox hb; have hc1520 : w1518.cell? ⟨g1517, 0, none⟩ = some (.int .i64 0) := blk_cellv (HS.out.at5) 0 rfl; have hz1521 : w1518.frozen? ⟨g1517, 0, none⟩ = false := blk_fz (HS.out.at5) 0; have hc1522 : w1518.cell? ⟨g1517, 1, none⟩ = some (.int .i64 0) := blk_cellv (HS.out.at5) 1 rfl; have hz1523 : w1518.frozen? ⟨g1517, 1, none⟩ = false := blk_fz (HS.out.at5) 1; have hc1524 : w1518.cell? ⟨g1517, 2, none⟩ = some (.int .i64 0) := blk_cellv (HS.out.at5) 2 rfl; have hz1525 : w1518.frozen? ⟨g1517, 2, none⟩ = false := blk_fz (HS.out.at5) 2) | ((with_reducible refine gate_store (t := 134) (p := 9) rfl ?_); refine store_event (w1 := (World.setCell (World.setCell (World.setCell w1518 ⟨g1517, 0, none⟩ (.int .i64 t1514.1)) ⟨g1517, 1, none⟩ (.int .i64 t1514.2.1)) ⟨g1517, 2, none⟩ (.int .i64 t1514.2.2.1))) rfl (t := 134) (p := 9) rfl rfl ?hr ?_; (case hr => first | (go_simp; done) | (go_simp; rfl)); intro w1526 hst; clear hc1520 hz1521 hc1522 hz1523 hc1524 hz1525; replace HS : Aside0 (Sep FF w [b7 g1201 g1203 a1211 a1212 a1213 a1214, b6 g1203 A1206 l1205.length n1208 a1210, r5 A1206 l1205.length n1208 l1205, b9 g1218 g1201, b10 g1220 a1221, b8 g1517 t1514.1 t1514.2.1 t1514.2.2.1] w1526) := ⟨by rw [hst]; exact HS.out.setAll (l1 := [b7 g1201 g1203 a1211 a1212 a1213 a1214, b6 g1203 A1206 l1205.length n1208 a1210, r5 A1206 l1205.length n1208 l1205, b9 g1218 g1201, b10 g1220 a1221]) (l2 := []) [.int .i64 t1514.1, .int .i64 t1514.2.1, .int .i64 t1514.2.2.1] rfl⟩; clear hst; replace HS : Aside0 (Sep FF w [b7 g1201 g1203 a1211 a1212 a1213 a1214, b6 g1203 A1206 l1205.length n1208 a1210, r5 A1206 l1205.length n1208 l1205, b9 g1218 g1201, b10 g1220 a1221] w1526) := ⟨HS.out.sub (.cons_cons _ (.cons_cons _ (.cons_cons _ (.cons_cons _ (.cons_cons _ (.cons _ .slnil))))))⟩))
      go_ret
      rw [← some_eq H]
      exact ⟨(by first | rfl | (simp [IntKind.wrap_u32]; done)), HS.out⟩
    · replace H := if_no c1528 H
      have c1528b0 : decide (a1216 < 0) = false := decide_eq_false c1528
      clear c1528
      go_wp2_with (first | ((with_reducible refine gate_dst (N := 9) rfl ?_); refine box_on ?hg (N := 9) ?hd (cs := #[.int .i64 0, .int .i64 0, .int .i64 0]) (t := 134) ?hr ?_; (case hd => rfl); (case hg => rfl); (case hr => first | (go_simp; done) | (go_simp; rfl)); intro g1517 hg w1518 hbox hb; replace HS : Aside0 (Sep FF w [b7 g1201 g1203 a1211 a1212 a1213 a1214, b6 g1203 A1206 l1205.length n1208 a1210, r5 A1206 l1205.length n1208 l1205, b9 g1218 g1201, b10 g1220 a1221, b8 g1517 0 0 0] w1518) := ⟨HS.out.box hg hbox hb⟩; clear hg hbox hb; have hc1520 : w1518.cell? ⟨g1517, 0, none⟩ = some (.int .i64 0) := blk_cellv (HS.out.at5) 0 rfl; have hz1521 : w1518.frozen? ⟨g1517, 0, none⟩ = false := blk_fz (HS.out.at5) 0; have hc1522 : w1518.cell? ⟨g1517, 1, none⟩ = some (.int .i64 0) := blk_cellv (HS.out.at5) 1 rfl; have hz1523 : w1518.frozen? ⟨g1517, 1, none⟩ = false := blk_fz (HS.out.at5) 1; have hc1524 : w1518.cell? ⟨g1517, 2, none⟩ = some (.int .i64 0) := blk_cellv (HS.out.at5) 2 rfl; have hz1525 : w1518.frozen? ⟨g1517, 2, none⟩ = false := blk_fz (HS.out.at5) 2) | ((with_reducible refine gate_store (t := 134) (p := 9) rfl ?_); refine store_event (w1 := (World.setCell (World.setCell (World.setCell w1518 ⟨g1517, 0, none⟩ (.int .i64 t1514.1)) ⟨g1517, 1, none⟩ (.int .i64 t1514.2.1)) ⟨g1517, 2, none⟩ (.int .i64 t1514.2.2.1))) rfl (t := 134) (p := 9) rfl rfl ?hr ?_; (case hr => first | (go_simp; done) | (go_simp; rfl)); intro w1526 hst; clear hc1520 hz1521 hc1522 hz1523 hc1524 hz1525; replace HS : Aside0 (Sep FF w [b7 g1201 g1203 a1211 a1212 a1213 a1214, b6 g1203 A1206 l1205.length n1208 a1210, r5 A1206 l1205.length n1208 l1205, b9 g1218 g1201, b10 g1220 a1221, b8 g1517 t1514.1 t1514.2.1 t1514.2.2.1] w1526) := ⟨by rw [hst]; exact HS.out.setAll (l1 := [b7 g1201 g1203 a1211 a1212 a1213 a1214, b6 g1203 A1206 l1205.length n1208 a1210, r5 A1206 l1205.length n1208 l1205, b9 g1218 g1201, b10 g1220 a1221]) (l2 := []) [.int .i64 t1514.1, .int .i64 t1514.2.1, .int .i64 t1514.2.2.1] rfl⟩; clear hst))
      obtain ⟨t1529, HA1530, H⟩ := bind_some H
      refine (ground_Ground_Conf.calls l1205 a1210 a1211 a1212 a1213 a1214 g1201 g1203 A1206 l1205.length n1208 t1529 _ ⟨HS.out.begin⟩ HA1530).mono ?_
      rintro e_ w1531 ⟨rfl, hS⟩
      replace HS : Aside0 (Sep FF w [b7 g1201 g1203 a1211 a1212 a1213 a1214, b6 g1203 A1206 l1205.length n1208 a1210, r5 A1206 l1205.length n1208 l1205, b9 g1218 g1201, b10 g1220 a1221, b8 g1517 t1514.1 t1514.2.1 t1514.2.2.1] w1531) := ⟨HS.out.call hS⟩
      clear hS
      by_cases c1533 : a1216 ≥ t1529.1
      · replace H := if_yes c1533 H
        have c1533b0 : decide (t1529.1 ≤ a1216) = true := decide_eq_true c1533
        clear c1533
        have fl1532 : ∀ w, (Instr.field 49 (.agg #[.int .i64 t1529.1, .int .i64 t1529.2.1, .int .i64 t1529.2.2.1, .int .i64 t1529.2.2.2]) 0).run Try.prog w = .ok (.int .i64 t1529.1) w := fun _ => by kernel_rfl
        replace HS : Aside0 (Sep FF w [b7 g1201 g1203 a1211 a1212 a1213 a1214, b6 g1203 A1206 l1205.length n1208 a1210, r5 A1206 l1205.length n1208 l1205, b9 g1218 g1201, b10 g1220 a1221] w1531) := ⟨HS.out.sub (.cons_cons _ (.cons_cons _ (.cons_cons _ (.cons_cons _ (.cons_cons _ (.cons _ .slnil))))))⟩
        go_wp2_with fail
        clear fl1532
        go_ret
        rw [← some_eq H]
        exact ⟨(by first | rfl | (simp [IntKind.wrap_u32]; done)), HS.out⟩
      · replace H := if_no c1533 H
        have c1533b0 : decide (t1529.1 ≤ a1216) = false := decide_eq_false c1533
        clear c1533
        have fl1532 : ∀ w, (Instr.field 49 (.agg #[.int .i64 t1529.1, .int .i64 t1529.2.1, .int .i64 t1529.2.2.1, .int .i64 t1529.2.2.2]) 0).run Try.prog w = .ok (.int .i64 t1529.1) w := fun _ => by kernel_rfl
        have hc1534 : w1531.cell? ⟨g1517, 2, none⟩ = some (.int .i64 t1514.2.2.1) := blk_cellv (HS.out.at5) 2 rfl
        go_wp2_with fail
        clear fl1532 hc1534
        obtain ⟨t1535, HA1536, H⟩ := bind_some H
        refine (ground_Ground_Reg.calls l1205 a1210 a1211 a1212 a1213 a1214 t1514.2.2.1 g1201 g1203 A1206 l1205.length n1208 t1535 _ ⟨HS.out.begin⟩ HA1536).mono ?_
        rintro e_ w1537 ⟨rfl, hS⟩
        replace HS : Aside0 (Sep FF w [b7 g1201 g1203 a1211 a1212 a1213 a1214, b6 g1203 A1206 l1205.length n1208 t1535.2, r5 A1206 l1205.length n1208 l1205, b9 g1218 g1201, b10 g1220 a1221, b8 g1517 t1514.1 t1514.2.1 t1514.2.2.1] w1537) := ⟨HS.out.call hS⟩
        clear hS
        have hc1538 : w1537.cell? ⟨g1517, 0, none⟩ = some (.int .i64 t1514.1) := blk_cellv (HS.out.at5) 0 rfl
        have hc1539 : w1537.cell? ⟨g1517, 1, none⟩ = some (.int .i64 t1514.2.1) := blk_cellv (HS.out.at5) 1 rfl
        have hc1540 : w1537.cell? ⟨g1517, 2, none⟩ = some (.int .i64 t1514.2.2.1) := blk_cellv (HS.out.at5) 2 rfl
        go_wp2_with fail
        clear hc1538 hc1539 hc1540
        replace HS : Aside0 (Sep FF w [b10 g1220 a1221, b7 g1201 g1203 a1211 a1212 a1213 a1214, b6 g1203 A1206 l1205.length n1208 t1535.2, r5 A1206 l1205.length n1208 l1205, b9 g1218 g1201, b8 g1517 t1514.1 t1514.2.1 t1514.2.2.1] w1537) := ⟨HS.out.front 4 (by simp)⟩
        replace HS : Aside0 (Sep FF w [r5 A1206 l1205.length n1208 l1205, b10 g1220 a1221, b7 g1201 g1203 a1211 a1212 a1213 a1214, b6 g1203 A1206 l1205.length n1208 t1535.2, b9 g1218 g1201, b8 g1517 t1514.1 t1514.2.1 t1514.2.2.1] w1537) := ⟨HS.out.front 3 (by simp)⟩
        replace HS : Aside0 (Sep FF w [b6 g1203 A1206 l1205.length n1208 t1535.2, r5 A1206 l1205.length n1208 l1205, b10 g1220 a1221, b7 g1201 g1203 a1211 a1212 a1213 a1214, b9 g1218 g1201, b8 g1517 t1514.1 t1514.2.1 t1514.2.2.1] w1537) := ⟨HS.out.front 3 (by simp)⟩
        replace HS : Aside0 (Sep FF w [b7 g1201 g1203 a1211 a1212 a1213 a1214, b6 g1203 A1206 l1205.length n1208 t1535.2, r5 A1206 l1205.length n1208 l1205, b10 g1220 a1221, b9 g1218 g1201, b8 g1517 t1514.1 t1514.2.1 t1514.2.2.1] w1537) := ⟨HS.out.front 3 (by simp)⟩
        replace HS : Aside0 (Sep FF w [b9 g1218 g1201, b7 g1201 g1203 a1211 a1212 a1213 a1214, b6 g1203 A1206 l1205.length n1208 t1535.2, r5 A1206 l1205.length n1208 l1205, b10 g1220 a1221, b8 g1517 t1514.1 t1514.2.1 t1514.2.2.1] w1537) := ⟨HS.out.front 4 (by simp)⟩
        obtain ⟨t1541, HA1542, H⟩ := bind_some H
        refine (chain_Add_1.calls t1514.1 t1514.2.1 t1514.2.2.1 (wrap64 (a1216 + 1)) t1535.1 l1205 t1535.2 a1211 a1212 a1213 a1214 a1221 g1218 g1201 g1203 A1206 l1205.length n1208 g1220 t1541 _ ⟨HS.out.begin⟩ HA1542).mono ?_
        rintro e_ w1543 ⟨rfl, hS⟩
        replace HS : Aside0 (Sep FF w [b9 g1218 g1201, b7 g1201 g1203 a1211 a1212 a1213 a1214, b6 g1203 A1206 l1205.length n1208 t1541.1, r5 A1206 l1205.length n1208 t1541.2, b10 g1220 a1221, b8 g1517 t1514.1 t1514.2.1 t1514.2.2.1] w1543) := ⟨HS.out.call hS⟩
        clear hS
        have hc1544 : w1543.cell? ⟨g1517, 2, none⟩ = some (.int .i64 t1514.2.2.1) := blk_cellv (HS.out.at5) 2 rfl
        go_wp2_with fail
        clear hc1544
        replace HS : Aside0 (Sep FF w [r5 A1206 l1205.length n1208 t1541.2, b9 g1218 g1201, b7 g1201 g1203 a1211 a1212 a1213 a1214, b6 g1203 A1206 l1205.length n1208 t1541.1, b10 g1220 a1221, b8 g1517 t1514.1 t1514.2.1 t1514.2.2.1] w1543) := ⟨HS.out.front 3 (by simp)⟩
        replace HS : Aside0 (Sep FF w [b6 g1203 A1206 l1205.length n1208 t1541.1, r5 A1206 l1205.length n1208 t1541.2, b9 g1218 g1201, b7 g1201 g1203 a1211 a1212 a1213 a1214, b10 g1220 a1221, b8 g1517 t1514.1 t1514.2.1 t1514.2.2.1] w1543) := ⟨HS.out.front 3 (by simp)⟩
        replace HS : Aside0 (Sep FF w [b7 g1201 g1203 a1211 a1212 a1213 a1214, b6 g1203 A1206 l1205.length n1208 t1541.1, r5 A1206 l1205.length n1208 t1541.2, b9 g1218 g1201, b10 g1220 a1221, b8 g1517 t1514.1 t1514.2.1 t1514.2.2.1] w1543) := ⟨HS.out.front 3 (by simp)⟩
        obtain ⟨t1545, HA1546, H⟩ := bind_some H
        refine (ground_Ground_SetReg.calls t1541.2 t1541.1 a1211 a1212 a1213 a1214 t1514.2.2.1 (wrap64 (t1535.1 + 1)) g1201 g1203 A1206 l1205.length n1208 t1545 _ ⟨HS.out.begin⟩ HA1546).mono ?_
        rintro e_ w1547 ⟨rfl, hS⟩
        replace HS : Aside0 (Sep FF w [b7 g1201 g1203 a1211 a1212 a1213 a1214, b6 g1203 A1206 l1205.length n1208 t1545.2.1, r5 A1206 l1205.length n1208 t1545.2.2, b9 g1218 g1201, b10 g1220 a1221, b8 g1517 t1514.1 t1514.2.1 t1514.2.2.1] w1547) := ⟨HS.out.call hS⟩
        clear hS
        replace HS : Aside0 (Sep FF w [b7 g1201 g1203 a1211 a1212 a1213 a1214, b6 g1203 A1206 l1205.length n1208 t1545.2.1, r5 A1206 l1205.length n1208 t1545.2.2, b9 g1218 g1201, b10 g1220 a1221] w1547) := ⟨HS.out.sub (.cons_cons _ (.cons_cons _ (.cons_cons _ (.cons_cons _ (.cons_cons _ (.cons _ .slnil))))))⟩
        go_wp2_with fail
        go_ret
        rw [← some_eq H]
        exact ⟨(by first | rfl | (simp [IntKind.wrap_u32]; done)), HS.out⟩
  · replace H := if_no c1527 H
    have c1527b0 : t1514.2.2.2 = false := by simpa using c1527
    have c1527b1 : (!t1514.2.2.2) = true := by rw [c1527b0]; rfl
    try rw [c1527b1]
    clear c1527
    go_wp2_with (first | ((with_reducible refine gate_dst (N := 9) rfl ?_); refine box_on ?hg (N := 9) ?hd (cs := #[.int .i64 0, .int .i64 0, .int .i64 0]) (t := 134) ?hr ?_; (case hd => rfl); (case hg => rfl); (case hr => first | (go_simp; done) | (go_simp; rfl)); intro g1517 hg w1518 hbox hb; replace HS : Aside0 (Sep FF w [b7 g1201 g1203 a1211 a1212 a1213 a1214, b6 g1203 A1206 l1205.length n1208 a1210, r5 A1206 l1205.length n1208 l1205, b9 g1218 g1201, b10 g1220 a1221, b8 g1517 0 0 0] w1518) := ⟨HS.out.box hg hbox hb⟩; clear hg hbox hb; have hc1520 : w1518.cell? ⟨g1517, 0, none⟩ = some (.int .i64 0) := blk_cellv (HS.out.at5) 0 rfl; have hz1521 : w1518.frozen? ⟨g1517, 0, none⟩ = false := blk_fz (HS.out.at5) 0; have hc1522 : w1518.cell? ⟨g1517, 1, none⟩ = some (.int .i64 0) := blk_cellv (HS.out.at5) 1 rfl; have hz1523 : w1518.frozen? ⟨g1517, 1, none⟩ = false := blk_fz (HS.out.at5) 1; have hc1524 : w1518.cell? ⟨g1517, 2, none⟩ = some (.int .i64 0) := blk_cellv (HS.out.at5) 2 rfl; have hz1525 : w1518.frozen? ⟨g1517, 2, none⟩ = false := blk_fz (HS.out.at5) 2) | ((with_reducible refine gate_store (t := 134) (p := 9) rfl ?_); refine store_event (w1 := (World.setCell (World.setCell (World.setCell w1518 ⟨g1517, 0, none⟩ (.int .i64 t1514.1)) ⟨g1517, 1, none⟩ (.int .i64 t1514.2.1)) ⟨g1517, 2, none⟩ (.int .i64 t1514.2.2.1))) rfl (t := 134) (p := 9) rfl rfl ?hr ?_; (case hr => first | (go_simp; done) | (go_simp; rfl)); intro w1526 hst; clear hc1520 hz1521 hc1522 hz1523 hc1524 hz1525; replace HS : Aside0 (Sep FF w [b7 g1201 g1203 a1211 a1212 a1213 a1214, b6 g1203 A1206 l1205.length n1208 a1210, r5 A1206 l1205.length n1208 l1205, b9 g1218 g1201, b10 g1220 a1221, b8 g1517 t1514.1 t1514.2.1 t1514.2.2.1] w1526) := ⟨by rw [hst]; exact HS.out.setAll (l1 := [b7 g1201 g1203 a1211 a1212 a1213 a1214, b6 g1203 A1206 l1205.length n1208 a1210, r5 A1206 l1205.length n1208 l1205, b9 g1218 g1201, b10 g1220 a1221]) (l2 := []) [.int .i64 t1514.1, .int .i64 t1514.2.1, .int .i64 t1514.2.2.1] rfl⟩; clear hst; replace HS : Aside0 (Sep FF w [b7 g1201 g1203 a1211 a1212 a1213 a1214, b6 g1203 A1206 l1205.length n1208 a1210, r5 A1206 l1205.length n1208 l1205, b9 g1218 g1201, b10 g1220 a1221] w1526) := ⟨HS.out.sub (.cons_cons _ (.cons_cons _ (.cons_cons _ (.cons_cons _ (.cons_cons _ (.cons _ .slnil))))))⟩))
    go_ret
    rw [← some_eq H]
    exact ⟨(by first | rfl | (simp [IntKind.wrap_u32]; done)), HS.out⟩

set_option maxHeartbeats 30000000 in
set_option maxRecDepth 100000 in
theorem chain_Add.calls (l1180 : List Int) (a1185 : Int) (a1186 : Int) (a1187 : Int) (a1188 : Int) (a1189 : Int) (a1190 : Int) (a1191 : Int) (g1176 : Nat) (g1178 : Nat) (A1181 : Option Addr) (m1182 : Nat) (n1183 : Nat) (r : Bool × Int × List Int) (w : World)   (HS : Aside0 (Sep (fps [b7 g1176 g1178 a1186 a1187 a1188 a1189, b6 g1178 A1181 m1182 n1183 a1185, r5 A1181 m1182 n1183 l1180]) w [b7 g1176 g1178 a1186 a1187 a1188 a1189, b6 g1178 A1181 m1182 n1183 a1185, r5 A1181 m1182 n1183 l1180] w)) (H : Aside0 (chain_Add.f l1180 a1185 a1186 a1187 a1188 a1189 a1190 a1191 = some r)) :
    Calls Try.prog 52 #[.pointer (some ⟨g1176, 0, none⟩), .int .i64 a1190, .int .i64 a1191] w fun e w' => e = .returned (.bool r.1) ∧ Sep (fps [b7 g1176 g1178 a1186 a1187 a1188 a1189, b6 g1178 A1181 m1182 n1183 a1185, r5 A1181 m1182 n1183 l1180]) w [b7 g1176 g1178 a1186 a1187 a1188 a1189, b6 g1178 A1181 m1182 n1183 r.2.1, r5 A1181 m1182 n1183 r.2.2] w' := by
  generalize (fps [b7 g1176 g1178 a1186 a1187 a1188 a1189, b6 g1178 A1181 m1182 n1183 a1185, r5 A1181 m1182 n1183 l1180]) = FF at HS ⊢
  obtain rfl := (row_len (HS.out.at2)).symm
  unfold chain_Add.f at H
  go_enter Try.func52, Try.ntmps52
  go_wp2_with (first | ((with_reducible refine gate_dst (N := 3) rfl ?_); refine box_on ?hg (N := 3) ?hd (cs := #[.pointer (some ⟨g1176, 0, none⟩)]) (t := 50) ?hr ?_; (case hd => rfl); (case hg => rfl); (case hr => first | (go_simp; done) | (go_simp; rfl)); intro g1551 hg w1552 hbox hb; replace HS : Aside0 (Sep FF w [b7 g1176 g1178 a1186 a1187 a1188 a1189, b6 g1178 A1181 l1180.length n1183 a1185, r5 A1181 l1180.length n1183 l1180, b9 g1551 g1176] w1552) := ⟨HS.out.box hg hbox hb⟩; clear hg hbox hb) | ((with_reducible refine gate_dst (N := 5) rfl ?_); refine box_on ?hg (N := 5) ?hd (cs := #[.int .i64 a1191]) (t := 3) ?hr ?_; (case hd => rfl); (case hg => rfl); (case hr => first | (go_simp; done) | (go_simp; rfl)); intro g1554 hg w1555 hbox hb; replace HS : Aside0 (Sep FF w [b7 g1176 g1178 a1186 a1187 a1188 a1189, b6 g1178 A1181 l1180.length n1183 a1185, r5 A1181 l1180.length n1183 l1180, b9 g1551 g1176, b10 g1554 a1191] w1555) := ⟨HS.out.box hg hbox hb⟩; clear hg hbox hb; have hc1557 : w1555.cell? ⟨g1551, 0, none⟩ = some (.pointer (some ⟨g1176, 0, none⟩)) := blk_cellv (HS.out.at3) 0 rfl; have hc1558 : w1555.cell? ⟨g1554, 0, none⟩ = some (.int .i64 a1191) := blk_cellv (HS.out.at4) 0 rfl))
  clear hc1557 hc1558
  obtain ⟨t1559, HA1560, H⟩ := bind_some H
  refine (chain_put_F89.calls l1180 a1185 a1186 a1187 a1188 a1189 a1190 a1191 a1191 g1176 g1178 A1181 l1180.length n1183 g1551 g1554 t1559 _ ⟨HS.out.begin⟩ HA1560).mono ?_
  rintro e_ w1561 ⟨rfl, hS⟩
  replace HS : Aside0 (Sep FF w [b7 g1176 g1178 a1186 a1187 a1188 a1189, b6 g1178 A1181 l1180.length n1183 t1559.2.1, r5 A1181 l1180.length n1183 t1559.2.2, b9 g1551 g1176, b10 g1554 a1191] w1561) := ⟨HS.out.call hS⟩
  clear hS
  replace HS : Aside0 (Sep FF w [b7 g1176 g1178 a1186 a1187 a1188 a1189, b6 g1178 A1181 l1180.length n1183 t1559.2.1, r5 A1181 l1180.length n1183 t1559.2.2] w1561) := ⟨HS.out.sub (.cons_cons _ (.cons_cons _ (.cons_cons _ (.cons _ (.cons _ .slnil)))))⟩
  go_wp2_with fail
  go_ret
  rw [← some_eq H]
  exact ⟨(by first | rfl | (simp [IntKind.wrap_u32]; done)), HS.out⟩

set_option maxHeartbeats 30000000 in
set_option maxRecDepth 100000 in
theorem pool_Open.calls (k : Nat) (l879 : List Int) (a884 : Int) (a885 : Int) (a886 : Int) (a887 : Int) (a888 : Int) (g875 : Nat) (g877 : Nat) (A880 : Option Addr) (m881 : Nat) (n882 : Nat) (r : Bool × Int × List Int) (w : World)   (HS : Aside0 (Sep (fps [b7 g875 g877 a885 a886 a887 a888, b6 g877 A880 m881 n882 a884, r5 A880 m881 n882 l879]) w [b7 g875 g877 a885 a886 a887 a888, b6 g877 A880 m881 n882 a884, r5 A880 m881 n882 l879] w)) (H : Aside0 (pool_Open.f k l879 a884 a885 a886 a887 a888 = some r)) :
    Calls Try.prog 61 #[.pointer (some ⟨g875, 0, none⟩)] w fun e w' => e = .returned (.bool r.1) ∧ Sep (fps [b7 g875 g877 a885 a886 a887 a888, b6 g877 A880 m881 n882 a884, r5 A880 m881 n882 l879]) w [b7 g875 g877 a885 a886 a887 a888, b6 g877 A880 m881 n882 r.2.1, r5 A880 m881 n882 r.2.2] w' := by
  generalize (fps [b7 g875 g877 a885 a886 a887 a888, b6 g877 A880 m881 n882 a884, r5 A880 m881 n882 l879]) = FF at HS ⊢
  obtain rfl := (row_len (HS.out.at2)).symm
  unfold pool_Open.f at H
  go_enter Try.func61, Try.ntmps61
  go_wp2_with fail
  obtain ⟨t1575, HA1576, H⟩ := bind_some H
  refine (chain_Len.calls l879 a884 a885 a886 a887 a888 0 g875 g877 A880 l879.length n882 t1575 _ ⟨HS.out.begin⟩ HA1576).mono ?_
  rintro e_ w1577 ⟨rfl, hS⟩
  replace HS : Aside0 (Sep FF w [b7 g875 g877 a885 a886 a887 a888, b6 g877 A880 l879.length n882 t1575.2, r5 A880 l879.length n882 l879] w1577) := ⟨HS.out.call hS⟩
  clear hS
  by_cases c1578 : t1575.1 > 0
  · replace H := if_yes c1578 H
    have c1578b0 : decide (0 < t1575.1) = true := decide_eq_true c1578
    clear c1578
    go_wp2_with fail
    go_ret
    rw [← some_eq H]
    exact ⟨(by first | rfl | (simp [IntKind.wrap_u32]; done)), HS.out⟩
  · replace H := if_no c1578 H
    have c1578b0 : decide (0 < t1575.1) = false := decide_eq_false c1578
    clear c1578
    go_wp2_with fail
    obtain ⟨t1579, HA1580, H⟩ := bind_some H
    refine (ground_Ground_Conf.calls l879 t1575.2 a885 a886 a887 a888 g875 g877 A880 l879.length n882 t1579 _ ⟨HS.out.begin⟩ HA1580).mono ?_
    rintro e_ w1581 ⟨rfl, hS⟩
    replace HS : Aside0 (Sep FF w [b7 g875 g877 a885 a886 a887 a888, b6 g877 A880 l879.length n882 t1575.2, r5 A880 l879.length n882 l879] w1581) := ⟨HS.out.call hS⟩
    clear hS
    have fl1582 : ∀ w, (Instr.field 49 (.agg #[.int .i64 t1579.1, .int .i64 t1579.2.1, .int .i64 t1579.2.2.1, .int .i64 t1579.2.2.2]) 0).run Try.prog w = .ok (.int .i64 t1579.1) w := fun _ => by kernel_rfl
    go_wp2_with fail
    clear fl1582
    obtain ⟨o1593, AL1594, H⟩ := bind_some H
    go_loopg [14] k (fun kq v14 wc => ∃ (x1597 : Int) (x1598 : List Int) (x1599 : Int), v14 = .int .i64 x1597 ∧ Aside0 (pool_Open.lo0 kq a885 a886 a887 a888 t1579 x1597 x1598 x1599 = some o1593) ∧ Aside0 (Sep FF w [b7 g875 g877 a885 a886 a887 a888, b6 g877 A880 l879.length n882 x1599, r5 A880 l879.length n882 x1598] wc))
    case atStart => exact ⟨(0), (l879), (t1575.2), (by first | rfl | (simp [IntKind.wrap_u32]; done)), AL1594, ⟨HS.out⟩⟩
    case round =>
      clear AL1594 HS
      obtain ⟨x1597, x1598, x1599, rfl, AL1594, HS⟩ := hrel
      obtain ⟨w1595, rfl⟩ : ∃ x : World, x = wr := ⟨_, rfl⟩
      cases gk with
      | zero => exact absurd AL1594.out (by simp [pool_Open.lo0])
      | succ k1596 =>
        have AL0 := AL1594.out
        rw [pool_Open.lo0] at AL0
        clear AL1594
        have AL1594 := Aside0.mk AL0
        clear AL0
        by_cases c1600 : x1597 < t1579.1
        · replace AL1594 := if_yes c1600 AL1594
          have c1600b0 : decide (x1597 < t1579.1) = true := decide_eq_true c1600
          clear c1600
          go_wp2_with fail
          obtain ⟨t1590, HA1601, AL1594⟩ := bind_some AL1594
          refine (chain_Add.calls x1598 x1599 a885 a886 a887 a888 0 x1597 g875 g877 A880 l879.length n882 t1590 _ ⟨HS.out.begin⟩ HA1601).mono ?_
          rintro e_ w1602 ⟨rfl, hS⟩
          replace HS : Aside0 (Sep FF w [b7 g875 g877 a885 a886 a887 a888, b6 g877 A880 l879.length n882 t1590.2.1, r5 A880 l879.length n882 t1590.2.2] w1602) := ⟨HS.out.call hS⟩
          clear hS
          go_wp2_with fail
          go_roundg k1596
          case measure => exact Nat.lt_succ_self _
          case rel => exact ⟨(wrap64 (x1597 + 1)), (t1590.2.2), (t1590.2.1), (by first | rfl | (simp [IntKind.wrap_u32]; done)), Aside0.mk AL1594.out, ⟨HS.out⟩⟩
        · replace AL1594 := if_no c1600 AL1594
          have c1600b0 : decide (x1597 < t1579.1) = false := decide_eq_false c1600
          clear c1600
          have ho := some_eq AL1594
          subst ho
          clear AL1594
          go_wp2_with fail
          go_ret
          rw [← some_eq H]
          exact ⟨(by first | rfl | (simp [IntKind.wrap_u32]; done)), HS.out⟩

set_option maxHeartbeats 30000000 in
set_option maxRecDepth 100000 in
theorem ground_Ground_Word.calls (l1686 : List Int) (a1691 : Int) (a1692 : Int) (a1693 : Int) (a1694 : Int) (a1695 : Int) (a1696 : Int) (a1697 : Int) (g1682 : Nat) (g1684 : Nat) (A1687 : Option Addr) (m1688 : Nat) (n1689 : Nat) (r : Int × Int) (w : World)   (HS : Aside0 (Sep (fps [b7 g1682 g1684 a1692 a1693 a1694 a1695, b6 g1684 A1687 m1688 n1689 a1691, r5 A1687 m1688 n1689 l1686]) w [b7 g1682 g1684 a1692 a1693 a1694 a1695, b6 g1684 A1687 m1688 n1689 a1691, r5 A1687 m1688 n1689 l1686] w)) (H : Aside0 (ground_Ground_Word.f l1686 a1691 a1692 a1693 a1694 a1695 a1696 a1697 = some r)) :
    Calls Try.prog 45 #[.pointer (some ⟨g1682, 0, none⟩), .int .i64 a1696, .int .i64 a1697] w fun e w' => e = .returned (.int .u32 r.1) ∧ Sep (fps [b7 g1682 g1684 a1692 a1693 a1694 a1695, b6 g1684 A1687 m1688 n1689 a1691, r5 A1687 m1688 n1689 l1686]) w [b7 g1682 g1684 a1692 a1693 a1694 a1695, b6 g1684 A1687 m1688 n1689 r.2, r5 A1687 m1688 n1689 l1686] w' := by
  generalize (fps [b7 g1682 g1684 a1692 a1693 a1694 a1695, b6 g1684 A1687 m1688 n1689 a1691, r5 A1687 m1688 n1689 l1686]) = FF at HS ⊢
  obtain rfl := (row_len (HS.out.at2)).symm
  unfold ground_Ground_Word.f at H
  go_enter Try.func45, Try.ntmps45
  go_wp2_with fail
  obtain ⟨t1707, HA1708, H⟩ := bind_some H
  refine (ground_Ground_all.calls l1686 a1691 a1692 a1693 a1694 a1695 g1682 g1684 A1687 l1686.length n1689 t1707 _ ⟨HS.out.begin⟩ HA1708).mono ?_
  rintro e_ w1709 ⟨rfl, hS⟩
  replace HS : Aside0 (Sep FF w [b7 g1682 g1684 a1692 a1693 a1694 a1695, b6 g1684 A1687 l1686.length n1689 a1691, r5 A1687 l1686.length n1689 l1686] w1709) := ⟨HS.out.call hS⟩
  clear hS
  go_wp2_with fail
  obtain ⟨t1710, HA1711, H⟩ := bind_some H
  refine (ground_Ground_word.calls l1686 a1691 a1692 a1693 a1694 a1695 a1696 a1697 g1682 g1684 A1687 l1686.length n1689 t1710 _ ⟨HS.out.begin⟩ HA1711).mono ?_
  rintro e_ w1712 ⟨rfl, hS⟩
  replace HS : Aside0 (Sep FF w [b7 g1682 g1684 a1692 a1693 a1694 a1695, b6 g1684 A1687 l1686.length n1689 a1691, r5 A1687 l1686.length n1689 l1686] w1712) := ⟨HS.out.call hS⟩
  clear hS
  go_wp2_with fail
  replace HS : Aside0 (Sep FF w [r5 A1687 l1686.length n1689 l1686, b7 g1682 g1684 a1692 a1693 a1694 a1695, b6 g1684 A1687 l1686.length n1689 a1691] w1712) := ⟨HS.out.front 2 (by simp)⟩
  replace HS : Aside0 (Sep FF w [b6 g1684 A1687 l1686.length n1689 a1691, r5 A1687 l1686.length n1689 l1686, b7 g1682 g1684 a1692 a1693 a1694 a1695] w1712) := ⟨HS.out.front 2 (by simp)⟩
  obtain ⟨t1713, HA1714, H⟩ := bind_some H
  refine (store_Store_Get.calls l1686 a1691 t1710 g1684 A1687 l1686.length n1689 t1713 _ ⟨HS.out.begin⟩ HA1714).mono ?_
  rintro e_ w1715 ⟨rfl, hS⟩
  replace HS : Aside0 (Sep FF w [b6 g1684 A1687 l1686.length n1689 t1713.2, r5 A1687 l1686.length n1689 l1686, b7 g1682 g1684 a1692 a1693 a1694 a1695] w1715) := ⟨HS.out.call hS⟩
  clear hS
  go_wp2_with fail
  go_ret
  rw [← some_eq H]
  exact ⟨(by first | rfl | (simp [IntKind.wrap_u32]; done)), ((((HS.out).front 1 (by simp)).front 1 (by simp)).front 2 (by simp)).keep (l := [b7 g1682 g1684 a1692 a1693 a1694 a1695, b6 g1684 A1687 l1686.length n1689 t1713.2, r5 A1687 l1686.length n1689 l1686]) (rest := [])⟩

set_option maxHeartbeats 30000000 in
set_option maxRecDepth 100000 in
theorem chain_Take.calls (l1632 : List Int) (a1637 : Int) (a1638 : Int) (a1639 : Int) (a1640 : Int) (a1641 : Int) (a1642 : Int) (g1628 : Nat) (g1630 : Nat) (A1633 : Option Addr) (m1634 : Nat) (n1635 : Nat) (r : Int × Bool × Int × List Int) (w : World)   (HS : Aside0 (Sep (fps [b7 g1628 g1630 a1638 a1639 a1640 a1641, b6 g1630 A1633 m1634 n1635 a1637, r5 A1633 m1634 n1635 l1632]) w [b7 g1628 g1630 a1638 a1639 a1640 a1641, b6 g1630 A1633 m1634 n1635 a1637, r5 A1633 m1634 n1635 l1632] w)) (H : Aside0 (chain_Take.f l1632 a1637 a1638 a1639 a1640 a1641 a1642 = some r)) :
    Calls Try.prog 54 #[.pointer (some ⟨g1628, 0, none⟩), .int .i64 a1642] w fun e w' => e = .returned (.tuple #[.int .i64 r.1, .bool r.2.1]) ∧ Sep (fps [b7 g1628 g1630 a1638 a1639 a1640 a1641, b6 g1630 A1633 m1634 n1635 a1637, r5 A1633 m1634 n1635 l1632]) w [b7 g1628 g1630 a1638 a1639 a1640 a1641, b6 g1630 A1633 m1634 n1635 r.2.2.1, r5 A1633 m1634 n1635 r.2.2.2] w' := by
  generalize (fps [b7 g1628 g1630 a1638 a1639 a1640 a1641, b6 g1630 A1633 m1634 n1635 a1637, r5 A1633 m1634 n1635 l1632]) = FF at HS ⊢
  obtain rfl := (row_len (HS.out.at2)).symm
  unfold chain_Take.f at H
  go_enter Try.func54, Try.ntmps54
  go_wp2_with fail
  obtain ⟨t1739, HA1740, H⟩ := bind_some H
  refine (chain_of.calls l1632 a1637 a1638 a1639 a1640 a1641 a1642 g1628 g1630 A1633 l1632.length n1635 t1739 _ ⟨HS.out.begin⟩ HA1740).mono ?_
  rintro e_ w1741 ⟨rfl, hS⟩
  replace HS : Aside0 (Sep FF w [b7 g1628 g1630 a1638 a1639 a1640 a1641, b6 g1630 A1633 l1632.length n1635 a1637, r5 A1633 l1632.length n1635 l1632] w1741) := ⟨HS.out.call hS⟩
  clear hS
  by_cases c1752 : t1739.2.2.2 = true
  · replace H := if_yes c1752 H
    have c1752b0 : t1739.2.2.2 = true := c1752
    have c1752b1 : (!t1739.2.2.2) = false := by rw [c1752b0]; rfl
    try rw [c1752b1]
    clear c1752
    go_wp2_with (first | ((with_reducible refine gate_dst (N := 6) rfl ?_); refine box_on ?hg (N := 6) ?hd (cs := #[.int .i64 0, .int .i64 0, .int .i64 0]) (t := 134) ?hr ?_; (case hd => rfl); (case hg => rfl); (case hr => first | (go_simp; done) | (go_simp; rfl)); intro g1742 hg w1743 hbox hb; replace HS : Aside0 (Sep FF w [b7 g1628 g1630 a1638 a1639 a1640 a1641, b6 g1630 A1633 l1632.length n1635 a1637, r5 A1633 l1632.length n1635 l1632, b8 g1742 0 0 0] w1743) := ⟨HS.out.box hg hbox hb⟩; clear hg hbox hb; have hc1745 : w1743.cell? ⟨g1742, 0, none⟩ = some (.int .i64 0) := blk_cellv (HS.out.at3) 0 rfl; have hz1746 : w1743.frozen? ⟨g1742, 0, none⟩ = false := blk_fz (HS.out.at3) 0; have hc1747 : w1743.cell? ⟨g1742, 1, none⟩ = some (.int .i64 0) := blk_cellv (HS.out.at3) 1 rfl; have hz1748 : w1743.frozen? ⟨g1742, 1, none⟩ = false := blk_fz (HS.out.at3) 1; have hc1749 : w1743.cell? ⟨g1742, 2, none⟩ = some (.int .i64 0) := blk_cellv (HS.out.at3) 2 rfl; have hz1750 : w1743.frozen? ⟨g1742, 2, none⟩ = false := blk_fz (HS.out.at3) 2) | ((with_reducible refine gate_store (t := 134) (p := 6) rfl ?_); refine store_event (w1 := (World.setCell (World.setCell (World.setCell w1743 ⟨g1742, 0, none⟩ (.int .i64 t1739.1)) ⟨g1742, 1, none⟩ (.int .i64 t1739.2.1)) ⟨g1742, 2, none⟩ (.int .i64 t1739.2.2.1))) rfl (t := 134) (p := 6) rfl rfl ?hr ?_; (case hr => first | (go_simp; done) | (go_simp; rfl)); intro w1751 hst; clear hc1745 hz1746 hc1747 hz1748 hc1749 hz1750; replace HS : Aside0 (Sep FF w [b7 g1628 g1630 a1638 a1639 a1640 a1641, b6 g1630 A1633 l1632.length n1635 a1637, r5 A1633 l1632.length n1635 l1632, b8 g1742 t1739.1 t1739.2.1 t1739.2.2.1] w1751) := ⟨by rw [hst]; exact HS.out.setAll (l1 := [b7 g1628 g1630 a1638 a1639 a1640 a1641, b6 g1630 A1633 l1632.length n1635 a1637, r5 A1633 l1632.length n1635 l1632]) (l2 := []) [.int .i64 t1739.1, .int .i64 t1739.2.1, .int .i64 t1739.2.2.1] rfl⟩; clear hst; have hc1753 : w1751.cell? ⟨g1742, 0, none⟩ = some (.int .i64 t1739.1) := blk_cellv (HS.out.at3) 0 rfl))
    clear hc1753
    obtain ⟨t1754, HA1755, H⟩ := bind_some H
    refine (ground_Ground_Reg.calls l1632 a1637 a1638 a1639 a1640 a1641 t1739.1 g1628 g1630 A1633 l1632.length n1635 t1754 _ ⟨HS.out.begin⟩ HA1755).mono ?_
    rintro e_ w1756 ⟨rfl, hS⟩
    replace HS : Aside0 (Sep FF w [b7 g1628 g1630 a1638 a1639 a1640 a1641, b6 g1630 A1633 l1632.length n1635 t1754.2, r5 A1633 l1632.length n1635 l1632, b8 g1742 t1739.1 t1739.2.1 t1739.2.2.1] w1756) := ⟨HS.out.call hS⟩
    clear hS
    by_cases c1757 : t1754.1 = 0
    · replace H := if_yes c1757 H
      have c1757b0 : (t1754.1 == 0) = true := beq_iff_eq.mpr c1757
      have c1757b1 : (t1754.1 != 0) = false := bne_eq_false_iff_eq.mpr c1757
      clear c1757
      replace HS : Aside0 (Sep FF w [b7 g1628 g1630 a1638 a1639 a1640 a1641, b6 g1630 A1633 l1632.length n1635 t1754.2, r5 A1633 l1632.length n1635 l1632] w1756) := ⟨HS.out.sub (.cons_cons _ (.cons_cons _ (.cons_cons _ (.cons _ .slnil))))⟩
      go_wp2_with fail
      go_ret2
      rw [← some_eq H]
      exact ⟨(by first | rfl | (simp [IntKind.wrap_u32]; done)), HS.out⟩
    · replace H := if_no c1757 H
      have c1757b0 : (t1754.1 == 0) = false := beq_eq_false_iff_ne.mpr c1757
      have c1757b1 : (t1754.1 != 0) = true := bne_iff_ne.mpr c1757
      clear c1757
      go_wp2_with fail
      obtain ⟨t1758, HA1759, H⟩ := bind_some H
      refine (ground_Ground_Word.calls l1632 t1754.2 a1638 a1639 a1640 a1641 (wrap64 (t1754.1 - 1)) 5 g1628 g1630 A1633 l1632.length n1635 t1758 _ ⟨HS.out.begin⟩ HA1759).mono ?_
      rintro e_ w1760 ⟨rfl, hS⟩
      replace HS : Aside0 (Sep FF w [b7 g1628 g1630 a1638 a1639 a1640 a1641, b6 g1630 A1633 l1632.length n1635 t1758.2, r5 A1633 l1632.length n1635 l1632, b8 g1742 t1739.1 t1739.2.1 t1739.2.2.1] w1760) := ⟨HS.out.call hS⟩
      clear hS
      go_wp2_with fail
      obtain ⟨t1761, HA1762, H⟩ := bind_some H
      refine (ground_Ground_SetWord.calls l1632 t1758.2 a1638 a1639 a1640 a1641 (wrap64 (t1754.1 - 1)) 5 0 g1628 g1630 A1633 l1632.length n1635 t1761 _ ⟨HS.out.begin⟩ HA1762).mono ?_
      rintro e_ w1763 ⟨rfl, hS⟩
      replace HS : Aside0 (Sep FF w [b7 g1628 g1630 a1638 a1639 a1640 a1641, b6 g1630 A1633 l1632.length n1635 t1761.2.1, r5 A1633 l1632.length n1635 t1761.2.2, b8 g1742 t1739.1 t1739.2.1 t1739.2.2.1] w1763) := ⟨HS.out.call hS⟩
      clear hS
      have hc1764 : w1763.cell? ⟨g1742, 0, none⟩ = some (.int .i64 t1739.1) := blk_cellv (HS.out.at3) 0 rfl
      go_wp2_with fail
      clear hc1764
      obtain ⟨t1765, HA1766, H⟩ := bind_some H
      refine (ground_Ground_SetReg.calls t1761.2.2 t1761.2.1 a1638 a1639 a1640 a1641 t1739.1 (wrap64 (t1758.1)) g1628 g1630 A1633 l1632.length n1635 t1765 _ ⟨HS.out.begin⟩ HA1766).mono ?_
      rintro e_ w1767 ⟨rfl, hS⟩
      replace HS : Aside0 (Sep FF w [b7 g1628 g1630 a1638 a1639 a1640 a1641, b6 g1630 A1633 l1632.length n1635 t1765.2.1, r5 A1633 l1632.length n1635 t1765.2.2, b8 g1742 t1739.1 t1739.2.1 t1739.2.2.1] w1767) := ⟨HS.out.call hS⟩
      clear hS
      by_cases c1768 : (wrap64 (t1758.1)) = 0
      · replace H := if_yes c1768 H
        have c1768b0 : ((wrap64 (t1758.1)) == 0) = true := beq_iff_eq.mpr c1768
        have c1768b1 : ((wrap64 (t1758.1)) != 0) = false := bne_eq_false_iff_eq.mpr c1768
        clear c1768
        have hc1769 : w1767.cell? ⟨g1742, 1, none⟩ = some (.int .i64 t1739.2.1) := blk_cellv (HS.out.at3) 1 rfl
        go_wp2_with fail
        clear hc1769
        obtain ⟨t1770, HA1771, H⟩ := bind_some H
        refine (ground_Ground_SetReg.calls t1765.2.2 t1765.2.1 a1638 a1639 a1640 a1641 t1739.2.1 0 g1628 g1630 A1633 l1632.length n1635 t1770 _ ⟨HS.out.begin⟩ HA1771).mono ?_
        rintro e_ w1772 ⟨rfl, hS⟩
        replace HS : Aside0 (Sep FF w [b7 g1628 g1630 a1638 a1639 a1640 a1641, b6 g1630 A1633 l1632.length n1635 t1770.2.1, r5 A1633 l1632.length n1635 t1770.2.2, b8 g1742 t1739.1 t1739.2.1 t1739.2.2.1] w1772) := ⟨HS.out.call hS⟩
        clear hS
        go_wp2_with fail
        refine start_ (n := 9) (S := (fun w' => w'.cell? ⟨g1742, 2, none⟩ = some (.int .i64 t1739.2.2.1))) (ds := []) #[false, false, false, false, false, false, false, false, false] (by kernel_rfl) rfl rfl (blk_cellv ((HS.out.drew).at3) 2 rfl) (fun hHeld => ?_)
        have HS_ := Aside0.mk HS.out.drew
        clear HS
        generalize World.drew _ = w1774 at HS_ hHeld ⊢
        have HS := HS_
        clear HS_
        refine pure_ (i := 0) (N := some 44) (v := ?_) (a' := ?_) #[true, false, false, false, false, false, false, false, false] rfl rfl (by kernel_rfl) (fun _ _ _ h => h) (Or.inl ⟨by rfl, ?_⟩) ?_ ?_
        rotate_left
        · intro w'
          go_simp
          with_reducible rfl
        rotate_left
        · simp only [Act.put, List.setIfInBounds_toArray, List.set_cons_zero, List.set_cons_succ, i64_w, i32_w]
          rfl
        refine pure_ (i := 1) (N := some 45) (v := ?_) (a' := ?_) #[true, true, false, false, false, false, false, false, false] rfl rfl (by kernel_rfl) (fun _ _ _ h => h) (Or.inl ⟨by rfl, ?_⟩) ?_ ?_
        rotate_left
        · intro w'
          go_simp
          with_reducible rfl
        rotate_left
        · simp only [Act.put, List.setIfInBounds_toArray, List.set_cons_zero, List.set_cons_succ, i64_w, i32_w]
          rfl
        refine pure_ (i := 3) (N := some 47) (v := ?_) (a' := ?_) #[true, true, false, true, false, false, false, false, false] rfl rfl (by kernel_rfl) (fun _ _ _ h => h) (Or.inl ⟨by rfl, ?_⟩) ?_ ?_
        rotate_left
        · intro w'
          go_simp
          with_reducible rfl
        rotate_left
        · simp only [Act.put, List.setIfInBounds_toArray, List.set_cons_zero, List.set_cons_succ, i64_w, i32_w]
          rfl
        refine pure_ (i := 4) (N := some 48) (v := ?_) (a' := ?_) #[true, true, false, true, true, false, false, false, false] rfl rfl (by kernel_rfl) (fun _ _ _ h => h) (Or.inl ⟨by rfl, ?_⟩) ?_ ?_
        rotate_left
        · intro w'
          go_simp
          with_reducible rfl
        rotate_left
        · simp only [Act.put, List.setIfInBounds_toArray, List.set_cons_zero, List.set_cons_succ, i64_w, i32_w]
          rfl
        refine take_ (i := 2) (N := some 46) (v := ?_) (a' := ?_) #[true, true, true, true, true, false, false, false, false] rfl rfl (by kernel_rfl) (fun _ _ _ h => h) (Or.inl ⟨by rfl, ?_⟩) hHeld ?_ ?_
        rotate_left
        · rintro w' hS'
          have s0 := hS'
          go_simp
          with_reducible rfl
        rotate_left
        · simp only [Act.put, List.setIfInBounds_toArray, List.set_cons_zero, List.set_cons_succ, i64_w, i32_w]
          rfl
        refine take_ (i := 5) (N := some 49) (v := ?_) (a' := ?_) #[true, true, true, true, true, true, false, false, false] rfl rfl (by kernel_rfl) (fun _ _ _ h => h) (Or.inl ⟨by rfl, ?_⟩) hHeld ?_ ?_
        rotate_left
        · rintro w' hS'
          have s0 := hS'
          go_simp
          with_reducible rfl
        rotate_left
        · simp only [Act.put, List.setIfInBounds_toArray, List.set_cons_zero, List.set_cons_succ, i64_w, i32_w]
          rfl
        refine one_ (i := 6) (N := some 50) #[true, true, true, true, true, true, true, false, false] rfl rfl (by kernel_rfl) (by decide) (fun K hK => ?_)
        obtain ⟨t1775, HA1776, H⟩ := bind_some H
        refine goes_ Try.func36 (by kernel_rfl) rfl #[.pointer (some ⟨g1628, 0, none⟩), .int .i64 t1739.2.2.1] (by rfl) rfl rfl (by (try simp only [List.map_toArray, List.map_cons, List.map_nil]); first | done | rfl) ?_
        refine (ground_Ground_Reg.calls t1770.2.2 t1770.2.1 a1638 a1639 a1640 a1641 t1739.2.2.1 g1628 g1630 A1633 l1632.length n1635 t1775 _ ⟨HS.out.begin⟩ HA1776).mono ?_
        rintro e_ w1777 ⟨rfl, hS⟩
        replace HS : Aside0 (Sep FF w [b7 g1628 g1630 a1638 a1639 a1640 a1641, b6 g1630 A1633 l1632.length n1635 t1775.2, r5 A1633 l1632.length n1635 t1770.2.2, b8 g1742 t1739.1 t1739.2.1 t1739.2.2.1] w1777) := ⟨HS.out.call hS⟩
        clear hS
        refine ⟨_, rfl, ?_⟩
        refine hK.out _ _ (blk_cellv (HS.out.at3) 2 rfl) (fun hHeld => ?_)
        clear hK K
        refine norm_ (a' := ?_) ?_ ?_
        rotate_left
        · show Act.put _ (some 50) _ = _
          simp only [Act.put, List.setIfInBounds_toArray, List.set_cons_zero, List.set_cons_succ, i64_w, i32_w]
          rfl
        refine pure_ (i := 7) (N := some 51) (v := ?_) (a' := ?_) #[true, true, true, true, true, true, true, true, false] rfl rfl (by kernel_rfl) (fun _ _ _ h => h) (Or.inl ⟨by rfl, ?_⟩) ?_ ?_
        rotate_left
        · intro w'
          go_simp
          with_reducible rfl
        rotate_left
        · simp only [Act.put, List.setIfInBounds_toArray, List.set_cons_zero, List.set_cons_succ, i64_w, i32_w]
          rfl
        refine one_ (i := 8) (N := some 52) #[true, true, true, true, true, true, true, true, true] rfl rfl (by kernel_rfl) (by decide) (fun K hK => ?_)
        obtain ⟨t1778, HA1779, H⟩ := bind_some H
        refine goes_ Try.func42 (by kernel_rfl) rfl #[.pointer (some ⟨g1628, 0, none⟩), .int .i64 t1739.2.2.1, .int .i64 (wrap64 (t1775.1 - 1))] (by rfl) rfl rfl (by (try simp only [List.map_toArray, List.map_cons, List.map_nil]); first | done | rfl) ?_
        refine (ground_Ground_SetReg.calls t1770.2.2 t1775.2 a1638 a1639 a1640 a1641 t1739.2.2.1 (wrap64 (t1775.1 - 1)) g1628 g1630 A1633 l1632.length n1635 t1778 _ ⟨HS.out.begin⟩ HA1779).mono ?_
        rintro e_ w1780 ⟨rfl, hS⟩
        replace HS : Aside0 (Sep FF w [b7 g1628 g1630 a1638 a1639 a1640 a1641, b6 g1630 A1633 l1632.length n1635 t1778.2.1, r5 A1633 l1632.length n1635 t1778.2.2, b8 g1742 t1739.1 t1739.2.1 t1739.2.2.1] w1780) := ⟨HS.out.call hS⟩
        clear hS
        refine ⟨_, rfl, ?_⟩
        refine hK.out _ _ (blk_cellv (HS.out.at3) 2 rfl) (fun hHeld => ?_)
        clear hK K
        refine norm_ (a' := ?_) ?_ ?_
        rotate_left
        · show Act.put _ (some 52) _ = _
          simp only [Act.put, List.setIfInBounds_toArray, List.set_cons_zero, List.set_cons_succ, i64_w, i32_w]
          rfl
        refine done_ (by kernel_rfl) ?_
        replace HS : Aside0 (Sep FF w [b7 g1628 g1630 a1638 a1639 a1640 a1641, b6 g1630 A1633 l1632.length n1635 t1778.2.1, r5 A1633 l1632.length n1635 t1778.2.2] w1780) := ⟨HS.out.sub (.cons_cons _ (.cons_cons _ (.cons_cons _ (.cons _ .slnil))))⟩
        go_wp2_with fail
        go_ret2
        rw [← some_eq H]
        exact ⟨(by first | rfl | (simp [IntKind.wrap_u32]; done)), HS.out⟩
      · replace H := if_no c1768 H
        have c1768b0 : ((wrap64 (t1758.1)) == 0) = false := beq_eq_false_iff_ne.mpr c1768
        have c1768b1 : ((wrap64 (t1758.1)) != 0) = true := bne_iff_ne.mpr c1768
        clear c1768
        go_wp2_with fail
        refine start_ (n := 9) (S := (fun w' => w'.cell? ⟨g1742, 2, none⟩ = some (.int .i64 t1739.2.2.1))) (ds := []) #[false, false, false, false, false, false, false, false, false] (by kernel_rfl) rfl rfl (blk_cellv ((HS.out.drew).at3) 2 rfl) (fun hHeld => ?_)
        have HS_ := Aside0.mk HS.out.drew
        clear HS
        generalize World.drew _ = w1782 at HS_ hHeld ⊢
        have HS := HS_
        clear HS_
        refine pure_ (i := 0) (N := some 44) (v := ?_) (a' := ?_) #[true, false, false, false, false, false, false, false, false] rfl rfl (by kernel_rfl) (fun _ _ _ h => h) (Or.inl ⟨by rfl, ?_⟩) ?_ ?_
        rotate_left
        · intro w'
          go_simp
          with_reducible rfl
        rotate_left
        · simp only [Act.put, List.setIfInBounds_toArray, List.set_cons_zero, List.set_cons_succ, i64_w, i32_w]
          rfl
        refine pure_ (i := 1) (N := some 45) (v := ?_) (a' := ?_) #[true, true, false, false, false, false, false, false, false] rfl rfl (by kernel_rfl) (fun _ _ _ h => h) (Or.inl ⟨by rfl, ?_⟩) ?_ ?_
        rotate_left
        · intro w'
          go_simp
          with_reducible rfl
        rotate_left
        · simp only [Act.put, List.setIfInBounds_toArray, List.set_cons_zero, List.set_cons_succ, i64_w, i32_w]
          rfl
        refine pure_ (i := 3) (N := some 47) (v := ?_) (a' := ?_) #[true, true, false, true, false, false, false, false, false] rfl rfl (by kernel_rfl) (fun _ _ _ h => h) (Or.inl ⟨by rfl, ?_⟩) ?_ ?_
        rotate_left
        · intro w'
          go_simp
          with_reducible rfl
        rotate_left
        · simp only [Act.put, List.setIfInBounds_toArray, List.set_cons_zero, List.set_cons_succ, i64_w, i32_w]
          rfl
        refine pure_ (i := 4) (N := some 48) (v := ?_) (a' := ?_) #[true, true, false, true, true, false, false, false, false] rfl rfl (by kernel_rfl) (fun _ _ _ h => h) (Or.inl ⟨by rfl, ?_⟩) ?_ ?_
        rotate_left
        · intro w'
          go_simp
          with_reducible rfl
        rotate_left
        · simp only [Act.put, List.setIfInBounds_toArray, List.set_cons_zero, List.set_cons_succ, i64_w, i32_w]
          rfl
        refine take_ (i := 2) (N := some 46) (v := ?_) (a' := ?_) #[true, true, true, true, true, false, false, false, false] rfl rfl (by kernel_rfl) (fun _ _ _ h => h) (Or.inl ⟨by rfl, ?_⟩) hHeld ?_ ?_
        rotate_left
        · rintro w' hS'
          have s0 := hS'
          go_simp
          with_reducible rfl
        rotate_left
        · simp only [Act.put, List.setIfInBounds_toArray, List.set_cons_zero, List.set_cons_succ, i64_w, i32_w]
          rfl
        refine take_ (i := 5) (N := some 49) (v := ?_) (a' := ?_) #[true, true, true, true, true, true, false, false, false] rfl rfl (by kernel_rfl) (fun _ _ _ h => h) (Or.inl ⟨by rfl, ?_⟩) hHeld ?_ ?_
        rotate_left
        · rintro w' hS'
          have s0 := hS'
          go_simp
          with_reducible rfl
        rotate_left
        · simp only [Act.put, List.setIfInBounds_toArray, List.set_cons_zero, List.set_cons_succ, i64_w, i32_w]
          rfl
        refine one_ (i := 6) (N := some 50) #[true, true, true, true, true, true, true, false, false] rfl rfl (by kernel_rfl) (by decide) (fun K hK => ?_)
        obtain ⟨t1775, HA1783, H⟩ := bind_some H
        refine goes_ Try.func36 (by kernel_rfl) rfl #[.pointer (some ⟨g1628, 0, none⟩), .int .i64 t1739.2.2.1] (by rfl) rfl rfl (by (try simp only [List.map_toArray, List.map_cons, List.map_nil]); first | done | rfl) ?_
        refine (ground_Ground_Reg.calls t1765.2.2 t1765.2.1 a1638 a1639 a1640 a1641 t1739.2.2.1 g1628 g1630 A1633 l1632.length n1635 t1775 _ ⟨HS.out.begin⟩ HA1783).mono ?_
        rintro e_ w1784 ⟨rfl, hS⟩
        replace HS : Aside0 (Sep FF w [b7 g1628 g1630 a1638 a1639 a1640 a1641, b6 g1630 A1633 l1632.length n1635 t1775.2, r5 A1633 l1632.length n1635 t1765.2.2, b8 g1742 t1739.1 t1739.2.1 t1739.2.2.1] w1784) := ⟨HS.out.call hS⟩
        clear hS
        refine ⟨_, rfl, ?_⟩
        refine hK.out _ _ (blk_cellv (HS.out.at3) 2 rfl) (fun hHeld => ?_)
        clear hK K
        refine norm_ (a' := ?_) ?_ ?_
        rotate_left
        · show Act.put _ (some 50) _ = _
          simp only [Act.put, List.setIfInBounds_toArray, List.set_cons_zero, List.set_cons_succ, i64_w, i32_w]
          rfl
        refine pure_ (i := 7) (N := some 51) (v := ?_) (a' := ?_) #[true, true, true, true, true, true, true, true, false] rfl rfl (by kernel_rfl) (fun _ _ _ h => h) (Or.inl ⟨by rfl, ?_⟩) ?_ ?_
        rotate_left
        · intro w'
          go_simp
          with_reducible rfl
        rotate_left
        · simp only [Act.put, List.setIfInBounds_toArray, List.set_cons_zero, List.set_cons_succ, i64_w, i32_w]
          rfl
        refine one_ (i := 8) (N := some 52) #[true, true, true, true, true, true, true, true, true] rfl rfl (by kernel_rfl) (by decide) (fun K hK => ?_)
        obtain ⟨t1778, HA1785, H⟩ := bind_some H
        refine goes_ Try.func42 (by kernel_rfl) rfl #[.pointer (some ⟨g1628, 0, none⟩), .int .i64 t1739.2.2.1, .int .i64 (wrap64 (t1775.1 - 1))] (by rfl) rfl rfl (by (try simp only [List.map_toArray, List.map_cons, List.map_nil]); first | done | rfl) ?_
        refine (ground_Ground_SetReg.calls t1765.2.2 t1775.2 a1638 a1639 a1640 a1641 t1739.2.2.1 (wrap64 (t1775.1 - 1)) g1628 g1630 A1633 l1632.length n1635 t1778 _ ⟨HS.out.begin⟩ HA1785).mono ?_
        rintro e_ w1786 ⟨rfl, hS⟩
        replace HS : Aside0 (Sep FF w [b7 g1628 g1630 a1638 a1639 a1640 a1641, b6 g1630 A1633 l1632.length n1635 t1778.2.1, r5 A1633 l1632.length n1635 t1778.2.2, b8 g1742 t1739.1 t1739.2.1 t1739.2.2.1] w1786) := ⟨HS.out.call hS⟩
        clear hS
        refine ⟨_, rfl, ?_⟩
        refine hK.out _ _ (blk_cellv (HS.out.at3) 2 rfl) (fun hHeld => ?_)
        clear hK K
        refine norm_ (a' := ?_) ?_ ?_
        rotate_left
        · show Act.put _ (some 52) _ = _
          simp only [Act.put, List.setIfInBounds_toArray, List.set_cons_zero, List.set_cons_succ, i64_w, i32_w]
          rfl
        refine done_ (by kernel_rfl) ?_
        replace HS : Aside0 (Sep FF w [b7 g1628 g1630 a1638 a1639 a1640 a1641, b6 g1630 A1633 l1632.length n1635 t1778.2.1, r5 A1633 l1632.length n1635 t1778.2.2] w1786) := ⟨HS.out.sub (.cons_cons _ (.cons_cons _ (.cons_cons _ (.cons _ .slnil))))⟩
        go_wp2_with fail
        go_ret2
        rw [← some_eq H]
        exact ⟨(by first | rfl | (simp [IntKind.wrap_u32]; done)), HS.out⟩
  · replace H := if_no c1752 H
    have c1752b0 : t1739.2.2.2 = false := by simpa using c1752
    have c1752b1 : (!t1739.2.2.2) = true := by rw [c1752b0]; rfl
    try rw [c1752b1]
    clear c1752
    go_wp2_with (first | ((with_reducible refine gate_dst (N := 6) rfl ?_); refine box_on ?hg (N := 6) ?hd (cs := #[.int .i64 0, .int .i64 0, .int .i64 0]) (t := 134) ?hr ?_; (case hd => rfl); (case hg => rfl); (case hr => first | (go_simp; done) | (go_simp; rfl)); intro g1742 hg w1743 hbox hb; replace HS : Aside0 (Sep FF w [b7 g1628 g1630 a1638 a1639 a1640 a1641, b6 g1630 A1633 l1632.length n1635 a1637, r5 A1633 l1632.length n1635 l1632, b8 g1742 0 0 0] w1743) := ⟨HS.out.box hg hbox hb⟩; clear hg hbox hb; have hc1745 : w1743.cell? ⟨g1742, 0, none⟩ = some (.int .i64 0) := blk_cellv (HS.out.at3) 0 rfl; have hz1746 : w1743.frozen? ⟨g1742, 0, none⟩ = false := blk_fz (HS.out.at3) 0; have hc1747 : w1743.cell? ⟨g1742, 1, none⟩ = some (.int .i64 0) := blk_cellv (HS.out.at3) 1 rfl; have hz1748 : w1743.frozen? ⟨g1742, 1, none⟩ = false := blk_fz (HS.out.at3) 1; have hc1749 : w1743.cell? ⟨g1742, 2, none⟩ = some (.int .i64 0) := blk_cellv (HS.out.at3) 2 rfl; have hz1750 : w1743.frozen? ⟨g1742, 2, none⟩ = false := blk_fz (HS.out.at3) 2) | ((with_reducible refine gate_store (t := 134) (p := 6) rfl ?_); refine store_event (w1 := (World.setCell (World.setCell (World.setCell w1743 ⟨g1742, 0, none⟩ (.int .i64 t1739.1)) ⟨g1742, 1, none⟩ (.int .i64 t1739.2.1)) ⟨g1742, 2, none⟩ (.int .i64 t1739.2.2.1))) rfl (t := 134) (p := 6) rfl rfl ?hr ?_; (case hr => first | (go_simp; done) | (go_simp; rfl)); intro w1751 hst; clear hc1745 hz1746 hc1747 hz1748 hc1749 hz1750; replace HS : Aside0 (Sep FF w [b7 g1628 g1630 a1638 a1639 a1640 a1641, b6 g1630 A1633 l1632.length n1635 a1637, r5 A1633 l1632.length n1635 l1632, b8 g1742 t1739.1 t1739.2.1 t1739.2.2.1] w1751) := ⟨by rw [hst]; exact HS.out.setAll (l1 := [b7 g1628 g1630 a1638 a1639 a1640 a1641, b6 g1630 A1633 l1632.length n1635 a1637, r5 A1633 l1632.length n1635 l1632]) (l2 := []) [.int .i64 t1739.1, .int .i64 t1739.2.1, .int .i64 t1739.2.2.1] rfl⟩; clear hst; replace HS : Aside0 (Sep FF w [b7 g1628 g1630 a1638 a1639 a1640 a1641, b6 g1630 A1633 l1632.length n1635 a1637, r5 A1633 l1632.length n1635 l1632] w1751) := ⟨HS.out.sub (.cons_cons _ (.cons_cons _ (.cons_cons _ (.cons _ .slnil))))⟩))
    go_ret2
    rw [← some_eq H]
    exact ⟨(by first | rfl | (simp [IntKind.wrap_u32]; done)), HS.out⟩

set_option maxHeartbeats 30000000 in
set_option maxRecDepth 100000 in
theorem ground_Ground_Wipe.calls (k : Nat) (l1796 : List Int) (a1801 : Int) (a1802 : Int) (a1803 : Int) (a1804 : Int) (a1805 : Int) (a1806 : Int) (g1792 : Nat) (g1794 : Nat) (A1797 : Option Addr) (m1798 : Nat) (n1799 : Nat) (r : Int × Int × List Int) (w : World)   (HS : Aside0 (Sep (fps [b7 g1792 g1794 a1802 a1803 a1804 a1805, b6 g1794 A1797 m1798 n1799 a1801, r5 A1797 m1798 n1799 l1796]) w [b7 g1792 g1794 a1802 a1803 a1804 a1805, b6 g1794 A1797 m1798 n1799 a1801, r5 A1797 m1798 n1799 l1796] w)) (H : Aside0 (ground_Ground_Wipe.f k l1796 a1801 a1802 a1803 a1804 a1805 a1806 = some r)) :
    Calls Try.prog 47 #[.pointer (some ⟨g1792, 0, none⟩), .int .i64 a1806] w fun e w' => e = .returned (.int .i64 r.1) ∧ Sep (fps [b7 g1792 g1794 a1802 a1803 a1804 a1805, b6 g1794 A1797 m1798 n1799 a1801, r5 A1797 m1798 n1799 l1796]) w [b7 g1792 g1794 a1802 a1803 a1804 a1805, b6 g1794 A1797 m1798 n1799 r.2.1, r5 A1797 m1798 n1799 r.2.2] w' := by
  generalize (fps [b7 g1792 g1794 a1802 a1803 a1804 a1805, b6 g1794 A1797 m1798 n1799 a1801, r5 A1797 m1798 n1799 l1796]) = FF at HS ⊢
  obtain rfl := (row_len (HS.out.at2)).symm
  unfold ground_Ground_Wipe.f at H
  go_enter Try.func47, Try.ntmps47
  go_wp2_with fail
  obtain ⟨t1835, HA1836, H⟩ := bind_some H
  refine (ground_Ground_Conf.calls l1796 a1801 a1802 a1803 a1804 a1805 g1792 g1794 A1797 l1796.length n1799 t1835 _ ⟨HS.out.begin⟩ HA1836).mono ?_
  rintro e_ w1837 ⟨rfl, hS⟩
  replace HS : Aside0 (Sep FF w [b7 g1792 g1794 a1802 a1803 a1804 a1805, b6 g1794 A1797 l1796.length n1799 a1801, r5 A1797 l1796.length n1799 l1796] w1837) := ⟨HS.out.call hS⟩
  clear hS
  have fl1838 : ∀ w, (Instr.field 49 (.agg #[.int .i64 t1835.1, .int .i64 t1835.2.1, .int .i64 t1835.2.2.1, .int .i64 t1835.2.2.2]) 1).run Try.prog w = .ok (.int .i64 t1835.2.1) w := fun _ => by kernel_rfl
  go_wp2_with fail
  clear fl1838
  obtain ⟨o1851, AL1852, H⟩ := bind_some H
  go_loopg [5, 10] k (fun kq v5 v10 wc => ∃ (x1855 : Int) (x1856 : Int) (x1857 : List Int) (x1858 : Int), v5 = .int .i64 x1855 ∧ v10 = .int .i64 x1856 ∧ Aside0 (ground_Ground_Wipe.lo0 kq a1802 a1803 a1804 a1805 a1806 t1835 x1855 x1856 x1857 x1858 = some o1851) ∧ Aside0 (Sep FF w [b7 g1792 g1794 a1802 a1803 a1804 a1805, b6 g1794 A1797 l1796.length n1799 x1858, r5 A1797 l1796.length n1799 x1857] wc))
  case atStart => exact ⟨(0), (0), (l1796), (a1801), (by first | rfl | (simp [IntKind.wrap_u32]; done)), (by first | rfl | (simp [IntKind.wrap_u32]; done)), AL1852, ⟨HS.out⟩⟩
  case round =>
    clear AL1852 HS
    obtain ⟨x1855, x1856, x1857, x1858, rfl, rfl, AL1852, HS⟩ := hrel
    obtain ⟨w1853, rfl⟩ : ∃ x : World, x = wr := ⟨_, rfl⟩
    cases gk with
    | zero => exact absurd AL1852.out (by simp [ground_Ground_Wipe.lo0])
    | succ k1854 =>
      have AL0 := AL1852.out
      rw [ground_Ground_Wipe.lo0] at AL0
      clear AL1852
      have AL1852 := Aside0.mk AL0
      clear AL0
      by_cases c1859 : x1856 < t1835.2.1
      · replace AL1852 := if_yes c1859 AL1852
        have c1859b0 : decide (x1856 < t1835.2.1) = true := decide_eq_true c1859
        clear c1859
        go_wp2_with fail
        obtain ⟨t1847, HA1860, AL1852⟩ := bind_some AL1852
        refine (ground_Ground_SetWord.calls x1857 x1858 a1802 a1803 a1804 a1805 a1806 x1856 0 g1792 g1794 A1797 l1796.length n1799 t1847 _ ⟨HS.out.begin⟩ HA1860).mono ?_
        rintro e_ w1861 ⟨rfl, hS⟩
        replace HS : Aside0 (Sep FF w [b7 g1792 g1794 a1802 a1803 a1804 a1805, b6 g1794 A1797 l1796.length n1799 t1847.2.1, r5 A1797 l1796.length n1799 t1847.2.2] w1861) := ⟨HS.out.call hS⟩
        clear hS
        by_cases c1862 : t1847.1 = true
        · replace AL1852 := if_yes c1862 AL1852
          have c1862b0 : t1847.1 = true := c1862
          have c1862b1 : (!t1847.1) = false := by rw [c1862b0]; rfl
          clear c1862
          go_wp2_with fail
          go_roundg k1854
          case measure => exact Nat.lt_succ_self _
          case rel => exact ⟨(wrap64 (x1855 + 1)), (wrap64 (x1856 + 1)), (t1847.2.2), (t1847.2.1), (by first | rfl | (simp [IntKind.wrap_u32]; done)), (by first | rfl | (simp [IntKind.wrap_u32]; done)), Aside0.mk AL1852.out, ⟨HS.out⟩⟩
        · replace AL1852 := if_no c1862 AL1852
          have c1862b0 : t1847.1 = false := by simpa using c1862
          have c1862b1 : (!t1847.1) = true := by rw [c1862b0]; rfl
          clear c1862
          go_wp2_with fail
          go_roundg k1854
          case measure => exact Nat.lt_succ_self _
          case rel => exact ⟨(x1855), (wrap64 (x1856 + 1)), (t1847.2.2), (t1847.2.1), (by first | rfl | (simp [IntKind.wrap_u32]; done)), (by first | rfl | (simp [IntKind.wrap_u32]; done)), Aside0.mk AL1852.out, ⟨HS.out⟩⟩
      · replace AL1852 := if_no c1859 AL1852
        have c1859b0 : decide (x1856 < t1835.2.1) = false := decide_eq_false c1859
        clear c1859
        have ho := some_eq AL1852
        subst ho
        clear AL1852
        go_wp2_with fail
        go_ret
        rw [← some_eq H]
        exact ⟨(by first | rfl | (simp [IntKind.wrap_u32]; done)), HS.out⟩

set_option maxHeartbeats 30000000 in
set_option maxRecDepth 100000 in
theorem pool_Take.calls (k : Nat) (l1617 : List Int) (a1622 : Int) (a1623 : Int) (a1624 : Int) (a1625 : Int) (a1626 : Int) (g1613 : Nat) (g1615 : Nat) (A1618 : Option Addr) (m1619 : Nat) (n1620 : Nat) (r : Int × Bool × Int × List Int) (w : World)   (HS : Aside0 (Sep (fps [b7 g1613 g1615 a1623 a1624 a1625 a1626, b6 g1615 A1618 m1619 n1620 a1622, r5 A1618 m1619 n1620 l1617]) w [b7 g1613 g1615 a1623 a1624 a1625 a1626, b6 g1615 A1618 m1619 n1620 a1622, r5 A1618 m1619 n1620 l1617] w)) (H : Aside0 (pool_Take.f k l1617 a1622 a1623 a1624 a1625 a1626 = some r)) :
    Calls Try.prog 63 #[.pointer (some ⟨g1613, 0, none⟩)] w fun e w' => e = .returned (.tuple #[.int .i64 r.1, .bool r.2.1]) ∧ Sep (fps [b7 g1613 g1615 a1623 a1624 a1625 a1626, b6 g1615 A1618 m1619 n1620 a1622, r5 A1618 m1619 n1620 l1617]) w [b7 g1613 g1615 a1623 a1624 a1625 a1626, b6 g1615 A1618 m1619 n1620 r.2.2.1, r5 A1618 m1619 n1620 r.2.2.2] w' := by
  generalize (fps [b7 g1613 g1615 a1623 a1624 a1625 a1626, b6 g1615 A1618 m1619 n1620 a1622, r5 A1618 m1619 n1620 l1617]) = FF at HS ⊢
  obtain rfl := (row_len (HS.out.at2)).symm
  unfold pool_Take.f at H
  go_enter Try.func63, Try.ntmps63
  go_wp2_with fail
  obtain ⟨t1867, HA1868, H⟩ := bind_some H
  refine (chain_Take.calls l1617 a1622 a1623 a1624 a1625 a1626 0 g1613 g1615 A1618 l1617.length n1620 t1867 _ ⟨HS.out.begin⟩ HA1868).mono ?_
  rintro e_ w1869 ⟨rfl, hS⟩
  replace HS : Aside0 (Sep FF w [b7 g1613 g1615 a1623 a1624 a1625 a1626, b6 g1615 A1618 l1617.length n1620 t1867.2.2.1, r5 A1618 l1617.length n1620 t1867.2.2.2] w1869) := ⟨HS.out.call hS⟩
  clear hS
  by_cases c1870 : t1867.2.1 = true
  · replace H := if_yes c1870 H
    have c1870b0 : t1867.2.1 = true := c1870
    have c1870b1 : (!t1867.2.1) = false := by rw [c1870b0]; rfl
    try rw [c1870b1]
    clear c1870
    go_wp2_with fail
    obtain ⟨t1871, HA1872, H⟩ := bind_some H
    refine (ground_Ground_Wipe.calls _ t1867.2.2.2 t1867.2.2.1 a1623 a1624 a1625 a1626 t1867.1 g1613 g1615 A1618 l1617.length n1620 t1871 _ ⟨HS.out.begin⟩ HA1872).mono ?_
    rintro e_ w1873 ⟨rfl, hS⟩
    replace HS : Aside0 (Sep FF w [b7 g1613 g1615 a1623 a1624 a1625 a1626, b6 g1615 A1618 l1617.length n1620 t1871.2.1, r5 A1618 l1617.length n1620 t1871.2.2] w1873) := ⟨HS.out.call hS⟩
    clear hS
    go_wp2_with fail
    go_ret2
    rw [← some_eq H]
    exact ⟨(by first | rfl | (simp [IntKind.wrap_u32]; done)), HS.out⟩
  · replace H := if_no c1870 H
    have c1870b0 : t1867.2.1 = false := by simpa using c1870
    have c1870b1 : (!t1867.2.1) = true := by rw [c1870b0]; rfl
    try rw [c1870b1]
    clear c1870
    go_wp2_with fail
    go_ret2
    rw [← some_eq H]
    exact ⟨(by first | rfl | (simp [IntKind.wrap_u32]; done)), HS.out⟩

set_option maxHeartbeats 30000000 in
set_option maxRecDepth 100000 in
theorem pack_isPiece.calls (a1921 : Int) (a1922 : Int) (r : Bool) (w : World)   (HS : Aside0 (Sep (fps []) w [] w)) (H : Aside0 (pack_isPiece.f a1921 a1922 = some r)) :
    Calls Try.prog 120 #[.int .i64 a1921, .int .i64 a1922] w fun e w' => e = .returned (.bool r) ∧ Sep (fps []) w [] w' := by
  unfold pack_isPiece.f at H
  go_enter Try.func120, Try.ntmps120
  by_cases c1923 : a1921 ≥ 0
  · replace H := if_yes c1923 H
    have c1923b0 : decide (0 ≤ a1921) = true := decide_eq_true c1923
    clear c1923
    by_cases c1924 : a1922 ≥ 1
    · replace H := if_yes c1924 H
      have c1924b0 : decide (1 ≤ a1922) = true := decide_eq_true c1924
      clear c1924
      by_cases c1925 : a1922 ≤ 32
      · replace H := if_yes c1925 H
        have c1925b0 : decide (a1922 ≤ 32) = true := decide_eq_true c1925
        clear c1925
        go_wp2_with fail
        go_ret
        rw [← some_eq H]
        exact ⟨(by first | rfl | (simp [IntKind.wrap_u32]; done)), HS.out⟩
      · replace H := if_no c1925 H
        have c1925b0 : decide (a1922 ≤ 32) = false := decide_eq_false c1925
        clear c1925
        go_wp2_with fail
        go_ret
        rw [← some_eq H]
        exact ⟨(by first | rfl | (simp [IntKind.wrap_u32]; done)), HS.out⟩
    · replace H := if_no c1924 H
      have c1924b0 : decide (1 ≤ a1922) = false := decide_eq_false c1924
      clear c1924
      go_wp2_with fail
      go_ret
      rw [← some_eq H]
      exact ⟨(by first | rfl | (simp [IntKind.wrap_u32]; done)), HS.out⟩
  · replace H := if_no c1923 H
    have c1923b0 : decide (0 ≤ a1921) = false := decide_eq_false c1923
    clear c1923
    go_wp2_with fail
    go_ret
    rw [← some_eq H]
    exact ⟨(by first | rfl | (simp [IntKind.wrap_u32]; done)), HS.out⟩

set_option maxHeartbeats 30000000 in
set_option maxRecDepth 100000 in
theorem pack_mask.calls (a1930 : Int) (a1931 : Int) (r : Int) (w : World)   (HS : Aside0 (Sep (fps []) w [] w)) (H : Aside0 (pack_mask.f a1930 a1931 = some r)) :
    Calls Try.prog 121 #[.int .i64 a1930, .int .i64 a1931] w fun e w' => e = .returned (.int .u32 r) ∧ Sep (fps []) w [] w' := by
  unfold pack_mask.f at H
  go_enter Try.func121, Try.ntmps121
  by_cases c1932 : 0 ≤ (IntKind.u64.wrap (a1931))
  · replace H := if_yes c1932 H
    have c1932b0 : decide (0 ≤ (IntKind.u64.wrap (a1931))) = true := decide_eq_true c1932
    by_cases c1933 : 0 ≤ (IntKind.u64.wrap (a1930))
    · replace H := if_yes c1933 H
      have c1933b0 : decide (0 ≤ (IntKind.u64.wrap (a1930))) = true := decide_eq_true c1933
      skip
      skip
      go_wp2_with fail
      clear c1932 c1933
      go_ret
      rw [← some_eq H]
      exact ⟨(by first | rfl | (simp [IntKind.wrap_u32]; done)), HS.out⟩
    · replace H := if_no c1933 H
      have c1933b0 : decide (0 ≤ (IntKind.u64.wrap (a1930))) = false := decide_eq_false c1933
      exact (none_no H).elim
  · replace H := if_no c1932 H
    have c1932b0 : decide (0 ≤ (IntKind.u64.wrap (a1931))) = false := decide_eq_false c1932
    exact (none_no H).elim

set_option maxHeartbeats 30000000 in
set_option maxRecDepth 100000 in
theorem pack_Get.calls (a1918 : Int) (a1919 : Int) (a1920 : Int) (r : Int) (w : World)   (HS : Aside0 (Sep (fps []) w [] w)) (H : Aside0 (pack_Get.f a1918 a1919 a1920 = some r)) :
    Calls Try.prog 112 #[.int .u32 a1918, .int .i64 a1919, .int .i64 a1920] w fun e w' => e = .returned (.int .u32 r) ∧ Sep (fps []) w [] w' := by
  unfold pack_Get.f at H
  go_enter Try.func112, Try.ntmps112
  go_wp2_with fail
  obtain ⟨t1926, HA1927, H⟩ := bind_some H
  refine (pack_isPiece.calls a1919 a1920 t1926 _ ⟨Sep.start _⟩ HA1927).mono ?_
  rintro e_ w1928 ⟨rfl, hS⟩
  replace HS : Aside0 (Sep (fps []) w [] w1928) := ⟨HS.out.call hS⟩
  clear hS
  by_cases c1929 : t1926 = true
  · replace H := if_yes c1929 H
    have c1929b0 : t1926 = true := c1929
    have c1929b1 : (!t1926) = false := by rw [c1929b0]; rfl
    try rw [c1929b1]
    clear c1929
    go_wp2_with fail
    obtain ⟨t1934, HA1935, H⟩ := bind_some H
    refine (pack_mask.calls a1919 a1920 t1934 _ ⟨Sep.start _⟩ HA1935).mono ?_
    rintro e_ w1936 ⟨rfl, hS⟩
    replace HS : Aside0 (Sep (fps []) w [] w1936) := ⟨HS.out.call hS⟩
    clear hS
    by_cases c1937 : 0 ≤ (IntKind.u64.wrap (a1919))
    · replace H := if_yes c1937 H
      have c1937b0 : decide (0 ≤ (IntKind.u64.wrap (a1919))) = true := decide_eq_true c1937
      skip
      go_wp2_with fail
      clear c1937
      go_ret
      rw [← some_eq H]
      exact ⟨(by first | rfl | (simp [IntKind.wrap_u32]; done)), HS.out⟩
    · replace H := if_no c1937 H
      have c1937b0 : decide (0 ≤ (IntKind.u64.wrap (a1919))) = false := decide_eq_false c1937
      exact (none_no H).elim
  · replace H := if_no c1929 H
    have c1929b0 : t1926 = false := by simpa using c1929
    have c1929b1 : (!t1926) = true := by rw [c1929b0]; rfl
    try rw [c1929b1]
    clear c1929
    go_wp2_with fail
    go_ret
    rw [← some_eq H]
    exact ⟨(by first | rfl | (simp [IntKind.wrap_u32]; done)), HS.out⟩

set_option maxHeartbeats 30000000 in
set_option maxRecDepth 100000 in
theorem tag_Unpack_1.calls (a1912 : Int) (a1913 : Int) (a1916 : Int) (g1915 : Nat) (r : Int) (w : World)   (HS : Aside0 (Sep (fps [b11 g1915 a1916]) w [b11 g1915 a1916] w)) (H : Aside0 (tag_Unpack_1.f a1912 a1913 a1916 = some r)) :
    Calls Try.prog 111 #[.int .i64 a1912, .int .i64 a1913, .pointer (some ⟨g1915, 0, none⟩)] w fun e w' => e = .returned (.int .i64 r) ∧ Sep (fps [b11 g1915 a1916]) w [b11 g1915 a1916] w' := by
  generalize (fps [b11 g1915 a1916]) = FF at HS ⊢
  unfold tag_Unpack_1.f at H
  go_enter Try.func111, Try.ntmps111
  have hc1917 : w.cell? ⟨g1915, 0, none⟩ = some (.int .u32 a1916) := blk_cellv (HS.out.at0) 0 rfl
  go_wp2_with fail
  clear hc1917
  obtain ⟨t1938, HA1939, H⟩ := bind_some H
  refine (pack_Get.calls a1916 a1912 a1913 t1938 _ ⟨Sep.start _⟩ HA1939).mono ?_
  rintro e_ w1940 ⟨rfl, hS⟩
  replace HS : Aside0 (Sep FF w [b11 g1915 a1916] w1940) := ⟨HS.out.call hS⟩
  clear hS
  go_wp2_with fail
  go_ret
  rw [← some_eq H]
  exact ⟨(by first | rfl | (simp [IntKind.wrap_u32]; done)), HS.out⟩

set_option maxHeartbeats 30000000 in
set_option maxRecDepth 100000 in
theorem tag_Unpack.calls (a1905 : Int) (r : Int × Int × Int × Int × Int × Int × Int) (w : World)   (HS : Aside0 (Sep (fps []) w [] w)) (H : Aside0 (tag_Unpack.f a1905 = some r)) :
    Calls Try.prog 100 #[.int .u32 a1905] w fun e w' => e = .returned (.agg #[.int .i64 r.1, .int .i64 r.2.1, .int .i64 r.2.2.1, .int .i64 r.2.2.2.1, .int .i64 r.2.2.2.2.1, .int .i64 r.2.2.2.2.2.1, .int .i64 r.2.2.2.2.2.2]) ∧ Sep (fps []) w [] w' := by
  unfold tag_Unpack.f at H
  go_enter Try.func100, Try.ntmps100
  go_wp2_with (first | ((with_reducible refine gate_dst (N := 1) rfl ?_); refine box_on ?hg (N := 1) ?hd (cs := #[.int .u32 a1905]) (t := 23) ?hr ?_; (case hd => rfl); (case hg => rfl); (case hr => first | (go_simp; done) | (go_simp; rfl)); intro g1906 hg w1907 hbox hb; replace HS : Aside0 (Sep (fps []) w [b11 g1906 a1905] w1907) := ⟨HS.out.box hg hbox hb⟩; clear hg hbox hb) | ((with_reducible refine gate_dst (N := 2) rfl ?_); refine box_on ?hg (N := 2) ?hd (cs := #[.int .i64 0, .int .i64 0, .int .i64 0, .int .i64 0, .int .i64 0, .int .i64 0, .int .i64 0]) (t := 102) ?hr ?_; (case hd => rfl); (case hg => rfl); (case hr => first | (go_simp; done) | (go_simp; rfl)); intro g1909 hg w1910 hbox hb; replace HS : Aside0 (Sep (fps []) w [b11 g1906 a1905, b12 g1909 0 0 0 0 0 0 0] w1910) := ⟨HS.out.box hg hbox hb⟩; clear hg hbox hb))
  obtain ⟨t1941, HA1942, H⟩ := bind_some H
  refine (tag_Unpack_1.calls 0 2 a1905 g1906 t1941 _ ⟨HS.out.begin⟩ HA1942).mono ?_
  rintro e_ w1943 ⟨rfl, hS⟩
  replace HS : Aside0 (Sep (fps []) w [b11 g1906 a1905, b12 g1909 0 0 0 0 0 0 0] w1943) := ⟨HS.out.call hS⟩
  clear hS
  go_wp2_with fail
  obtain ⟨t1944, HA1945, H⟩ := bind_some H
  refine (tag_Unpack_1.calls 2 1 a1905 g1906 t1944 _ ⟨HS.out.begin⟩ HA1945).mono ?_
  rintro e_ w1946 ⟨rfl, hS⟩
  replace HS : Aside0 (Sep (fps []) w [b11 g1906 a1905, b12 g1909 0 0 0 0 0 0 0] w1946) := ⟨HS.out.call hS⟩
  clear hS
  go_wp2_with fail
  obtain ⟨t1947, HA1948, H⟩ := bind_some H
  refine (tag_Unpack_1.calls 3 1 a1905 g1906 t1947 _ ⟨HS.out.begin⟩ HA1948).mono ?_
  rintro e_ w1949 ⟨rfl, hS⟩
  replace HS : Aside0 (Sep (fps []) w [b11 g1906 a1905, b12 g1909 0 0 0 0 0 0 0] w1949) := ⟨HS.out.call hS⟩
  clear hS
  go_wp2_with fail
  obtain ⟨t1950, HA1951, H⟩ := bind_some H
  refine (tag_Unpack_1.calls 4 1 a1905 g1906 t1950 _ ⟨HS.out.begin⟩ HA1951).mono ?_
  rintro e_ w1952 ⟨rfl, hS⟩
  replace HS : Aside0 (Sep (fps []) w [b11 g1906 a1905, b12 g1909 0 0 0 0 0 0 0] w1952) := ⟨HS.out.call hS⟩
  clear hS
  go_wp2_with fail
  obtain ⟨t1953, HA1954, H⟩ := bind_some H
  refine (tag_Unpack_1.calls 5 1 a1905 g1906 t1953 _ ⟨HS.out.begin⟩ HA1954).mono ?_
  rintro e_ w1955 ⟨rfl, hS⟩
  replace HS : Aside0 (Sep (fps []) w [b11 g1906 a1905, b12 g1909 0 0 0 0 0 0 0] w1955) := ⟨HS.out.call hS⟩
  clear hS
  go_wp2_with fail
  obtain ⟨t1956, HA1957, H⟩ := bind_some H
  refine (tag_Unpack_1.calls 6 1 a1905 g1906 t1956 _ ⟨HS.out.begin⟩ HA1957).mono ?_
  rintro e_ w1958 ⟨rfl, hS⟩
  replace HS : Aside0 (Sep (fps []) w [b11 g1906 a1905, b12 g1909 0 0 0 0 0 0 0] w1958) := ⟨HS.out.call hS⟩
  clear hS
  go_wp2_with fail
  obtain ⟨t1959, HA1960, H⟩ := bind_some H
  refine (tag_Unpack_1.calls 8 24 a1905 g1906 t1959 _ ⟨HS.out.begin⟩ HA1960).mono ?_
  rintro e_ w1961 ⟨rfl, hS⟩
  replace HS : Aside0 (Sep (fps []) w [b11 g1906 a1905, b12 g1909 0 0 0 0 0 0 0] w1961) := ⟨HS.out.call hS⟩
  clear hS
  have hc1962 : w1961.cell? ⟨g1909, 0, none⟩ = some (.int .i64 0) := blk_cellv (HS.out.at1) 0 rfl
  have hz1963 : w1961.frozen? ⟨g1909, 0, none⟩ = false := blk_fz (HS.out.at1) 0
  have hc1964 : w1961.cell? ⟨g1909, 1, none⟩ = some (.int .i64 0) := blk_cellv (HS.out.at1) 1 rfl
  have hz1965 : w1961.frozen? ⟨g1909, 1, none⟩ = false := blk_fz (HS.out.at1) 1
  have hc1966 : w1961.cell? ⟨g1909, 2, none⟩ = some (.int .i64 0) := blk_cellv (HS.out.at1) 2 rfl
  have hz1967 : w1961.frozen? ⟨g1909, 2, none⟩ = false := blk_fz (HS.out.at1) 2
  have hc1968 : w1961.cell? ⟨g1909, 3, none⟩ = some (.int .i64 0) := blk_cellv (HS.out.at1) 3 rfl
  have hz1969 : w1961.frozen? ⟨g1909, 3, none⟩ = false := blk_fz (HS.out.at1) 3
  have hc1970 : w1961.cell? ⟨g1909, 4, none⟩ = some (.int .i64 0) := blk_cellv (HS.out.at1) 4 rfl
  have hz1971 : w1961.frozen? ⟨g1909, 4, none⟩ = false := blk_fz (HS.out.at1) 4
  have hc1972 : w1961.cell? ⟨g1909, 5, none⟩ = some (.int .i64 0) := blk_cellv (HS.out.at1) 5 rfl
  have hz1973 : w1961.frozen? ⟨g1909, 5, none⟩ = false := blk_fz (HS.out.at1) 5
  have hc1974 : w1961.cell? ⟨g1909, 6, none⟩ = some (.int .i64 0) := blk_cellv (HS.out.at1) 6 rfl
  have hz1975 : w1961.frozen? ⟨g1909, 6, none⟩ = false := blk_fz (HS.out.at1) 6
  go_wp2_with (first | ((with_reducible refine gate_store (t := 102) (p := 2) rfl ?_); refine store_event (w1 := (World.setCell (World.setCell (World.setCell (World.setCell (World.setCell (World.setCell (World.setCell w1961 ⟨g1909, 0, none⟩ (.int .i64 t1941)) ⟨g1909, 1, none⟩ (.int .i64 t1944)) ⟨g1909, 2, none⟩ (.int .i64 t1947)) ⟨g1909, 3, none⟩ (.int .i64 t1950)) ⟨g1909, 4, none⟩ (.int .i64 t1953)) ⟨g1909, 5, none⟩ (.int .i64 t1956)) ⟨g1909, 6, none⟩ (.int .i64 t1959))) rfl (t := 102) (p := 2) rfl rfl ?hr ?_; (case hr => first | (go_simp; done) | (go_simp; rfl)); intro w1976 hst; clear hc1962 hz1963 hc1964 hz1965 hc1966 hz1967 hc1968 hz1969 hc1970 hz1971 hc1972 hz1973 hc1974 hz1975; replace HS : Aside0 (Sep (fps []) w [b11 g1906 a1905, b12 g1909 t1941 t1944 t1947 t1950 t1953 t1956 t1959] w1976) := ⟨by rw [hst]; exact HS.out.setAll (l1 := [b11 g1906 a1905]) (l2 := []) [.int .i64 t1941, .int .i64 t1944, .int .i64 t1947, .int .i64 t1950, .int .i64 t1953, .int .i64 t1956, .int .i64 t1959] rfl⟩; clear hst; replace HS : Aside0 (Sep (fps []) w [b12 g1909 t1941 t1944 t1947 t1950 t1953 t1956 t1959] w1976) := ⟨HS.out.sub (.cons _ (.cons_cons _ .slnil))⟩))
  have hc1977 : w1976.cell? ⟨g1909, 0, none⟩ = some (.int .i64 t1941) := blk_cellv (HS.out.at0) 0 rfl
  have hc1978 : w1976.cell? ⟨g1909, 1, none⟩ = some (.int .i64 t1944) := blk_cellv (HS.out.at0) 1 rfl
  have hc1979 : w1976.cell? ⟨g1909, 2, none⟩ = some (.int .i64 t1947) := blk_cellv (HS.out.at0) 2 rfl
  have hc1980 : w1976.cell? ⟨g1909, 3, none⟩ = some (.int .i64 t1950) := blk_cellv (HS.out.at0) 3 rfl
  have hc1981 : w1976.cell? ⟨g1909, 4, none⟩ = some (.int .i64 t1953) := blk_cellv (HS.out.at0) 4 rfl
  have hc1982 : w1976.cell? ⟨g1909, 5, none⟩ = some (.int .i64 t1956) := blk_cellv (HS.out.at0) 5 rfl
  have hc1983 : w1976.cell? ⟨g1909, 6, none⟩ = some (.int .i64 t1959) := blk_cellv (HS.out.at0) 6 rfl
  refine bodyPost_ret (v := .agg #[.int .i64 t1941, .int .i64 t1944, .int .i64 t1947, .int .i64 t1950, .int .i64 t1953, .int .i64 t1956, .int .i64 t1959]) (by simp [results, Try.results100, go_sem, hc1977, hc1978, hc1979, hc1980, hc1981, hc1982, hc1983]) rfl ?_
  rw [← some_eq H]
  exact ⟨(by first | rfl | (simp [IntKind.wrap_u32]; done)), HS.out.sub (.cons _ .slnil)⟩

set_option maxHeartbeats 30000000 in
set_option maxRecDepth 100000 in
theorem chain_Push_1.calls (a2074 : Int) (a2075 : Int) (a2076 : Int) (a2077 : Int) (a2078 : Int) (l2086 : List Int) (a2091 : Int) (a2092 : Int) (a2093 : Int) (a2094 : Int) (a2095 : Int) (a2098 : Int) (g2080 : Nat) (g2082 : Nat) (g2084 : Nat) (A2087 : Option Addr) (m2088 : Nat) (n2089 : Nat) (g2097 : Nat) (r : Int × List Int) (w : World)   (HS : Aside0 (Sep (fps [b9 g2080 g2082, b7 g2082 g2084 a2092 a2093 a2094 a2095, b6 g2084 A2087 m2088 n2089 a2091, r5 A2087 m2088 n2089 l2086, b10 g2097 a2098]) w [b9 g2080 g2082, b7 g2082 g2084 a2092 a2093 a2094 a2095, b6 g2084 A2087 m2088 n2089 a2091, r5 A2087 m2088 n2089 l2086, b10 g2097 a2098] w)) (H : Aside0 (chain_Push_1.f a2074 a2075 a2076 a2077 a2078 l2086 a2091 a2092 a2093 a2094 a2095 a2098 = some r)) :
    Calls Try.prog 90 #[.agg #[.int .i64 a2074, .int .i64 a2075, .int .i64 a2076], .int .i64 a2077, .int .i64 a2078, .pointer (some ⟨g2080, 0, none⟩), .pointer (some ⟨g2097, 0, none⟩)] w fun e w' => e = .returned (.tuple #[]) ∧ Sep (fps [b9 g2080 g2082, b7 g2082 g2084 a2092 a2093 a2094 a2095, b6 g2084 A2087 m2088 n2089 a2091, r5 A2087 m2088 n2089 l2086, b10 g2097 a2098]) w [b9 g2080 g2082, b7 g2082 g2084 a2092 a2093 a2094 a2095, b6 g2084 A2087 m2088 n2089 r.1, r5 A2087 m2088 n2089 r.2, b10 g2097 a2098] w' := by
  generalize (fps [b9 g2080 g2082, b7 g2082 g2084 a2092 a2093 a2094 a2095, b6 g2084 A2087 m2088 n2089 a2091, r5 A2087 m2088 n2089 l2086, b10 g2097 a2098]) = FF at HS ⊢
  obtain rfl := (row_len (HS.out.at3)).symm
  unfold chain_Push_1.f at H
  go_enter Try.func90, Try.ntmps90
  go_wp2_with (first | ((with_reducible refine gate_dst (N := 5) rfl ?_); refine box_on ?hg (N := 5) ?hd (cs := #[.int .i64 a2074, .int .i64 a2075, .int .i64 a2076]) (t := 134) ?hr ?_; (case hd => rfl); (case hg => rfl); (case hr => first | (go_simp; done) | (go_simp; rfl)); intro g2121 hg w2122 hbox hb; replace HS : Aside0 (Sep FF w [b9 g2080 g2082, b7 g2082 g2084 a2092 a2093 a2094 a2095, b6 g2084 A2087 l2086.length n2089 a2091, r5 A2087 l2086.length n2089 l2086, b10 g2097 a2098, b8 g2121 a2074 a2075 a2076] w2122) := ⟨HS.out.box hg hbox hb⟩; clear hg hbox hb))
  refine start_ (n := 8) (S := (fun w' => w'.cell? ⟨g2080, 0, none⟩ = some (.pointer (some ⟨g2082, 0, none⟩)) ∧ w'.cell? ⟨g2097, 0, none⟩ = some (.int .i64 a2098) ∧ w'.cell? ⟨g2121, 0, none⟩ = some (.int .i64 a2074))) (ds := []) #[false, false, false, false, false, false, false, false] (by kernel_rfl) rfl rfl (⟨blk_cellv ((HS.out.drew).at0) 0 rfl, blk_cellv ((HS.out.drew).at4) 0 rfl, blk_cellv ((HS.out.drew).at5) 0 rfl⟩) (fun hHeld => ?_)
  have HS_ := Aside0.mk HS.out.drew
  clear HS
  generalize World.drew _ = w2125 at HS_ hHeld ⊢
  have HS := HS_
  clear HS_
  refine pure_ (i := 3) (N := some 11) (v := ?_) (a' := ?_) #[false, false, false, true, false, false, false, false] rfl rfl (by kernel_rfl) (fun _ _ _ h => h) (Or.inl ⟨by rfl, ?_⟩) ?_ ?_
  rotate_left
  · intro w'
    go_simp
    with_reducible rfl
  rotate_left
  · simp only [Act.put, List.setIfInBounds_toArray, List.set_cons_zero, List.set_cons_succ, i64_w, i32_w]
    rfl
  refine take_ (i := 0) (N := some 8) (v := ?_) (a' := ?_) #[true, false, false, true, false, false, false, false] rfl rfl (by kernel_rfl) (fun _ _ _ h => h) (Or.inl ⟨by rfl, ?_⟩) hHeld ?_ ?_
  rotate_left
  · rintro w' hS'
    obtain ⟨s0, s1, s2⟩ := hS'
    go_simp
    with_reducible rfl
  rotate_left
  · simp only [Act.put, List.setIfInBounds_toArray, List.set_cons_zero, List.set_cons_succ, i64_w, i32_w]
    rfl
  refine take_ (i := 1) (N := some 9) (v := ?_) (a' := ?_) #[true, true, false, true, false, false, false, false] rfl rfl (by kernel_rfl) (fun _ _ _ h => h) (Or.inl ⟨by rfl, ?_⟩) hHeld ?_ ?_
  rotate_left
  · rintro w' hS'
    obtain ⟨s0, s1, s2⟩ := hS'
    go_simp
    with_reducible rfl
  rotate_left
  · simp only [Act.put, List.setIfInBounds_toArray, List.set_cons_zero, List.set_cons_succ, i64_w, i32_w]
    rfl
  refine take_ (i := 2) (N := some 10) (v := ?_) (a' := ?_) #[true, true, true, true, false, false, false, false] rfl rfl (by kernel_rfl) (fun _ _ _ h => h) (Or.inl ⟨by rfl, ?_⟩) hHeld ?_ ?_
  rotate_left
  · rintro w' hS'
    obtain ⟨s0, s1, s2⟩ := hS'
    go_simp
    with_reducible rfl
  rotate_left
  · simp only [Act.put, List.setIfInBounds_toArray, List.set_cons_zero, List.set_cons_succ, i64_w, i32_w]
    rfl
  refine take_ (i := 4) (N := some 12) (v := ?_) (a' := ?_) #[true, true, true, true, true, false, false, false] rfl rfl (by kernel_rfl) (fun _ _ _ h => h) (Or.inl ⟨by rfl, ?_⟩) hHeld ?_ ?_
  rotate_left
  · rintro w' hS'
    obtain ⟨s0, s1, s2⟩ := hS'
    go_simp
    with_reducible rfl
  rotate_left
  · simp only [Act.put, List.setIfInBounds_toArray, List.set_cons_zero, List.set_cons_succ, i64_w, i32_w]
    rfl
  refine one_ (i := 5) (N := some 13) #[true, true, true, true, true, true, false, false] rfl rfl (by kernel_rfl) (by decide) (fun K hK => ?_)
  replace HS : Aside0 (Sep FF w [r5 A2087 l2086.length n2089 l2086, b9 g2080 g2082, b7 g2082 g2084 a2092 a2093 a2094 a2095, b6 g2084 A2087 l2086.length n2089 a2091, b10 g2097 a2098, b8 g2121 a2074 a2075 a2076] w2125) := ⟨HS.out.front 3 (by simp)⟩
  replace HS : Aside0 (Sep FF w [b6 g2084 A2087 l2086.length n2089 a2091, r5 A2087 l2086.length n2089 l2086, b9 g2080 g2082, b7 g2082 g2084 a2092 a2093 a2094 a2095, b10 g2097 a2098, b8 g2121 a2074 a2075 a2076] w2125) := ⟨HS.out.front 3 (by simp)⟩
  replace HS : Aside0 (Sep FF w [b7 g2082 g2084 a2092 a2093 a2094 a2095, b6 g2084 A2087 l2086.length n2089 a2091, r5 A2087 l2086.length n2089 l2086, b9 g2080 g2082, b10 g2097 a2098, b8 g2121 a2074 a2075 a2076] w2125) := ⟨HS.out.front 3 (by simp)⟩
  obtain ⟨t2126, HA2127, H⟩ := bind_some H
  refine goes_ Try.func36 (by kernel_rfl) rfl #[.pointer (some ⟨g2082, 0, none⟩), .int .i64 a2074] (by rfl) rfl rfl (by (try simp only [List.map_toArray, List.map_cons, List.map_nil]); first | done | rfl) ?_
  refine (ground_Ground_Reg.calls l2086 a2091 a2092 a2093 a2094 a2095 a2074 g2082 g2084 A2087 l2086.length n2089 t2126 _ ⟨HS.out.begin⟩ HA2127).mono ?_
  rintro e_ w2128 ⟨rfl, hS⟩
  replace HS : Aside0 (Sep FF w [b7 g2082 g2084 a2092 a2093 a2094 a2095, b6 g2084 A2087 l2086.length n2089 t2126.2, r5 A2087 l2086.length n2089 l2086, b9 g2080 g2082, b10 g2097 a2098, b8 g2121 a2074 a2075 a2076] w2128) := ⟨HS.out.call hS⟩
  clear hS
  refine ⟨_, rfl, ?_⟩
  refine hK.out _ _ (⟨blk_cellv (HS.out.at3) 0 rfl, blk_cellv (HS.out.at4) 0 rfl, blk_cellv (HS.out.at5) 0 rfl⟩) (fun hHeld => ?_)
  clear hK K
  refine norm_ (a' := ?_) ?_ ?_
  rotate_left
  · show Act.put _ (some 13) _ = _
    simp only [Act.put, List.setIfInBounds_toArray, List.set_cons_zero, List.set_cons_succ, i64_w, i32_w]
    rfl
  refine pure_ (i := 6) (N := some 14) (v := ?_) (a' := ?_) #[true, true, true, true, true, true, true, false] rfl rfl (by kernel_rfl) (fun _ _ _ h => h) (Or.inl ⟨by rfl, ?_⟩) ?_ ?_
  rotate_left
  · intro w'
    go_simp
    with_reducible rfl
  rotate_left
  · simp only [Act.put, List.setIfInBounds_toArray, List.set_cons_zero, List.set_cons_succ, i64_w, i32_w]
    rfl
  refine one_ (i := 7) (N := some 15) #[true, true, true, true, true, true, true, true] rfl rfl (by kernel_rfl) (by decide) (fun K hK => ?_)
  obtain ⟨t2129, HA2130, H⟩ := bind_some H
  refine goes_ Try.func46 (by kernel_rfl) rfl #[.pointer (some ⟨g2082, 0, none⟩), .int .i64 a2098, .int .i64 5, .int .u32 ((t2126.1) % 4294967296)] (by rfl) rfl rfl (by (try simp only [List.map_toArray, List.map_cons, List.map_nil]); first | done | rfl) ?_
  refine (ground_Ground_SetWord.calls l2086 t2126.2 a2092 a2093 a2094 a2095 a2098 5 ((t2126.1) % 4294967296) g2082 g2084 A2087 l2086.length n2089 t2129 _ ⟨HS.out.begin⟩ HA2130).mono ?_
  rintro e_ w2131 ⟨rfl, hS⟩
  replace HS : Aside0 (Sep FF w [b7 g2082 g2084 a2092 a2093 a2094 a2095, b6 g2084 A2087 l2086.length n2089 t2129.2.1, r5 A2087 l2086.length n2089 t2129.2.2, b9 g2080 g2082, b10 g2097 a2098, b8 g2121 a2074 a2075 a2076] w2131) := ⟨HS.out.call hS⟩
  clear hS
  refine ⟨_, rfl, ?_⟩
  refine hK.out _ _ (⟨blk_cellv (HS.out.at3) 0 rfl, blk_cellv (HS.out.at4) 0 rfl, blk_cellv (HS.out.at5) 0 rfl⟩) (fun hHeld => ?_)
  clear hK K
  refine norm_ (a' := ?_) ?_ ?_
  rotate_left
  · show Act.put _ (some 15) _ = _
    simp only [Act.put, List.setIfInBounds_toArray, List.set_cons_zero, List.set_cons_succ, i64_w, i32_w]
    rfl
  refine done_ (by kernel_rfl) ?_
  have hc2132 : w2131.cell? ⟨g2080, 0, none⟩ = some (.pointer (some ⟨g2082, 0, none⟩)) := blk_cellv (HS.out.at3) 0 rfl
  have hc2133 : w2131.cell? ⟨g2121, 0, none⟩ = some (.int .i64 a2074) := blk_cellv (HS.out.at5) 0 rfl
  go_wp2_with fail
  clear hc2132 hc2133
  obtain ⟨t2134, HA2135, H⟩ := bind_some H
  refine (ground_Ground_SetReg.calls t2129.2.2 t2129.2.1 a2092 a2093 a2094 a2095 a2074 a2077 g2082 g2084 A2087 l2086.length n2089 t2134 _ ⟨HS.out.begin⟩ HA2135).mono ?_
  rintro e_ w2136 ⟨rfl, hS⟩
  replace HS : Aside0 (Sep FF w [b7 g2082 g2084 a2092 a2093 a2094 a2095, b6 g2084 A2087 l2086.length n2089 t2134.2.1, r5 A2087 l2086.length n2089 t2134.2.2, b9 g2080 g2082, b10 g2097 a2098, b8 g2121 a2074 a2075 a2076] w2136) := ⟨HS.out.call hS⟩
  clear hS
  by_cases c2137 : a2078 = 0
  · replace H := if_yes c2137 H
    have c2137b0 : (a2078 == 0) = true := beq_iff_eq.mpr c2137
    have c2137b1 : (a2078 != 0) = false := bne_eq_false_iff_eq.mpr c2137
    clear c2137
    have hc2138 : w2136.cell? ⟨g2080, 0, none⟩ = some (.pointer (some ⟨g2082, 0, none⟩)) := blk_cellv (HS.out.at3) 0 rfl
    have hc2139 : w2136.cell? ⟨g2121, 1, none⟩ = some (.int .i64 a2075) := blk_cellv (HS.out.at5) 1 rfl
    go_wp2_with fail
    clear hc2138 hc2139
    obtain ⟨t2140, HA2141, H⟩ := bind_some H
    refine (ground_Ground_SetReg.calls t2134.2.2 t2134.2.1 a2092 a2093 a2094 a2095 a2075 a2077 g2082 g2084 A2087 l2086.length n2089 t2140 _ ⟨HS.out.begin⟩ HA2141).mono ?_
    rintro e_ w2142 ⟨rfl, hS⟩
    replace HS : Aside0 (Sep FF w [b7 g2082 g2084 a2092 a2093 a2094 a2095, b6 g2084 A2087 l2086.length n2089 t2140.2.1, r5 A2087 l2086.length n2089 t2140.2.2, b9 g2080 g2082, b10 g2097 a2098, b8 g2121 a2074 a2075 a2076] w2142) := ⟨HS.out.call hS⟩
    clear hS
    replace HS : Aside0 (Sep FF w [b7 g2082 g2084 a2092 a2093 a2094 a2095, b6 g2084 A2087 l2086.length n2089 t2140.2.1, r5 A2087 l2086.length n2089 t2140.2.2, b9 g2080 g2082, b10 g2097 a2098] w2142) := ⟨HS.out.sub (.cons_cons _ (.cons_cons _ (.cons_cons _ (.cons_cons _ (.cons_cons _ (.cons _ .slnil))))))⟩
    go_wp2_with fail
    first | go_end0 | refine bodyPost_ret (results_none rfl _ _ _) rfl ?_
    rw [← some_eq H]
    exact ⟨rfl, ((((((HS.out).front 4 (by simp)).front 3 (by simp)).front 3 (by simp)).front 3 (by simp)).front 4 (by simp)).keep (l := [b9 g2080 g2082, b7 g2082 g2084 a2092 a2093 a2094 a2095, b6 g2084 A2087 l2086.length n2089 t2140.2.1, r5 A2087 l2086.length n2089 t2140.2.2, b10 g2097 a2098]) (rest := [])⟩
  · replace H := if_no c2137 H
    have c2137b0 : (a2078 == 0) = false := beq_eq_false_iff_ne.mpr c2137
    have c2137b1 : (a2078 != 0) = true := bne_iff_ne.mpr c2137
    clear c2137
    go_wp2_with fail
    first | go_end0 | refine bodyPost_ret (results_none rfl _ _ _) rfl ?_
    rw [← some_eq H]
    exact ⟨rfl, ((((((HS.out).front 4 (by simp)).front 3 (by simp)).front 3 (by simp)).front 3 (by simp)).front 4 (by simp)).keep (l := [b9 g2080 g2082, b7 g2082 g2084 a2092 a2093 a2094 a2095, b6 g2084 A2087 l2086.length n2089 t2134.2.1, r5 A2087 l2086.length n2089 t2134.2.2, b10 g2097 a2098]) (rest := [b8 g2121 a2074 a2075 a2076])⟩

set_option maxHeartbeats 30000000 in
set_option maxRecDepth 100000 in
theorem chain_put_F90.calls (l2030 : List Int) (a2035 : Int) (a2036 : Int) (a2037 : Int) (a2038 : Int) (a2039 : Int) (a2040 : Int) (a2041 : Int) (a2046 : Int) (g2026 : Nat) (g2028 : Nat) (A2031 : Option Addr) (m2032 : Nat) (n2033 : Nat) (g2043 : Nat) (g2045 : Nat) (r : Bool × Int × List Int) (w : World)   (HS : Aside0 (Sep (fps [b7 g2026 g2028 a2036 a2037 a2038 a2039, b6 g2028 A2031 m2032 n2033 a2035, r5 A2031 m2032 n2033 l2030, b9 g2043 g2026, b10 g2045 a2046]) w [b7 g2026 g2028 a2036 a2037 a2038 a2039, b6 g2028 A2031 m2032 n2033 a2035, r5 A2031 m2032 n2033 l2030, b9 g2043 g2026, b10 g2045 a2046] w)) (H : Aside0 (chain_put_F90.f l2030 a2035 a2036 a2037 a2038 a2039 a2040 a2041 a2046 = some r)) :
    Calls Try.prog 88 #[.pointer (some ⟨g2026, 0, none⟩), .int .i64 a2040, .int .i64 a2041, .func (.func 90) #[] #[.pointer (some ⟨g2043, 0, none⟩), .pointer (some ⟨g2045, 0, none⟩)]] w fun e w' => e = .returned (.bool r.1) ∧ Sep (fps [b7 g2026 g2028 a2036 a2037 a2038 a2039, b6 g2028 A2031 m2032 n2033 a2035, r5 A2031 m2032 n2033 l2030, b9 g2043 g2026, b10 g2045 a2046]) w [b7 g2026 g2028 a2036 a2037 a2038 a2039, b6 g2028 A2031 m2032 n2033 r.2.1, r5 A2031 m2032 n2033 r.2.2, b9 g2043 g2026, b10 g2045 a2046] w' := by
  generalize (fps [b7 g2026 g2028 a2036 a2037 a2038 a2039, b6 g2028 A2031 m2032 n2033 a2035, r5 A2031 m2032 n2033 l2030, b9 g2043 g2026, b10 g2045 a2046]) = FF at HS ⊢
  obtain rfl := (row_len (HS.out.at2)).symm
  unfold chain_put_F90.f at H
  go_enter Try.func88, Try.ntmps88
  go_wp2_with fail
  obtain ⟨t2150, HA2151, H⟩ := bind_some H
  refine (chain_of.calls l2030 a2035 a2036 a2037 a2038 a2039 a2040 g2026 g2028 A2031 l2030.length n2033 t2150 _ ⟨HS.out.begin⟩ HA2151).mono ?_
  rintro e_ w2152 ⟨rfl, hS⟩
  replace HS : Aside0 (Sep FF w [b7 g2026 g2028 a2036 a2037 a2038 a2039, b6 g2028 A2031 l2030.length n2033 a2035, r5 A2031 l2030.length n2033 l2030, b9 g2043 g2026, b10 g2045 a2046] w2152) := ⟨HS.out.call hS⟩
  clear hS
  by_cases c2163 : t2150.2.2.2 = true
  · replace H := if_yes c2163 H
    have c2163b0 : t2150.2.2.2 = true := c2163
    have c2163b1 : (!t2150.2.2.2) = false := by rw [c2163b0]; rfl
    try rw [c2163b1]
    clear c2163
    by_cases c2164 : a2041 < 0
    · replace H := if_yes c2164 H
      have c2164b0 : decide (a2041 < 0) = true := decide_eq_true c2164
      clear c2164
      go_wp2_with (first | ((with_reducible refine gate_dst (N := 9) rfl ?_); refine box_on ?hg (N := 9) ?hd (cs := #[.int .i64 0, .int .i64 0, .int .i64 0]) (t := 134) ?hr ?_; (case hd => rfl); (case hg => rfl); (case hr => first | (go_simp; done) | (go_simp; rfl)); intro g2153 hg w2154 hbox hb; replace HS : Aside0 (Sep FF w [b7 g2026 g2028 a2036 a2037 a2038 a2039, b6 g2028 A2031 l2030.length n2033 a2035, r5 A2031 l2030.length n2033 l2030, b9 g2043 g2026, b10 g2045 a2046, b8 g2153 0 0 0] w2154) := ⟨HS.out.box hg hbox hb⟩; clear hg hbox hb; have hc2156 : w2154.cell? ⟨g2153, 0, none⟩ = some (.int .i64 0) := blk_cellv (HS.out.at5) 0 rfl; have hz2157 : w2154.frozen? ⟨g2153, 0, none⟩ = false := blk_fz (HS.out.at5) 0; have hc2158 : w2154.cell? ⟨g2153, 1, none⟩ = some (.int .i64 0) := blk_cellv (HS.out.at5) 1 rfl; have hz2159 : w2154.frozen? ⟨g2153, 1, none⟩ = false := blk_fz (HS.out.at5) 1; have hc2160 : w2154.cell? ⟨g2153, 2, none⟩ = some (.int .i64 0) := blk_cellv (HS.out.at5) 2 rfl; have hz2161 : w2154.frozen? ⟨g2153, 2, none⟩ = false := blk_fz (HS.out.at5) 2) | ((with_reducible refine gate_store (t := 134) (p := 9) rfl ?_); refine store_event (w1 := (World.setCell (World.setCell (World.setCell w2154 ⟨g2153, 0, none⟩ (.int .i64 t2150.1)) ⟨g2153, 1, none⟩ (.int .i64 t2150.2.1)) ⟨g2153, 2, none⟩ (.int .i64 t2150.2.2.1))) rfl (t := 134) (p := 9) rfl rfl ?hr ?_; (case hr => first | (go_simp; done) | (go_simp; rfl)); intro w2162 hst; clear hc2156 hz2157 hc2158 hz2159 hc2160 hz2161; replace HS : Aside0 (Sep FF w [b7 g2026 g2028 a2036 a2037 a2038 a2039, b6 g2028 A2031 l2030.length n2033 a2035, r5 A2031 l2030.length n2033 l2030, b9 g2043 g2026, b10 g2045 a2046, b8 g2153 t2150.1 t2150.2.1 t2150.2.2.1] w2162) := ⟨by rw [hst]; exact HS.out.setAll (l1 := [b7 g2026 g2028 a2036 a2037 a2038 a2039, b6 g2028 A2031 l2030.length n2033 a2035, r5 A2031 l2030.length n2033 l2030, b9 g2043 g2026, b10 g2045 a2046]) (l2 := []) [.int .i64 t2150.1, .int .i64 t2150.2.1, .int .i64 t2150.2.2.1] rfl⟩; clear hst; replace HS : Aside0 (Sep FF w [b7 g2026 g2028 a2036 a2037 a2038 a2039, b6 g2028 A2031 l2030.length n2033 a2035, r5 A2031 l2030.length n2033 l2030, b9 g2043 g2026, b10 g2045 a2046] w2162) := ⟨HS.out.sub (.cons_cons _ (.cons_cons _ (.cons_cons _ (.cons_cons _ (.cons_cons _ (.cons _ .slnil))))))⟩))
      go_ret
      rw [← some_eq H]
      exact ⟨(by first | rfl | (simp [IntKind.wrap_u32]; done)), HS.out⟩
    · replace H := if_no c2164 H
      have c2164b0 : decide (a2041 < 0) = false := decide_eq_false c2164
      clear c2164
      go_wp2_with (first | ((with_reducible refine gate_dst (N := 9) rfl ?_); refine box_on ?hg (N := 9) ?hd (cs := #[.int .i64 0, .int .i64 0, .int .i64 0]) (t := 134) ?hr ?_; (case hd => rfl); (case hg => rfl); (case hr => first | (go_simp; done) | (go_simp; rfl)); intro g2153 hg w2154 hbox hb; replace HS : Aside0 (Sep FF w [b7 g2026 g2028 a2036 a2037 a2038 a2039, b6 g2028 A2031 l2030.length n2033 a2035, r5 A2031 l2030.length n2033 l2030, b9 g2043 g2026, b10 g2045 a2046, b8 g2153 0 0 0] w2154) := ⟨HS.out.box hg hbox hb⟩; clear hg hbox hb; have hc2156 : w2154.cell? ⟨g2153, 0, none⟩ = some (.int .i64 0) := blk_cellv (HS.out.at5) 0 rfl; have hz2157 : w2154.frozen? ⟨g2153, 0, none⟩ = false := blk_fz (HS.out.at5) 0; have hc2158 : w2154.cell? ⟨g2153, 1, none⟩ = some (.int .i64 0) := blk_cellv (HS.out.at5) 1 rfl; have hz2159 : w2154.frozen? ⟨g2153, 1, none⟩ = false := blk_fz (HS.out.at5) 1; have hc2160 : w2154.cell? ⟨g2153, 2, none⟩ = some (.int .i64 0) := blk_cellv (HS.out.at5) 2 rfl; have hz2161 : w2154.frozen? ⟨g2153, 2, none⟩ = false := blk_fz (HS.out.at5) 2) | ((with_reducible refine gate_store (t := 134) (p := 9) rfl ?_); refine store_event (w1 := (World.setCell (World.setCell (World.setCell w2154 ⟨g2153, 0, none⟩ (.int .i64 t2150.1)) ⟨g2153, 1, none⟩ (.int .i64 t2150.2.1)) ⟨g2153, 2, none⟩ (.int .i64 t2150.2.2.1))) rfl (t := 134) (p := 9) rfl rfl ?hr ?_; (case hr => first | (go_simp; done) | (go_simp; rfl)); intro w2162 hst; clear hc2156 hz2157 hc2158 hz2159 hc2160 hz2161; replace HS : Aside0 (Sep FF w [b7 g2026 g2028 a2036 a2037 a2038 a2039, b6 g2028 A2031 l2030.length n2033 a2035, r5 A2031 l2030.length n2033 l2030, b9 g2043 g2026, b10 g2045 a2046, b8 g2153 t2150.1 t2150.2.1 t2150.2.2.1] w2162) := ⟨by rw [hst]; exact HS.out.setAll (l1 := [b7 g2026 g2028 a2036 a2037 a2038 a2039, b6 g2028 A2031 l2030.length n2033 a2035, r5 A2031 l2030.length n2033 l2030, b9 g2043 g2026, b10 g2045 a2046]) (l2 := []) [.int .i64 t2150.1, .int .i64 t2150.2.1, .int .i64 t2150.2.2.1] rfl⟩; clear hst))
      obtain ⟨t2165, HA2166, H⟩ := bind_some H
      refine (ground_Ground_Conf.calls l2030 a2035 a2036 a2037 a2038 a2039 g2026 g2028 A2031 l2030.length n2033 t2165 _ ⟨HS.out.begin⟩ HA2166).mono ?_
      rintro e_ w2167 ⟨rfl, hS⟩
      replace HS : Aside0 (Sep FF w [b7 g2026 g2028 a2036 a2037 a2038 a2039, b6 g2028 A2031 l2030.length n2033 a2035, r5 A2031 l2030.length n2033 l2030, b9 g2043 g2026, b10 g2045 a2046, b8 g2153 t2150.1 t2150.2.1 t2150.2.2.1] w2167) := ⟨HS.out.call hS⟩
      clear hS
      by_cases c2169 : a2041 ≥ t2165.1
      · replace H := if_yes c2169 H
        have c2169b0 : decide (t2165.1 ≤ a2041) = true := decide_eq_true c2169
        clear c2169
        have fl2168 : ∀ w, (Instr.field 49 (.agg #[.int .i64 t2165.1, .int .i64 t2165.2.1, .int .i64 t2165.2.2.1, .int .i64 t2165.2.2.2]) 0).run Try.prog w = .ok (.int .i64 t2165.1) w := fun _ => by kernel_rfl
        replace HS : Aside0 (Sep FF w [b7 g2026 g2028 a2036 a2037 a2038 a2039, b6 g2028 A2031 l2030.length n2033 a2035, r5 A2031 l2030.length n2033 l2030, b9 g2043 g2026, b10 g2045 a2046] w2167) := ⟨HS.out.sub (.cons_cons _ (.cons_cons _ (.cons_cons _ (.cons_cons _ (.cons_cons _ (.cons _ .slnil))))))⟩
        go_wp2_with fail
        clear fl2168
        go_ret
        rw [← some_eq H]
        exact ⟨(by first | rfl | (simp [IntKind.wrap_u32]; done)), HS.out⟩
      · replace H := if_no c2169 H
        have c2169b0 : decide (t2165.1 ≤ a2041) = false := decide_eq_false c2169
        clear c2169
        have fl2168 : ∀ w, (Instr.field 49 (.agg #[.int .i64 t2165.1, .int .i64 t2165.2.1, .int .i64 t2165.2.2.1, .int .i64 t2165.2.2.2]) 0).run Try.prog w = .ok (.int .i64 t2165.1) w := fun _ => by kernel_rfl
        have hc2170 : w2167.cell? ⟨g2153, 2, none⟩ = some (.int .i64 t2150.2.2.1) := blk_cellv (HS.out.at5) 2 rfl
        go_wp2_with fail
        clear fl2168 hc2170
        obtain ⟨t2171, HA2172, H⟩ := bind_some H
        refine (ground_Ground_Reg.calls l2030 a2035 a2036 a2037 a2038 a2039 t2150.2.2.1 g2026 g2028 A2031 l2030.length n2033 t2171 _ ⟨HS.out.begin⟩ HA2172).mono ?_
        rintro e_ w2173 ⟨rfl, hS⟩
        replace HS : Aside0 (Sep FF w [b7 g2026 g2028 a2036 a2037 a2038 a2039, b6 g2028 A2031 l2030.length n2033 t2171.2, r5 A2031 l2030.length n2033 l2030, b9 g2043 g2026, b10 g2045 a2046, b8 g2153 t2150.1 t2150.2.1 t2150.2.2.1] w2173) := ⟨HS.out.call hS⟩
        clear hS
        have hc2174 : w2173.cell? ⟨g2153, 0, none⟩ = some (.int .i64 t2150.1) := blk_cellv (HS.out.at5) 0 rfl
        have hc2175 : w2173.cell? ⟨g2153, 1, none⟩ = some (.int .i64 t2150.2.1) := blk_cellv (HS.out.at5) 1 rfl
        have hc2176 : w2173.cell? ⟨g2153, 2, none⟩ = some (.int .i64 t2150.2.2.1) := blk_cellv (HS.out.at5) 2 rfl
        go_wp2_with fail
        clear hc2174 hc2175 hc2176
        replace HS : Aside0 (Sep FF w [b10 g2045 a2046, b7 g2026 g2028 a2036 a2037 a2038 a2039, b6 g2028 A2031 l2030.length n2033 t2171.2, r5 A2031 l2030.length n2033 l2030, b9 g2043 g2026, b8 g2153 t2150.1 t2150.2.1 t2150.2.2.1] w2173) := ⟨HS.out.front 4 (by simp)⟩
        replace HS : Aside0 (Sep FF w [r5 A2031 l2030.length n2033 l2030, b10 g2045 a2046, b7 g2026 g2028 a2036 a2037 a2038 a2039, b6 g2028 A2031 l2030.length n2033 t2171.2, b9 g2043 g2026, b8 g2153 t2150.1 t2150.2.1 t2150.2.2.1] w2173) := ⟨HS.out.front 3 (by simp)⟩
        replace HS : Aside0 (Sep FF w [b6 g2028 A2031 l2030.length n2033 t2171.2, r5 A2031 l2030.length n2033 l2030, b10 g2045 a2046, b7 g2026 g2028 a2036 a2037 a2038 a2039, b9 g2043 g2026, b8 g2153 t2150.1 t2150.2.1 t2150.2.2.1] w2173) := ⟨HS.out.front 3 (by simp)⟩
        replace HS : Aside0 (Sep FF w [b7 g2026 g2028 a2036 a2037 a2038 a2039, b6 g2028 A2031 l2030.length n2033 t2171.2, r5 A2031 l2030.length n2033 l2030, b10 g2045 a2046, b9 g2043 g2026, b8 g2153 t2150.1 t2150.2.1 t2150.2.2.1] w2173) := ⟨HS.out.front 3 (by simp)⟩
        replace HS : Aside0 (Sep FF w [b9 g2043 g2026, b7 g2026 g2028 a2036 a2037 a2038 a2039, b6 g2028 A2031 l2030.length n2033 t2171.2, r5 A2031 l2030.length n2033 l2030, b10 g2045 a2046, b8 g2153 t2150.1 t2150.2.1 t2150.2.2.1] w2173) := ⟨HS.out.front 4 (by simp)⟩
        obtain ⟨t2177, HA2178, H⟩ := bind_some H
        refine (chain_Push_1.calls t2150.1 t2150.2.1 t2150.2.2.1 (wrap64 (a2041 + 1)) t2171.1 l2030 t2171.2 a2036 a2037 a2038 a2039 a2046 g2043 g2026 g2028 A2031 l2030.length n2033 g2045 t2177 _ ⟨HS.out.begin⟩ HA2178).mono ?_
        rintro e_ w2179 ⟨rfl, hS⟩
        replace HS : Aside0 (Sep FF w [b9 g2043 g2026, b7 g2026 g2028 a2036 a2037 a2038 a2039, b6 g2028 A2031 l2030.length n2033 t2177.1, r5 A2031 l2030.length n2033 t2177.2, b10 g2045 a2046, b8 g2153 t2150.1 t2150.2.1 t2150.2.2.1] w2179) := ⟨HS.out.call hS⟩
        clear hS
        have hc2180 : w2179.cell? ⟨g2153, 2, none⟩ = some (.int .i64 t2150.2.2.1) := blk_cellv (HS.out.at5) 2 rfl
        go_wp2_with fail
        clear hc2180
        replace HS : Aside0 (Sep FF w [r5 A2031 l2030.length n2033 t2177.2, b9 g2043 g2026, b7 g2026 g2028 a2036 a2037 a2038 a2039, b6 g2028 A2031 l2030.length n2033 t2177.1, b10 g2045 a2046, b8 g2153 t2150.1 t2150.2.1 t2150.2.2.1] w2179) := ⟨HS.out.front 3 (by simp)⟩
        replace HS : Aside0 (Sep FF w [b6 g2028 A2031 l2030.length n2033 t2177.1, r5 A2031 l2030.length n2033 t2177.2, b9 g2043 g2026, b7 g2026 g2028 a2036 a2037 a2038 a2039, b10 g2045 a2046, b8 g2153 t2150.1 t2150.2.1 t2150.2.2.1] w2179) := ⟨HS.out.front 3 (by simp)⟩
        replace HS : Aside0 (Sep FF w [b7 g2026 g2028 a2036 a2037 a2038 a2039, b6 g2028 A2031 l2030.length n2033 t2177.1, r5 A2031 l2030.length n2033 t2177.2, b9 g2043 g2026, b10 g2045 a2046, b8 g2153 t2150.1 t2150.2.1 t2150.2.2.1] w2179) := ⟨HS.out.front 3 (by simp)⟩
        obtain ⟨t2181, HA2182, H⟩ := bind_some H
        refine (ground_Ground_SetReg.calls t2177.2 t2177.1 a2036 a2037 a2038 a2039 t2150.2.2.1 (wrap64 (t2171.1 + 1)) g2026 g2028 A2031 l2030.length n2033 t2181 _ ⟨HS.out.begin⟩ HA2182).mono ?_
        rintro e_ w2183 ⟨rfl, hS⟩
        replace HS : Aside0 (Sep FF w [b7 g2026 g2028 a2036 a2037 a2038 a2039, b6 g2028 A2031 l2030.length n2033 t2181.2.1, r5 A2031 l2030.length n2033 t2181.2.2, b9 g2043 g2026, b10 g2045 a2046, b8 g2153 t2150.1 t2150.2.1 t2150.2.2.1] w2183) := ⟨HS.out.call hS⟩
        clear hS
        replace HS : Aside0 (Sep FF w [b7 g2026 g2028 a2036 a2037 a2038 a2039, b6 g2028 A2031 l2030.length n2033 t2181.2.1, r5 A2031 l2030.length n2033 t2181.2.2, b9 g2043 g2026, b10 g2045 a2046] w2183) := ⟨HS.out.sub (.cons_cons _ (.cons_cons _ (.cons_cons _ (.cons_cons _ (.cons_cons _ (.cons _ .slnil))))))⟩
        go_wp2_with fail
        go_ret
        rw [← some_eq H]
        exact ⟨(by first | rfl | (simp [IntKind.wrap_u32]; done)), HS.out⟩
  · replace H := if_no c2163 H
    have c2163b0 : t2150.2.2.2 = false := by simpa using c2163
    have c2163b1 : (!t2150.2.2.2) = true := by rw [c2163b0]; rfl
    try rw [c2163b1]
    clear c2163
    go_wp2_with (first | ((with_reducible refine gate_dst (N := 9) rfl ?_); refine box_on ?hg (N := 9) ?hd (cs := #[.int .i64 0, .int .i64 0, .int .i64 0]) (t := 134) ?hr ?_; (case hd => rfl); (case hg => rfl); (case hr => first | (go_simp; done) | (go_simp; rfl)); intro g2153 hg w2154 hbox hb; replace HS : Aside0 (Sep FF w [b7 g2026 g2028 a2036 a2037 a2038 a2039, b6 g2028 A2031 l2030.length n2033 a2035, r5 A2031 l2030.length n2033 l2030, b9 g2043 g2026, b10 g2045 a2046, b8 g2153 0 0 0] w2154) := ⟨HS.out.box hg hbox hb⟩; clear hg hbox hb; have hc2156 : w2154.cell? ⟨g2153, 0, none⟩ = some (.int .i64 0) := blk_cellv (HS.out.at5) 0 rfl; have hz2157 : w2154.frozen? ⟨g2153, 0, none⟩ = false := blk_fz (HS.out.at5) 0; have hc2158 : w2154.cell? ⟨g2153, 1, none⟩ = some (.int .i64 0) := blk_cellv (HS.out.at5) 1 rfl; have hz2159 : w2154.frozen? ⟨g2153, 1, none⟩ = false := blk_fz (HS.out.at5) 1; have hc2160 : w2154.cell? ⟨g2153, 2, none⟩ = some (.int .i64 0) := blk_cellv (HS.out.at5) 2 rfl; have hz2161 : w2154.frozen? ⟨g2153, 2, none⟩ = false := blk_fz (HS.out.at5) 2) | ((with_reducible refine gate_store (t := 134) (p := 9) rfl ?_); refine store_event (w1 := (World.setCell (World.setCell (World.setCell w2154 ⟨g2153, 0, none⟩ (.int .i64 t2150.1)) ⟨g2153, 1, none⟩ (.int .i64 t2150.2.1)) ⟨g2153, 2, none⟩ (.int .i64 t2150.2.2.1))) rfl (t := 134) (p := 9) rfl rfl ?hr ?_; (case hr => first | (go_simp; done) | (go_simp; rfl)); intro w2162 hst; clear hc2156 hz2157 hc2158 hz2159 hc2160 hz2161; replace HS : Aside0 (Sep FF w [b7 g2026 g2028 a2036 a2037 a2038 a2039, b6 g2028 A2031 l2030.length n2033 a2035, r5 A2031 l2030.length n2033 l2030, b9 g2043 g2026, b10 g2045 a2046, b8 g2153 t2150.1 t2150.2.1 t2150.2.2.1] w2162) := ⟨by rw [hst]; exact HS.out.setAll (l1 := [b7 g2026 g2028 a2036 a2037 a2038 a2039, b6 g2028 A2031 l2030.length n2033 a2035, r5 A2031 l2030.length n2033 l2030, b9 g2043 g2026, b10 g2045 a2046]) (l2 := []) [.int .i64 t2150.1, .int .i64 t2150.2.1, .int .i64 t2150.2.2.1] rfl⟩; clear hst; replace HS : Aside0 (Sep FF w [b7 g2026 g2028 a2036 a2037 a2038 a2039, b6 g2028 A2031 l2030.length n2033 a2035, r5 A2031 l2030.length n2033 l2030, b9 g2043 g2026, b10 g2045 a2046] w2162) := ⟨HS.out.sub (.cons_cons _ (.cons_cons _ (.cons_cons _ (.cons_cons _ (.cons_cons _ (.cons _ .slnil))))))⟩))
    go_ret
    rw [← some_eq H]
    exact ⟨(by first | rfl | (simp [IntKind.wrap_u32]; done)), HS.out⟩

set_option maxHeartbeats 30000000 in
set_option maxRecDepth 100000 in
theorem chain_Push.calls (l2005 : List Int) (a2010 : Int) (a2011 : Int) (a2012 : Int) (a2013 : Int) (a2014 : Int) (a2015 : Int) (a2016 : Int) (g2001 : Nat) (g2003 : Nat) (A2006 : Option Addr) (m2007 : Nat) (n2008 : Nat) (r : Bool × Int × List Int) (w : World)   (HS : Aside0 (Sep (fps [b7 g2001 g2003 a2011 a2012 a2013 a2014, b6 g2003 A2006 m2007 n2008 a2010, r5 A2006 m2007 n2008 l2005]) w [b7 g2001 g2003 a2011 a2012 a2013 a2014, b6 g2003 A2006 m2007 n2008 a2010, r5 A2006 m2007 n2008 l2005] w)) (H : Aside0 (chain_Push.f l2005 a2010 a2011 a2012 a2013 a2014 a2015 a2016 = some r)) :
    Calls Try.prog 53 #[.pointer (some ⟨g2001, 0, none⟩), .int .i64 a2015, .int .i64 a2016] w fun e w' => e = .returned (.bool r.1) ∧ Sep (fps [b7 g2001 g2003 a2011 a2012 a2013 a2014, b6 g2003 A2006 m2007 n2008 a2010, r5 A2006 m2007 n2008 l2005]) w [b7 g2001 g2003 a2011 a2012 a2013 a2014, b6 g2003 A2006 m2007 n2008 r.2.1, r5 A2006 m2007 n2008 r.2.2] w' := by
  generalize (fps [b7 g2001 g2003 a2011 a2012 a2013 a2014, b6 g2003 A2006 m2007 n2008 a2010, r5 A2006 m2007 n2008 l2005]) = FF at HS ⊢
  obtain rfl := (row_len (HS.out.at2)).symm
  unfold chain_Push.f at H
  go_enter Try.func53, Try.ntmps53
  go_wp2_with (first | ((with_reducible refine gate_dst (N := 3) rfl ?_); refine box_on ?hg (N := 3) ?hd (cs := #[.pointer (some ⟨g2001, 0, none⟩)]) (t := 50) ?hr ?_; (case hd => rfl); (case hg => rfl); (case hr => first | (go_simp; done) | (go_simp; rfl)); intro g2187 hg w2188 hbox hb; replace HS : Aside0 (Sep FF w [b7 g2001 g2003 a2011 a2012 a2013 a2014, b6 g2003 A2006 l2005.length n2008 a2010, r5 A2006 l2005.length n2008 l2005, b9 g2187 g2001] w2188) := ⟨HS.out.box hg hbox hb⟩; clear hg hbox hb) | ((with_reducible refine gate_dst (N := 5) rfl ?_); refine box_on ?hg (N := 5) ?hd (cs := #[.int .i64 a2016]) (t := 3) ?hr ?_; (case hd => rfl); (case hg => rfl); (case hr => first | (go_simp; done) | (go_simp; rfl)); intro g2190 hg w2191 hbox hb; replace HS : Aside0 (Sep FF w [b7 g2001 g2003 a2011 a2012 a2013 a2014, b6 g2003 A2006 l2005.length n2008 a2010, r5 A2006 l2005.length n2008 l2005, b9 g2187 g2001, b10 g2190 a2016] w2191) := ⟨HS.out.box hg hbox hb⟩; clear hg hbox hb; have hc2193 : w2191.cell? ⟨g2187, 0, none⟩ = some (.pointer (some ⟨g2001, 0, none⟩)) := blk_cellv (HS.out.at3) 0 rfl; have hc2194 : w2191.cell? ⟨g2190, 0, none⟩ = some (.int .i64 a2016) := blk_cellv (HS.out.at4) 0 rfl))
  clear hc2193 hc2194
  obtain ⟨t2195, HA2196, H⟩ := bind_some H
  refine (chain_put_F90.calls l2005 a2010 a2011 a2012 a2013 a2014 a2015 a2016 a2016 g2001 g2003 A2006 l2005.length n2008 g2187 g2190 t2195 _ ⟨HS.out.begin⟩ HA2196).mono ?_
  rintro e_ w2197 ⟨rfl, hS⟩
  replace HS : Aside0 (Sep FF w [b7 g2001 g2003 a2011 a2012 a2013 a2014, b6 g2003 A2006 l2005.length n2008 t2195.2.1, r5 A2006 l2005.length n2008 t2195.2.2, b9 g2187 g2001, b10 g2190 a2016] w2197) := ⟨HS.out.call hS⟩
  clear hS
  replace HS : Aside0 (Sep FF w [b7 g2001 g2003 a2011 a2012 a2013 a2014, b6 g2003 A2006 l2005.length n2008 t2195.2.1, r5 A2006 l2005.length n2008 t2195.2.2] w2197) := ⟨HS.out.sub (.cons_cons _ (.cons_cons _ (.cons_cons _ (.cons _ (.cons _ .slnil)))))⟩
  go_wp2_with fail
  go_ret
  rw [← some_eq H]
  exact ⟨(by first | rfl | (simp [IntKind.wrap_u32]; done)), HS.out⟩

set_option maxHeartbeats 30000000 in
set_option maxRecDepth 100000 in
theorem pool_Give.calls (l1891 : List Int) (a1896 : Int) (a1897 : Int) (a1898 : Int) (a1899 : Int) (a1900 : Int) (a1901 : Int) (g1887 : Nat) (g1889 : Nat) (A1892 : Option Addr) (m1893 : Nat) (n1894 : Nat) (r : Bool × Int × List Int) (w : World)   (HS : Aside0 (Sep (fps [b7 g1887 g1889 a1897 a1898 a1899 a1900, b6 g1889 A1892 m1893 n1894 a1896, r5 A1892 m1893 n1894 l1891]) w [b7 g1887 g1889 a1897 a1898 a1899 a1900, b6 g1889 A1892 m1893 n1894 a1896, r5 A1892 m1893 n1894 l1891] w)) (H : Aside0 (pool_Give.f l1891 a1896 a1897 a1898 a1899 a1900 a1901 = some r)) :
    Calls Try.prog 62 #[.pointer (some ⟨g1887, 0, none⟩), .int .i64 a1901] w fun e w' => e = .returned (.bool r.1) ∧ Sep (fps [b7 g1887 g1889 a1897 a1898 a1899 a1900, b6 g1889 A1892 m1893 n1894 a1896, r5 A1892 m1893 n1894 l1891]) w [b7 g1887 g1889 a1897 a1898 a1899 a1900, b6 g1889 A1892 m1893 n1894 r.2.1, r5 A1892 m1893 n1894 r.2.2] w' := by
  generalize (fps [b7 g1887 g1889 a1897 a1898 a1899 a1900, b6 g1889 A1892 m1893 n1894 a1896, r5 A1892 m1893 n1894 l1891]) = FF at HS ⊢
  obtain rfl := (row_len (HS.out.at2)).symm
  unfold pool_Give.f at H
  go_enter Try.func62, Try.ntmps62
  go_wp2_with fail
  obtain ⟨t2201, HA2202, H⟩ := bind_some H
  refine (ground_Ground_Word.calls l1891 a1896 a1897 a1898 a1899 a1900 a1901 0 g1887 g1889 A1892 l1891.length n1894 t2201 _ ⟨HS.out.begin⟩ HA2202).mono ?_
  rintro e_ w2203 ⟨rfl, hS⟩
  replace HS : Aside0 (Sep FF w [b7 g1887 g1889 a1897 a1898 a1899 a1900, b6 g1889 A1892 l1891.length n1894 t2201.2, r5 A1892 l1891.length n1894 l1891] w2203) := ⟨HS.out.call hS⟩
  clear hS
  go_wp2_with fail
  obtain ⟨t2204, HA2205, H⟩ := bind_some H
  refine (tag_Unpack.calls t2201.1 t2204 _ ⟨Sep.start _⟩ HA2205).mono ?_
  rintro e_ w2206 ⟨rfl, hS⟩
  replace HS : Aside0 (Sep FF w [b7 g1887 g1889 a1897 a1898 a1899 a1900, b6 g1889 A1892 l1891.length n1894 t2201.2, r5 A1892 l1891.length n1894 l1891] w2206) := ⟨HS.out.call hS⟩
  clear hS
  by_cases c2208 : t2204.1 = 0
  · replace H := if_yes c2208 H
    have c2208b0 : (t2204.1 == 0) = true := beq_iff_eq.mpr c2208
    have c2208b1 : (t2204.1 != 0) = false := bne_eq_false_iff_eq.mpr c2208
    clear c2208
    have fl2207 : ∀ w, (Instr.field 102 (.agg #[.int .i64 t2204.1, .int .i64 t2204.2.1, .int .i64 t2204.2.2.1, .int .i64 t2204.2.2.2.1, .int .i64 t2204.2.2.2.2.1, .int .i64 t2204.2.2.2.2.2.1, .int .i64 t2204.2.2.2.2.2.2]) 0).run Try.prog w = .ok (.int .i64 t2204.1) w := fun _ => by kernel_rfl
    go_wp2_with fail
    clear fl2207
    go_ret
    rw [← some_eq H]
    exact ⟨(by first | rfl | (simp [IntKind.wrap_u32]; done)), HS.out⟩
  · replace H := if_no c2208 H
    have c2208b0 : (t2204.1 == 0) = false := beq_eq_false_iff_ne.mpr c2208
    have c2208b1 : (t2204.1 != 0) = true := bne_iff_ne.mpr c2208
    clear c2208
    have fl2207 : ∀ w, (Instr.field 102 (.agg #[.int .i64 t2204.1, .int .i64 t2204.2.1, .int .i64 t2204.2.2.1, .int .i64 t2204.2.2.2.1, .int .i64 t2204.2.2.2.2.1, .int .i64 t2204.2.2.2.2.2.1, .int .i64 t2204.2.2.2.2.2.2]) 0).run Try.prog w = .ok (.int .i64 t2204.1) w := fun _ => by kernel_rfl
    go_wp2_with fail
    clear fl2207
    obtain ⟨t2209, HA2210, H⟩ := bind_some H
    refine (ground_Ground_SetWord.calls l1891 t2201.2 a1897 a1898 a1899 a1900 a1901 0 0 g1887 g1889 A1892 l1891.length n1894 t2209 _ ⟨HS.out.begin⟩ HA2210).mono ?_
    rintro e_ w2211 ⟨rfl, hS⟩
    replace HS : Aside0 (Sep FF w [b7 g1887 g1889 a1897 a1898 a1899 a1900, b6 g1889 A1892 l1891.length n1894 t2209.2.1, r5 A1892 l1891.length n1894 t2209.2.2] w2211) := ⟨HS.out.call hS⟩
    clear hS
    go_wp2_with fail
    obtain ⟨t2212, HA2213, H⟩ := bind_some H
    refine (chain_Push.calls t2209.2.2 t2209.2.1 a1897 a1898 a1899 a1900 0 a1901 g1887 g1889 A1892 l1891.length n1894 t2212 _ ⟨HS.out.begin⟩ HA2213).mono ?_
    rintro e_ w2214 ⟨rfl, hS⟩
    replace HS : Aside0 (Sep FF w [b7 g1887 g1889 a1897 a1898 a1899 a1900, b6 g1889 A1892 l1891.length n1894 t2212.2.1, r5 A1892 l1891.length n1894 t2212.2.2] w2214) := ⟨HS.out.call hS⟩
    clear hS
    go_wp2_with fail
    go_ret
    rw [← some_eq H]
    exact ⟨(by first | rfl | (simp [IntKind.wrap_u32]; done)), HS.out⟩

set_option maxHeartbeats 30000000 in
set_option maxRecDepth 100000 in
theorem store_Store_Peek.calls (l2294 : List Int) (a2299 : Int) (a2300 : Int) (g2292 : Nat) (A2295 : Option Addr) (m2296 : Nat) (n2297 : Nat) (r : Int) (w : World)   (HS : Aside0 (Sep (fps [b6 g2292 A2295 m2296 n2297 a2299, r5 A2295 m2296 n2297 l2294]) w [b6 g2292 A2295 m2296 n2297 a2299, r5 A2295 m2296 n2297 l2294] w)) (H : Aside0 (store_Store_Peek.f l2294 a2299 a2300 = some r)) :
    Calls Try.prog 20 #[.pointer (some ⟨g2292, 0, none⟩), .int .i64 a2300] w fun e w' => e = .returned (.int .u32 r) ∧ Sep (fps [b6 g2292 A2295 m2296 n2297 a2299, r5 A2295 m2296 n2297 l2294]) w [b6 g2292 A2295 m2296 n2297 a2299, r5 A2295 m2296 n2297 l2294] w' := by
  generalize (fps [b6 g2292 A2295 m2296 n2297 a2299, r5 A2295 m2296 n2297 l2294]) = FF at HS ⊢
  obtain rfl := (row_len (HS.out.at1)).symm
  unfold store_Store_Peek.f at H
  go_enter Try.func20, Try.ntmps20
  go_wp2_with fail
  obtain ⟨t2301, HA2302, H⟩ := bind_some H
  refine (store_Store_has.calls l2294 a2299 a2300 g2292 A2295 l2294.length n2297 t2301 _ ⟨HS.out.begin⟩ HA2302).mono ?_
  rintro e_ w2303 ⟨rfl, hS⟩
  replace HS : Aside0 (Sep FF w [b6 g2292 A2295 l2294.length n2297 a2299, r5 A2295 l2294.length n2297 l2294] w2303) := ⟨HS.out.call hS⟩
  clear hS
  by_cases c2304 : t2301 = true
  · replace H := if_yes c2304 H
    have c2304b0 : t2301 = true := c2304
    have c2304b1 : (!t2301) = false := by rw [c2304b0]; rfl
    try rw [c2304b1]
    clear c2304
    by_cases c2306 : 0 ≤ a2300
    · replace H := if_yes c2306 H
      have c2306b0 : decide (0 ≤ a2300) = true := decide_eq_true c2306
      have c2306p : (0 ≤ a2300) = True := eq_true c2306
      clear c2306
      by_cases c2307 : a2300 < (l2294.length : Int)
      · replace H := if_yes c2307 H
        have c2307b0 : decide (a2300 < (l2294.length : Int)) = true := decide_eq_true c2307
        have c2307p : (a2300 < (l2294.length : Int)) = True := eq_true c2307
        clear c2307
        have hc2305 : w2303.cell? ⟨g2292, 0, none⟩ = some (.slice A2295 l2294.length n2297) := blk_cellv (HS.out.at0) 0 rfl
        obtain ⟨g2308, ea⟩ := row_at (HS.out.at1) (by have := (of_decide_eq_true c2306b0); have := (of_decide_eq_true c2307b0); omega); cases ea
        have hx2309 := C_at_int (row_Ci (HS.out.at1)) a2300 (of_decide_eq_true c2306b0) (of_decide_eq_true c2307b0)
        have hx2310 : w2303.cell? ⟨g2308, (a2300).toNat, none⟩ = some (.int .u32 (rd l2294 a2300)) := (row_get 0 (HS.out.at1) a2300 (of_decide_eq_true c2306b0) (of_decide_eq_true c2307b0)).1
        go_wp2_with fail
        clear hc2305 hx2309 hx2310
        go_ret
        rw [← some_eq H]
        exact ⟨(by first | rfl | (simp [IntKind.wrap_u32]; done)), HS.out⟩
      · replace H := if_no c2307 H
        have c2307b0 : decide (a2300 < (l2294.length : Int)) = false := decide_eq_false c2307
        clear c2307
        exact (none_no H).elim
    · replace H := if_no c2306 H
      have c2306b0 : decide (0 ≤ a2300) = false := decide_eq_false c2306
      clear c2306
      exact (none_no H).elim
  · replace H := if_no c2304 H
    have c2304b0 : t2301 = false := by simpa using c2304
    have c2304b1 : (!t2301) = true := by rw [c2304b0]; rfl
    try rw [c2304b1]
    clear c2304
    go_wp2_with fail
    go_ret
    rw [← some_eq H]
    exact ⟨(by first | rfl | (simp [IntKind.wrap_u32]; done)), HS.out⟩

set_option maxHeartbeats 30000000 in
set_option maxRecDepth 100000 in
theorem ground_Ground_SeeReg.calls (l2274 : List Int) (a2279 : Int) (a2280 : Int) (a2281 : Int) (a2282 : Int) (a2283 : Int) (a2284 : Int) (g2270 : Nat) (g2272 : Nat) (A2275 : Option Addr) (m2276 : Nat) (n2277 : Nat) (r : Int) (w : World)   (HS : Aside0 (Sep (fps [b7 g2270 g2272 a2280 a2281 a2282 a2283, b6 g2272 A2275 m2276 n2277 a2279, r5 A2275 m2276 n2277 l2274]) w [b7 g2270 g2272 a2280 a2281 a2282 a2283, b6 g2272 A2275 m2276 n2277 a2279, r5 A2275 m2276 n2277 l2274] w)) (H : Aside0 (ground_Ground_SeeReg.f l2274 a2279 a2280 a2281 a2282 a2283 a2284 = some r)) :
    Calls Try.prog 48 #[.pointer (some ⟨g2270, 0, none⟩), .int .i64 a2284] w fun e w' => e = .returned (.int .i64 r) ∧ Sep (fps [b7 g2270 g2272 a2280 a2281 a2282 a2283, b6 g2272 A2275 m2276 n2277 a2279, r5 A2275 m2276 n2277 l2274]) w [b7 g2270 g2272 a2280 a2281 a2282 a2283, b6 g2272 A2275 m2276 n2277 a2279, r5 A2275 m2276 n2277 l2274] w' := by
  generalize (fps [b7 g2270 g2272 a2280 a2281 a2282 a2283, b6 g2272 A2275 m2276 n2277 a2279, r5 A2275 m2276 n2277 l2274]) = FF at HS ⊢
  obtain rfl := (row_len (HS.out.at2)).symm
  unfold ground_Ground_SeeReg.f at H
  go_enter Try.func48, Try.ntmps48
  go_wp2_with fail
  obtain ⟨t2285, HA2286, H⟩ := bind_some H
  refine (ground_Ground_all.calls l2274 a2279 a2280 a2281 a2282 a2283 g2270 g2272 A2275 l2274.length n2277 t2285 _ ⟨HS.out.begin⟩ HA2286).mono ?_
  rintro e_ w2287 ⟨rfl, hS⟩
  replace HS : Aside0 (Sep FF w [b7 g2270 g2272 a2280 a2281 a2282 a2283, b6 g2272 A2275 l2274.length n2277 a2279, r5 A2275 l2274.length n2277 l2274] w2287) := ⟨HS.out.call hS⟩
  clear hS
  go_wp2_with fail
  obtain ⟨t2288, HA2289, H⟩ := bind_some H
  refine (ground_reg.calls a2284 t2288 _ ⟨Sep.start _⟩ HA2289).mono ?_
  rintro e_ w2290 ⟨rfl, hS⟩
  replace HS : Aside0 (Sep FF w [b7 g2270 g2272 a2280 a2281 a2282 a2283, b6 g2272 A2275 l2274.length n2277 a2279, r5 A2275 l2274.length n2277 l2274] w2290) := ⟨HS.out.call hS⟩
  clear hS
  go_wp2_with fail
  replace HS : Aside0 (Sep FF w [r5 A2275 l2274.length n2277 l2274, b7 g2270 g2272 a2280 a2281 a2282 a2283, b6 g2272 A2275 l2274.length n2277 a2279] w2290) := ⟨HS.out.front 2 (by simp)⟩
  replace HS : Aside0 (Sep FF w [b6 g2272 A2275 l2274.length n2277 a2279, r5 A2275 l2274.length n2277 l2274, b7 g2270 g2272 a2280 a2281 a2282 a2283] w2290) := ⟨HS.out.front 2 (by simp)⟩
  obtain ⟨t2311, HA2312, H⟩ := bind_some H
  refine (store_Store_Peek.calls l2274 a2279 t2288 g2272 A2275 l2274.length n2277 t2311 _ ⟨HS.out.begin⟩ HA2312).mono ?_
  rintro e_ w2313 ⟨rfl, hS⟩
  replace HS : Aside0 (Sep FF w [b6 g2272 A2275 l2274.length n2277 a2279, r5 A2275 l2274.length n2277 l2274, b7 g2270 g2272 a2280 a2281 a2282 a2283] w2313) := ⟨HS.out.call hS⟩
  clear hS
  go_wp2_with fail
  go_ret
  rw [← some_eq H]
  exact ⟨(by first | rfl | (simp [IntKind.wrap_u32]; done)), ((((HS.out).front 1 (by simp)).front 1 (by simp)).front 2 (by simp)).keep (l := [b7 g2270 g2272 a2280 a2281 a2282 a2283, b6 g2272 A2275 l2274.length n2277 a2279, r5 A2275 l2274.length n2277 l2274]) (rest := [])⟩

set_option maxHeartbeats 30000000 in
set_option maxRecDepth 100000 in
theorem ground_Ground_SeeWord.calls (l2351 : List Int) (a2356 : Int) (a2357 : Int) (a2358 : Int) (a2359 : Int) (a2360 : Int) (a2361 : Int) (a2362 : Int) (g2347 : Nat) (g2349 : Nat) (A2352 : Option Addr) (m2353 : Nat) (n2354 : Nat) (r : Int) (w : World)   (HS : Aside0 (Sep (fps [b7 g2347 g2349 a2357 a2358 a2359 a2360, b6 g2349 A2352 m2353 n2354 a2356, r5 A2352 m2353 n2354 l2351]) w [b7 g2347 g2349 a2357 a2358 a2359 a2360, b6 g2349 A2352 m2353 n2354 a2356, r5 A2352 m2353 n2354 l2351] w)) (H : Aside0 (ground_Ground_SeeWord.f l2351 a2356 a2357 a2358 a2359 a2360 a2361 a2362 = some r)) :
    Calls Try.prog 50 #[.pointer (some ⟨g2347, 0, none⟩), .int .i64 a2361, .int .i64 a2362] w fun e w' => e = .returned (.int .u32 r) ∧ Sep (fps [b7 g2347 g2349 a2357 a2358 a2359 a2360, b6 g2349 A2352 m2353 n2354 a2356, r5 A2352 m2353 n2354 l2351]) w [b7 g2347 g2349 a2357 a2358 a2359 a2360, b6 g2349 A2352 m2353 n2354 a2356, r5 A2352 m2353 n2354 l2351] w' := by
  generalize (fps [b7 g2347 g2349 a2357 a2358 a2359 a2360, b6 g2349 A2352 m2353 n2354 a2356, r5 A2352 m2353 n2354 l2351]) = FF at HS ⊢
  obtain rfl := (row_len (HS.out.at2)).symm
  unfold ground_Ground_SeeWord.f at H
  go_enter Try.func50, Try.ntmps50
  go_wp2_with fail
  obtain ⟨t2363, HA2364, H⟩ := bind_some H
  refine (ground_Ground_all.calls l2351 a2356 a2357 a2358 a2359 a2360 g2347 g2349 A2352 l2351.length n2354 t2363 _ ⟨HS.out.begin⟩ HA2364).mono ?_
  rintro e_ w2365 ⟨rfl, hS⟩
  replace HS : Aside0 (Sep FF w [b7 g2347 g2349 a2357 a2358 a2359 a2360, b6 g2349 A2352 l2351.length n2354 a2356, r5 A2352 l2351.length n2354 l2351] w2365) := ⟨HS.out.call hS⟩
  clear hS
  go_wp2_with fail
  obtain ⟨t2366, HA2367, H⟩ := bind_some H
  refine (ground_Ground_word.calls l2351 a2356 a2357 a2358 a2359 a2360 a2361 a2362 g2347 g2349 A2352 l2351.length n2354 t2366 _ ⟨HS.out.begin⟩ HA2367).mono ?_
  rintro e_ w2368 ⟨rfl, hS⟩
  replace HS : Aside0 (Sep FF w [b7 g2347 g2349 a2357 a2358 a2359 a2360, b6 g2349 A2352 l2351.length n2354 a2356, r5 A2352 l2351.length n2354 l2351] w2368) := ⟨HS.out.call hS⟩
  clear hS
  go_wp2_with fail
  replace HS : Aside0 (Sep FF w [r5 A2352 l2351.length n2354 l2351, b7 g2347 g2349 a2357 a2358 a2359 a2360, b6 g2349 A2352 l2351.length n2354 a2356] w2368) := ⟨HS.out.front 2 (by simp)⟩
  replace HS : Aside0 (Sep FF w [b6 g2349 A2352 l2351.length n2354 a2356, r5 A2352 l2351.length n2354 l2351, b7 g2347 g2349 a2357 a2358 a2359 a2360] w2368) := ⟨HS.out.front 2 (by simp)⟩
  obtain ⟨t2369, HA2370, H⟩ := bind_some H
  refine (store_Store_Peek.calls l2351 a2356 t2366 g2349 A2352 l2351.length n2354 t2369 _ ⟨HS.out.begin⟩ HA2370).mono ?_
  rintro e_ w2371 ⟨rfl, hS⟩
  replace HS : Aside0 (Sep FF w [b6 g2349 A2352 l2351.length n2354 a2356, r5 A2352 l2351.length n2354 l2351, b7 g2347 g2349 a2357 a2358 a2359 a2360] w2371) := ⟨HS.out.call hS⟩
  clear hS
  go_wp2_with fail
  go_ret
  rw [← some_eq H]
  exact ⟨(by first | rfl | (simp [IntKind.wrap_u32]; done)), ((((HS.out).front 1 (by simp)).front 1 (by simp)).front 2 (by simp)).keep (l := [b7 g2347 g2349 a2357 a2358 a2359 a2360, b6 g2349 A2352 l2351.length n2354 a2356, r5 A2352 l2351.length n2354 l2351]) (rest := [])⟩

set_option maxHeartbeats 30000000 in
set_option maxRecDepth 100000 in
theorem chain_List.calls (k : Nat) (l2243 : List Int) (a2248 : Int) (a2249 : Int) (a2250 : Int) (a2251 : Int) (a2252 : Int) (a2253 : Int) (g2239 : Nat) (g2241 : Nat) (A2244 : Option Addr) (m2245 : Nat) (n2246 : Nat) (r : List Int) (w : World)   (HS : Aside0 (Sep (fps [b7 g2239 g2241 a2249 a2250 a2251 a2252, b6 g2241 A2244 m2245 n2246 a2248, r5 A2244 m2245 n2246 l2243]) w [b7 g2239 g2241 a2249 a2250 a2251 a2252, b6 g2241 A2244 m2245 n2246 a2248, r5 A2244 m2245 n2246 l2243] w)) (H : Aside0 (chain_List.f k l2243 a2248 a2249 a2250 a2251 a2252 a2253 = some r)) :
    Calls Try.prog 56 #[.pointer (some ⟨g2239, 0, none⟩), .int .i64 a2253] w fun e w' => ∃ (A2402 : Option Addr) (m2403 : Nat) (n2404 : Nat), e = .returned (.slice A2402 m2403 n2404) ∧ Sep (fps [b7 g2239 g2241 a2249 a2250 a2251 a2252, b6 g2241 A2244 m2245 n2246 a2248, r5 A2244 m2245 n2246 l2243]) w [b7 g2239 g2241 a2249 a2250 a2251 a2252, b6 g2241 A2244 m2245 n2246 a2248, r5 A2244 m2245 n2246 l2243, r13 A2402 m2403 n2404 r] w' := by
  generalize (fps [b7 g2239 g2241 a2249 a2250 a2251 a2252, b6 g2241 A2244 m2245 n2246 a2248, r5 A2244 m2245 n2246 l2243]) = FF at HS ⊢
  obtain rfl := (row_len (HS.out.at2)).symm
  unfold chain_List.f at H
  go_enter Try.func56, Try.ntmps56
  go_wp2_with fail
  obtain ⟨t2254, HA2255, H⟩ := bind_some H
  refine (chain_of.calls l2243 a2248 a2249 a2250 a2251 a2252 a2253 g2239 g2241 A2244 l2243.length n2246 t2254 _ ⟨HS.out.begin⟩ HA2255).mono ?_
  rintro e_ w2256 ⟨rfl, hS⟩
  replace HS : Aside0 (Sep FF w [b7 g2239 g2241 a2249 a2250 a2251 a2252, b6 g2241 A2244 l2243.length n2246 a2248, r5 A2244 l2243.length n2246 l2243] w2256) := ⟨HS.out.call hS⟩
  clear hS
  by_cases c2267 : t2254.2.2.2 = true
  · replace H := if_yes c2267 H
    have c2267b0 : t2254.2.2.2 = true := c2267
    have c2267b1 : (!t2254.2.2.2) = false := by rw [c2267b0]; rfl
    try rw [c2267b1]
    clear c2267
    go_wp2_with (first | ((with_reducible refine gate_dst (N := 5) rfl ?_); refine box_on ?hg (N := 5) ?hd (cs := #[.int .i64 0, .int .i64 0, .int .i64 0]) (t := 134) ?hr ?_; (case hd => rfl); (case hg => rfl); (case hr => first | (go_simp; done) | (go_simp; rfl)); intro g2257 hg w2258 hbox hb; replace HS : Aside0 (Sep FF w [b7 g2239 g2241 a2249 a2250 a2251 a2252, b6 g2241 A2244 l2243.length n2246 a2248, r5 A2244 l2243.length n2246 l2243, b8 g2257 0 0 0] w2258) := ⟨HS.out.box hg hbox hb⟩; clear hg hbox hb; have hc2260 : w2258.cell? ⟨g2257, 0, none⟩ = some (.int .i64 0) := blk_cellv (HS.out.at3) 0 rfl; have hz2261 : w2258.frozen? ⟨g2257, 0, none⟩ = false := blk_fz (HS.out.at3) 0; have hc2262 : w2258.cell? ⟨g2257, 1, none⟩ = some (.int .i64 0) := blk_cellv (HS.out.at3) 1 rfl; have hz2263 : w2258.frozen? ⟨g2257, 1, none⟩ = false := blk_fz (HS.out.at3) 1; have hc2264 : w2258.cell? ⟨g2257, 2, none⟩ = some (.int .i64 0) := blk_cellv (HS.out.at3) 2 rfl; have hz2265 : w2258.frozen? ⟨g2257, 2, none⟩ = false := blk_fz (HS.out.at3) 2) | ((with_reducible refine gate_store (t := 134) (p := 5) rfl ?_); refine store_event (w1 := (World.setCell (World.setCell (World.setCell w2258 ⟨g2257, 0, none⟩ (.int .i64 t2254.1)) ⟨g2257, 1, none⟩ (.int .i64 t2254.2.1)) ⟨g2257, 2, none⟩ (.int .i64 t2254.2.2.1))) rfl (t := 134) (p := 5) rfl rfl ?hr ?_; (case hr => first | (go_simp; done) | (go_simp; rfl)); intro w2266 hst; clear hc2260 hz2261 hc2262 hz2263 hc2264 hz2265; replace HS : Aside0 (Sep FF w [b7 g2239 g2241 a2249 a2250 a2251 a2252, b6 g2241 A2244 l2243.length n2246 a2248, r5 A2244 l2243.length n2246 l2243, b8 g2257 t2254.1 t2254.2.1 t2254.2.2.1] w2266) := ⟨by rw [hst]; exact HS.out.setAll (l1 := [b7 g2239 g2241 a2249 a2250 a2251 a2252, b6 g2241 A2244 l2243.length n2246 a2248, r5 A2244 l2243.length n2246 l2243]) (l2 := []) [.int .i64 t2254.1, .int .i64 t2254.2.1, .int .i64 t2254.2.2.1] rfl⟩; clear hst; have hc2268 : w2266.cell? ⟨g2257, 0, none⟩ = some (.int .i64 t2254.1) := blk_cellv (HS.out.at3) 0 rfl))
    clear hc2268
    obtain ⟨t2314, HA2315, H⟩ := bind_some H
    refine (ground_Ground_SeeReg.calls l2243 a2248 a2249 a2250 a2251 a2252 t2254.1 g2239 g2241 A2244 l2243.length n2246 t2314 _ ⟨HS.out.begin⟩ HA2315).mono ?_
    rintro e_ w2316 ⟨rfl, hS⟩
    replace HS : Aside0 (Sep FF w [b7 g2239 g2241 a2249 a2250 a2251 a2252, b6 g2241 A2244 l2243.length n2246 a2248, r5 A2244 l2243.length n2246 l2243, b8 g2257 t2254.1 t2254.2.1 t2254.2.2.1] w2316) := ⟨HS.out.call hS⟩
    clear hS
    replace HS : Aside0 (Sep FF w [b7 g2239 g2241 a2249 a2250 a2251 a2252, b6 g2241 A2244 l2243.length n2246 a2248, r5 A2244 l2243.length n2246 l2243] w2316) := ⟨HS.out.sub (.cons_cons _ (.cons_cons _ (.cons_cons _ (.cons _ .slnil))))⟩
    go_wp2_with fail
    replace HS : Aside0 (Sep FF w [r13 none 0 0 [], b7 g2239 g2241 a2249 a2250 a2251 a2252, b6 g2241 A2244 l2243.length n2246 a2248, r5 A2244 l2243.length n2246 l2243] w2316) := ⟨HS.out.nilrow 3 (Value.int .i64)⟩
    obtain ⟨o2318, AL2319, H⟩ := bind_some H
    go_loopg [7, 8] k (fun kq v7 v8 wc => ∃ (x2324 : Int) (x2325 : List Int) (A2326 : Option Addr) (m2327 : Nat) (n2328 : Nat), v7 = .slice A2326 m2327 n2328 ∧ v8 = .int .i64 x2324 ∧ Aside0 (chain_List.lo0 kq l2243 a2248 a2249 a2250 a2251 a2252 x2324 x2325 = some o2318) ∧ Aside0 (Sep FF w [r13 A2326 m2327 n2328 x2325, b7 g2239 g2241 a2249 a2250 a2251 a2252, b6 g2241 A2244 l2243.length n2246 a2248, r5 A2244 l2243.length n2246 l2243] wc))
    case atStart => exact ⟨(t2314), (([] : List Int)), (none), (0), (0), (by first | rfl | (simp [IntKind.wrap_u32]; done)), (by first | rfl | (simp [IntKind.wrap_u32]; done)), AL2319, ⟨HS.out⟩⟩
    case round =>
      clear AL2319 HS
      obtain ⟨x2324, x2325, A2326, m2327, n2328, rfl, rfl, AL2319, HS⟩ := hrel
      obtain ⟨w2320, rfl⟩ : ∃ x : World, x = wr := ⟨_, rfl⟩
      obtain rfl := (row_len (HS.out.at0)).symm
      cases gk with
      | zero => exact absurd AL2319.out (by simp [chain_List.lo0])
      | succ k2321 =>
        have AL0 := AL2319.out
        rw [chain_List.lo0] at AL0
        clear AL2319
        have AL2319 := Aside0.mk AL0
        clear AL0
        by_cases c2330 : x2324 > 0
        · replace AL2319 := if_yes c2330 AL2319
          have c2330b0 : decide (0 < x2324) = true := decide_eq_true c2330
          clear c2330
          go_wp2_with fail
          replace HS : Aside0 (Sep FF w [r5 A2244 l2243.length n2246 l2243, r13 A2326 x2325.length n2328 x2325, b7 g2239 g2241 a2249 a2250 a2251 a2252, b6 g2241 A2244 l2243.length n2246 a2248] w2320) := ⟨HS.out.front 3 (by simp)⟩
          replace HS : Aside0 (Sep FF w [b6 g2241 A2244 l2243.length n2246 a2248, r5 A2244 l2243.length n2246 l2243, r13 A2326 x2325.length n2328 x2325, b7 g2239 g2241 a2249 a2250 a2251 a2252] w2320) := ⟨HS.out.front 3 (by simp)⟩
          replace HS : Aside0 (Sep FF w [b7 g2239 g2241 a2249 a2250 a2251 a2252, b6 g2241 A2244 l2243.length n2246 a2248, r5 A2244 l2243.length n2246 l2243, r13 A2326 x2325.length n2328 x2325] w2320) := ⟨HS.out.front 3 (by simp)⟩
          obtain ⟨t2331, HA2332, AL2319⟩ := bind_some AL2319
          refine (ground_Ground_Conf.calls l2243 a2248 a2249 a2250 a2251 a2252 g2239 g2241 A2244 l2243.length n2246 t2331 _ ⟨HS.out.begin⟩ HA2332).mono ?_
          rintro e_ w2333 ⟨rfl, hS⟩
          replace HS : Aside0 (Sep FF w [b7 g2239 g2241 a2249 a2250 a2251 a2252, b6 g2241 A2244 l2243.length n2246 a2248, r5 A2244 l2243.length n2246 l2243, r13 A2326 x2325.length n2328 x2325] w2333) := ⟨HS.out.call hS⟩
          clear hS
          by_cases c2335 : (x2325.length : Int) < t2331.1
          · replace AL2319 := if_yes c2335 AL2319
            have c2335b0 : decide ((x2325.length : Int) < t2331.1) = true := decide_eq_true c2335
            clear c2335
            by_cases c2339 : x2325.length < 17592186044416
            · replace AL2319 := if_yes c2339 AL2319
              have c2339b0 : decide (x2325.length < 17592186044416) = true := decide_eq_true c2339
              clear c2339
              obtain ⟨y2343, HA2344, AL2319⟩ := bind_some AL2319
              have fl2334 : ∀ w, (Instr.field 49 (.agg #[.int .i64 t2331.1, .int .i64 t2331.2.1, .int .i64 t2331.2.2.1, .int .i64 t2331.2.2.2]) 0).run Try.prog w = .ok (.int .i64 t2331.1) w := fun _ => by kernel_rfl
              go_wp2_with (first | ((with_reducible refine gate_dst (N := 39) rfl ?_); refine slice_on (n := 1) ?hg (N := 39) ?hd (cs := #[.int .i64 (wrap64 (x2324 - 1))]) (t := 3) ?hr ?_; (case hd => rfl); (case hg => rfl); (case hr => first | (go_simp; done) | (go_simp; rfl)); intro g2336 hg w2337 hbox hb; clear fl2334; replace HS : Aside0 (Sep FF w [b7 g2239 g2241 a2249 a2250 a2251 a2252, b6 g2241 A2244 l2243.length n2246 a2248, r5 A2244 l2243.length n2246 l2243, r13 A2326 x2325.length n2328 x2325, b10 g2336 (wrap64 (x2324 - 1))] w2337) := ⟨HS.out.box hg hbox hb⟩; clear hg hbox hb) | ((with_reducible refine gate_dst (N := 40) rfl ?_); refine append_event (l1 := [b7 g2239 g2241 a2249 a2250 a2251 a2252, b6 g2241 A2244 l2243.length n2246 a2248, r5 A2244 l2243.length n2246 l2243]) (l2 := [b10 g2336 (wrap64 (x2324 - 1))]) rfl (.tmp 36) (.tmp 39) 78 3 (.int .i64 0) 8 rfl Try.underlying78 (by kernel_rfl) rfl (by decide) (Value.int .i64) (fun _ => rfl) (.slice A2326 x2325.length n2328) (x2325 : List Int) [wrap64 (x2324 - 1)] ⟨g2336, 0, none⟩ 1 rfl rfl (blk_news (xs := [wrap64 (x2324 - 1)]) (HS.out.at4)) HS.out (by have := of_decide_eq_true c2339b0; simp only [List.length_cons, List.length_nil]; omega) HA2344 ?_; intro A2340 n2341 w2342 HS1; replace HS : Aside0 (Sep FF w [b7 g2239 g2241 a2249 a2250 a2251 a2252, b6 g2241 A2244 l2243.length n2246 a2248, r5 A2244 l2243.length n2246 l2243, r13 A2340 y2343.length n2341 y2343, b10 g2336 (wrap64 (x2324 - 1))] w2342) := ⟨HS1⟩; clear HS1; replace HS : Aside0 (Sep FF w [b7 g2239 g2241 a2249 a2250 a2251 a2252, b6 g2241 A2244 l2243.length n2246 a2248, r5 A2244 l2243.length n2246 l2243, r13 A2340 y2343.length n2341 y2343] w2342) := ⟨HS.out.sub (.cons_cons _ (.cons_cons _ (.cons_cons _ (.cons_cons _ (.cons _ .slnil)))))⟩))
              obtain ⟨t2372, HA2373, AL2319⟩ := bind_some AL2319
              refine (ground_Ground_SeeWord.calls l2243 a2248 a2249 a2250 a2251 a2252 (wrap64 (x2324 - 1)) 5 g2239 g2241 A2244 l2243.length n2246 t2372 _ ⟨HS.out.begin⟩ HA2373).mono ?_
              rintro e_ w2374 ⟨rfl, hS⟩
              replace HS : Aside0 (Sep FF w [b7 g2239 g2241 a2249 a2250 a2251 a2252, b6 g2241 A2244 l2243.length n2246 a2248, r5 A2244 l2243.length n2246 l2243, r13 A2340 y2343.length n2341 y2343] w2374) := ⟨HS.out.call hS⟩
              clear hS
              go_wp2_with fail
              go_roundg k2321
              case measure => exact Nat.lt_succ_self _
              case rel => exact ⟨(wrap64 (t2372)), (y2343), (A2340), (y2343.length), (n2341), (by first | rfl | (simp [IntKind.wrap_u32]; done)), (by first | rfl | (simp [IntKind.wrap_u32]; done)), Aside0.mk AL2319.out, ⟨(((((HS.out).front 2 (by simp)).front 2 (by simp)).front 2 (by simp)).front 3 (by simp)).keep (l := [r13 A2340 y2343.length n2341 y2343, b7 g2239 g2241 a2249 a2250 a2251 a2252, b6 g2241 A2244 l2243.length n2246 a2248, r5 A2244 l2243.length n2246 l2243]) (rest := [])⟩⟩
            · replace AL2319 := if_no c2339 AL2319
              have c2339b0 : decide (x2325.length < 17592186044416) = false := decide_eq_false c2339
              clear c2339
              exact (none_no AL2319).elim
          · replace AL2319 := if_no c2335 AL2319
            have c2335b0 : decide ((x2325.length : Int) < t2331.1) = false := decide_eq_false c2335
            clear c2335
            have ho := some_eq AL2319
            subst ho
            clear AL2319
            have fl2334 : ∀ w, (Instr.field 49 (.agg #[.int .i64 t2331.1, .int .i64 t2331.2.1, .int .i64 t2331.2.2.1, .int .i64 t2331.2.2.2]) 0).run Try.prog w = .ok (.int .i64 t2331.1) w := fun _ => by kernel_rfl
            go_wp2_with fail
            clear fl2334
            go_ret
            rw [← some_eq H]
            exact ⟨A2326, x2325.length, n2328, (by first | rfl | (simp [IntKind.wrap_u32]; done)), HS.out⟩
        · replace AL2319 := if_no c2330 AL2319
          have c2330b0 : decide (0 < x2324) = false := decide_eq_false c2330
          clear c2330
          have ho := some_eq AL2319
          subst ho
          clear AL2319
          go_wp2_with fail
          go_ret
          rw [← some_eq H]
          exact ⟨A2326, x2325.length, n2328, (by first | rfl | (simp [IntKind.wrap_u32]; done)), ((((HS.out).front 3 (by simp)).front 3 (by simp)).front 3 (by simp)).keep (l := [b7 g2239 g2241 a2249 a2250 a2251 a2252, b6 g2241 A2244 l2243.length n2246 a2248, r5 A2244 l2243.length n2246 l2243, r13 A2326 x2325.length n2328 x2325]) (rest := [])⟩
  · replace H := if_no c2267 H
    have c2267b0 : t2254.2.2.2 = false := by simpa using c2267
    have c2267b1 : (!t2254.2.2.2) = true := by rw [c2267b0]; rfl
    try rw [c2267b1]
    clear c2267
    go_wp2_with (first | ((with_reducible refine gate_dst (N := 5) rfl ?_); refine box_on ?hg (N := 5) ?hd (cs := #[.int .i64 0, .int .i64 0, .int .i64 0]) (t := 134) ?hr ?_; (case hd => rfl); (case hg => rfl); (case hr => first | (go_simp; done) | (go_simp; rfl)); intro g2257 hg w2258 hbox hb; replace HS : Aside0 (Sep FF w [b7 g2239 g2241 a2249 a2250 a2251 a2252, b6 g2241 A2244 l2243.length n2246 a2248, r5 A2244 l2243.length n2246 l2243, b8 g2257 0 0 0] w2258) := ⟨HS.out.box hg hbox hb⟩; clear hg hbox hb; have hc2260 : w2258.cell? ⟨g2257, 0, none⟩ = some (.int .i64 0) := blk_cellv (HS.out.at3) 0 rfl; have hz2261 : w2258.frozen? ⟨g2257, 0, none⟩ = false := blk_fz (HS.out.at3) 0; have hc2262 : w2258.cell? ⟨g2257, 1, none⟩ = some (.int .i64 0) := blk_cellv (HS.out.at3) 1 rfl; have hz2263 : w2258.frozen? ⟨g2257, 1, none⟩ = false := blk_fz (HS.out.at3) 1; have hc2264 : w2258.cell? ⟨g2257, 2, none⟩ = some (.int .i64 0) := blk_cellv (HS.out.at3) 2 rfl; have hz2265 : w2258.frozen? ⟨g2257, 2, none⟩ = false := blk_fz (HS.out.at3) 2) | ((with_reducible refine gate_store (t := 134) (p := 5) rfl ?_); refine store_event (w1 := (World.setCell (World.setCell (World.setCell w2258 ⟨g2257, 0, none⟩ (.int .i64 t2254.1)) ⟨g2257, 1, none⟩ (.int .i64 t2254.2.1)) ⟨g2257, 2, none⟩ (.int .i64 t2254.2.2.1))) rfl (t := 134) (p := 5) rfl rfl ?hr ?_; (case hr => first | (go_simp; done) | (go_simp; rfl)); intro w2266 hst; clear hc2260 hz2261 hc2262 hz2263 hc2264 hz2265; replace HS : Aside0 (Sep FF w [b7 g2239 g2241 a2249 a2250 a2251 a2252, b6 g2241 A2244 l2243.length n2246 a2248, r5 A2244 l2243.length n2246 l2243, b8 g2257 t2254.1 t2254.2.1 t2254.2.2.1] w2266) := ⟨by rw [hst]; exact HS.out.setAll (l1 := [b7 g2239 g2241 a2249 a2250 a2251 a2252, b6 g2241 A2244 l2243.length n2246 a2248, r5 A2244 l2243.length n2246 l2243]) (l2 := []) [.int .i64 t2254.1, .int .i64 t2254.2.1, .int .i64 t2254.2.2.1] rfl⟩; clear hst; replace HS : Aside0 (Sep FF w [b7 g2239 g2241 a2249 a2250 a2251 a2252, b6 g2241 A2244 l2243.length n2246 a2248, r5 A2244 l2243.length n2246 l2243] w2266) := ⟨HS.out.sub (.cons_cons _ (.cons_cons _ (.cons_cons _ (.cons _ .slnil))))⟩))
    replace HS : Aside0 (Sep FF w [r13 none 0 0 [], b7 g2239 g2241 a2249 a2250 a2251 a2252, b6 g2241 A2244 l2243.length n2246 a2248, r5 A2244 l2243.length n2246 l2243] w2266) := ⟨HS.out.nilrow 3 (Value.int .i64)⟩
    go_ret
    rw [← some_eq H]
    exact ⟨none, 0, 0, (by first | rfl | (simp [IntKind.wrap_u32]; done)), ((((HS.out).front 3 (by simp)).front 3 (by simp)).front 3 (by simp)).keep (l := [b7 g2239 g2241 a2249 a2250 a2251 a2252, b6 g2241 A2244 l2243.length n2246 a2248, r5 A2244 l2243.length n2246 l2243, r13 none 0 0 []]) (rest := [])⟩

set_option maxHeartbeats 30000000 in
set_option maxRecDepth 100000 in
theorem pool_List.calls (k : Nat) (l2228 : List Int) (a2233 : Int) (a2234 : Int) (a2235 : Int) (a2236 : Int) (a2237 : Int) (g2224 : Nat) (g2226 : Nat) (A2229 : Option Addr) (m2230 : Nat) (n2231 : Nat) (r : List Int) (w : World)   (HS : Aside0 (Sep (fps [b7 g2224 g2226 a2234 a2235 a2236 a2237, b6 g2226 A2229 m2230 n2231 a2233, r5 A2229 m2230 n2231 l2228]) w [b7 g2224 g2226 a2234 a2235 a2236 a2237, b6 g2226 A2229 m2230 n2231 a2233, r5 A2229 m2230 n2231 l2228] w)) (H : Aside0 (pool_List.f k l2228 a2233 a2234 a2235 a2236 a2237 = some r)) :
    Calls Try.prog 64 #[.pointer (some ⟨g2224, 0, none⟩)] w fun e w' => ∃ (A2420 : Option Addr) (m2421 : Nat) (n2422 : Nat), e = .returned (.slice A2420 m2421 n2422) ∧ Sep (fps [b7 g2224 g2226 a2234 a2235 a2236 a2237, b6 g2226 A2229 m2230 n2231 a2233, r5 A2229 m2230 n2231 l2228]) w [b7 g2224 g2226 a2234 a2235 a2236 a2237, b6 g2226 A2229 m2230 n2231 a2233, r5 A2229 m2230 n2231 l2228, r13 A2420 m2421 n2422 r] w' := by
  generalize (fps [b7 g2224 g2226 a2234 a2235 a2236 a2237, b6 g2226 A2229 m2230 n2231 a2233, r5 A2229 m2230 n2231 l2228]) = FF at HS ⊢
  obtain rfl := (row_len (HS.out.at2)).symm
  unfold pool_List.f at H
  go_enter Try.func64, Try.ntmps64
  go_wp2_with fail
  obtain ⟨t2406, HA2407, H⟩ := bind_some H
  refine (chain_List.calls _ l2228 a2233 a2234 a2235 a2236 a2237 0 g2224 g2226 A2229 l2228.length n2231 t2406 _ ⟨HS.out.begin⟩ HA2407).mono ?_
  rintro e_ w2408 ⟨A2410, m2411, n2412, rfl, hS⟩
  replace HS : Aside0 (Sep FF w [b7 g2224 g2226 a2234 a2235 a2236 a2237, b6 g2226 A2229 l2228.length n2231 a2233, r5 A2229 l2228.length n2231 l2228, r13 A2410 m2411 n2412 t2406] w2408) := ⟨HS.out.call hS⟩
  clear hS
  obtain rfl := (row_len (HS.out.at3)).symm
  go_wp2_with fail
  go_ret
  rw [← some_eq H]
  exact ⟨A2410, t2406.length, n2412, (by first | rfl | (simp [IntKind.wrap_u32]; done)), HS.out⟩

set_option maxHeartbeats 30000000 in
set_option maxRecDepth 100000 in
theorem quitrentref01_Ints.calls (k : Nat) (l2435 : List Int) (l2439 : List Int) (A2436 : Option Addr) (n2437 : Nat) (A2440 : Option Addr) (n2441 : Nat) (r : Bool) (w : World) (HR2438 : Aside0 (Rd (Kd.int .i64) (fps []) w A2436 l2435.length l2435)) (HR2442 : Aside0 (Rd (Kd.int .i64) (fps []) w A2440 l2439.length l2439))  (HS : Aside0 (Sep (fps []) w [] w)) (H : Aside0 (quitrentref01_Ints.f k l2435 l2439 = some r)) :
    Calls Try.prog 68 #[.slice A2436 l2435.length n2437, .slice A2440 l2439.length n2441] w fun e w' => e = .returned (.bool r) ∧ Sep (fps []) w [] w' := by
  unfold quitrentref01_Ints.f at H
  go_enter Try.func68, Try.ntmps68
  by_cases c2443 : (l2435.length : Int) = (l2439.length : Int)
  · replace H := if_yes c2443 H
    have c2443b0 : ((l2435.length : Int) == (l2439.length : Int)) = true := beq_iff_eq.mpr c2443
    have c2443b1 : ((l2435.length : Int) != (l2439.length : Int)) = false := bne_eq_false_iff_eq.mpr c2443
    clear c2443
    go_wp2_with fail
    obtain ⟨o2459, AL2460, H⟩ := bind_some H
    go_loopg [5] k (fun kq v5 wc => ∃ (x2463 : Int), v5 = .int .i64 x2463 ∧ Aside0 (quitrentref01_Ints.lo0 kq l2435 l2439 x2463 = some o2459) ∧ Aside0 (Sep (fps []) w [] wc))
    case atStart => exact ⟨(0), (by first | rfl | (simp [IntKind.wrap_u32]; done)), AL2460, ⟨HS.out⟩⟩
    case round =>
      clear AL2460 HS
      obtain ⟨x2463, rfl, AL2460, HS⟩ := hrel
      obtain ⟨w2461, rfl⟩ : ∃ x : World, x = wr := ⟨_, rfl⟩
      cases gk with
      | zero => exact absurd AL2460.out (by simp [quitrentref01_Ints.lo0])
      | succ k2462 =>
        have AL0 := AL2460.out
        rw [quitrentref01_Ints.lo0] at AL0
        clear AL2460
        have AL2460 := Aside0.mk AL0
        clear AL0
        by_cases c2464 : x2463 < (l2435.length : Int)
        · replace AL2460 := if_yes c2464 AL2460
          have c2464b0 : decide (x2463 < (l2435.length : Int)) = true := decide_eq_true c2464
          clear c2464
          go_wp2_with fail
          refine start_ (n := 9) (S := (fun w' => Kd.C (Kd.int .i64) w' A2436 l2435.length l2435 ∧ Kd.C (Kd.int .i64) w' A2440 l2439.length l2439)) (ds := []) #[false, false, false, false, false, false, false, false, false] (by kernel_rfl) rfl rfl (⟨Rd.read (fun _ _ _ _ h => h) HR2438.out (HS.out.drew).fr, Rd.read (fun _ _ _ _ h => h) HR2442.out (HS.out.drew).fr⟩) (fun hHeld => ?_)
          have HS_ := Aside0.mk HS.out.drew
          clear HS
          generalize World.drew _ = w2466 at HS_ hHeld ⊢
          have HS := HS_
          clear HS_
          refine pure_ (i := 0) (N := some 17) (v := ?_) (a' := ?_) #[true, false, false, false, false, false, false, false, false] rfl rfl (by kernel_rfl) (fun _ _ _ h => h) (Or.inl ⟨by rfl, ?_⟩) ?_ ?_
          rotate_left
          · intro w'
            go_simp
            with_reducible rfl
          rotate_left
          · simp only [Act.put, List.setIfInBounds_toArray, List.set_cons_zero, List.set_cons_succ, i64_w, i32_w]
            rfl
          refine pure_ (i := 1) (N := some 18) (v := ?_) (a' := ?_) #[true, true, false, false, false, false, false, false, false] rfl rfl (by kernel_rfl) (fun _ _ _ h => h) (Or.inl ⟨by rfl, ?_⟩) ?_ ?_
          rotate_left
          · intro w'
            go_simp
            with_reducible rfl
          rotate_left
          · simp only [Act.put, List.setIfInBounds_toArray, List.set_cons_zero, List.set_cons_succ, i64_w, i32_w]
            rfl
          by_cases c2467 : 0 ≤ x2463
          · replace AL2460 := if_yes c2467 AL2460
            have c2467b0 : decide (0 ≤ x2463) = true := decide_eq_true c2467
            have c2467p : (0 ≤ x2463) = True := eq_true c2467
            clear c2467
            have ip2468 : (x2463 < (l2435.length : Int)) = True := eq_true (of_decide_eq_true c2464b0)
            obtain ⟨ad2469, ea, _⟩ := Kd.at_int (Rd.read (fun _ _ _ _ h => h) HR2438.out HS.out.fr) x2463 (of_decide_eq_true c2467b0) (of_decide_eq_true c2464b0)
            cases ea
            refine pure_ (i := 2) (N := some 19) (v := ?_) (a' := ?_) #[true, true, true, false, false, false, false, false, false] rfl rfl (by kernel_rfl) (fun _ _ _ h => h) (Or.inl ⟨by rfl, ?_⟩) ?_ ?_
            rotate_left
            · intro w'
              go_simp
              with_reducible rfl
            rotate_left
            · simp only [Act.put, List.setIfInBounds_toArray, List.set_cons_zero, List.set_cons_succ, i64_w, i32_w]
              rfl
            refine pure_ (i := 4) (N := some 21) (v := ?_) (a' := ?_) #[true, true, true, false, true, false, false, false, false] rfl rfl (by kernel_rfl) (fun _ _ _ h => h) (Or.inl ⟨by rfl, ?_⟩) ?_ ?_
            rotate_left
            · intro w'
              go_simp
              with_reducible rfl
            rotate_left
            · simp only [Act.put, List.setIfInBounds_toArray, List.set_cons_zero, List.set_cons_succ, i64_w, i32_w]
              rfl
            refine pure_ (i := 5) (N := some 22) (v := ?_) (a' := ?_) #[true, true, true, false, true, true, false, false, false] rfl rfl (by kernel_rfl) (fun _ _ _ h => h) (Or.inl ⟨by rfl, ?_⟩) ?_ ?_
            rotate_left
            · intro w'
              go_simp
              with_reducible rfl
            rotate_left
            · simp only [Act.put, List.setIfInBounds_toArray, List.set_cons_zero, List.set_cons_succ, i64_w, i32_w]
              rfl
            by_cases c2470 : x2463 < (l2439.length : Int)
            · replace AL2460 := if_yes c2470 AL2460
              have c2470b0 : decide (x2463 < (l2439.length : Int)) = true := decide_eq_true c2470
              have c2470p : (x2463 < (l2439.length : Int)) = True := eq_true c2470
              clear c2470
              obtain ⟨ad2471, ea, _⟩ := Kd.at_int (Rd.read (fun _ _ _ _ h => h) HR2442.out HS.out.fr) x2463 (of_decide_eq_true c2467b0) (of_decide_eq_true c2470b0)
              cases ea
              refine pure_ (i := 6) (N := some 23) (v := ?_) (a' := ?_) #[true, true, true, false, true, true, true, false, false] rfl rfl (by kernel_rfl) (fun _ _ _ h => h) (Or.inl ⟨by rfl, ?_⟩) ?_ ?_
              rotate_left
              · intro w'
                go_simp
                with_reducible rfl
              rotate_left
              · simp only [Act.put, List.setIfInBounds_toArray, List.set_cons_zero, List.set_cons_succ, i64_w, i32_w]
                rfl
              refine take_ (i := 3) (N := some 20) (v := ?_) (a' := ?_) #[true, true, true, true, true, true, true, false, false] rfl rfl (by kernel_rfl) (fun _ _ _ h => h) (Or.inl ⟨by rfl, ?_⟩) hHeld ?_ ?_
              rotate_left
              · rintro w' hS'
                obtain ⟨s0, s1⟩ := hS'
                have hx := C_at_int s0 x2463 (of_decide_eq_true c2467b0) (of_decide_eq_true c2464b0)
                go_simp
                with_reducible rfl
              rotate_left
              · simp only [Act.put, List.setIfInBounds_toArray, List.set_cons_zero, List.set_cons_succ, i64_w, i32_w]
                rfl
              refine take_ (i := 7) (N := some 24) (v := ?_) (a' := ?_) #[true, true, true, true, true, true, true, true, false] rfl rfl (by kernel_rfl) (fun _ _ _ h => h) (Or.inl ⟨by rfl, ?_⟩) hHeld ?_ ?_
              rotate_left
              · rintro w' hS'
                obtain ⟨s0, s1⟩ := hS'
                have hx := C_at_int s1 x2463 (of_decide_eq_true c2467b0) (of_decide_eq_true c2470b0)
                go_simp
                with_reducible rfl
              rotate_left
              · simp only [Act.put, List.setIfInBounds_toArray, List.set_cons_zero, List.set_cons_succ, i64_w, i32_w]
                rfl
              refine pure_ (i := 8) (N := some 25) (v := ?_) (a' := ?_) #[true, true, true, true, true, true, true, true, true] rfl rfl (by kernel_rfl) (fun _ _ _ h => h) (Or.inl ⟨by rfl, ?_⟩) ?_ ?_
              rotate_left
              · intro w'
                go_simp
                with_reducible rfl
              rotate_left
              · simp only [Act.put, List.setIfInBounds_toArray, List.set_cons_zero, List.set_cons_succ, i64_w, i32_w]
                rfl
              refine done_ (by kernel_rfl) ?_
              by_cases c2472 : (rd l2435 x2463) = (rd l2439 x2463)
              · replace AL2460 := if_yes c2472 AL2460
                have c2472b0 : ((rd l2435 x2463) == (rd l2439 x2463)) = true := beq_iff_eq.mpr c2472
                have c2472b1 : ((rd l2435 x2463) != (rd l2439 x2463)) = false := bne_eq_false_iff_eq.mpr c2472
                clear c2472
                go_wp2_with fail
                go_roundg k2462
                case measure => exact Nat.lt_succ_self _
                case rel => exact ⟨(wrap64 (x2463 + 1)), (by first | rfl | (simp [IntKind.wrap_u32]; done)), Aside0.mk AL2460.out, ⟨HS.out⟩⟩
              · replace AL2460 := if_no c2472 AL2460
                have c2472b0 : ((rd l2435 x2463) == (rd l2439 x2463)) = false := beq_eq_false_iff_ne.mpr c2472
                have c2472b1 : ((rd l2435 x2463) != (rd l2439 x2463)) = true := bne_iff_ne.mpr c2472
                clear c2472
                go_wp2_with fail
                have ho := some_eq AL2460
                subst ho
                have H := lp_ret H
                go_ret
                rw [← some_eq H]
                exact ⟨(by first | rfl | (simp [IntKind.wrap_u32]; done)), HS.out⟩
            · replace AL2460 := if_no c2470 AL2460
              have c2470b0 : decide (x2463 < (l2439.length : Int)) = false := decide_eq_false c2470
              clear c2470
              exact (none_no AL2460).elim
          · replace AL2460 := if_no c2467 AL2460
            have c2467b0 : decide (0 ≤ x2463) = false := decide_eq_false c2467
            clear c2467
            exact (none_no AL2460).elim
        · replace AL2460 := if_no c2464 AL2460
          have c2464b0 : decide (x2463 < (l2435.length : Int)) = false := decide_eq_false c2464
          clear c2464
          have ho := some_eq AL2460
          subst ho
          clear AL2460
          have H := lp_out H
          go_wp2_with fail
          go_ret
          rw [← some_eq H]
          exact ⟨(by first | rfl | (simp [IntKind.wrap_u32]; done)), HS.out⟩
  · replace H := if_no c2443 H
    have c2443b0 : ((l2435.length : Int) == (l2439.length : Int)) = false := beq_eq_false_iff_ne.mpr c2443
    have c2443b1 : ((l2435.length : Int) != (l2439.length : Int)) = true := bne_iff_ne.mpr c2443
    clear c2443
    go_wp2_with fail
    go_ret
    rw [← some_eq H]
    exact ⟨(by first | rfl | (simp [IntKind.wrap_u32]; done)), HS.out⟩

set_option maxHeartbeats 30000000 in
set_option maxRecDepth 100000 in
theorem pool_Len.calls (l2483 : List Int) (a2488 : Int) (a2489 : Int) (a2490 : Int) (a2491 : Int) (a2492 : Int) (g2479 : Nat) (g2481 : Nat) (A2484 : Option Addr) (m2485 : Nat) (n2486 : Nat) (r : Int × Int) (w : World)   (HS : Aside0 (Sep (fps [b7 g2479 g2481 a2489 a2490 a2491 a2492, b6 g2481 A2484 m2485 n2486 a2488, r5 A2484 m2485 n2486 l2483]) w [b7 g2479 g2481 a2489 a2490 a2491 a2492, b6 g2481 A2484 m2485 n2486 a2488, r5 A2484 m2485 n2486 l2483] w)) (H : Aside0 (pool_Len.f l2483 a2488 a2489 a2490 a2491 a2492 = some r)) :
    Calls Try.prog 65 #[.pointer (some ⟨g2479, 0, none⟩)] w fun e w' => e = .returned (.int .i64 r.1) ∧ Sep (fps [b7 g2479 g2481 a2489 a2490 a2491 a2492, b6 g2481 A2484 m2485 n2486 a2488, r5 A2484 m2485 n2486 l2483]) w [b7 g2479 g2481 a2489 a2490 a2491 a2492, b6 g2481 A2484 m2485 n2486 r.2, r5 A2484 m2485 n2486 l2483] w' := by
  generalize (fps [b7 g2479 g2481 a2489 a2490 a2491 a2492, b6 g2481 A2484 m2485 n2486 a2488, r5 A2484 m2485 n2486 l2483]) = FF at HS ⊢
  obtain rfl := (row_len (HS.out.at2)).symm
  unfold pool_Len.f at H
  go_enter Try.func65, Try.ntmps65
  go_wp2_with fail
  obtain ⟨t2496, HA2497, H⟩ := bind_some H
  refine (chain_Len.calls l2483 a2488 a2489 a2490 a2491 a2492 0 g2479 g2481 A2484 l2483.length n2486 t2496 _ ⟨HS.out.begin⟩ HA2497).mono ?_
  rintro e_ w2498 ⟨rfl, hS⟩
  replace HS : Aside0 (Sep FF w [b7 g2479 g2481 a2489 a2490 a2491 a2492, b6 g2481 A2484 l2483.length n2486 t2496.2, r5 A2484 l2483.length n2486 l2483] w2498) := ⟨HS.out.call hS⟩
  clear hS
  go_wp2_with fail
  go_ret
  rw [← some_eq H]
  exact ⟨(by first | rfl | (simp [IntKind.wrap_u32]; done)), HS.out⟩

set_option maxHeartbeats 30000000 in
set_option maxRecDepth 100000 in
theorem quitrentlaw10_begun.calls (k : Nat)  (r : Bool) (w : World)   (HS : Aside0 (Sep (fps []) w [] w)) (H : Aside0 (quitrentlaw10_begun.f k = some r)) :
    Calls Try.prog 60 #[] w fun e w' => e = .returned (.bool r) ∧ Sep (fps []) w [] w' := by
  unfold quitrentlaw10_begun.f at H
  go_enter Try.func60, Try.ntmps60
  go_wp2_with fail
  obtain ⟨t858, HA859, H⟩ := bind_some H
  rcases t858 with t860 | (t861 | t862)
  · have H := sum_l H
    refine (ground_New.calls _ 3 16 1 1 (.inl t860) _ ⟨Sep.start _⟩ HA859).mono ?_
    rintro e_ w863 ⟨rfl, hS⟩
    replace HS : Aside0 (Sep (fps []) w [] w863) := ⟨HS.out.call hS⟩
    clear hS
    go_wp2_with fail
    go_ret
    rw [← some_eq H]
    exact ⟨(by first | rfl | (simp [IntKind.wrap_u32]; done)), HS.out⟩
  · have H := sum_r H
    have H := sum_l H
    refine (ground_New.calls _ 3 16 1 1 (.inr (.inl t861)) _ ⟨Sep.start _⟩ HA859).mono ?_
    rintro e_ w864 ⟨g868, rfl, g869, A870, m871, n872, hS⟩
    replace HS : Aside0 (Sep (fps []) w [b7 g868 g869 t861.1 t861.2.1 t861.2.2.1 t861.2.2.2.1, b6 g869 A870 m871 n872 0, r5 A870 m871 n872 t861.2.2.2.2] w864) := ⟨HS.out.call hS⟩
    clear hS
    obtain rfl := (row_len (HS.out.at2)).symm
    go_wp2_with fail
    obtain ⟨t1604, HA1605, H⟩ := bind_some H
    refine (pool_Open.calls _ t861.2.2.2.2 0 t861.1 t861.2.1 t861.2.2.1 t861.2.2.2.1 g868 g869 A870 ((t861.2.2.2.2).length) n872 t1604 _ ⟨HS.out.begin⟩ HA1605).mono ?_
    rintro e_ w1606 ⟨rfl, hS⟩
    replace HS : Aside0 (Sep (fps []) w [b7 g868 g869 t861.1 t861.2.1 t861.2.2.1 t861.2.2.2.1, b6 g869 A870 ((t861.2.2.2.2).length) n872 t1604.2.1, r5 A870 ((t861.2.2.2.2).length) n872 t1604.2.2] w1606) := ⟨HS.out.call hS⟩
    clear hS
    by_cases c1607 : t1604.1 = true
    · replace H := if_yes c1607 H
      have c1607b0 : t1604.1 = true := c1607
      have c1607b1 : (!t1604.1) = false := by rw [c1607b0]; rfl
      try rw [c1607b1]
      clear c1607
      go_wp2_with fail
      obtain ⟨t1608, HA1609, H⟩ := bind_some H
      refine (pool_Open.calls _ t1604.2.2 t1604.2.1 t861.1 t861.2.1 t861.2.2.1 t861.2.2.2.1 g868 g869 A870 ((t861.2.2.2.2).length) n872 t1608 _ ⟨HS.out.begin⟩ HA1609).mono ?_
      rintro e_ w1610 ⟨rfl, hS⟩
      replace HS : Aside0 (Sep (fps []) w [b7 g868 g869 t861.1 t861.2.1 t861.2.2.1 t861.2.2.2.1, b6 g869 A870 ((t861.2.2.2.2).length) n872 t1608.2.1, r5 A870 ((t861.2.2.2.2).length) n872 t1608.2.2] w1610) := ⟨HS.out.call hS⟩
      clear hS
      by_cases c1611 : t1608.1 = true
      · replace H := if_yes c1611 H
        have c1611b0 : t1608.1 = true := c1611
        have c1611b1 : (!t1608.1) = false := by rw [c1611b0]; rfl
        clear c1611
        replace HS : Aside0 (Sep (fps []) w [] w1610) := ⟨HS.out.sub (.cons _ (.cons _ (.cons _ .slnil)))⟩
        go_wp2_with fail
        go_ret
        rw [← some_eq H]
        exact ⟨(by first | rfl | (simp [IntKind.wrap_u32]; done)), HS.out⟩
      · replace H := if_no c1611 H
        have c1611b0 : t1608.1 = false := by simpa using c1611
        have c1611b1 : (!t1608.1) = true := by rw [c1611b0]; rfl
        clear c1611
        go_wp2_with fail
        obtain ⟨t1874, HA1875, H⟩ := bind_some H
        refine (pool_Take.calls _ t1608.2.2 t1608.2.1 t861.1 t861.2.1 t861.2.2.1 t861.2.2.2.1 g868 g869 A870 ((t861.2.2.2.2).length) n872 t1874 _ ⟨HS.out.begin⟩ HA1875).mono ?_
        rintro e_ w1876 ⟨rfl, hS⟩
        replace HS : Aside0 (Sep (fps []) w [b7 g868 g869 t861.1 t861.2.1 t861.2.2.1 t861.2.2.2.1, b6 g869 A870 ((t861.2.2.2.2).length) n872 t1874.2.2.1, r5 A870 ((t861.2.2.2.2).length) n872 t1874.2.2.2] w1876) := ⟨HS.out.call hS⟩
        clear hS
        go_wp2_with fail
        obtain ⟨t1877, HA1878, H⟩ := bind_some H
        refine (pool_Take.calls _ t1874.2.2.2 t1874.2.2.1 t861.1 t861.2.1 t861.2.2.1 t861.2.2.2.1 g868 g869 A870 ((t861.2.2.2.2).length) n872 t1877 _ ⟨HS.out.begin⟩ HA1878).mono ?_
        rintro e_ w1879 ⟨rfl, hS⟩
        replace HS : Aside0 (Sep (fps []) w [b7 g868 g869 t861.1 t861.2.1 t861.2.2.1 t861.2.2.2.1, b6 g869 A870 ((t861.2.2.2.2).length) n872 t1877.2.2.1, r5 A870 ((t861.2.2.2.2).length) n872 t1877.2.2.2] w1879) := ⟨HS.out.call hS⟩
        clear hS
        go_wp2_with fail
        obtain ⟨t1880, HA1881, H⟩ := bind_some H
        refine (ground_Ground_SetWord.calls t1877.2.2.2 t1877.2.2.1 t861.1 t861.2.1 t861.2.2.1 t861.2.2.2.1 0 0 3 g868 g869 A870 ((t861.2.2.2.2).length) n872 t1880 _ ⟨HS.out.begin⟩ HA1881).mono ?_
        rintro e_ w1882 ⟨rfl, hS⟩
        replace HS : Aside0 (Sep (fps []) w [b7 g868 g869 t861.1 t861.2.1 t861.2.2.1 t861.2.2.2.1, b6 g869 A870 ((t861.2.2.2.2).length) n872 t1880.2.1, r5 A870 ((t861.2.2.2.2).length) n872 t1880.2.2] w1882) := ⟨HS.out.call hS⟩
        clear hS
        by_cases c1883 : t1874.1 = 0
        · replace H := if_yes c1883 H
          have c1883b0 : (t1874.1 == 0) = true := beq_iff_eq.mpr c1883
          have c1883b1 : (t1874.1 != 0) = false := bne_eq_false_iff_eq.mpr c1883
          clear c1883
          by_cases c1884 : t1877.1 = 1
          · replace H := if_yes c1884 H
            have c1884b0 : (t1877.1 == 1) = true := beq_iff_eq.mpr c1884
            have c1884b1 : (t1877.1 != 1) = false := bne_eq_false_iff_eq.mpr c1884
            clear c1884
            by_cases c1885 : t1877.2.1 = true
            · replace H := if_yes c1885 H
              have c1885b0 : t1877.2.1 = true := c1885
              have c1885b1 : (!t1877.2.1) = false := by rw [c1885b0]; rfl
              clear c1885
              go_wp2_with fail
              obtain ⟨t2215, HA2216, H⟩ := bind_some H
              refine (pool_Give.calls t1880.2.2 t1880.2.1 t861.1 t861.2.1 t861.2.2.1 t861.2.2.2.1 0 g868 g869 A870 ((t861.2.2.2.2).length) n872 t2215 _ ⟨HS.out.begin⟩ HA2216).mono ?_
              rintro e_ w2217 ⟨rfl, hS⟩
              replace HS : Aside0 (Sep (fps []) w [b7 g868 g869 t861.1 t861.2.1 t861.2.2.1 t861.2.2.2.1, b6 g869 A870 ((t861.2.2.2.2).length) n872 t2215.2.1, r5 A870 ((t861.2.2.2.2).length) n872 t2215.2.2] w2217) := ⟨HS.out.call hS⟩
              clear hS
              by_cases c2218 : t2215.1 = true
              · replace H := if_yes c2218 H
                have c2218b0 : t2215.1 = true := c2218
                have c2218b1 : (!t2215.1) = false := by rw [c2218b0]; rfl
                clear c2218
                go_wp2_with fail
                obtain ⟨t2219, HA2220, H⟩ := bind_some H
                refine (pool_Give.calls t2215.2.2 t2215.2.1 t861.1 t861.2.1 t861.2.2.1 t861.2.2.2.1 0 g868 g869 A870 ((t861.2.2.2.2).length) n872 t2219 _ ⟨HS.out.begin⟩ HA2220).mono ?_
                rintro e_ w2221 ⟨rfl, hS⟩
                replace HS : Aside0 (Sep (fps []) w [b7 g868 g869 t861.1 t861.2.1 t861.2.2.1 t861.2.2.2.1, b6 g869 A870 ((t861.2.2.2.2).length) n872 t2219.2.1, r5 A870 ((t861.2.2.2.2).length) n872 t2219.2.2] w2221) := ⟨HS.out.call hS⟩
                clear hS
                by_cases c2222 : t2219.1 = true
                · replace H := if_yes c2222 H
                  have c2222b0 : t2219.1 = true := c2222
                  have c2222b1 : (!t2219.1) = false := by rw [c2222b0]; rfl
                  try rw [c2222b1]
                  clear c2222
                  replace HS : Aside0 (Sep (fps []) w [] w2221) := ⟨HS.out.sub (.cons _ (.cons _ (.cons _ .slnil)))⟩
                  go_wp2_with fail
                  go_ret
                  rw [← some_eq H]
                  exact ⟨(by first | rfl | (simp [IntKind.wrap_u32]; done)), HS.out⟩
                · replace H := if_no c2222 H
                  have c2222b0 : t2219.1 = false := by simpa using c2222
                  have c2222b1 : (!t2219.1) = true := by rw [c2222b0]; rfl
                  try rw [c2222b1]
                  clear c2222
                  go_wp2_with fail
                  obtain ⟨t2424, HA2425, H⟩ := bind_some H
                  refine (pool_List.calls _ t2219.2.2 t2219.2.1 t861.1 t861.2.1 t861.2.2.1 t861.2.2.2.1 g868 g869 A870 ((t861.2.2.2.2).length) n872 t2424 _ ⟨HS.out.begin⟩ HA2425).mono ?_
                  rintro e_ w2426 ⟨A2428, m2429, n2430, rfl, hS⟩
                  replace HS : Aside0 (Sep (fps []) w [b7 g868 g869 t861.1 t861.2.1 t861.2.2.1 t861.2.2.2.1, b6 g869 A870 ((t861.2.2.2.2).length) n872 t2219.2.1, r5 A870 ((t861.2.2.2.2).length) n872 t2219.2.2, r13 A2428 m2429 n2430 t2424] w2426) := ⟨HS.out.call hS⟩
                  clear hS
                  obtain rfl := (row_len (HS.out.at3)).symm
                  go_wp2_with (first | ((with_reducible refine gate_dst (N := 56) rfl ?_); refine slice_on (n := 2) ?hg (N := 56) ?hd (cs := #[.int .i64 0, .int .i64 2]) (t := 3) ?hr ?_; (case hd => rfl); (case hg => rfl); (case hr => first | (go_simp; done) | (go_simp; rfl)); intro g2432 hg w2433 hbox hb; replace HS : Aside0 (Sep (fps []) w [b7 g868 g869 t861.1 t861.2.1 t861.2.2.1 t861.2.2.2.1, b6 g869 A870 ((t861.2.2.2.2).length) n872 t2219.2.1, r5 A870 ((t861.2.2.2.2).length) n872 t2219.2.2, r13 A2428 t2424.length n2430 t2424, b3 g2432 0 2] w2433) := ⟨HS.out.box hg hbox hb⟩; clear hg hbox hb))
                  obtain ⟨t2474, HA2475, H⟩ := bind_some H
                  refine (quitrentref01_Ints.calls _ t2424 [0, 2] A2428 n2430 (some ⟨g2432, 0, none⟩) 2 t2474 _ ⟨Rd.ownI (l := []) HS.out 3 rfl⟩ ⟨Rd.lit (l := []) (xs := [0, 2]) HS.out 4 rfl (by simp)⟩ ⟨Sep.start _⟩ HA2475).mono ?_
                  rintro e_ w2476 ⟨rfl, hS⟩
                  replace HS : Aside0 (Sep (fps []) w [b7 g868 g869 t861.1 t861.2.1 t861.2.2.1 t861.2.2.2.1, b6 g869 A870 ((t861.2.2.2.2).length) n872 t2219.2.1, r5 A870 ((t861.2.2.2.2).length) n872 t2219.2.2, r13 A2428 t2424.length n2430 t2424, b3 g2432 0 2] w2476) := ⟨HS.out.call hS⟩
                  clear hS
                  by_cases c2477 : t2474 = true
                  · replace H := if_yes c2477 H
                    have c2477b0 : t2474 = true := c2477
                    have c2477b1 : (!t2474) = false := by rw [c2477b0]; rfl
                    clear c2477
                    go_wp2_with fail
                    obtain ⟨t2499, HA2500, H⟩ := bind_some H
                    refine (pool_Len.calls t2219.2.2 t2219.2.1 t861.1 t861.2.1 t861.2.2.1 t861.2.2.2.1 g868 g869 A870 ((t861.2.2.2.2).length) n872 t2499 _ ⟨HS.out.begin⟩ HA2500).mono ?_
                    rintro e_ w2501 ⟨rfl, hS⟩
                    replace HS : Aside0 (Sep (fps []) w [b7 g868 g869 t861.1 t861.2.1 t861.2.2.1 t861.2.2.2.1, b6 g869 A870 ((t861.2.2.2.2).length) n872 t2499.2, r5 A870 ((t861.2.2.2.2).length) n872 t2219.2.2, r13 A2428 t2424.length n2430 t2424, b3 g2432 0 2] w2501) := ⟨HS.out.call hS⟩
                    clear hS
                    replace HS : Aside0 (Sep (fps []) w [] w2501) := ⟨HS.out.sub (.cons _ (.cons _ (.cons _ (.cons _ (.cons _ .slnil)))))⟩
                    go_wp2_with fail
                    go_ret
                    rw [← some_eq H]
                    exact ⟨(by first | rfl | (simp [IntKind.wrap_u32]; done)), HS.out⟩
                  · replace H := if_no c2477 H
                    have c2477b0 : t2474 = false := by simpa using c2477
                    have c2477b1 : (!t2474) = true := by rw [c2477b0]; rfl
                    clear c2477
                    replace HS : Aside0 (Sep (fps []) w [] w2476) := ⟨HS.out.sub (.cons _ (.cons _ (.cons _ (.cons _ (.cons _ .slnil)))))⟩
                    go_wp2_with fail
                    go_ret
                    rw [← some_eq H]
                    exact ⟨(by first | rfl | (simp [IntKind.wrap_u32]; done)), HS.out⟩
              · replace H := if_no c2218 H
                have c2218b0 : t2215.1 = false := by simpa using c2218
                have c2218b1 : (!t2215.1) = true := by rw [c2218b0]; rfl
                clear c2218
                replace HS : Aside0 (Sep (fps []) w [] w2217) := ⟨HS.out.sub (.cons _ (.cons _ (.cons _ .slnil)))⟩
                go_wp2_with fail
                go_ret
                rw [← some_eq H]
                exact ⟨(by first | rfl | (simp [IntKind.wrap_u32]; done)), HS.out⟩
            · replace H := if_no c1885 H
              have c1885b0 : t1877.2.1 = false := by simpa using c1885
              have c1885b1 : (!t1877.2.1) = true := by rw [c1885b0]; rfl
              clear c1885
              replace HS : Aside0 (Sep (fps []) w [] w1882) := ⟨HS.out.sub (.cons _ (.cons _ (.cons _ .slnil)))⟩
              go_wp2_with fail
              go_ret
              rw [← some_eq H]
              exact ⟨(by first | rfl | (simp [IntKind.wrap_u32]; done)), HS.out⟩
          · replace H := if_no c1884 H
            have c1884b0 : (t1877.1 == 1) = false := beq_eq_false_iff_ne.mpr c1884
            have c1884b1 : (t1877.1 != 1) = true := bne_iff_ne.mpr c1884
            clear c1884
            replace HS : Aside0 (Sep (fps []) w [] w1882) := ⟨HS.out.sub (.cons _ (.cons _ (.cons _ .slnil)))⟩
            go_wp2_with fail
            go_ret
            rw [← some_eq H]
            exact ⟨(by first | rfl | (simp [IntKind.wrap_u32]; done)), HS.out⟩
        · replace H := if_no c1883 H
          have c1883b0 : (t1874.1 == 0) = false := beq_eq_false_iff_ne.mpr c1883
          have c1883b1 : (t1874.1 != 0) = true := bne_iff_ne.mpr c1883
          clear c1883
          replace HS : Aside0 (Sep (fps []) w [] w1882) := ⟨HS.out.sub (.cons _ (.cons _ (.cons _ .slnil)))⟩
          go_wp2_with fail
          go_ret
          rw [← some_eq H]
          exact ⟨(by first | rfl | (simp [IntKind.wrap_u32]; done)), HS.out⟩
    · replace H := if_no c1607 H
      have c1607b0 : t1604.1 = false := by simpa using c1607
      have c1607b1 : (!t1604.1) = true := by rw [c1607b0]; rfl
      try rw [c1607b1]
      clear c1607
      replace HS : Aside0 (Sep (fps []) w [] w1606) := ⟨HS.out.sub (.cons _ (.cons _ (.cons _ .slnil)))⟩
      go_wp2_with fail
      go_ret
      rw [← some_eq H]
      exact ⟨(by first | rfl | (simp [IntKind.wrap_u32]; done)), HS.out⟩
  · have H := sum_r H
    have H := sum_r H
    refine (ground_New.calls _ 3 16 1 1 (.inr (.inr t862)) _ ⟨Sep.start _⟩ HA859).mono ?_
    rintro e_ w2502 ⟨rfl, hS⟩
    replace HS : Aside0 (Sep (fps []) w [] w2502) := ⟨HS.out.call hS⟩
    clear hS
    by_cases c2503 : t862 = 0
    · replace H := if_yes c2503 H
      have c2503b0 : (t862 == 0) = true := beq_iff_eq.mpr c2503
      have c2503b1 : (t862 != 0) = false := bne_eq_false_iff_eq.mpr c2503
      clear c2503
      exact (none_no H).elim
    · replace H := if_no c2503 H
      have c2503b0 : (t862 == 0) = false := beq_eq_false_iff_ne.mpr c2503
      have c2503b1 : (t862 != 0) = true := bne_iff_ne.mpr c2503
      clear c2503
      go_wp2_with fail
      go_ret
      rw [← some_eq H]
      exact ⟨(by first | rfl | (simp [IntKind.wrap_u32]; done)), HS.out⟩

set_option maxHeartbeats 30000000 in
set_option maxRecDepth 100000 in
theorem quitrentref10_Open.calls (k : Nat) (a2543 : Int) (r : List Int) (w : World)   (HS : Aside0 (Sep (fps []) w [] w)) (H : Aside0 (quitrentref10_Open.f k a2543 = some r)) :
    Calls Try.prog 66 #[.int .i64 a2543] w fun e w' => ∃ (A2583 : Option Addr) (m2584 : Nat) (n2585 : Nat), e = .returned (.slice A2583 m2584 n2585) ∧ Sep (fps []) w [r13 A2583 m2584 n2585 r] w' := by
  unfold quitrentref10_Open.f at H
  go_enter Try.func66, Try.ntmps66
  go_wp2_with fail
  replace HS : Aside0 (Sep (fps []) w [r13 none 0 0 []] w) := ⟨HS.out.nilrow 3 (Value.int .i64)⟩
  obtain ⟨o2545, AL2546, H⟩ := bind_some H
  go_loopg [3, 4] k (fun kq v3 v4 wc => ∃ (x2551 : Int) (x2552 : List Int) (A2553 : Option Addr) (m2554 : Nat) (n2555 : Nat), v3 = .slice A2553 m2554 n2555 ∧ v4 = .int .i64 x2551 ∧ Aside0 (quitrentref10_Open.lo0 kq a2543 x2551 x2552 = some o2545) ∧ Aside0 (Sep (fps []) w [r13 A2553 m2554 n2555 x2552] wc))
  case atStart => exact ⟨(0), (([] : List Int)), (none), (0), (0), (by first | rfl | (simp [IntKind.wrap_u32]; done)), (by first | rfl | (simp [IntKind.wrap_u32]; done)), AL2546, ⟨HS.out⟩⟩
  case round =>
    clear AL2546 HS
    obtain ⟨x2551, x2552, A2553, m2554, n2555, rfl, rfl, AL2546, HS⟩ := hrel
    obtain ⟨w2547, rfl⟩ : ∃ x : World, x = wr := ⟨_, rfl⟩
    obtain rfl := (row_len (HS.out.at0)).symm
    cases gk with
    | zero => exact absurd AL2546.out (by simp [quitrentref10_Open.lo0])
    | succ k2548 =>
      have AL0 := AL2546.out
      rw [quitrentref10_Open.lo0] at AL0
      clear AL2546
      have AL2546 := Aside0.mk AL0
      clear AL0
      by_cases c2557 : x2551 < a2543
      · replace AL2546 := if_yes c2557 AL2546
        have c2557b0 : decide (x2551 < a2543) = true := decide_eq_true c2557
        clear c2557
        by_cases c2561 : x2552.length < 17592186044416
        · replace AL2546 := if_yes c2561 AL2546
          have c2561b0 : decide (x2552.length < 17592186044416) = true := decide_eq_true c2561
          clear c2561
          obtain ⟨y2565, HA2566, AL2546⟩ := bind_some AL2546
          go_wp2_with (first | ((with_reducible refine gate_dst (N := 12) rfl ?_); refine slice_on (n := 1) ?hg (N := 12) ?hd (cs := #[.int .i64 x2551]) (t := 3) ?hr ?_; (case hd => rfl); (case hg => rfl); (case hr => first | (go_simp; done) | (go_simp; rfl)); intro g2558 hg w2559 hbox hb; replace HS : Aside0 (Sep (fps []) w [r13 A2553 x2552.length n2555 x2552, b10 g2558 x2551] w2559) := ⟨HS.out.box hg hbox hb⟩; clear hg hbox hb) | ((with_reducible refine gate_dst (N := 13) rfl ?_); refine append_event (l1 := []) (l2 := [b10 g2558 x2551]) rfl (.tmp 10) (.tmp 12) 78 3 (.int .i64 0) 8 rfl Try.underlying78 (by kernel_rfl) rfl (by decide) (Value.int .i64) (fun _ => rfl) (.slice A2553 x2552.length n2555) (x2552 : List Int) [x2551] ⟨g2558, 0, none⟩ 1 rfl rfl (blk_news (xs := [x2551]) (HS.out.at1)) HS.out (by have := of_decide_eq_true c2561b0; simp only [List.length_cons, List.length_nil]; omega) HA2566 ?_; intro A2562 n2563 w2564 HS1; replace HS : Aside0 (Sep (fps []) w [r13 A2562 y2565.length n2563 y2565, b10 g2558 x2551] w2564) := ⟨HS1⟩; clear HS1; replace HS : Aside0 (Sep (fps []) w [r13 A2562 y2565.length n2563 y2565] w2564) := ⟨HS.out.sub (.cons_cons _ (.cons _ .slnil))⟩))
          go_roundg k2548
          case measure => exact Nat.lt_succ_self _
          case rel => exact ⟨(wrap64 (x2551 + 1)), (y2565), (A2562), (y2565.length), (n2563), (by first | rfl | (simp [IntKind.wrap_u32]; done)), (by first | rfl | (simp [IntKind.wrap_u32]; done)), Aside0.mk AL2546.out, ⟨HS.out⟩⟩
        · replace AL2546 := if_no c2561 AL2546
          have c2561b0 : decide (x2552.length < 17592186044416) = false := decide_eq_false c2561
          clear c2561
          exact (none_no AL2546).elim
      · replace AL2546 := if_no c2557 AL2546
        have c2557b0 : decide (x2551 < a2543) = false := decide_eq_false c2557
        clear c2557
        have ho := some_eq AL2546
        subst ho
        clear AL2546
        go_wp2_with fail
        go_ret
        rw [← some_eq H]
        exact ⟨A2553, x2552.length, n2555, (by first | rfl | (simp [IntKind.wrap_u32]; done)), HS.out⟩

set_option maxHeartbeats 30000000 in
set_option maxRecDepth 100000 in
theorem atomic_Uint64_Load.calls (l2716 : List Int) (a2721 : Int) (g2714 : Nat) (A2717 : Option Addr) (m2718 : Nat) (n2719 : Nat) (r : Int) (w : World)   (HS : Aside0 (Sep (fps [b6 g2714 A2717 m2718 n2719 a2721, r5 A2717 m2718 n2719 l2716]) w [b6 g2714 A2717 m2718 n2719 a2721, r5 A2717 m2718 n2719 l2716] w)) (H : Aside0 (atomic_Uint64_Load.f l2716 a2721 = some r)) :
    Calls Try.prog 70 #[.pointer (some ⟨g2714, 1, none⟩)] w fun e w' => e = .returned (.int .u64 r) ∧ Sep (fps [b6 g2714 A2717 m2718 n2719 a2721, r5 A2717 m2718 n2719 l2716]) w [b6 g2714 A2717 m2718 n2719 a2721, r5 A2717 m2718 n2719 l2716] w' := by
  generalize (fps [b6 g2714 A2717 m2718 n2719 a2721, r5 A2717 m2718 n2719 l2716]) = FF at HS ⊢
  obtain rfl := (row_len (HS.out.at1)).symm
  unfold atomic_Uint64_Load.f at H
  go_enter Try.func70, Try.ntmps70
  have hc2722 : w.cell? ⟨g2714, 1, none⟩ = some (.int .u64 a2721) := blk_cellv (HS.out.at0) 1 rfl
  have hn2723 : (callFunc 103 #[.pointer (some ⟨g2714, 1, none⟩)]).run Try.prog w = .ok (.value (.int .u64 a2721)) w := run_call_load Try.func103 (by kernel_rfl) (by kernel_rfl) (by kernel_rfl) .u64 (by kernel_rfl) hc2722
  go_wp2_with (first | ((with_reducible refine gate_dst (N := 6) rfl ?_); refine run_on2 (by rfl) (w1 := w) (v := .int .u64 a2721) ?hr ?_; (case hr => first | (go_simp; done) | (go_simp; rfl)); intro w2724 hst; clear hc2722; replace HS : Aside0 (Sep FF w [b6 g2714 A2717 l2716.length n2719 a2721, r5 A2717 l2716.length n2719 l2716] w2724) := ⟨by rw [hst]; exact HS.out⟩; clear hst hn2723))
  go_ret
  rw [← some_eq H]
  exact ⟨(by first | rfl | (simp [IntKind.wrap_u32]; done)), HS.out⟩

set_option maxHeartbeats 30000000 in
set_option maxRecDepth 100000 in
theorem store_Store_Meter.calls (l2707 : List Int) (a2712 : Int) (g2705 : Nat) (A2708 : Option Addr) (m2709 : Nat) (n2710 : Nat) (r : Int) (w : World)   (HS : Aside0 (Sep (fps [b6 g2705 A2708 m2709 n2710 a2712, r5 A2708 m2709 n2710 l2707]) w [b6 g2705 A2708 m2709 n2710 a2712, r5 A2708 m2709 n2710 l2707] w)) (H : Aside0 (store_Store_Meter.f l2707 a2712 = some r)) :
    Calls Try.prog 21 #[.pointer (some ⟨g2705, 0, none⟩)] w fun e w' => e = .returned (.int .u64 r) ∧ Sep (fps [b6 g2705 A2708 m2709 n2710 a2712, r5 A2708 m2709 n2710 l2707]) w [b6 g2705 A2708 m2709 n2710 a2712, r5 A2708 m2709 n2710 l2707] w' := by
  generalize (fps [b6 g2705 A2708 m2709 n2710 a2712, r5 A2708 m2709 n2710 l2707]) = FF at HS ⊢
  obtain rfl := (row_len (HS.out.at1)).symm
  unfold store_Store_Meter.f at H
  go_enter Try.func21, Try.ntmps21
  go_wp2_with fail
  obtain ⟨t2725, HA2726, H⟩ := bind_some H
  refine (atomic_Uint64_Load.calls l2707 a2712 g2705 A2708 l2707.length n2710 t2725 _ ⟨HS.out.begin⟩ HA2726).mono ?_
  rintro e_ w2727 ⟨rfl, hS⟩
  replace HS : Aside0 (Sep FF w [b6 g2705 A2708 l2707.length n2710 a2712, r5 A2708 l2707.length n2710 l2707] w2727) := ⟨HS.out.call hS⟩
  clear hS
  go_wp2_with fail
  go_ret
  rw [← some_eq H]
  exact ⟨(by first | rfl | (simp [IntKind.wrap_u32]; done)), HS.out⟩

set_option maxHeartbeats 30000000 in
set_option maxRecDepth 100000 in
theorem ground_Ground_Meter.calls (l2691 : List Int) (a2696 : Int) (a2697 : Int) (a2698 : Int) (a2699 : Int) (a2700 : Int) (g2687 : Nat) (g2689 : Nat) (A2692 : Option Addr) (m2693 : Nat) (n2694 : Nat) (r : Int) (w : World)   (HS : Aside0 (Sep (fps [b7 g2687 g2689 a2697 a2698 a2699 a2700, b6 g2689 A2692 m2693 n2694 a2696, r5 A2692 m2693 n2694 l2691]) w [b7 g2687 g2689 a2697 a2698 a2699 a2700, b6 g2689 A2692 m2693 n2694 a2696, r5 A2692 m2693 n2694 l2691] w)) (H : Aside0 (ground_Ground_Meter.f l2691 a2696 a2697 a2698 a2699 a2700 = some r)) :
    Calls Try.prog 35 #[.pointer (some ⟨g2687, 0, none⟩)] w fun e w' => e = .returned (.int .u64 r) ∧ Sep (fps [b7 g2687 g2689 a2697 a2698 a2699 a2700, b6 g2689 A2692 m2693 n2694 a2696, r5 A2692 m2693 n2694 l2691]) w [b7 g2687 g2689 a2697 a2698 a2699 a2700, b6 g2689 A2692 m2693 n2694 a2696, r5 A2692 m2693 n2694 l2691] w' := by
  generalize (fps [b7 g2687 g2689 a2697 a2698 a2699 a2700, b6 g2689 A2692 m2693 n2694 a2696, r5 A2692 m2693 n2694 l2691]) = FF at HS ⊢
  obtain rfl := (row_len (HS.out.at2)).symm
  unfold ground_Ground_Meter.f at H
  go_enter Try.func35, Try.ntmps35
  go_wp2_with fail
  obtain ⟨t2701, HA2702, H⟩ := bind_some H
  refine (ground_Ground_all.calls l2691 a2696 a2697 a2698 a2699 a2700 g2687 g2689 A2692 l2691.length n2694 t2701 _ ⟨HS.out.begin⟩ HA2702).mono ?_
  rintro e_ w2703 ⟨rfl, hS⟩
  replace HS : Aside0 (Sep FF w [b7 g2687 g2689 a2697 a2698 a2699 a2700, b6 g2689 A2692 l2691.length n2694 a2696, r5 A2692 l2691.length n2694 l2691] w2703) := ⟨HS.out.call hS⟩
  clear hS
  go_wp2_with fail
  replace HS : Aside0 (Sep FF w [r5 A2692 l2691.length n2694 l2691, b7 g2687 g2689 a2697 a2698 a2699 a2700, b6 g2689 A2692 l2691.length n2694 a2696] w2703) := ⟨HS.out.front 2 (by simp)⟩
  replace HS : Aside0 (Sep FF w [b6 g2689 A2692 l2691.length n2694 a2696, r5 A2692 l2691.length n2694 l2691, b7 g2687 g2689 a2697 a2698 a2699 a2700] w2703) := ⟨HS.out.front 2 (by simp)⟩
  obtain ⟨t2728, HA2729, H⟩ := bind_some H
  refine (store_Store_Meter.calls l2691 a2696 g2689 A2692 l2691.length n2694 t2728 _ ⟨HS.out.begin⟩ HA2729).mono ?_
  rintro e_ w2730 ⟨rfl, hS⟩
  replace HS : Aside0 (Sep FF w [b6 g2689 A2692 l2691.length n2694 a2696, r5 A2692 l2691.length n2694 l2691, b7 g2687 g2689 a2697 a2698 a2699 a2700] w2730) := ⟨HS.out.call hS⟩
  clear hS
  go_wp2_with fail
  go_ret
  rw [← some_eq H]
  exact ⟨(by first | rfl | (simp [IntKind.wrap_u32]; done)), ((((HS.out).front 1 (by simp)).front 1 (by simp)).front 2 (by simp)).keep (l := [b7 g2687 g2689 a2697 a2698 a2699 a2700, b6 g2689 A2692 l2691.length n2694 a2696, r5 A2692 l2691.length n2694 l2691]) (rest := [])⟩

set_option maxHeartbeats 30000000 in
set_option maxRecDepth 100000 in
theorem quitrentlaw10_wiped.calls (k : Nat) (l2763 : List Int) (a2768 : Int) (a2769 : Int) (a2770 : Int) (a2771 : Int) (a2772 : Int) (a2773 : Int) (g2759 : Nat) (g2761 : Nat) (A2764 : Option Addr) (m2765 : Nat) (n2766 : Nat) (r : Bool) (w : World)   (HS : Aside0 (Sep (fps [b7 g2759 g2761 a2769 a2770 a2771 a2772, b6 g2761 A2764 m2765 n2766 a2768, r5 A2764 m2765 n2766 l2763]) w [b7 g2759 g2761 a2769 a2770 a2771 a2772, b6 g2761 A2764 m2765 n2766 a2768, r5 A2764 m2765 n2766 l2763] w)) (H : Aside0 (quitrentlaw10_wiped.f k l2763 a2768 a2769 a2770 a2771 a2772 a2773 = some r)) :
    Calls Try.prog 101 #[.pointer (some ⟨g2759, 0, none⟩), .int .i64 a2773] w fun e w' => e = .returned (.bool r) ∧ Sep (fps [b7 g2759 g2761 a2769 a2770 a2771 a2772, b6 g2761 A2764 m2765 n2766 a2768, r5 A2764 m2765 n2766 l2763]) w [b7 g2759 g2761 a2769 a2770 a2771 a2772, b6 g2761 A2764 m2765 n2766 a2768, r5 A2764 m2765 n2766 l2763] w' := by
  generalize (fps [b7 g2759 g2761 a2769 a2770 a2771 a2772, b6 g2761 A2764 m2765 n2766 a2768, r5 A2764 m2765 n2766 l2763]) = FF at HS ⊢
  obtain rfl := (row_len (HS.out.at2)).symm
  unfold quitrentlaw10_wiped.f at H
  go_enter Try.func101, Try.ntmps101
  go_wp2_with fail
  obtain ⟨o2789, AL2790, H⟩ := bind_some H
  go_loopg [5] k (fun kq v5 wc => ∃ (x2793 : Int), v5 = .int .i64 x2793 ∧ Aside0 (quitrentlaw10_wiped.lo0 kq l2763 a2768 a2769 a2770 a2771 a2772 a2773 x2793 = some o2789) ∧ Aside0 (Sep FF w [b7 g2759 g2761 a2769 a2770 a2771 a2772, b6 g2761 A2764 l2763.length n2766 a2768, r5 A2764 l2763.length n2766 l2763] wc))
  case atStart => exact ⟨(0), (by first | rfl | (simp [IntKind.wrap_u32]; done)), AL2790, ⟨HS.out⟩⟩
  case round =>
    clear AL2790 HS
    obtain ⟨x2793, rfl, AL2790, HS⟩ := hrel
    obtain ⟨w2791, rfl⟩ : ∃ x : World, x = wr := ⟨_, rfl⟩
    cases gk with
    | zero => exact absurd AL2790.out (by simp [quitrentlaw10_wiped.lo0])
    | succ k2792 =>
      have AL0 := AL2790.out
      rw [quitrentlaw10_wiped.lo0] at AL0
      clear AL2790
      have AL2790 := Aside0.mk AL0
      clear AL0
      go_wp2_with fail
      obtain ⟨t2780, HA2794, AL2790⟩ := bind_some AL2790
      refine (ground_Ground_Conf.calls l2763 a2768 a2769 a2770 a2771 a2772 g2759 g2761 A2764 l2763.length n2766 t2780 _ ⟨HS.out.begin⟩ HA2794).mono ?_
      rintro e_ w2795 ⟨rfl, hS⟩
      replace HS : Aside0 (Sep FF w [b7 g2759 g2761 a2769 a2770 a2771 a2772, b6 g2761 A2764 l2763.length n2766 a2768, r5 A2764 l2763.length n2766 l2763] w2795) := ⟨HS.out.call hS⟩
      clear hS
      by_cases c2797 : x2793 < t2780.2.1
      · replace AL2790 := if_yes c2797 AL2790
        have c2797b0 : decide (x2793 < t2780.2.1) = true := decide_eq_true c2797
        clear c2797
        have fl2796 : ∀ w, (Instr.field 49 (.agg #[.int .i64 t2780.1, .int .i64 t2780.2.1, .int .i64 t2780.2.2.1, .int .i64 t2780.2.2.2]) 1).run Try.prog w = .ok (.int .i64 t2780.2.1) w := fun _ => by kernel_rfl
        go_wp2_with fail
        clear fl2796
        obtain ⟨t2785, HA2798, AL2790⟩ := bind_some AL2790
        refine (ground_Ground_SeeWord.calls l2763 a2768 a2769 a2770 a2771 a2772 a2773 x2793 g2759 g2761 A2764 l2763.length n2766 t2785 _ ⟨HS.out.begin⟩ HA2798).mono ?_
        rintro e_ w2799 ⟨rfl, hS⟩
        replace HS : Aside0 (Sep FF w [b7 g2759 g2761 a2769 a2770 a2771 a2772, b6 g2761 A2764 l2763.length n2766 a2768, r5 A2764 l2763.length n2766 l2763] w2799) := ⟨HS.out.call hS⟩
        clear hS
        by_cases c2800 : t2785 = 0
        · replace AL2790 := if_yes c2800 AL2790
          have c2800b0 : (t2785 == 0) = true := beq_iff_eq.mpr c2800
          have c2800b1 : (t2785 != 0) = false := bne_eq_false_iff_eq.mpr c2800
          clear c2800
          go_wp2_with fail
          go_roundg k2792
          case measure => exact Nat.lt_succ_self _
          case rel => exact ⟨(wrap64 (x2793 + 1)), (by first | rfl | (simp [IntKind.wrap_u32]; done)), Aside0.mk AL2790.out, ⟨HS.out⟩⟩
        · replace AL2790 := if_no c2800 AL2790
          have c2800b0 : (t2785 == 0) = false := beq_eq_false_iff_ne.mpr c2800
          have c2800b1 : (t2785 != 0) = true := bne_iff_ne.mpr c2800
          clear c2800
          go_wp2_with fail
          have ho := some_eq AL2790
          subst ho
          have H := lp_ret H
          go_ret
          rw [← some_eq H]
          exact ⟨(by first | rfl | (simp [IntKind.wrap_u32]; done)), HS.out⟩
      · replace AL2790 := if_no c2797 AL2790
        have c2797b0 : decide (x2793 < t2780.2.1) = false := decide_eq_false c2797
        clear c2797
        have ho := some_eq AL2790
        subst ho
        clear AL2790
        have H := lp_out H
        have fl2796 : ∀ w, (Instr.field 49 (.agg #[.int .i64 t2780.1, .int .i64 t2780.2.1, .int .i64 t2780.2.2.1, .int .i64 t2780.2.2.2]) 1).run Try.prog w = .ok (.int .i64 t2780.2.1) w := fun _ => by kernel_rfl
        go_wp2_with fail
        clear fl2796
        go_ret
        rw [← some_eq H]
        exact ⟨(by first | rfl | (simp [IntKind.wrap_u32]; done)), HS.out⟩

set_option maxHeartbeats 30000000 in
set_option maxRecDepth 100000 in
theorem quitrentref06_mark.calls (a2903 : Int) (r : Bool) (w : World)   (HS : Aside0 (Sep (fps []) w [] w)) (H : Aside0 (quitrentref06_mark.f a2903 = some r)) :
    Calls Try.prog 122 #[.int .i64 a2903] w fun e w' => e = .returned (.bool r) ∧ Sep (fps []) w [] w' := by
  unfold quitrentref06_mark.f at H
  go_enter Try.func122, Try.ntmps122
  by_cases c2904 : a2903 = 0
  · replace H := if_yes c2904 H
    have c2904b0 : (a2903 == 0) = true := beq_iff_eq.mpr c2904
    have c2904b1 : (a2903 != 0) = false := bne_eq_false_iff_eq.mpr c2904
    clear c2904
    go_wp2_with fail
    go_ret
    rw [← some_eq H]
    exact ⟨(by first | rfl | (simp [IntKind.wrap_u32]; done)), HS.out⟩
  · replace H := if_no c2904 H
    have c2904b0 : (a2903 == 0) = false := beq_eq_false_iff_ne.mpr c2904
    have c2904b1 : (a2903 != 0) = true := bne_iff_ne.mpr c2904
    clear c2904
    go_wp2_with fail
    go_ret
    rw [← some_eq H]
    exact ⟨(by first | rfl | (simp [IntKind.wrap_u32]; done)), HS.out⟩

set_option maxHeartbeats 30000000 in
set_option maxRecDepth 100000 in
theorem quitrentref06_Right.calls (a2889 : Int) (a2890 : Int) (a2891 : Int) (a2892 : Int) (a2893 : Int) (a2894 : Int) (a2895 : Int) (r : Bool) (w : World)   (HS : Aside0 (Sep (fps []) w [] w)) (H : Aside0 (quitrentref06_Right.f a2889 a2890 a2891 a2892 a2893 a2894 a2895 = some r)) :
    Calls Try.prog 113 #[.agg #[.int .i64 a2889, .int .i64 a2890, .int .i64 a2891, .int .i64 a2892, .int .i64 a2893, .int .i64 a2894, .int .i64 a2895]] w fun e w' => e = .returned (.bool r) ∧ Sep (fps []) w [] w' := by
  unfold quitrentref06_Right.f at H
  go_enter Try.func113, Try.ntmps113
  by_cases c2900 : a2889 < 0
  · replace H := if_yes c2900 H
    have c2900b0 : decide (a2889 < 0) = true := decide_eq_true c2900
    clear c2900
    go_wp2_with (first | ((with_reducible refine gate_dst (N := 1) rfl ?_); refine box_on ?hg (N := 1) ?hd (cs := #[.int .i64 a2889, .int .i64 a2890, .int .i64 a2891, .int .i64 a2892, .int .i64 a2893, .int .i64 a2894, .int .i64 a2895]) (t := 102) ?hr ?_; (case hd => rfl); (case hg => rfl); (case hr => first | (go_simp; done) | (go_simp; rfl)); intro g2896 hg w2897 hbox hb; replace HS : Aside0 (Sep (fps []) w [b12 g2896 a2889 a2890 a2891 a2892 a2893 a2894 a2895] w2897) := ⟨HS.out.box hg hbox hb⟩; clear hg hbox hb; have hc2899 : w2897.cell? ⟨g2896, 0, none⟩ = some (.int .i64 a2889) := blk_cellv (HS.out.at0) 0 rfl; replace HS : Aside0 (Sep (fps []) w [] w2897) := ⟨HS.out.sub (.cons _ .slnil)⟩))
    clear hc2899
    go_ret
    rw [← some_eq H]
    exact ⟨(by first | rfl | (simp [IntKind.wrap_u32]; done)), HS.out⟩
  · replace H := if_no c2900 H
    have c2900b0 : decide (a2889 < 0) = false := decide_eq_false c2900
    clear c2900
    by_cases c2901 : a2889 > 3
    · replace H := if_yes c2901 H
      have c2901b0 : decide (3 < a2889) = true := decide_eq_true c2901
      clear c2901
      go_wp2_with (first | ((with_reducible refine gate_dst (N := 1) rfl ?_); refine box_on ?hg (N := 1) ?hd (cs := #[.int .i64 a2889, .int .i64 a2890, .int .i64 a2891, .int .i64 a2892, .int .i64 a2893, .int .i64 a2894, .int .i64 a2895]) (t := 102) ?hr ?_; (case hd => rfl); (case hg => rfl); (case hr => first | (go_simp; done) | (go_simp; rfl)); intro g2896 hg w2897 hbox hb; replace HS : Aside0 (Sep (fps []) w [b12 g2896 a2889 a2890 a2891 a2892 a2893 a2894 a2895] w2897) := ⟨HS.out.box hg hbox hb⟩; clear hg hbox hb; have hc2899 : w2897.cell? ⟨g2896, 0, none⟩ = some (.int .i64 a2889) := blk_cellv (HS.out.at0) 0 rfl; replace HS : Aside0 (Sep (fps []) w [] w2897) := ⟨HS.out.sub (.cons _ .slnil)⟩))
      clear hc2899
      go_ret
      rw [← some_eq H]
      exact ⟨(by first | rfl | (simp [IntKind.wrap_u32]; done)), HS.out⟩
    · replace H := if_no c2901 H
      have c2901b0 : decide (3 < a2889) = false := decide_eq_false c2901
      clear c2901
      go_wp2_with (first | ((with_reducible refine gate_dst (N := 1) rfl ?_); refine box_on ?hg (N := 1) ?hd (cs := #[.int .i64 a2889, .int .i64 a2890, .int .i64 a2891, .int .i64 a2892, .int .i64 a2893, .int .i64 a2894, .int .i64 a2895]) (t := 102) ?hr ?_; (case hd => rfl); (case hg => rfl); (case hr => first | (go_simp; done) | (go_simp; rfl)); intro g2896 hg w2897 hbox hb; replace HS : Aside0 (Sep (fps []) w [b12 g2896 a2889 a2890 a2891 a2892 a2893 a2894 a2895] w2897) := ⟨HS.out.box hg hbox hb⟩; clear hg hbox hb; have hc2899 : w2897.cell? ⟨g2896, 0, none⟩ = some (.int .i64 a2889) := blk_cellv (HS.out.at0) 0 rfl; have hc2902 : w2897.cell? ⟨g2896, 1, none⟩ = some (.int .i64 a2890) := blk_cellv (HS.out.at0) 1 rfl))
      clear hc2899 hc2902
      obtain ⟨t2905, HA2906, H⟩ := bind_some H
      refine (quitrentref06_mark.calls a2890 t2905 _ ⟨Sep.start _⟩ HA2906).mono ?_
      rintro e_ w2907 ⟨rfl, hS⟩
      replace HS : Aside0 (Sep (fps []) w [b12 g2896 a2889 a2890 a2891 a2892 a2893 a2894 a2895] w2907) := ⟨HS.out.call hS⟩
      clear hS
      by_cases c2908 : t2905 = true
      · replace H := if_yes c2908 H
        have c2908b0 : t2905 = true := c2908
        have c2908b1 : (!t2905) = false := by rw [c2908b0]; rfl
        try rw [c2908b1]
        clear c2908
        have hc2909 : w2907.cell? ⟨g2896, 2, none⟩ = some (.int .i64 a2891) := blk_cellv (HS.out.at0) 2 rfl
        go_wp2_with fail
        clear hc2909
        obtain ⟨t2910, HA2911, H⟩ := bind_some H
        refine (quitrentref06_mark.calls a2891 t2910 _ ⟨Sep.start _⟩ HA2911).mono ?_
        rintro e_ w2912 ⟨rfl, hS⟩
        replace HS : Aside0 (Sep (fps []) w [b12 g2896 a2889 a2890 a2891 a2892 a2893 a2894 a2895] w2912) := ⟨HS.out.call hS⟩
        clear hS
        by_cases c2913 : t2910 = true
        · replace H := if_yes c2913 H
          have c2913b0 : t2910 = true := c2913
          have c2913b1 : (!t2910) = false := by rw [c2913b0]; rfl
          try rw [c2913b1]
          clear c2913
          have hc2914 : w2912.cell? ⟨g2896, 3, none⟩ = some (.int .i64 a2892) := blk_cellv (HS.out.at0) 3 rfl
          go_wp2_with fail
          clear hc2914
          obtain ⟨t2915, HA2916, H⟩ := bind_some H
          refine (quitrentref06_mark.calls a2892 t2915 _ ⟨Sep.start _⟩ HA2916).mono ?_
          rintro e_ w2917 ⟨rfl, hS⟩
          replace HS : Aside0 (Sep (fps []) w [b12 g2896 a2889 a2890 a2891 a2892 a2893 a2894 a2895] w2917) := ⟨HS.out.call hS⟩
          clear hS
          by_cases c2918 : t2915 = true
          · replace H := if_yes c2918 H
            have c2918b0 : t2915 = true := c2918
            have c2918b1 : (!t2915) = false := by rw [c2918b0]; rfl
            try rw [c2918b1]
            clear c2918
            have hc2919 : w2917.cell? ⟨g2896, 4, none⟩ = some (.int .i64 a2893) := blk_cellv (HS.out.at0) 4 rfl
            go_wp2_with fail
            clear hc2919
            obtain ⟨t2920, HA2921, H⟩ := bind_some H
            refine (quitrentref06_mark.calls a2893 t2920 _ ⟨Sep.start _⟩ HA2921).mono ?_
            rintro e_ w2922 ⟨rfl, hS⟩
            replace HS : Aside0 (Sep (fps []) w [b12 g2896 a2889 a2890 a2891 a2892 a2893 a2894 a2895] w2922) := ⟨HS.out.call hS⟩
            clear hS
            by_cases c2923 : t2920 = true
            · replace H := if_yes c2923 H
              have c2923b0 : t2920 = true := c2923
              have c2923b1 : (!t2920) = false := by rw [c2923b0]; rfl
              try rw [c2923b1]
              clear c2923
              have hc2924 : w2922.cell? ⟨g2896, 5, none⟩ = some (.int .i64 a2894) := blk_cellv (HS.out.at0) 5 rfl
              go_wp2_with fail
              clear hc2924
              obtain ⟨t2925, HA2926, H⟩ := bind_some H
              refine (quitrentref06_mark.calls a2894 t2925 _ ⟨Sep.start _⟩ HA2926).mono ?_
              rintro e_ w2927 ⟨rfl, hS⟩
              replace HS : Aside0 (Sep (fps []) w [b12 g2896 a2889 a2890 a2891 a2892 a2893 a2894 a2895] w2927) := ⟨HS.out.call hS⟩
              clear hS
              by_cases c2928 : t2925 = true
              · replace H := if_yes c2928 H
                have c2928b0 : t2925 = true := c2928
                have c2928b1 : (!t2925) = false := by rw [c2928b0]; rfl
                try rw [c2928b1]
                clear c2928
                by_cases c2930 : a2895 < 0
                · replace H := if_yes c2930 H
                  have c2930b0 : decide (a2895 < 0) = true := decide_eq_true c2930
                  clear c2930
                  have hc2929 : w2927.cell? ⟨g2896, 6, none⟩ = some (.int .i64 a2895) := blk_cellv (HS.out.at0) 6 rfl
                  replace HS : Aside0 (Sep (fps []) w [] w2927) := ⟨HS.out.sub (.cons _ .slnil)⟩
                  go_wp2_with fail
                  clear hc2929
                  go_ret
                  rw [← some_eq H]
                  exact ⟨(by first | rfl | (simp [IntKind.wrap_u32]; done)), HS.out⟩
                · replace H := if_no c2930 H
                  have c2930b0 : decide (a2895 < 0) = false := decide_eq_false c2930
                  clear c2930
                  by_cases c2931 : a2895 > 1048575
                  · replace H := if_yes c2931 H
                    have c2931b0 : decide (1048575 < a2895) = true := decide_eq_true c2931
                    clear c2931
                    have hc2929 : w2927.cell? ⟨g2896, 6, none⟩ = some (.int .i64 a2895) := blk_cellv (HS.out.at0) 6 rfl
                    replace HS : Aside0 (Sep (fps []) w [] w2927) := ⟨HS.out.sub (.cons _ .slnil)⟩
                    go_wp2_with fail
                    clear hc2929
                    go_ret
                    rw [← some_eq H]
                    exact ⟨(by first | rfl | (simp [IntKind.wrap_u32]; done)), HS.out⟩
                  · replace H := if_no c2931 H
                    have c2931b0 : decide (1048575 < a2895) = false := decide_eq_false c2931
                    clear c2931
                    by_cases c2938 : a2889 = 0
                    · replace H := if_yes c2938 H
                      have c2938b0 : (a2889 == 0) = true := beq_iff_eq.mpr c2938
                      have c2938b1 : (a2889 != 0) = false := bne_eq_false_iff_eq.mpr c2938
                      clear c2938
                      by_cases c2939 : (wrap64 ((wrap64 ((wrap64 ((wrap64 (a2890 + a2891)) + a2892)) + a2893)) + a2894)) > 0
                      · replace H := if_yes c2939 H
                        have c2939b0 : decide (0 < (wrap64 ((wrap64 ((wrap64 ((wrap64 (a2890 + a2891)) + a2892)) + a2893)) + a2894))) = true := decide_eq_true c2939
                        clear c2939
                        have hc2929 : w2927.cell? ⟨g2896, 6, none⟩ = some (.int .i64 a2895) := blk_cellv (HS.out.at0) 6 rfl
                        have hc2932 : w2927.cell? ⟨g2896, 1, none⟩ = some (.int .i64 a2890) := blk_cellv (HS.out.at0) 1 rfl
                        have hc2933 : w2927.cell? ⟨g2896, 2, none⟩ = some (.int .i64 a2891) := blk_cellv (HS.out.at0) 2 rfl
                        have hc2934 : w2927.cell? ⟨g2896, 3, none⟩ = some (.int .i64 a2892) := blk_cellv (HS.out.at0) 3 rfl
                        have hc2935 : w2927.cell? ⟨g2896, 4, none⟩ = some (.int .i64 a2893) := blk_cellv (HS.out.at0) 4 rfl
                        have hc2936 : w2927.cell? ⟨g2896, 5, none⟩ = some (.int .i64 a2894) := blk_cellv (HS.out.at0) 5 rfl
                        have hc2937 : w2927.cell? ⟨g2896, 0, none⟩ = some (.int .i64 a2889) := blk_cellv (HS.out.at0) 0 rfl
                        replace HS : Aside0 (Sep (fps []) w [] w2927) := ⟨HS.out.sub (.cons _ .slnil)⟩
                        go_wp2_with fail
                        clear hc2929 hc2932 hc2933 hc2934 hc2935 hc2936 hc2937
                        go_ret
                        rw [← some_eq H]
                        exact ⟨(by first | rfl | (simp [IntKind.wrap_u32]; done)), HS.out⟩
                      · replace H := if_no c2939 H
                        have c2939b0 : decide (0 < (wrap64 ((wrap64 ((wrap64 ((wrap64 (a2890 + a2891)) + a2892)) + a2893)) + a2894))) = false := decide_eq_false c2939
                        clear c2939
                        by_cases c2940 : a2889 = 3
                        · replace H := if_yes c2940 H
                          have c2940b0 : (a2889 == 3) = true := beq_iff_eq.mpr c2940
                          have c2940b1 : (a2889 != 3) = false := bne_eq_false_iff_eq.mpr c2940
                          clear c2940
                          have hc2929 : w2927.cell? ⟨g2896, 6, none⟩ = some (.int .i64 a2895) := blk_cellv (HS.out.at0) 6 rfl
                          have hc2932 : w2927.cell? ⟨g2896, 1, none⟩ = some (.int .i64 a2890) := blk_cellv (HS.out.at0) 1 rfl
                          have hc2933 : w2927.cell? ⟨g2896, 2, none⟩ = some (.int .i64 a2891) := blk_cellv (HS.out.at0) 2 rfl
                          have hc2934 : w2927.cell? ⟨g2896, 3, none⟩ = some (.int .i64 a2892) := blk_cellv (HS.out.at0) 3 rfl
                          have hc2935 : w2927.cell? ⟨g2896, 4, none⟩ = some (.int .i64 a2893) := blk_cellv (HS.out.at0) 4 rfl
                          have hc2936 : w2927.cell? ⟨g2896, 5, none⟩ = some (.int .i64 a2894) := blk_cellv (HS.out.at0) 5 rfl
                          have hc2937 : w2927.cell? ⟨g2896, 0, none⟩ = some (.int .i64 a2889) := blk_cellv (HS.out.at0) 0 rfl
                          replace HS : Aside0 (Sep (fps []) w [] w2927) := ⟨HS.out.sub (.cons _ .slnil)⟩
                          go_wp2_with fail
                          clear hc2929 hc2932 hc2933 hc2934 hc2935 hc2936 hc2937
                          go_ret
                          rw [← some_eq H]
                          exact ⟨(by first | rfl | (simp [IntKind.wrap_u32]; done)), HS.out⟩
                        · replace H := if_no c2940 H
                          have c2940b0 : (a2889 == 3) = false := beq_eq_false_iff_ne.mpr c2940
                          have c2940b1 : (a2889 != 3) = true := bne_iff_ne.mpr c2940
                          clear c2940
                          have hc2929 : w2927.cell? ⟨g2896, 6, none⟩ = some (.int .i64 a2895) := blk_cellv (HS.out.at0) 6 rfl
                          have hc2932 : w2927.cell? ⟨g2896, 1, none⟩ = some (.int .i64 a2890) := blk_cellv (HS.out.at0) 1 rfl
                          have hc2933 : w2927.cell? ⟨g2896, 2, none⟩ = some (.int .i64 a2891) := blk_cellv (HS.out.at0) 2 rfl
                          have hc2934 : w2927.cell? ⟨g2896, 3, none⟩ = some (.int .i64 a2892) := blk_cellv (HS.out.at0) 3 rfl
                          have hc2935 : w2927.cell? ⟨g2896, 4, none⟩ = some (.int .i64 a2893) := blk_cellv (HS.out.at0) 4 rfl
                          have hc2936 : w2927.cell? ⟨g2896, 5, none⟩ = some (.int .i64 a2894) := blk_cellv (HS.out.at0) 5 rfl
                          have hc2937 : w2927.cell? ⟨g2896, 0, none⟩ = some (.int .i64 a2889) := blk_cellv (HS.out.at0) 0 rfl
                          replace HS : Aside0 (Sep (fps []) w [] w2927) := ⟨HS.out.sub (.cons _ .slnil)⟩
                          go_wp2_with fail
                          clear hc2929 hc2932 hc2933 hc2934 hc2935 hc2936 hc2937
                          go_ret
                          rw [← some_eq H]
                          exact ⟨(by first | rfl | (simp [IntKind.wrap_u32]; done)), HS.out⟩
                    · replace H := if_no c2938 H
                      have c2938b0 : (a2889 == 0) = false := beq_eq_false_iff_ne.mpr c2938
                      have c2938b1 : (a2889 != 0) = true := bne_iff_ne.mpr c2938
                      clear c2938
                      by_cases c2941 : a2889 = 3
                      · replace H := if_yes c2941 H
                        have c2941b0 : (a2889 == 3) = true := beq_iff_eq.mpr c2941
                        have c2941b1 : (a2889 != 3) = false := bne_eq_false_iff_eq.mpr c2941
                        clear c2941
                        by_cases c2942 : (wrap64 ((wrap64 ((wrap64 ((wrap64 (a2890 + a2891)) + a2892)) + a2893)) + a2894)) > 0
                        · replace H := if_yes c2942 H
                          have c2942b0 : decide (0 < (wrap64 ((wrap64 ((wrap64 ((wrap64 (a2890 + a2891)) + a2892)) + a2893)) + a2894))) = true := decide_eq_true c2942
                          clear c2942
                          have hc2929 : w2927.cell? ⟨g2896, 6, none⟩ = some (.int .i64 a2895) := blk_cellv (HS.out.at0) 6 rfl
                          have hc2932 : w2927.cell? ⟨g2896, 1, none⟩ = some (.int .i64 a2890) := blk_cellv (HS.out.at0) 1 rfl
                          have hc2933 : w2927.cell? ⟨g2896, 2, none⟩ = some (.int .i64 a2891) := blk_cellv (HS.out.at0) 2 rfl
                          have hc2934 : w2927.cell? ⟨g2896, 3, none⟩ = some (.int .i64 a2892) := blk_cellv (HS.out.at0) 3 rfl
                          have hc2935 : w2927.cell? ⟨g2896, 4, none⟩ = some (.int .i64 a2893) := blk_cellv (HS.out.at0) 4 rfl
                          have hc2936 : w2927.cell? ⟨g2896, 5, none⟩ = some (.int .i64 a2894) := blk_cellv (HS.out.at0) 5 rfl
                          have hc2937 : w2927.cell? ⟨g2896, 0, none⟩ = some (.int .i64 a2889) := blk_cellv (HS.out.at0) 0 rfl
                          replace HS : Aside0 (Sep (fps []) w [] w2927) := ⟨HS.out.sub (.cons _ .slnil)⟩
                          go_wp2_with fail
                          clear hc2929 hc2932 hc2933 hc2934 hc2935 hc2936 hc2937
                          go_ret
                          rw [← some_eq H]
                          exact ⟨(by first | rfl | (simp [IntKind.wrap_u32]; done)), HS.out⟩
                        · replace H := if_no c2942 H
                          have c2942b0 : decide (0 < (wrap64 ((wrap64 ((wrap64 ((wrap64 (a2890 + a2891)) + a2892)) + a2893)) + a2894))) = false := decide_eq_false c2942
                          clear c2942
                          have hc2929 : w2927.cell? ⟨g2896, 6, none⟩ = some (.int .i64 a2895) := blk_cellv (HS.out.at0) 6 rfl
                          have hc2932 : w2927.cell? ⟨g2896, 1, none⟩ = some (.int .i64 a2890) := blk_cellv (HS.out.at0) 1 rfl
                          have hc2933 : w2927.cell? ⟨g2896, 2, none⟩ = some (.int .i64 a2891) := blk_cellv (HS.out.at0) 2 rfl
                          have hc2934 : w2927.cell? ⟨g2896, 3, none⟩ = some (.int .i64 a2892) := blk_cellv (HS.out.at0) 3 rfl
                          have hc2935 : w2927.cell? ⟨g2896, 4, none⟩ = some (.int .i64 a2893) := blk_cellv (HS.out.at0) 4 rfl
                          have hc2936 : w2927.cell? ⟨g2896, 5, none⟩ = some (.int .i64 a2894) := blk_cellv (HS.out.at0) 5 rfl
                          have hc2937 : w2927.cell? ⟨g2896, 0, none⟩ = some (.int .i64 a2889) := blk_cellv (HS.out.at0) 0 rfl
                          replace HS : Aside0 (Sep (fps []) w [] w2927) := ⟨HS.out.sub (.cons _ .slnil)⟩
                          go_wp2_with fail
                          clear hc2929 hc2932 hc2933 hc2934 hc2935 hc2936 hc2937
                          go_ret
                          rw [← some_eq H]
                          exact ⟨(by first | rfl | (simp [IntKind.wrap_u32]; done)), HS.out⟩
                      · replace H := if_no c2941 H
                        have c2941b0 : (a2889 == 3) = false := beq_eq_false_iff_ne.mpr c2941
                        have c2941b1 : (a2889 != 3) = true := bne_iff_ne.mpr c2941
                        clear c2941
                        have hc2929 : w2927.cell? ⟨g2896, 6, none⟩ = some (.int .i64 a2895) := blk_cellv (HS.out.at0) 6 rfl
                        have hc2932 : w2927.cell? ⟨g2896, 1, none⟩ = some (.int .i64 a2890) := blk_cellv (HS.out.at0) 1 rfl
                        have hc2933 : w2927.cell? ⟨g2896, 2, none⟩ = some (.int .i64 a2891) := blk_cellv (HS.out.at0) 2 rfl
                        have hc2934 : w2927.cell? ⟨g2896, 3, none⟩ = some (.int .i64 a2892) := blk_cellv (HS.out.at0) 3 rfl
                        have hc2935 : w2927.cell? ⟨g2896, 4, none⟩ = some (.int .i64 a2893) := blk_cellv (HS.out.at0) 4 rfl
                        have hc2936 : w2927.cell? ⟨g2896, 5, none⟩ = some (.int .i64 a2894) := blk_cellv (HS.out.at0) 5 rfl
                        have hc2937 : w2927.cell? ⟨g2896, 0, none⟩ = some (.int .i64 a2889) := blk_cellv (HS.out.at0) 0 rfl
                        replace HS : Aside0 (Sep (fps []) w [] w2927) := ⟨HS.out.sub (.cons _ .slnil)⟩
                        go_wp2_with fail
                        clear hc2929 hc2932 hc2933 hc2934 hc2935 hc2936 hc2937
                        go_ret
                        rw [← some_eq H]
                        exact ⟨(by first | rfl | (simp [IntKind.wrap_u32]; done)), HS.out⟩
              · replace H := if_no c2928 H
                have c2928b0 : t2925 = false := by simpa using c2928
                have c2928b1 : (!t2925) = true := by rw [c2928b0]; rfl
                try rw [c2928b1]
                clear c2928
                replace HS : Aside0 (Sep (fps []) w [] w2927) := ⟨HS.out.sub (.cons _ .slnil)⟩
                go_wp2_with fail
                go_ret
                rw [← some_eq H]
                exact ⟨(by first | rfl | (simp [IntKind.wrap_u32]; done)), HS.out⟩
            · replace H := if_no c2923 H
              have c2923b0 : t2920 = false := by simpa using c2923
              have c2923b1 : (!t2920) = true := by rw [c2923b0]; rfl
              try rw [c2923b1]
              clear c2923
              replace HS : Aside0 (Sep (fps []) w [] w2922) := ⟨HS.out.sub (.cons _ .slnil)⟩
              go_wp2_with fail
              go_ret
              rw [← some_eq H]
              exact ⟨(by first | rfl | (simp [IntKind.wrap_u32]; done)), HS.out⟩
          · replace H := if_no c2918 H
            have c2918b0 : t2915 = false := by simpa using c2918
            have c2918b1 : (!t2915) = true := by rw [c2918b0]; rfl
            try rw [c2918b1]
            clear c2918
            replace HS : Aside0 (Sep (fps []) w [] w2917) := ⟨HS.out.sub (.cons _ .slnil)⟩
            go_wp2_with fail
            go_ret
            rw [← some_eq H]
            exact ⟨(by first | rfl | (simp [IntKind.wrap_u32]; done)), HS.out⟩
        · replace H := if_no c2913 H
          have c2913b0 : t2910 = false := by simpa using c2913
          have c2913b1 : (!t2910) = true := by rw [c2913b0]; rfl
          try rw [c2913b1]
          clear c2913
          replace HS : Aside0 (Sep (fps []) w [] w2912) := ⟨HS.out.sub (.cons _ .slnil)⟩
          go_wp2_with fail
          go_ret
          rw [← some_eq H]
          exact ⟨(by first | rfl | (simp [IntKind.wrap_u32]; done)), HS.out⟩
      · replace H := if_no c2908 H
        have c2908b0 : t2905 = false := by simpa using c2908
        have c2908b1 : (!t2905) = true := by rw [c2908b0]; rfl
        try rw [c2908b1]
        clear c2908
        replace HS : Aside0 (Sep (fps []) w [] w2907) := ⟨HS.out.sub (.cons _ .slnil)⟩
        go_wp2_with fail
        go_ret
        rw [← some_eq H]
        exact ⟨(by first | rfl | (simp [IntKind.wrap_u32]; done)), HS.out⟩

set_option maxHeartbeats 30000000 in
set_option maxRecDepth 100000 in
theorem quitrentref06_Pack.calls (a2954 : Int) (a2955 : Int) (a2956 : Int) (a2957 : Int) (a2958 : Int) (a2959 : Int) (a2960 : Int) (r : Int) (w : World)   (HS : Aside0 (Sep (fps []) w [] w)) (H : Aside0 (quitrentref06_Pack.f a2954 a2955 a2956 a2957 a2958 a2959 a2960 = some r)) :
    Calls Try.prog 114 #[.agg #[.int .i64 a2954, .int .i64 a2955, .int .i64 a2956, .int .i64 a2957, .int .i64 a2958, .int .i64 a2959, .int .i64 a2960]] w fun e w' => e = .returned (.int .u32 r) ∧ Sep (fps []) w [] w' := by
  unfold quitrentref06_Pack.f at H
  go_enter Try.func114, Try.ntmps114
  go_wp2_with (first | ((with_reducible refine gate_dst (N := 1) rfl ?_); refine box_on ?hg (N := 1) ?hd (cs := #[.int .i64 a2954, .int .i64 a2955, .int .i64 a2956, .int .i64 a2957, .int .i64 a2958, .int .i64 a2959, .int .i64 a2960]) (t := 102) ?hr ?_; (case hd => rfl); (case hg => rfl); (case hr => first | (go_simp; done) | (go_simp; rfl)); intro g2961 hg w2962 hbox hb; replace HS : Aside0 (Sep (fps []) w [b12 g2961 a2954 a2955 a2956 a2957 a2958 a2959 a2960] w2962) := ⟨HS.out.box hg hbox hb⟩; clear hg hbox hb; have hc2964 : w2962.cell? ⟨g2961, 0, none⟩ = some (.int .i64 a2954) := blk_cellv (HS.out.at0) 0 rfl; have hc2965 : w2962.cell? ⟨g2961, 1, none⟩ = some (.int .i64 a2955) := blk_cellv (HS.out.at0) 1 rfl; have hc2966 : w2962.cell? ⟨g2961, 2, none⟩ = some (.int .i64 a2956) := blk_cellv (HS.out.at0) 2 rfl; have hc2967 : w2962.cell? ⟨g2961, 3, none⟩ = some (.int .i64 a2957) := blk_cellv (HS.out.at0) 3 rfl; have hc2968 : w2962.cell? ⟨g2961, 4, none⟩ = some (.int .i64 a2958) := blk_cellv (HS.out.at0) 4 rfl; have hc2969 : w2962.cell? ⟨g2961, 5, none⟩ = some (.int .i64 a2959) := blk_cellv (HS.out.at0) 5 rfl; have hc2970 : w2962.cell? ⟨g2961, 6, none⟩ = some (.int .i64 a2960) := blk_cellv (HS.out.at0) 6 rfl; replace HS : Aside0 (Sep (fps []) w [] w2962) := ⟨HS.out.sub (.cons _ .slnil)⟩))
  clear hc2964 hc2965 hc2966 hc2967 hc2968 hc2969 hc2970
  go_ret
  rw [← some_eq H]
  exact ⟨(by first | rfl | (simp [IntKind.wrap_u32]; done)), HS.out⟩

set_option maxHeartbeats 30000000 in
set_option maxRecDepth 100000 in
theorem quitrentlaw10_use.calls (k : Nat) (l2829 : List Int) (a2834 : Int) (a2835 : Int) (a2836 : Int) (a2837 : Int) (a2838 : Int) (a2839 : Int) (a2840 : Int) (a2841 : Int) (a2842 : Int) (a2843 : Int) (a2844 : Int) (a2845 : Int) (a2846 : Int) (a2847 : Int) (a2848 : Int) (a2849 : Int) (g2825 : Nat) (g2827 : Nat) (A2830 : Option Addr) (m2831 : Nat) (n2832 : Nat) (r : Int × List Int) (w : World)   (HS : Aside0 (Sep (fps [b7 g2825 g2827 a2835 a2836 a2837 a2838, b6 g2827 A2830 m2831 n2832 a2834, r5 A2830 m2831 n2832 l2829]) w [b7 g2825 g2827 a2835 a2836 a2837 a2838, b6 g2827 A2830 m2831 n2832 a2834, r5 A2830 m2831 n2832 l2829] w)) (H : Aside0 (quitrentlaw10_use.f k l2829 a2834 a2835 a2836 a2837 a2838 a2839 a2840 a2841 a2842 a2843 a2844 a2845 a2846 a2847 a2848 a2849 = some r)) :
    Calls Try.prog 102 #[.pointer (some ⟨g2825, 0, none⟩), .int .i64 a2839, .agg #[.int .u8 a2840, .int .i64 a2841, .int .i64 a2842, .int .i64 a2843, .int .i64 a2844, .int .i64 a2845, .int .i64 a2846, .int .i64 a2847, .int .i64 a2848, .int .u32 a2849]] w fun e w' => e = .returned (.tuple #[]) ∧ Sep (fps [b7 g2825 g2827 a2835 a2836 a2837 a2838, b6 g2827 A2830 m2831 n2832 a2834, r5 A2830 m2831 n2832 l2829]) w [b7 g2825 g2827 a2835 a2836 a2837 a2838, b6 g2827 A2830 m2831 n2832 r.1, r5 A2830 m2831 n2832 r.2] w' := by
  generalize (fps [b7 g2825 g2827 a2835 a2836 a2837 a2838, b6 g2827 A2830 m2831 n2832 a2834, r5 A2830 m2831 n2832 l2829]) = FF at HS ⊢
  obtain rfl := (row_len (HS.out.at2)).symm
  unfold quitrentlaw10_use.f at H
  go_enter Try.func102, Try.ntmps102
  go_wp2_with (first | ((with_reducible refine gate_dst (N := 5) rfl ?_); refine box_on ?hg (N := 5) ?hd (cs := #[.int .u8 a2840, .int .i64 a2841, .int .i64 a2842, .int .i64 a2843, .int .i64 a2844, .int .i64 a2845, .int .i64 a2846, .int .i64 a2847, .int .i64 a2848, .int .u32 a2849]) (t := 104) ?hr ?_; (case hd => rfl); (case hg => rfl); (case hr => first | (go_simp; done) | (go_simp; rfl)); intro g2977 hg w2978 hbox hb; replace HS : Aside0 (Sep FF w [b7 g2825 g2827 a2835 a2836 a2837 a2838, b6 g2827 A2830 l2829.length n2832 a2834, r5 A2830 l2829.length n2832 l2829, b15 g2977 a2840 a2841 a2842 a2843 a2844 a2845 a2846 a2847 a2848 a2849] w2978) := ⟨HS.out.box hg hbox hb⟩; clear hg hbox hb))
  obtain ⟨o2995, AL2996, H⟩ := bind_some H
  go_loopg [6] k (fun kq v6 wc => ∃ (x2999 : Int) (x3000 : List Int) (x3001 : Int), v6 = .int .i64 x2999 ∧ Aside0 (quitrentlaw10_use.lo0 kq a2835 a2836 a2837 a2838 a2839 a2849 x2999 x3000 x3001 = some o2995) ∧ Aside0 (Sep FF w [b7 g2825 g2827 a2835 a2836 a2837 a2838, b6 g2827 A2830 l2829.length n2832 x3001, r5 A2830 l2829.length n2832 x3000, b15 g2977 a2840 a2841 a2842 a2843 a2844 a2845 a2846 a2847 a2848 a2849] wc))
  case atStart => exact ⟨(1), (l2829), (a2834), (by first | rfl | (simp [IntKind.wrap_u32]; done)), AL2996, ⟨HS.out⟩⟩
  case round =>
    clear AL2996 HS
    obtain ⟨x2999, x3000, x3001, rfl, AL2996, HS⟩ := hrel
    obtain ⟨w2997, rfl⟩ : ∃ x : World, x = wr := ⟨_, rfl⟩
    cases gk with
    | zero => exact absurd AL2996.out (by simp [quitrentlaw10_use.lo0])
    | succ k2998 =>
      have AL0 := AL2996.out
      rw [quitrentlaw10_use.lo0] at AL0
      clear AL2996
      have AL2996 := Aside0.mk AL0
      clear AL0
      go_wp2_with fail
      obtain ⟨t2986, HA3002, AL2996⟩ := bind_some AL2996
      refine (ground_Ground_Conf.calls x3000 x3001 a2835 a2836 a2837 a2838 g2825 g2827 A2830 l2829.length n2832 t2986 _ ⟨HS.out.begin⟩ HA3002).mono ?_
      rintro e_ w3003 ⟨rfl, hS⟩
      replace HS : Aside0 (Sep FF w [b7 g2825 g2827 a2835 a2836 a2837 a2838, b6 g2827 A2830 l2829.length n2832 x3001, r5 A2830 l2829.length n2832 x3000, b15 g2977 a2840 a2841 a2842 a2843 a2844 a2845 a2846 a2847 a2848 a2849] w3003) := ⟨HS.out.call hS⟩
      clear hS
      by_cases c3005 : x2999 < t2986.2.1
      · replace AL2996 := if_yes c3005 AL2996
        have c3005b0 : decide (x2999 < t2986.2.1) = true := decide_eq_true c3005
        clear c3005
        have fl3004 : ∀ w, (Instr.field 49 (.agg #[.int .i64 t2986.1, .int .i64 t2986.2.1, .int .i64 t2986.2.2.1, .int .i64 t2986.2.2.2]) 1).run Try.prog w = .ok (.int .i64 t2986.2.1) w := fun _ => by kernel_rfl
        have hc3006 : w3003.cell? ⟨g2977, 9, none⟩ = some (.int .u32 a2849) := blk_cellv (HS.out.at3) 9 rfl
        go_wp2_with fail
        clear fl3004 hc3006
        obtain ⟨t2992, HA3007, AL2996⟩ := bind_some AL2996
        refine (ground_Ground_SetWord.calls x3000 x3001 a2835 a2836 a2837 a2838 a2839 x2999 a2849 g2825 g2827 A2830 l2829.length n2832 t2992 _ ⟨HS.out.begin⟩ HA3007).mono ?_
        rintro e_ w3008 ⟨rfl, hS⟩
        replace HS : Aside0 (Sep FF w [b7 g2825 g2827 a2835 a2836 a2837 a2838, b6 g2827 A2830 l2829.length n2832 t2992.2.1, r5 A2830 l2829.length n2832 t2992.2.2, b15 g2977 a2840 a2841 a2842 a2843 a2844 a2845 a2846 a2847 a2848 a2849] w3008) := ⟨HS.out.call hS⟩
        clear hS
        go_wp2_with fail
        go_roundg k2998
        case measure => exact Nat.lt_succ_self _
        case rel => exact ⟨(wrap64 (x2999 + 1)), (t2992.2.2), (t2992.2.1), (by first | rfl | (simp [IntKind.wrap_u32]; done)), Aside0.mk AL2996.out, ⟨HS.out⟩⟩
      · replace AL2996 := if_no c3005 AL2996
        have c3005b0 : decide (x2999 < t2986.2.1) = false := decide_eq_false c3005
        clear c3005
        have ho := some_eq AL2996
        subst ho
        clear AL2996
        have fl3004 : ∀ w, (Instr.field 49 (.agg #[.int .i64 t2986.1, .int .i64 t2986.2.1, .int .i64 t2986.2.2.1, .int .i64 t2986.2.2.2]) 1).run Try.prog w = .ok (.int .i64 t2986.2.1) w := fun _ => by kernel_rfl
        have hc3009 : w3003.cell? ⟨g2977, 2, none⟩ = some (.int .i64 a2842) := blk_cellv (HS.out.at3) 2 rfl
        have hc3010 : w3003.cell? ⟨g2977, 3, none⟩ = some (.int .i64 a2843) := blk_cellv (HS.out.at3) 3 rfl
        have hc3011 : w3003.cell? ⟨g2977, 4, none⟩ = some (.int .i64 a2844) := blk_cellv (HS.out.at3) 4 rfl
        have hc3012 : w3003.cell? ⟨g2977, 5, none⟩ = some (.int .i64 a2845) := blk_cellv (HS.out.at3) 5 rfl
        have hc3013 : w3003.cell? ⟨g2977, 6, none⟩ = some (.int .i64 a2846) := blk_cellv (HS.out.at3) 6 rfl
        have hc3014 : w3003.cell? ⟨g2977, 7, none⟩ = some (.int .i64 a2847) := blk_cellv (HS.out.at3) 7 rfl
        have hc3015 : w3003.cell? ⟨g2977, 8, none⟩ = some (.int .i64 a2848) := blk_cellv (HS.out.at3) 8 rfl
        go_wp2_with fail
        clear fl3004 hc3009 hc3010 hc3011 hc3012 hc3013 hc3014 hc3015
        obtain ⟨t3016, HA3017, H⟩ := bind_some H
        refine (quitrentref06_Right.calls a2842 a2843 a2844 a2845 a2846 a2847 a2848 t3016 _ ⟨Sep.start _⟩ HA3017).mono ?_
        rintro e_ w3018 ⟨rfl, hS⟩
        replace HS : Aside0 (Sep FF w [b7 g2825 g2827 a2835 a2836 a2837 a2838, b6 g2827 A2830 l2829.length n2832 x3001, r5 A2830 l2829.length n2832 x3000, b15 g2977 a2840 a2841 a2842 a2843 a2844 a2845 a2846 a2847 a2848 a2849] w3018) := ⟨HS.out.call hS⟩
        clear hS
        by_cases c3019 : t3016 = true
        · replace H := if_yes c3019 H
          have c3019b0 : t3016 = true := c3019
          have c3019b1 : (!t3016) = false := by rw [c3019b0]; rfl
          clear c3019
          have hc3020 : w3018.cell? ⟨g2977, 2, none⟩ = some (.int .i64 a2842) := blk_cellv (HS.out.at3) 2 rfl
          have hc3021 : w3018.cell? ⟨g2977, 3, none⟩ = some (.int .i64 a2843) := blk_cellv (HS.out.at3) 3 rfl
          have hc3022 : w3018.cell? ⟨g2977, 4, none⟩ = some (.int .i64 a2844) := blk_cellv (HS.out.at3) 4 rfl
          have hc3023 : w3018.cell? ⟨g2977, 5, none⟩ = some (.int .i64 a2845) := blk_cellv (HS.out.at3) 5 rfl
          have hc3024 : w3018.cell? ⟨g2977, 6, none⟩ = some (.int .i64 a2846) := blk_cellv (HS.out.at3) 6 rfl
          have hc3025 : w3018.cell? ⟨g2977, 7, none⟩ = some (.int .i64 a2847) := blk_cellv (HS.out.at3) 7 rfl
          have hc3026 : w3018.cell? ⟨g2977, 8, none⟩ = some (.int .i64 a2848) := blk_cellv (HS.out.at3) 8 rfl
          go_wp2_with fail
          clear hc3020 hc3021 hc3022 hc3023 hc3024 hc3025 hc3026
          obtain ⟨t3027, HA3028, H⟩ := bind_some H
          refine (quitrentref06_Pack.calls a2842 a2843 a2844 a2845 a2846 a2847 a2848 t3027 _ ⟨Sep.start _⟩ HA3028).mono ?_
          rintro e_ w3029 ⟨rfl, hS⟩
          replace HS : Aside0 (Sep FF w [b7 g2825 g2827 a2835 a2836 a2837 a2838, b6 g2827 A2830 l2829.length n2832 x3001, r5 A2830 l2829.length n2832 x3000, b15 g2977 a2840 a2841 a2842 a2843 a2844 a2845 a2846 a2847 a2848 a2849] w3029) := ⟨HS.out.call hS⟩
          clear hS
          go_wp2_with fail
          obtain ⟨t3030, HA3031, H⟩ := bind_some H
          refine (ground_Ground_SetWord.calls x3000 x3001 a2835 a2836 a2837 a2838 a2839 0 t3027 g2825 g2827 A2830 l2829.length n2832 t3030 _ ⟨HS.out.begin⟩ HA3031).mono ?_
          rintro e_ w3032 ⟨rfl, hS⟩
          replace HS : Aside0 (Sep FF w [b7 g2825 g2827 a2835 a2836 a2837 a2838, b6 g2827 A2830 l2829.length n2832 t3030.2.1, r5 A2830 l2829.length n2832 t3030.2.2, b15 g2977 a2840 a2841 a2842 a2843 a2844 a2845 a2846 a2847 a2848 a2849] w3032) := ⟨HS.out.call hS⟩
          clear hS
          replace HS : Aside0 (Sep FF w [b7 g2825 g2827 a2835 a2836 a2837 a2838, b6 g2827 A2830 l2829.length n2832 t3030.2.1, r5 A2830 l2829.length n2832 t3030.2.2] w3032) := ⟨HS.out.sub (.cons_cons _ (.cons_cons _ (.cons_cons _ (.cons _ .slnil))))⟩
          go_wp2_with fail
          first | go_end0 | refine bodyPost_ret (results_none rfl _ _ _) rfl ?_
          rw [← some_eq H]
          exact ⟨rfl, HS.out⟩
        · replace H := if_no c3019 H
          have c3019b0 : t3016 = false := by simpa using c3019
          have c3019b1 : (!t3016) = true := by rw [c3019b0]; rfl
          clear c3019
          go_wp2_with fail
          first | go_end0 | refine bodyPost_ret (results_none rfl _ _ _) rfl ?_
          rw [← some_eq H]
          exact ⟨rfl, HS.out.sub (.cons_cons _ (.cons_cons _ (.cons_cons _ (.cons _ .slnil))))⟩

set_option maxHeartbeats 30000000 in
set_option maxRecDepth 100000 in
theorem quitrentref08_Rest.calls (k : Nat) (l3058 : List Int) (A3059 : Option Addr) (n3060 : Nat) (r : List Int) (w : World) (HR3061 : Aside0 (Rd (Kd.int .i64) (fps []) w A3059 l3058.length l3058))  (HS : Aside0 (Sep (fps []) w [] w)) (H : Aside0 (quitrentref08_Rest.f k l3058 = some r)) :
    Calls Try.prog 97 #[.slice A3059 l3058.length n3060] w fun e w' => ∃ (A3104 : Option Addr) (m3105 : Nat) (n3106 : Nat), e = .returned (.slice A3104 m3105 n3106) ∧ Sep (fps []) w [r13 A3104 m3105 n3106 r] w' := by
  unfold quitrentref08_Rest.f at H
  go_enter Try.func97, Try.ntmps97
  go_wp2_with fail
  replace HS : Aside0 (Sep (fps []) w [r13 none 0 0 []] w) := ⟨HS.out.nilrow 3 (Value.int .i64)⟩
  obtain ⟨o3063, AL3064, H⟩ := bind_some H
  go_loopg [3, 4] k (fun kq v3 v4 wc => ∃ (x3069 : Int) (x3070 : List Int) (A3071 : Option Addr) (m3072 : Nat) (n3073 : Nat), v3 = .slice A3071 m3072 n3073 ∧ v4 = .int .i64 x3069 ∧ Aside0 (quitrentref08_Rest.lo0 kq l3058 x3069 x3070 = some o3063) ∧ Aside0 (Sep (fps []) w [r13 A3071 m3072 n3073 x3070] wc))
  case atStart => exact ⟨(1), (([] : List Int)), (none), (0), (0), (by first | rfl | (simp [IntKind.wrap_u32]; done)), (by first | rfl | (simp [IntKind.wrap_u32]; done)), AL3064, ⟨HS.out⟩⟩
  case round =>
    clear AL3064 HS
    obtain ⟨x3069, x3070, A3071, m3072, n3073, rfl, rfl, AL3064, HS⟩ := hrel
    obtain ⟨w3065, rfl⟩ : ∃ x : World, x = wr := ⟨_, rfl⟩
    obtain rfl := (row_len (HS.out.at0)).symm
    cases gk with
    | zero => exact absurd AL3064.out (by simp [quitrentref08_Rest.lo0])
    | succ k3066 =>
      have AL0 := AL3064.out
      rw [quitrentref08_Rest.lo0] at AL0
      clear AL3064
      have AL3064 := Aside0.mk AL0
      clear AL0
      by_cases c3075 : x3069 < (l3058.length : Int)
      · replace AL3064 := if_yes c3075 AL3064
        have c3075b0 : decide (x3069 < (l3058.length : Int)) = true := decide_eq_true c3075
        clear c3075
        by_cases c3076 : 0 ≤ x3069
        · replace AL3064 := if_yes c3076 AL3064
          have c3076b0 : decide (0 ≤ x3069) = true := decide_eq_true c3076
          have c3076p : (0 ≤ x3069) = True := eq_true c3076
          clear c3076
          have ip3077 : (x3069 < (l3058.length : Int)) = True := eq_true (of_decide_eq_true c3075b0)
          by_cases c3082 : x3070.length < 17592186044416
          · replace AL3064 := if_yes c3082 AL3064
            have c3082b0 : decide (x3070.length < 17592186044416) = true := decide_eq_true c3082
            clear c3082
            obtain ⟨y3086, HA3087, AL3064⟩ := bind_some AL3064
            obtain ⟨hx3078a, hx3078e, hx3078⟩ := Kd.at_int (Rd.read (fun _ _ _ _ h => h) HR3061.out HS.out.fr) x3069 (of_decide_eq_true c3076b0) (of_decide_eq_true c3075b0); cases hx3078e
            go_wp2_with (first | ((with_reducible refine gate_dst (N := 16) rfl ?_); refine slice_on (n := 1) ?hg (N := 16) ?hd (cs := #[.int .i64 (rd l3058 x3069)]) (t := 3) ?hr ?_; (case hd => rfl); (case hg => rfl); (case hr => first | (go_simp; done) | (go_simp; rfl)); intro g3079 hg w3080 hbox hb; clear hx3078; replace HS : Aside0 (Sep (fps []) w [r13 A3071 x3070.length n3073 x3070, b10 g3079 (rd l3058 x3069)] w3080) := ⟨HS.out.box hg hbox hb⟩; clear hg hbox hb) | ((with_reducible refine gate_dst (N := 17) rfl ?_); refine append_event (l1 := []) (l2 := [b10 g3079 (rd l3058 x3069)]) rfl (.tmp 11) (.tmp 16) 78 3 (.int .i64 0) 8 rfl Try.underlying78 (by kernel_rfl) rfl (by decide) (Value.int .i64) (fun _ => rfl) (.slice A3071 x3070.length n3073) (x3070 : List Int) [rd l3058 x3069] ⟨g3079, 0, none⟩ 1 rfl rfl (blk_news (xs := [rd l3058 x3069]) (HS.out.at1)) HS.out (by have := of_decide_eq_true c3082b0; simp only [List.length_cons, List.length_nil]; omega) HA3087 ?_; intro A3083 n3084 w3085 HS1; replace HS : Aside0 (Sep (fps []) w [r13 A3083 y3086.length n3084 y3086, b10 g3079 (rd l3058 x3069)] w3085) := ⟨HS1⟩; clear HS1; replace HS : Aside0 (Sep (fps []) w [r13 A3083 y3086.length n3084 y3086] w3085) := ⟨HS.out.sub (.cons_cons _ (.cons _ .slnil))⟩))
            go_roundg k3066
            case measure => exact Nat.lt_succ_self _
            case rel => exact ⟨(wrap64 (x3069 + 1)), (y3086), (A3083), (y3086.length), (n3084), (by first | rfl | (simp [IntKind.wrap_u32]; done)), (by first | rfl | (simp [IntKind.wrap_u32]; done)), Aside0.mk AL3064.out, ⟨HS.out⟩⟩
          · replace AL3064 := if_no c3082 AL3064
            have c3082b0 : decide (x3070.length < 17592186044416) = false := decide_eq_false c3082
            clear c3082
            exact (none_no AL3064).elim
        · replace AL3064 := if_no c3076 AL3064
          have c3076b0 : decide (0 ≤ x3069) = false := decide_eq_false c3076
          clear c3076
          exact (none_no AL3064).elim
      · replace AL3064 := if_no c3075 AL3064
        have c3075b0 : decide (x3069 < (l3058.length : Int)) = false := decide_eq_false c3075
        clear c3075
        have ho := some_eq AL3064
        subst ho
        clear AL3064
        go_wp2_with fail
        go_ret
        rw [← some_eq H]
        exact ⟨A3071, x3070.length, n3073, (by first | rfl | (simp [IntKind.wrap_u32]; done)), HS.out⟩

set_option maxHeartbeats 30000000 in
set_option maxRecDepth 100000 in
theorem quitrentref08_Front.calls (k : Nat) (l3194 : List Int) (a3198 : Int) (A3195 : Option Addr) (n3196 : Nat) (r : List Int) (w : World) (HR3197 : Aside0 (Rd (Kd.int .i64) (fps []) w A3195 l3194.length l3194))  (HS : Aside0 (Sep (fps []) w [] w)) (H : Aside0 (quitrentref08_Front.f k l3194 a3198 = some r)) :
    Calls Try.prog 95 #[.slice A3195 l3194.length n3196, .int .i64 a3198] w fun e w' => ∃ (A3243 : Option Addr) (m3244 : Nat) (n3245 : Nat), e = .returned (.slice A3243 m3244 n3245) ∧ Sep (fps []) w [r13 A3243 m3244 n3245 r] w' := by
  unfold quitrentref08_Front.f at H
  go_enter Try.func95, Try.ntmps95
  go_wp2_with (first | ((with_reducible refine gate_dst (N := 8) rfl ?_); refine slice_on (n := 1) ?hg (N := 8) ?hd (cs := #[.int .i64 a3198]) (t := 3) ?hr ?_; (case hd => rfl); (case hg => rfl); (case hr => first | (go_simp; done) | (go_simp; rfl)); intro g3199 hg w3200 hbox hb; replace HS : Aside0 (Sep (fps []) w [b10 g3199 a3198] w3200) := ⟨HS.out.box hg hbox hb⟩; clear hg hbox hb))
  replace HS : Aside0 (Sep (fps []) w [r13 (some ⟨g3199, 0, none⟩) 1 1 [a3198]] w3200) := ⟨Sep.litrow (l1 := []) (l2 := []) (enc := Value.int .i64) (xs := [a3198]) (n := 1) HS.out rfl (by decide)⟩
  obtain ⟨o3203, AL3204, H⟩ := bind_some H
  go_loopg [5, 6] k (fun kq v5 v6 wc => ∃ (x3208 : Int) (x3209 : List Int) (A3210 : Option Addr) (m3211 : Nat) (n3212 : Nat), v5 = .slice A3210 m3211 n3212 ∧ v6 = .int .i64 x3208 ∧ Aside0 (quitrentref08_Front.lo0 kq l3194 x3208 x3209 = some o3203) ∧ Aside0 (Sep (fps []) w [r13 A3210 m3211 n3212 x3209] wc))
  case atStart => exact ⟨(0), ([a3198]), ((some ⟨g3199, 0, none⟩)), (1), (1), (by first | rfl | (simp [IntKind.wrap_u32]; done)), (by first | rfl | (simp [IntKind.wrap_u32]; done)), AL3204, ⟨HS.out⟩⟩
  case round =>
    clear AL3204 HS
    obtain ⟨x3208, x3209, A3210, m3211, n3212, rfl, rfl, AL3204, HS⟩ := hrel
    obtain ⟨w3205, rfl⟩ : ∃ x : World, x = wr := ⟨_, rfl⟩
    obtain rfl := (row_len (HS.out.at0)).symm
    cases gk with
    | zero => exact absurd AL3204.out (by simp [quitrentref08_Front.lo0])
    | succ k3206 =>
      have AL0 := AL3204.out
      rw [quitrentref08_Front.lo0] at AL0
      clear AL3204
      have AL3204 := Aside0.mk AL0
      clear AL0
      by_cases c3214 : x3208 < (l3194.length : Int)
      · replace AL3204 := if_yes c3214 AL3204
        have c3214b0 : decide (x3208 < (l3194.length : Int)) = true := decide_eq_true c3214
        clear c3214
        by_cases c3215 : 0 ≤ x3208
        · replace AL3204 := if_yes c3215 AL3204
          have c3215b0 : decide (0 ≤ x3208) = true := decide_eq_true c3215
          have c3215p : (0 ≤ x3208) = True := eq_true c3215
          clear c3215
          have ip3216 : (x3208 < (l3194.length : Int)) = True := eq_true (of_decide_eq_true c3214b0)
          by_cases c3221 : x3209.length < 17592186044416
          · replace AL3204 := if_yes c3221 AL3204
            have c3221b0 : decide (x3209.length < 17592186044416) = true := decide_eq_true c3221
            clear c3221
            obtain ⟨y3225, HA3226, AL3204⟩ := bind_some AL3204
            obtain ⟨hx3217a, hx3217e, hx3217⟩ := Kd.at_int (Rd.read (fun _ _ _ _ h => h) HR3197.out HS.out.fr) x3208 (of_decide_eq_true c3215b0) (of_decide_eq_true c3214b0); cases hx3217e
            go_wp2_with (first | ((with_reducible refine gate_dst (N := 20) rfl ?_); refine slice_on (n := 1) ?hg (N := 20) ?hd (cs := #[.int .i64 (rd l3194 x3208)]) (t := 3) ?hr ?_; (case hd => rfl); (case hg => rfl); (case hr => first | (go_simp; done) | (go_simp; rfl)); intro g3218 hg w3219 hbox hb; clear hx3217; replace HS : Aside0 (Sep (fps []) w [r13 A3210 x3209.length n3212 x3209, b10 g3218 (rd l3194 x3208)] w3219) := ⟨HS.out.box hg hbox hb⟩; clear hg hbox hb) | ((with_reducible refine gate_dst (N := 21) rfl ?_); refine append_event (l1 := []) (l2 := [b10 g3218 (rd l3194 x3208)]) rfl (.tmp 15) (.tmp 20) 78 3 (.int .i64 0) 8 rfl Try.underlying78 (by kernel_rfl) rfl (by decide) (Value.int .i64) (fun _ => rfl) (.slice A3210 x3209.length n3212) (x3209 : List Int) [rd l3194 x3208] ⟨g3218, 0, none⟩ 1 rfl rfl (blk_news (xs := [rd l3194 x3208]) (HS.out.at1)) HS.out (by have := of_decide_eq_true c3221b0; simp only [List.length_cons, List.length_nil]; omega) HA3226 ?_; intro A3222 n3223 w3224 HS1; replace HS : Aside0 (Sep (fps []) w [r13 A3222 y3225.length n3223 y3225, b10 g3218 (rd l3194 x3208)] w3224) := ⟨HS1⟩; clear HS1; replace HS : Aside0 (Sep (fps []) w [r13 A3222 y3225.length n3223 y3225] w3224) := ⟨HS.out.sub (.cons_cons _ (.cons _ .slnil))⟩))
            go_roundg k3206
            case measure => exact Nat.lt_succ_self _
            case rel => exact ⟨(wrap64 (x3208 + 1)), (y3225), (A3222), (y3225.length), (n3223), (by first | rfl | (simp [IntKind.wrap_u32]; done)), (by first | rfl | (simp [IntKind.wrap_u32]; done)), Aside0.mk AL3204.out, ⟨HS.out⟩⟩
          · replace AL3204 := if_no c3221 AL3204
            have c3221b0 : decide (x3209.length < 17592186044416) = false := decide_eq_false c3221
            clear c3221
            exact (none_no AL3204).elim
        · replace AL3204 := if_no c3215 AL3204
          have c3215b0 : decide (0 ≤ x3208) = false := decide_eq_false c3215
          clear c3215
          exact (none_no AL3204).elim
      · replace AL3204 := if_no c3214 AL3204
        have c3214b0 : decide (x3208 < (l3194.length : Int)) = false := decide_eq_false c3214
        clear c3214
        have ho := some_eq AL3204
        subst ho
        clear AL3204
        go_wp2_with fail
        go_ret
        rw [← some_eq H]
        exact ⟨A3210, x3209.length, n3212, (by first | rfl | (simp [IntKind.wrap_u32]; done)), HS.out⟩
end Go.Proofs.Ytobeonkddamnoaa.C

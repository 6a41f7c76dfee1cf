/- Each function of the group WT does what its plain function says, and changes nothing that was there; proved by walking its code. No condition. -/
import Derived.Test.YtobeonkddamnoaaDoorQw
import Derived.Test.YtobeonkddamnoaaDoorMWT
import Derived.Test.YtobeonkddamnoaaDoorGWT0
import Derived.Test.YtobeonkddamnoaaDoorGWT1
namespace Go.Proofs.YtobeonkddamnoaaDoor.C
open Go.RowKit Go.Proofs.YtobeonkddamnoaaDoorW.PrintWords Go.Proofs.YtobeonkddamnoaaDoorW.PrintLast Go.Proofs.YtobeonkddamnoaaDoor.Q Go.Proofs.YtobeonkddamnoaaDoor.M
set_option linter.unusedVariables false
set_option linter.unusedSimpArgs false
set_option maxHeartbeats 30000000 in
set_option maxRecDepth 100000 in
theorem quitrenttop_WholeTags.calls (k : Nat) (a1 : Int) (l2 : List (Int × Int × Int × Int × Int × Int × Int)) (l6 : List Int) (A3 : Option Addr) (n4 : Nat) (A7 : Option Addr) (n8 : Nat) (r : Bool) (w : World) (HR5 : Aside0 (Rd s16 (fps []) w A3 l2.length l2)) (HR9 : Aside0 (Rd (Kd.int .u8) (fps []) w A7 l6.length l6)) (HGl0 : Aside0 (Gl 0 #[.int .i64 0, .int .i64 0, .int .i64 0, .int .i64 0, .int .i64 0] (fps []) w)) (HS : Aside0 (Sep (fps []) w [] w)) (H : Aside0 (quitrenttop_WholeTags.f k a1 l2 l6 = some r)) :
    Calls Tryd.prog 3 #[.int .u8 a1, .slice A3 l2.length n4, .slice A7 l6.length n8] w fun e w' => e = .returned (.bool r) ∧ Sep (fps []) w [] w' := by
  unfold quitrenttop_WholeTags.f at H
  go_enter Tryd.func3, Tryd.ntmps3
  go_wp2_with fail
  obtain ⟨t492, HA493, H⟩ := bind_some H
  refine (quitrenttop_awakeShape.calls _ t492 _ ⟨HGl0.out.pass (l := []) HS.out⟩ ⟨Sep.start _⟩ HA493).mono ?_
  rintro e_ w494 ⟨rfl, hS⟩
  replace HS : Aside0 (Sep (fps []) w [] w494) := ⟨HS.out.call hS⟩
  clear hS
  by_cases c495 : t492 = true
  · replace H := if_yes c495 H
    have c495b0 : t492 = true := c495
    have c495b1 : (!t492) = false := by rw [c495b0]; rfl
    try rw [c495b1]
    clear c495
    by_cases c496 : a1 < 1
    · replace H := if_yes c496 H
      have c496b0 : decide (a1 < 1) = true := decide_eq_true c496
      clear c496
      go_wp2_with fail
      obtain ⟨t497, HA498, H⟩ := bind_some H
      refine (quitrenttop_awakeShape.calls _ t497 _ ⟨HGl0.out.pass (l := []) HS.out⟩ ⟨Sep.start _⟩ HA498).mono ?_
      rintro e_ w499 ⟨rfl, hS⟩
      replace HS : Aside0 (Sep (fps []) w [] w499) := ⟨HS.out.call hS⟩
      clear hS
      go_wp2_with fail
      go_ret
      rw [← some_eq H]
      exact ⟨(by first | rfl | (simp [IntKind.wrap_u32]; done)), HS.out⟩
    · replace H := if_no c496 H
      have c496b0 : decide (a1 < 1) = false := decide_eq_false c496
      clear c496
      by_cases c500 : a1 > 60
      · replace H := if_yes c500 H
        have c500b0 : decide (60 < a1) = true := decide_eq_true c500
        clear c500
        go_wp2_with fail
        obtain ⟨t497, HA501, H⟩ := bind_some H
        refine (quitrenttop_awakeShape.calls _ t497 _ ⟨HGl0.out.pass (l := []) HS.out⟩ ⟨Sep.start _⟩ HA501).mono ?_
        rintro e_ w502 ⟨rfl, hS⟩
        replace HS : Aside0 (Sep (fps []) w [] w502) := ⟨HS.out.call hS⟩
        clear hS
        go_wp2_with fail
        go_ret
        rw [← some_eq H]
        exact ⟨(by first | rfl | (simp [IntKind.wrap_u32]; done)), HS.out⟩
      · replace H := if_no c500 H
        have c500b0 : decide (60 < a1) = false := decide_eq_false c500
        clear c500
        by_cases c503 : (l2.length : Int) > 60
        · replace H := if_yes c503 H
          have c503b0 : decide (60 < (l2.length : Int)) = true := decide_eq_true c503
          have c503b1 : decide (60 < l2.length) = true := decide_eq_true (by omega)
          clear c503
          go_wp2_with fail
          obtain ⟨t497, HA504, H⟩ := bind_some H
          refine (quitrenttop_awakeShape.calls _ t497 _ ⟨HGl0.out.pass (l := []) HS.out⟩ ⟨Sep.start _⟩ HA504).mono ?_
          rintro e_ w505 ⟨rfl, hS⟩
          replace HS : Aside0 (Sep (fps []) w [] w505) := ⟨HS.out.call hS⟩
          clear hS
          go_wp2_with fail
          go_ret
          rw [← some_eq H]
          exact ⟨(by first | rfl | (simp [IntKind.wrap_u32]; done)), HS.out⟩
        · replace H := if_no c503 H
          have c503b0 : decide (60 < (l2.length : Int)) = false := decide_eq_false c503
          have c503b1 : decide (60 < l2.length) = false := decide_eq_false (by omega)
          clear c503
          go_wp2_with fail
          obtain ⟨t1268, HA1269, H⟩ := bind_some H
          rcases t1268 with t1270 | (t1271 | t1272)
          · have H := sum_l H
            refine (ground_New.calls _ (wrap64 (a1)) 16 1 1 (.inl t1270) _ ⟨HGl0.out.pass (l := []) HS.out⟩ ⟨Sep.start _⟩ HA1269).mono ?_
            rintro e_ w1273 ⟨rfl, hS⟩
            replace HS : Aside0 (Sep (fps []) w [] w1273) := ⟨HS.out.call hS⟩
            clear hS
            go_wp2_with fail
            go_ret
            rw [← some_eq H]
            exact ⟨(by first | rfl | (simp [IntKind.wrap_u32]; done)), HS.out⟩
          · have H := sum_r H
            have H := sum_l H
            refine (ground_New.calls _ (wrap64 (a1)) 16 1 1 (.inr (.inl t1271)) _ ⟨HGl0.out.pass (l := []) HS.out⟩ ⟨Sep.start _⟩ HA1269).mono ?_
            rintro e_ w1274 ⟨g1278, rfl, g1279, A1280, m1281, n1282, hS⟩
            replace HS : Aside0 (Sep (fps []) w [b13 g1278 g1279 t1271.1 t1271.2.1 t1271.2.2.1 t1271.2.2.2.1, b12 g1279 A1280 m1281 n1282 0, r4 A1280 m1281 n1282 t1271.2.2.2.2] w1274) := ⟨HS.out.call hS⟩
            clear hS
            obtain rfl := (row_len (HS.out.at2)).symm
            obtain ⟨m1284, HA1285, H⟩ := bind_some H
            obtain ⟨hm1286, hn1287⟩ := mkLen_eq HA1285
            have hm1286H := Aside0.mk hm1286
            clear hm1286
            go_wp2_with (first | ((with_reducible refine gate_dst (N := 44) rfl ?_); refine smake_event rfl (N := 44) rfl 22 32 (.tmp 43) (.tmp 43) rfl .u8 (.agg #[.int .i64 0, .int .i64 0, .int .i64 0, .int .i64 0, .int .i64 0, .int .i64 0, .int .i64 0]) 7 56 Tryd.underlying22 (by kernel_rfl) (by decide) (by decide) e14 (0, 0, 0, 0, 0, 0, 0) (by first | rfl | simp [Value.cells] | kernel_rfl) rfl m1284 (by show Value.int _ _ = _; rw [hm1286H.out]) (by show Value.int _ _ = _; rw [hm1286H.out]) (by omega) HS.out ?_; intro g1288 w1289 HS1; replace HS : Aside0 (Sep (fps []) w [b13 g1278 g1279 t1271.1 t1271.2.1 t1271.2.2.1 t1271.2.2.2.1, b12 g1279 A1280 ((t1271.2.2.2.2).length) n1282 0, r4 A1280 ((t1271.2.2.2.2).length) n1282 t1271.2.2.2.2, r15 g1288 m1284 (List.replicate m1284 ((0, 0, 0, 0, 0, 0, 0) : Int × Int × Int × Int × Int × Int × Int))] w1289) := ⟨HS1⟩; clear HS1))
            obtain ⟨o1662, AL1663, H⟩ := bind_some H
            go_loopg [47] k (fun kq v47 wc => ∃ (x1666 : Int) (x1667 : List Int) (x1668 : List (Int × Int × Int × Int × Int × Int × Int)) (x1669 : Int), v47 = .int .i64 x1666 ∧ Aside0 (quitrenttop_WholeTags.lo0 kq a1 l2 l6 t1271 m1284 x1666 x1667 x1668 x1669 = some o1662) ∧ Aside0 (Sep (fps []) w [b13 g1278 g1279 t1271.1 t1271.2.1 t1271.2.2.1 t1271.2.2.2.1, b12 g1279 A1280 ((t1271.2.2.2.2).length) n1282 x1669, r4 A1280 ((t1271.2.2.2.2).length) n1282 x1667, r15 g1288 m1284 x1668] wc))
            case atStart => exact ⟨(0), (t1271.2.2.2.2), ((List.replicate m1284 ((0, 0, 0, 0, 0, 0, 0) : Int × Int × Int × Int × Int × Int × Int))), (0), (by first | rfl | (simp [IntKind.wrap_u32]; done)), AL1663, ⟨HS.out⟩⟩
            case round =>
              clear AL1663 HS
              obtain ⟨x1666, x1667, x1668, x1669, rfl, AL1663, HS⟩ := hrel
              obtain ⟨w1664, rfl⟩ : ∃ x : World, x = wr := ⟨_, rfl⟩
              cases gk with
              | zero => exact absurd AL1663.out (by simp [quitrenttop_WholeTags.lo0])
              | succ k1665 =>
                have AL0 := AL1663.out
                rw [quitrenttop_WholeTags.lo0] at AL0
                clear AL1663
                have AL1663 := Aside0.mk AL0
                clear AL0
                by_cases c1670 : x1666 < (l2.length : Int)
                · replace AL1663 := if_yes c1670 AL1663
                  have c1670b0 : decide (x1666 < (l2.length : Int)) = true := decide_eq_true c1670
                  clear c1670
                  by_cases c1671 : 0 ≤ x1666
                  · replace AL1663 := if_yes c1671 AL1663
                    have c1671b0 : decide (0 ≤ x1666) = true := decide_eq_true c1671
                    have c1671p : (0 ≤ x1666) = True := eq_true c1671
                    clear c1671
                    have ip1672 : (x1666 < (l2.length : Int)) = True := eq_true (of_decide_eq_true c1670b0)
                    obtain ⟨hx1673a, hx1673e, hx1674, hx1675, hx1676, hx1677, hx1678, hx1679, hx1680⟩ := s16_at HR5.out HS.out.fr x1666 (of_decide_eq_true c1671b0) (of_decide_eq_true c1670b0); cases hx1673e
                    go_wp2_with (first | ((with_reducible refine gate_dst (N := 11) rfl ?_); refine box_on ?hg (N := 11) ?hd (cs := #[.int .i64 0, .int .i64 0, .int .i64 0, .int .i64 0, .int .i64 0, .int .i64 0, .int .i64 0]) (t := 32) ?hr ?_; (case hd => rfl); (case hg => rfl); (case hr => first | (go_simp; done) | (go_simp; rfl)); intro g1681 hg w1682 hbox hb; clear hx1674 hx1675 hx1676 hx1677 hx1678 hx1679 hx1680; replace HS : Aside0 (Sep (fps []) w [b13 g1278 g1279 t1271.1 t1271.2.1 t1271.2.2.1 t1271.2.2.2.1, b12 g1279 A1280 ((t1271.2.2.2.2).length) n1282 x1669, r4 A1280 ((t1271.2.2.2.2).length) n1282 x1667, r15 g1288 m1284 x1668, b1 g1681 0 0 0 0 0 0 0] w1682) := ⟨HS.out.box hg hbox hb⟩; clear hg hbox hb; have hc1684 : w1682.cell? ⟨g1681, 0, none⟩ = some (.int .i64 0) := blk_cellv (HS.out.at4) 0 rfl; have hz1685 : w1682.frozen? ⟨g1681, 0, none⟩ = false := blk_fz (HS.out.at4) 0; have hc1686 : w1682.cell? ⟨g1681, 1, none⟩ = some (.int .i64 0) := blk_cellv (HS.out.at4) 1 rfl; have hz1687 : w1682.frozen? ⟨g1681, 1, none⟩ = false := blk_fz (HS.out.at4) 1; have hc1688 : w1682.cell? ⟨g1681, 2, none⟩ = some (.int .i64 0) := blk_cellv (HS.out.at4) 2 rfl; have hz1689 : w1682.frozen? ⟨g1681, 2, none⟩ = false := blk_fz (HS.out.at4) 2; have hc1690 : w1682.cell? ⟨g1681, 3, none⟩ = some (.int .i64 0) := blk_cellv (HS.out.at4) 3 rfl; have hz1691 : w1682.frozen? ⟨g1681, 3, none⟩ = false := blk_fz (HS.out.at4) 3; have hc1692 : w1682.cell? ⟨g1681, 4, none⟩ = some (.int .i64 0) := blk_cellv (HS.out.at4) 4 rfl; have hz1693 : w1682.frozen? ⟨g1681, 4, none⟩ = false := blk_fz (HS.out.at4) 4; have hc1694 : w1682.cell? ⟨g1681, 5, none⟩ = some (.int .i64 0) := blk_cellv (HS.out.at4) 5 rfl; have hz1695 : w1682.frozen? ⟨g1681, 5, none⟩ = false := blk_fz (HS.out.at4) 5; have hc1696 : w1682.cell? ⟨g1681, 6, none⟩ = some (.int .i64 0) := blk_cellv (HS.out.at4) 6 rfl; have hz1697 : w1682.frozen? ⟨g1681, 6, none⟩ = false := blk_fz (HS.out.at4) 6) | ((with_reducible refine gate_store (t := 32) (p := 11) rfl ?_); refine store_event (w1 := (World.setCell (World.setCell (World.setCell (World.setCell (World.setCell (World.setCell (World.setCell w1682 ⟨g1681, 0, none⟩ (.int .i64 ((rdOf (0, 0, 0, 0, 0, 0, 0) l2 x1666).1))) ⟨g1681, 1, none⟩ (.int .i64 ((rdOf (0, 0, 0, 0, 0, 0, 0) l2 x1666).2.1))) ⟨g1681, 2, none⟩ (.int .i64 ((rdOf (0, 0, 0, 0, 0, 0, 0) l2 x1666).2.2.1))) ⟨g1681, 3, none⟩ (.int .i64 ((rdOf (0, 0, 0, 0, 0, 0, 0) l2 x1666).2.2.2.1))) ⟨g1681, 4, none⟩ (.int .i64 ((rdOf (0, 0, 0, 0, 0, 0, 0) l2 x1666).2.2.2.2.1))) ⟨g1681, 5, none⟩ (.int .i64 ((rdOf (0, 0, 0, 0, 0, 0, 0) l2 x1666).2.2.2.2.2.1))) ⟨g1681, 6, none⟩ (.int .i64 ((rdOf (0, 0, 0, 0, 0, 0, 0) l2 x1666).2.2.2.2.2.2)))) rfl (t := 32) (p := 11) rfl rfl ?hr ?_; (case hr => first | (go_simp; done) | (go_simp; rfl)); intro w1698 hst; clear hc1684 hz1685 hc1686 hz1687 hc1688 hz1689 hc1690 hz1691 hc1692 hz1693 hc1694 hz1695 hc1696 hz1697; replace HS : Aside0 (Sep (fps []) w [b13 g1278 g1279 t1271.1 t1271.2.1 t1271.2.2.1 t1271.2.2.2.1, b12 g1279 A1280 ((t1271.2.2.2.2).length) n1282 x1669, r4 A1280 ((t1271.2.2.2.2).length) n1282 x1667, r15 g1288 m1284 x1668, b1 g1681 ((rdOf (0, 0, 0, 0, 0, 0, 0) l2 x1666).1) ((rdOf (0, 0, 0, 0, 0, 0, 0) l2 x1666).2.1) ((rdOf (0, 0, 0, 0, 0, 0, 0) l2 x1666).2.2.1) ((rdOf (0, 0, 0, 0, 0, 0, 0) l2 x1666).2.2.2.1) ((rdOf (0, 0, 0, 0, 0, 0, 0) l2 x1666).2.2.2.2.1) ((rdOf (0, 0, 0, 0, 0, 0, 0) l2 x1666).2.2.2.2.2.1) ((rdOf (0, 0, 0, 0, 0, 0, 0) l2 x1666).2.2.2.2.2.2)] w1698) := ⟨by rw [hst]; exact HS.out.setAll (l1 := [b13 g1278 g1279 t1271.1 t1271.2.1 t1271.2.2.1 t1271.2.2.2.1, b12 g1279 A1280 ((t1271.2.2.2.2).length) n1282 x1669, r4 A1280 ((t1271.2.2.2.2).length) n1282 x1667, r15 g1288 m1284 x1668]) (l2 := []) [.int .i64 ((rdOf (0, 0, 0, 0, 0, 0, 0) l2 x1666).1), .int .i64 ((rdOf (0, 0, 0, 0, 0, 0, 0) l2 x1666).2.1), .int .i64 ((rdOf (0, 0, 0, 0, 0, 0, 0) l2 x1666).2.2.1), .int .i64 ((rdOf (0, 0, 0, 0, 0, 0, 0) l2 x1666).2.2.2.1), .int .i64 ((rdOf (0, 0, 0, 0, 0, 0, 0) l2 x1666).2.2.2.2.1), .int .i64 ((rdOf (0, 0, 0, 0, 0, 0, 0) l2 x1666).2.2.2.2.2.1), .int .i64 ((rdOf (0, 0, 0, 0, 0, 0, 0) l2 x1666).2.2.2.2.2.2)] rfl⟩; clear hst; have hc1699 : w1698.cell? ⟨g1681, 0, none⟩ = some (.int .i64 ((rdOf (0, 0, 0, 0, 0, 0, 0) l2 x1666).1)) := blk_cellv (HS.out.at4) 0 rfl; have hc1700 : w1698.cell? ⟨g1681, 1, none⟩ = some (.int .i64 ((rdOf (0, 0, 0, 0, 0, 0, 0) l2 x1666).2.1)) := blk_cellv (HS.out.at4) 1 rfl; have hc1701 : w1698.cell? ⟨g1681, 2, none⟩ = some (.int .i64 ((rdOf (0, 0, 0, 0, 0, 0, 0) l2 x1666).2.2.1)) := blk_cellv (HS.out.at4) 2 rfl; have hc1702 : w1698.cell? ⟨g1681, 3, none⟩ = some (.int .i64 ((rdOf (0, 0, 0, 0, 0, 0, 0) l2 x1666).2.2.2.1)) := blk_cellv (HS.out.at4) 3 rfl; have hc1703 : w1698.cell? ⟨g1681, 4, none⟩ = some (.int .i64 ((rdOf (0, 0, 0, 0, 0, 0, 0) l2 x1666).2.2.2.2.1)) := blk_cellv (HS.out.at4) 4 rfl; have hc1704 : w1698.cell? ⟨g1681, 5, none⟩ = some (.int .i64 ((rdOf (0, 0, 0, 0, 0, 0, 0) l2 x1666).2.2.2.2.2.1)) := blk_cellv (HS.out.at4) 5 rfl; have hc1705 : w1698.cell? ⟨g1681, 6, none⟩ = some (.int .i64 ((rdOf (0, 0, 0, 0, 0, 0, 0) l2 x1666).2.2.2.2.2.2)) := blk_cellv (HS.out.at4) 6 rfl))
                    clear hc1699 hc1700 hc1701 hc1702 hc1703 hc1704 hc1705
                    obtain ⟨t1334, HA1706, AL1663⟩ := bind_some AL1663
                    refine (tag_Pack.calls _ ((rdOf (0, 0, 0, 0, 0, 0, 0) l2 x1666).1) ((rdOf (0, 0, 0, 0, 0, 0, 0) l2 x1666).2.1) ((rdOf (0, 0, 0, 0, 0, 0, 0) l2 x1666).2.2.1) ((rdOf (0, 0, 0, 0, 0, 0, 0) l2 x1666).2.2.2.1) ((rdOf (0, 0, 0, 0, 0, 0, 0) l2 x1666).2.2.2.2.1) ((rdOf (0, 0, 0, 0, 0, 0, 0) l2 x1666).2.2.2.2.2.1) ((rdOf (0, 0, 0, 0, 0, 0, 0) l2 x1666).2.2.2.2.2.2) t1334 _ ⟨HGl0.out.pass (l := []) HS.out⟩ ⟨Sep.start _⟩ HA1706).mono ?_
                    rintro e_ w1707 ⟨rfl, hS⟩
                    replace HS : Aside0 (Sep (fps []) w [b13 g1278 g1279 t1271.1 t1271.2.1 t1271.2.2.1 t1271.2.2.2.1, b12 g1279 A1280 ((t1271.2.2.2.2).length) n1282 x1669, r4 A1280 ((t1271.2.2.2.2).length) n1282 x1667, r15 g1288 m1284 x1668, b1 g1681 ((rdOf (0, 0, 0, 0, 0, 0, 0) l2 x1666).1) ((rdOf (0, 0, 0, 0, 0, 0, 0) l2 x1666).2.1) ((rdOf (0, 0, 0, 0, 0, 0, 0) l2 x1666).2.2.1) ((rdOf (0, 0, 0, 0, 0, 0, 0) l2 x1666).2.2.2.1) ((rdOf (0, 0, 0, 0, 0, 0, 0) l2 x1666).2.2.2.2.1) ((rdOf (0, 0, 0, 0, 0, 0, 0) l2 x1666).2.2.2.2.2.1) ((rdOf (0, 0, 0, 0, 0, 0, 0) l2 x1666).2.2.2.2.2.2)] w1707) := ⟨HS.out.call hS⟩
                    clear hS
                    by_cases c1708 : t1334.2 = 0
                    · replace AL1663 := if_yes c1708 AL1663
                      have c1708b0 : (t1334.2 == 0) = true := beq_iff_eq.mpr c1708
                      have c1708b1 : (t1334.2 != 0) = false := bne_eq_false_iff_eq.mpr c1708
                      clear c1708
                      by_cases c1709 : x1666 ≥ (l6.length : Int)
                      · replace AL1663 := if_yes c1709 AL1663
                        have c1709b0 : decide ((l6.length : Int) ≤ x1666) = true := decide_eq_true c1709
                        clear c1709
                        replace HS : Aside0 (Sep (fps []) w [b13 g1278 g1279 t1271.1 t1271.2.1 t1271.2.2.1 t1271.2.2.2.1, b12 g1279 A1280 ((t1271.2.2.2.2).length) n1282 x1669, r4 A1280 ((t1271.2.2.2.2).length) n1282 x1667, r15 g1288 m1284 x1668] w1707) := ⟨HS.out.sub (.cons_cons _ (.cons_cons _ (.cons_cons _ (.cons_cons _ (.cons _ .slnil)))))⟩
                        go_wp2_with fail
                        go_roundg k1665
                        case measure => exact Nat.lt_succ_self _
                        case rel => exact ⟨(wrap64 (x1666 + 1)), (x1667), (x1668), (x1669), (by first | rfl | (simp [IntKind.wrap_u32]; done)), Aside0.mk AL1663.out, ⟨HS.out⟩⟩
                      · replace AL1663 := if_no c1709 AL1663
                        have c1709b0 : decide ((l6.length : Int) ≤ x1666) = false := decide_eq_false c1709
                        clear c1709
                        by_cases c1710 : x1666 < (l6.length : Int)
                        · replace AL1663 := if_yes c1710 AL1663
                          have c1710b0 : decide (x1666 < (l6.length : Int)) = true := decide_eq_true c1710
                          have c1710p : (x1666 < (l6.length : Int)) = True := eq_true c1710
                          clear c1710
                          by_cases c1712 : a1 = 0
                          · replace AL1663 := if_yes c1712 AL1663
                            have c1712b0 : (a1 == 0) = true := beq_iff_eq.mpr c1712
                            have c1712b1 : (a1 != 0) = false := bne_eq_false_iff_eq.mpr c1712
                            exact (none_no AL1663).elim
                          · replace AL1663 := if_no c1712 AL1663
                            have c1712b0 : (a1 == 0) = false := beq_eq_false_iff_ne.mpr c1712
                            have c1712b1 : (a1 != 0) = true := bne_iff_ne.mpr c1712
                            obtain ⟨hx1711a, hx1711e, hx1711⟩ := Kd.at_int (Rd.read (fun _ _ _ _ h => h) HR9.out HS.out.fr) x1666 (of_decide_eq_true c1671b0) (of_decide_eq_true c1710b0); cases hx1711e
                            skip
                            go_wp2_with fail
                            clear hx1711 c1712
                            obtain ⟨t1553, HA1713, AL1663⟩ := bind_some AL1663
                            refine (ground_Ground_SetWord.calls x1667 x1669 t1271.1 t1271.2.1 t1271.2.2.1 t1271.2.2.2.1 (wrap64 (Int.tmod (rd l6 x1666) a1)) 0 t1334.1 g1278 g1279 A1280 ((t1271.2.2.2.2).length) n1282 t1553 _ ⟨HGl0.out.pass HS.out⟩ ⟨HS.out.begin⟩ HA1713).mono ?_
                            rintro e_ w1714 ⟨rfl, hS⟩
                            replace HS : Aside0 (Sep (fps []) w [b13 g1278 g1279 t1271.1 t1271.2.1 t1271.2.2.1 t1271.2.2.2.1, b12 g1279 A1280 ((t1271.2.2.2.2).length) n1282 t1553.2.1, r4 A1280 ((t1271.2.2.2.2).length) n1282 t1553.2.2, r15 g1288 m1284 x1668, b1 g1681 ((rdOf (0, 0, 0, 0, 0, 0, 0) l2 x1666).1) ((rdOf (0, 0, 0, 0, 0, 0, 0) l2 x1666).2.1) ((rdOf (0, 0, 0, 0, 0, 0, 0) l2 x1666).2.2.1) ((rdOf (0, 0, 0, 0, 0, 0, 0) l2 x1666).2.2.2.1) ((rdOf (0, 0, 0, 0, 0, 0, 0) l2 x1666).2.2.2.2.1) ((rdOf (0, 0, 0, 0, 0, 0, 0) l2 x1666).2.2.2.2.2.1) ((rdOf (0, 0, 0, 0, 0, 0, 0) l2 x1666).2.2.2.2.2.2)] w1714) := ⟨HS.out.call hS⟩
                            clear hS
                            by_cases c1715 : t1553.1 = true
                            · replace AL1663 := if_yes c1715 AL1663
                              have c1715b0 : t1553.1 = true := c1715
                              have c1715b1 : (!t1553.1) = false := by rw [c1715b0]; rfl
                              try rw [c1715b1]
                              clear c1715
                              by_cases c1723 : 0 ≤ (wrap64 (Int.tmod (rd l6 x1666) a1))
                              · replace AL1663 := if_yes c1723 AL1663
                                have c1723b0 : decide (0 ≤ (wrap64 (Int.tmod (rd l6 x1666) a1))) = true := decide_eq_true c1723
                                have c1723p : (0 ≤ (wrap64 (Int.tmod (rd l6 x1666) a1))) = True := eq_true c1723
                                clear c1723
                                by_cases c1724 : (wrap64 (Int.tmod (rd l6 x1666) a1)) < (m1284 : Int)
                                · replace AL1663 := if_yes c1724 AL1663
                                  have c1724b0 : decide ((wrap64 (Int.tmod (rd l6 x1666) a1)) < (m1284 : Int)) = true := decide_eq_true c1724
                                  have c1724p : ((wrap64 (Int.tmod (rd l6 x1666) a1)) < (m1284 : Int)) = True := eq_true c1724
                                  clear c1724
                                  obtain ⟨y1581, HA1740, AL1663⟩ := bind_some AL1663
                                  have hc1716 : w1714.cell? ⟨g1681, 0, none⟩ = some (.int .i64 ((rdOf (0, 0, 0, 0, 0, 0, 0) l2 x1666).1)) := blk_cellv (HS.out.at4) 0 rfl
                                  have hc1717 : w1714.cell? ⟨g1681, 1, none⟩ = some (.int .i64 ((rdOf (0, 0, 0, 0, 0, 0, 0) l2 x1666).2.1)) := blk_cellv (HS.out.at4) 1 rfl
                                  have hc1718 : w1714.cell? ⟨g1681, 2, none⟩ = some (.int .i64 ((rdOf (0, 0, 0, 0, 0, 0, 0) l2 x1666).2.2.1)) := blk_cellv (HS.out.at4) 2 rfl
                                  have hc1719 : w1714.cell? ⟨g1681, 3, none⟩ = some (.int .i64 ((rdOf (0, 0, 0, 0, 0, 0, 0) l2 x1666).2.2.2.1)) := blk_cellv (HS.out.at4) 3 rfl
                                  have hc1720 : w1714.cell? ⟨g1681, 4, none⟩ = some (.int .i64 ((rdOf (0, 0, 0, 0, 0, 0, 0) l2 x1666).2.2.2.2.1)) := blk_cellv (HS.out.at4) 4 rfl
                                  have hc1721 : w1714.cell? ⟨g1681, 5, none⟩ = some (.int .i64 ((rdOf (0, 0, 0, 0, 0, 0, 0) l2 x1666).2.2.2.2.2.1)) := blk_cellv (HS.out.at4) 5 rfl
                                  have hc1722 : w1714.cell? ⟨g1681, 6, none⟩ = some (.int .i64 ((rdOf (0, 0, 0, 0, 0, 0, 0) l2 x1666).2.2.2.2.2.2)) := blk_cellv (HS.out.at4) 6 rfl
                                  have hx1725 : w1714.cell? ⟨g1288, (wrap64 (Int.tmod (rd l6 x1666) a1)).toNat * 7, none⟩ = some (.int .i64 ((rdOf (0, 0, 0, 0, 0, 0, 0) x1668 (wrap64 (Int.tmod (rd l6 x1666) a1))).1)) := (srow_get 7 (fun _ => rfl) (0, 0, 0, 0, 0, 0, 0) (HS.out.at3) (wrap64 (Int.tmod (rd l6 x1666) a1)) (of_decide_eq_true c1723b0) (of_decide_eq_true c1724b0) 0 (by decide)).1
                                  have hz1726 : w1714.frozen? ⟨g1288, (wrap64 (Int.tmod (rd l6 x1666) a1)).toNat * 7, none⟩ = false := (srow_get 7 (fun _ => rfl) (0, 0, 0, 0, 0, 0, 0) (HS.out.at3) (wrap64 (Int.tmod (rd l6 x1666) a1)) (of_decide_eq_true c1723b0) (of_decide_eq_true c1724b0) 0 (by decide)).2
                                  have hx1727 : w1714.cell? ⟨g1288, (wrap64 (Int.tmod (rd l6 x1666) a1)).toNat * 7 + 1, none⟩ = some (.int .i64 ((rdOf (0, 0, 0, 0, 0, 0, 0) x1668 (wrap64 (Int.tmod (rd l6 x1666) a1))).2.1)) := (srow_get 7 (fun _ => rfl) (0, 0, 0, 0, 0, 0, 0) (HS.out.at3) (wrap64 (Int.tmod (rd l6 x1666) a1)) (of_decide_eq_true c1723b0) (of_decide_eq_true c1724b0) 1 (by decide)).1
                                  have hz1728 : w1714.frozen? ⟨g1288, (wrap64 (Int.tmod (rd l6 x1666) a1)).toNat * 7 + 1, none⟩ = false := (srow_get 7 (fun _ => rfl) (0, 0, 0, 0, 0, 0, 0) (HS.out.at3) (wrap64 (Int.tmod (rd l6 x1666) a1)) (of_decide_eq_true c1723b0) (of_decide_eq_true c1724b0) 1 (by decide)).2
                                  have hx1729 : w1714.cell? ⟨g1288, (wrap64 (Int.tmod (rd l6 x1666) a1)).toNat * 7 + 2, none⟩ = some (.int .i64 ((rdOf (0, 0, 0, 0, 0, 0, 0) x1668 (wrap64 (Int.tmod (rd l6 x1666) a1))).2.2.1)) := (srow_get 7 (fun _ => rfl) (0, 0, 0, 0, 0, 0, 0) (HS.out.at3) (wrap64 (Int.tmod (rd l6 x1666) a1)) (of_decide_eq_true c1723b0) (of_decide_eq_true c1724b0) 2 (by decide)).1
                                  have hz1730 : w1714.frozen? ⟨g1288, (wrap64 (Int.tmod (rd l6 x1666) a1)).toNat * 7 + 2, none⟩ = false := (srow_get 7 (fun _ => rfl) (0, 0, 0, 0, 0, 0, 0) (HS.out.at3) (wrap64 (Int.tmod (rd l6 x1666) a1)) (of_decide_eq_true c1723b0) (of_decide_eq_true c1724b0) 2 (by decide)).2
                                  have hx1731 : w1714.cell? ⟨g1288, (wrap64 (Int.tmod (rd l6 x1666) a1)).toNat * 7 + 3, none⟩ = some (.int .i64 ((rdOf (0, 0, 0, 0, 0, 0, 0) x1668 (wrap64 (Int.tmod (rd l6 x1666) a1))).2.2.2.1)) := (srow_get 7 (fun _ => rfl) (0, 0, 0, 0, 0, 0, 0) (HS.out.at3) (wrap64 (Int.tmod (rd l6 x1666) a1)) (of_decide_eq_true c1723b0) (of_decide_eq_true c1724b0) 3 (by decide)).1
                                  have hz1732 : w1714.frozen? ⟨g1288, (wrap64 (Int.tmod (rd l6 x1666) a1)).toNat * 7 + 3, none⟩ = false := (srow_get 7 (fun _ => rfl) (0, 0, 0, 0, 0, 0, 0) (HS.out.at3) (wrap64 (Int.tmod (rd l6 x1666) a1)) (of_decide_eq_true c1723b0) (of_decide_eq_true c1724b0) 3 (by decide)).2
                                  have hx1733 : w1714.cell? ⟨g1288, (wrap64 (Int.tmod (rd l6 x1666) a1)).toNat * 7 + 4, none⟩ = some (.int .i64 ((rdOf (0, 0, 0, 0, 0, 0, 0) x1668 (wrap64 (Int.tmod (rd l6 x1666) a1))).2.2.2.2.1)) := (srow_get 7 (fun _ => rfl) (0, 0, 0, 0, 0, 0, 0) (HS.out.at3) (wrap64 (Int.tmod (rd l6 x1666) a1)) (of_decide_eq_true c1723b0) (of_decide_eq_true c1724b0) 4 (by decide)).1
                                  have hz1734 : w1714.frozen? ⟨g1288, (wrap64 (Int.tmod (rd l6 x1666) a1)).toNat * 7 + 4, none⟩ = false := (srow_get 7 (fun _ => rfl) (0, 0, 0, 0, 0, 0, 0) (HS.out.at3) (wrap64 (Int.tmod (rd l6 x1666) a1)) (of_decide_eq_true c1723b0) (of_decide_eq_true c1724b0) 4 (by decide)).2
                                  have hx1735 : w1714.cell? ⟨g1288, (wrap64 (Int.tmod (rd l6 x1666) a1)).toNat * 7 + 5, none⟩ = some (.int .i64 ((rdOf (0, 0, 0, 0, 0, 0, 0) x1668 (wrap64 (Int.tmod (rd l6 x1666) a1))).2.2.2.2.2.1)) := (srow_get 7 (fun _ => rfl) (0, 0, 0, 0, 0, 0, 0) (HS.out.at3) (wrap64 (Int.tmod (rd l6 x1666) a1)) (of_decide_eq_true c1723b0) (of_decide_eq_true c1724b0) 5 (by decide)).1
                                  have hz1736 : w1714.frozen? ⟨g1288, (wrap64 (Int.tmod (rd l6 x1666) a1)).toNat * 7 + 5, none⟩ = false := (srow_get 7 (fun _ => rfl) (0, 0, 0, 0, 0, 0, 0) (HS.out.at3) (wrap64 (Int.tmod (rd l6 x1666) a1)) (of_decide_eq_true c1723b0) (of_decide_eq_true c1724b0) 5 (by decide)).2
                                  have hx1737 : w1714.cell? ⟨g1288, (wrap64 (Int.tmod (rd l6 x1666) a1)).toNat * 7 + 6, none⟩ = some (.int .i64 ((rdOf (0, 0, 0, 0, 0, 0, 0) x1668 (wrap64 (Int.tmod (rd l6 x1666) a1))).2.2.2.2.2.2)) := (srow_get 7 (fun _ => rfl) (0, 0, 0, 0, 0, 0, 0) (HS.out.at3) (wrap64 (Int.tmod (rd l6 x1666) a1)) (of_decide_eq_true c1723b0) (of_decide_eq_true c1724b0) 6 (by decide)).1
                                  have hz1738 : w1714.frozen? ⟨g1288, (wrap64 (Int.tmod (rd l6 x1666) a1)).toNat * 7 + 6, none⟩ = false := (srow_get 7 (fun _ => rfl) (0, 0, 0, 0, 0, 0, 0) (HS.out.at3) (wrap64 (Int.tmod (rd l6 x1666) a1)) (of_decide_eq_true c1723b0) (of_decide_eq_true c1724b0) 6 (by decide)).2
                                  go_wp2_with (first | ((with_reducible refine gate_store (t := 32) (p := 80) rfl ?_); refine store_event (w1 := (World.setCell (World.setCell (World.setCell (World.setCell (World.setCell (World.setCell (World.setCell w1714 ⟨g1288, (wrap64 (Int.tmod (rd l6 x1666) a1)).toNat * 7, none⟩ (.int .i64 ((rdOf (0, 0, 0, 0, 0, 0, 0) l2 x1666).1))) ⟨g1288, (wrap64 (Int.tmod (rd l6 x1666) a1)).toNat * 7 + 1, none⟩ (.int .i64 ((rdOf (0, 0, 0, 0, 0, 0, 0) l2 x1666).2.1))) ⟨g1288, (wrap64 (Int.tmod (rd l6 x1666) a1)).toNat * 7 + 2, none⟩ (.int .i64 ((rdOf (0, 0, 0, 0, 0, 0, 0) l2 x1666).2.2.1))) ⟨g1288, (wrap64 (Int.tmod (rd l6 x1666) a1)).toNat * 7 + 3, none⟩ (.int .i64 ((rdOf (0, 0, 0, 0, 0, 0, 0) l2 x1666).2.2.2.1))) ⟨g1288, (wrap64 (Int.tmod (rd l6 x1666) a1)).toNat * 7 + 4, none⟩ (.int .i64 ((rdOf (0, 0, 0, 0, 0, 0, 0) l2 x1666).2.2.2.2.1))) ⟨g1288, (wrap64 (Int.tmod (rd l6 x1666) a1)).toNat * 7 + 5, none⟩ (.int .i64 ((rdOf (0, 0, 0, 0, 0, 0, 0) l2 x1666).2.2.2.2.2.1))) ⟨g1288, (wrap64 (Int.tmod (rd l6 x1666) a1)).toNat * 7 + 6, none⟩ (.int .i64 ((rdOf (0, 0, 0, 0, 0, 0, 0) l2 x1666).2.2.2.2.2.2)))) rfl (t := 32) (p := 80) rfl rfl ?hr ?_; (case hr => first | (go_simp; done) | (go_simp; rfl)); intro w1739 hst; clear hc1716 hc1717 hc1718 hc1719 hc1720 hc1721 hc1722 hx1725 hz1726 hx1727 hz1728 hx1729 hz1730 hx1731 hz1732 hx1733 hz1734 hx1735 hz1736 hx1737 hz1738; have hq : Sep (fps []) w [b13 g1278 g1279 t1271.1 t1271.2.1 t1271.2.2.1 t1271.2.2.2.1, b12 g1279 A1280 ((t1271.2.2.2.2).length) n1282 t1553.2.1, r4 A1280 ((t1271.2.2.2.2).length) n1282 t1553.2.2, r15 g1288 m1284 (x1668.set (wrap64 (Int.tmod (rd l6 x1666) a1)).toNat ((rdOf (0, 0, 0, 0, 0, 0, 0) l2 x1666).1, (rdOf (0, 0, 0, 0, 0, 0, 0) l2 x1666).2.1, (rdOf (0, 0, 0, 0, 0, 0, 0) l2 x1666).2.2.1, (rdOf (0, 0, 0, 0, 0, 0, 0) l2 x1666).2.2.2.1, (rdOf (0, 0, 0, 0, 0, 0, 0) l2 x1666).2.2.2.2.1, (rdOf (0, 0, 0, 0, 0, 0, 0) l2 x1666).2.2.2.2.2.1, (rdOf (0, 0, 0, 0, 0, 0, 0) l2 x1666).2.2.2.2.2.2)), b1 g1681 ((rdOf (0, 0, 0, 0, 0, 0, 0) l2 x1666).1) ((rdOf (0, 0, 0, 0, 0, 0, 0) l2 x1666).2.1) ((rdOf (0, 0, 0, 0, 0, 0, 0) l2 x1666).2.2.1) ((rdOf (0, 0, 0, 0, 0, 0, 0) l2 x1666).2.2.2.1) ((rdOf (0, 0, 0, 0, 0, 0, 0) l2 x1666).2.2.2.2.1) ((rdOf (0, 0, 0, 0, 0, 0, 0) l2 x1666).2.2.2.2.2.1) ((rdOf (0, 0, 0, 0, 0, 0, 0) l2 x1666).2.2.2.2.2.2)] (World.setCell (World.setCell (World.setCell (World.setCell (World.setCell (World.setCell (World.setCell w1714 ⟨g1288, (wrap64 (Int.tmod (rd l6 x1666) a1)).toNat * 7, none⟩ (.int .i64 ((rdOf (0, 0, 0, 0, 0, 0, 0) l2 x1666).1))) ⟨g1288, (wrap64 (Int.tmod (rd l6 x1666) a1)).toNat * 7 + 1, none⟩ (.int .i64 ((rdOf (0, 0, 0, 0, 0, 0, 0) l2 x1666).2.1))) ⟨g1288, (wrap64 (Int.tmod (rd l6 x1666) a1)).toNat * 7 + 2, none⟩ (.int .i64 ((rdOf (0, 0, 0, 0, 0, 0, 0) l2 x1666).2.2.1))) ⟨g1288, (wrap64 (Int.tmod (rd l6 x1666) a1)).toNat * 7 + 3, none⟩ (.int .i64 ((rdOf (0, 0, 0, 0, 0, 0, 0) l2 x1666).2.2.2.1))) ⟨g1288, (wrap64 (Int.tmod (rd l6 x1666) a1)).toNat * 7 + 4, none⟩ (.int .i64 ((rdOf (0, 0, 0, 0, 0, 0, 0) l2 x1666).2.2.2.2.1))) ⟨g1288, (wrap64 (Int.tmod (rd l6 x1666) a1)).toNat * 7 + 5, none⟩ (.int .i64 ((rdOf (0, 0, 0, 0, 0, 0, 0) l2 x1666).2.2.2.2.2.1))) ⟨g1288, (wrap64 (Int.tmod (rd l6 x1666) a1)).toNat * 7 + 6, none⟩ (.int .i64 ((rdOf (0, 0, 0, 0, 0, 0, 0) l2 x1666).2.2.2.2.2.2))) := Sep.srowset (l1 := [b13 g1278 g1279 t1271.1 t1271.2.1 t1271.2.2.1 t1271.2.2.2.1, b12 g1279 A1280 ((t1271.2.2.2.2).length) n1282 t1553.2.1, r4 A1280 ((t1271.2.2.2.2).length) n1282 t1553.2.2]) (l2 := [b1 g1681 ((rdOf (0, 0, 0, 0, 0, 0, 0) l2 x1666).1) ((rdOf (0, 0, 0, 0, 0, 0, 0) l2 x1666).2.1) ((rdOf (0, 0, 0, 0, 0, 0, 0) l2 x1666).2.2.1) ((rdOf (0, 0, 0, 0, 0, 0, 0) l2 x1666).2.2.2.1) ((rdOf (0, 0, 0, 0, 0, 0, 0) l2 x1666).2.2.2.2.1) ((rdOf (0, 0, 0, 0, 0, 0, 0) l2 x1666).2.2.2.2.2.1) ((rdOf (0, 0, 0, 0, 0, 0, 0) l2 x1666).2.2.2.2.2.2)]) (enc := e14) 7 (fun _ => rfl) HS.out (wrap64 (Int.tmod (rd l6 x1666) a1)) ((rdOf (0, 0, 0, 0, 0, 0, 0) l2 x1666).1, (rdOf (0, 0, 0, 0, 0, 0, 0) l2 x1666).2.1, (rdOf (0, 0, 0, 0, 0, 0, 0) l2 x1666).2.2.1, (rdOf (0, 0, 0, 0, 0, 0, 0) l2 x1666).2.2.2.1, (rdOf (0, 0, 0, 0, 0, 0, 0) l2 x1666).2.2.2.2.1, (rdOf (0, 0, 0, 0, 0, 0, 0) l2 x1666).2.2.2.2.2.1, (rdOf (0, 0, 0, 0, 0, 0, 0) l2 x1666).2.2.2.2.2.2) (of_decide_eq_true c1723b0) (of_decide_eq_true c1724b0); rw [← hst, some_eq HA1740] at hq; replace HS : Aside0 (Sep (fps []) w [b13 g1278 g1279 t1271.1 t1271.2.1 t1271.2.2.1 t1271.2.2.2.1, b12 g1279 A1280 ((t1271.2.2.2.2).length) n1282 t1553.2.1, r4 A1280 ((t1271.2.2.2.2).length) n1282 t1553.2.2, r15 g1288 m1284 y1581, b1 g1681 ((rdOf (0, 0, 0, 0, 0, 0, 0) l2 x1666).1) ((rdOf (0, 0, 0, 0, 0, 0, 0) l2 x1666).2.1) ((rdOf (0, 0, 0, 0, 0, 0, 0) l2 x1666).2.2.1) ((rdOf (0, 0, 0, 0, 0, 0, 0) l2 x1666).2.2.2.1) ((rdOf (0, 0, 0, 0, 0, 0, 0) l2 x1666).2.2.2.2.1) ((rdOf (0, 0, 0, 0, 0, 0, 0) l2 x1666).2.2.2.2.2.1) ((rdOf (0, 0, 0, 0, 0, 0, 0) l2 x1666).2.2.2.2.2.2)] w1739) := ⟨hq⟩; clear hst hq; replace HS : Aside0 (Sep (fps []) w [b13 g1278 g1279 t1271.1 t1271.2.1 t1271.2.2.1 t1271.2.2.2.1, b12 g1279 A1280 ((t1271.2.2.2.2).length) n1282 t1553.2.1, r4 A1280 ((t1271.2.2.2.2).length) n1282 t1553.2.2, r15 g1288 m1284 y1581] w1739) := ⟨HS.out.sub (.cons_cons _ (.cons_cons _ (.cons_cons _ (.cons_cons _ (.cons _ .slnil)))))⟩))
                                  go_roundg k1665
                                  case measure => exact Nat.lt_succ_self _
                                  case rel => exact ⟨(wrap64 (x1666 + 1)), (t1553.2.2), (y1581), (t1553.2.1), (by first | rfl | (simp [IntKind.wrap_u32]; done)), Aside0.mk AL1663.out, ⟨HS.out⟩⟩
                                · replace AL1663 := if_no c1724 AL1663
                                  have c1724b0 : decide ((wrap64 (Int.tmod (rd l6 x1666) a1)) < (m1284 : Int)) = false := decide_eq_false c1724
                                  clear c1724
                                  exact (none_no AL1663).elim
                              · replace AL1663 := if_no c1723 AL1663
                                have c1723b0 : decide (0 ≤ (wrap64 (Int.tmod (rd l6 x1666) a1))) = false := decide_eq_false c1723
                                clear c1723
                                exact (none_no AL1663).elim
                            · replace AL1663 := if_no c1715 AL1663
                              have c1715b0 : t1553.1 = false := by simpa using c1715
                              have c1715b1 : (!t1553.1) = true := by rw [c1715b0]; rfl
                              try rw [c1715b1]
                              clear c1715
                              replace HS : Aside0 (Sep (fps []) w [b13 g1278 g1279 t1271.1 t1271.2.1 t1271.2.2.1 t1271.2.2.2.1, b12 g1279 A1280 ((t1271.2.2.2.2).length) n1282 t1553.2.1, r4 A1280 ((t1271.2.2.2.2).length) n1282 t1553.2.2, r15 g1288 m1284 x1668] w1714) := ⟨HS.out.sub (.cons_cons _ (.cons_cons _ (.cons_cons _ (.cons_cons _ (.cons _ .slnil)))))⟩
                              go_wp2_with fail
                              have ho := some_eq AL1663
                              subst ho
                              have H := lp_ret H
                              go_ret
                              rw [← some_eq H]
                              exact ⟨(by first | rfl | (simp [IntKind.wrap_u32]; done)), HS.out.sub (.cons _ (.cons _ (.cons _ (.cons _ .slnil))))⟩
                        · replace AL1663 := if_no c1710 AL1663
                          have c1710b0 : decide (x1666 < (l6.length : Int)) = false := decide_eq_false c1710
                          clear c1710
                          exact (none_no AL1663).elim
                    · replace AL1663 := if_no c1708 AL1663
                      have c1708b0 : (t1334.2 == 0) = false := beq_eq_false_iff_ne.mpr c1708
                      have c1708b1 : (t1334.2 != 0) = true := bne_iff_ne.mpr c1708
                      clear c1708
                      replace HS : Aside0 (Sep (fps []) w [b13 g1278 g1279 t1271.1 t1271.2.1 t1271.2.2.1 t1271.2.2.2.1, b12 g1279 A1280 ((t1271.2.2.2.2).length) n1282 x1669, r4 A1280 ((t1271.2.2.2.2).length) n1282 x1667, r15 g1288 m1284 x1668] w1707) := ⟨HS.out.sub (.cons_cons _ (.cons_cons _ (.cons_cons _ (.cons_cons _ (.cons _ .slnil)))))⟩
                      go_wp2_with fail
                      go_roundg k1665
                      case measure => exact Nat.lt_succ_self _
                      case rel => exact ⟨(wrap64 (x1666 + 1)), (x1667), (x1668), (x1669), (by first | rfl | (simp [IntKind.wrap_u32]; done)), Aside0.mk AL1663.out, ⟨HS.out⟩⟩
                  · replace AL1663 := if_no c1671 AL1663
                    have c1671b0 : decide (0 ≤ x1666) = false := decide_eq_false c1671
                    clear c1671
                    exact (none_no AL1663).elim
                · replace AL1663 := if_no c1670 AL1663
                  have c1670b0 : decide (x1666 < (l2.length : Int)) = false := decide_eq_false c1670
                  clear c1670
                  have ho := some_eq AL1663
                  subst ho
                  clear AL1663
                  have H := lp_out H
                  go_wp2_with fail
                  obtain ⟨o1903, AL1904, H⟩ := bind_some H
                  go_loopg [84] k (fun kq v84 wc => ∃ (x1907 : Int), v84 = .int .i64 x1907 ∧ Aside0 (quitrenttop_WholeTags.lo1 kq t1271 m1284 (x1667, x1668, x1669) x1907 = some o1903) ∧ Aside0 (Sep (fps []) w [b13 g1278 g1279 t1271.1 t1271.2.1 t1271.2.2.1 t1271.2.2.2.1, b12 g1279 A1280 ((t1271.2.2.2.2).length) n1282 x1669, r4 A1280 ((t1271.2.2.2.2).length) n1282 x1667, r15 g1288 m1284 x1668] wc))
                  case atStart => exact ⟨(0), (by first | rfl | (simp [IntKind.wrap_u32]; done)), AL1904, ⟨HS.out⟩⟩
                  case round =>
                    clear AL1904 HS
                    obtain ⟨x1907, rfl, AL1904, HS⟩ := hrel
                    obtain ⟨w1905, rfl⟩ : ∃ x : World, x = wr := ⟨_, rfl⟩
                    cases gk with
                    | zero => exact absurd AL1904.out (by simp [quitrenttop_WholeTags.lo1])
                    | succ k1906 =>
                      have AL0 := AL1904.out
                      rw [quitrenttop_WholeTags.lo1] at AL0
                      clear AL1904
                      have AL1904 := Aside0.mk AL0
                      clear AL0
                      by_cases c1908 : x1907 < (m1284 : Int)
                      · replace AL1904 := if_yes c1908 AL1904
                        have c1908b0 : decide (x1907 < (m1284 : Int)) = true := decide_eq_true c1908
                        clear c1908
                        by_cases c1909 : 0 ≤ x1907
                        · replace AL1904 := if_yes c1909 AL1904
                          have c1909b0 : decide (0 ≤ x1907) = true := decide_eq_true c1909
                          have c1909p : (0 ≤ x1907) = True := eq_true c1909
                          clear c1909
                          have ip1910 : (x1907 < (m1284 : Int)) = True := eq_true (of_decide_eq_true c1908b0)
                          have hx1911 : w1905.cell? ⟨g1288, (x1907).toNat * 7, none⟩ = some (.int .i64 ((rdOf (0, 0, 0, 0, 0, 0, 0) x1668 x1907).1)) := (srow_get 7 (fun _ => rfl) (0, 0, 0, 0, 0, 0, 0) (HS.out.at3) x1907 (of_decide_eq_true c1909b0) (of_decide_eq_true c1908b0) 0 (by decide)).1
                          have hx1912 : w1905.cell? ⟨g1288, (x1907).toNat * 7 + 1, none⟩ = some (.int .i64 ((rdOf (0, 0, 0, 0, 0, 0, 0) x1668 x1907).2.1)) := (srow_get 7 (fun _ => rfl) (0, 0, 0, 0, 0, 0, 0) (HS.out.at3) x1907 (of_decide_eq_true c1909b0) (of_decide_eq_true c1908b0) 1 (by decide)).1
                          have hx1913 : w1905.cell? ⟨g1288, (x1907).toNat * 7 + 2, none⟩ = some (.int .i64 ((rdOf (0, 0, 0, 0, 0, 0, 0) x1668 x1907).2.2.1)) := (srow_get 7 (fun _ => rfl) (0, 0, 0, 0, 0, 0, 0) (HS.out.at3) x1907 (of_decide_eq_true c1909b0) (of_decide_eq_true c1908b0) 2 (by decide)).1
                          have hx1914 : w1905.cell? ⟨g1288, (x1907).toNat * 7 + 3, none⟩ = some (.int .i64 ((rdOf (0, 0, 0, 0, 0, 0, 0) x1668 x1907).2.2.2.1)) := (srow_get 7 (fun _ => rfl) (0, 0, 0, 0, 0, 0, 0) (HS.out.at3) x1907 (of_decide_eq_true c1909b0) (of_decide_eq_true c1908b0) 3 (by decide)).1
                          have hx1915 : w1905.cell? ⟨g1288, (x1907).toNat * 7 + 4, none⟩ = some (.int .i64 ((rdOf (0, 0, 0, 0, 0, 0, 0) x1668 x1907).2.2.2.2.1)) := (srow_get 7 (fun _ => rfl) (0, 0, 0, 0, 0, 0, 0) (HS.out.at3) x1907 (of_decide_eq_true c1909b0) (of_decide_eq_true c1908b0) 4 (by decide)).1
                          have hx1916 : w1905.cell? ⟨g1288, (x1907).toNat * 7 + 5, none⟩ = some (.int .i64 ((rdOf (0, 0, 0, 0, 0, 0, 0) x1668 x1907).2.2.2.2.2.1)) := (srow_get 7 (fun _ => rfl) (0, 0, 0, 0, 0, 0, 0) (HS.out.at3) x1907 (of_decide_eq_true c1909b0) (of_decide_eq_true c1908b0) 5 (by decide)).1
                          have hx1917 : w1905.cell? ⟨g1288, (x1907).toNat * 7 + 6, none⟩ = some (.int .i64 ((rdOf (0, 0, 0, 0, 0, 0, 0) x1668 x1907).2.2.2.2.2.2)) := (srow_get 7 (fun _ => rfl) (0, 0, 0, 0, 0, 0, 0) (HS.out.at3) x1907 (of_decide_eq_true c1909b0) (of_decide_eq_true c1908b0) 6 (by decide)).1
                          go_wp2_with (first | ((with_reducible refine gate_dst (N := 16) rfl ?_); refine box_on ?hg (N := 16) ?hd (cs := #[.int .i64 0, .int .i64 0, .int .i64 0, .int .i64 0, .int .i64 0, .int .i64 0, .int .i64 0]) (t := 32) ?hr ?_; (case hd => rfl); (case hg => rfl); (case hr => first | (go_simp; done) | (go_simp; rfl)); intro g1918 hg w1919 hbox hb; clear hx1911 hx1912 hx1913 hx1914 hx1915 hx1916 hx1917; replace HS : Aside0 (Sep (fps []) w [b13 g1278 g1279 t1271.1 t1271.2.1 t1271.2.2.1 t1271.2.2.2.1, b12 g1279 A1280 ((t1271.2.2.2.2).length) n1282 x1669, r4 A1280 ((t1271.2.2.2.2).length) n1282 x1667, r15 g1288 m1284 x1668, b1 g1918 0 0 0 0 0 0 0] w1919) := ⟨HS.out.box hg hbox hb⟩; clear hg hbox hb; have hc1921 : w1919.cell? ⟨g1918, 0, none⟩ = some (.int .i64 0) := blk_cellv (HS.out.at4) 0 rfl; have hz1922 : w1919.frozen? ⟨g1918, 0, none⟩ = false := blk_fz (HS.out.at4) 0; have hc1923 : w1919.cell? ⟨g1918, 1, none⟩ = some (.int .i64 0) := blk_cellv (HS.out.at4) 1 rfl; have hz1924 : w1919.frozen? ⟨g1918, 1, none⟩ = false := blk_fz (HS.out.at4) 1; have hc1925 : w1919.cell? ⟨g1918, 2, none⟩ = some (.int .i64 0) := blk_cellv (HS.out.at4) 2 rfl; have hz1926 : w1919.frozen? ⟨g1918, 2, none⟩ = false := blk_fz (HS.out.at4) 2; have hc1927 : w1919.cell? ⟨g1918, 3, none⟩ = some (.int .i64 0) := blk_cellv (HS.out.at4) 3 rfl; have hz1928 : w1919.frozen? ⟨g1918, 3, none⟩ = false := blk_fz (HS.out.at4) 3; have hc1929 : w1919.cell? ⟨g1918, 4, none⟩ = some (.int .i64 0) := blk_cellv (HS.out.at4) 4 rfl; have hz1930 : w1919.frozen? ⟨g1918, 4, none⟩ = false := blk_fz (HS.out.at4) 4; have hc1931 : w1919.cell? ⟨g1918, 5, none⟩ = some (.int .i64 0) := blk_cellv (HS.out.at4) 5 rfl; have hz1932 : w1919.frozen? ⟨g1918, 5, none⟩ = false := blk_fz (HS.out.at4) 5; have hc1933 : w1919.cell? ⟨g1918, 6, none⟩ = some (.int .i64 0) := blk_cellv (HS.out.at4) 6 rfl; have hz1934 : w1919.frozen? ⟨g1918, 6, none⟩ = false := blk_fz (HS.out.at4) 6) | ((with_reducible refine gate_store (t := 32) (p := 16) rfl ?_); refine store_event (w1 := (World.setCell (World.setCell (World.setCell (World.setCell (World.setCell (World.setCell (World.setCell w1919 ⟨g1918, 0, none⟩ (.int .i64 ((rdOf (0, 0, 0, 0, 0, 0, 0) x1668 x1907).1))) ⟨g1918, 1, none⟩ (.int .i64 ((rdOf (0, 0, 0, 0, 0, 0, 0) x1668 x1907).2.1))) ⟨g1918, 2, none⟩ (.int .i64 ((rdOf (0, 0, 0, 0, 0, 0, 0) x1668 x1907).2.2.1))) ⟨g1918, 3, none⟩ (.int .i64 ((rdOf (0, 0, 0, 0, 0, 0, 0) x1668 x1907).2.2.2.1))) ⟨g1918, 4, none⟩ (.int .i64 ((rdOf (0, 0, 0, 0, 0, 0, 0) x1668 x1907).2.2.2.2.1))) ⟨g1918, 5, none⟩ (.int .i64 ((rdOf (0, 0, 0, 0, 0, 0, 0) x1668 x1907).2.2.2.2.2.1))) ⟨g1918, 6, none⟩ (.int .i64 ((rdOf (0, 0, 0, 0, 0, 0, 0) x1668 x1907).2.2.2.2.2.2)))) rfl (t := 32) (p := 16) rfl rfl ?hr ?_; (case hr => first | (go_simp; done) | (go_simp; rfl)); intro w1935 hst; clear hc1921 hz1922 hc1923 hz1924 hc1925 hz1926 hc1927 hz1928 hc1929 hz1930 hc1931 hz1932 hc1933 hz1934; replace HS : Aside0 (Sep (fps []) w [b13 g1278 g1279 t1271.1 t1271.2.1 t1271.2.2.1 t1271.2.2.2.1, b12 g1279 A1280 ((t1271.2.2.2.2).length) n1282 x1669, r4 A1280 ((t1271.2.2.2.2).length) n1282 x1667, r15 g1288 m1284 x1668, b1 g1918 ((rdOf (0, 0, 0, 0, 0, 0, 0) x1668 x1907).1) ((rdOf (0, 0, 0, 0, 0, 0, 0) x1668 x1907).2.1) ((rdOf (0, 0, 0, 0, 0, 0, 0) x1668 x1907).2.2.1) ((rdOf (0, 0, 0, 0, 0, 0, 0) x1668 x1907).2.2.2.1) ((rdOf (0, 0, 0, 0, 0, 0, 0) x1668 x1907).2.2.2.2.1) ((rdOf (0, 0, 0, 0, 0, 0, 0) x1668 x1907).2.2.2.2.2.1) ((rdOf (0, 0, 0, 0, 0, 0, 0) x1668 x1907).2.2.2.2.2.2)] w1935) := ⟨by rw [hst]; exact HS.out.setAll (l1 := [b13 g1278 g1279 t1271.1 t1271.2.1 t1271.2.2.1 t1271.2.2.2.1, b12 g1279 A1280 ((t1271.2.2.2.2).length) n1282 x1669, r4 A1280 ((t1271.2.2.2.2).length) n1282 x1667, r15 g1288 m1284 x1668]) (l2 := []) [.int .i64 ((rdOf (0, 0, 0, 0, 0, 0, 0) x1668 x1907).1), .int .i64 ((rdOf (0, 0, 0, 0, 0, 0, 0) x1668 x1907).2.1), .int .i64 ((rdOf (0, 0, 0, 0, 0, 0, 0) x1668 x1907).2.2.1), .int .i64 ((rdOf (0, 0, 0, 0, 0, 0, 0) x1668 x1907).2.2.2.1), .int .i64 ((rdOf (0, 0, 0, 0, 0, 0, 0) x1668 x1907).2.2.2.2.1), .int .i64 ((rdOf (0, 0, 0, 0, 0, 0, 0) x1668 x1907).2.2.2.2.2.1), .int .i64 ((rdOf (0, 0, 0, 0, 0, 0, 0) x1668 x1907).2.2.2.2.2.2)] rfl⟩; clear hst))
                          obtain ⟨t1821, HA1936, AL1904⟩ := bind_some AL1904
                          refine (ground_Ground_SeeWord.calls x1667 x1669 t1271.1 t1271.2.1 t1271.2.2.1 t1271.2.2.2.1 x1907 0 g1278 g1279 A1280 ((t1271.2.2.2.2).length) n1282 t1821 _ ⟨HGl0.out.pass HS.out⟩ ⟨HS.out.begin⟩ HA1936).mono ?_
                          rintro e_ w1937 ⟨rfl, hS⟩
                          replace HS : Aside0 (Sep (fps []) w [b13 g1278 g1279 t1271.1 t1271.2.1 t1271.2.2.1 t1271.2.2.2.1, b12 g1279 A1280 ((t1271.2.2.2.2).length) n1282 x1669, r4 A1280 ((t1271.2.2.2.2).length) n1282 x1667, r15 g1288 m1284 x1668, b1 g1918 ((rdOf (0, 0, 0, 0, 0, 0, 0) x1668 x1907).1) ((rdOf (0, 0, 0, 0, 0, 0, 0) x1668 x1907).2.1) ((rdOf (0, 0, 0, 0, 0, 0, 0) x1668 x1907).2.2.1) ((rdOf (0, 0, 0, 0, 0, 0, 0) x1668 x1907).2.2.2.1) ((rdOf (0, 0, 0, 0, 0, 0, 0) x1668 x1907).2.2.2.2.1) ((rdOf (0, 0, 0, 0, 0, 0, 0) x1668 x1907).2.2.2.2.2.1) ((rdOf (0, 0, 0, 0, 0, 0, 0) x1668 x1907).2.2.2.2.2.2)] w1937) := ⟨HS.out.call hS⟩
                          clear hS
                          go_wp2_with fail
                          refine start_ (n := 20) (S := (fun w' => w'.cell? ⟨g1918, 0, none⟩ = some (.int .i64 ((rdOf (0, 0, 0, 0, 0, 0, 0) x1668 x1907).1)) ∧ w'.cell? ⟨g1918, 1, none⟩ = some (.int .i64 ((rdOf (0, 0, 0, 0, 0, 0, 0) x1668 x1907).2.1)) ∧ w'.cell? ⟨g1918, 2, none⟩ = some (.int .i64 ((rdOf (0, 0, 0, 0, 0, 0, 0) x1668 x1907).2.2.1)) ∧ w'.cell? ⟨g1918, 3, none⟩ = some (.int .i64 ((rdOf (0, 0, 0, 0, 0, 0, 0) x1668 x1907).2.2.2.1)) ∧ w'.cell? ⟨g1918, 4, none⟩ = some (.int .i64 ((rdOf (0, 0, 0, 0, 0, 0, 0) x1668 x1907).2.2.2.2.1)) ∧ w'.cell? ⟨g1918, 5, none⟩ = some (.int .i64 ((rdOf (0, 0, 0, 0, 0, 0, 0) x1668 x1907).2.2.2.2.2.1)) ∧ w'.cell? ⟨g1918, 6, none⟩ = some (.int .i64 ((rdOf (0, 0, 0, 0, 0, 0, 0) x1668 x1907).2.2.2.2.2.2)))) (ds := []) #[false, false, false, false, false, false, false, false, false, false, false, false, false, false, false, false, false, false, false, false] (by kernel_rfl) rfl rfl (⟨blk_cellv ((HS.out.drew).at4) 0 rfl, blk_cellv ((HS.out.drew).at4) 1 rfl, blk_cellv ((HS.out.drew).at4) 2 rfl, blk_cellv ((HS.out.drew).at4) 3 rfl, blk_cellv ((HS.out.drew).at4) 4 rfl, blk_cellv ((HS.out.drew).at4) 5 rfl, blk_cellv ((HS.out.drew).at4) 6 rfl⟩) (fun hHeld => ?_)
                          have HS_ := Aside0.mk HS.out.drew
                          clear HS
                          generalize World.drew _ = w1939 at HS_ hHeld ⊢
                          have HS := HS_
                          clear HS_
                          refine pure_ (i := 0) (N := some 92) (v := ?_) (a' := ?_) #[true, false, false, false, false, false, false, false, false, false, false, false, false, false, false, false, false, false, false, false] rfl rfl (by kernel_rfl) (fun _ _ _ h => h) (Or.inl ⟨by rfl, ?_⟩) ?_ ?_
                          rotate_left
                          · intro w'
                            go_simp
                            with_reducible rfl
                          rotate_left
                          · simp only [Act.put, List.setIfInBounds_toArray, List.set_cons_zero, List.set_cons_succ, i64_w, i32_w]
                            rfl
                          refine take_ (i := 2) (N := some 94) (v := ?_) (a' := ?_) #[true, false, true, false, false, false, false, false, false, false, false, false, false, false, false, false, false, false, false, false] rfl rfl (by kernel_rfl) (fun _ _ _ h => h) (Or.inl ⟨by rfl, ?_⟩) hHeld ?_ ?_
                          rotate_left
                          · rintro w' hS'
                            obtain ⟨s0, s1, s2, s3, s4, s5, s6⟩ := hS'
                            go_simp
                            with_reducible rfl
                          rotate_left
                          · simp only [Act.put, List.setIfInBounds_toArray, List.set_cons_zero, List.set_cons_succ, i64_w, i32_w]
                            rfl
                          refine one_ (i := 1) (N := some 93) #[true, true, true, false, false, false, false, false, false, false, false, false, false, false, false, false, false, false, false, false] rfl rfl (by kernel_rfl) (by decide) (fun K hK => ?_)
                          obtain ⟨t1885, HA1940, AL1904⟩ := bind_some AL1904
                          refine goes_ Tryd.func19 (by kernel_rfl) rfl #[.int .u32 t1821] (by rfl) rfl rfl (by (try simp only [List.map_toArray, List.map_cons, List.map_nil]); first | done | rfl) ?_
                          refine (tag_Unpack.calls t1821 t1885 _ ⟨HGl0.out.pass (l := []) HS.out⟩ ⟨Sep.start _⟩ HA1940).mono ?_
                          rintro e_ w1941 ⟨rfl, hS⟩
                          replace HS : Aside0 (Sep (fps []) w [b13 g1278 g1279 t1271.1 t1271.2.1 t1271.2.2.1 t1271.2.2.2.1, b12 g1279 A1280 ((t1271.2.2.2.2).length) n1282 x1669, r4 A1280 ((t1271.2.2.2.2).length) n1282 x1667, r15 g1288 m1284 x1668, b1 g1918 ((rdOf (0, 0, 0, 0, 0, 0, 0) x1668 x1907).1) ((rdOf (0, 0, 0, 0, 0, 0, 0) x1668 x1907).2.1) ((rdOf (0, 0, 0, 0, 0, 0, 0) x1668 x1907).2.2.1) ((rdOf (0, 0, 0, 0, 0, 0, 0) x1668 x1907).2.2.2.1) ((rdOf (0, 0, 0, 0, 0, 0, 0) x1668 x1907).2.2.2.2.1) ((rdOf (0, 0, 0, 0, 0, 0, 0) x1668 x1907).2.2.2.2.2.1) ((rdOf (0, 0, 0, 0, 0, 0, 0) x1668 x1907).2.2.2.2.2.2)] w1941) := ⟨HS.out.call hS⟩
                          clear hS
                          refine ⟨_, rfl, ?_⟩
                          refine hK.out _ _ (⟨blk_cellv (HS.out.at4) 0 rfl, blk_cellv (HS.out.at4) 1 rfl, blk_cellv (HS.out.at4) 2 rfl, blk_cellv (HS.out.at4) 3 rfl, blk_cellv (HS.out.at4) 4 rfl, blk_cellv (HS.out.at4) 5 rfl, blk_cellv (HS.out.at4) 6 rfl⟩) (fun hHeld => ?_)
                          clear hK K
                          refine norm_ (a' := ?_) ?_ ?_
                          rotate_left
                          · show Act.put _ (some 93) _ = _
                            simp only [Act.put, List.setIfInBounds_toArray, List.set_cons_zero, List.set_cons_succ, i64_w, i32_w]
                            rfl
                          by_cases c1942 : t1885.1 = ((rdOf (0, 0, 0, 0, 0, 0, 0) x1668 x1907).1)
                          · replace AL1904 := if_yes c1942 AL1904
                            have c1942b0 : (t1885.1 == ((rdOf (0, 0, 0, 0, 0, 0, 0) x1668 x1907).1)) = true := beq_iff_eq.mpr c1942
                            have c1942b1 : (t1885.1 != ((rdOf (0, 0, 0, 0, 0, 0, 0) x1668 x1907).1)) = false := bne_eq_false_iff_eq.mpr c1942
                            clear c1942
                            by_cases c1943 : t1885.2.1 = ((rdOf (0, 0, 0, 0, 0, 0, 0) x1668 x1907).2.1)
                            · replace AL1904 := if_yes c1943 AL1904
                              have c1943b0 : (t1885.2.1 == ((rdOf (0, 0, 0, 0, 0, 0, 0) x1668 x1907).2.1)) = true := beq_iff_eq.mpr c1943
                              have c1943b1 : (t1885.2.1 != ((rdOf (0, 0, 0, 0, 0, 0, 0) x1668 x1907).2.1)) = false := bne_eq_false_iff_eq.mpr c1943
                              clear c1943
                              by_cases c1944 : t1885.2.2.1 = ((rdOf (0, 0, 0, 0, 0, 0, 0) x1668 x1907).2.2.1)
                              · replace AL1904 := if_yes c1944 AL1904
                                have c1944b0 : (t1885.2.2.1 == ((rdOf (0, 0, 0, 0, 0, 0, 0) x1668 x1907).2.2.1)) = true := beq_iff_eq.mpr c1944
                                have c1944b1 : (t1885.2.2.1 != ((rdOf (0, 0, 0, 0, 0, 0, 0) x1668 x1907).2.2.1)) = false := bne_eq_false_iff_eq.mpr c1944
                                clear c1944
                                by_cases c1945 : t1885.2.2.2.1 = ((rdOf (0, 0, 0, 0, 0, 0, 0) x1668 x1907).2.2.2.1)
                                · replace AL1904 := if_yes c1945 AL1904
                                  have c1945b0 : (t1885.2.2.2.1 == ((rdOf (0, 0, 0, 0, 0, 0, 0) x1668 x1907).2.2.2.1)) = true := beq_iff_eq.mpr c1945
                                  have c1945b1 : (t1885.2.2.2.1 != ((rdOf (0, 0, 0, 0, 0, 0, 0) x1668 x1907).2.2.2.1)) = false := bne_eq_false_iff_eq.mpr c1945
                                  clear c1945
                                  by_cases c1946 : t1885.2.2.2.2.1 = ((rdOf (0, 0, 0, 0, 0, 0, 0) x1668 x1907).2.2.2.2.1)
                                  · replace AL1904 := if_yes c1946 AL1904
                                    have c1946b0 : (t1885.2.2.2.2.1 == ((rdOf (0, 0, 0, 0, 0, 0, 0) x1668 x1907).2.2.2.2.1)) = true := beq_iff_eq.mpr c1946
                                    have c1946b1 : (t1885.2.2.2.2.1 != ((rdOf (0, 0, 0, 0, 0, 0, 0) x1668 x1907).2.2.2.2.1)) = false := bne_eq_false_iff_eq.mpr c1946
                                    clear c1946
                                    by_cases c1947 : t1885.2.2.2.2.2.1 = ((rdOf (0, 0, 0, 0, 0, 0, 0) x1668 x1907).2.2.2.2.2.1)
                                    · replace AL1904 := if_yes c1947 AL1904
                                      have c1947b0 : (t1885.2.2.2.2.2.1 == ((rdOf (0, 0, 0, 0, 0, 0, 0) x1668 x1907).2.2.2.2.2.1)) = true := beq_iff_eq.mpr c1947
                                      have c1947b1 : (t1885.2.2.2.2.2.1 != ((rdOf (0, 0, 0, 0, 0, 0, 0) x1668 x1907).2.2.2.2.2.1)) = false := bne_eq_false_iff_eq.mpr c1947
                                      clear c1947
                                      by_cases c1948 : t1885.2.2.2.2.2.2 = ((rdOf (0, 0, 0, 0, 0, 0, 0) x1668 x1907).2.2.2.2.2.2)
                                      · replace AL1904 := if_yes c1948 AL1904
                                        have c1948b0 : (t1885.2.2.2.2.2.2 == ((rdOf (0, 0, 0, 0, 0, 0, 0) x1668 x1907).2.2.2.2.2.2)) = true := beq_iff_eq.mpr c1948
                                        have c1948b1 : (t1885.2.2.2.2.2.2 != ((rdOf (0, 0, 0, 0, 0, 0, 0) x1668 x1907).2.2.2.2.2.2)) = false := bne_eq_false_iff_eq.mpr c1948
                                        clear c1948
                                        refine pure_ (i := 3) (N := some 95) (v := ?_) (a' := ?_) #[true, true, true, true, false, false, false, false, false, false, false, false, false, false, false, false, false, false, false, false] rfl rfl (by kernel_rfl) (fun _ _ _ h => h) (Or.inl ⟨by rfl, ?_⟩) ?_ ?_
                                        rotate_left
                                        · intro w'
                                          go_simp
                                          with_reducible rfl
                                        rotate_left
                                        · simp only [Act.put, List.setIfInBounds_toArray, List.set_cons_zero, List.set_cons_succ, i64_w, i32_w]
                                          rfl
                                        refine pure_ (i := 4) (N := some 96) (v := ?_) (a' := ?_) #[true, true, true, true, true, false, false, false, false, false, false, false, false, false, false, false, false, false, false, false] rfl rfl (by kernel_rfl) (fun _ _ _ h => h) (Or.inl ⟨by rfl, ?_⟩) ?_ ?_
                                        rotate_left
                                        · intro w'
                                          go_simp
                                          with_reducible rfl
                                        rotate_left
                                        · simp only [Act.put, List.setIfInBounds_toArray, List.set_cons_zero, List.set_cons_succ, i64_w, i32_w]
                                          rfl
                                        refine pure_ (i := 5) (N := some 97) (v := ?_) (a' := ?_) #[true, true, true, true, true, true, false, false, false, false, false, false, false, false, false, false, false, false, false, false] rfl rfl (by kernel_rfl) (fun _ _ _ h => h) (Or.inl ⟨by rfl, ?_⟩) ?_ ?_
                                        rotate_left
                                        · intro w'
                                          go_simp
                                          with_reducible rfl
                                        rotate_left
                                        · simp only [Act.put, List.setIfInBounds_toArray, List.set_cons_zero, List.set_cons_succ, i64_w, i32_w]
                                          rfl
                                        refine pure_ (i := 8) (N := some 100) (v := ?_) (a' := ?_) #[true, true, true, true, true, true, false, false, true, false, false, false, false, false, false, false, false, false, false, false] rfl rfl (by kernel_rfl) (fun _ _ _ h => h) (Or.inl ⟨by rfl, ?_⟩) ?_ ?_
                                        rotate_left
                                        · intro w'
                                          go_simp
                                          with_reducible rfl
                                        rotate_left
                                        · simp only [Act.put, List.setIfInBounds_toArray, List.set_cons_zero, List.set_cons_succ, i64_w, i32_w]
                                          rfl
                                        refine take_ (i := 9) (N := some 101) (v := ?_) (a' := ?_) #[true, true, true, true, true, true, false, false, true, true, false, false, false, false, false, false, false, false, false, false] rfl rfl (by kernel_rfl) (fun _ _ _ h => h) (Or.inl ⟨by rfl, ?_⟩) hHeld ?_ ?_
                                        rotate_left
                                        · rintro w' hS'
                                          obtain ⟨s0, s1, s2, s3, s4, s5, s6⟩ := hS'
                                          go_simp
                                          with_reducible rfl
                                        rotate_left
                                        · simp only [Act.put, List.setIfInBounds_toArray, List.set_cons_zero, List.set_cons_succ, i64_w, i32_w]
                                          rfl
                                        refine one_ (i := 6) (N := some 98) #[true, true, true, true, true, true, true, false, true, true, false, false, false, false, false, false, false, false, false, false] rfl rfl (by kernel_rfl) (by decide) (fun K hK => ?_)
                                        obtain ⟨t1895, HA1949, AL1904⟩ := bind_some AL1904
                                        refine goes_ Tryd.func20 (by kernel_rfl) rfl #[.int .u32 t1821, .int .i64 0, .int .i64 2] (by rfl) rfl rfl (by (try simp only [List.map_toArray, List.map_cons, List.map_nil]); first | done | rfl) ?_
                                        refine (pack_Get.calls t1821 0 2 t1895 _ ⟨HGl0.out.pass (l := []) HS.out⟩ ⟨Sep.start _⟩ HA1949).mono ?_
                                        rintro e_ w1950 ⟨rfl, hS⟩
                                        replace HS : Aside0 (Sep (fps []) w [b13 g1278 g1279 t1271.1 t1271.2.1 t1271.2.2.1 t1271.2.2.2.1, b12 g1279 A1280 ((t1271.2.2.2.2).length) n1282 x1669, r4 A1280 ((t1271.2.2.2.2).length) n1282 x1667, r15 g1288 m1284 x1668, b1 g1918 ((rdOf (0, 0, 0, 0, 0, 0, 0) x1668 x1907).1) ((rdOf (0, 0, 0, 0, 0, 0, 0) x1668 x1907).2.1) ((rdOf (0, 0, 0, 0, 0, 0, 0) x1668 x1907).2.2.1) ((rdOf (0, 0, 0, 0, 0, 0, 0) x1668 x1907).2.2.2.1) ((rdOf (0, 0, 0, 0, 0, 0, 0) x1668 x1907).2.2.2.2.1) ((rdOf (0, 0, 0, 0, 0, 0, 0) x1668 x1907).2.2.2.2.2.1) ((rdOf (0, 0, 0, 0, 0, 0, 0) x1668 x1907).2.2.2.2.2.2)] w1950) := ⟨HS.out.call hS⟩
                                        clear hS
                                        refine ⟨_, rfl, ?_⟩
                                        refine hK.out _ _ (⟨blk_cellv (HS.out.at4) 0 rfl, blk_cellv (HS.out.at4) 1 rfl, blk_cellv (HS.out.at4) 2 rfl, blk_cellv (HS.out.at4) 3 rfl, blk_cellv (HS.out.at4) 4 rfl, blk_cellv (HS.out.at4) 5 rfl, blk_cellv (HS.out.at4) 6 rfl⟩) (fun hHeld => ?_)
                                        clear hK K
                                        refine norm_ (a' := ?_) ?_ ?_
                                        rotate_left
                                        · show Act.put _ (some 98) _ = _
                                          simp only [Act.put, List.setIfInBounds_toArray, List.set_cons_zero, List.set_cons_succ, i64_w, i32_w]
                                          rfl
                                        refine pure_ (i := 7) (N := some 99) (v := ?_) (a' := ?_) #[true, true, true, true, true, true, true, true, true, true, false, false, false, false, false, false, false, false, false, false] rfl rfl (by kernel_rfl) (fun _ _ _ h => h) (Or.inl ⟨by rfl, ?_⟩) ?_ ?_
                                        rotate_left
                                        · intro w'
                                          go_simp
                                          with_reducible rfl
                                        rotate_left
                                        · simp only [Act.put, List.setIfInBounds_toArray, List.set_cons_zero, List.set_cons_succ, i64_w, i32_w]
                                          rfl
                                        refine pure_ (i := 10) (N := some 102) (v := ?_) (a' := ?_) #[true, true, true, true, true, true, true, true, true, true, true, false, false, false, false, false, false, false, false, false] rfl rfl (by kernel_rfl) (fun _ _ _ h => h) (Or.inl ⟨by rfl, ?_⟩) ?_ ?_
                                        rotate_left
                                        · intro w'
                                          go_simp
                                          with_reducible rfl
                                        rotate_left
                                        · simp only [Act.put, List.setIfInBounds_toArray, List.set_cons_zero, List.set_cons_succ, i64_w, i32_w]
                                          rfl
                                        refine pure_ (i := 11) (N := some 103) (v := ?_) (a' := ?_) #[true, true, true, true, true, true, true, true, true, true, true, true, false, false, false, false, false, false, false, false] rfl rfl (by kernel_rfl) (fun _ _ _ h => h) (Or.inl ⟨by rfl, ?_⟩) ?_ ?_
                                        rotate_left
                                        · intro w'
                                          go_simp
                                          with_reducible rfl
                                        rotate_left
                                        · simp only [Act.put, List.setIfInBounds_toArray, List.set_cons_zero, List.set_cons_succ, i64_w, i32_w]
                                          rfl
                                        refine pure_ (i := 12) (N := some 104) (v := ?_) (a' := ?_) #[true, true, true, true, true, true, true, true, true, true, true, true, true, false, false, false, false, false, false, false] rfl rfl (by kernel_rfl) (fun _ _ _ h => h) (Or.inl ⟨by rfl, ?_⟩) ?_ ?_
                                        rotate_left
                                        · intro w'
                                          go_simp
                                          with_reducible rfl
                                        rotate_left
                                        · simp only [Act.put, List.setIfInBounds_toArray, List.set_cons_zero, List.set_cons_succ, i64_w, i32_w]
                                          rfl
                                        by_cases c1951 : (wrap64 (t1895)) = ((rdOf (0, 0, 0, 0, 0, 0, 0) x1668 x1907).1)
                                        · replace AL1904 := if_yes c1951 AL1904
                                          have c1951b0 : ((wrap64 (t1895)) == ((rdOf (0, 0, 0, 0, 0, 0, 0) x1668 x1907).1)) = true := beq_iff_eq.mpr c1951
                                          have c1951b1 : ((wrap64 (t1895)) != ((rdOf (0, 0, 0, 0, 0, 0, 0) x1668 x1907).1)) = false := bne_eq_false_iff_eq.mpr c1951
                                          clear c1951
                                          try simp only [c1951b0, c1951b1, Bool.not_true, Bool.not_false]
                                          refine pure_ (i := 13) (N := some 105) (v := ?_) (a' := ?_) #[true, true, true, true, true, true, true, true, true, true, true, true, true, true, false, false, false, false, false, false] rfl rfl (by kernel_rfl) (fun _ _ _ h => h) (Or.inl ⟨by rfl, ?_⟩) ?_ ?_
                                          rotate_left
                                          · intro w'
                                            go_simp
                                            with_reducible rfl
                                          rotate_left
                                          · simp only [Act.put, List.setIfInBounds_toArray, List.set_cons_zero, List.set_cons_succ, i64_w, i32_w]
                                            rfl
                                          try simp only [c1951b0, c1951b1, Bool.not_true, Bool.not_false]
                                          refine pure_ (i := 16) (N := some 108) (v := ?_) (a' := ?_) #[true, true, true, true, true, true, true, true, true, true, true, true, true, true, false, false, true, false, false, false] rfl rfl (by kernel_rfl) (fun _ _ _ h => h) (Or.inl ⟨by rfl, ?_⟩) ?_ ?_
                                          rotate_left
                                          · intro w'
                                            go_simp
                                            with_reducible rfl
                                          rotate_left
                                          · simp only [Act.put, List.setIfInBounds_toArray, List.set_cons_zero, List.set_cons_succ, i64_w, i32_w]
                                            rfl
                                          try simp only [c1951b0, c1951b1, Bool.not_true, Bool.not_false]
                                          refine take_ (i := 17) (N := some 109) (v := ?_) (a' := ?_) #[true, true, true, true, true, true, true, true, true, true, true, true, true, true, false, false, true, true, false, false] rfl rfl (by kernel_rfl) (fun _ _ _ h => h) (Or.inl ⟨by rfl, ?_⟩) hHeld ?_ ?_
                                          rotate_left
                                          · rintro w' hS'
                                            obtain ⟨s0, s1, s2, s3, s4, s5, s6⟩ := hS'
                                            go_simp
                                            with_reducible rfl
                                          rotate_left
                                          · simp only [Act.put, List.setIfInBounds_toArray, List.set_cons_zero, List.set_cons_succ, i64_w, i32_w]
                                            rfl
                                          try simp only [c1951b0, c1951b1, Bool.not_true, Bool.not_false]
                                          refine one_ (i := 14) (N := some 106) #[true, true, true, true, true, true, true, true, true, true, true, true, true, true, true, false, true, true, false, false] rfl rfl (by kernel_rfl) (by decide) (fun K hK => ?_)
                                          obtain ⟨t1899, HA1952, AL1904⟩ := bind_some AL1904
                                          refine goes_ Tryd.func20 (by kernel_rfl) rfl #[.int .u32 t1821, .int .i64 8, .int .i64 24] (by rfl) rfl rfl (by (try simp only [List.map_toArray, List.map_cons, List.map_nil]); first | done | rfl) ?_
                                          refine (pack_Get.calls t1821 8 24 t1899 _ ⟨HGl0.out.pass (l := []) HS.out⟩ ⟨Sep.start _⟩ HA1952).mono ?_
                                          rintro e_ w1953 ⟨rfl, hS⟩
                                          replace HS : Aside0 (Sep (fps []) w [b13 g1278 g1279 t1271.1 t1271.2.1 t1271.2.2.1 t1271.2.2.2.1, b12 g1279 A1280 ((t1271.2.2.2.2).length) n1282 x1669, r4 A1280 ((t1271.2.2.2.2).length) n1282 x1667, r15 g1288 m1284 x1668, b1 g1918 ((rdOf (0, 0, 0, 0, 0, 0, 0) x1668 x1907).1) ((rdOf (0, 0, 0, 0, 0, 0, 0) x1668 x1907).2.1) ((rdOf (0, 0, 0, 0, 0, 0, 0) x1668 x1907).2.2.1) ((rdOf (0, 0, 0, 0, 0, 0, 0) x1668 x1907).2.2.2.1) ((rdOf (0, 0, 0, 0, 0, 0, 0) x1668 x1907).2.2.2.2.1) ((rdOf (0, 0, 0, 0, 0, 0, 0) x1668 x1907).2.2.2.2.2.1) ((rdOf (0, 0, 0, 0, 0, 0, 0) x1668 x1907).2.2.2.2.2.2)] w1953) := ⟨HS.out.call hS⟩
                                          clear hS
                                          refine ⟨_, rfl, ?_⟩
                                          refine hK.out _ _ (⟨blk_cellv (HS.out.at4) 0 rfl, blk_cellv (HS.out.at4) 1 rfl, blk_cellv (HS.out.at4) 2 rfl, blk_cellv (HS.out.at4) 3 rfl, blk_cellv (HS.out.at4) 4 rfl, blk_cellv (HS.out.at4) 5 rfl, blk_cellv (HS.out.at4) 6 rfl⟩) (fun hHeld => ?_)
                                          clear hK K
                                          refine norm_ (a' := ?_) ?_ ?_
                                          rotate_left
                                          · show Act.put _ (some 106) _ = _
                                            simp only [Act.put, List.setIfInBounds_toArray, List.set_cons_zero, List.set_cons_succ, i64_w, i32_w]
                                            rfl
                                          try simp only [c1951b0, c1951b1, Bool.not_true, Bool.not_false]
                                          refine pure_ (i := 15) (N := some 107) (v := ?_) (a' := ?_) #[true, true, true, true, true, true, true, true, true, true, true, true, true, true, true, true, true, true, false, false] rfl rfl (by kernel_rfl) (fun _ _ _ h => h) (Or.inl ⟨by rfl, ?_⟩) ?_ ?_
                                          rotate_left
                                          · intro w'
                                            go_simp
                                            with_reducible rfl
                                          rotate_left
                                          · simp only [Act.put, List.setIfInBounds_toArray, List.set_cons_zero, List.set_cons_succ, i64_w, i32_w]
                                            rfl
                                          try simp only [c1951b0, c1951b1, Bool.not_true, Bool.not_false]
                                          refine pure_ (i := 18) (N := some 110) (v := ?_) (a' := ?_) #[true, true, true, true, true, true, true, true, true, true, true, true, true, true, true, true, true, true, true, false] rfl rfl (by kernel_rfl) (fun _ _ _ h => h) (Or.inl ⟨by rfl, ?_⟩) ?_ ?_
                                          rotate_left
                                          · intro w'
                                            go_simp
                                            with_reducible rfl
                                          rotate_left
                                          · simp only [Act.put, List.setIfInBounds_toArray, List.set_cons_zero, List.set_cons_succ, i64_w, i32_w]
                                            rfl
                                          refine pure_ (i := 19) (N := some 111) (v := ?_) (a' := ?_) #[true, true, true, true, true, true, true, true, true, true, true, true, true, true, true, true, true, true, true, true] rfl rfl (by kernel_rfl) (fun _ _ _ h => h) (Or.inl ⟨by rfl, ?_⟩) ?_ ?_
                                          rotate_left
                                          · intro w'
                                            go_simp
                                            with_reducible rfl
                                          rotate_left
                                          · simp only [Act.put, List.setIfInBounds_toArray, List.set_cons_zero, List.set_cons_succ, i64_w, i32_w]
                                            rfl
                                          refine done_ (by kernel_rfl) ?_
                                          by_cases c1954 : (wrap64 (t1899)) = ((rdOf (0, 0, 0, 0, 0, 0, 0) x1668 x1907).2.2.2.2.2.2)
                                          · replace AL1904 := if_yes c1954 AL1904
                                            have c1954b0 : ((wrap64 (t1899)) == ((rdOf (0, 0, 0, 0, 0, 0, 0) x1668 x1907).2.2.2.2.2.2)) = true := beq_iff_eq.mpr c1954
                                            have c1954b1 : ((wrap64 (t1899)) != ((rdOf (0, 0, 0, 0, 0, 0, 0) x1668 x1907).2.2.2.2.2.2)) = false := bne_eq_false_iff_eq.mpr c1954
                                            clear c1954
                                            replace HS : Aside0 (Sep (fps []) w [b13 g1278 g1279 t1271.1 t1271.2.1 t1271.2.2.1 t1271.2.2.2.1, b12 g1279 A1280 ((t1271.2.2.2.2).length) n1282 x1669, r4 A1280 ((t1271.2.2.2.2).length) n1282 x1667, r15 g1288 m1284 x1668] w1953) := ⟨HS.out.sub (.cons_cons _ (.cons_cons _ (.cons_cons _ (.cons_cons _ (.cons _ .slnil)))))⟩
                                            go_wp2_with fail
                                            go_roundg k1906
                                            case measure => exact Nat.lt_succ_self _
                                            case rel => exact ⟨(wrap64 (x1907 + 1)), (by first | rfl | (simp [IntKind.wrap_u32]; done)), Aside0.mk AL1904.out, ⟨HS.out⟩⟩
                                          · replace AL1904 := if_no c1954 AL1904
                                            have c1954b0 : ((wrap64 (t1899)) == ((rdOf (0, 0, 0, 0, 0, 0, 0) x1668 x1907).2.2.2.2.2.2)) = false := beq_eq_false_iff_ne.mpr c1954
                                            have c1954b1 : ((wrap64 (t1899)) != ((rdOf (0, 0, 0, 0, 0, 0, 0) x1668 x1907).2.2.2.2.2.2)) = true := bne_iff_ne.mpr c1954
                                            clear c1954
                                            replace HS : Aside0 (Sep (fps []) w [b13 g1278 g1279 t1271.1 t1271.2.1 t1271.2.2.1 t1271.2.2.2.1, b12 g1279 A1280 ((t1271.2.2.2.2).length) n1282 x1669, r4 A1280 ((t1271.2.2.2.2).length) n1282 x1667, r15 g1288 m1284 x1668] w1953) := ⟨HS.out.sub (.cons_cons _ (.cons_cons _ (.cons_cons _ (.cons_cons _ (.cons _ .slnil)))))⟩
                                            go_wp2_with fail
                                            have ho := some_eq AL1904
                                            subst ho
                                            have H := lp_ret H
                                            go_ret
                                            rw [← some_eq H]
                                            exact ⟨(by first | rfl | (simp [IntKind.wrap_u32]; done)), HS.out.sub (.cons _ (.cons _ (.cons _ (.cons _ .slnil))))⟩
                                        · replace AL1904 := if_no c1951 AL1904
                                          have c1951b0 : ((wrap64 (t1895)) == ((rdOf (0, 0, 0, 0, 0, 0, 0) x1668 x1907).1)) = false := beq_eq_false_iff_ne.mpr c1951
                                          have c1951b1 : ((wrap64 (t1895)) != ((rdOf (0, 0, 0, 0, 0, 0, 0) x1668 x1907).1)) = true := bne_iff_ne.mpr c1951
                                          clear c1951
                                          try simp only [c1951b0, c1951b1, Bool.not_true, Bool.not_false]
                                          refine pure_ (i := 13) (N := some 105) (v := undef) (a' := ?_) #[true, true, true, true, true, true, true, true, true, true, true, true, true, true, false, false, false, false, false, false] rfl rfl (by kernel_rfl) (fun _ _ _ h => h) (Or.inr ⟨by rfl, rfl⟩) ?_ ?_
                                          rotate_left
                                          · simp only [Act.put, List.setIfInBounds_toArray, List.set_cons_zero, List.set_cons_succ, i64_w, i32_w]
                                            rfl
                                          try simp only [c1951b0, c1951b1, Bool.not_true, Bool.not_false]
                                          refine pure_ (i := 14) (N := some 106) (v := undef) (a' := ?_) #[true, true, true, true, true, true, true, true, true, true, true, true, true, true, true, false, false, false, false, false] rfl rfl (by kernel_rfl) (fun _ _ _ h => h) (Or.inr ⟨by rfl, rfl⟩) ?_ ?_
                                          rotate_left
                                          · simp only [Act.put, List.setIfInBounds_toArray, List.set_cons_zero, List.set_cons_succ, i64_w, i32_w]
                                            rfl
                                          try simp only [c1951b0, c1951b1, Bool.not_true, Bool.not_false]
                                          refine pure_ (i := 15) (N := some 107) (v := undef) (a' := ?_) #[true, true, true, true, true, true, true, true, true, true, true, true, true, true, true, true, false, false, false, false] rfl rfl (by kernel_rfl) (fun _ _ _ h => h) (Or.inr ⟨by rfl, rfl⟩) ?_ ?_
                                          rotate_left
                                          · simp only [Act.put, List.setIfInBounds_toArray, List.set_cons_zero, List.set_cons_succ, i64_w, i32_w]
                                            rfl
                                          try simp only [c1951b0, c1951b1, Bool.not_true, Bool.not_false]
                                          refine pure_ (i := 16) (N := some 108) (v := undef) (a' := ?_) #[true, true, true, true, true, true, true, true, true, true, true, true, true, true, true, true, true, false, false, false] rfl rfl (by kernel_rfl) (fun _ _ _ h => h) (Or.inr ⟨by rfl, rfl⟩) ?_ ?_
                                          rotate_left
                                          · simp only [Act.put, List.setIfInBounds_toArray, List.set_cons_zero, List.set_cons_succ, i64_w, i32_w]
                                            rfl
                                          try simp only [c1951b0, c1951b1, Bool.not_true, Bool.not_false]
                                          refine pure_ (i := 17) (N := some 109) (v := undef) (a' := ?_) #[true, true, true, true, true, true, true, true, true, true, true, true, true, true, true, true, true, true, false, false] rfl rfl (by kernel_rfl) (fun _ _ _ h => h) (Or.inr ⟨by rfl, rfl⟩) ?_ ?_
                                          rotate_left
                                          · simp only [Act.put, List.setIfInBounds_toArray, List.set_cons_zero, List.set_cons_succ, i64_w, i32_w]
                                            rfl
                                          try simp only [c1951b0, c1951b1, Bool.not_true, Bool.not_false]
                                          refine pure_ (i := 18) (N := some 110) (v := undef) (a' := ?_) #[true, true, true, true, true, true, true, true, true, true, true, true, true, true, true, true, true, true, true, false] rfl rfl (by kernel_rfl) (fun _ _ _ h => h) (Or.inr ⟨by rfl, rfl⟩) ?_ ?_
                                          rotate_left
                                          · simp only [Act.put, List.setIfInBounds_toArray, List.set_cons_zero, List.set_cons_succ, i64_w, i32_w]
                                            rfl
                                          refine pure_ (i := 19) (N := some 111) (v := ?_) (a' := ?_) #[true, true, true, true, true, true, true, true, true, true, true, true, true, true, true, true, true, true, true, true] rfl rfl (by kernel_rfl) (fun _ _ _ h => h) (Or.inl ⟨by rfl, ?_⟩) ?_ ?_
                                          rotate_left
                                          · intro w'
                                            go_simp
                                            with_reducible rfl
                                          rotate_left
                                          · simp only [Act.put, List.setIfInBounds_toArray, List.set_cons_zero, List.set_cons_succ, i64_w, i32_w]
                                            rfl
                                          refine done_ (by kernel_rfl) ?_
                                          replace HS : Aside0 (Sep (fps []) w [b13 g1278 g1279 t1271.1 t1271.2.1 t1271.2.2.1 t1271.2.2.2.1, b12 g1279 A1280 ((t1271.2.2.2.2).length) n1282 x1669, r4 A1280 ((t1271.2.2.2.2).length) n1282 x1667, r15 g1288 m1284 x1668] w1950) := ⟨HS.out.sub (.cons_cons _ (.cons_cons _ (.cons_cons _ (.cons_cons _ (.cons _ .slnil)))))⟩
                                          go_wp2_with fail
                                          have ho := some_eq AL1904
                                          subst ho
                                          have H := lp_ret H
                                          go_ret
                                          rw [← some_eq H]
                                          exact ⟨(by first | rfl | (simp [IntKind.wrap_u32]; done)), HS.out.sub (.cons _ (.cons _ (.cons _ (.cons _ .slnil))))⟩
                                      · replace AL1904 := if_no c1948 AL1904
                                        have c1948b0 : (t1885.2.2.2.2.2.2 == ((rdOf (0, 0, 0, 0, 0, 0, 0) x1668 x1907).2.2.2.2.2.2)) = false := beq_eq_false_iff_ne.mpr c1948
                                        have c1948b1 : (t1885.2.2.2.2.2.2 != ((rdOf (0, 0, 0, 0, 0, 0, 0) x1668 x1907).2.2.2.2.2.2)) = true := bne_iff_ne.mpr c1948
                                        clear c1948
                                        refine pure_ (i := 3) (N := some 95) (v := ?_) (a' := ?_) #[true, true, true, true, false, false, false, false, false, false, false, false, false, false, false, false, false, false, false, false] rfl rfl (by kernel_rfl) (fun _ _ _ h => h) (Or.inl ⟨by rfl, ?_⟩) ?_ ?_
                                        rotate_left
                                        · intro w'
                                          go_simp
                                          with_reducible rfl
                                        rotate_left
                                        · simp only [Act.put, List.setIfInBounds_toArray, List.set_cons_zero, List.set_cons_succ, i64_w, i32_w]
                                          rfl
                                        refine pure_ (i := 4) (N := some 96) (v := ?_) (a' := ?_) #[true, true, true, true, true, false, false, false, false, false, false, false, false, false, false, false, false, false, false, false] rfl rfl (by kernel_rfl) (fun _ _ _ h => h) (Or.inl ⟨by rfl, ?_⟩) ?_ ?_
                                        rotate_left
                                        · intro w'
                                          go_simp
                                          with_reducible rfl
                                        rotate_left
                                        · simp only [Act.put, List.setIfInBounds_toArray, List.set_cons_zero, List.set_cons_succ, i64_w, i32_w]
                                          rfl
                                        refine pure_ (i := 5) (N := some 97) (v := undef) (a' := ?_) #[true, true, true, true, true, true, false, false, false, false, false, false, false, false, false, false, false, false, false, false] rfl rfl (by kernel_rfl) (fun _ _ _ h => h) (Or.inr ⟨by rfl, rfl⟩) ?_ ?_
                                        rotate_left
                                        · simp only [Act.put, List.setIfInBounds_toArray, List.set_cons_zero, List.set_cons_succ, i64_w, i32_w]
                                          rfl
                                        refine pure_ (i := 6) (N := some 98) (v := undef) (a' := ?_) #[true, true, true, true, true, true, true, false, false, false, false, false, false, false, false, false, false, false, false, false] rfl rfl (by kernel_rfl) (fun _ _ _ h => h) (Or.inr ⟨by rfl, rfl⟩) ?_ ?_
                                        rotate_left
                                        · simp only [Act.put, List.setIfInBounds_toArray, List.set_cons_zero, List.set_cons_succ, i64_w, i32_w]
                                          rfl
                                        refine pure_ (i := 7) (N := some 99) (v := undef) (a' := ?_) #[true, true, true, true, true, true, true, true, false, false, false, false, false, false, false, false, false, false, false, false] rfl rfl (by kernel_rfl) (fun _ _ _ h => h) (Or.inr ⟨by rfl, rfl⟩) ?_ ?_
                                        rotate_left
                                        · simp only [Act.put, List.setIfInBounds_toArray, List.set_cons_zero, List.set_cons_succ, i64_w, i32_w]
                                          rfl
                                        refine pure_ (i := 8) (N := some 100) (v := undef) (a' := ?_) #[true, true, true, true, true, true, true, true, true, false, false, false, false, false, false, false, false, false, false, false] rfl rfl (by kernel_rfl) (fun _ _ _ h => h) (Or.inr ⟨by rfl, rfl⟩) ?_ ?_
                                        rotate_left
                                        · simp only [Act.put, List.setIfInBounds_toArray, List.set_cons_zero, List.set_cons_succ, i64_w, i32_w]
                                          rfl
                                        refine pure_ (i := 9) (N := some 101) (v := undef) (a' := ?_) #[true, true, true, true, true, true, true, true, true, true, false, false, false, false, false, false, false, false, false, false] rfl rfl (by kernel_rfl) (fun _ _ _ h => h) (Or.inr ⟨by rfl, rfl⟩) ?_ ?_
                                        rotate_left
                                        · simp only [Act.put, List.setIfInBounds_toArray, List.set_cons_zero, List.set_cons_succ, i64_w, i32_w]
                                          rfl
                                        refine pure_ (i := 10) (N := some 102) (v := undef) (a' := ?_) #[true, true, true, true, true, true, true, true, true, true, true, false, false, false, false, false, false, false, false, false] rfl rfl (by kernel_rfl) (fun _ _ _ h => h) (Or.inr ⟨by rfl, rfl⟩) ?_ ?_
                                        rotate_left
                                        · simp only [Act.put, List.setIfInBounds_toArray, List.set_cons_zero, List.set_cons_succ, i64_w, i32_w]
                                          rfl
                                        refine pure_ (i := 11) (N := some 103) (v := ?_) (a' := ?_) #[true, true, true, true, true, true, true, true, true, true, true, true, false, false, false, false, false, false, false, false] rfl rfl (by kernel_rfl) (fun _ _ _ h => h) (Or.inl ⟨by rfl, ?_⟩) ?_ ?_
                                        rotate_left
                                        · intro w'
                                          go_simp
                                          with_reducible rfl
                                        rotate_left
                                        · simp only [Act.put, List.setIfInBounds_toArray, List.set_cons_zero, List.set_cons_succ, i64_w, i32_w]
                                          rfl
                                        refine pure_ (i := 12) (N := some 104) (v := ?_) (a' := ?_) #[true, true, true, true, true, true, true, true, true, true, true, true, true, false, false, false, false, false, false, false] rfl rfl (by kernel_rfl) (fun _ _ _ h => h) (Or.inl ⟨by rfl, ?_⟩) ?_ ?_
                                        rotate_left
                                        · intro w'
                                          go_simp
                                          with_reducible rfl
                                        rotate_left
                                        · simp only [Act.put, List.setIfInBounds_toArray, List.set_cons_zero, List.set_cons_succ, i64_w, i32_w]
                                          rfl
                                        refine pure_ (i := 13) (N := some 105) (v := undef) (a' := ?_) #[true, true, true, true, true, true, true, true, true, true, true, true, true, true, false, false, false, false, false, false] rfl rfl (by kernel_rfl) (fun _ _ _ h => h) (Or.inr ⟨by rfl, rfl⟩) ?_ ?_
                                        rotate_left
                                        · simp only [Act.put, List.setIfInBounds_toArray, List.set_cons_zero, List.set_cons_succ, i64_w, i32_w]
                                          rfl
                                        refine pure_ (i := 14) (N := some 106) (v := undef) (a' := ?_) #[true, true, true, true, true, true, true, true, true, true, true, true, true, true, true, false, false, false, false, false] rfl rfl (by kernel_rfl) (fun _ _ _ h => h) (Or.inr ⟨by rfl, rfl⟩) ?_ ?_
                                        rotate_left
                                        · simp only [Act.put, List.setIfInBounds_toArray, List.set_cons_zero, List.set_cons_succ, i64_w, i32_w]
                                          rfl
                                        refine pure_ (i := 15) (N := some 107) (v := undef) (a' := ?_) #[true, true, true, true, true, true, true, true, true, true, true, true, true, true, true, true, false, false, false, false] rfl rfl (by kernel_rfl) (fun _ _ _ h => h) (Or.inr ⟨by rfl, rfl⟩) ?_ ?_
                                        rotate_left
                                        · simp only [Act.put, List.setIfInBounds_toArray, List.set_cons_zero, List.set_cons_succ, i64_w, i32_w]
                                          rfl
                                        refine pure_ (i := 16) (N := some 108) (v := undef) (a' := ?_) #[true, true, true, true, true, true, true, true, true, true, true, true, true, true, true, true, true, false, false, false] rfl rfl (by kernel_rfl) (fun _ _ _ h => h) (Or.inr ⟨by rfl, rfl⟩) ?_ ?_
                                        rotate_left
                                        · simp only [Act.put, List.setIfInBounds_toArray, List.set_cons_zero, List.set_cons_succ, i64_w, i32_w]
                                          rfl
                                        refine pure_ (i := 17) (N := some 109) (v := undef) (a' := ?_) #[true, true, true, true, true, true, true, true, true, true, true, true, true, true, true, true, true, true, false, false] rfl rfl (by kernel_rfl) (fun _ _ _ h => h) (Or.inr ⟨by rfl, rfl⟩) ?_ ?_
                                        rotate_left
                                        · simp only [Act.put, List.setIfInBounds_toArray, List.set_cons_zero, List.set_cons_succ, i64_w, i32_w]
                                          rfl
                                        refine pure_ (i := 18) (N := some 110) (v := undef) (a' := ?_) #[true, true, true, true, true, true, true, true, true, true, true, true, true, true, true, true, true, true, true, false] rfl rfl (by kernel_rfl) (fun _ _ _ h => h) (Or.inr ⟨by rfl, rfl⟩) ?_ ?_
                                        rotate_left
                                        · simp only [Act.put, List.setIfInBounds_toArray, List.set_cons_zero, List.set_cons_succ, i64_w, i32_w]
                                          rfl
                                        refine pure_ (i := 19) (N := some 111) (v := ?_) (a' := ?_) #[true, true, true, true, true, true, true, true, true, true, true, true, true, true, true, true, true, true, true, true] rfl rfl (by kernel_rfl) (fun _ _ _ h => h) (Or.inl ⟨by rfl, ?_⟩) ?_ ?_
                                        rotate_left
                                        · intro w'
                                          go_simp
                                          with_reducible rfl
                                        rotate_left
                                        · simp only [Act.put, List.setIfInBounds_toArray, List.set_cons_zero, List.set_cons_succ, i64_w, i32_w]
                                          rfl
                                        refine done_ (by kernel_rfl) ?_
                                        replace HS : Aside0 (Sep (fps []) w [b13 g1278 g1279 t1271.1 t1271.2.1 t1271.2.2.1 t1271.2.2.2.1, b12 g1279 A1280 ((t1271.2.2.2.2).length) n1282 x1669, r4 A1280 ((t1271.2.2.2.2).length) n1282 x1667, r15 g1288 m1284 x1668] w1941) := ⟨HS.out.sub (.cons_cons _ (.cons_cons _ (.cons_cons _ (.cons_cons _ (.cons _ .slnil)))))⟩
                                        go_wp2_with fail
                                        have ho := some_eq AL1904
                                        subst ho
                                        have H := lp_ret H
                                        go_ret
                                        rw [← some_eq H]
                                        exact ⟨(by first | rfl | (simp [IntKind.wrap_u32]; done)), HS.out.sub (.cons _ (.cons _ (.cons _ (.cons _ .slnil))))⟩
                                    · replace AL1904 := if_no c1947 AL1904
                                      have c1947b0 : (t1885.2.2.2.2.2.1 == ((rdOf (0, 0, 0, 0, 0, 0, 0) x1668 x1907).2.2.2.2.2.1)) = false := beq_eq_false_iff_ne.mpr c1947
                                      have c1947b1 : (t1885.2.2.2.2.2.1 != ((rdOf (0, 0, 0, 0, 0, 0, 0) x1668 x1907).2.2.2.2.2.1)) = true := bne_iff_ne.mpr c1947
                                      clear c1947
                                      refine pure_ (i := 3) (N := some 95) (v := ?_) (a' := ?_) #[true, true, true, true, false, false, false, false, false, false, false, false, false, false, false, false, false, false, false, false] rfl rfl (by kernel_rfl) (fun _ _ _ h => h) (Or.inl ⟨by rfl, ?_⟩) ?_ ?_
                                      rotate_left
                                      · intro w'
                                        go_simp
                                        with_reducible rfl
                                      rotate_left
                                      · simp only [Act.put, List.setIfInBounds_toArray, List.set_cons_zero, List.set_cons_succ, i64_w, i32_w]
                                        rfl
                                      refine pure_ (i := 4) (N := some 96) (v := ?_) (a' := ?_) #[true, true, true, true, true, false, false, false, false, false, false, false, false, false, false, false, false, false, false, false] rfl rfl (by kernel_rfl) (fun _ _ _ h => h) (Or.inl ⟨by rfl, ?_⟩) ?_ ?_
                                      rotate_left
                                      · intro w'
                                        go_simp
                                        with_reducible rfl
                                      rotate_left
                                      · simp only [Act.put, List.setIfInBounds_toArray, List.set_cons_zero, List.set_cons_succ, i64_w, i32_w]
                                        rfl
                                      refine pure_ (i := 5) (N := some 97) (v := undef) (a' := ?_) #[true, true, true, true, true, true, false, false, false, false, false, false, false, false, false, false, false, false, false, false] rfl rfl (by kernel_rfl) (fun _ _ _ h => h) (Or.inr ⟨by rfl, rfl⟩) ?_ ?_
                                      rotate_left
                                      · simp only [Act.put, List.setIfInBounds_toArray, List.set_cons_zero, List.set_cons_succ, i64_w, i32_w]
                                        rfl
                                      refine pure_ (i := 6) (N := some 98) (v := undef) (a' := ?_) #[true, true, true, true, true, true, true, false, false, false, false, false, false, false, false, false, false, false, false, false] rfl rfl (by kernel_rfl) (fun _ _ _ h => h) (Or.inr ⟨by rfl, rfl⟩) ?_ ?_
                                      rotate_left
                                      · simp only [Act.put, List.setIfInBounds_toArray, List.set_cons_zero, List.set_cons_succ, i64_w, i32_w]
                                        rfl
                                      refine pure_ (i := 7) (N := some 99) (v := undef) (a' := ?_) #[true, true, true, true, true, true, true, true, false, false, false, false, false, false, false, false, false, false, false, false] rfl rfl (by kernel_rfl) (fun _ _ _ h => h) (Or.inr ⟨by rfl, rfl⟩) ?_ ?_
                                      rotate_left
                                      · simp only [Act.put, List.setIfInBounds_toArray, List.set_cons_zero, List.set_cons_succ, i64_w, i32_w]
                                        rfl
                                      refine pure_ (i := 8) (N := some 100) (v := undef) (a' := ?_) #[true, true, true, true, true, true, true, true, true, false, false, false, false, false, false, false, false, false, false, false] rfl rfl (by kernel_rfl) (fun _ _ _ h => h) (Or.inr ⟨by rfl, rfl⟩) ?_ ?_
                                      rotate_left
                                      · simp only [Act.put, List.setIfInBounds_toArray, List.set_cons_zero, List.set_cons_succ, i64_w, i32_w]
                                        rfl
                                      refine pure_ (i := 9) (N := some 101) (v := undef) (a' := ?_) #[true, true, true, true, true, true, true, true, true, true, false, false, false, false, false, false, false, false, false, false] rfl rfl (by kernel_rfl) (fun _ _ _ h => h) (Or.inr ⟨by rfl, rfl⟩) ?_ ?_
                                      rotate_left
                                      · simp only [Act.put, List.setIfInBounds_toArray, List.set_cons_zero, List.set_cons_succ, i64_w, i32_w]
                                        rfl
                                      refine pure_ (i := 10) (N := some 102) (v := undef) (a' := ?_) #[true, true, true, true, true, true, true, true, true, true, true, false, false, false, false, false, false, false, false, false] rfl rfl (by kernel_rfl) (fun _ _ _ h => h) (Or.inr ⟨by rfl, rfl⟩) ?_ ?_
                                      rotate_left
                                      · simp only [Act.put, List.setIfInBounds_toArray, List.set_cons_zero, List.set_cons_succ, i64_w, i32_w]
                                        rfl
                                      refine pure_ (i := 11) (N := some 103) (v := ?_) (a' := ?_) #[true, true, true, true, true, true, true, true, true, true, true, true, false, false, false, false, false, false, false, false] rfl rfl (by kernel_rfl) (fun _ _ _ h => h) (Or.inl ⟨by rfl, ?_⟩) ?_ ?_
                                      rotate_left
                                      · intro w'
                                        go_simp
                                        with_reducible rfl
                                      rotate_left
                                      · simp only [Act.put, List.setIfInBounds_toArray, List.set_cons_zero, List.set_cons_succ, i64_w, i32_w]
                                        rfl
                                      refine pure_ (i := 12) (N := some 104) (v := ?_) (a' := ?_) #[true, true, true, true, true, true, true, true, true, true, true, true, true, false, false, false, false, false, false, false] rfl rfl (by kernel_rfl) (fun _ _ _ h => h) (Or.inl ⟨by rfl, ?_⟩) ?_ ?_
                                      rotate_left
                                      · intro w'
                                        go_simp
                                        with_reducible rfl
                                      rotate_left
                                      · simp only [Act.put, List.setIfInBounds_toArray, List.set_cons_zero, List.set_cons_succ, i64_w, i32_w]
                                        rfl
                                      refine pure_ (i := 13) (N := some 105) (v := undef) (a' := ?_) #[true, true, true, true, true, true, true, true, true, true, true, true, true, true, false, false, false, false, false, false] rfl rfl (by kernel_rfl) (fun _ _ _ h => h) (Or.inr ⟨by rfl, rfl⟩) ?_ ?_
                                      rotate_left
                                      · simp only [Act.put, List.setIfInBounds_toArray, List.set_cons_zero, List.set_cons_succ, i64_w, i32_w]
                                        rfl
                                      refine pure_ (i := 14) (N := some 106) (v := undef) (a' := ?_) #[true, true, true, true, true, true, true, true, true, true, true, true, true, true, true, false, false, false, false, false] rfl rfl (by kernel_rfl) (fun _ _ _ h => h) (Or.inr ⟨by rfl, rfl⟩) ?_ ?_
                                      rotate_left
                                      · simp only [Act.put, List.setIfInBounds_toArray, List.set_cons_zero, List.set_cons_succ, i64_w, i32_w]
                                        rfl
                                      refine pure_ (i := 15) (N := some 107) (v := undef) (a' := ?_) #[true, true, true, true, true, true, true, true, true, true, true, true, true, true, true, true, false, false, false, false] rfl rfl (by kernel_rfl) (fun _ _ _ h => h) (Or.inr ⟨by rfl, rfl⟩) ?_ ?_
                                      rotate_left
                                      · simp only [Act.put, List.setIfInBounds_toArray, List.set_cons_zero, List.set_cons_succ, i64_w, i32_w]
                                        rfl
                                      refine pure_ (i := 16) (N := some 108) (v := undef) (a' := ?_) #[true, true, true, true, true, true, true, true, true, true, true, true, true, true, true, true, true, false, false, false] rfl rfl (by kernel_rfl) (fun _ _ _ h => h) (Or.inr ⟨by rfl, rfl⟩) ?_ ?_
                                      rotate_left
                                      · simp only [Act.put, List.setIfInBounds_toArray, List.set_cons_zero, List.set_cons_succ, i64_w, i32_w]
                                        rfl
                                      refine pure_ (i := 17) (N := some 109) (v := undef) (a' := ?_) #[true, true, true, true, true, true, true, true, true, true, true, true, true, true, true, true, true, true, false, false] rfl rfl (by kernel_rfl) (fun _ _ _ h => h) (Or.inr ⟨by rfl, rfl⟩) ?_ ?_
                                      rotate_left
                                      · simp only [Act.put, List.setIfInBounds_toArray, List.set_cons_zero, List.set_cons_succ, i64_w, i32_w]
                                        rfl
                                      refine pure_ (i := 18) (N := some 110) (v := undef) (a' := ?_) #[true, true, true, true, true, true, true, true, true, true, true, true, true, true, true, true, true, true, true, false] rfl rfl (by kernel_rfl) (fun _ _ _ h => h) (Or.inr ⟨by rfl, rfl⟩) ?_ ?_
                                      rotate_left
                                      · simp only [Act.put, List.setIfInBounds_toArray, List.set_cons_zero, List.set_cons_succ, i64_w, i32_w]
                                        rfl
                                      refine pure_ (i := 19) (N := some 111) (v := ?_) (a' := ?_) #[true, true, true, true, true, true, true, true, true, true, true, true, true, true, true, true, true, true, true, true] rfl rfl (by kernel_rfl) (fun _ _ _ h => h) (Or.inl ⟨by rfl, ?_⟩) ?_ ?_
                                      rotate_left
                                      · intro w'
                                        go_simp
                                        with_reducible rfl
                                      rotate_left
                                      · simp only [Act.put, List.setIfInBounds_toArray, List.set_cons_zero, List.set_cons_succ, i64_w, i32_w]
                                        rfl
                                      refine done_ (by kernel_rfl) ?_
                                      replace HS : Aside0 (Sep (fps []) w [b13 g1278 g1279 t1271.1 t1271.2.1 t1271.2.2.1 t1271.2.2.2.1, b12 g1279 A1280 ((t1271.2.2.2.2).length) n1282 x1669, r4 A1280 ((t1271.2.2.2.2).length) n1282 x1667, r15 g1288 m1284 x1668] w1941) := ⟨HS.out.sub (.cons_cons _ (.cons_cons _ (.cons_cons _ (.cons_cons _ (.cons _ .slnil)))))⟩
                                      go_wp2_with fail
                                      have ho := some_eq AL1904
                                      subst ho
                                      have H := lp_ret H
                                      go_ret
                                      rw [← some_eq H]
                                      exact ⟨(by first | rfl | (simp [IntKind.wrap_u32]; done)), HS.out.sub (.cons _ (.cons _ (.cons _ (.cons _ .slnil))))⟩
                                  · replace AL1904 := if_no c1946 AL1904
                                    have c1946b0 : (t1885.2.2.2.2.1 == ((rdOf (0, 0, 0, 0, 0, 0, 0) x1668 x1907).2.2.2.2.1)) = false := beq_eq_false_iff_ne.mpr c1946
                                    have c1946b1 : (t1885.2.2.2.2.1 != ((rdOf (0, 0, 0, 0, 0, 0, 0) x1668 x1907).2.2.2.2.1)) = true := bne_iff_ne.mpr c1946
                                    clear c1946
                                    refine pure_ (i := 3) (N := some 95) (v := ?_) (a' := ?_) #[true, true, true, true, false, false, false, false, false, false, false, false, false, false, false, false, false, false, false, false] rfl rfl (by kernel_rfl) (fun _ _ _ h => h) (Or.inl ⟨by rfl, ?_⟩) ?_ ?_
                                    rotate_left
                                    · intro w'
                                      go_simp
                                      with_reducible rfl
                                    rotate_left
                                    · simp only [Act.put, List.setIfInBounds_toArray, List.set_cons_zero, List.set_cons_succ, i64_w, i32_w]
                                      rfl
                                    refine pure_ (i := 4) (N := some 96) (v := ?_) (a' := ?_) #[true, true, true, true, true, false, false, false, false, false, false, false, false, false, false, false, false, false, false, false] rfl rfl (by kernel_rfl) (fun _ _ _ h => h) (Or.inl ⟨by rfl, ?_⟩) ?_ ?_
                                    rotate_left
                                    · intro w'
                                      go_simp
                                      with_reducible rfl
                                    rotate_left
                                    · simp only [Act.put, List.setIfInBounds_toArray, List.set_cons_zero, List.set_cons_succ, i64_w, i32_w]
                                      rfl
                                    refine pure_ (i := 5) (N := some 97) (v := undef) (a' := ?_) #[true, true, true, true, true, true, false, false, false, false, false, false, false, false, false, false, false, false, false, false] rfl rfl (by kernel_rfl) (fun _ _ _ h => h) (Or.inr ⟨by rfl, rfl⟩) ?_ ?_
                                    rotate_left
                                    · simp only [Act.put, List.setIfInBounds_toArray, List.set_cons_zero, List.set_cons_succ, i64_w, i32_w]
                                      rfl
                                    refine pure_ (i := 6) (N := some 98) (v := undef) (a' := ?_) #[true, true, true, true, true, true, true, false, false, false, false, false, false, false, false, false, false, false, false, false] rfl rfl (by kernel_rfl) (fun _ _ _ h => h) (Or.inr ⟨by rfl, rfl⟩) ?_ ?_
                                    rotate_left
                                    · simp only [Act.put, List.setIfInBounds_toArray, List.set_cons_zero, List.set_cons_succ, i64_w, i32_w]
                                      rfl
                                    refine pure_ (i := 7) (N := some 99) (v := undef) (a' := ?_) #[true, true, true, true, true, true, true, true, false, false, false, false, false, false, false, false, false, false, false, false] rfl rfl (by kernel_rfl) (fun _ _ _ h => h) (Or.inr ⟨by rfl, rfl⟩) ?_ ?_
                                    rotate_left
                                    · simp only [Act.put, List.setIfInBounds_toArray, List.set_cons_zero, List.set_cons_succ, i64_w, i32_w]
                                      rfl
                                    refine pure_ (i := 8) (N := some 100) (v := undef) (a' := ?_) #[true, true, true, true, true, true, true, true, true, false, false, false, false, false, false, false, false, false, false, false] rfl rfl (by kernel_rfl) (fun _ _ _ h => h) (Or.inr ⟨by rfl, rfl⟩) ?_ ?_
                                    rotate_left
                                    · simp only [Act.put, List.setIfInBounds_toArray, List.set_cons_zero, List.set_cons_succ, i64_w, i32_w]
                                      rfl
                                    refine pure_ (i := 9) (N := some 101) (v := undef) (a' := ?_) #[true, true, true, true, true, true, true, true, true, true, false, false, false, false, false, false, false, false, false, false] rfl rfl (by kernel_rfl) (fun _ _ _ h => h) (Or.inr ⟨by rfl, rfl⟩) ?_ ?_
                                    rotate_left
                                    · simp only [Act.put, List.setIfInBounds_toArray, List.set_cons_zero, List.set_cons_succ, i64_w, i32_w]
                                      rfl
                                    refine pure_ (i := 10) (N := some 102) (v := undef) (a' := ?_) #[true, true, true, true, true, true, true, true, true, true, true, false, false, false, false, false, false, false, false, false] rfl rfl (by kernel_rfl) (fun _ _ _ h => h) (Or.inr ⟨by rfl, rfl⟩) ?_ ?_
                                    rotate_left
                                    · simp only [Act.put, List.setIfInBounds_toArray, List.set_cons_zero, List.set_cons_succ, i64_w, i32_w]
                                      rfl
                                    refine pure_ (i := 11) (N := some 103) (v := ?_) (a' := ?_) #[true, true, true, true, true, true, true, true, true, true, true, true, false, false, false, false, false, false, false, false] rfl rfl (by kernel_rfl) (fun _ _ _ h => h) (Or.inl ⟨by rfl, ?_⟩) ?_ ?_
                                    rotate_left
                                    · intro w'
                                      go_simp
                                      with_reducible rfl
                                    rotate_left
                                    · simp only [Act.put, List.setIfInBounds_toArray, List.set_cons_zero, List.set_cons_succ, i64_w, i32_w]
                                      rfl
                                    refine pure_ (i := 12) (N := some 104) (v := ?_) (a' := ?_) #[true, true, true, true, true, true, true, true, true, true, true, true, true, false, false, false, false, false, false, false] rfl rfl (by kernel_rfl) (fun _ _ _ h => h) (Or.inl ⟨by rfl, ?_⟩) ?_ ?_
                                    rotate_left
                                    · intro w'
                                      go_simp
                                      with_reducible rfl
                                    rotate_left
                                    · simp only [Act.put, List.setIfInBounds_toArray, List.set_cons_zero, List.set_cons_succ, i64_w, i32_w]
                                      rfl
                                    refine pure_ (i := 13) (N := some 105) (v := undef) (a' := ?_) #[true, true, true, true, true, true, true, true, true, true, true, true, true, true, false, false, false, false, false, false] rfl rfl (by kernel_rfl) (fun _ _ _ h => h) (Or.inr ⟨by rfl, rfl⟩) ?_ ?_
                                    rotate_left
                                    · simp only [Act.put, List.setIfInBounds_toArray, List.set_cons_zero, List.set_cons_succ, i64_w, i32_w]
                                      rfl
                                    refine pure_ (i := 14) (N := some 106) (v := undef) (a' := ?_) #[true, true, true, true, true, true, true, true, true, true, true, true, true, true, true, false, false, false, false, false] rfl rfl (by kernel_rfl) (fun _ _ _ h => h) (Or.inr ⟨by rfl, rfl⟩) ?_ ?_
                                    rotate_left
                                    · simp only [Act.put, List.setIfInBounds_toArray, List.set_cons_zero, List.set_cons_succ, i64_w, i32_w]
                                      rfl
                                    refine pure_ (i := 15) (N := some 107) (v := undef) (a' := ?_) #[true, true, true, true, true, true, true, true, true, true, true, true, true, true, true, true, false, false, false, false] rfl rfl (by kernel_rfl) (fun _ _ _ h => h) (Or.inr ⟨by rfl, rfl⟩) ?_ ?_
                                    rotate_left
                                    · simp only [Act.put, List.setIfInBounds_toArray, List.set_cons_zero, List.set_cons_succ, i64_w, i32_w]
                                      rfl
                                    refine pure_ (i := 16) (N := some 108) (v := undef) (a' := ?_) #[true, true, true, true, true, true, true, true, true, true, true, true, true, true, true, true, true, false, false, false] rfl rfl (by kernel_rfl) (fun _ _ _ h => h) (Or.inr ⟨by rfl, rfl⟩) ?_ ?_
                                    rotate_left
                                    · simp only [Act.put, List.setIfInBounds_toArray, List.set_cons_zero, List.set_cons_succ, i64_w, i32_w]
                                      rfl
                                    refine pure_ (i := 17) (N := some 109) (v := undef) (a' := ?_) #[true, true, true, true, true, true, true, true, true, true, true, true, true, true, true, true, true, true, false, false] rfl rfl (by kernel_rfl) (fun _ _ _ h => h) (Or.inr ⟨by rfl, rfl⟩) ?_ ?_
                                    rotate_left
                                    · simp only [Act.put, List.setIfInBounds_toArray, List.set_cons_zero, List.set_cons_succ, i64_w, i32_w]
                                      rfl
                                    refine pure_ (i := 18) (N := some 110) (v := undef) (a' := ?_) #[true, true, true, true, true, true, true, true, true, true, true, true, true, true, true, true, true, true, true, false] rfl rfl (by kernel_rfl) (fun _ _ _ h => h) (Or.inr ⟨by rfl, rfl⟩) ?_ ?_
                                    rotate_left
                                    · simp only [Act.put, List.setIfInBounds_toArray, List.set_cons_zero, List.set_cons_succ, i64_w, i32_w]
                                      rfl
                                    refine pure_ (i := 19) (N := some 111) (v := ?_) (a' := ?_) #[true, true, true, true, true, true, true, true, true, true, true, true, true, true, true, true, true, true, true, true] rfl rfl (by kernel_rfl) (fun _ _ _ h => h) (Or.inl ⟨by rfl, ?_⟩) ?_ ?_
                                    rotate_left
                                    · intro w'
                                      go_simp
                                      with_reducible rfl
                                    rotate_left
                                    · simp only [Act.put, List.setIfInBounds_toArray, List.set_cons_zero, List.set_cons_succ, i64_w, i32_w]
                                      rfl
                                    refine done_ (by kernel_rfl) ?_
                                    replace HS : Aside0 (Sep (fps []) w [b13 g1278 g1279 t1271.1 t1271.2.1 t1271.2.2.1 t1271.2.2.2.1, b12 g1279 A1280 ((t1271.2.2.2.2).length) n1282 x1669, r4 A1280 ((t1271.2.2.2.2).length) n1282 x1667, r15 g1288 m1284 x1668] w1941) := ⟨HS.out.sub (.cons_cons _ (.cons_cons _ (.cons_cons _ (.cons_cons _ (.cons _ .slnil)))))⟩
                                    go_wp2_with fail
                                    have ho := some_eq AL1904
                                    subst ho
                                    have H := lp_ret H
                                    go_ret
                                    rw [← some_eq H]
                                    exact ⟨(by first | rfl | (simp [IntKind.wrap_u32]; done)), HS.out.sub (.cons _ (.cons _ (.cons _ (.cons _ .slnil))))⟩
                                · replace AL1904 := if_no c1945 AL1904
                                  have c1945b0 : (t1885.2.2.2.1 == ((rdOf (0, 0, 0, 0, 0, 0, 0) x1668 x1907).2.2.2.1)) = false := beq_eq_false_iff_ne.mpr c1945
                                  have c1945b1 : (t1885.2.2.2.1 != ((rdOf (0, 0, 0, 0, 0, 0, 0) x1668 x1907).2.2.2.1)) = true := bne_iff_ne.mpr c1945
                                  clear c1945
                                  refine pure_ (i := 3) (N := some 95) (v := ?_) (a' := ?_) #[true, true, true, true, false, false, false, false, false, false, false, false, false, false, false, false, false, false, false, false] rfl rfl (by kernel_rfl) (fun _ _ _ h => h) (Or.inl ⟨by rfl, ?_⟩) ?_ ?_
                                  rotate_left
                                  · intro w'
                                    go_simp
                                    with_reducible rfl
                                  rotate_left
                                  · simp only [Act.put, List.setIfInBounds_toArray, List.set_cons_zero, List.set_cons_succ, i64_w, i32_w]
                                    rfl
                                  refine pure_ (i := 4) (N := some 96) (v := ?_) (a' := ?_) #[true, true, true, true, true, false, false, false, false, false, false, false, false, false, false, false, false, false, false, false] rfl rfl (by kernel_rfl) (fun _ _ _ h => h) (Or.inl ⟨by rfl, ?_⟩) ?_ ?_
                                  rotate_left
                                  · intro w'
                                    go_simp
                                    with_reducible rfl
                                  rotate_left
                                  · simp only [Act.put, List.setIfInBounds_toArray, List.set_cons_zero, List.set_cons_succ, i64_w, i32_w]
                                    rfl
                                  refine pure_ (i := 5) (N := some 97) (v := undef) (a' := ?_) #[true, true, true, true, true, true, false, false, false, false, false, false, false, false, false, false, false, false, false, false] rfl rfl (by kernel_rfl) (fun _ _ _ h => h) (Or.inr ⟨by rfl, rfl⟩) ?_ ?_
                                  rotate_left
                                  · simp only [Act.put, List.setIfInBounds_toArray, List.set_cons_zero, List.set_cons_succ, i64_w, i32_w]
                                    rfl
                                  refine pure_ (i := 6) (N := some 98) (v := undef) (a' := ?_) #[true, true, true, true, true, true, true, false, false, false, false, false, false, false, false, false, false, false, false, false] rfl rfl (by kernel_rfl) (fun _ _ _ h => h) (Or.inr ⟨by rfl, rfl⟩) ?_ ?_
                                  rotate_left
                                  · simp only [Act.put, List.setIfInBounds_toArray, List.set_cons_zero, List.set_cons_succ, i64_w, i32_w]
                                    rfl
                                  refine pure_ (i := 7) (N := some 99) (v := undef) (a' := ?_) #[true, true, true, true, true, true, true, true, false, false, false, false, false, false, false, false, false, false, false, false] rfl rfl (by kernel_rfl) (fun _ _ _ h => h) (Or.inr ⟨by rfl, rfl⟩) ?_ ?_
                                  rotate_left
                                  · simp only [Act.put, List.setIfInBounds_toArray, List.set_cons_zero, List.set_cons_succ, i64_w, i32_w]
                                    rfl
                                  refine pure_ (i := 8) (N := some 100) (v := undef) (a' := ?_) #[true, true, true, true, true, true, true, true, true, false, false, false, false, false, false, false, false, false, false, false] rfl rfl (by kernel_rfl) (fun _ _ _ h => h) (Or.inr ⟨by rfl, rfl⟩) ?_ ?_
                                  rotate_left
                                  · simp only [Act.put, List.setIfInBounds_toArray, List.set_cons_zero, List.set_cons_succ, i64_w, i32_w]
                                    rfl
                                  refine pure_ (i := 9) (N := some 101) (v := undef) (a' := ?_) #[true, true, true, true, true, true, true, true, true, true, false, false, false, false, false, false, false, false, false, false] rfl rfl (by kernel_rfl) (fun _ _ _ h => h) (Or.inr ⟨by rfl, rfl⟩) ?_ ?_
                                  rotate_left
                                  · simp only [Act.put, List.setIfInBounds_toArray, List.set_cons_zero, List.set_cons_succ, i64_w, i32_w]
                                    rfl
                                  refine pure_ (i := 10) (N := some 102) (v := undef) (a' := ?_) #[true, true, true, true, true, true, true, true, true, true, true, false, false, false, false, false, false, false, false, false] rfl rfl (by kernel_rfl) (fun _ _ _ h => h) (Or.inr ⟨by rfl, rfl⟩) ?_ ?_
                                  rotate_left
                                  · simp only [Act.put, List.setIfInBounds_toArray, List.set_cons_zero, List.set_cons_succ, i64_w, i32_w]
                                    rfl
                                  refine pure_ (i := 11) (N := some 103) (v := ?_) (a' := ?_) #[true, true, true, true, true, true, true, true, true, true, true, true, false, false, false, false, false, false, false, false] rfl rfl (by kernel_rfl) (fun _ _ _ h => h) (Or.inl ⟨by rfl, ?_⟩) ?_ ?_
                                  rotate_left
                                  · intro w'
                                    go_simp
                                    with_reducible rfl
                                  rotate_left
                                  · simp only [Act.put, List.setIfInBounds_toArray, List.set_cons_zero, List.set_cons_succ, i64_w, i32_w]
                                    rfl
                                  refine pure_ (i := 12) (N := some 104) (v := ?_) (a' := ?_) #[true, true, true, true, true, true, true, true, true, true, true, true, true, false, false, false, false, false, false, false] rfl rfl (by kernel_rfl) (fun _ _ _ h => h) (Or.inl ⟨by rfl, ?_⟩) ?_ ?_
                                  rotate_left
                                  · intro w'
                                    go_simp
                                    with_reducible rfl
                                  rotate_left
                                  · simp only [Act.put, List.setIfInBounds_toArray, List.set_cons_zero, List.set_cons_succ, i64_w, i32_w]
                                    rfl
                                  refine pure_ (i := 13) (N := some 105) (v := undef) (a' := ?_) #[true, true, true, true, true, true, true, true, true, true, true, true, true, true, false, false, false, false, false, false] rfl rfl (by kernel_rfl) (fun _ _ _ h => h) (Or.inr ⟨by rfl, rfl⟩) ?_ ?_
                                  rotate_left
                                  · simp only [Act.put, List.setIfInBounds_toArray, List.set_cons_zero, List.set_cons_succ, i64_w, i32_w]
                                    rfl
                                  refine pure_ (i := 14) (N := some 106) (v := undef) (a' := ?_) #[true, true, true, true, true, true, true, true, true, true, true, true, true, true, true, false, false, false, false, false] rfl rfl (by kernel_rfl) (fun _ _ _ h => h) (Or.inr ⟨by rfl, rfl⟩) ?_ ?_
                                  rotate_left
                                  · simp only [Act.put, List.setIfInBounds_toArray, List.set_cons_zero, List.set_cons_succ, i64_w, i32_w]
                                    rfl
                                  refine pure_ (i := 15) (N := some 107) (v := undef) (a' := ?_) #[true, true, true, true, true, true, true, true, true, true, true, true, true, true, true, true, false, false, false, false] rfl rfl (by kernel_rfl) (fun _ _ _ h => h) (Or.inr ⟨by rfl, rfl⟩) ?_ ?_
                                  rotate_left
                                  · simp only [Act.put, List.setIfInBounds_toArray, List.set_cons_zero, List.set_cons_succ, i64_w, i32_w]
                                    rfl
                                  refine pure_ (i := 16) (N := some 108) (v := undef) (a' := ?_) #[true, true, true, true, true, true, true, true, true, true, true, true, true, true, true, true, true, false, false, false] rfl rfl (by kernel_rfl) (fun _ _ _ h => h) (Or.inr ⟨by rfl, rfl⟩) ?_ ?_
                                  rotate_left
                                  · simp only [Act.put, List.setIfInBounds_toArray, List.set_cons_zero, List.set_cons_succ, i64_w, i32_w]
                                    rfl
                                  refine pure_ (i := 17) (N := some 109) (v := undef) (a' := ?_) #[true, true, true, true, true, true, true, true, true, true, true, true, true, true, true, true, true, true, false, false] rfl rfl (by kernel_rfl) (fun _ _ _ h => h) (Or.inr ⟨by rfl, rfl⟩) ?_ ?_
                                  rotate_left
                                  · simp only [Act.put, List.setIfInBounds_toArray, List.set_cons_zero, List.set_cons_succ, i64_w, i32_w]
                                    rfl
                                  refine pure_ (i := 18) (N := some 110) (v := undef) (a' := ?_) #[true, true, true, true, true, true, true, true, true, true, true, true, true, true, true, true, true, true, true, false] rfl rfl (by kernel_rfl) (fun _ _ _ h => h) (Or.inr ⟨by rfl, rfl⟩) ?_ ?_
                                  rotate_left
                                  · simp only [Act.put, List.setIfInBounds_toArray, List.set_cons_zero, List.set_cons_succ, i64_w, i32_w]
                                    rfl
                                  refine pure_ (i := 19) (N := some 111) (v := ?_) (a' := ?_) #[true, true, true, true, true, true, true, true, true, true, true, true, true, true, true, true, true, true, true, true] rfl rfl (by kernel_rfl) (fun _ _ _ h => h) (Or.inl ⟨by rfl, ?_⟩) ?_ ?_
                                  rotate_left
                                  · intro w'
                                    go_simp
                                    with_reducible rfl
                                  rotate_left
                                  · simp only [Act.put, List.setIfInBounds_toArray, List.set_cons_zero, List.set_cons_succ, i64_w, i32_w]
                                    rfl
                                  refine done_ (by kernel_rfl) ?_
                                  replace HS : Aside0 (Sep (fps []) w [b13 g1278 g1279 t1271.1 t1271.2.1 t1271.2.2.1 t1271.2.2.2.1, b12 g1279 A1280 ((t1271.2.2.2.2).length) n1282 x1669, r4 A1280 ((t1271.2.2.2.2).length) n1282 x1667, r15 g1288 m1284 x1668] w1941) := ⟨HS.out.sub (.cons_cons _ (.cons_cons _ (.cons_cons _ (.cons_cons _ (.cons _ .slnil)))))⟩
                                  go_wp2_with fail
                                  have ho := some_eq AL1904
                                  subst ho
                                  have H := lp_ret H
                                  go_ret
                                  rw [← some_eq H]
                                  exact ⟨(by first | rfl | (simp [IntKind.wrap_u32]; done)), HS.out.sub (.cons _ (.cons _ (.cons _ (.cons _ .slnil))))⟩
                              · replace AL1904 := if_no c1944 AL1904
                                have c1944b0 : (t1885.2.2.1 == ((rdOf (0, 0, 0, 0, 0, 0, 0) x1668 x1907).2.2.1)) = false := beq_eq_false_iff_ne.mpr c1944
                                have c1944b1 : (t1885.2.2.1 != ((rdOf (0, 0, 0, 0, 0, 0, 0) x1668 x1907).2.2.1)) = true := bne_iff_ne.mpr c1944
                                clear c1944
                                refine pure_ (i := 3) (N := some 95) (v := ?_) (a' := ?_) #[true, true, true, true, false, false, false, false, false, false, false, false, false, false, false, false, false, false, false, false] rfl rfl (by kernel_rfl) (fun _ _ _ h => h) (Or.inl ⟨by rfl, ?_⟩) ?_ ?_
                                rotate_left
                                · intro w'
                                  go_simp
                                  with_reducible rfl
                                rotate_left
                                · simp only [Act.put, List.setIfInBounds_toArray, List.set_cons_zero, List.set_cons_succ, i64_w, i32_w]
                                  rfl
                                refine pure_ (i := 4) (N := some 96) (v := ?_) (a' := ?_) #[true, true, true, true, true, false, false, false, false, false, false, false, false, false, false, false, false, false, false, false] rfl rfl (by kernel_rfl) (fun _ _ _ h => h) (Or.inl ⟨by rfl, ?_⟩) ?_ ?_
                                rotate_left
                                · intro w'
                                  go_simp
                                  with_reducible rfl
                                rotate_left
                                · simp only [Act.put, List.setIfInBounds_toArray, List.set_cons_zero, List.set_cons_succ, i64_w, i32_w]
                                  rfl
                                refine pure_ (i := 5) (N := some 97) (v := undef) (a' := ?_) #[true, true, true, true, true, true, false, false, false, false, false, false, false, false, false, false, false, false, false, false] rfl rfl (by kernel_rfl) (fun _ _ _ h => h) (Or.inr ⟨by rfl, rfl⟩) ?_ ?_
                                rotate_left
                                · simp only [Act.put, List.setIfInBounds_toArray, List.set_cons_zero, List.set_cons_succ, i64_w, i32_w]
                                  rfl
                                refine pure_ (i := 6) (N := some 98) (v := undef) (a' := ?_) #[true, true, true, true, true, true, true, false, false, false, false, false, false, false, false, false, false, false, false, false] rfl rfl (by kernel_rfl) (fun _ _ _ h => h) (Or.inr ⟨by rfl, rfl⟩) ?_ ?_
                                rotate_left
                                · simp only [Act.put, List.setIfInBounds_toArray, List.set_cons_zero, List.set_cons_succ, i64_w, i32_w]
                                  rfl
                                refine pure_ (i := 7) (N := some 99) (v := undef) (a' := ?_) #[true, true, true, true, true, true, true, true, false, false, false, false, false, false, false, false, false, false, false, false] rfl rfl (by kernel_rfl) (fun _ _ _ h => h) (Or.inr ⟨by rfl, rfl⟩) ?_ ?_
                                rotate_left
                                · simp only [Act.put, List.setIfInBounds_toArray, List.set_cons_zero, List.set_cons_succ, i64_w, i32_w]
                                  rfl
                                refine pure_ (i := 8) (N := some 100) (v := undef) (a' := ?_) #[true, true, true, true, true, true, true, true, true, false, false, false, false, false, false, false, false, false, false, false] rfl rfl (by kernel_rfl) (fun _ _ _ h => h) (Or.inr ⟨by rfl, rfl⟩) ?_ ?_
                                rotate_left
                                · simp only [Act.put, List.setIfInBounds_toArray, List.set_cons_zero, List.set_cons_succ, i64_w, i32_w]
                                  rfl
                                refine pure_ (i := 9) (N := some 101) (v := undef) (a' := ?_) #[true, true, true, true, true, true, true, true, true, true, false, false, false, false, false, false, false, false, false, false] rfl rfl (by kernel_rfl) (fun _ _ _ h => h) (Or.inr ⟨by rfl, rfl⟩) ?_ ?_
                                rotate_left
                                · simp only [Act.put, List.setIfInBounds_toArray, List.set_cons_zero, List.set_cons_succ, i64_w, i32_w]
                                  rfl
                                refine pure_ (i := 10) (N := some 102) (v := undef) (a' := ?_) #[true, true, true, true, true, true, true, true, true, true, true, false, false, false, false, false, false, false, false, false] rfl rfl (by kernel_rfl) (fun _ _ _ h => h) (Or.inr ⟨by rfl, rfl⟩) ?_ ?_
                                rotate_left
                                · simp only [Act.put, List.setIfInBounds_toArray, List.set_cons_zero, List.set_cons_succ, i64_w, i32_w]
                                  rfl
                                refine pure_ (i := 11) (N := some 103) (v := ?_) (a' := ?_) #[true, true, true, true, true, true, true, true, true, true, true, true, false, false, false, false, false, false, false, false] rfl rfl (by kernel_rfl) (fun _ _ _ h => h) (Or.inl ⟨by rfl, ?_⟩) ?_ ?_
                                rotate_left
                                · intro w'
                                  go_simp
                                  with_reducible rfl
                                rotate_left
                                · simp only [Act.put, List.setIfInBounds_toArray, List.set_cons_zero, List.set_cons_succ, i64_w, i32_w]
                                  rfl
                                refine pure_ (i := 12) (N := some 104) (v := ?_) (a' := ?_) #[true, true, true, true, true, true, true, true, true, true, true, true, true, false, false, false, false, false, false, false] rfl rfl (by kernel_rfl) (fun _ _ _ h => h) (Or.inl ⟨by rfl, ?_⟩) ?_ ?_
                                rotate_left
                                · intro w'
                                  go_simp
                                  with_reducible rfl
                                rotate_left
                                · simp only [Act.put, List.setIfInBounds_toArray, List.set_cons_zero, List.set_cons_succ, i64_w, i32_w]
                                  rfl
                                refine pure_ (i := 13) (N := some 105) (v := undef) (a' := ?_) #[true, true, true, true, true, true, true, true, true, true, true, true, true, true, false, false, false, false, false, false] rfl rfl (by kernel_rfl) (fun _ _ _ h => h) (Or.inr ⟨by rfl, rfl⟩) ?_ ?_
                                rotate_left
                                · simp only [Act.put, List.setIfInBounds_toArray, List.set_cons_zero, List.set_cons_succ, i64_w, i32_w]
                                  rfl
                                refine pure_ (i := 14) (N := some 106) (v := undef) (a' := ?_) #[true, true, true, true, true, true, true, true, true, true, true, true, true, true, true, false, false, false, false, false] rfl rfl (by kernel_rfl) (fun _ _ _ h => h) (Or.inr ⟨by rfl, rfl⟩) ?_ ?_
                                rotate_left
                                · simp only [Act.put, List.setIfInBounds_toArray, List.set_cons_zero, List.set_cons_succ, i64_w, i32_w]
                                  rfl
                                refine pure_ (i := 15) (N := some 107) (v := undef) (a' := ?_) #[true, true, true, true, true, true, true, true, true, true, true, true, true, true, true, true, false, false, false, false] rfl rfl (by kernel_rfl) (fun _ _ _ h => h) (Or.inr ⟨by rfl, rfl⟩) ?_ ?_
                                rotate_left
                                · simp only [Act.put, List.setIfInBounds_toArray, List.set_cons_zero, List.set_cons_succ, i64_w, i32_w]
                                  rfl
                                refine pure_ (i := 16) (N := some 108) (v := undef) (a' := ?_) #[true, true, true, true, true, true, true, true, true, true, true, true, true, true, true, true, true, false, false, false] rfl rfl (by kernel_rfl) (fun _ _ _ h => h) (Or.inr ⟨by rfl, rfl⟩) ?_ ?_
                                rotate_left
                                · simp only [Act.put, List.setIfInBounds_toArray, List.set_cons_zero, List.set_cons_succ, i64_w, i32_w]
                                  rfl
                                refine pure_ (i := 17) (N := some 109) (v := undef) (a' := ?_) #[true, true, true, true, true, true, true, true, true, true, true, true, true, true, true, true, true, true, false, false] rfl rfl (by kernel_rfl) (fun _ _ _ h => h) (Or.inr ⟨by rfl, rfl⟩) ?_ ?_
                                rotate_left
                                · simp only [Act.put, List.setIfInBounds_toArray, List.set_cons_zero, List.set_cons_succ, i64_w, i32_w]
                                  rfl
                                refine pure_ (i := 18) (N := some 110) (v := undef) (a' := ?_) #[true, true, true, true, true, true, true, true, true, true, true, true, true, true, true, true, true, true, true, false] rfl rfl (by kernel_rfl) (fun _ _ _ h => h) (Or.inr ⟨by rfl, rfl⟩) ?_ ?_
                                rotate_left
                                · simp only [Act.put, List.setIfInBounds_toArray, List.set_cons_zero, List.set_cons_succ, i64_w, i32_w]
                                  rfl
                                refine pure_ (i := 19) (N := some 111) (v := ?_) (a' := ?_) #[true, true, true, true, true, true, true, true, true, true, true, true, true, true, true, true, true, true, true, true] rfl rfl (by kernel_rfl) (fun _ _ _ h => h) (Or.inl ⟨by rfl, ?_⟩) ?_ ?_
                                rotate_left
                                · intro w'
                                  go_simp
                                  with_reducible rfl
                                rotate_left
                                · simp only [Act.put, List.setIfInBounds_toArray, List.set_cons_zero, List.set_cons_succ, i64_w, i32_w]
                                  rfl
                                refine done_ (by kernel_rfl) ?_
                                replace HS : Aside0 (Sep (fps []) w [b13 g1278 g1279 t1271.1 t1271.2.1 t1271.2.2.1 t1271.2.2.2.1, b12 g1279 A1280 ((t1271.2.2.2.2).length) n1282 x1669, r4 A1280 ((t1271.2.2.2.2).length) n1282 x1667, r15 g1288 m1284 x1668] w1941) := ⟨HS.out.sub (.cons_cons _ (.cons_cons _ (.cons_cons _ (.cons_cons _ (.cons _ .slnil)))))⟩
                                go_wp2_with fail
                                have ho := some_eq AL1904
                                subst ho
                                have H := lp_ret H
                                go_ret
                                rw [← some_eq H]
                                exact ⟨(by first | rfl | (simp [IntKind.wrap_u32]; done)), HS.out.sub (.cons _ (.cons _ (.cons _ (.cons _ .slnil))))⟩
                            · replace AL1904 := if_no c1943 AL1904
                              have c1943b0 : (t1885.2.1 == ((rdOf (0, 0, 0, 0, 0, 0, 0) x1668 x1907).2.1)) = false := beq_eq_false_iff_ne.mpr c1943
                              have c1943b1 : (t1885.2.1 != ((rdOf (0, 0, 0, 0, 0, 0, 0) x1668 x1907).2.1)) = true := bne_iff_ne.mpr c1943
                              clear c1943
                              refine pure_ (i := 3) (N := some 95) (v := ?_) (a' := ?_) #[true, true, true, true, false, false, false, false, false, false, false, false, false, false, false, false, false, false, false, false] rfl rfl (by kernel_rfl) (fun _ _ _ h => h) (Or.inl ⟨by rfl, ?_⟩) ?_ ?_
                              rotate_left
                              · intro w'
                                go_simp
                                with_reducible rfl
                              rotate_left
                              · simp only [Act.put, List.setIfInBounds_toArray, List.set_cons_zero, List.set_cons_succ, i64_w, i32_w]
                                rfl
                              refine pure_ (i := 4) (N := some 96) (v := ?_) (a' := ?_) #[true, true, true, true, true, false, false, false, false, false, false, false, false, false, false, false, false, false, false, false] rfl rfl (by kernel_rfl) (fun _ _ _ h => h) (Or.inl ⟨by rfl, ?_⟩) ?_ ?_
                              rotate_left
                              · intro w'
                                go_simp
                                with_reducible rfl
                              rotate_left
                              · simp only [Act.put, List.setIfInBounds_toArray, List.set_cons_zero, List.set_cons_succ, i64_w, i32_w]
                                rfl
                              refine pure_ (i := 5) (N := some 97) (v := undef) (a' := ?_) #[true, true, true, true, true, true, false, false, false, false, false, false, false, false, false, false, false, false, false, false] rfl rfl (by kernel_rfl) (fun _ _ _ h => h) (Or.inr ⟨by rfl, rfl⟩) ?_ ?_
                              rotate_left
                              · simp only [Act.put, List.setIfInBounds_toArray, List.set_cons_zero, List.set_cons_succ, i64_w, i32_w]
                                rfl
                              refine pure_ (i := 6) (N := some 98) (v := undef) (a' := ?_) #[true, true, true, true, true, true, true, false, false, false, false, false, false, false, false, false, false, false, false, false] rfl rfl (by kernel_rfl) (fun _ _ _ h => h) (Or.inr ⟨by rfl, rfl⟩) ?_ ?_
                              rotate_left
                              · simp only [Act.put, List.setIfInBounds_toArray, List.set_cons_zero, List.set_cons_succ, i64_w, i32_w]
                                rfl
                              refine pure_ (i := 7) (N := some 99) (v := undef) (a' := ?_) #[true, true, true, true, true, true, true, true, false, false, false, false, false, false, false, false, false, false, false, false] rfl rfl (by kernel_rfl) (fun _ _ _ h => h) (Or.inr ⟨by rfl, rfl⟩) ?_ ?_
                              rotate_left
                              · simp only [Act.put, List.setIfInBounds_toArray, List.set_cons_zero, List.set_cons_succ, i64_w, i32_w]
                                rfl
                              refine pure_ (i := 8) (N := some 100) (v := undef) (a' := ?_) #[true, true, true, true, true, true, true, true, true, false, false, false, false, false, false, false, false, false, false, false] rfl rfl (by kernel_rfl) (fun _ _ _ h => h) (Or.inr ⟨by rfl, rfl⟩) ?_ ?_
                              rotate_left
                              · simp only [Act.put, List.setIfInBounds_toArray, List.set_cons_zero, List.set_cons_succ, i64_w, i32_w]
                                rfl
                              refine pure_ (i := 9) (N := some 101) (v := undef) (a' := ?_) #[true, true, true, true, true, true, true, true, true, true, false, false, false, false, false, false, false, false, false, false] rfl rfl (by kernel_rfl) (fun _ _ _ h => h) (Or.inr ⟨by rfl, rfl⟩) ?_ ?_
                              rotate_left
                              · simp only [Act.put, List.setIfInBounds_toArray, List.set_cons_zero, List.set_cons_succ, i64_w, i32_w]
                                rfl
                              refine pure_ (i := 10) (N := some 102) (v := undef) (a' := ?_) #[true, true, true, true, true, true, true, true, true, true, true, false, false, false, false, false, false, false, false, false] rfl rfl (by kernel_rfl) (fun _ _ _ h => h) (Or.inr ⟨by rfl, rfl⟩) ?_ ?_
                              rotate_left
                              · simp only [Act.put, List.setIfInBounds_toArray, List.set_cons_zero, List.set_cons_succ, i64_w, i32_w]
                                rfl
                              refine pure_ (i := 11) (N := some 103) (v := ?_) (a' := ?_) #[true, true, true, true, true, true, true, true, true, true, true, true, false, false, false, false, false, false, false, false] rfl rfl (by kernel_rfl) (fun _ _ _ h => h) (Or.inl ⟨by rfl, ?_⟩) ?_ ?_
                              rotate_left
                              · intro w'
                                go_simp
                                with_reducible rfl
                              rotate_left
                              · simp only [Act.put, List.setIfInBounds_toArray, List.set_cons_zero, List.set_cons_succ, i64_w, i32_w]
                                rfl
                              refine pure_ (i := 12) (N := some 104) (v := ?_) (a' := ?_) #[true, true, true, true, true, true, true, true, true, true, true, true, true, false, false, false, false, false, false, false] rfl rfl (by kernel_rfl) (fun _ _ _ h => h) (Or.inl ⟨by rfl, ?_⟩) ?_ ?_
                              rotate_left
                              · intro w'
                                go_simp
                                with_reducible rfl
                              rotate_left
                              · simp only [Act.put, List.setIfInBounds_toArray, List.set_cons_zero, List.set_cons_succ, i64_w, i32_w]
                                rfl
                              refine pure_ (i := 13) (N := some 105) (v := undef) (a' := ?_) #[true, true, true, true, true, true, true, true, true, true, true, true, true, true, false, false, false, false, false, false] rfl rfl (by kernel_rfl) (fun _ _ _ h => h) (Or.inr ⟨by rfl, rfl⟩) ?_ ?_
                              rotate_left
                              · simp only [Act.put, List.setIfInBounds_toArray, List.set_cons_zero, List.set_cons_succ, i64_w, i32_w]
                                rfl
                              refine pure_ (i := 14) (N := some 106) (v := undef) (a' := ?_) #[true, true, true, true, true, true, true, true, true, true, true, true, true, true, true, false, false, false, false, false] rfl rfl (by kernel_rfl) (fun _ _ _ h => h) (Or.inr ⟨by rfl, rfl⟩) ?_ ?_
                              rotate_left
                              · simp only [Act.put, List.setIfInBounds_toArray, List.set_cons_zero, List.set_cons_succ, i64_w, i32_w]
                                rfl
                              refine pure_ (i := 15) (N := some 107) (v := undef) (a' := ?_) #[true, true, true, true, true, true, true, true, true, true, true, true, true, true, true, true, false, false, false, false] rfl rfl (by kernel_rfl) (fun _ _ _ h => h) (Or.inr ⟨by rfl, rfl⟩) ?_ ?_
                              rotate_left
                              · simp only [Act.put, List.setIfInBounds_toArray, List.set_cons_zero, List.set_cons_succ, i64_w, i32_w]
                                rfl
                              refine pure_ (i := 16) (N := some 108) (v := undef) (a' := ?_) #[true, true, true, true, true, true, true, true, true, true, true, true, true, true, true, true, true, false, false, false] rfl rfl (by kernel_rfl) (fun _ _ _ h => h) (Or.inr ⟨by rfl, rfl⟩) ?_ ?_
                              rotate_left
                              · simp only [Act.put, List.setIfInBounds_toArray, List.set_cons_zero, List.set_cons_succ, i64_w, i32_w]
                                rfl
                              refine pure_ (i := 17) (N := some 109) (v := undef) (a' := ?_) #[true, true, true, true, true, true, true, true, true, true, true, true, true, true, true, true, true, true, false, false] rfl rfl (by kernel_rfl) (fun _ _ _ h => h) (Or.inr ⟨by rfl, rfl⟩) ?_ ?_
                              rotate_left
                              · simp only [Act.put, List.setIfInBounds_toArray, List.set_cons_zero, List.set_cons_succ, i64_w, i32_w]
                                rfl
                              refine pure_ (i := 18) (N := some 110) (v := undef) (a' := ?_) #[true, true, true, true, true, true, true, true, true, true, true, true, true, true, true, true, true, true, true, false] rfl rfl (by kernel_rfl) (fun _ _ _ h => h) (Or.inr ⟨by rfl, rfl⟩) ?_ ?_
                              rotate_left
                              · simp only [Act.put, List.setIfInBounds_toArray, List.set_cons_zero, List.set_cons_succ, i64_w, i32_w]
                                rfl
                              refine pure_ (i := 19) (N := some 111) (v := ?_) (a' := ?_) #[true, true, true, true, true, true, true, true, true, true, true, true, true, true, true, true, true, true, true, true] rfl rfl (by kernel_rfl) (fun _ _ _ h => h) (Or.inl ⟨by rfl, ?_⟩) ?_ ?_
                              rotate_left
                              · intro w'
                                go_simp
                                with_reducible rfl
                              rotate_left
                              · simp only [Act.put, List.setIfInBounds_toArray, List.set_cons_zero, List.set_cons_succ, i64_w, i32_w]
                                rfl
                              refine done_ (by kernel_rfl) ?_
                              replace HS : Aside0 (Sep (fps []) w [b13 g1278 g1279 t1271.1 t1271.2.1 t1271.2.2.1 t1271.2.2.2.1, b12 g1279 A1280 ((t1271.2.2.2.2).length) n1282 x1669, r4 A1280 ((t1271.2.2.2.2).length) n1282 x1667, r15 g1288 m1284 x1668] w1941) := ⟨HS.out.sub (.cons_cons _ (.cons_cons _ (.cons_cons _ (.cons_cons _ (.cons _ .slnil)))))⟩
                              go_wp2_with fail
                              have ho := some_eq AL1904
                              subst ho
                              have H := lp_ret H
                              go_ret
                              rw [← some_eq H]
                              exact ⟨(by first | rfl | (simp [IntKind.wrap_u32]; done)), HS.out.sub (.cons _ (.cons _ (.cons _ (.cons _ .slnil))))⟩
                          · replace AL1904 := if_no c1942 AL1904
                            have c1942b0 : (t1885.1 == ((rdOf (0, 0, 0, 0, 0, 0, 0) x1668 x1907).1)) = false := beq_eq_false_iff_ne.mpr c1942
                            have c1942b1 : (t1885.1 != ((rdOf (0, 0, 0, 0, 0, 0, 0) x1668 x1907).1)) = true := bne_iff_ne.mpr c1942
                            clear c1942
                            refine pure_ (i := 3) (N := some 95) (v := ?_) (a' := ?_) #[true, true, true, true, false, false, false, false, false, false, false, false, false, false, false, false, false, false, false, false] rfl rfl (by kernel_rfl) (fun _ _ _ h => h) (Or.inl ⟨by rfl, ?_⟩) ?_ ?_
                            rotate_left
                            · intro w'
                              go_simp
                              with_reducible rfl
                            rotate_left
                            · simp only [Act.put, List.setIfInBounds_toArray, List.set_cons_zero, List.set_cons_succ, i64_w, i32_w]
                              rfl
                            refine pure_ (i := 4) (N := some 96) (v := ?_) (a' := ?_) #[true, true, true, true, true, false, false, false, false, false, false, false, false, false, false, false, false, false, false, false] rfl rfl (by kernel_rfl) (fun _ _ _ h => h) (Or.inl ⟨by rfl, ?_⟩) ?_ ?_
                            rotate_left
                            · intro w'
                              go_simp
                              with_reducible rfl
                            rotate_left
                            · simp only [Act.put, List.setIfInBounds_toArray, List.set_cons_zero, List.set_cons_succ, i64_w, i32_w]
                              rfl
                            refine pure_ (i := 5) (N := some 97) (v := undef) (a' := ?_) #[true, true, true, true, true, true, false, false, false, false, false, false, false, false, false, false, false, false, false, false] rfl rfl (by kernel_rfl) (fun _ _ _ h => h) (Or.inr ⟨by rfl, rfl⟩) ?_ ?_
                            rotate_left
                            · simp only [Act.put, List.setIfInBounds_toArray, List.set_cons_zero, List.set_cons_succ, i64_w, i32_w]
                              rfl
                            refine pure_ (i := 6) (N := some 98) (v := undef) (a' := ?_) #[true, true, true, true, true, true, true, false, false, false, false, false, false, false, false, false, false, false, false, false] rfl rfl (by kernel_rfl) (fun _ _ _ h => h) (Or.inr ⟨by rfl, rfl⟩) ?_ ?_
                            rotate_left
                            · simp only [Act.put, List.setIfInBounds_toArray, List.set_cons_zero, List.set_cons_succ, i64_w, i32_w]
                              rfl
                            refine pure_ (i := 7) (N := some 99) (v := undef) (a' := ?_) #[true, true, true, true, true, true, true, true, false, false, false, false, false, false, false, false, false, false, false, false] rfl rfl (by kernel_rfl) (fun _ _ _ h => h) (Or.inr ⟨by rfl, rfl⟩) ?_ ?_
                            rotate_left
                            · simp only [Act.put, List.setIfInBounds_toArray, List.set_cons_zero, List.set_cons_succ, i64_w, i32_w]
                              rfl
                            refine pure_ (i := 8) (N := some 100) (v := undef) (a' := ?_) #[true, true, true, true, true, true, true, true, true, false, false, false, false, false, false, false, false, false, false, false] rfl rfl (by kernel_rfl) (fun _ _ _ h => h) (Or.inr ⟨by rfl, rfl⟩) ?_ ?_
                            rotate_left
                            · simp only [Act.put, List.setIfInBounds_toArray, List.set_cons_zero, List.set_cons_succ, i64_w, i32_w]
                              rfl
                            refine pure_ (i := 9) (N := some 101) (v := undef) (a' := ?_) #[true, true, true, true, true, true, true, true, true, true, false, false, false, false, false, false, false, false, false, false] rfl rfl (by kernel_rfl) (fun _ _ _ h => h) (Or.inr ⟨by rfl, rfl⟩) ?_ ?_
                            rotate_left
                            · simp only [Act.put, List.setIfInBounds_toArray, List.set_cons_zero, List.set_cons_succ, i64_w, i32_w]
                              rfl
                            refine pure_ (i := 10) (N := some 102) (v := undef) (a' := ?_) #[true, true, true, true, true, true, true, true, true, true, true, false, false, false, false, false, false, false, false, false] rfl rfl (by kernel_rfl) (fun _ _ _ h => h) (Or.inr ⟨by rfl, rfl⟩) ?_ ?_
                            rotate_left
                            · simp only [Act.put, List.setIfInBounds_toArray, List.set_cons_zero, List.set_cons_succ, i64_w, i32_w]
                              rfl
                            refine pure_ (i := 11) (N := some 103) (v := ?_) (a' := ?_) #[true, true, true, true, true, true, true, true, true, true, true, true, false, false, false, false, false, false, false, false] rfl rfl (by kernel_rfl) (fun _ _ _ h => h) (Or.inl ⟨by rfl, ?_⟩) ?_ ?_
                            rotate_left
                            · intro w'
                              go_simp
                              with_reducible rfl
                            rotate_left
                            · simp only [Act.put, List.setIfInBounds_toArray, List.set_cons_zero, List.set_cons_succ, i64_w, i32_w]
                              rfl
                            refine pure_ (i := 12) (N := some 104) (v := ?_) (a' := ?_) #[true, true, true, true, true, true, true, true, true, true, true, true, true, false, false, false, false, false, false, false] rfl rfl (by kernel_rfl) (fun _ _ _ h => h) (Or.inl ⟨by rfl, ?_⟩) ?_ ?_
                            rotate_left
                            · intro w'
                              go_simp
                              with_reducible rfl
                            rotate_left
                            · simp only [Act.put, List.setIfInBounds_toArray, List.set_cons_zero, List.set_cons_succ, i64_w, i32_w]
                              rfl
                            refine pure_ (i := 13) (N := some 105) (v := undef) (a' := ?_) #[true, true, true, true, true, true, true, true, true, true, true, true, true, true, false, false, false, false, false, false] rfl rfl (by kernel_rfl) (fun _ _ _ h => h) (Or.inr ⟨by rfl, rfl⟩) ?_ ?_
                            rotate_left
                            · simp only [Act.put, List.setIfInBounds_toArray, List.set_cons_zero, List.set_cons_succ, i64_w, i32_w]
                              rfl
                            refine pure_ (i := 14) (N := some 106) (v := undef) (a' := ?_) #[true, true, true, true, true, true, true, true, true, true, true, true, true, true, true, false, false, false, false, false] rfl rfl (by kernel_rfl) (fun _ _ _ h => h) (Or.inr ⟨by rfl, rfl⟩) ?_ ?_
                            rotate_left
                            · simp only [Act.put, List.setIfInBounds_toArray, List.set_cons_zero, List.set_cons_succ, i64_w, i32_w]
                              rfl
                            refine pure_ (i := 15) (N := some 107) (v := undef) (a' := ?_) #[true, true, true, true, true, true, true, true, true, true, true, true, true, true, true, true, false, false, false, false] rfl rfl (by kernel_rfl) (fun _ _ _ h => h) (Or.inr ⟨by rfl, rfl⟩) ?_ ?_
                            rotate_left
                            · simp only [Act.put, List.setIfInBounds_toArray, List.set_cons_zero, List.set_cons_succ, i64_w, i32_w]
                              rfl
                            refine pure_ (i := 16) (N := some 108) (v := undef) (a' := ?_) #[true, true, true, true, true, true, true, true, true, true, true, true, true, true, true, true, true, false, false, false] rfl rfl (by kernel_rfl) (fun _ _ _ h => h) (Or.inr ⟨by rfl, rfl⟩) ?_ ?_
                            rotate_left
                            · simp only [Act.put, List.setIfInBounds_toArray, List.set_cons_zero, List.set_cons_succ, i64_w, i32_w]
                              rfl
                            refine pure_ (i := 17) (N := some 109) (v := undef) (a' := ?_) #[true, true, true, true, true, true, true, true, true, true, true, true, true, true, true, true, true, true, false, false] rfl rfl (by kernel_rfl) (fun _ _ _ h => h) (Or.inr ⟨by rfl, rfl⟩) ?_ ?_
                            rotate_left
                            · simp only [Act.put, List.setIfInBounds_toArray, List.set_cons_zero, List.set_cons_succ, i64_w, i32_w]
                              rfl
                            refine pure_ (i := 18) (N := some 110) (v := undef) (a' := ?_) #[true, true, true, true, true, true, true, true, true, true, true, true, true, true, true, true, true, true, true, false] rfl rfl (by kernel_rfl) (fun _ _ _ h => h) (Or.inr ⟨by rfl, rfl⟩) ?_ ?_
                            rotate_left
                            · simp only [Act.put, List.setIfInBounds_toArray, List.set_cons_zero, List.set_cons_succ, i64_w, i32_w]
                              rfl
                            refine pure_ (i := 19) (N := some 111) (v := ?_) (a' := ?_) #[true, true, true, true, true, true, true, true, true, true, true, true, true, true, true, true, true, true, true, true] rfl rfl (by kernel_rfl) (fun _ _ _ h => h) (Or.inl ⟨by rfl, ?_⟩) ?_ ?_
                            rotate_left
                            · intro w'
                              go_simp
                              with_reducible rfl
                            rotate_left
                            · simp only [Act.put, List.setIfInBounds_toArray, List.set_cons_zero, List.set_cons_succ, i64_w, i32_w]
                              rfl
                            refine done_ (by kernel_rfl) ?_
                            replace HS : Aside0 (Sep (fps []) w [b13 g1278 g1279 t1271.1 t1271.2.1 t1271.2.2.1 t1271.2.2.2.1, b12 g1279 A1280 ((t1271.2.2.2.2).length) n1282 x1669, r4 A1280 ((t1271.2.2.2.2).length) n1282 x1667, r15 g1288 m1284 x1668] w1941) := ⟨HS.out.sub (.cons_cons _ (.cons_cons _ (.cons_cons _ (.cons_cons _ (.cons _ .slnil)))))⟩
                            go_wp2_with fail
                            have ho := some_eq AL1904
                            subst ho
                            have H := lp_ret H
                            go_ret
                            rw [← some_eq H]
                            exact ⟨(by first | rfl | (simp [IntKind.wrap_u32]; done)), HS.out.sub (.cons _ (.cons _ (.cons _ (.cons _ .slnil))))⟩
                        · replace AL1904 := if_no c1909 AL1904
                          have c1909b0 : decide (0 ≤ x1907) = false := decide_eq_false c1909
                          clear c1909
                          exact (none_no AL1904).elim
                      · replace AL1904 := if_no c1908 AL1904
                        have c1908b0 : decide (x1907 < (m1284 : Int)) = false := decide_eq_false c1908
                        clear c1908
                        have ho := some_eq AL1904
                        subst ho
                        clear AL1904
                        have H := lp_out H
                        replace HS : Aside0 (Sep (fps []) w [] w1905) := ⟨HS.out.sub (.cons _ (.cons _ (.cons _ (.cons _ .slnil))))⟩
                        go_wp2_with fail
                        go_ret
                        rw [← some_eq H]
                        exact ⟨(by first | rfl | (simp [IntKind.wrap_u32]; done)), HS.out⟩
          · have H := sum_r H
            have H := sum_r H
            refine (ground_New.calls _ (wrap64 (a1)) 16 1 1 (.inr (.inr t1272)) _ ⟨HGl0.out.pass (l := []) HS.out⟩ ⟨Sep.start _⟩ HA1269).mono ?_
            rintro e_ w2010 ⟨rfl, hS⟩
            replace HS : Aside0 (Sep (fps []) w [] w2010) := ⟨HS.out.call hS⟩
            clear hS
            by_cases c2011 : t1272 = 0
            · replace H := if_yes c2011 H
              have c2011b0 : (t1272 == 0) = true := beq_iff_eq.mpr c2011
              have c2011b1 : (t1272 != 0) = false := bne_eq_false_iff_eq.mpr c2011
              clear c2011
              obtain ⟨m1284, HA2012, H⟩ := bind_some H
              obtain ⟨hm2013, hn2014⟩ := mkLen_eq HA2012
              have hm2013H := Aside0.mk hm2013
              clear hm2013
              go_wp2_with (first | ((with_reducible refine gate_dst (N := 44) rfl ?_); refine smake_event rfl (N := 44) rfl 22 32 (.tmp 43) (.tmp 43) rfl .u8 (.agg #[.int .i64 0, .int .i64 0, .int .i64 0, .int .i64 0, .int .i64 0, .int .i64 0, .int .i64 0]) 7 56 Tryd.underlying22 (by kernel_rfl) (by decide) (by decide) e14 (0, 0, 0, 0, 0, 0, 0) (by first | rfl | simp [Value.cells] | kernel_rfl) rfl m1284 (by show Value.int _ _ = _; rw [hm2013H.out]) (by show Value.int _ _ = _; rw [hm2013H.out]) (by omega) HS.out ?_; intro g2015 w2016 HS1; replace HS : Aside0 (Sep (fps []) w [r15 g2015 m1284 (List.replicate m1284 ((0, 0, 0, 0, 0, 0, 0) : Int × Int × Int × Int × Int × Int × Int))] w2016) := ⟨HS1⟩; clear HS1))
              obtain ⟨o2020, AL2021, H⟩ := bind_some H
              go_loopg [47] k (fun kq v47 wc => ∃ (x2024 : Int), v47 = .int .i64 x2024 ∧ Aside0 (quitrenttop_WholeTags.lo2 kq l2 l6 x2024 = some o2020) ∧ Aside0 (Sep (fps []) w [r15 g2015 m1284 (List.replicate m1284 ((0, 0, 0, 0, 0, 0, 0) : Int × Int × Int × Int × Int × Int × Int))] wc))
              case atStart => exact ⟨(0), (by first | rfl | (simp [IntKind.wrap_u32]; done)), AL2021, ⟨HS.out⟩⟩
              case round =>
                clear AL2021 HS
                obtain ⟨x2024, rfl, AL2021, HS⟩ := hrel
                obtain ⟨w2022, rfl⟩ : ∃ x : World, x = wr := ⟨_, rfl⟩
                cases gk with
                | zero => exact absurd AL2021.out (by simp [quitrenttop_WholeTags.lo2])
                | succ k2023 =>
                  have AL0 := AL2021.out
                  rw [quitrenttop_WholeTags.lo2] at AL0
                  clear AL2021
                  have AL2021 := Aside0.mk AL0
                  clear AL0
                  by_cases c2025 : x2024 < (l2.length : Int)
                  · replace AL2021 := if_yes c2025 AL2021
                    have c2025b0 : decide (x2024 < (l2.length : Int)) = true := decide_eq_true c2025
                    clear c2025
                    by_cases c2026 : 0 ≤ x2024
                    · replace AL2021 := if_yes c2026 AL2021
                      have c2026b0 : decide (0 ≤ x2024) = true := decide_eq_true c2026
                      have c2026p : (0 ≤ x2024) = True := eq_true c2026
                      clear c2026
                      have ip2027 : (x2024 < (l2.length : Int)) = True := eq_true (of_decide_eq_true c2025b0)
                      obtain ⟨hx2028a, hx2028e, hx2029, hx2030, hx2031, hx2032, hx2033, hx2034, hx2035⟩ := s16_at HR5.out HS.out.fr x2024 (of_decide_eq_true c2026b0) (of_decide_eq_true c2025b0); cases hx2028e
                      go_wp2_with (first | ((with_reducible refine gate_dst (N := 11) rfl ?_); refine box_on ?hg (N := 11) ?hd (cs := #[.int .i64 0, .int .i64 0, .int .i64 0, .int .i64 0, .int .i64 0, .int .i64 0, .int .i64 0]) (t := 32) ?hr ?_; (case hd => rfl); (case hg => rfl); (case hr => first | (go_simp; done) | (go_simp; rfl)); intro g2036 hg w2037 hbox hb; clear hx2029 hx2030 hx2031 hx2032 hx2033 hx2034 hx2035; replace HS : Aside0 (Sep (fps []) w [r15 g2015 m1284 (List.replicate m1284 ((0, 0, 0, 0, 0, 0, 0) : Int × Int × Int × Int × Int × Int × Int)), b1 g2036 0 0 0 0 0 0 0] w2037) := ⟨HS.out.box hg hbox hb⟩; clear hg hbox hb; have hc2039 : w2037.cell? ⟨g2036, 0, none⟩ = some (.int .i64 0) := blk_cellv (HS.out.at1) 0 rfl; have hz2040 : w2037.frozen? ⟨g2036, 0, none⟩ = false := blk_fz (HS.out.at1) 0; have hc2041 : w2037.cell? ⟨g2036, 1, none⟩ = some (.int .i64 0) := blk_cellv (HS.out.at1) 1 rfl; have hz2042 : w2037.frozen? ⟨g2036, 1, none⟩ = false := blk_fz (HS.out.at1) 1; have hc2043 : w2037.cell? ⟨g2036, 2, none⟩ = some (.int .i64 0) := blk_cellv (HS.out.at1) 2 rfl; have hz2044 : w2037.frozen? ⟨g2036, 2, none⟩ = false := blk_fz (HS.out.at1) 2; have hc2045 : w2037.cell? ⟨g2036, 3, none⟩ = some (.int .i64 0) := blk_cellv (HS.out.at1) 3 rfl; have hz2046 : w2037.frozen? ⟨g2036, 3, none⟩ = false := blk_fz (HS.out.at1) 3; have hc2047 : w2037.cell? ⟨g2036, 4, none⟩ = some (.int .i64 0) := blk_cellv (HS.out.at1) 4 rfl; have hz2048 : w2037.frozen? ⟨g2036, 4, none⟩ = false := blk_fz (HS.out.at1) 4; have hc2049 : w2037.cell? ⟨g2036, 5, none⟩ = some (.int .i64 0) := blk_cellv (HS.out.at1) 5 rfl; have hz2050 : w2037.frozen? ⟨g2036, 5, none⟩ = false := blk_fz (HS.out.at1) 5; have hc2051 : w2037.cell? ⟨g2036, 6, none⟩ = some (.int .i64 0) := blk_cellv (HS.out.at1) 6 rfl; have hz2052 : w2037.frozen? ⟨g2036, 6, none⟩ = false := blk_fz (HS.out.at1) 6) | ((with_reducible refine gate_store (t := 32) (p := 11) rfl ?_); refine store_event (w1 := (World.setCell (World.setCell (World.setCell (World.setCell (World.setCell (World.setCell (World.setCell w2037 ⟨g2036, 0, none⟩ (.int .i64 ((rdOf (0, 0, 0, 0, 0, 0, 0) l2 x2024).1))) ⟨g2036, 1, none⟩ (.int .i64 ((rdOf (0, 0, 0, 0, 0, 0, 0) l2 x2024).2.1))) ⟨g2036, 2, none⟩ (.int .i64 ((rdOf (0, 0, 0, 0, 0, 0, 0) l2 x2024).2.2.1))) ⟨g2036, 3, none⟩ (.int .i64 ((rdOf (0, 0, 0, 0, 0, 0, 0) l2 x2024).2.2.2.1))) ⟨g2036, 4, none⟩ (.int .i64 ((rdOf (0, 0, 0, 0, 0, 0, 0) l2 x2024).2.2.2.2.1))) ⟨g2036, 5, none⟩ (.int .i64 ((rdOf (0, 0, 0, 0, 0, 0, 0) l2 x2024).2.2.2.2.2.1))) ⟨g2036, 6, none⟩ (.int .i64 ((rdOf (0, 0, 0, 0, 0, 0, 0) l2 x2024).2.2.2.2.2.2)))) rfl (t := 32) (p := 11) rfl rfl ?hr ?_; (case hr => first | (go_simp; done) | (go_simp; rfl)); intro w2053 hst; clear hc2039 hz2040 hc2041 hz2042 hc2043 hz2044 hc2045 hz2046 hc2047 hz2048 hc2049 hz2050 hc2051 hz2052; replace HS : Aside0 (Sep (fps []) w [r15 g2015 m1284 (List.replicate m1284 ((0, 0, 0, 0, 0, 0, 0) : Int × Int × Int × Int × Int × Int × Int)), b1 g2036 ((rdOf (0, 0, 0, 0, 0, 0, 0) l2 x2024).1) ((rdOf (0, 0, 0, 0, 0, 0, 0) l2 x2024).2.1) ((rdOf (0, 0, 0, 0, 0, 0, 0) l2 x2024).2.2.1) ((rdOf (0, 0, 0, 0, 0, 0, 0) l2 x2024).2.2.2.1) ((rdOf (0, 0, 0, 0, 0, 0, 0) l2 x2024).2.2.2.2.1) ((rdOf (0, 0, 0, 0, 0, 0, 0) l2 x2024).2.2.2.2.2.1) ((rdOf (0, 0, 0, 0, 0, 0, 0) l2 x2024).2.2.2.2.2.2)] w2053) := ⟨by rw [hst]; exact HS.out.setAll (l1 := [r15 g2015 m1284 (List.replicate m1284 ((0, 0, 0, 0, 0, 0, 0) : Int × Int × Int × Int × Int × Int × Int))]) (l2 := []) [.int .i64 ((rdOf (0, 0, 0, 0, 0, 0, 0) l2 x2024).1), .int .i64 ((rdOf (0, 0, 0, 0, 0, 0, 0) l2 x2024).2.1), .int .i64 ((rdOf (0, 0, 0, 0, 0, 0, 0) l2 x2024).2.2.1), .int .i64 ((rdOf (0, 0, 0, 0, 0, 0, 0) l2 x2024).2.2.2.1), .int .i64 ((rdOf (0, 0, 0, 0, 0, 0, 0) l2 x2024).2.2.2.2.1), .int .i64 ((rdOf (0, 0, 0, 0, 0, 0, 0) l2 x2024).2.2.2.2.2.1), .int .i64 ((rdOf (0, 0, 0, 0, 0, 0, 0) l2 x2024).2.2.2.2.2.2)] rfl⟩; clear hst; have hc2054 : w2053.cell? ⟨g2036, 0, none⟩ = some (.int .i64 ((rdOf (0, 0, 0, 0, 0, 0, 0) l2 x2024).1)) := blk_cellv (HS.out.at1) 0 rfl; have hc2055 : w2053.cell? ⟨g2036, 1, none⟩ = some (.int .i64 ((rdOf (0, 0, 0, 0, 0, 0, 0) l2 x2024).2.1)) := blk_cellv (HS.out.at1) 1 rfl; have hc2056 : w2053.cell? ⟨g2036, 2, none⟩ = some (.int .i64 ((rdOf (0, 0, 0, 0, 0, 0, 0) l2 x2024).2.2.1)) := blk_cellv (HS.out.at1) 2 rfl; have hc2057 : w2053.cell? ⟨g2036, 3, none⟩ = some (.int .i64 ((rdOf (0, 0, 0, 0, 0, 0, 0) l2 x2024).2.2.2.1)) := blk_cellv (HS.out.at1) 3 rfl; have hc2058 : w2053.cell? ⟨g2036, 4, none⟩ = some (.int .i64 ((rdOf (0, 0, 0, 0, 0, 0, 0) l2 x2024).2.2.2.2.1)) := blk_cellv (HS.out.at1) 4 rfl; have hc2059 : w2053.cell? ⟨g2036, 5, none⟩ = some (.int .i64 ((rdOf (0, 0, 0, 0, 0, 0, 0) l2 x2024).2.2.2.2.2.1)) := blk_cellv (HS.out.at1) 5 rfl; have hc2060 : w2053.cell? ⟨g2036, 6, none⟩ = some (.int .i64 ((rdOf (0, 0, 0, 0, 0, 0, 0) l2 x2024).2.2.2.2.2.2)) := blk_cellv (HS.out.at1) 6 rfl))
                      clear hc2054 hc2055 hc2056 hc2057 hc2058 hc2059 hc2060
                      obtain ⟨t1334, HA2061, AL2021⟩ := bind_some AL2021
                      refine (tag_Pack.calls _ ((rdOf (0, 0, 0, 0, 0, 0, 0) l2 x2024).1) ((rdOf (0, 0, 0, 0, 0, 0, 0) l2 x2024).2.1) ((rdOf (0, 0, 0, 0, 0, 0, 0) l2 x2024).2.2.1) ((rdOf (0, 0, 0, 0, 0, 0, 0) l2 x2024).2.2.2.1) ((rdOf (0, 0, 0, 0, 0, 0, 0) l2 x2024).2.2.2.2.1) ((rdOf (0, 0, 0, 0, 0, 0, 0) l2 x2024).2.2.2.2.2.1) ((rdOf (0, 0, 0, 0, 0, 0, 0) l2 x2024).2.2.2.2.2.2) t1334 _ ⟨HGl0.out.pass (l := []) HS.out⟩ ⟨Sep.start _⟩ HA2061).mono ?_
                      rintro e_ w2062 ⟨rfl, hS⟩
                      replace HS : Aside0 (Sep (fps []) w [r15 g2015 m1284 (List.replicate m1284 ((0, 0, 0, 0, 0, 0, 0) : Int × Int × Int × Int × Int × Int × Int)), b1 g2036 ((rdOf (0, 0, 0, 0, 0, 0, 0) l2 x2024).1) ((rdOf (0, 0, 0, 0, 0, 0, 0) l2 x2024).2.1) ((rdOf (0, 0, 0, 0, 0, 0, 0) l2 x2024).2.2.1) ((rdOf (0, 0, 0, 0, 0, 0, 0) l2 x2024).2.2.2.1) ((rdOf (0, 0, 0, 0, 0, 0, 0) l2 x2024).2.2.2.2.1) ((rdOf (0, 0, 0, 0, 0, 0, 0) l2 x2024).2.2.2.2.2.1) ((rdOf (0, 0, 0, 0, 0, 0, 0) l2 x2024).2.2.2.2.2.2)] w2062) := ⟨HS.out.call hS⟩
                      clear hS
                      by_cases c2063 : t1334.2 = 0
                      · replace AL2021 := if_yes c2063 AL2021
                        have c2063b0 : (t1334.2 == 0) = true := beq_iff_eq.mpr c2063
                        have c2063b1 : (t1334.2 != 0) = false := bne_eq_false_iff_eq.mpr c2063
                        clear c2063
                        by_cases c2064 : x2024 ≥ (l6.length : Int)
                        · replace AL2021 := if_yes c2064 AL2021
                          have c2064b0 : decide ((l6.length : Int) ≤ x2024) = true := decide_eq_true c2064
                          clear c2064
                          replace HS : Aside0 (Sep (fps []) w [r15 g2015 m1284 (List.replicate m1284 ((0, 0, 0, 0, 0, 0, 0) : Int × Int × Int × Int × Int × Int × Int))] w2062) := ⟨HS.out.sub (.cons_cons _ (.cons _ .slnil))⟩
                          go_wp2_with fail
                          go_roundg k2023
                          case measure => exact Nat.lt_succ_self _
                          case rel => exact ⟨(wrap64 (x2024 + 1)), (by first | rfl | (simp [IntKind.wrap_u32]; done)), Aside0.mk AL2021.out, ⟨HS.out⟩⟩
                        · replace AL2021 := if_no c2064 AL2021
                          have c2064b0 : decide ((l6.length : Int) ≤ x2024) = false := decide_eq_false c2064
                          clear c2064
                          exact (none_no AL2021).elim
                      · replace AL2021 := if_no c2063 AL2021
                        have c2063b0 : (t1334.2 == 0) = false := beq_eq_false_iff_ne.mpr c2063
                        have c2063b1 : (t1334.2 != 0) = true := bne_iff_ne.mpr c2063
                        clear c2063
                        replace HS : Aside0 (Sep (fps []) w [r15 g2015 m1284 (List.replicate m1284 ((0, 0, 0, 0, 0, 0, 0) : Int × Int × Int × Int × Int × Int × Int))] w2062) := ⟨HS.out.sub (.cons_cons _ (.cons _ .slnil))⟩
                        go_wp2_with fail
                        go_roundg k2023
                        case measure => exact Nat.lt_succ_self _
                        case rel => exact ⟨(wrap64 (x2024 + 1)), (by first | rfl | (simp [IntKind.wrap_u32]; done)), Aside0.mk AL2021.out, ⟨HS.out⟩⟩
                    · replace AL2021 := if_no c2026 AL2021
                      have c2026b0 : decide (0 ≤ x2024) = false := decide_eq_false c2026
                      clear c2026
                      exact (none_no AL2021).elim
                  · replace AL2021 := if_no c2025 AL2021
                    have c2025b0 : decide (x2024 < (l2.length : Int)) = false := decide_eq_false c2025
                    clear c2025
                    have ho := some_eq AL2021
                    subst ho
                    clear AL2021
                    go_wp2_with fail
                    obtain ⟨o2069, AL2070, H⟩ := bind_some H
                    go_loopg [84] k (fun kq v84 wc => ∃ (x2073 : Int), v84 = .int .i64 x2073 ∧ Aside0 (quitrenttop_WholeTags.lo3 kq m1284 x2073 = some o2069) ∧ Aside0 (Sep (fps []) w [r15 g2015 m1284 (List.replicate m1284 ((0, 0, 0, 0, 0, 0, 0) : Int × Int × Int × Int × Int × Int × Int))] wc))
                    case atStart => exact ⟨(0), (by first | rfl | (simp [IntKind.wrap_u32]; done)), AL2070, ⟨HS.out⟩⟩
                    case round =>
                      clear AL2070 HS
                      obtain ⟨x2073, rfl, AL2070, HS⟩ := hrel
                      obtain ⟨w2071, rfl⟩ : ∃ x : World, x = wr := ⟨_, rfl⟩
                      cases gk with
                      | zero => exact absurd AL2070.out (by simp [quitrenttop_WholeTags.lo3])
                      | succ k2072 =>
                        have AL0 := AL2070.out
                        rw [quitrenttop_WholeTags.lo3] at AL0
                        clear AL2070
                        have AL2070 := Aside0.mk AL0
                        clear AL0
                        by_cases c2074 : x2073 < (m1284 : Int)
                        · replace AL2070 := if_yes c2074 AL2070
                          have c2074b0 : decide (x2073 < (m1284 : Int)) = true := decide_eq_true c2074
                          clear c2074
                          have ip2076 : (x2073 < (m1284 : Int)) = True := eq_true (of_decide_eq_true c2074b0)
                          exact (none_no AL2070).elim
                        · replace AL2070 := if_no c2074 AL2070
                          have c2074b0 : decide (x2073 < (m1284 : Int)) = false := decide_eq_false c2074
                          clear c2074
                          have ho := some_eq AL2070
                          subst ho
                          clear AL2070
                          replace HS : Aside0 (Sep (fps []) w [] w2071) := ⟨HS.out.sub (.cons _ .slnil)⟩
                          go_wp2_with fail
                          go_ret
                          rw [← some_eq H]
                          exact ⟨(by first | rfl | (simp [IntKind.wrap_u32]; done)), HS.out⟩
            · replace H := if_no c2011 H
              have c2011b0 : (t1272 == 0) = false := beq_eq_false_iff_ne.mpr c2011
              have c2011b1 : (t1272 != 0) = true := bne_iff_ne.mpr c2011
              clear c2011
              go_wp2_with fail
              go_ret
              rw [← some_eq H]
              exact ⟨(by first | rfl | (simp [IntKind.wrap_u32]; done)), HS.out⟩
  · replace H := if_no c495 H
    have c495b0 : t492 = false := by simpa using c495
    have c495b1 : (!t492) = true := by rw [c495b0]; rfl
    try rw [c495b1]
    clear c495
    go_wp2_with fail
    obtain ⟨t497, HA2138, H⟩ := bind_some H
    refine (quitrenttop_awakeShape.calls _ t497 _ ⟨HGl0.out.pass (l := []) HS.out⟩ ⟨Sep.start _⟩ HA2138).mono ?_
    rintro e_ w2139 ⟨rfl, hS⟩
    replace HS : Aside0 (Sep (fps []) w [] w2139) := ⟨HS.out.call hS⟩
    clear hS
    go_wp2_with fail
    go_ret
    rw [← some_eq H]
    exact ⟨(by first | rfl | (simp [IntKind.wrap_u32]; done)), HS.out⟩
end Go.Proofs.YtobeonkddamnoaaDoor.C

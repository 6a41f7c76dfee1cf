/- Each function of the group WR does what its plain function says, and changes nothing that was there; proved by walking its code. No condition. -/
import Derived.Test.YtobeonkddamnoaaDoorQw
import Derived.Test.YtobeonkddamnoaaDoorMWR
import Derived.Test.YtobeonkddamnoaaDoorGWR0
import Derived.Test.YtobeonkddamnoaaDoorGWR1
namespace Go.Proofs.YtobeonkddamnoaaDoor.C
open Go.RowKit Go.Proofs.YtobeonkddamnoaaDoorW.PrintWords Go.Proofs.YtobeonkddamnoaaDoorW.PrintLast Go.Proofs.YtobeonkddamnoaaDoor.Q Go.Proofs.YtobeonkddamnoaaDoor.M
set_option linter.unusedVariables false
set_option linter.unusedSimpArgs false
set_option maxHeartbeats 30000000 in
set_option maxRecDepth 100000 in
theorem tag_Unpack.calls (a2565 : Int) (r : Int × Int × Int × Int × Int × Int × Int) (w : World)  (HGl0 : Aside0 (Gl 0 #[.int .i64 0, .int .i64 0, .int .i64 0, .int .i64 0, .int .i64 0] (fps []) w)) (HS : Aside0 (Sep (fps []) w [] w)) (H : Aside0 (tag_Unpack.f a2565 = some r)) :
    Calls Tryd.prog 19 #[.int .u32 a2565] w fun e w' => e = .returned (.agg #[.int .i64 r.1, .int .i64 r.2.1, .int .i64 r.2.2.1, .int .i64 r.2.2.2.1, .int .i64 r.2.2.2.2.1, .int .i64 r.2.2.2.2.2.1, .int .i64 r.2.2.2.2.2.2]) ∧ Sep (fps []) w [] w' := by
  unfold tag_Unpack.f at H
  go_enter Tryd.func19, Tryd.ntmps19
  go_wp2_with (first | ((with_reducible refine gate_dst (N := 1) rfl ?_); refine box_on ?hg (N := 1) ?hd (cs := #[.int .u32 a2565]) (t := 33) ?hr ?_; (case hd => rfl); (case hg => rfl); (case hr => first | (go_simp; done) | (go_simp; rfl)); intro g2566 hg w2567 hbox hb; replace HS : Aside0 (Sep (fps []) w [b13 g2566 a2565] w2567) := ⟨HS.out.box hg hbox hb⟩; clear hg hbox hb) | ((with_reducible refine gate_dst (N := 2) rfl ?_); refine box_on ?hg (N := 2) ?hd (cs := #[.int .i64 0, .int .i64 0, .int .i64 0, .int .i64 0, .int .i64 0, .int .i64 0, .int .i64 0]) (t := 32) ?hr ?_; (case hd => rfl); (case hg => rfl); (case hr => first | (go_simp; done) | (go_simp; rfl)); intro g2569 hg w2570 hbox hb; replace HS : Aside0 (Sep (fps []) w [b13 g2566 a2565, b11 g2569 0 0 0 0 0 0 0] w2570) := ⟨HS.out.box hg hbox hb⟩; clear hg hbox hb))
  obtain ⟨t2592, HA2593, H⟩ := bind_some H
  refine (tag_Unpack_1.calls 0 2 a2565 g2566 t2592 _ ⟨HGl0.out.pass HS.out⟩ ⟨HS.out.begin⟩ HA2593).mono ?_
  rintro e_ w2594 ⟨rfl, hS⟩
  replace HS : Aside0 (Sep (fps []) w [b13 g2566 a2565, b11 g2569 0 0 0 0 0 0 0] w2594) := ⟨HS.out.call hS⟩
  clear hS
  go_wp2_with fail
  obtain ⟨t2595, HA2596, H⟩ := bind_some H
  refine (tag_Unpack_1.calls 2 1 a2565 g2566 t2595 _ ⟨HGl0.out.pass HS.out⟩ ⟨HS.out.begin⟩ HA2596).mono ?_
  rintro e_ w2597 ⟨rfl, hS⟩
  replace HS : Aside0 (Sep (fps []) w [b13 g2566 a2565, b11 g2569 0 0 0 0 0 0 0] w2597) := ⟨HS.out.call hS⟩
  clear hS
  go_wp2_with fail
  obtain ⟨t2598, HA2599, H⟩ := bind_some H
  refine (tag_Unpack_1.calls 3 1 a2565 g2566 t2598 _ ⟨HGl0.out.pass HS.out⟩ ⟨HS.out.begin⟩ HA2599).mono ?_
  rintro e_ w2600 ⟨rfl, hS⟩
  replace HS : Aside0 (Sep (fps []) w [b13 g2566 a2565, b11 g2569 0 0 0 0 0 0 0] w2600) := ⟨HS.out.call hS⟩
  clear hS
  go_wp2_with fail
  obtain ⟨t2601, HA2602, H⟩ := bind_some H
  refine (tag_Unpack_1.calls 4 1 a2565 g2566 t2601 _ ⟨HGl0.out.pass HS.out⟩ ⟨HS.out.begin⟩ HA2602).mono ?_
  rintro e_ w2603 ⟨rfl, hS⟩
  replace HS : Aside0 (Sep (fps []) w [b13 g2566 a2565, b11 g2569 0 0 0 0 0 0 0] w2603) := ⟨HS.out.call hS⟩
  clear hS
  go_wp2_with fail
  obtain ⟨t2604, HA2605, H⟩ := bind_some H
  refine (tag_Unpack_1.calls 5 1 a2565 g2566 t2604 _ ⟨HGl0.out.pass HS.out⟩ ⟨HS.out.begin⟩ HA2605).mono ?_
  rintro e_ w2606 ⟨rfl, hS⟩
  replace HS : Aside0 (Sep (fps []) w [b13 g2566 a2565, b11 g2569 0 0 0 0 0 0 0] w2606) := ⟨HS.out.call hS⟩
  clear hS
  go_wp2_with fail
  obtain ⟨t2607, HA2608, H⟩ := bind_some H
  refine (tag_Unpack_1.calls 6 1 a2565 g2566 t2607 _ ⟨HGl0.out.pass HS.out⟩ ⟨HS.out.begin⟩ HA2608).mono ?_
  rintro e_ w2609 ⟨rfl, hS⟩
  replace HS : Aside0 (Sep (fps []) w [b13 g2566 a2565, b11 g2569 0 0 0 0 0 0 0] w2609) := ⟨HS.out.call hS⟩
  clear hS
  go_wp2_with fail
  obtain ⟨t2610, HA2611, H⟩ := bind_some H
  refine (tag_Unpack_1.calls 8 24 a2565 g2566 t2610 _ ⟨HGl0.out.pass HS.out⟩ ⟨HS.out.begin⟩ HA2611).mono ?_
  rintro e_ w2612 ⟨rfl, hS⟩
  replace HS : Aside0 (Sep (fps []) w [b13 g2566 a2565, b11 g2569 0 0 0 0 0 0 0] w2612) := ⟨HS.out.call hS⟩
  clear hS
  have hc2613 : w2612.cell? ⟨g2569, 0, none⟩ = some (.int .i64 0) := blk_cellv (HS.out.at1) 0 rfl
  have hz2614 : w2612.frozen? ⟨g2569, 0, none⟩ = false := blk_fz (HS.out.at1) 0
  have hc2615 : w2612.cell? ⟨g2569, 1, none⟩ = some (.int .i64 0) := blk_cellv (HS.out.at1) 1 rfl
  have hz2616 : w2612.frozen? ⟨g2569, 1, none⟩ = false := blk_fz (HS.out.at1) 1
  have hc2617 : w2612.cell? ⟨g2569, 2, none⟩ = some (.int .i64 0) := blk_cellv (HS.out.at1) 2 rfl
  have hz2618 : w2612.frozen? ⟨g2569, 2, none⟩ = false := blk_fz (HS.out.at1) 2
  have hc2619 : w2612.cell? ⟨g2569, 3, none⟩ = some (.int .i64 0) := blk_cellv (HS.out.at1) 3 rfl
  have hz2620 : w2612.frozen? ⟨g2569, 3, none⟩ = false := blk_fz (HS.out.at1) 3
  have hc2621 : w2612.cell? ⟨g2569, 4, none⟩ = some (.int .i64 0) := blk_cellv (HS.out.at1) 4 rfl
  have hz2622 : w2612.frozen? ⟨g2569, 4, none⟩ = false := blk_fz (HS.out.at1) 4
  have hc2623 : w2612.cell? ⟨g2569, 5, none⟩ = some (.int .i64 0) := blk_cellv (HS.out.at1) 5 rfl
  have hz2624 : w2612.frozen? ⟨g2569, 5, none⟩ = false := blk_fz (HS.out.at1) 5
  have hc2625 : w2612.cell? ⟨g2569, 6, none⟩ = some (.int .i64 0) := blk_cellv (HS.out.at1) 6 rfl
  have hz2626 : w2612.frozen? ⟨g2569, 6, none⟩ = false := blk_fz (HS.out.at1) 6
  go_wp2_with (first | ((with_reducible refine gate_store (t := 32) (p := 2) rfl ?_); refine store_event (w1 := (World.setCell (World.setCell (World.setCell (World.setCell (World.setCell (World.setCell (World.setCell w2612 ⟨g2569, 0, none⟩ (.int .i64 t2592)) ⟨g2569, 1, none⟩ (.int .i64 t2595)) ⟨g2569, 2, none⟩ (.int .i64 t2598)) ⟨g2569, 3, none⟩ (.int .i64 t2601)) ⟨g2569, 4, none⟩ (.int .i64 t2604)) ⟨g2569, 5, none⟩ (.int .i64 t2607)) ⟨g2569, 6, none⟩ (.int .i64 t2610))) rfl (t := 32) (p := 2) rfl rfl ?hr ?_; (case hr => first | (go_simp; done) | (go_simp; rfl)); intro w2627 hst; clear hc2613 hz2614 hc2615 hz2616 hc2617 hz2618 hc2619 hz2620 hc2621 hz2622 hc2623 hz2624 hc2625 hz2626; replace HS : Aside0 (Sep (fps []) w [b13 g2566 a2565, b11 g2569 t2592 t2595 t2598 t2601 t2604 t2607 t2610] w2627) := ⟨by rw [hst]; exact HS.out.setAll (l1 := [b13 g2566 a2565]) (l2 := []) [.int .i64 t2592, .int .i64 t2595, .int .i64 t2598, .int .i64 t2601, .int .i64 t2604, .int .i64 t2607, .int .i64 t2610] rfl⟩; clear hst; replace HS : Aside0 (Sep (fps []) w [b11 g2569 t2592 t2595 t2598 t2601 t2604 t2607 t2610] w2627) := ⟨HS.out.sub (.cons _ (.cons_cons _ .slnil))⟩))
  have hc2628 : w2627.cell? ⟨g2569, 0, none⟩ = some (.int .i64 t2592) := blk_cellv (HS.out.at0) 0 rfl
  have hc2629 : w2627.cell? ⟨g2569, 1, none⟩ = some (.int .i64 t2595) := blk_cellv (HS.out.at0) 1 rfl
  have hc2630 : w2627.cell? ⟨g2569, 2, none⟩ = some (.int .i64 t2598) := blk_cellv (HS.out.at0) 2 rfl
  have hc2631 : w2627.cell? ⟨g2569, 3, none⟩ = some (.int .i64 t2601) := blk_cellv (HS.out.at0) 3 rfl
  have hc2632 : w2627.cell? ⟨g2569, 4, none⟩ = some (.int .i64 t2604) := blk_cellv (HS.out.at0) 4 rfl
  have hc2633 : w2627.cell? ⟨g2569, 5, none⟩ = some (.int .i64 t2607) := blk_cellv (HS.out.at0) 5 rfl
  have hc2634 : w2627.cell? ⟨g2569, 6, none⟩ = some (.int .i64 t2610) := blk_cellv (HS.out.at0) 6 rfl
  refine bodyPost_ret (v := .agg #[.int .i64 t2592, .int .i64 t2595, .int .i64 t2598, .int .i64 t2601, .int .i64 t2604, .int .i64 t2607, .int .i64 t2610]) (by simp [results, Tryd.results19, go_sem, hc2628, hc2629, hc2630, hc2631, hc2632, hc2633, hc2634]) rfl ?_
  rw [← some_eq H]
  exact ⟨(by first | rfl | (simp [IntKind.wrap_u32]; done)), HS.out.sub (.cons _ .slnil)⟩

set_option maxHeartbeats 30000000 in
set_option maxRecDepth 100000 in
theorem ring_marked.calls (l2497 : List Int) (a2502 : Int) (a2503 : Int) (a2504 : Int) (a2505 : Int) (a2506 : Int) (a2507 : Int) (a2508 : Int) (g2493 : Nat) (g2495 : Nat) (A2498 : Option Addr) (m2499 : Nat) (n2500 : Nat) (r : Int × Int × Int × Int × Int × Int × Int × Bool × Int) (w : World)  (HGl0 : Aside0 (Gl 0 #[.int .i64 0, .int .i64 0, .int .i64 0, .int .i64 0, .int .i64 0] (fps [b7 g2493 g2495 a2503 a2504 a2505 a2506, b6 g2495 A2498 m2499 n2500 a2502, r5 A2498 m2499 n2500 l2497]) w)) (HS : Aside0 (Sep (fps [b7 g2493 g2495 a2503 a2504 a2505 a2506, b6 g2495 A2498 m2499 n2500 a2502, r5 A2498 m2499 n2500 l2497]) w [b7 g2493 g2495 a2503 a2504 a2505 a2506, b6 g2495 A2498 m2499 n2500 a2502, r5 A2498 m2499 n2500 l2497] w)) (H : Aside0 (ring_marked.f l2497 a2502 a2503 a2504 a2505 a2506 a2507 a2508 = some r)) :
    Calls Tryd.prog 79 #[.pointer (some ⟨g2493, 0, none⟩), .int .i64 a2507, .int .i64 a2508] w fun e w' => e = .returned (.tuple #[.agg #[.int .i64 r.1, .int .i64 r.2.1, .int .i64 r.2.2.1, .int .i64 r.2.2.2.1, .int .i64 r.2.2.2.2.1, .int .i64 r.2.2.2.2.2.1, .int .i64 r.2.2.2.2.2.2.1], .bool r.2.2.2.2.2.2.2.1]) ∧ Sep (fps [b7 g2493 g2495 a2503 a2504 a2505 a2506, b6 g2495 A2498 m2499 n2500 a2502, r5 A2498 m2499 n2500 l2497]) w [b7 g2493 g2495 a2503 a2504 a2505 a2506, b6 g2495 A2498 m2499 n2500 r.2.2.2.2.2.2.2.2, r5 A2498 m2499 n2500 l2497] w' := by
  generalize (fps [b7 g2493 g2495 a2503 a2504 a2505 a2506, b6 g2495 A2498 m2499 n2500 a2502, r5 A2498 m2499 n2500 l2497]) = FF at HS HGl0 ⊢
  obtain rfl := (row_len (HS.out.at2)).symm
  unfold ring_marked.f at H
  go_enter Tryd.func79, Tryd.ntmps79
  by_cases c2684 : a2507 < 0
  · replace H := if_yes c2684 H
    have c2684b0 : decide (a2507 < 0) = true := decide_eq_true c2684
    clear c2684
    go_wp2_with (first | ((with_reducible refine gate_dst (N := 6) rfl ?_); refine box_on ?hg (N := 6) ?hd (cs := #[.int .i64 0, .int .i64 0, .int .i64 0, .int .i64 0, .int .i64 0, .int .i64 0, .int .i64 0]) (t := 32) ?hr ?_; (case hd => rfl); (case hg => rfl); (case hr => first | (go_simp; done) | (go_simp; rfl)); intro g2681 hg w2682 hbox hb; replace HS : Aside0 (Sep FF w [b7 g2493 g2495 a2503 a2504 a2505 a2506, b6 g2495 A2498 l2497.length n2500 a2502, r5 A2498 l2497.length n2500 l2497, b11 g2681 0 0 0 0 0 0 0] w2682) := ⟨HS.out.box hg hbox hb⟩; clear hg hbox hb; have hc2685 : w2682.cell? ⟨g2681, 0, none⟩ = some (.int .i64 0) := blk_cellv (HS.out.at3) 0 rfl; have hz2686 : w2682.frozen? ⟨g2681, 0, none⟩ = false := blk_fz (HS.out.at3) 0; have hc2687 : w2682.cell? ⟨g2681, 1, none⟩ = some (.int .i64 0) := blk_cellv (HS.out.at3) 1 rfl; have hz2688 : w2682.frozen? ⟨g2681, 1, none⟩ = false := blk_fz (HS.out.at3) 1; have hc2689 : w2682.cell? ⟨g2681, 2, none⟩ = some (.int .i64 0) := blk_cellv (HS.out.at3) 2 rfl; have hz2690 : w2682.frozen? ⟨g2681, 2, none⟩ = false := blk_fz (HS.out.at3) 2; have hc2691 : w2682.cell? ⟨g2681, 3, none⟩ = some (.int .i64 0) := blk_cellv (HS.out.at3) 3 rfl; have hz2692 : w2682.frozen? ⟨g2681, 3, none⟩ = false := blk_fz (HS.out.at3) 3; have hc2693 : w2682.cell? ⟨g2681, 4, none⟩ = some (.int .i64 0) := blk_cellv (HS.out.at3) 4 rfl; have hz2694 : w2682.frozen? ⟨g2681, 4, none⟩ = false := blk_fz (HS.out.at3) 4; have hc2695 : w2682.cell? ⟨g2681, 5, none⟩ = some (.int .i64 0) := blk_cellv (HS.out.at3) 5 rfl; have hz2696 : w2682.frozen? ⟨g2681, 5, none⟩ = false := blk_fz (HS.out.at3) 5; have hc2697 : w2682.cell? ⟨g2681, 6, none⟩ = some (.int .i64 0) := blk_cellv (HS.out.at3) 6 rfl; have hz2698 : w2682.frozen? ⟨g2681, 6, none⟩ = false := blk_fz (HS.out.at3) 6) | ((with_reducible refine gate_store (t := 32) (p := 6) rfl ?_); refine store_event (w1 := (World.setCell (World.setCell (World.setCell (World.setCell (World.setCell (World.setCell (World.setCell w2682 ⟨g2681, 0, none⟩ (.int .i64 0)) ⟨g2681, 1, none⟩ (.int .i64 0)) ⟨g2681, 2, none⟩ (.int .i64 0)) ⟨g2681, 3, none⟩ (.int .i64 0)) ⟨g2681, 4, none⟩ (.int .i64 0)) ⟨g2681, 5, none⟩ (.int .i64 0)) ⟨g2681, 6, none⟩ (.int .i64 0))) rfl (t := 32) (p := 6) rfl rfl ?hr ?_; (case hr => first | (go_simp; done) | (go_simp; rfl)); intro w2699 hst; clear hc2685 hz2686 hc2687 hz2688 hc2689 hz2690 hc2691 hz2692 hc2693 hz2694 hc2695 hz2696 hc2697 hz2698; replace HS : Aside0 (Sep FF w [b7 g2493 g2495 a2503 a2504 a2505 a2506, b6 g2495 A2498 l2497.length n2500 a2502, r5 A2498 l2497.length n2500 l2497, b11 g2681 0 0 0 0 0 0 0] w2699) := ⟨by rw [hst]; exact HS.out.setAll (l1 := [b7 g2493 g2495 a2503 a2504 a2505 a2506, b6 g2495 A2498 l2497.length n2500 a2502, r5 A2498 l2497.length n2500 l2497]) (l2 := []) [.int .i64 0, .int .i64 0, .int .i64 0, .int .i64 0, .int .i64 0, .int .i64 0, .int .i64 0] rfl⟩; clear hst))
    have hc2700 : w2699.cell? ⟨g2681, 0, none⟩ = some (.int .i64 0) := blk_cellv (HS.out.at3) 0 rfl
    have hc2701 : w2699.cell? ⟨g2681, 1, none⟩ = some (.int .i64 0) := blk_cellv (HS.out.at3) 1 rfl
    have hc2702 : w2699.cell? ⟨g2681, 2, none⟩ = some (.int .i64 0) := blk_cellv (HS.out.at3) 2 rfl
    have hc2703 : w2699.cell? ⟨g2681, 3, none⟩ = some (.int .i64 0) := blk_cellv (HS.out.at3) 3 rfl
    have hc2704 : w2699.cell? ⟨g2681, 4, none⟩ = some (.int .i64 0) := blk_cellv (HS.out.at3) 4 rfl
    have hc2705 : w2699.cell? ⟨g2681, 5, none⟩ = some (.int .i64 0) := blk_cellv (HS.out.at3) 5 rfl
    have hc2706 : w2699.cell? ⟨g2681, 6, none⟩ = some (.int .i64 0) := blk_cellv (HS.out.at3) 6 rfl
    refine bodyPost_ret (v := .tuple #[.agg #[.int .i64 0, .int .i64 0, .int .i64 0, .int .i64 0, .int .i64 0, .int .i64 0, .int .i64 0], .bool false]) (by simp [results, Tryd.results79, go_sem, hc2700, hc2701, hc2702, hc2703, hc2704, hc2705, hc2706]) rfl ?_
    rw [← some_eq H]
    exact ⟨(by first | rfl | (simp [IntKind.wrap_u32]; done)), HS.out.sub (.cons_cons _ (.cons_cons _ (.cons_cons _ (.cons _ .slnil))))⟩
  · replace H := if_no c2684 H
    have c2684b0 : decide (a2507 < 0) = false := decide_eq_false c2684
    clear c2684
    go_wp2_with (first | ((with_reducible refine gate_dst (N := 6) rfl ?_); refine box_on ?hg (N := 6) ?hd (cs := #[.int .i64 0, .int .i64 0, .int .i64 0, .int .i64 0, .int .i64 0, .int .i64 0, .int .i64 0]) (t := 32) ?hr ?_; (case hd => rfl); (case hg => rfl); (case hr => first | (go_simp; done) | (go_simp; rfl)); intro g2681 hg w2682 hbox hb; replace HS : Aside0 (Sep FF w [b7 g2493 g2495 a2503 a2504 a2505 a2506, b6 g2495 A2498 l2497.length n2500 a2502, r5 A2498 l2497.length n2500 l2497, b11 g2681 0 0 0 0 0 0 0] w2682) := ⟨HS.out.box hg hbox hb⟩; clear hg hbox hb))
    obtain ⟨t2707, HA2708, H⟩ := bind_some H
    refine (ground_Ground_Conf.calls l2497 a2502 a2503 a2504 a2505 a2506 g2493 g2495 A2498 l2497.length n2500 t2707 _ ⟨HGl0.out.pass HS.out⟩ ⟨HS.out.begin⟩ HA2708).mono ?_
    rintro e_ w2709 ⟨rfl, hS⟩
    replace HS : Aside0 (Sep FF w [b7 g2493 g2495 a2503 a2504 a2505 a2506, b6 g2495 A2498 l2497.length n2500 a2502, r5 A2498 l2497.length n2500 l2497, b11 g2681 0 0 0 0 0 0 0] w2709) := ⟨HS.out.call hS⟩
    clear hS
    by_cases c2711 : a2507 ≥ t2707.1
    · replace H := if_yes c2711 H
      have c2711b0 : decide (t2707.1 ≤ a2507) = true := decide_eq_true c2711
      clear c2711
      have fl2710 : ∀ w, (Instr.field 30 (.agg #[.int .i64 t2707.1, .int .i64 t2707.2.1, .int .i64 t2707.2.2.1, .int .i64 t2707.2.2.2]) 0).run Tryd.prog w = .ok (.int .i64 t2707.1) w := fun _ => by kernel_rfl
      have hc2712 : w2709.cell? ⟨g2681, 0, none⟩ = some (.int .i64 0) := blk_cellv (HS.out.at3) 0 rfl
      have hz2713 : w2709.frozen? ⟨g2681, 0, none⟩ = false := blk_fz (HS.out.at3) 0
      have hc2714 : w2709.cell? ⟨g2681, 1, none⟩ = some (.int .i64 0) := blk_cellv (HS.out.at3) 1 rfl
      have hz2715 : w2709.frozen? ⟨g2681, 1, none⟩ = false := blk_fz (HS.out.at3) 1
      have hc2716 : w2709.cell? ⟨g2681, 2, none⟩ = some (.int .i64 0) := blk_cellv (HS.out.at3) 2 rfl
      have hz2717 : w2709.frozen? ⟨g2681, 2, none⟩ = false := blk_fz (HS.out.at3) 2
      have hc2718 : w2709.cell? ⟨g2681, 3, none⟩ = some (.int .i64 0) := blk_cellv (HS.out.at3) 3 rfl
      have hz2719 : w2709.frozen? ⟨g2681, 3, none⟩ = false := blk_fz (HS.out.at3) 3
      have hc2720 : w2709.cell? ⟨g2681, 4, none⟩ = some (.int .i64 0) := blk_cellv (HS.out.at3) 4 rfl
      have hz2721 : w2709.frozen? ⟨g2681, 4, none⟩ = false := blk_fz (HS.out.at3) 4
      have hc2722 : w2709.cell? ⟨g2681, 5, none⟩ = some (.int .i64 0) := blk_cellv (HS.out.at3) 5 rfl
      have hz2723 : w2709.frozen? ⟨g2681, 5, none⟩ = false := blk_fz (HS.out.at3) 5
      have hc2724 : w2709.cell? ⟨g2681, 6, none⟩ = some (.int .i64 0) := blk_cellv (HS.out.at3) 6 rfl
      have hz2725 : w2709.frozen? ⟨g2681, 6, none⟩ = false := blk_fz (HS.out.at3) 6
      go_wp2_with (first | ((with_reducible refine gate_store (t := 32) (p := 6) rfl ?_); refine store_event (w1 := (World.setCell (World.setCell (World.setCell (World.setCell (World.setCell (World.setCell (World.setCell w2709 ⟨g2681, 0, none⟩ (.int .i64 0)) ⟨g2681, 1, none⟩ (.int .i64 0)) ⟨g2681, 2, none⟩ (.int .i64 0)) ⟨g2681, 3, none⟩ (.int .i64 0)) ⟨g2681, 4, none⟩ (.int .i64 0)) ⟨g2681, 5, none⟩ (.int .i64 0)) ⟨g2681, 6, none⟩ (.int .i64 0))) rfl (t := 32) (p := 6) rfl rfl ?hr ?_; (case hr => first | (go_simp; done) | (go_simp; rfl)); intro w2726 hst; clear fl2710 hc2712 hz2713 hc2714 hz2715 hc2716 hz2717 hc2718 hz2719 hc2720 hz2721 hc2722 hz2723 hc2724 hz2725; replace HS : Aside0 (Sep FF w [b7 g2493 g2495 a2503 a2504 a2505 a2506, b6 g2495 A2498 l2497.length n2500 a2502, r5 A2498 l2497.length n2500 l2497, b11 g2681 0 0 0 0 0 0 0] w2726) := ⟨by rw [hst]; exact HS.out.setAll (l1 := [b7 g2493 g2495 a2503 a2504 a2505 a2506, b6 g2495 A2498 l2497.length n2500 a2502, r5 A2498 l2497.length n2500 l2497]) (l2 := []) [.int .i64 0, .int .i64 0, .int .i64 0, .int .i64 0, .int .i64 0, .int .i64 0, .int .i64 0] rfl⟩; clear hst))
      have hc2727 : w2726.cell? ⟨g2681, 0, none⟩ = some (.int .i64 0) := blk_cellv (HS.out.at3) 0 rfl
      have hc2728 : w2726.cell? ⟨g2681, 1, none⟩ = some (.int .i64 0) := blk_cellv (HS.out.at3) 1 rfl
      have hc2729 : w2726.cell? ⟨g2681, 2, none⟩ = some (.int .i64 0) := blk_cellv (HS.out.at3) 2 rfl
      have hc2730 : w2726.cell? ⟨g2681, 3, none⟩ = some (.int .i64 0) := blk_cellv (HS.out.at3) 3 rfl
      have hc2731 : w2726.cell? ⟨g2681, 4, none⟩ = some (.int .i64 0) := blk_cellv (HS.out.at3) 4 rfl
      have hc2732 : w2726.cell? ⟨g2681, 5, none⟩ = some (.int .i64 0) := blk_cellv (HS.out.at3) 5 rfl
      have hc2733 : w2726.cell? ⟨g2681, 6, none⟩ = some (.int .i64 0) := blk_cellv (HS.out.at3) 6 rfl
      refine bodyPost_ret (v := .tuple #[.agg #[.int .i64 0, .int .i64 0, .int .i64 0, .int .i64 0, .int .i64 0, .int .i64 0, .int .i64 0], .bool false]) (by simp [results, Tryd.results79, go_sem, hc2727, hc2728, hc2729, hc2730, hc2731, hc2732, hc2733]) rfl ?_
      rw [← some_eq H]
      exact ⟨(by first | rfl | (simp [IntKind.wrap_u32]; done)), HS.out.sub (.cons_cons _ (.cons_cons _ (.cons_cons _ (.cons _ .slnil))))⟩
    · replace H := if_no c2711 H
      have c2711b0 : decide (t2707.1 ≤ a2507) = false := decide_eq_false c2711
      clear c2711
      have fl2710 : ∀ w, (Instr.field 30 (.agg #[.int .i64 t2707.1, .int .i64 t2707.2.1, .int .i64 t2707.2.2.1, .int .i64 t2707.2.2.2]) 0).run Tryd.prog w = .ok (.int .i64 t2707.1) w := fun _ => by kernel_rfl
      go_wp2_with fail
      clear fl2710
      obtain ⟨t2734, HA2735, H⟩ := bind_some H
      refine (ground_Ground_Word.calls l2497 a2502 a2503 a2504 a2505 a2506 a2507 0 g2493 g2495 A2498 l2497.length n2500 t2734 _ ⟨HGl0.out.pass HS.out⟩ ⟨HS.out.begin⟩ HA2735).mono ?_
      rintro e_ w2736 ⟨rfl, hS⟩
      replace HS : Aside0 (Sep FF w [b7 g2493 g2495 a2503 a2504 a2505 a2506, b6 g2495 A2498 l2497.length n2500 t2734.2, r5 A2498 l2497.length n2500 l2497, b11 g2681 0 0 0 0 0 0 0] w2736) := ⟨HS.out.call hS⟩
      clear hS
      go_wp2_with fail
      obtain ⟨t2737, HA2738, H⟩ := bind_some H
      refine (tag_Unpack.calls t2734.1 t2737 _ ⟨HGl0.out.pass (l := []) HS.out⟩ ⟨Sep.start _⟩ HA2738).mono ?_
      rintro e_ w2739 ⟨rfl, hS⟩
      replace HS : Aside0 (Sep FF w [b7 g2493 g2495 a2503 a2504 a2505 a2506, b6 g2495 A2498 l2497.length n2500 t2734.2, r5 A2498 l2497.length n2500 l2497, b11 g2681 0 0 0 0 0 0 0] w2739) := ⟨HS.out.call hS⟩
      clear hS
      go_wp2_with (first | ((with_reducible refine gate_dst (N := 8) rfl ?_); refine box_on ?hg (N := 8) ?hd (cs := #[.int .i64 0, .int .i64 0, .int .i64 0, .int .i64 0, .int .i64 0, .int .i64 0, .int .i64 0]) (t := 32) ?hr ?_; (case hd => rfl); (case hg => rfl); (case hr => first | (go_simp; done) | (go_simp; rfl)); intro g2740 hg w2741 hbox hb; replace HS : Aside0 (Sep FF w [b7 g2493 g2495 a2503 a2504 a2505 a2506, b6 g2495 A2498 l2497.length n2500 t2734.2, r5 A2498 l2497.length n2500 l2497, b11 g2681 0 0 0 0 0 0 0, b11 g2740 0 0 0 0 0 0 0] w2741) := ⟨HS.out.box hg hbox hb⟩; clear hg hbox hb; have hc2743 : w2741.cell? ⟨g2740, 0, none⟩ = some (.int .i64 0) := blk_cellv (HS.out.at4) 0 rfl; have hz2744 : w2741.frozen? ⟨g2740, 0, none⟩ = false := blk_fz (HS.out.at4) 0; have hc2745 : w2741.cell? ⟨g2740, 1, none⟩ = some (.int .i64 0) := blk_cellv (HS.out.at4) 1 rfl; have hz2746 : w2741.frozen? ⟨g2740, 1, none⟩ = false := blk_fz (HS.out.at4) 1; have hc2747 : w2741.cell? ⟨g2740, 2, none⟩ = some (.int .i64 0) := blk_cellv (HS.out.at4) 2 rfl; have hz2748 : w2741.frozen? ⟨g2740, 2, none⟩ = false := blk_fz (HS.out.at4) 2; have hc2749 : w2741.cell? ⟨g2740, 3, none⟩ = some (.int .i64 0) := blk_cellv (HS.out.at4) 3 rfl; have hz2750 : w2741.frozen? ⟨g2740, 3, none⟩ = false := blk_fz (HS.out.at4) 3; have hc2751 : w2741.cell? ⟨g2740, 4, none⟩ = some (.int .i64 0) := blk_cellv (HS.out.at4) 4 rfl; have hz2752 : w2741.frozen? ⟨g2740, 4, none⟩ = false := blk_fz (HS.out.at4) 4; have hc2753 : w2741.cell? ⟨g2740, 5, none⟩ = some (.int .i64 0) := blk_cellv (HS.out.at4) 5 rfl; have hz2754 : w2741.frozen? ⟨g2740, 5, none⟩ = false := blk_fz (HS.out.at4) 5; have hc2755 : w2741.cell? ⟨g2740, 6, none⟩ = some (.int .i64 0) := blk_cellv (HS.out.at4) 6 rfl; have hz2756 : w2741.frozen? ⟨g2740, 6, none⟩ = false := blk_fz (HS.out.at4) 6) | ((with_reducible refine gate_store (t := 32) (p := 8) rfl ?_); refine store_event (w1 := (World.setCell (World.setCell (World.setCell (World.setCell (World.setCell (World.setCell (World.setCell w2741 ⟨g2740, 0, none⟩ (.int .i64 t2737.1)) ⟨g2740, 1, none⟩ (.int .i64 t2737.2.1)) ⟨g2740, 2, none⟩ (.int .i64 t2737.2.2.1)) ⟨g2740, 3, none⟩ (.int .i64 t2737.2.2.2.1)) ⟨g2740, 4, none⟩ (.int .i64 t2737.2.2.2.2.1)) ⟨g2740, 5, none⟩ (.int .i64 t2737.2.2.2.2.2.1)) ⟨g2740, 6, none⟩ (.int .i64 t2737.2.2.2.2.2.2))) rfl (t := 32) (p := 8) rfl rfl ?hr ?_; (case hr => first | (go_simp; done) | (go_simp; rfl)); intro w2757 hst; clear hc2743 hz2744 hc2745 hz2746 hc2747 hz2748 hc2749 hz2750 hc2751 hz2752 hc2753 hz2754 hc2755 hz2756; replace HS : Aside0 (Sep FF w [b7 g2493 g2495 a2503 a2504 a2505 a2506, b6 g2495 A2498 l2497.length n2500 t2734.2, r5 A2498 l2497.length n2500 l2497, b11 g2681 0 0 0 0 0 0 0, b11 g2740 t2737.1 t2737.2.1 t2737.2.2.1 t2737.2.2.2.1 t2737.2.2.2.2.1 t2737.2.2.2.2.2.1 t2737.2.2.2.2.2.2] w2757) := ⟨by rw [hst]; exact HS.out.setAll (l1 := [b7 g2493 g2495 a2503 a2504 a2505 a2506, b6 g2495 A2498 l2497.length n2500 t2734.2, r5 A2498 l2497.length n2500 l2497, b11 g2681 0 0 0 0 0 0 0]) (l2 := []) [.int .i64 t2737.1, .int .i64 t2737.2.1, .int .i64 t2737.2.2.1, .int .i64 t2737.2.2.2.1, .int .i64 t2737.2.2.2.2.1, .int .i64 t2737.2.2.2.2.2.1, .int .i64 t2737.2.2.2.2.2.2] rfl⟩; clear hst))
      refine start_ (n := 17) (S := (fun w' => w'.cell? ⟨g2740, 0, none⟩ = some (.int .i64 t2737.1) ∧ w'.cell? ⟨g2740, 1, none⟩ = some (.int .i64 t2737.2.1) ∧ w'.cell? ⟨g2740, 2, none⟩ = some (.int .i64 t2737.2.2.1) ∧ w'.cell? ⟨g2740, 3, none⟩ = some (.int .i64 t2737.2.2.2.1) ∧ w'.cell? ⟨g2740, 4, none⟩ = some (.int .i64 t2737.2.2.2.2.1) ∧ w'.cell? ⟨g2740, 5, none⟩ = some (.int .i64 t2737.2.2.2.2.2.1) ∧ w'.cell? ⟨g2740, 6, none⟩ = some (.int .i64 t2737.2.2.2.2.2.2))) (ds := []) #[false, false, false, false, false, false, false, false, false, false, false, false, false, false, false, false, false] (by kernel_rfl) rfl rfl (⟨blk_cellv ((HS.out.drew).at4) 0 rfl, blk_cellv ((HS.out.drew).at4) 1 rfl, blk_cellv ((HS.out.drew).at4) 2 rfl, blk_cellv ((HS.out.drew).at4) 3 rfl, blk_cellv ((HS.out.drew).at4) 4 rfl, blk_cellv ((HS.out.drew).at4) 5 rfl, blk_cellv ((HS.out.drew).at4) 6 rfl⟩) (fun hHeld => ?_)
      have HS_ := Aside0.mk HS.out.drew
      clear HS
      generalize World.drew _ = w2759 at HS_ hHeld ⊢
      have HS := HS_
      clear HS_
      refine pure_ (i := 1) (N := some 28) (v := ?_) (a' := ?_) #[false, true, false, false, false, false, false, false, false, false, false, false, false, false, false, false, false] rfl rfl (by kernel_rfl) (fun _ _ _ h => h) (Or.inl ⟨by rfl, ?_⟩) ?_ ?_
      rotate_left
      · intro w'
        go_simp
        with_reducible rfl
      rotate_left
      · simp only [Act.put, List.setIfInBounds_toArray, List.set_cons_zero, List.set_cons_succ, i64_w, i32_w]
        rfl
      refine take_ (i := 0) (N := some 27) (v := ?_) (a' := ?_) #[true, true, false, false, false, false, false, false, false, false, false, false, false, false, false, false, false] rfl rfl (by kernel_rfl) (fun _ _ _ h => h) (Or.inl ⟨by rfl, ?_⟩) hHeld ?_ ?_
      rotate_left
      · rintro w' hS'
        obtain ⟨s0, s1, s2, s3, s4, s5, s6⟩ := hS'
        go_simp
        with_reducible rfl
      rotate_left
      · simp only [Act.put, List.setIfInBounds_toArray, List.set_cons_zero, List.set_cons_succ, i64_w, i32_w]
        rfl
      refine take_ (i := 2) (N := some 29) (v := ?_) (a' := ?_) #[true, true, true, false, false, false, false, false, false, false, false, false, false, false, false, false, false] rfl rfl (by kernel_rfl) (fun _ _ _ h => h) (Or.inl ⟨by rfl, ?_⟩) hHeld ?_ ?_
      rotate_left
      · rintro w' hS'
        obtain ⟨s0, s1, s2, s3, s4, s5, s6⟩ := hS'
        go_simp
        with_reducible rfl
      rotate_left
      · simp only [Act.put, List.setIfInBounds_toArray, List.set_cons_zero, List.set_cons_succ, i64_w, i32_w]
        rfl
      refine pure_ (i := 3) (N := some 30) (v := ?_) (a' := ?_) #[true, true, true, true, false, false, false, false, false, false, false, false, false, false, false, false, false] rfl rfl (by kernel_rfl) (fun _ _ _ h => h) (Or.inl ⟨by rfl, ?_⟩) ?_ ?_
      rotate_left
      · intro w'
        go_simp
        with_reducible rfl
      rotate_left
      · simp only [Act.put, List.setIfInBounds_toArray, List.set_cons_zero, List.set_cons_succ, i64_w, i32_w]
        rfl
      refine pure_ (i := 4) (N := some 31) (v := ?_) (a' := ?_) #[true, true, true, true, true, false, false, false, false, false, false, false, false, false, false, false, false] rfl rfl (by kernel_rfl) (fun _ _ _ h => h) (Or.inl ⟨by rfl, ?_⟩) ?_ ?_
      rotate_left
      · intro w'
        go_simp
        with_reducible rfl
      rotate_left
      · simp only [Act.put, List.setIfInBounds_toArray, List.set_cons_zero, List.set_cons_succ, i64_w, i32_w]
        rfl
      by_cases c2760 : t2737.1 = 1
      · replace H := if_yes c2760 H
        have c2760b0 : (t2737.1 == 1) = true := beq_iff_eq.mpr c2760
        have c2760b1 : (t2737.1 != 1) = false := bne_eq_false_iff_eq.mpr c2760
        clear c2760
        try simp only [c2760b0, c2760b1, Bool.not_true, Bool.not_false]
        refine pure_ (i := 5) (N := some 32) (v := undef) (a' := ?_) #[true, true, true, true, true, true, false, false, false, false, false, false, false, false, false, false, false] rfl rfl (by kernel_rfl) (fun _ _ _ h => h) (Or.inr ⟨by rfl, rfl⟩) ?_ ?_
        rotate_left
        · simp only [Act.put, List.setIfInBounds_toArray, List.set_cons_zero, List.set_cons_succ, i64_w, i32_w]
          rfl
        try simp only [c2760b0, c2760b1, Bool.not_true, Bool.not_false]
        refine pure_ (i := 6) (N := some 33) (v := undef) (a' := ?_) #[true, true, true, true, true, true, true, false, false, false, false, false, false, false, false, false, false] rfl rfl (by kernel_rfl) (fun _ _ _ h => h) (Or.inr ⟨by rfl, rfl⟩) ?_ ?_
        rotate_left
        · simp only [Act.put, List.setIfInBounds_toArray, List.set_cons_zero, List.set_cons_succ, i64_w, i32_w]
          rfl
        try simp only [c2760b0, c2760b1, Bool.not_true, Bool.not_false]
        refine pure_ (i := 7) (N := some 34) (v := undef) (a' := ?_) #[true, true, true, true, true, true, true, true, false, false, false, false, false, false, false, false, false] rfl rfl (by kernel_rfl) (fun _ _ _ h => h) (Or.inr ⟨by rfl, rfl⟩) ?_ ?_
        rotate_left
        · simp only [Act.put, List.setIfInBounds_toArray, List.set_cons_zero, List.set_cons_succ, i64_w, i32_w]
          rfl
        refine pure_ (i := 8) (N := some 35) (v := ?_) (a' := ?_) #[true, true, true, true, true, true, true, true, true, false, false, false, false, false, false, false, false] rfl rfl (by kernel_rfl) (fun _ _ _ h => h) (Or.inl ⟨by rfl, ?_⟩) ?_ ?_
        rotate_left
        · intro w'
          go_simp
          with_reducible rfl
        rotate_left
        · simp only [Act.put, List.setIfInBounds_toArray, List.set_cons_zero, List.set_cons_succ, i64_w, i32_w]
          rfl
        refine pure_ (i := 9) (N := some 36) (v := ?_) (a' := ?_) #[true, true, true, true, true, true, true, true, true, true, false, false, false, false, false, false, false] rfl rfl (by kernel_rfl) (fun _ _ _ h => h) (Or.inl ⟨by rfl, ?_⟩) ?_ ?_
        rotate_left
        · intro w'
          go_simp
          with_reducible rfl
        rotate_left
        · simp only [Act.put, List.setIfInBounds_toArray, List.set_cons_zero, List.set_cons_succ, i64_w, i32_w]
          rfl
        refine pure_ (i := 10) (N := some 37) (v := ?_) (a' := ?_) #[true, true, true, true, true, true, true, true, true, true, true, false, false, false, false, false, false] rfl rfl (by kernel_rfl) (fun _ _ _ h => h) (Or.inl ⟨by rfl, ?_⟩) ?_ ?_
        rotate_left
        · intro w'
          go_simp
          with_reducible rfl
        rotate_left
        · simp only [Act.put, List.setIfInBounds_toArray, List.set_cons_zero, List.set_cons_succ, i64_w, i32_w]
          rfl
        refine pure_ (i := 12) (N := some 39) (v := ?_) (a' := ?_) #[true, true, true, true, true, true, true, true, true, true, true, false, true, false, false, false, false] rfl rfl (by kernel_rfl) (fun _ _ _ h => h) (Or.inl ⟨by rfl, ?_⟩) ?_ ?_
        rotate_left
        · intro w'
          go_simp
          with_reducible rfl
        rotate_left
        · simp only [Act.put, List.setIfInBounds_toArray, List.set_cons_zero, List.set_cons_succ, i64_w, i32_w]
          rfl
        refine take_ (i := 11) (N := some 38) (v := ?_) (a' := ?_) #[true, true, true, true, true, true, true, true, true, true, true, true, true, false, false, false, false] rfl rfl (by kernel_rfl) (fun _ _ _ h => h) (Or.inl ⟨by rfl, ?_⟩) hHeld ?_ ?_
        rotate_left
        · rintro w' hS'
          obtain ⟨s0, s1, s2, s3, s4, s5, s6⟩ := hS'
          go_simp
          with_reducible rfl
        rotate_left
        · simp only [Act.put, List.setIfInBounds_toArray, List.set_cons_zero, List.set_cons_succ, i64_w, i32_w]
          rfl
        refine pure_ (i := 13) (N := some 40) (v := ?_) (a' := ?_) #[true, true, true, true, true, true, true, true, true, true, true, true, true, true, false, false, false] rfl rfl (by kernel_rfl) (fun _ _ _ h => h) (Or.inl ⟨by rfl, ?_⟩) ?_ ?_
        rotate_left
        · intro w'
          go_simp
          with_reducible rfl
        rotate_left
        · simp only [Act.put, List.setIfInBounds_toArray, List.set_cons_zero, List.set_cons_succ, i64_w, i32_w]
          rfl
        refine pure_ (i := 14) (N := some 41) (v := ?_) (a' := ?_) #[true, true, true, true, true, true, true, true, true, true, true, true, true, true, true, false, false] rfl rfl (by kernel_rfl) (fun _ _ _ h => h) (Or.inl ⟨by rfl, ?_⟩) ?_ ?_
        rotate_left
        · intro w'
          go_simp
          with_reducible rfl
        rotate_left
        · simp only [Act.put, List.setIfInBounds_toArray, List.set_cons_zero, List.set_cons_succ, i64_w, i32_w]
          rfl
        refine one_ (i := 15) (N := none) #[true, true, true, true, true, true, true, true, true, true, true, true, true, true, true, true, false] rfl rfl (by kernel_rfl) (by decide) (fun K hK => ?_)
        have hc2762 := blk_cellv (v := .int .i64 0) (HS.out.at3) 0 rfl
        have hz2763 := blk_fz (HS.out.at3) 0
        have hc2764 := blk_cellv (v := .int .i64 0) (HS.out.at3) 1 rfl
        have hz2765 := blk_fz (HS.out.at3) 1
        have hc2766 := blk_cellv (v := .int .i64 0) (HS.out.at3) 2 rfl
        have hz2767 := blk_fz (HS.out.at3) 2
        have hc2768 := blk_cellv (v := .int .i64 0) (HS.out.at3) 3 rfl
        have hz2769 := blk_fz (HS.out.at3) 3
        have hc2770 := blk_cellv (v := .int .i64 0) (HS.out.at3) 4 rfl
        have hz2771 := blk_fz (HS.out.at3) 4
        have hc2772 := blk_cellv (v := .int .i64 0) (HS.out.at3) 5 rfl
        have hz2773 := blk_fz (HS.out.at3) 5
        have hc2774 := blk_cellv (v := .int .i64 0) (HS.out.at3) 6 rfl
        have hz2775 := blk_fz (HS.out.at3) 6
        refine store_step (w1 := (World.setCell (World.setCell (World.setCell (World.setCell (World.setCell (World.setCell (World.setCell w2759 ⟨g2681, 0, none⟩ (.int .i64 t2737.1)) ⟨g2681, 1, none⟩ (.int .i64 t2737.2.1)) ⟨g2681, 2, none⟩ (.int .i64 t2737.2.2.1)) ⟨g2681, 3, none⟩ (.int .i64 t2737.2.2.2.1)) ⟨g2681, 4, none⟩ (.int .i64 t2737.2.2.2.2.1)) ⟨g2681, 5, none⟩ (.int .i64 t2737.2.2.2.2.2.1)) ⟨g2681, 6, none⟩ (.int .i64 t2737.2.2.2.2.2.2))) (by rfl) rfl ?hr ?_
        case hr => first | (go_simp; done) | (go_simp; rfl)
        clear hc2762 hz2763 hc2764 hz2765 hc2766 hz2767 hc2768 hz2769 hc2770 hz2771 hc2772 hz2773 hc2774 hz2775
        intro w2761 hst
        replace HS : Aside0 (Sep FF w [b7 g2493 g2495 a2503 a2504 a2505 a2506, b6 g2495 A2498 l2497.length n2500 t2734.2, r5 A2498 l2497.length n2500 l2497, b11 g2681 t2737.1 t2737.2.1 t2737.2.2.1 t2737.2.2.2.1 t2737.2.2.2.2.1 t2737.2.2.2.2.2.1 t2737.2.2.2.2.2.2, b11 g2740 t2737.1 t2737.2.1 t2737.2.2.1 t2737.2.2.2.1 t2737.2.2.2.2.1 t2737.2.2.2.2.2.1 t2737.2.2.2.2.2.2] w2761) := ⟨by rw [hst]; exact HS.out.setAll (l1 := [b7 g2493 g2495 a2503 a2504 a2505 a2506, b6 g2495 A2498 l2497.length n2500 t2734.2, r5 A2498 l2497.length n2500 l2497]) (l2 := [b11 g2740 t2737.1 t2737.2.1 t2737.2.2.1 t2737.2.2.2.1 t2737.2.2.2.2.1 t2737.2.2.2.2.2.1 t2737.2.2.2.2.2.2]) [.int .i64 t2737.1, .int .i64 t2737.2.1, .int .i64 t2737.2.2.1, .int .i64 t2737.2.2.2.1, .int .i64 t2737.2.2.2.2.1, .int .i64 t2737.2.2.2.2.2.1, .int .i64 t2737.2.2.2.2.2.2] rfl⟩
        clear hst
        refine hK.out _ _ (⟨blk_cellv (HS.out.at4) 0 rfl, blk_cellv (HS.out.at4) 1 rfl, blk_cellv (HS.out.at4) 2 rfl, blk_cellv (HS.out.at4) 3 rfl, blk_cellv (HS.out.at4) 4 rfl, blk_cellv (HS.out.at4) 5 rfl, blk_cellv (HS.out.at4) 6 rfl⟩) (fun hHeld => ?_)
        clear hK K
        refine pure_ (i := 16) (N := some 7) (v := ?_) (a' := ?_) #[true, true, true, true, true, true, true, true, true, true, true, true, true, true, true, true, true] rfl rfl (by kernel_rfl) (fun _ _ _ h => h) (Or.inl ⟨by rfl, ?_⟩) ?_ ?_
        rotate_left
        · intro w'
          go_simp
          with_reducible rfl
        rotate_left
        · simp only [Act.put, List.setIfInBounds_toArray, List.set_cons_zero, List.set_cons_succ, i64_w, i32_w]
          rfl
        refine done_ (by kernel_rfl) ?_
        replace HS : Aside0 (Sep FF w [b7 g2493 g2495 a2503 a2504 a2505 a2506, b6 g2495 A2498 l2497.length n2500 t2734.2, r5 A2498 l2497.length n2500 l2497, b11 g2681 t2737.1 t2737.2.1 t2737.2.2.1 t2737.2.2.2.1 t2737.2.2.2.2.1 t2737.2.2.2.2.2.1 t2737.2.2.2.2.2.2] w2761) := ⟨HS.out.sub (.cons_cons _ (.cons_cons _ (.cons_cons _ (.cons_cons _ (.cons _ .slnil)))))⟩
        go_wp2_with fail
        have hc2776 : w2761.cell? ⟨g2681, 0, none⟩ = some (.int .i64 t2737.1) := blk_cellv (HS.out.at3) 0 rfl
        have hc2777 : w2761.cell? ⟨g2681, 1, none⟩ = some (.int .i64 t2737.2.1) := blk_cellv (HS.out.at3) 1 rfl
        have hc2778 : w2761.cell? ⟨g2681, 2, none⟩ = some (.int .i64 t2737.2.2.1) := blk_cellv (HS.out.at3) 2 rfl
        have hc2779 : w2761.cell? ⟨g2681, 3, none⟩ = some (.int .i64 t2737.2.2.2.1) := blk_cellv (HS.out.at3) 3 rfl
        have hc2780 : w2761.cell? ⟨g2681, 4, none⟩ = some (.int .i64 t2737.2.2.2.2.1) := blk_cellv (HS.out.at3) 4 rfl
        have hc2781 : w2761.cell? ⟨g2681, 5, none⟩ = some (.int .i64 t2737.2.2.2.2.2.1) := blk_cellv (HS.out.at3) 5 rfl
        have hc2782 : w2761.cell? ⟨g2681, 6, none⟩ = some (.int .i64 t2737.2.2.2.2.2.2) := blk_cellv (HS.out.at3) 6 rfl
        refine bodyPost_ret (v := .tuple #[.agg #[.int .i64 t2737.1, .int .i64 t2737.2.1, .int .i64 t2737.2.2.1, .int .i64 t2737.2.2.2.1, .int .i64 t2737.2.2.2.2.1, .int .i64 t2737.2.2.2.2.2.1, .int .i64 t2737.2.2.2.2.2.2], .bool (t2737.2.2.2.2.2.1 == a2508)]) (by simp [results, Tryd.results79, go_sem, hc2776, hc2777, hc2778, hc2779, hc2780, hc2781, hc2782]) rfl ?_
        rw [← some_eq H]
        exact ⟨(by first | rfl | (simp [IntKind.wrap_u32]; done)), HS.out.sub (.cons_cons _ (.cons_cons _ (.cons_cons _ (.cons _ .slnil))))⟩
      · replace H := if_no c2760 H
        have c2760b0 : (t2737.1 == 1) = false := beq_eq_false_iff_ne.mpr c2760
        have c2760b1 : (t2737.1 != 1) = true := bne_iff_ne.mpr c2760
        clear c2760
        try simp only [c2760b0, c2760b1, Bool.not_true, Bool.not_false]
        refine pure_ (i := 5) (N := some 32) (v := ?_) (a' := ?_) #[true, true, true, true, true, true, false, false, false, false, false, false, false, false, false, false, false] rfl rfl (by kernel_rfl) (fun _ _ _ h => h) (Or.inl ⟨by rfl, ?_⟩) ?_ ?_
        rotate_left
        · intro w'
          go_simp
          with_reducible rfl
        rotate_left
        · simp only [Act.put, List.setIfInBounds_toArray, List.set_cons_zero, List.set_cons_succ, i64_w, i32_w]
          rfl
        try simp only [c2760b0, c2760b1, Bool.not_true, Bool.not_false]
        refine take_ (i := 6) (N := some 33) (v := ?_) (a' := ?_) #[true, true, true, true, true, true, true, false, false, false, false, false, false, false, false, false, false] rfl rfl (by kernel_rfl) (fun _ _ _ h => h) (Or.inl ⟨by rfl, ?_⟩) hHeld ?_ ?_
        rotate_left
        · rintro w' hS'
          obtain ⟨s0, s1, s2, s3, s4, s5, s6⟩ := hS'
          go_simp
          with_reducible rfl
        rotate_left
        · simp only [Act.put, List.setIfInBounds_toArray, List.set_cons_zero, List.set_cons_succ, i64_w, i32_w]
          rfl
        try simp only [c2760b0, c2760b1, Bool.not_true, Bool.not_false]
        refine pure_ (i := 7) (N := some 34) (v := ?_) (a' := ?_) #[true, true, true, true, true, true, true, true, false, false, false, false, false, false, false, false, false] rfl rfl (by kernel_rfl) (fun _ _ _ h => h) (Or.inl ⟨by rfl, ?_⟩) ?_ ?_
        rotate_left
        · intro w'
          go_simp
          with_reducible rfl
        rotate_left
        · simp only [Act.put, List.setIfInBounds_toArray, List.set_cons_zero, List.set_cons_succ, i64_w, i32_w]
          rfl
        refine pure_ (i := 8) (N := some 35) (v := ?_) (a' := ?_) #[true, true, true, true, true, true, true, true, true, false, false, false, false, false, false, false, false] rfl rfl (by kernel_rfl) (fun _ _ _ h => h) (Or.inl ⟨by rfl, ?_⟩) ?_ ?_
        rotate_left
        · intro w'
          go_simp
          with_reducible rfl
        rotate_left
        · simp only [Act.put, List.setIfInBounds_toArray, List.set_cons_zero, List.set_cons_succ, i64_w, i32_w]
          rfl
        refine pure_ (i := 9) (N := some 36) (v := ?_) (a' := ?_) #[true, true, true, true, true, true, true, true, true, true, false, false, false, false, false, false, false] rfl rfl (by kernel_rfl) (fun _ _ _ h => h) (Or.inl ⟨by rfl, ?_⟩) ?_ ?_
        rotate_left
        · intro w'
          go_simp
          with_reducible rfl
        rotate_left
        · simp only [Act.put, List.setIfInBounds_toArray, List.set_cons_zero, List.set_cons_succ, i64_w, i32_w]
          rfl
        by_cases c2783 : t2737.1 = 2
        · replace H := if_yes c2783 H
          have c2783b0 : (t2737.1 == 2) = true := beq_iff_eq.mpr c2783
          have c2783b1 : (t2737.1 != 2) = false := bne_eq_false_iff_eq.mpr c2783
          clear c2783
          try simp only [c2783b0, c2783b1, Bool.not_true, Bool.not_false]
          refine pure_ (i := 10) (N := some 37) (v := ?_) (a' := ?_) #[true, true, true, true, true, true, true, true, true, true, true, false, false, false, false, false, false] rfl rfl (by kernel_rfl) (fun _ _ _ h => h) (Or.inl ⟨by rfl, ?_⟩) ?_ ?_
          rotate_left
          · intro w'
            go_simp
            with_reducible rfl
          rotate_left
          · simp only [Act.put, List.setIfInBounds_toArray, List.set_cons_zero, List.set_cons_succ, i64_w, i32_w]
            rfl
          try simp only [c2783b0, c2783b1, Bool.not_true, Bool.not_false]
          refine pure_ (i := 12) (N := some 39) (v := ?_) (a' := ?_) #[true, true, true, true, true, true, true, true, true, true, true, false, true, false, false, false, false] rfl rfl (by kernel_rfl) (fun _ _ _ h => h) (Or.inl ⟨by rfl, ?_⟩) ?_ ?_
          rotate_left
          · intro w'
            go_simp
            with_reducible rfl
          rotate_left
          · simp only [Act.put, List.setIfInBounds_toArray, List.set_cons_zero, List.set_cons_succ, i64_w, i32_w]
            rfl
          try simp only [c2783b0, c2783b1, Bool.not_true, Bool.not_false]
          refine take_ (i := 11) (N := some 38) (v := ?_) (a' := ?_) #[true, true, true, true, true, true, true, true, true, true, true, true, true, false, false, false, false] rfl rfl (by kernel_rfl) (fun _ _ _ h => h) (Or.inl ⟨by rfl, ?_⟩) hHeld ?_ ?_
          rotate_left
          · rintro w' hS'
            obtain ⟨s0, s1, s2, s3, s4, s5, s6⟩ := hS'
            go_simp
            with_reducible rfl
          rotate_left
          · simp only [Act.put, List.setIfInBounds_toArray, List.set_cons_zero, List.set_cons_succ, i64_w, i32_w]
            rfl
          try simp only [c2783b0, c2783b1, Bool.not_true, Bool.not_false]
          refine pure_ (i := 13) (N := some 40) (v := ?_) (a' := ?_) #[true, true, true, true, true, true, true, true, true, true, true, true, true, true, false, false, false] rfl rfl (by kernel_rfl) (fun _ _ _ h => h) (Or.inl ⟨by rfl, ?_⟩) ?_ ?_
          rotate_left
          · intro w'
            go_simp
            with_reducible rfl
          rotate_left
          · simp only [Act.put, List.setIfInBounds_toArray, List.set_cons_zero, List.set_cons_succ, i64_w, i32_w]
            rfl
          refine pure_ (i := 14) (N := some 41) (v := ?_) (a' := ?_) #[true, true, true, true, true, true, true, true, true, true, true, true, true, true, true, false, false] rfl rfl (by kernel_rfl) (fun _ _ _ h => h) (Or.inl ⟨by rfl, ?_⟩) ?_ ?_
          rotate_left
          · intro w'
            go_simp
            with_reducible rfl
          rotate_left
          · simp only [Act.put, List.setIfInBounds_toArray, List.set_cons_zero, List.set_cons_succ, i64_w, i32_w]
            rfl
          refine one_ (i := 15) (N := none) #[true, true, true, true, true, true, true, true, true, true, true, true, true, true, true, true, false] rfl rfl (by kernel_rfl) (by decide) (fun K hK => ?_)
          have hc2785 := blk_cellv (v := .int .i64 0) (HS.out.at3) 0 rfl
          have hz2786 := blk_fz (HS.out.at3) 0
          have hc2787 := blk_cellv (v := .int .i64 0) (HS.out.at3) 1 rfl
          have hz2788 := blk_fz (HS.out.at3) 1
          have hc2789 := blk_cellv (v := .int .i64 0) (HS.out.at3) 2 rfl
          have hz2790 := blk_fz (HS.out.at3) 2
          have hc2791 := blk_cellv (v := .int .i64 0) (HS.out.at3) 3 rfl
          have hz2792 := blk_fz (HS.out.at3) 3
          have hc2793 := blk_cellv (v := .int .i64 0) (HS.out.at3) 4 rfl
          have hz2794 := blk_fz (HS.out.at3) 4
          have hc2795 := blk_cellv (v := .int .i64 0) (HS.out.at3) 5 rfl
          have hz2796 := blk_fz (HS.out.at3) 5
          have hc2797 := blk_cellv (v := .int .i64 0) (HS.out.at3) 6 rfl
          have hz2798 := blk_fz (HS.out.at3) 6
          refine store_step (w1 := (World.setCell (World.setCell (World.setCell (World.setCell (World.setCell (World.setCell (World.setCell w2759 ⟨g2681, 0, none⟩ (.int .i64 t2737.1)) ⟨g2681, 1, none⟩ (.int .i64 t2737.2.1)) ⟨g2681, 2, none⟩ (.int .i64 t2737.2.2.1)) ⟨g2681, 3, none⟩ (.int .i64 t2737.2.2.2.1)) ⟨g2681, 4, none⟩ (.int .i64 t2737.2.2.2.2.1)) ⟨g2681, 5, none⟩ (.int .i64 t2737.2.2.2.2.2.1)) ⟨g2681, 6, none⟩ (.int .i64 t2737.2.2.2.2.2.2))) (by rfl) rfl ?hr ?_
          case hr => first | (go_simp; done) | (go_simp; rfl)
          clear hc2785 hz2786 hc2787 hz2788 hc2789 hz2790 hc2791 hz2792 hc2793 hz2794 hc2795 hz2796 hc2797 hz2798
          intro w2784 hst
          replace HS : Aside0 (Sep FF w [b7 g2493 g2495 a2503 a2504 a2505 a2506, b6 g2495 A2498 l2497.length n2500 t2734.2, r5 A2498 l2497.length n2500 l2497, b11 g2681 t2737.1 t2737.2.1 t2737.2.2.1 t2737.2.2.2.1 t2737.2.2.2.2.1 t2737.2.2.2.2.2.1 t2737.2.2.2.2.2.2, b11 g2740 t2737.1 t2737.2.1 t2737.2.2.1 t2737.2.2.2.1 t2737.2.2.2.2.1 t2737.2.2.2.2.2.1 t2737.2.2.2.2.2.2] w2784) := ⟨by rw [hst]; exact HS.out.setAll (l1 := [b7 g2493 g2495 a2503 a2504 a2505 a2506, b6 g2495 A2498 l2497.length n2500 t2734.2, r5 A2498 l2497.length n2500 l2497]) (l2 := [b11 g2740 t2737.1 t2737.2.1 t2737.2.2.1 t2737.2.2.2.1 t2737.2.2.2.2.1 t2737.2.2.2.2.2.1 t2737.2.2.2.2.2.2]) [.int .i64 t2737.1, .int .i64 t2737.2.1, .int .i64 t2737.2.2.1, .int .i64 t2737.2.2.2.1, .int .i64 t2737.2.2.2.2.1, .int .i64 t2737.2.2.2.2.2.1, .int .i64 t2737.2.2.2.2.2.2] rfl⟩
          clear hst
          refine hK.out _ _ (⟨blk_cellv (HS.out.at4) 0 rfl, blk_cellv (HS.out.at4) 1 rfl, blk_cellv (HS.out.at4) 2 rfl, blk_cellv (HS.out.at4) 3 rfl, blk_cellv (HS.out.at4) 4 rfl, blk_cellv (HS.out.at4) 5 rfl, blk_cellv (HS.out.at4) 6 rfl⟩) (fun hHeld => ?_)
          clear hK K
          refine pure_ (i := 16) (N := some 7) (v := ?_) (a' := ?_) #[true, true, true, true, true, true, true, true, true, true, true, true, true, true, true, true, true] rfl rfl (by kernel_rfl) (fun _ _ _ h => h) (Or.inl ⟨by rfl, ?_⟩) ?_ ?_
          rotate_left
          · intro w'
            go_simp
            with_reducible rfl
          rotate_left
          · simp only [Act.put, List.setIfInBounds_toArray, List.set_cons_zero, List.set_cons_succ, i64_w, i32_w]
            rfl
          refine done_ (by kernel_rfl) ?_
          replace HS : Aside0 (Sep FF w [b7 g2493 g2495 a2503 a2504 a2505 a2506, b6 g2495 A2498 l2497.length n2500 t2734.2, r5 A2498 l2497.length n2500 l2497, b11 g2681 t2737.1 t2737.2.1 t2737.2.2.1 t2737.2.2.2.1 t2737.2.2.2.2.1 t2737.2.2.2.2.2.1 t2737.2.2.2.2.2.2] w2784) := ⟨HS.out.sub (.cons_cons _ (.cons_cons _ (.cons_cons _ (.cons_cons _ (.cons _ .slnil)))))⟩
          go_wp2_with fail
          have hc2799 : w2784.cell? ⟨g2681, 0, none⟩ = some (.int .i64 t2737.1) := blk_cellv (HS.out.at3) 0 rfl
          have hc2800 : w2784.cell? ⟨g2681, 1, none⟩ = some (.int .i64 t2737.2.1) := blk_cellv (HS.out.at3) 1 rfl
          have hc2801 : w2784.cell? ⟨g2681, 2, none⟩ = some (.int .i64 t2737.2.2.1) := blk_cellv (HS.out.at3) 2 rfl
          have hc2802 : w2784.cell? ⟨g2681, 3, none⟩ = some (.int .i64 t2737.2.2.2.1) := blk_cellv (HS.out.at3) 3 rfl
          have hc2803 : w2784.cell? ⟨g2681, 4, none⟩ = some (.int .i64 t2737.2.2.2.2.1) := blk_cellv (HS.out.at3) 4 rfl
          have hc2804 : w2784.cell? ⟨g2681, 5, none⟩ = some (.int .i64 t2737.2.2.2.2.2.1) := blk_cellv (HS.out.at3) 5 rfl
          have hc2805 : w2784.cell? ⟨g2681, 6, none⟩ = some (.int .i64 t2737.2.2.2.2.2.2) := blk_cellv (HS.out.at3) 6 rfl
          refine bodyPost_ret (v := .tuple #[.agg #[.int .i64 t2737.1, .int .i64 t2737.2.1, .int .i64 t2737.2.2.1, .int .i64 t2737.2.2.2.1, .int .i64 t2737.2.2.2.2.1, .int .i64 t2737.2.2.2.2.2.1, .int .i64 t2737.2.2.2.2.2.2], .bool (t2737.2.2.2.2.2.1 == a2508)]) (by simp [results, Tryd.results79, go_sem, hc2799, hc2800, hc2801, hc2802, hc2803, hc2804, hc2805]) rfl ?_
          rw [← some_eq H]
          exact ⟨(by first | rfl | (simp [IntKind.wrap_u32]; done)), HS.out.sub (.cons_cons _ (.cons_cons _ (.cons_cons _ (.cons _ .slnil))))⟩
        · replace H := if_no c2783 H
          have c2783b0 : (t2737.1 == 2) = false := beq_eq_false_iff_ne.mpr c2783
          have c2783b1 : (t2737.1 != 2) = true := bne_iff_ne.mpr c2783
          clear c2783
          try simp only [c2783b0, c2783b1, Bool.not_true, Bool.not_false]
          refine pure_ (i := 10) (N := some 37) (v := undef) (a' := ?_) #[true, true, true, true, true, true, true, true, true, true, true, false, false, false, false, false, false] rfl rfl (by kernel_rfl) (fun _ _ _ h => h) (Or.inr ⟨by rfl, rfl⟩) ?_ ?_
          rotate_left
          · simp only [Act.put, List.setIfInBounds_toArray, List.set_cons_zero, List.set_cons_succ, i64_w, i32_w]
            rfl
          try simp only [c2783b0, c2783b1, Bool.not_true, Bool.not_false]
          refine pure_ (i := 11) (N := some 38) (v := undef) (a' := ?_) #[true, true, true, true, true, true, true, true, true, true, true, true, false, false, false, false, false] rfl rfl (by kernel_rfl) (fun _ _ _ h => h) (Or.inr ⟨by rfl, rfl⟩) ?_ ?_
          rotate_left
          · simp only [Act.put, List.setIfInBounds_toArray, List.set_cons_zero, List.set_cons_succ, i64_w, i32_w]
            rfl
          try simp only [c2783b0, c2783b1, Bool.not_true, Bool.not_false]
          refine pure_ (i := 12) (N := some 39) (v := undef) (a' := ?_) #[true, true, true, true, true, true, true, true, true, true, true, true, true, false, false, false, false] rfl rfl (by kernel_rfl) (fun _ _ _ h => h) (Or.inr ⟨by rfl, rfl⟩) ?_ ?_
          rotate_left
          · simp only [Act.put, List.setIfInBounds_toArray, List.set_cons_zero, List.set_cons_succ, i64_w, i32_w]
            rfl
          try simp only [c2783b0, c2783b1, Bool.not_true, Bool.not_false]
          refine pure_ (i := 13) (N := some 40) (v := undef) (a' := ?_) #[true, true, true, true, true, true, true, true, true, true, true, true, true, true, false, false, false] rfl rfl (by kernel_rfl) (fun _ _ _ h => h) (Or.inr ⟨by rfl, rfl⟩) ?_ ?_
          rotate_left
          · simp only [Act.put, List.setIfInBounds_toArray, List.set_cons_zero, List.set_cons_succ, i64_w, i32_w]
            rfl
          refine pure_ (i := 14) (N := some 41) (v := ?_) (a' := ?_) #[true, true, true, true, true, true, true, true, true, true, true, true, true, true, true, false, false] rfl rfl (by kernel_rfl) (fun _ _ _ h => h) (Or.inl ⟨by rfl, ?_⟩) ?_ ?_
          rotate_left
          · intro w'
            go_simp
            with_reducible rfl
          rotate_left
          · simp only [Act.put, List.setIfInBounds_toArray, List.set_cons_zero, List.set_cons_succ, i64_w, i32_w]
            rfl
          refine one_ (i := 15) (N := none) #[true, true, true, true, true, true, true, true, true, true, true, true, true, true, true, true, false] rfl rfl (by kernel_rfl) (by decide) (fun K hK => ?_)
          have hc2807 := blk_cellv (v := .int .i64 0) (HS.out.at3) 0 rfl
          have hz2808 := blk_fz (HS.out.at3) 0
          have hc2809 := blk_cellv (v := .int .i64 0) (HS.out.at3) 1 rfl
          have hz2810 := blk_fz (HS.out.at3) 1
          have hc2811 := blk_cellv (v := .int .i64 0) (HS.out.at3) 2 rfl
          have hz2812 := blk_fz (HS.out.at3) 2
          have hc2813 := blk_cellv (v := .int .i64 0) (HS.out.at3) 3 rfl
          have hz2814 := blk_fz (HS.out.at3) 3
          have hc2815 := blk_cellv (v := .int .i64 0) (HS.out.at3) 4 rfl
          have hz2816 := blk_fz (HS.out.at3) 4
          have hc2817 := blk_cellv (v := .int .i64 0) (HS.out.at3) 5 rfl
          have hz2818 := blk_fz (HS.out.at3) 5
          have hc2819 := blk_cellv (v := .int .i64 0) (HS.out.at3) 6 rfl
          have hz2820 := blk_fz (HS.out.at3) 6
          refine store_step (w1 := (World.setCell (World.setCell (World.setCell (World.setCell (World.setCell (World.setCell (World.setCell w2759 ⟨g2681, 0, none⟩ (.int .i64 t2737.1)) ⟨g2681, 1, none⟩ (.int .i64 t2737.2.1)) ⟨g2681, 2, none⟩ (.int .i64 t2737.2.2.1)) ⟨g2681, 3, none⟩ (.int .i64 t2737.2.2.2.1)) ⟨g2681, 4, none⟩ (.int .i64 t2737.2.2.2.2.1)) ⟨g2681, 5, none⟩ (.int .i64 t2737.2.2.2.2.2.1)) ⟨g2681, 6, none⟩ (.int .i64 t2737.2.2.2.2.2.2))) (by rfl) rfl ?hr ?_
          case hr => first | (go_simp; done) | (go_simp; rfl)
          clear hc2807 hz2808 hc2809 hz2810 hc2811 hz2812 hc2813 hz2814 hc2815 hz2816 hc2817 hz2818 hc2819 hz2820
          intro w2806 hst
          replace HS : Aside0 (Sep FF w [b7 g2493 g2495 a2503 a2504 a2505 a2506, b6 g2495 A2498 l2497.length n2500 t2734.2, r5 A2498 l2497.length n2500 l2497, b11 g2681 t2737.1 t2737.2.1 t2737.2.2.1 t2737.2.2.2.1 t2737.2.2.2.2.1 t2737.2.2.2.2.2.1 t2737.2.2.2.2.2.2, b11 g2740 t2737.1 t2737.2.1 t2737.2.2.1 t2737.2.2.2.1 t2737.2.2.2.2.1 t2737.2.2.2.2.2.1 t2737.2.2.2.2.2.2] w2806) := ⟨by rw [hst]; exact HS.out.setAll (l1 := [b7 g2493 g2495 a2503 a2504 a2505 a2506, b6 g2495 A2498 l2497.length n2500 t2734.2, r5 A2498 l2497.length n2500 l2497]) (l2 := [b11 g2740 t2737.1 t2737.2.1 t2737.2.2.1 t2737.2.2.2.1 t2737.2.2.2.2.1 t2737.2.2.2.2.2.1 t2737.2.2.2.2.2.2]) [.int .i64 t2737.1, .int .i64 t2737.2.1, .int .i64 t2737.2.2.1, .int .i64 t2737.2.2.2.1, .int .i64 t2737.2.2.2.2.1, .int .i64 t2737.2.2.2.2.2.1, .int .i64 t2737.2.2.2.2.2.2] rfl⟩
          clear hst
          refine hK.out _ _ (⟨blk_cellv (HS.out.at4) 0 rfl, blk_cellv (HS.out.at4) 1 rfl, blk_cellv (HS.out.at4) 2 rfl, blk_cellv (HS.out.at4) 3 rfl, blk_cellv (HS.out.at4) 4 rfl, blk_cellv (HS.out.at4) 5 rfl, blk_cellv (HS.out.at4) 6 rfl⟩) (fun hHeld => ?_)
          clear hK K
          refine pure_ (i := 16) (N := some 7) (v := ?_) (a' := ?_) #[true, true, true, true, true, true, true, true, true, true, true, true, true, true, true, true, true] rfl rfl (by kernel_rfl) (fun _ _ _ h => h) (Or.inl ⟨by rfl, ?_⟩) ?_ ?_
          rotate_left
          · intro w'
            go_simp
            with_reducible rfl
          rotate_left
          · simp only [Act.put, List.setIfInBounds_toArray, List.set_cons_zero, List.set_cons_succ, i64_w, i32_w]
            rfl
          refine done_ (by kernel_rfl) ?_
          replace HS : Aside0 (Sep FF w [b7 g2493 g2495 a2503 a2504 a2505 a2506, b6 g2495 A2498 l2497.length n2500 t2734.2, r5 A2498 l2497.length n2500 l2497, b11 g2681 t2737.1 t2737.2.1 t2737.2.2.1 t2737.2.2.2.1 t2737.2.2.2.2.1 t2737.2.2.2.2.2.1 t2737.2.2.2.2.2.2] w2806) := ⟨HS.out.sub (.cons_cons _ (.cons_cons _ (.cons_cons _ (.cons_cons _ (.cons _ .slnil)))))⟩
          go_wp2_with fail
          have hc2821 : w2806.cell? ⟨g2681, 0, none⟩ = some (.int .i64 t2737.1) := blk_cellv (HS.out.at3) 0 rfl
          have hc2822 : w2806.cell? ⟨g2681, 1, none⟩ = some (.int .i64 t2737.2.1) := blk_cellv (HS.out.at3) 1 rfl
          have hc2823 : w2806.cell? ⟨g2681, 2, none⟩ = some (.int .i64 t2737.2.2.1) := blk_cellv (HS.out.at3) 2 rfl
          have hc2824 : w2806.cell? ⟨g2681, 3, none⟩ = some (.int .i64 t2737.2.2.2.1) := blk_cellv (HS.out.at3) 3 rfl
          have hc2825 : w2806.cell? ⟨g2681, 4, none⟩ = some (.int .i64 t2737.2.2.2.2.1) := blk_cellv (HS.out.at3) 4 rfl
          have hc2826 : w2806.cell? ⟨g2681, 5, none⟩ = some (.int .i64 t2737.2.2.2.2.2.1) := blk_cellv (HS.out.at3) 5 rfl
          have hc2827 : w2806.cell? ⟨g2681, 6, none⟩ = some (.int .i64 t2737.2.2.2.2.2.2) := blk_cellv (HS.out.at3) 6 rfl
          refine bodyPost_ret (v := .tuple #[.agg #[.int .i64 t2737.1, .int .i64 t2737.2.1, .int .i64 t2737.2.2.1, .int .i64 t2737.2.2.2.1, .int .i64 t2737.2.2.2.2.1, .int .i64 t2737.2.2.2.2.2.1, .int .i64 t2737.2.2.2.2.2.2], .bool false]) (by simp [results, Tryd.results79, go_sem, hc2821, hc2822, hc2823, hc2824, hc2825, hc2826, hc2827]) rfl ?_
          rw [← some_eq H]
          exact ⟨(by first | rfl | (simp [IntKind.wrap_u32]; done)), HS.out.sub (.cons_cons _ (.cons_cons _ (.cons_cons _ (.cons _ .slnil))))⟩

set_option maxHeartbeats 30000000 in
set_option maxRecDepth 100000 in
theorem ring_mark.calls (k : Nat) (l2862 : List Int) (a2867 : Int) (a2868 : Int) (a2869 : Int) (a2870 : Int) (a2871 : Int) (a2872 : Int) (a2873 : Int) (a2874 : Int) (a2875 : Int) (a2876 : Int) (a2877 : Int) (a2878 : Int) (a2879 : Int) (a2880 : Int) (g2858 : Nat) (g2860 : Nat) (A2863 : Option Addr) (m2864 : Nat) (n2865 : Nat) (r : Int × List Int) (w : World)  (HGl0 : Aside0 (Gl 0 #[.int .i64 0, .int .i64 0, .int .i64 0, .int .i64 0, .int .i64 0] (fps [b7 g2858 g2860 a2868 a2869 a2870 a2871, b6 g2860 A2863 m2864 n2865 a2867, r5 A2863 m2864 n2865 l2862]) w)) (HS : Aside0 (Sep (fps [b7 g2858 g2860 a2868 a2869 a2870 a2871, b6 g2860 A2863 m2864 n2865 a2867, r5 A2863 m2864 n2865 l2862]) w [b7 g2858 g2860 a2868 a2869 a2870 a2871, b6 g2860 A2863 m2864 n2865 a2867, r5 A2863 m2864 n2865 l2862] w)) (H : Aside0 (ring_mark.f k l2862 a2867 a2868 a2869 a2870 a2871 a2872 a2873 a2874 a2875 a2876 a2877 a2878 a2879 a2880 = some r)) :
    Calls Tryd.prog 80 #[.pointer (some ⟨g2858, 0, none⟩), .int .i64 a2872, .agg #[.int .i64 a2873, .int .i64 a2874, .int .i64 a2875, .int .i64 a2876, .int .i64 a2877, .int .i64 a2878, .int .i64 a2879], .int .i64 a2880] w fun e w' => e = .returned (.tuple #[]) ∧ Sep (fps [b7 g2858 g2860 a2868 a2869 a2870 a2871, b6 g2860 A2863 m2864 n2865 a2867, r5 A2863 m2864 n2865 l2862]) w [b7 g2858 g2860 a2868 a2869 a2870 a2871, b6 g2860 A2863 m2864 n2865 r.1, r5 A2863 m2864 n2865 r.2] w' := by
  generalize (fps [b7 g2858 g2860 a2868 a2869 a2870 a2871, b6 g2860 A2863 m2864 n2865 a2867, r5 A2863 m2864 n2865 l2862]) = FF at HS HGl0 ⊢
  obtain rfl := (row_len (HS.out.at2)).symm
  unfold ring_mark.f at H
  go_enter Tryd.func80, Tryd.ntmps80
  go_wp2_with (first | ((with_reducible refine gate_dst (N := 6) rfl ?_); refine box_on ?hg (N := 6) ?hd (cs := #[.int .i64 a2873, .int .i64 a2874, .int .i64 a2875, .int .i64 a2876, .int .i64 a2877, .int .i64 a2878, .int .i64 a2879]) (t := 32) ?hr ?_; (case hd => rfl); (case hg => rfl); (case hr => first | (go_simp; done) | (go_simp; rfl)); intro g2901 hg w2902 hbox hb; replace HS : Aside0 (Sep FF w [b7 g2858 g2860 a2868 a2869 a2870 a2871, b6 g2860 A2863 l2862.length n2865 a2867, r5 A2863 l2862.length n2865 l2862, b11 g2901 a2873 a2874 a2875 a2876 a2877 a2878 a2879] w2902) := ⟨HS.out.box hg hbox hb⟩; clear hg hbox hb; have hc2904 : w2902.cell? ⟨g2901, 5, none⟩ = some (.int .i64 a2878) := blk_cellv (HS.out.at3) 5 rfl; have hz2905 : w2902.frozen? ⟨g2901, 5, none⟩ = false := blk_fz (HS.out.at3) 5) | ((with_reducible refine gate_store (t := 3) (p := 11) rfl ?_); refine store_event (w1 := (World.setCell w2902 ⟨g2901, 5, none⟩ (.int .i64 a2880))) rfl (t := 3) (p := 11) rfl rfl ?hr ?_; (case hr => first | (go_simp; done) | (go_simp; rfl)); intro w2906 hst; clear hc2904 hz2905; have hq0 : Sep FF w [b7 g2858 g2860 a2868 a2869 a2870 a2871, b6 g2860 A2863 l2862.length n2865 a2867, r5 A2863 l2862.length n2865 l2862, b11 g2901 a2873 a2874 a2875 a2876 a2877 a2880 a2879] (World.setCell w2902 ⟨g2901, 5, none⟩ (.int .i64 a2880)) := (HS.out).set1 (l1 := [b7 g2858 g2860 a2868 a2869 a2870 a2871, b6 g2860 A2863 l2862.length n2865 a2867, r5 A2863 l2862.length n2865 l2862]) (l2 := []) 5 (.int .i64 a2880); replace HS : Aside0 (Sep FF w [b7 g2858 g2860 a2868 a2869 a2870 a2871, b6 g2860 A2863 l2862.length n2865 a2867, r5 A2863 l2862.length n2865 l2862, b11 g2901 a2873 a2874 a2875 a2876 a2877 a2880 a2879] w2906) := ⟨by rw [hst]; exact hq0⟩; clear hq0; clear hst; have hc2907 : w2906.cell? ⟨g2901, 0, none⟩ = some (.int .i64 a2873) := blk_cellv (HS.out.at3) 0 rfl; have hc2908 : w2906.cell? ⟨g2901, 1, none⟩ = some (.int .i64 a2874) := blk_cellv (HS.out.at3) 1 rfl; have hc2909 : w2906.cell? ⟨g2901, 2, none⟩ = some (.int .i64 a2875) := blk_cellv (HS.out.at3) 2 rfl; have hc2910 : w2906.cell? ⟨g2901, 3, none⟩ = some (.int .i64 a2876) := blk_cellv (HS.out.at3) 3 rfl; have hc2911 : w2906.cell? ⟨g2901, 4, none⟩ = some (.int .i64 a2877) := blk_cellv (HS.out.at3) 4 rfl; have hc2912 : w2906.cell? ⟨g2901, 5, none⟩ = some (.int .i64 a2880) := blk_cellv (HS.out.at3) 5 rfl; have hc2913 : w2906.cell? ⟨g2901, 6, none⟩ = some (.int .i64 a2879) := blk_cellv (HS.out.at3) 6 rfl))
  clear hc2907 hc2908 hc2909 hc2910 hc2911 hc2912 hc2913
  obtain ⟨t2914, HA2915, H⟩ := bind_some H
  refine (tag_Pack.calls _ a2873 a2874 a2875 a2876 a2877 a2880 a2879 t2914 _ ⟨HGl0.out.pass (l := []) HS.out⟩ ⟨Sep.start _⟩ HA2915).mono ?_
  rintro e_ w2916 ⟨rfl, hS⟩
  replace HS : Aside0 (Sep FF w [b7 g2858 g2860 a2868 a2869 a2870 a2871, b6 g2860 A2863 l2862.length n2865 a2867, r5 A2863 l2862.length n2865 l2862, b11 g2901 a2873 a2874 a2875 a2876 a2877 a2880 a2879] w2916) := ⟨HS.out.call hS⟩
  clear hS
  by_cases c2917 : t2914.2 = 0
  · replace H := if_yes c2917 H
    have c2917b0 : (t2914.2 == 0) = true := beq_iff_eq.mpr c2917
    have c2917b1 : (t2914.2 != 0) = false := bne_eq_false_iff_eq.mpr c2917
    clear c2917
    replace HS : Aside0 (Sep FF w [b7 g2858 g2860 a2868 a2869 a2870 a2871, b6 g2860 A2863 l2862.length n2865 a2867, r5 A2863 l2862.length n2865 l2862] w2916) := ⟨HS.out.sub (.cons_cons _ (.cons_cons _ (.cons_cons _ (.cons _ .slnil))))⟩
    go_wp2_with fail
    obtain ⟨t2918, HA2919, H⟩ := bind_some H
    refine (ground_Ground_SetWord.calls l2862 a2867 a2868 a2869 a2870 a2871 a2872 0 t2914.1 g2858 g2860 A2863 l2862.length n2865 t2918 _ ⟨HGl0.out.pass HS.out⟩ ⟨HS.out.begin⟩ HA2919).mono ?_
    rintro e_ w2920 ⟨rfl, hS⟩
    replace HS : Aside0 (Sep FF w [b7 g2858 g2860 a2868 a2869 a2870 a2871, b6 g2860 A2863 l2862.length n2865 t2918.2.1, r5 A2863 l2862.length n2865 t2918.2.2] w2920) := ⟨HS.out.call hS⟩
    clear hS
    go_wp2_with fail
    first | go_end0 | refine bodyPost_ret (results_none rfl _ _ _) rfl ?_
    rw [← some_eq H]
    exact ⟨rfl, HS.out⟩
  · replace H := if_no c2917 H
    have c2917b0 : (t2914.2 == 0) = false := beq_eq_false_iff_ne.mpr c2917
    have c2917b1 : (t2914.2 != 0) = true := bne_iff_ne.mpr c2917
    clear c2917
    replace HS : Aside0 (Sep FF w [b7 g2858 g2860 a2868 a2869 a2870 a2871, b6 g2860 A2863 l2862.length n2865 a2867, r5 A2863 l2862.length n2865 l2862] w2916) := ⟨HS.out.sub (.cons_cons _ (.cons_cons _ (.cons_cons _ (.cons _ .slnil))))⟩
    go_wp2_with fail
    first | go_end0 | refine bodyPost_ret (results_none rfl _ _ _) rfl ?_
    rw [← some_eq H]
    exact ⟨rfl, HS.out⟩

set_option maxHeartbeats 30000000 in
set_option maxRecDepth 100000 in
theorem ring_link.calls (l2938 : List Int) (a2943 : Int) (a2944 : Int) (a2945 : Int) (a2946 : Int) (a2947 : Int) (a2948 : Int) (a2949 : Int) (a2950 : Int) (a2951 : Int) (g2934 : Nat) (g2936 : Nat) (A2939 : Option Addr) (m2940 : Nat) (n2941 : Nat) (r : Int × List Int) (w : World)  (HGl0 : Aside0 (Gl 0 #[.int .i64 0, .int .i64 0, .int .i64 0, .int .i64 0, .int .i64 0] (fps [b7 g2934 g2936 a2944 a2945 a2946 a2947, b6 g2936 A2939 m2940 n2941 a2943, r5 A2939 m2940 n2941 l2938]) w)) (HS : Aside0 (Sep (fps [b7 g2934 g2936 a2944 a2945 a2946 a2947, b6 g2936 A2939 m2940 n2941 a2943, r5 A2939 m2940 n2941 l2938]) w [b7 g2934 g2936 a2944 a2945 a2946 a2947, b6 g2936 A2939 m2940 n2941 a2943, r5 A2939 m2940 n2941 l2938] w)) (H : Aside0 (ring_link.f l2938 a2943 a2944 a2945 a2946 a2947 a2948 a2949 a2950 a2951 = some r)) :
    Calls Tryd.prog 82 #[.pointer (some ⟨g2934, 0, none⟩), .int .i64 a2948, .int .i64 a2949, .int .i64 a2950, .int .i64 a2951] w fun e w' => e = .returned (.tuple #[]) ∧ Sep (fps [b7 g2934 g2936 a2944 a2945 a2946 a2947, b6 g2936 A2939 m2940 n2941 a2943, r5 A2939 m2940 n2941 l2938]) w [b7 g2934 g2936 a2944 a2945 a2946 a2947, b6 g2936 A2939 m2940 n2941 r.1, r5 A2939 m2940 n2941 r.2] w' := by
  generalize (fps [b7 g2934 g2936 a2944 a2945 a2946 a2947, b6 g2936 A2939 m2940 n2941 a2943, r5 A2939 m2940 n2941 l2938]) = FF at HS HGl0 ⊢
  obtain rfl := (row_len (HS.out.at2)).symm
  unfold ring_link.f at H
  go_enter Tryd.func82, Tryd.ntmps82
  by_cases c2956 : a2948 = 0
  · replace H := if_yes c2956 H
    have c2956b0 : (a2948 == 0) = true := beq_iff_eq.mpr c2956
    have c2956b1 : (a2948 != 0) = false := bne_eq_false_iff_eq.mpr c2956
    clear c2956
    go_wp2_with fail
    obtain ⟨t2957, HA2958, H⟩ := bind_some H
    refine (ground_Ground_SetReg.calls l2938 a2943 a2944 a2945 a2946 a2947 a2950 a2951 g2934 g2936 A2939 l2938.length n2941 t2957 _ ⟨HGl0.out.pass HS.out⟩ ⟨HS.out.begin⟩ HA2958).mono ?_
    rintro e_ w2959 ⟨rfl, hS⟩
    replace HS : Aside0 (Sep FF w [b7 g2934 g2936 a2944 a2945 a2946 a2947, b6 g2936 A2939 l2938.length n2941 t2957.2.1, r5 A2939 l2938.length n2941 t2957.2.2] w2959) := ⟨HS.out.call hS⟩
    clear hS
    go_wp2_with fail
    first | go_end0 | refine bodyPost_ret (results_none rfl _ _ _) rfl ?_
    rw [← some_eq H]
    exact ⟨rfl, HS.out⟩
  · replace H := if_no c2956 H
    have c2956b0 : (a2948 == 0) = false := beq_eq_false_iff_ne.mpr c2956
    have c2956b1 : (a2948 != 0) = true := bne_iff_ne.mpr c2956
    clear c2956
    go_wp2_with fail
    obtain ⟨t2960, HA2961, H⟩ := bind_some H
    refine (ground_Ground_SetWord.calls l2938 a2943 a2944 a2945 a2946 a2947 (wrap64 (a2948 - 1)) a2949 ((a2951) % 4294967296) g2934 g2936 A2939 l2938.length n2941 t2960 _ ⟨HGl0.out.pass HS.out⟩ ⟨HS.out.begin⟩ HA2961).mono ?_
    rintro e_ w2962 ⟨rfl, hS⟩
    replace HS : Aside0 (Sep FF w [b7 g2934 g2936 a2944 a2945 a2946 a2947, b6 g2936 A2939 l2938.length n2941 t2960.2.1, r5 A2939 l2938.length n2941 t2960.2.2] w2962) := ⟨HS.out.call hS⟩
    clear hS
    go_wp2_with fail
    first | go_end0 | refine bodyPost_ret (results_none rfl _ _ _) rfl ?_
    rw [← some_eq H]
    exact ⟨rfl, HS.out⟩

set_option maxHeartbeats 30000000 in
set_option maxRecDepth 100000 in
theorem ring_Add.calls (k : Nat) (l2481 : List Int) (a2486 : Int) (a2487 : Int) (a2488 : Int) (a2489 : Int) (a2490 : Int) (a2491 : Int) (g2477 : Nat) (g2479 : Nat) (A2482 : Option Addr) (m2483 : Nat) (n2484 : Nat) (r : Bool × Int × List Int) (w : World)  (HGl0 : Aside0 (Gl 0 #[.int .i64 0, .int .i64 0, .int .i64 0, .int .i64 0, .int .i64 0] (fps [b7 g2477 g2479 a2487 a2488 a2489 a2490, b6 g2479 A2482 m2483 n2484 a2486, r5 A2482 m2483 n2484 l2481]) w)) (HS : Aside0 (Sep (fps [b7 g2477 g2479 a2487 a2488 a2489 a2490, b6 g2479 A2482 m2483 n2484 a2486, r5 A2482 m2483 n2484 l2481]) w [b7 g2477 g2479 a2487 a2488 a2489 a2490, b6 g2479 A2482 m2483 n2484 a2486, r5 A2482 m2483 n2484 l2481] w)) (H : Aside0 (ring_Add.f k l2481 a2486 a2487 a2488 a2489 a2490 a2491 = some r)) :
    Calls Tryd.prog 23 #[.pointer (some ⟨g2477, 0, none⟩), .int .i64 a2491] w fun e w' => e = .returned (.bool r.1) ∧ Sep (fps [b7 g2477 g2479 a2487 a2488 a2489 a2490, b6 g2479 A2482 m2483 n2484 a2486, r5 A2482 m2483 n2484 l2481]) w [b7 g2477 g2479 a2487 a2488 a2489 a2490, b6 g2479 A2482 m2483 n2484 r.2.1, r5 A2482 m2483 n2484 r.2.2] w' := by
  generalize (fps [b7 g2477 g2479 a2487 a2488 a2489 a2490, b6 g2479 A2482 m2483 n2484 a2486, r5 A2482 m2483 n2484 l2481]) = FF at HS HGl0 ⊢
  obtain rfl := (row_len (HS.out.at2)).symm
  unfold ring_Add.f at H
  go_enter Tryd.func23, Tryd.ntmps23
  go_wp2_with fail
  obtain ⟨t2975, HA2976, H⟩ := bind_some H
  refine (ring_marked.calls l2481 a2486 a2487 a2488 a2489 a2490 a2491 0 g2477 g2479 A2482 l2481.length n2484 t2975 _ ⟨HGl0.out.pass HS.out⟩ ⟨HS.out.begin⟩ HA2976).mono ?_
  rintro e_ w2977 ⟨rfl, hS⟩
  replace HS : Aside0 (Sep FF w [b7 g2477 g2479 a2487 a2488 a2489 a2490, b6 g2479 A2482 l2481.length n2484 t2975.2.2.2.2.2.2.2.2, r5 A2482 l2481.length n2484 l2481] w2977) := ⟨HS.out.call hS⟩
  clear hS
  by_cases c2996 : t2975.2.2.2.2.2.2.2.1 = true
  · replace H := if_yes c2996 H
    have c2996b0 : t2975.2.2.2.2.2.2.2.1 = true := c2996
    have c2996b1 : (!t2975.2.2.2.2.2.2.2.1) = false := by rw [c2996b0]; rfl
    try rw [c2996b1]
    clear c2996
    go_wp2_with (first | ((with_reducible refine gate_dst (N := 5) rfl ?_); refine box_on ?hg (N := 5) ?hd (cs := #[.int .i64 0, .int .i64 0, .int .i64 0, .int .i64 0, .int .i64 0, .int .i64 0, .int .i64 0]) (t := 32) ?hr ?_; (case hd => rfl); (case hg => rfl); (case hr => first | (go_simp; done) | (go_simp; rfl)); intro g2978 hg w2979 hbox hb; replace HS : Aside0 (Sep FF w [b7 g2477 g2479 a2487 a2488 a2489 a2490, b6 g2479 A2482 l2481.length n2484 t2975.2.2.2.2.2.2.2.2, r5 A2482 l2481.length n2484 l2481, b11 g2978 0 0 0 0 0 0 0] w2979) := ⟨HS.out.box hg hbox hb⟩; clear hg hbox hb; have hc2981 : w2979.cell? ⟨g2978, 0, none⟩ = some (.int .i64 0) := blk_cellv (HS.out.at3) 0 rfl; have hz2982 : w2979.frozen? ⟨g2978, 0, none⟩ = false := blk_fz (HS.out.at3) 0; have hc2983 : w2979.cell? ⟨g2978, 1, none⟩ = some (.int .i64 0) := blk_cellv (HS.out.at3) 1 rfl; have hz2984 : w2979.frozen? ⟨g2978, 1, none⟩ = false := blk_fz (HS.out.at3) 1; have hc2985 : w2979.cell? ⟨g2978, 2, none⟩ = some (.int .i64 0) := blk_cellv (HS.out.at3) 2 rfl; have hz2986 : w2979.frozen? ⟨g2978, 2, none⟩ = false := blk_fz (HS.out.at3) 2; have hc2987 : w2979.cell? ⟨g2978, 3, none⟩ = some (.int .i64 0) := blk_cellv (HS.out.at3) 3 rfl; have hz2988 : w2979.frozen? ⟨g2978, 3, none⟩ = false := blk_fz (HS.out.at3) 3; have hc2989 : w2979.cell? ⟨g2978, 4, none⟩ = some (.int .i64 0) := blk_cellv (HS.out.at3) 4 rfl; have hz2990 : w2979.frozen? ⟨g2978, 4, none⟩ = false := blk_fz (HS.out.at3) 4; have hc2991 : w2979.cell? ⟨g2978, 5, none⟩ = some (.int .i64 0) := blk_cellv (HS.out.at3) 5 rfl; have hz2992 : w2979.frozen? ⟨g2978, 5, none⟩ = false := blk_fz (HS.out.at3) 5; have hc2993 : w2979.cell? ⟨g2978, 6, none⟩ = some (.int .i64 0) := blk_cellv (HS.out.at3) 6 rfl; have hz2994 : w2979.frozen? ⟨g2978, 6, none⟩ = false := blk_fz (HS.out.at3) 6) | ((with_reducible refine gate_store (t := 32) (p := 5) rfl ?_); refine store_event (w1 := (World.setCell (World.setCell (World.setCell (World.setCell (World.setCell (World.setCell (World.setCell w2979 ⟨g2978, 0, none⟩ (.int .i64 t2975.1)) ⟨g2978, 1, none⟩ (.int .i64 t2975.2.1)) ⟨g2978, 2, none⟩ (.int .i64 t2975.2.2.1)) ⟨g2978, 3, none⟩ (.int .i64 t2975.2.2.2.1)) ⟨g2978, 4, none⟩ (.int .i64 t2975.2.2.2.2.1)) ⟨g2978, 5, none⟩ (.int .i64 t2975.2.2.2.2.2.1)) ⟨g2978, 6, none⟩ (.int .i64 t2975.2.2.2.2.2.2.1))) rfl (t := 32) (p := 5) rfl rfl ?hr ?_; (case hr => first | (go_simp; done) | (go_simp; rfl)); intro w2995 hst; clear hc2981 hz2982 hc2983 hz2984 hc2985 hz2986 hc2987 hz2988 hc2989 hz2990 hc2991 hz2992 hc2993 hz2994; replace HS : Aside0 (Sep FF w [b7 g2477 g2479 a2487 a2488 a2489 a2490, b6 g2479 A2482 l2481.length n2484 t2975.2.2.2.2.2.2.2.2, r5 A2482 l2481.length n2484 l2481, b11 g2978 t2975.1 t2975.2.1 t2975.2.2.1 t2975.2.2.2.1 t2975.2.2.2.2.1 t2975.2.2.2.2.2.1 t2975.2.2.2.2.2.2.1] w2995) := ⟨by rw [hst]; exact HS.out.setAll (l1 := [b7 g2477 g2479 a2487 a2488 a2489 a2490, b6 g2479 A2482 l2481.length n2484 t2975.2.2.2.2.2.2.2.2, r5 A2482 l2481.length n2484 l2481]) (l2 := []) [.int .i64 t2975.1, .int .i64 t2975.2.1, .int .i64 t2975.2.2.1, .int .i64 t2975.2.2.2.1, .int .i64 t2975.2.2.2.2.1, .int .i64 t2975.2.2.2.2.2.1, .int .i64 t2975.2.2.2.2.2.2.1] rfl⟩; clear hst; have hc2997 : w2995.cell? ⟨g2978, 0, none⟩ = some (.int .i64 t2975.1) := blk_cellv (HS.out.at3) 0 rfl; have hc2998 : w2995.cell? ⟨g2978, 1, none⟩ = some (.int .i64 t2975.2.1) := blk_cellv (HS.out.at3) 1 rfl; have hc2999 : w2995.cell? ⟨g2978, 2, none⟩ = some (.int .i64 t2975.2.2.1) := blk_cellv (HS.out.at3) 2 rfl; have hc3000 : w2995.cell? ⟨g2978, 3, none⟩ = some (.int .i64 t2975.2.2.2.1) := blk_cellv (HS.out.at3) 3 rfl; have hc3001 : w2995.cell? ⟨g2978, 4, none⟩ = some (.int .i64 t2975.2.2.2.2.1) := blk_cellv (HS.out.at3) 4 rfl; have hc3002 : w2995.cell? ⟨g2978, 5, none⟩ = some (.int .i64 t2975.2.2.2.2.2.1) := blk_cellv (HS.out.at3) 5 rfl; have hc3003 : w2995.cell? ⟨g2978, 6, none⟩ = some (.int .i64 t2975.2.2.2.2.2.2.1) := blk_cellv (HS.out.at3) 6 rfl))
    clear hc2997 hc2998 hc2999 hc3000 hc3001 hc3002 hc3003
    obtain ⟨t3004, HA3005, H⟩ := bind_some H
    refine (ring_mark.calls _ l2481 t2975.2.2.2.2.2.2.2.2 a2487 a2488 a2489 a2490 a2491 t2975.1 t2975.2.1 t2975.2.2.1 t2975.2.2.2.1 t2975.2.2.2.2.1 t2975.2.2.2.2.2.1 t2975.2.2.2.2.2.2.1 1 g2477 g2479 A2482 l2481.length n2484 t3004 _ ⟨HGl0.out.pass HS.out⟩ ⟨HS.out.begin⟩ HA3005).mono ?_
    rintro e_ w3006 ⟨rfl, hS⟩
    replace HS : Aside0 (Sep FF w [b7 g2477 g2479 a2487 a2488 a2489 a2490, b6 g2479 A2482 l2481.length n2484 t3004.1, r5 A2482 l2481.length n2484 t3004.2, b11 g2978 t2975.1 t2975.2.1 t2975.2.2.1 t2975.2.2.2.1 t2975.2.2.2.2.1 t2975.2.2.2.2.2.1 t2975.2.2.2.2.2.2.1] w3006) := ⟨HS.out.call hS⟩
    clear hS
    replace HS : Aside0 (Sep FF w [b7 g2477 g2479 a2487 a2488 a2489 a2490, b6 g2479 A2482 l2481.length n2484 t3004.1, r5 A2482 l2481.length n2484 t3004.2] w3006) := ⟨HS.out.sub (.cons_cons _ (.cons_cons _ (.cons_cons _ (.cons _ .slnil))))⟩
    go_wp2_with fail
    obtain ⟨t3007, HA3008, H⟩ := bind_some H
    refine (ground_Ground_Reg.calls t3004.2 t3004.1 a2487 a2488 a2489 a2490 8 g2477 g2479 A2482 l2481.length n2484 t3007 _ ⟨HGl0.out.pass HS.out⟩ ⟨HS.out.begin⟩ HA3008).mono ?_
    rintro e_ w3009 ⟨rfl, hS⟩
    replace HS : Aside0 (Sep FF w [b7 g2477 g2479 a2487 a2488 a2489 a2490, b6 g2479 A2482 l2481.length n2484 t3007.2, r5 A2482 l2481.length n2484 t3004.2] w3009) := ⟨HS.out.call hS⟩
    clear hS
    go_wp2_with fail
    obtain ⟨t3010, HA3011, H⟩ := bind_some H
    refine (ground_Ground_SetWord.calls t3004.2 t3007.2 a2487 a2488 a2489 a2490 a2491 6 ((t3007.1) % 4294967296) g2477 g2479 A2482 l2481.length n2484 t3010 _ ⟨HGl0.out.pass HS.out⟩ ⟨HS.out.begin⟩ HA3011).mono ?_
    rintro e_ w3012 ⟨rfl, hS⟩
    replace HS : Aside0 (Sep FF w [b7 g2477 g2479 a2487 a2488 a2489 a2490, b6 g2479 A2482 l2481.length n2484 t3010.2.1, r5 A2482 l2481.length n2484 t3010.2.2] w3012) := ⟨HS.out.call hS⟩
    clear hS
    go_wp2_with fail
    obtain ⟨t3013, HA3014, H⟩ := bind_some H
    refine (ground_Ground_SetWord.calls t3010.2.2 t3010.2.1 a2487 a2488 a2489 a2490 a2491 7 0 g2477 g2479 A2482 l2481.length n2484 t3013 _ ⟨HGl0.out.pass HS.out⟩ ⟨HS.out.begin⟩ HA3014).mono ?_
    rintro e_ w3015 ⟨rfl, hS⟩
    replace HS : Aside0 (Sep FF w [b7 g2477 g2479 a2487 a2488 a2489 a2490, b6 g2479 A2482 l2481.length n2484 t3013.2.1, r5 A2482 l2481.length n2484 t3013.2.2] w3015) := ⟨HS.out.call hS⟩
    clear hS
    go_wp2_with fail
    obtain ⟨t3016, HA3017, H⟩ := bind_some H
    refine (ring_link.calls t3013.2.2 t3013.2.1 a2487 a2488 a2489 a2490 t3007.1 7 7 (wrap64 (a2491 + 1)) g2477 g2479 A2482 l2481.length n2484 t3016 _ ⟨HGl0.out.pass HS.out⟩ ⟨HS.out.begin⟩ HA3017).mono ?_
    rintro e_ w3018 ⟨rfl, hS⟩
    replace HS : Aside0 (Sep FF w [b7 g2477 g2479 a2487 a2488 a2489 a2490, b6 g2479 A2482 l2481.length n2484 t3016.1, r5 A2482 l2481.length n2484 t3016.2] w3018) := ⟨HS.out.call hS⟩
    clear hS
    go_wp2_with fail
    obtain ⟨t3019, HA3020, H⟩ := bind_some H
    refine (ground_Ground_SetReg.calls t3016.2 t3016.1 a2487 a2488 a2489 a2490 8 (wrap64 (a2491 + 1)) g2477 g2479 A2482 l2481.length n2484 t3019 _ ⟨HGl0.out.pass HS.out⟩ ⟨HS.out.begin⟩ HA3020).mono ?_
    rintro e_ w3021 ⟨rfl, hS⟩
    replace HS : Aside0 (Sep FF w [b7 g2477 g2479 a2487 a2488 a2489 a2490, b6 g2479 A2482 l2481.length n2484 t3019.2.1, r5 A2482 l2481.length n2484 t3019.2.2] w3021) := ⟨HS.out.call hS⟩
    clear hS
    go_wp2_with fail
    obtain ⟨t3022, HA3023, H⟩ := bind_some H
    refine (ground_Ground_Reg.calls t3019.2.2 t3019.2.1 a2487 a2488 a2489 a2490 9 g2477 g2479 A2482 l2481.length n2484 t3022 _ ⟨HGl0.out.pass HS.out⟩ ⟨HS.out.begin⟩ HA3023).mono ?_
    rintro e_ w3024 ⟨rfl, hS⟩
    replace HS : Aside0 (Sep FF w [b7 g2477 g2479 a2487 a2488 a2489 a2490, b6 g2479 A2482 l2481.length n2484 t3022.2, r5 A2482 l2481.length n2484 t3019.2.2] w3024) := ⟨HS.out.call hS⟩
    clear hS
    go_wp2_with fail
    obtain ⟨t3025, HA3026, H⟩ := bind_some H
    refine (ground_Ground_SetReg.calls t3019.2.2 t3022.2 a2487 a2488 a2489 a2490 9 (wrap64 (t3022.1 + 1)) g2477 g2479 A2482 l2481.length n2484 t3025 _ ⟨HGl0.out.pass HS.out⟩ ⟨HS.out.begin⟩ HA3026).mono ?_
    rintro e_ w3027 ⟨rfl, hS⟩
    replace HS : Aside0 (Sep FF w [b7 g2477 g2479 a2487 a2488 a2489 a2490, b6 g2479 A2482 l2481.length n2484 t3025.2.1, r5 A2482 l2481.length n2484 t3025.2.2] w3027) := ⟨HS.out.call hS⟩
    clear hS
    go_wp2_with fail
    go_ret
    rw [← some_eq H]
    exact ⟨(by first | rfl | (simp [IntKind.wrap_u32]; done)), HS.out⟩
  · replace H := if_no c2996 H
    have c2996b0 : t2975.2.2.2.2.2.2.2.1 = false := by simpa using c2996
    have c2996b1 : (!t2975.2.2.2.2.2.2.2.1) = true := by rw [c2996b0]; rfl
    try rw [c2996b1]
    clear c2996
    go_wp2_with (first | ((with_reducible refine gate_dst (N := 5) rfl ?_); refine box_on ?hg (N := 5) ?hd (cs := #[.int .i64 0, .int .i64 0, .int .i64 0, .int .i64 0, .int .i64 0, .int .i64 0, .int .i64 0]) (t := 32) ?hr ?_; (case hd => rfl); (case hg => rfl); (case hr => first | (go_simp; done) | (go_simp; rfl)); intro g2978 hg w2979 hbox hb; replace HS : Aside0 (Sep FF w [b7 g2477 g2479 a2487 a2488 a2489 a2490, b6 g2479 A2482 l2481.length n2484 t2975.2.2.2.2.2.2.2.2, r5 A2482 l2481.length n2484 l2481, b11 g2978 0 0 0 0 0 0 0] w2979) := ⟨HS.out.box hg hbox hb⟩; clear hg hbox hb; have hc2981 : w2979.cell? ⟨g2978, 0, none⟩ = some (.int .i64 0) := blk_cellv (HS.out.at3) 0 rfl; have hz2982 : w2979.frozen? ⟨g2978, 0, none⟩ = false := blk_fz (HS.out.at3) 0; have hc2983 : w2979.cell? ⟨g2978, 1, none⟩ = some (.int .i64 0) := blk_cellv (HS.out.at3) 1 rfl; have hz2984 : w2979.frozen? ⟨g2978, 1, none⟩ = false := blk_fz (HS.out.at3) 1; have hc2985 : w2979.cell? ⟨g2978, 2, none⟩ = some (.int .i64 0) := blk_cellv (HS.out.at3) 2 rfl; have hz2986 : w2979.frozen? ⟨g2978, 2, none⟩ = false := blk_fz (HS.out.at3) 2; have hc2987 : w2979.cell? ⟨g2978, 3, none⟩ = some (.int .i64 0) := blk_cellv (HS.out.at3) 3 rfl; have hz2988 : w2979.frozen? ⟨g2978, 3, none⟩ = false := blk_fz (HS.out.at3) 3; have hc2989 : w2979.cell? ⟨g2978, 4, none⟩ = some (.int .i64 0) := blk_cellv (HS.out.at3) 4 rfl; have hz2990 : w2979.frozen? ⟨g2978, 4, none⟩ = false := blk_fz (HS.out.at3) 4; have hc2991 : w2979.cell? ⟨g2978, 5, none⟩ = some (.int .i64 0) := blk_cellv (HS.out.at3) 5 rfl; have hz2992 : w2979.frozen? ⟨g2978, 5, none⟩ = false := blk_fz (HS.out.at3) 5; have hc2993 : w2979.cell? ⟨g2978, 6, none⟩ = some (.int .i64 0) := blk_cellv (HS.out.at3) 6 rfl; have hz2994 : w2979.frozen? ⟨g2978, 6, none⟩ = false := blk_fz (HS.out.at3) 6) | ((with_reducible refine gate_store (t := 32) (p := 5) rfl ?_); refine store_event (w1 := (World.setCell (World.setCell (World.setCell (World.setCell (World.setCell (World.setCell (World.setCell w2979 ⟨g2978, 0, none⟩ (.int .i64 t2975.1)) ⟨g2978, 1, none⟩ (.int .i64 t2975.2.1)) ⟨g2978, 2, none⟩ (.int .i64 t2975.2.2.1)) ⟨g2978, 3, none⟩ (.int .i64 t2975.2.2.2.1)) ⟨g2978, 4, none⟩ (.int .i64 t2975.2.2.2.2.1)) ⟨g2978, 5, none⟩ (.int .i64 t2975.2.2.2.2.2.1)) ⟨g2978, 6, none⟩ (.int .i64 t2975.2.2.2.2.2.2.1))) rfl (t := 32) (p := 5) rfl rfl ?hr ?_; (case hr => first | (go_simp; done) | (go_simp; rfl)); intro w2995 hst; clear hc2981 hz2982 hc2983 hz2984 hc2985 hz2986 hc2987 hz2988 hc2989 hz2990 hc2991 hz2992 hc2993 hz2994; replace HS : Aside0 (Sep FF w [b7 g2477 g2479 a2487 a2488 a2489 a2490, b6 g2479 A2482 l2481.length n2484 t2975.2.2.2.2.2.2.2.2, r5 A2482 l2481.length n2484 l2481, b11 g2978 t2975.1 t2975.2.1 t2975.2.2.1 t2975.2.2.2.1 t2975.2.2.2.2.1 t2975.2.2.2.2.2.1 t2975.2.2.2.2.2.2.1] w2995) := ⟨by rw [hst]; exact HS.out.setAll (l1 := [b7 g2477 g2479 a2487 a2488 a2489 a2490, b6 g2479 A2482 l2481.length n2484 t2975.2.2.2.2.2.2.2.2, r5 A2482 l2481.length n2484 l2481]) (l2 := []) [.int .i64 t2975.1, .int .i64 t2975.2.1, .int .i64 t2975.2.2.1, .int .i64 t2975.2.2.2.1, .int .i64 t2975.2.2.2.2.1, .int .i64 t2975.2.2.2.2.2.1, .int .i64 t2975.2.2.2.2.2.2.1] rfl⟩; clear hst; replace HS : Aside0 (Sep FF w [b7 g2477 g2479 a2487 a2488 a2489 a2490, b6 g2479 A2482 l2481.length n2484 t2975.2.2.2.2.2.2.2.2, r5 A2482 l2481.length n2484 l2481] w2995) := ⟨HS.out.sub (.cons_cons _ (.cons_cons _ (.cons_cons _ (.cons _ .slnil))))⟩))
    go_ret
    rw [← some_eq H]
    exact ⟨(by first | rfl | (simp [IntKind.wrap_u32]; done)), HS.out⟩

set_option maxHeartbeats 30000000 in
set_option maxRecDepth 100000 in
theorem ring_Has.calls (l3037 : List Int) (a3042 : Int) (a3043 : Int) (a3044 : Int) (a3045 : Int) (a3046 : Int) (a3047 : Int) (g3033 : Nat) (g3035 : Nat) (A3038 : Option Addr) (m3039 : Nat) (n3040 : Nat) (r : Bool × Int) (w : World)  (HGl0 : Aside0 (Gl 0 #[.int .i64 0, .int .i64 0, .int .i64 0, .int .i64 0, .int .i64 0] (fps [b7 g3033 g3035 a3043 a3044 a3045 a3046, b6 g3035 A3038 m3039 n3040 a3042, r5 A3038 m3039 n3040 l3037]) w)) (HS : Aside0 (Sep (fps [b7 g3033 g3035 a3043 a3044 a3045 a3046, b6 g3035 A3038 m3039 n3040 a3042, r5 A3038 m3039 n3040 l3037]) w [b7 g3033 g3035 a3043 a3044 a3045 a3046, b6 g3035 A3038 m3039 n3040 a3042, r5 A3038 m3039 n3040 l3037] w)) (H : Aside0 (ring_Has.f l3037 a3042 a3043 a3044 a3045 a3046 a3047 = some r)) :
    Calls Tryd.prog 27 #[.pointer (some ⟨g3033, 0, none⟩), .int .i64 a3047] w fun e w' => e = .returned (.bool r.1) ∧ Sep (fps [b7 g3033 g3035 a3043 a3044 a3045 a3046, b6 g3035 A3038 m3039 n3040 a3042, r5 A3038 m3039 n3040 l3037]) w [b7 g3033 g3035 a3043 a3044 a3045 a3046, b6 g3035 A3038 m3039 n3040 r.2, r5 A3038 m3039 n3040 l3037] w' := by
  generalize (fps [b7 g3033 g3035 a3043 a3044 a3045 a3046, b6 g3035 A3038 m3039 n3040 a3042, r5 A3038 m3039 n3040 l3037]) = FF at HS HGl0 ⊢
  obtain rfl := (row_len (HS.out.at2)).symm
  unfold ring_Has.f at H
  go_enter Tryd.func27, Tryd.ntmps27
  go_wp2_with fail
  obtain ⟨t3069, HA3070, H⟩ := bind_some H
  refine (ring_marked.calls l3037 a3042 a3043 a3044 a3045 a3046 a3047 1 g3033 g3035 A3038 l3037.length n3040 t3069 _ ⟨HGl0.out.pass HS.out⟩ ⟨HS.out.begin⟩ HA3070).mono ?_
  rintro e_ w3071 ⟨rfl, hS⟩
  replace HS : Aside0 (Sep FF w [b7 g3033 g3035 a3043 a3044 a3045 a3046, b6 g3035 A3038 l3037.length n3040 t3069.2.2.2.2.2.2.2.2, r5 A3038 l3037.length n3040 l3037] w3071) := ⟨HS.out.call hS⟩
  clear hS
  go_wp2_with (first | ((with_reducible refine gate_dst (N := 5) rfl ?_); refine box_on ?hg (N := 5) ?hd (cs := #[.int .i64 0, .int .i64 0, .int .i64 0, .int .i64 0, .int .i64 0, .int .i64 0, .int .i64 0]) (t := 32) ?hr ?_; (case hd => rfl); (case hg => rfl); (case hr => first | (go_simp; done) | (go_simp; rfl)); intro g3072 hg w3073 hbox hb; replace HS : Aside0 (Sep FF w [b7 g3033 g3035 a3043 a3044 a3045 a3046, b6 g3035 A3038 l3037.length n3040 t3069.2.2.2.2.2.2.2.2, r5 A3038 l3037.length n3040 l3037, b11 g3072 0 0 0 0 0 0 0] w3073) := ⟨HS.out.box hg hbox hb⟩; clear hg hbox hb; have hc3075 : w3073.cell? ⟨g3072, 0, none⟩ = some (.int .i64 0) := blk_cellv (HS.out.at3) 0 rfl; have hz3076 : w3073.frozen? ⟨g3072, 0, none⟩ = false := blk_fz (HS.out.at3) 0; have hc3077 : w3073.cell? ⟨g3072, 1, none⟩ = some (.int .i64 0) := blk_cellv (HS.out.at3) 1 rfl; have hz3078 : w3073.frozen? ⟨g3072, 1, none⟩ = false := blk_fz (HS.out.at3) 1; have hc3079 : w3073.cell? ⟨g3072, 2, none⟩ = some (.int .i64 0) := blk_cellv (HS.out.at3) 2 rfl; have hz3080 : w3073.frozen? ⟨g3072, 2, none⟩ = false := blk_fz (HS.out.at3) 2; have hc3081 : w3073.cell? ⟨g3072, 3, none⟩ = some (.int .i64 0) := blk_cellv (HS.out.at3) 3 rfl; have hz3082 : w3073.frozen? ⟨g3072, 3, none⟩ = false := blk_fz (HS.out.at3) 3; have hc3083 : w3073.cell? ⟨g3072, 4, none⟩ = some (.int .i64 0) := blk_cellv (HS.out.at3) 4 rfl; have hz3084 : w3073.frozen? ⟨g3072, 4, none⟩ = false := blk_fz (HS.out.at3) 4; have hc3085 : w3073.cell? ⟨g3072, 5, none⟩ = some (.int .i64 0) := blk_cellv (HS.out.at3) 5 rfl; have hz3086 : w3073.frozen? ⟨g3072, 5, none⟩ = false := blk_fz (HS.out.at3) 5; have hc3087 : w3073.cell? ⟨g3072, 6, none⟩ = some (.int .i64 0) := blk_cellv (HS.out.at3) 6 rfl; have hz3088 : w3073.frozen? ⟨g3072, 6, none⟩ = false := blk_fz (HS.out.at3) 6) | ((with_reducible refine gate_store (t := 32) (p := 5) rfl ?_); refine store_event (w1 := (World.setCell (World.setCell (World.setCell (World.setCell (World.setCell (World.setCell (World.setCell w3073 ⟨g3072, 0, none⟩ (.int .i64 t3069.1)) ⟨g3072, 1, none⟩ (.int .i64 t3069.2.1)) ⟨g3072, 2, none⟩ (.int .i64 t3069.2.2.1)) ⟨g3072, 3, none⟩ (.int .i64 t3069.2.2.2.1)) ⟨g3072, 4, none⟩ (.int .i64 t3069.2.2.2.2.1)) ⟨g3072, 5, none⟩ (.int .i64 t3069.2.2.2.2.2.1)) ⟨g3072, 6, none⟩ (.int .i64 t3069.2.2.2.2.2.2.1))) rfl (t := 32) (p := 5) rfl rfl ?hr ?_; (case hr => first | (go_simp; done) | (go_simp; rfl)); intro w3089 hst; clear hc3075 hz3076 hc3077 hz3078 hc3079 hz3080 hc3081 hz3082 hc3083 hz3084 hc3085 hz3086 hc3087 hz3088; replace HS : Aside0 (Sep FF w [b7 g3033 g3035 a3043 a3044 a3045 a3046, b6 g3035 A3038 l3037.length n3040 t3069.2.2.2.2.2.2.2.2, r5 A3038 l3037.length n3040 l3037, b11 g3072 t3069.1 t3069.2.1 t3069.2.2.1 t3069.2.2.2.1 t3069.2.2.2.2.1 t3069.2.2.2.2.2.1 t3069.2.2.2.2.2.2.1] w3089) := ⟨by rw [hst]; exact HS.out.setAll (l1 := [b7 g3033 g3035 a3043 a3044 a3045 a3046, b6 g3035 A3038 l3037.length n3040 t3069.2.2.2.2.2.2.2.2, r5 A3038 l3037.length n3040 l3037]) (l2 := []) [.int .i64 t3069.1, .int .i64 t3069.2.1, .int .i64 t3069.2.2.1, .int .i64 t3069.2.2.2.1, .int .i64 t3069.2.2.2.2.1, .int .i64 t3069.2.2.2.2.2.1, .int .i64 t3069.2.2.2.2.2.2.1] rfl⟩; clear hst; replace HS : Aside0 (Sep FF w [b7 g3033 g3035 a3043 a3044 a3045 a3046, b6 g3035 A3038 l3037.length n3040 t3069.2.2.2.2.2.2.2.2, r5 A3038 l3037.length n3040 l3037] w3089) := ⟨HS.out.sub (.cons_cons _ (.cons_cons _ (.cons_cons _ (.cons _ .slnil))))⟩))
  go_ret
  rw [← some_eq H]
  exact ⟨(by first | rfl | (simp [IntKind.wrap_u32]; done)), HS.out⟩

set_option maxHeartbeats 30000000 in
set_option maxRecDepth 100000 in
theorem quitrenttop_awakeRow.calls (k : Nat)  (r : Bool) (w : World)  (HGl0 : Aside0 (Gl 0 #[.int .i64 0, .int .i64 0, .int .i64 0, .int .i64 0, .int .i64 0] (fps []) w)) (HS : Aside0 (Sep (fps []) w [] w)) (H : Aside0 (quitrenttop_awakeRow.f k = some r)) :
    Calls Tryd.prog 61 #[] w fun e w' => e = .returned (.bool r) ∧ Sep (fps []) w [] w' := by
  unfold quitrenttop_awakeRow.f at H
  go_enter Tryd.func61, Tryd.ntmps61
  go_wp2_with fail
  obtain ⟨t798, HA799, H⟩ := bind_some H
  rcases t798 with t800 | (t801 | t802)
  · have H := sum_l H
    refine (ground_New.calls _ 2 16 1 1 (.inl t800) _ ⟨HGl0.out.pass (l := []) HS.out⟩ ⟨Sep.start _⟩ HA799).mono ?_
    rintro e_ w803 ⟨rfl, hS⟩
    replace HS : Aside0 (Sep (fps []) w [] w803) := ⟨HS.out.call hS⟩
    clear hS
    go_wp2_with fail
    go_ret
    rw [← some_eq H]
    exact ⟨(by first | rfl | (simp [IntKind.wrap_u32]; done)), HS.out⟩
  · have H := sum_r H
    have H := sum_l H
    refine (ground_New.calls _ 2 16 1 1 (.inr (.inl t801)) _ ⟨HGl0.out.pass (l := []) HS.out⟩ ⟨Sep.start _⟩ HA799).mono ?_
    rintro e_ w804 ⟨g808, rfl, g809, A810, m811, n812, hS⟩
    replace HS : Aside0 (Sep (fps []) w [b7 g808 g809 t801.1 t801.2.1 t801.2.2.1 t801.2.2.2.1, b6 g809 A810 m811 n812 0, r5 A810 m811 n812 t801.2.2.2.2] w804) := ⟨HS.out.call hS⟩
    clear hS
    obtain rfl := (row_len (HS.out.at2)).symm
    go_wp2_with fail
    obtain ⟨t1544, HA1545, H⟩ := bind_some H
    refine (pool_Open.calls _ t801.2.2.2.2 0 t801.1 t801.2.1 t801.2.2.1 t801.2.2.2.1 g808 g809 A810 ((t801.2.2.2.2).length) n812 t1544 _ ⟨HGl0.out.pass HS.out⟩ ⟨HS.out.begin⟩ HA1545).mono ?_
    rintro e_ w1546 ⟨rfl, hS⟩
    replace HS : Aside0 (Sep (fps []) w [b7 g808 g809 t801.1 t801.2.1 t801.2.2.1 t801.2.2.2.1, b6 g809 A810 ((t801.2.2.2.2).length) n812 t1544.2.1, r5 A810 ((t801.2.2.2.2).length) n812 t1544.2.2] w1546) := ⟨HS.out.call hS⟩
    clear hS
    by_cases c1547 : t1544.1 = true
    · replace H := if_yes c1547 H
      have c1547b0 : t1544.1 = true := c1547
      have c1547b1 : (!t1544.1) = false := by rw [c1547b0]; rfl
      try rw [c1547b1]
      clear c1547
      go_wp2_with fail
      obtain ⟨t2471, HA2472, H⟩ := bind_some H
      refine (obj_Make.calls _ t1544.2.2 t1544.2.1 t801.1 t801.2.1 t801.2.2.1 t801.2.2.2.1 1 0 g808 g809 A810 ((t801.2.2.2.2).length) n812 t2471 _ ⟨HGl0.out.pass HS.out⟩ ⟨HS.out.begin⟩ HA2472).mono ?_
      rintro e_ w2473 ⟨rfl, hS⟩
      replace HS : Aside0 (Sep (fps []) w [b7 g808 g809 t801.1 t801.2.1 t801.2.2.1 t801.2.2.2.1, b6 g809 A810 ((t801.2.2.2.2).length) n812 t2471.2.2.1, r5 A810 ((t801.2.2.2.2).length) n812 t2471.2.2.2] w2473) := ⟨HS.out.call hS⟩
      clear hS
      by_cases c2474 : t2471.2.1 = 0
      · replace H := if_yes c2474 H
        have c2474b0 : (t2471.2.1 == 0) = true := beq_iff_eq.mpr c2474
        have c2474b1 : (t2471.2.1 != 0) = false := bne_eq_false_iff_eq.mpr c2474
        clear c2474
        by_cases c2475 : t2471.1 = 1
        · replace H := if_yes c2475 H
          have c2475b0 : (t2471.1 == 1) = true := beq_iff_eq.mpr c2475
          have c2475b1 : (t2471.1 != 1) = false := bne_eq_false_iff_eq.mpr c2475
          clear c2475
          go_wp2_with fail
          obtain ⟨t3028, HA3029, H⟩ := bind_some H
          refine (ring_Add.calls _ t2471.2.2.2 t2471.2.2.1 t801.1 t801.2.1 t801.2.2.1 t801.2.2.2.1 0 g808 g809 A810 ((t801.2.2.2.2).length) n812 t3028 _ ⟨HGl0.out.pass HS.out⟩ ⟨HS.out.begin⟩ HA3029).mono ?_
          rintro e_ w3030 ⟨rfl, hS⟩
          replace HS : Aside0 (Sep (fps []) w [b7 g808 g809 t801.1 t801.2.1 t801.2.2.1 t801.2.2.2.1, b6 g809 A810 ((t801.2.2.2.2).length) n812 t3028.2.1, r5 A810 ((t801.2.2.2.2).length) n812 t3028.2.2] w3030) := ⟨HS.out.call hS⟩
          clear hS
          by_cases c3031 : t3028.1 = true
          · replace H := if_yes c3031 H
            have c3031b0 : t3028.1 = true := c3031
            have c3031b1 : (!t3028.1) = false := by rw [c3031b0]; rfl
            clear c3031
            go_wp2_with fail
            obtain ⟨t3090, HA3091, H⟩ := bind_some H
            refine (ring_Has.calls t3028.2.2 t3028.2.1 t801.1 t801.2.1 t801.2.2.1 t801.2.2.2.1 0 g808 g809 A810 ((t801.2.2.2.2).length) n812 t3090 _ ⟨HGl0.out.pass HS.out⟩ ⟨HS.out.begin⟩ HA3091).mono ?_
            rintro e_ w3092 ⟨rfl, hS⟩
            replace HS : Aside0 (Sep (fps []) w [b7 g808 g809 t801.1 t801.2.1 t801.2.2.1 t801.2.2.2.1, b6 g809 A810 ((t801.2.2.2.2).length) n812 t3090.2, r5 A810 ((t801.2.2.2.2).length) n812 t3028.2.2] w3092) := ⟨HS.out.call hS⟩
            clear hS
            by_cases c3093 : t3090.1 = true
            · replace H := if_yes c3093 H
              have c3093b0 : t3090.1 = true := c3093
              have c3093b1 : (!t3090.1) = false := by rw [c3093b0]; rfl
              clear c3093
              go_wp2_with fail
              obtain ⟨t3094, HA3095, H⟩ := bind_some H
              refine (pool_Len.calls t3028.2.2 t3090.2 t801.1 t801.2.1 t801.2.2.1 t801.2.2.2.1 g808 g809 A810 ((t801.2.2.2.2).length) n812 t3094 _ ⟨HGl0.out.pass HS.out⟩ ⟨HS.out.begin⟩ HA3095).mono ?_
              rintro e_ w3096 ⟨rfl, hS⟩
              replace HS : Aside0 (Sep (fps []) w [b7 g808 g809 t801.1 t801.2.1 t801.2.2.1 t801.2.2.2.1, b6 g809 A810 ((t801.2.2.2.2).length) n812 t3094.2, r5 A810 ((t801.2.2.2.2).length) n812 t3028.2.2] w3096) := ⟨HS.out.call hS⟩
              clear hS
              replace HS : Aside0 (Sep (fps []) w [] w3096) := ⟨HS.out.sub (.cons _ (.cons _ (.cons _ .slnil)))⟩
              go_wp2_with fail
              go_ret
              rw [← some_eq H]
              exact ⟨(by first | rfl | (simp [IntKind.wrap_u32]; done)), HS.out⟩
            · replace H := if_no c3093 H
              have c3093b0 : t3090.1 = false := by simpa using c3093
              have c3093b1 : (!t3090.1) = true := by rw [c3093b0]; rfl
              clear c3093
              replace HS : Aside0 (Sep (fps []) w [] w3092) := ⟨HS.out.sub (.cons _ (.cons _ (.cons _ .slnil)))⟩
              go_wp2_with fail
              go_ret
              rw [← some_eq H]
              exact ⟨(by first | rfl | (simp [IntKind.wrap_u32]; done)), HS.out⟩
          · replace H := if_no c3031 H
            have c3031b0 : t3028.1 = false := by simpa using c3031
            have c3031b1 : (!t3028.1) = true := by rw [c3031b0]; rfl
            clear c3031
            replace HS : Aside0 (Sep (fps []) w [] w3030) := ⟨HS.out.sub (.cons _ (.cons _ (.cons _ .slnil)))⟩
            go_wp2_with fail
            go_ret
            rw [← some_eq H]
            exact ⟨(by first | rfl | (simp [IntKind.wrap_u32]; done)), HS.out⟩
        · replace H := if_no c2475 H
          have c2475b0 : (t2471.1 == 1) = false := beq_eq_false_iff_ne.mpr c2475
          have c2475b1 : (t2471.1 != 1) = true := bne_iff_ne.mpr c2475
          clear c2475
          replace HS : Aside0 (Sep (fps []) w [] w2473) := ⟨HS.out.sub (.cons _ (.cons _ (.cons _ .slnil)))⟩
          go_wp2_with fail
          go_ret
          rw [← some_eq H]
          exact ⟨(by first | rfl | (simp [IntKind.wrap_u32]; done)), HS.out⟩
      · replace H := if_no c2474 H
        have c2474b0 : (t2471.2.1 == 0) = false := beq_eq_false_iff_ne.mpr c2474
        have c2474b1 : (t2471.2.1 != 0) = true := bne_iff_ne.mpr c2474
        clear c2474
        replace HS : Aside0 (Sep (fps []) w [] w2473) := ⟨HS.out.sub (.cons _ (.cons _ (.cons _ .slnil)))⟩
        go_wp2_with fail
        go_ret
        rw [← some_eq H]
        exact ⟨(by first | rfl | (simp [IntKind.wrap_u32]; done)), HS.out⟩
    · replace H := if_no c1547 H
      have c1547b0 : t1544.1 = false := by simpa using c1547
      have c1547b1 : (!t1544.1) = true := by rw [c1547b0]; rfl
      try rw [c1547b1]
      clear c1547
      replace HS : Aside0 (Sep (fps []) w [] w1546) := ⟨HS.out.sub (.cons _ (.cons _ (.cons _ .slnil)))⟩
      go_wp2_with fail
      go_ret
      rw [← some_eq H]
      exact ⟨(by first | rfl | (simp [IntKind.wrap_u32]; done)), HS.out⟩
  · have H := sum_r H
    have H := sum_r H
    refine (ground_New.calls _ 2 16 1 1 (.inr (.inr t802)) _ ⟨HGl0.out.pass (l := []) HS.out⟩ ⟨Sep.start _⟩ HA799).mono ?_
    rintro e_ w3097 ⟨rfl, hS⟩
    replace HS : Aside0 (Sep (fps []) w [] w3097) := ⟨HS.out.call hS⟩
    clear hS
    by_cases c3098 : t802 = 0
    · replace H := if_yes c3098 H
      have c3098b0 : (t802 == 0) = true := beq_iff_eq.mpr c3098
      have c3098b1 : (t802 != 0) = false := bne_eq_false_iff_eq.mpr c3098
      clear c3098
      exact (none_no H).elim
    · replace H := if_no c3098 H
      have c3098b0 : (t802 == 0) = false := beq_eq_false_iff_ne.mpr c3098
      have c3098b1 : (t802 != 0) = true := bne_iff_ne.mpr c3098
      clear c3098
      go_wp2_with fail
      go_ret
      rw [← some_eq H]
      exact ⟨(by first | rfl | (simp [IntKind.wrap_u32]; done)), HS.out⟩

set_option maxHeartbeats 30000000 in
set_option maxRecDepth 100000 in
theorem obj_in.calls (l3230 : List Int) (a3235 : Int) (a3236 : Int) (a3237 : Int) (a3238 : Int) (a3239 : Int) (a3240 : Int) (g3226 : Nat) (g3228 : Nat) (A3231 : Option Addr) (m3232 : Nat) (n3233 : Nat) (r : Bool) (w : World)  (HGl0 : Aside0 (Gl 0 #[.int .i64 0, .int .i64 0, .int .i64 0, .int .i64 0, .int .i64 0] (fps [b7 g3226 g3228 a3236 a3237 a3238 a3239, b6 g3228 A3231 m3232 n3233 a3235, r5 A3231 m3232 n3233 l3230]) w)) (HS : Aside0 (Sep (fps [b7 g3226 g3228 a3236 a3237 a3238 a3239, b6 g3228 A3231 m3232 n3233 a3235, r5 A3231 m3232 n3233 l3230]) w [b7 g3226 g3228 a3236 a3237 a3238 a3239, b6 g3228 A3231 m3232 n3233 a3235, r5 A3231 m3232 n3233 l3230] w)) (H : Aside0 (obj_in.f l3230 a3235 a3236 a3237 a3238 a3239 a3240 = some r)) :
    Calls Tryd.prog 100 #[.pointer (some ⟨g3226, 0, none⟩), .int .i64 a3240] w fun e w' => e = .returned (.bool r) ∧ Sep (fps [b7 g3226 g3228 a3236 a3237 a3238 a3239, b6 g3228 A3231 m3232 n3233 a3235, r5 A3231 m3232 n3233 l3230]) w [b7 g3226 g3228 a3236 a3237 a3238 a3239, b6 g3228 A3231 m3232 n3233 a3235, r5 A3231 m3232 n3233 l3230] w' := by
  generalize (fps [b7 g3226 g3228 a3236 a3237 a3238 a3239, b6 g3228 A3231 m3232 n3233 a3235, r5 A3231 m3232 n3233 l3230]) = FF at HS HGl0 ⊢
  obtain rfl := (row_len (HS.out.at2)).symm
  unfold obj_in.f at H
  go_enter Tryd.func100, Tryd.ntmps100
  by_cases c3241 : a3240 > 0
  · replace H := if_yes c3241 H
    have c3241b0 : decide (0 < a3240) = true := decide_eq_true c3241
    clear c3241
    go_wp2_with fail
    obtain ⟨t3242, HA3243, H⟩ := bind_some H
    refine (ground_Ground_Conf.calls l3230 a3235 a3236 a3237 a3238 a3239 g3226 g3228 A3231 l3230.length n3233 t3242 _ ⟨HGl0.out.pass HS.out⟩ ⟨HS.out.begin⟩ HA3243).mono ?_
    rintro e_ w3244 ⟨rfl, hS⟩
    replace HS : Aside0 (Sep FF w [b7 g3226 g3228 a3236 a3237 a3238 a3239, b6 g3228 A3231 l3230.length n3233 a3235, r5 A3231 l3230.length n3233 l3230] w3244) := ⟨HS.out.call hS⟩
    clear hS
    have fl3245 : ∀ w, (Instr.field 30 (.agg #[.int .i64 t3242.1, .int .i64 t3242.2.1, .int .i64 t3242.2.2.1, .int .i64 t3242.2.2.2]) 0).run Tryd.prog w = .ok (.int .i64 t3242.1) w := fun _ => by kernel_rfl
    go_wp2_with fail
    clear fl3245
    go_ret
    rw [← some_eq H]
    exact ⟨(by first | rfl | (simp [IntKind.wrap_u32]; done)), HS.out⟩
  · replace H := if_no c3241 H
    have c3241b0 : decide (0 < a3240) = false := decide_eq_false c3241
    clear c3241
    go_wp2_with fail
    go_ret
    rw [← some_eq H]
    exact ⟨(by first | rfl | (simp [IntKind.wrap_u32]; done)), HS.out⟩

set_option maxHeartbeats 30000000 in
set_option maxRecDepth 100000 in
theorem obj_isHead.calls (a3257 : Int) (r : Bool) (w : World)  (HGl0 : Aside0 (Gl 0 #[.int .i64 0, .int .i64 0, .int .i64 0, .int .i64 0, .int .i64 0] (fps []) w)) (HS : Aside0 (Sep (fps []) w [] w)) (H : Aside0 (obj_isHead.f a3257 = some r)) :
    Calls Tryd.prog 101 #[.int .i64 a3257] w fun e w' => e = .returned (.bool r) ∧ Sep (fps []) w [] w' := by
  unfold obj_isHead.f at H
  go_enter Tryd.func101, Tryd.ntmps101
  by_cases c3258 : a3257 = 1
  · replace H := if_yes c3258 H
    have c3258b0 : (a3257 == 1) = true := beq_iff_eq.mpr c3258
    have c3258b1 : (a3257 != 1) = false := bne_eq_false_iff_eq.mpr c3258
    clear c3258
    go_wp2_with fail
    go_ret
    rw [← some_eq H]
    exact ⟨(by first | rfl | (simp [IntKind.wrap_u32]; done)), HS.out⟩
  · replace H := if_no c3258 H
    have c3258b0 : (a3257 == 1) = false := beq_eq_false_iff_ne.mpr c3258
    have c3258b1 : (a3257 != 1) = true := bne_iff_ne.mpr c3258
    clear c3258
    go_wp2_with fail
    go_ret
    rw [← some_eq H]
    exact ⟨(by first | rfl | (simp [IntKind.wrap_u32]; done)), HS.out⟩

set_option maxHeartbeats 30000000 in
set_option maxRecDepth 100000 in
theorem obj_Is.calls (l3214 : List Int) (a3219 : Int) (a3220 : Int) (a3221 : Int) (a3222 : Int) (a3223 : Int) (a3224 : Int) (g3210 : Nat) (g3212 : Nat) (A3215 : Option Addr) (m3216 : Nat) (n3217 : Nat) (r : Bool × Int) (w : World)  (HGl0 : Aside0 (Gl 0 #[.int .i64 0, .int .i64 0, .int .i64 0, .int .i64 0, .int .i64 0] (fps [b7 g3210 g3212 a3220 a3221 a3222 a3223, b6 g3212 A3215 m3216 n3217 a3219, r5 A3215 m3216 n3217 l3214]) w)) (HS : Aside0 (Sep (fps [b7 g3210 g3212 a3220 a3221 a3222 a3223, b6 g3212 A3215 m3216 n3217 a3219, r5 A3215 m3216 n3217 l3214]) w [b7 g3210 g3212 a3220 a3221 a3222 a3223, b6 g3212 A3215 m3216 n3217 a3219, r5 A3215 m3216 n3217 l3214] w)) (H : Aside0 (obj_Is.f l3214 a3219 a3220 a3221 a3222 a3223 a3224 = some r)) :
    Calls Tryd.prog 48 #[.pointer (some ⟨g3210, 0, none⟩), .int .i64 a3224] w fun e w' => e = .returned (.bool r.1) ∧ Sep (fps [b7 g3210 g3212 a3220 a3221 a3222 a3223, b6 g3212 A3215 m3216 n3217 a3219, r5 A3215 m3216 n3217 l3214]) w [b7 g3210 g3212 a3220 a3221 a3222 a3223, b6 g3212 A3215 m3216 n3217 r.2, r5 A3215 m3216 n3217 l3214] w' := by
  generalize (fps [b7 g3210 g3212 a3220 a3221 a3222 a3223, b6 g3212 A3215 m3216 n3217 a3219, r5 A3215 m3216 n3217 l3214]) = FF at HS HGl0 ⊢
  obtain rfl := (row_len (HS.out.at2)).symm
  unfold obj_Is.f at H
  go_enter Tryd.func48, Tryd.ntmps48
  go_wp2_with fail
  obtain ⟨t3262, HA3263, H⟩ := bind_some H
  refine (obj_in.calls l3214 a3219 a3220 a3221 a3222 a3223 a3224 g3210 g3212 A3215 l3214.length n3217 t3262 _ ⟨HGl0.out.pass HS.out⟩ ⟨HS.out.begin⟩ HA3263).mono ?_
  rintro e_ w3264 ⟨rfl, hS⟩
  replace HS : Aside0 (Sep FF w [b7 g3210 g3212 a3220 a3221 a3222 a3223, b6 g3212 A3215 l3214.length n3217 a3219, r5 A3215 l3214.length n3217 l3214] w3264) := ⟨HS.out.call hS⟩
  clear hS
  by_cases c3265 : t3262 = true
  · replace H := if_yes c3265 H
    have c3265b0 : t3262 = true := c3265
    have c3265b1 : (!t3262) = false := by rw [c3265b0]; rfl
    clear c3265
    go_wp2_with fail
    obtain ⟨t3266, HA3267, H⟩ := bind_some H
    refine (ground_Ground_Word.calls l3214 a3219 a3220 a3221 a3222 a3223 (wrap64 (a3224 - 1)) 0 g3210 g3212 A3215 l3214.length n3217 t3266 _ ⟨HGl0.out.pass HS.out⟩ ⟨HS.out.begin⟩ HA3267).mono ?_
    rintro e_ w3268 ⟨rfl, hS⟩
    replace HS : Aside0 (Sep FF w [b7 g3210 g3212 a3220 a3221 a3222 a3223, b6 g3212 A3215 l3214.length n3217 t3266.2, r5 A3215 l3214.length n3217 l3214] w3268) := ⟨HS.out.call hS⟩
    clear hS
    go_wp2_with fail
    obtain ⟨t3269, HA3270, H⟩ := bind_some H
    refine (tag_Unpack.calls t3266.1 t3269 _ ⟨HGl0.out.pass (l := []) HS.out⟩ ⟨Sep.start _⟩ HA3270).mono ?_
    rintro e_ w3271 ⟨rfl, hS⟩
    replace HS : Aside0 (Sep FF w [b7 g3210 g3212 a3220 a3221 a3222 a3223, b6 g3212 A3215 l3214.length n3217 t3266.2, r5 A3215 l3214.length n3217 l3214] w3271) := ⟨HS.out.call hS⟩
    clear hS
    have fl3272 : ∀ w, (Instr.field 32 (.agg #[.int .i64 t3269.1, .int .i64 t3269.2.1, .int .i64 t3269.2.2.1, .int .i64 t3269.2.2.2.1, .int .i64 t3269.2.2.2.2.1, .int .i64 t3269.2.2.2.2.2.1, .int .i64 t3269.2.2.2.2.2.2]) 0).run Tryd.prog w = .ok (.int .i64 t3269.1) w := fun _ => by kernel_rfl
    go_wp2_with fail
    clear fl3272
    obtain ⟨t3273, HA3274, H⟩ := bind_some H
    refine (obj_isHead.calls t3269.1 t3273 _ ⟨HGl0.out.pass (l := []) HS.out⟩ ⟨Sep.start _⟩ HA3274).mono ?_
    rintro e_ w3275 ⟨rfl, hS⟩
    replace HS : Aside0 (Sep FF w [b7 g3210 g3212 a3220 a3221 a3222 a3223, b6 g3212 A3215 l3214.length n3217 t3266.2, r5 A3215 l3214.length n3217 l3214] w3275) := ⟨HS.out.call hS⟩
    clear hS
    go_wp2_with fail
    go_ret
    rw [← some_eq H]
    exact ⟨(by first | rfl | (simp [IntKind.wrap_u32]; done)), HS.out⟩
  · replace H := if_no c3265 H
    have c3265b0 : t3262 = false := by simpa using c3265
    have c3265b1 : (!t3262) = true := by rw [c3265b0]; rfl
    clear c3265
    go_wp2_with fail
    go_ret
    rw [← some_eq H]
    exact ⟨(by first | rfl | (simp [IntKind.wrap_u32]; done)), HS.out⟩

set_option maxHeartbeats 30000000 in
set_option maxRecDepth 100000 in
theorem obj_Lens.calls (l3198 : List Int) (a3203 : Int) (a3204 : Int) (a3205 : Int) (a3206 : Int) (a3207 : Int) (a3208 : Int) (g3194 : Nat) (g3196 : Nat) (A3199 : Option Addr) (m3200 : Nat) (n3201 : Nat) (r : Int × Int × Int × Int) (w : World)  (HGl0 : Aside0 (Gl 0 #[.int .i64 0, .int .i64 0, .int .i64 0, .int .i64 0, .int .i64 0] (fps [b7 g3194 g3196 a3204 a3205 a3206 a3207, b6 g3196 A3199 m3200 n3201 a3203, r5 A3199 m3200 n3201 l3198]) w)) (HS : Aside0 (Sep (fps [b7 g3194 g3196 a3204 a3205 a3206 a3207, b6 g3196 A3199 m3200 n3201 a3203, r5 A3199 m3200 n3201 l3198]) w [b7 g3194 g3196 a3204 a3205 a3206 a3207, b6 g3196 A3199 m3200 n3201 a3203, r5 A3199 m3200 n3201 l3198] w)) (H : Aside0 (obj_Lens.f l3198 a3203 a3204 a3205 a3206 a3207 a3208 = some r)) :
    Calls Tryd.prog 60 #[.pointer (some ⟨g3194, 0, none⟩), .int .i64 a3208] w fun e w' => e = .returned (.tuple #[.int .i64 r.1, .int .i64 r.2.1, .int .i64 r.2.2.1]) ∧ Sep (fps [b7 g3194 g3196 a3204 a3205 a3206 a3207, b6 g3196 A3199 m3200 n3201 a3203, r5 A3199 m3200 n3201 l3198]) w [b7 g3194 g3196 a3204 a3205 a3206 a3207, b6 g3196 A3199 m3200 n3201 r.2.2.2, r5 A3199 m3200 n3201 l3198] w' := by
  generalize (fps [b7 g3194 g3196 a3204 a3205 a3206 a3207, b6 g3196 A3199 m3200 n3201 a3203, r5 A3199 m3200 n3201 l3198]) = FF at HS HGl0 ⊢
  obtain rfl := (row_len (HS.out.at2)).symm
  unfold obj_Lens.f at H
  go_enter Tryd.func60, Tryd.ntmps60
  go_wp2_with fail
  obtain ⟨t3286, HA3287, H⟩ := bind_some H
  refine (obj_Is.calls l3198 a3203 a3204 a3205 a3206 a3207 a3208 g3194 g3196 A3199 l3198.length n3201 t3286 _ ⟨HGl0.out.pass HS.out⟩ ⟨HS.out.begin⟩ HA3287).mono ?_
  rintro e_ w3288 ⟨rfl, hS⟩
  replace HS : Aside0 (Sep FF w [b7 g3194 g3196 a3204 a3205 a3206 a3207, b6 g3196 A3199 l3198.length n3201 t3286.2, r5 A3199 l3198.length n3201 l3198] w3288) := ⟨HS.out.call hS⟩
  clear hS
  by_cases c3289 : t3286.1 = true
  · replace H := if_yes c3289 H
    have c3289b0 : t3286.1 = true := c3289
    have c3289b1 : (!t3286.1) = false := by rw [c3289b0]; rfl
    try rw [c3289b1]
    clear c3289
    go_wp2_with fail
    obtain ⟨t3290, HA3291, H⟩ := bind_some H
    refine (ground_Ground_Word.calls l3198 t3286.2 a3204 a3205 a3206 a3207 (wrap64 (a3208 - 1)) 1 g3194 g3196 A3199 l3198.length n3201 t3290 _ ⟨HGl0.out.pass HS.out⟩ ⟨HS.out.begin⟩ HA3291).mono ?_
    rintro e_ w3292 ⟨rfl, hS⟩
    replace HS : Aside0 (Sep FF w [b7 g3194 g3196 a3204 a3205 a3206 a3207, b6 g3196 A3199 l3198.length n3201 t3290.2, r5 A3199 l3198.length n3201 l3198] w3292) := ⟨HS.out.call hS⟩
    clear hS
    go_wp2_with fail
    obtain ⟨t3293, HA3294, H⟩ := bind_some H
    refine (ground_Ground_Word.calls l3198 t3290.2 a3204 a3205 a3206 a3207 (wrap64 (a3208 - 1)) 2 g3194 g3196 A3199 l3198.length n3201 t3293 _ ⟨HGl0.out.pass HS.out⟩ ⟨HS.out.begin⟩ HA3294).mono ?_
    rintro e_ w3295 ⟨rfl, hS⟩
    replace HS : Aside0 (Sep FF w [b7 g3194 g3196 a3204 a3205 a3206 a3207, b6 g3196 A3199 l3198.length n3201 t3293.2, r5 A3199 l3198.length n3201 l3198] w3295) := ⟨HS.out.call hS⟩
    clear hS
    go_wp2_with fail
    go_ret3
    rw [← some_eq H]
    exact ⟨(by first | rfl | (simp [IntKind.wrap_u32]; done)), HS.out⟩
  · replace H := if_no c3289 H
    have c3289b0 : t3286.1 = false := by simpa using c3289
    have c3289b1 : (!t3286.1) = true := by rw [c3289b0]; rfl
    try rw [c3289b1]
    clear c3289
    go_wp2_with fail
    go_ret3
    rw [← some_eq H]
    exact ⟨(by first | rfl | (simp [IntKind.wrap_u32]; done)), HS.out⟩

set_option maxHeartbeats 30000000 in
set_option maxRecDepth 100000 in
theorem obj_Blocks.calls (k : Nat) (l3182 : List Int) (a3187 : Int) (a3188 : Int) (a3189 : Int) (a3190 : Int) (a3191 : Int) (a3192 : Int) (g3178 : Nat) (g3180 : Nat) (A3183 : Option Addr) (m3184 : Nat) (n3185 : Nat) (r : Int × Int) (w : World)  (HGl0 : Aside0 (Gl 0 #[.int .i64 0, .int .i64 0, .int .i64 0, .int .i64 0, .int .i64 0] (fps [b7 g3178 g3180 a3188 a3189 a3190 a3191, b6 g3180 A3183 m3184 n3185 a3187, r5 A3183 m3184 n3185 l3182]) w)) (HS : Aside0 (Sep (fps [b7 g3178 g3180 a3188 a3189 a3190 a3191, b6 g3180 A3183 m3184 n3185 a3187, r5 A3183 m3184 n3185 l3182]) w [b7 g3178 g3180 a3188 a3189 a3190 a3191, b6 g3180 A3183 m3184 n3185 a3187, r5 A3183 m3184 n3185 l3182] w)) (H : Aside0 (obj_Blocks.f k l3182 a3187 a3188 a3189 a3190 a3191 a3192 = some r)) :
    Calls Tryd.prog 45 #[.pointer (some ⟨g3178, 0, none⟩), .int .i64 a3192] w fun e w' => e = .returned (.int .i64 r.1) ∧ Sep (fps [b7 g3178 g3180 a3188 a3189 a3190 a3191, b6 g3180 A3183 m3184 n3185 a3187, r5 A3183 m3184 n3185 l3182]) w [b7 g3178 g3180 a3188 a3189 a3190 a3191, b6 g3180 A3183 m3184 n3185 r.2, r5 A3183 m3184 n3185 l3182] w' := by
  generalize (fps [b7 g3178 g3180 a3188 a3189 a3190 a3191, b6 g3180 A3183 m3184 n3185 a3187, r5 A3183 m3184 n3185 l3182]) = FF at HS HGl0 ⊢
  obtain rfl := (row_len (HS.out.at2)).symm
  unfold obj_Blocks.f at H
  go_enter Tryd.func45, Tryd.ntmps45
  go_wp2_with fail
  obtain ⟨t3307, HA3308, H⟩ := bind_some H
  refine (obj_Lens.calls l3182 a3187 a3188 a3189 a3190 a3191 a3192 g3178 g3180 A3183 l3182.length n3185 t3307 _ ⟨HGl0.out.pass HS.out⟩ ⟨HS.out.begin⟩ HA3308).mono ?_
  rintro e_ w3309 ⟨rfl, hS⟩
  replace HS : Aside0 (Sep FF w [b7 g3178 g3180 a3188 a3189 a3190 a3191, b6 g3180 A3183 l3182.length n3185 t3307.2.2.2, r5 A3183 l3182.length n3185 l3182] w3309) := ⟨HS.out.call hS⟩
  clear hS
  by_cases c3310 : t3307.2.2.1 = 0
  · replace H := if_yes c3310 H
    have c3310b0 : (t3307.2.2.1 == 0) = true := beq_iff_eq.mpr c3310
    have c3310b1 : (t3307.2.2.1 != 0) = false := bne_eq_false_iff_eq.mpr c3310
    clear c3310
    go_wp2_with fail
    obtain ⟨t3311, HA3312, H⟩ := bind_some H
    refine (ground_Ground_Conf.calls l3182 t3307.2.2.2 a3188 a3189 a3190 a3191 g3178 g3180 A3183 l3182.length n3185 t3311 _ ⟨HGl0.out.pass HS.out⟩ ⟨HS.out.begin⟩ HA3312).mono ?_
    rintro e_ w3313 ⟨rfl, hS⟩
    replace HS : Aside0 (Sep FF w [b7 g3178 g3180 a3188 a3189 a3190 a3191, b6 g3180 A3183 l3182.length n3185 t3307.2.2.2, r5 A3183 l3182.length n3185 l3182] w3313) := ⟨HS.out.call hS⟩
    clear hS
    have fl3314 : ∀ w, (Instr.field 30 (.agg #[.int .i64 t3311.1, .int .i64 t3311.2.1, .int .i64 t3311.2.2.1, .int .i64 t3311.2.2.2]) 1).run Tryd.prog w = .ok (.int .i64 t3311.2.1) w := fun _ => by kernel_rfl
    go_wp2_with fail
    clear fl3314
    obtain ⟨t3315, HA3316, H⟩ := bind_some H
    refine (shape_Blocks.calls _ t3311.2.1 t3307.1 t3307.2.1 t3315 _ ⟨HGl0.out.pass (l := []) HS.out⟩ ⟨Sep.start _⟩ HA3316).mono ?_
    rintro e_ w3317 ⟨rfl, hS⟩
    replace HS : Aside0 (Sep FF w [b7 g3178 g3180 a3188 a3189 a3190 a3191, b6 g3180 A3183 l3182.length n3185 t3307.2.2.2, r5 A3183 l3182.length n3185 l3182] w3317) := ⟨HS.out.call hS⟩
    clear hS
    go_wp2_with fail
    go_ret
    rw [← some_eq H]
    exact ⟨(by first | rfl | (simp [IntKind.wrap_u32]; done)), HS.out⟩
  · replace H := if_no c3310 H
    have c3310b0 : (t3307.2.2.1 == 0) = false := beq_eq_false_iff_ne.mpr c3310
    have c3310b1 : (t3307.2.2.1 != 0) = true := bne_iff_ne.mpr c3310
    clear c3310
    go_wp2_with fail
    go_ret
    rw [← some_eq H]
    exact ⟨(by first | rfl | (simp [IntKind.wrap_u32]; done)), HS.out⟩

set_option maxHeartbeats 30000000 in
set_option maxRecDepth 100000 in
theorem shape_Place.calls (k : Nat) (a3401 : Int) (a3402 : Int) (a3403 : Int) (r : Int × Int × Int) (w : World)  (HGl0 : Aside0 (Gl 0 #[.int .i64 0, .int .i64 0, .int .i64 0, .int .i64 0, .int .i64 0] (fps []) w)) (HS : Aside0 (Sep (fps []) w [] w)) (H : Aside0 (shape_Place.f k a3401 a3402 a3403 = some r)) :
    Calls Tryd.prog 137 #[.int .i64 a3401, .int .i64 a3402, .int .i64 a3403] w fun e w' => e = .returned (.tuple #[.int .i64 r.1, .int .i64 r.2.1, .int .i64 r.2.2]) ∧ Sep (fps []) w [] w' := by
  unfold shape_Place.f at H
  go_enter Tryd.func137, Tryd.ntmps137
  go_wp2_with (first | ((with_reducible refine gate_dst (N := 12) rfl ?_); refine slice_on (n := 1) ?hg (N := 12) ?hd (cs := #[.int .i64 a3402]) (t := 3) ?hr ?_; (case hd => rfl); (case hg => rfl); (case hr => first | (go_simp; done) | (go_simp; rfl)); intro g3404 hg w3405 hbox hb; replace HS : Aside0 (Sep (fps []) w [b10 g3404 a3402] w3405) := ⟨HS.out.box hg hbox hb⟩; clear hg hbox hb))
  obtain ⟨t3407, HA3408, H⟩ := bind_some H
  refine (shape_wrong.calls _ a3401 [a3402] (some ⟨g3404, 0, none⟩) 1 t3407 _ ⟨Rd.lit (l := []) (xs := [a3402]) HS.out 0 rfl (by simp)⟩ ⟨HGl0.out.pass (l := []) HS.out⟩ ⟨Sep.start _⟩ HA3408).mono ?_
  rintro e_ w3409 ⟨rfl, hS⟩
  replace HS : Aside0 (Sep (fps []) w [b10 g3404 a3402] w3409) := ⟨HS.out.call hS⟩
  clear hS
  by_cases c3410 : t3407 = 0
  · replace H := if_yes c3410 H
    have c3410b0 : (t3407 == 0) = true := beq_iff_eq.mpr c3410
    have c3410b1 : (t3407 != 0) = false := bne_eq_false_iff_eq.mpr c3410
    clear c3410
    by_cases c3411 : a3403 < 0
    · replace H := if_yes c3411 H
      have c3411b0 : decide (a3403 < 0) = true := decide_eq_true c3411
      clear c3411
      replace HS : Aside0 (Sep (fps []) w [] w3409) := ⟨HS.out.sub (.cons _ .slnil)⟩
      go_wp2_with fail
      go_ret3
      rw [← some_eq H]
      exact ⟨(by first | rfl | (simp [IntKind.wrap_u32]; done)), HS.out⟩
    · replace H := if_no c3411 H
      have c3411b0 : decide (a3403 < 0) = false := decide_eq_false c3411
      clear c3411
      by_cases c3412 : a3403 ≥ a3402
      · replace H := if_yes c3412 H
        have c3412b0 : decide (a3402 ≤ a3403) = true := decide_eq_true c3412
        clear c3412
        replace HS : Aside0 (Sep (fps []) w [] w3409) := ⟨HS.out.sub (.cons _ .slnil)⟩
        go_wp2_with fail
        go_ret3
        rw [← some_eq H]
        exact ⟨(by first | rfl | (simp [IntKind.wrap_u32]; done)), HS.out⟩
      · replace H := if_no c3412 H
        have c3412b0 : decide (a3402 ≤ a3403) = false := decide_eq_false c3412
        clear c3412
        replace HS : Aside0 (Sep (fps []) w [] w3409) := ⟨HS.out.sub (.cons _ .slnil)⟩
        go_wp2_with fail
        obtain ⟨t3413, HA3414, H⟩ := bind_some H
        refine (shape_leaves.calls a3401 a3402 t3413 _ ⟨HGl0.out.pass (l := []) HS.out⟩ ⟨Sep.start _⟩ HA3414).mono ?_
        rintro e_ w3415 ⟨rfl, hS⟩
        replace HS : Aside0 (Sep (fps []) w [] w3415) := ⟨HS.out.call hS⟩
        clear hS
        by_cases c3416 : t3413 = 0
        · replace H := if_yes c3416 H
          have c3416b0 : (t3413 == 0) = true := beq_iff_eq.mpr c3416
          have c3416b1 : (t3413 != 0) = false := bne_eq_false_iff_eq.mpr c3416
          clear c3416
          go_wp2_with fail
          go_ret3
          rw [← some_eq H]
          exact ⟨(by first | rfl | (simp [IntKind.wrap_u32]; done)), HS.out⟩
        · replace H := if_no c3416 H
          have c3416b0 : (t3413 == 0) = false := beq_eq_false_iff_ne.mpr c3416
          have c3416b1 : (t3413 != 0) = true := bne_iff_ne.mpr c3416
          clear c3416
          go_wp2_with fail
          refine start_ (n := 12) (S := (fun _ => True)) (ds := []) #[false, false, false, false, false, false, false, false, false, false, false, false] (by kernel_rfl) rfl rfl (trivial) (fun hHeld => ?_)
          have HS_ := Aside0.mk HS.out.drew
          clear HS
          generalize World.drew _ = w3418 at HS_ hHeld ⊢
          have HS := HS_
          clear HS_
          refine pure_ (i := 0) (N := some 32) (v := ?_) (a' := ?_) #[true, false, false, false, false, false, false, false, false, false, false, false] rfl rfl (by kernel_rfl) (fun _ _ _ h => h) (Or.inl ⟨by rfl, ?_⟩) ?_ ?_
          rotate_left
          · intro w'
            go_simp
            with_reducible rfl
          rotate_left
          · simp only [Act.put, List.setIfInBounds_toArray, List.set_cons_zero, List.set_cons_succ, i64_w, i32_w]
            rfl
          refine pure_ (i := 1) (N := some 33) (v := ?_) (a' := ?_) #[true, true, false, false, false, false, false, false, false, false, false, false] rfl rfl (by kernel_rfl) (fun _ _ _ h => h) (Or.inl ⟨by rfl, ?_⟩) ?_ ?_
          rotate_left
          · intro w'
            go_simp
            with_reducible rfl
          rotate_left
          · simp only [Act.put, List.setIfInBounds_toArray, List.set_cons_zero, List.set_cons_succ, i64_w, i32_w]
            rfl
          refine pure_ (i := 4) (N := some 36) (v := ?_) (a' := ?_) #[true, true, false, false, true, false, false, false, false, false, false, false] rfl rfl (by kernel_rfl) (fun _ _ _ h => h) (Or.inl ⟨by rfl, ?_⟩) ?_ ?_
          rotate_left
          · intro w'
            go_simp
            with_reducible rfl
          rotate_left
          · simp only [Act.put, List.setIfInBounds_toArray, List.set_cons_zero, List.set_cons_succ, i64_w, i32_w]
            rfl
          refine pure_ (i := 5) (N := some 37) (v := ?_) (a' := ?_) #[true, true, false, false, true, true, false, false, false, false, false, false] rfl rfl (by kernel_rfl) (fun _ _ _ h => h) (Or.inl ⟨by rfl, ?_⟩) ?_ ?_
          rotate_left
          · intro w'
            go_simp
            with_reducible rfl
          rotate_left
          · simp only [Act.put, List.setIfInBounds_toArray, List.set_cons_zero, List.set_cons_succ, i64_w, i32_w]
            rfl
          refine one_ (i := 2) (N := some 34) #[true, true, true, false, true, true, false, false, false, false, false, false] rfl rfl (by kernel_rfl) (by decide) (fun K hK => ?_)
          obtain ⟨t3419, HA3420, H⟩ := bind_some H
          refine goes_ Tryd.func120 (by kernel_rfl) rfl #[.int .i64 a3401] (by rfl) rfl rfl (by (try simp only [List.map_toArray, List.map_cons, List.map_nil]); first | done | rfl) ?_
          refine (shape_inLeaf.calls a3401 t3419 _ ⟨HGl0.out.pass (l := []) HS.out⟩ ⟨Sep.start _⟩ HA3420).mono ?_
          rintro e_ w3421 ⟨rfl, hS⟩
          replace HS : Aside0 (Sep (fps []) w [] w3421) := ⟨HS.out.call hS⟩
          clear hS
          refine ⟨_, rfl, ?_⟩
          refine hK.out _ _ (trivial) (fun hHeld => ?_)
          clear hK K
          refine norm_ (a' := ?_) ?_ ?_
          rotate_left
          · show Act.put _ (some 34) _ = _
            simp only [Act.put, List.setIfInBounds_toArray, List.set_cons_zero, List.set_cons_succ, i64_w, i32_w]
            rfl
          by_cases c3422 : t3419 = 0
          · replace H := if_yes c3422 H
            have c3422b0 : (t3419 == 0) = true := beq_iff_eq.mpr c3422
            have c3422b1 : (t3419 != 0) = false := bne_eq_false_iff_eq.mpr c3422
            exact (none_no H).elim
          · replace H := if_no c3422 H
            have c3422b0 : (t3419 == 0) = false := beq_eq_false_iff_ne.mpr c3422
            have c3422b1 : (t3419 != 0) = true := bne_iff_ne.mpr c3422
            refine pure_ (i := 3) (N := some 35) (v := ?_) (a' := ?_) #[true, true, true, true, true, true, false, false, false, false, false, false] rfl rfl (by kernel_rfl) (fun _ _ _ h => h) (Or.inl ⟨by rfl, ?_⟩) ?_ ?_
            rotate_left
            · intro w'
              go_simp
              with_reducible rfl
            rotate_left
            · simp only [Act.put, List.setIfInBounds_toArray, List.set_cons_zero, List.set_cons_succ, i64_w, i32_w]
              rfl
            refine one_ (i := 6) (N := some 38) #[true, true, true, true, true, true, true, false, false, false, false, false] rfl rfl (by kernel_rfl) (by decide) (fun K hK => ?_)
            obtain ⟨t3423, HA3424, H⟩ := bind_some H
            refine goes_ Tryd.func120 (by kernel_rfl) rfl #[.int .i64 a3401] (by rfl) rfl rfl (by (try simp only [List.map_toArray, List.map_cons, List.map_nil]); first | done | rfl) ?_
            refine (shape_inLeaf.calls a3401 t3423 _ ⟨HGl0.out.pass (l := []) HS.out⟩ ⟨Sep.start _⟩ HA3424).mono ?_
            rintro e_ w3425 ⟨rfl, hS⟩
            replace HS : Aside0 (Sep (fps []) w [] w3425) := ⟨HS.out.call hS⟩
            clear hS
            refine ⟨_, rfl, ?_⟩
            refine hK.out _ _ (trivial) (fun hHeld => ?_)
            clear hK K
            refine norm_ (a' := ?_) ?_ ?_
            rotate_left
            · show Act.put _ (some 38) _ = _
              simp only [Act.put, List.setIfInBounds_toArray, List.set_cons_zero, List.set_cons_succ, i64_w, i32_w]
              rfl
            by_cases c3426 : t3423 = 0
            · replace H := if_yes c3426 H
              have c3426b0 : (t3423 == 0) = true := beq_iff_eq.mpr c3426
              have c3426b1 : (t3423 != 0) = false := bne_eq_false_iff_eq.mpr c3426
              exact (none_no H).elim
            · replace H := if_no c3426 H
              have c3426b0 : (t3423 == 0) = false := beq_eq_false_iff_ne.mpr c3426
              have c3426b1 : (t3423 != 0) = true := bne_iff_ne.mpr c3426
              refine pure_ (i := 7) (N := some 39) (v := ?_) (a' := ?_) #[true, true, true, true, true, true, true, true, false, false, false, false] rfl rfl (by kernel_rfl) (fun _ _ _ h => h) (Or.inl ⟨by rfl, ?_⟩) ?_ ?_
              rotate_left
              · intro w'
                go_simp
                with_reducible rfl
              rotate_left
              · simp only [Act.put, List.setIfInBounds_toArray, List.set_cons_zero, List.set_cons_succ, i64_w, i32_w]
                rfl
              refine pure_ (i := 8) (N := some 40) (v := ?_) (a' := ?_) #[true, true, true, true, true, true, true, true, true, false, false, false] rfl rfl (by kernel_rfl) (fun _ _ _ h => h) (Or.inl ⟨by rfl, ?_⟩) ?_ ?_
              rotate_left
              · intro w'
                go_simp
                with_reducible rfl
              rotate_left
              · simp only [Act.put, List.setIfInBounds_toArray, List.set_cons_zero, List.set_cons_succ, i64_w, i32_w]
                rfl
              refine pure_ (i := 9) (N := some 6) (v := ?_) (a' := ?_) #[true, true, true, true, true, true, true, true, true, true, false, false] rfl rfl (by kernel_rfl) (fun _ _ _ h => h) (Or.inl ⟨by rfl, ?_⟩) ?_ ?_
              rotate_left
              · intro w'
                go_simp
                with_reducible rfl
              rotate_left
              · simp only [Act.put, List.setIfInBounds_toArray, List.set_cons_zero, List.set_cons_succ, i64_w, i32_w]
                rfl
              refine pure_ (i := 10) (N := some 7) (v := ?_) (a' := ?_) #[true, true, true, true, true, true, true, true, true, true, true, false] rfl rfl (by kernel_rfl) (fun _ _ _ h => h) (Or.inl ⟨by rfl, ?_⟩) ?_ ?_
              rotate_left
              · intro w'
                go_simp
                with_reducible rfl
              rotate_left
              · simp only [Act.put, List.setIfInBounds_toArray, List.set_cons_zero, List.set_cons_succ, i64_w, i32_w]
                rfl
              refine pure_ (i := 11) (N := some 8) (v := ?_) (a' := ?_) #[true, true, true, true, true, true, true, true, true, true, true, true] rfl rfl (by kernel_rfl) (fun _ _ _ h => h) (Or.inl ⟨by rfl, ?_⟩) ?_ ?_
              rotate_left
              · intro w'
                go_simp
                with_reducible rfl
              rotate_left
              · simp only [Act.put, List.setIfInBounds_toArray, List.set_cons_zero, List.set_cons_succ, i64_w, i32_w]
                rfl
              refine done_ (by kernel_rfl) ?_
              skip
              skip
              go_wp2_with fail
              clear c3422 c3426
              go_ret3
              rw [← some_eq H]
              exact ⟨(by first | rfl | (simp [IntKind.wrap_u32]; done)), HS.out⟩
  · replace H := if_no c3410 H
    have c3410b0 : (t3407 == 0) = false := beq_eq_false_iff_ne.mpr c3410
    have c3410b1 : (t3407 != 0) = true := bne_iff_ne.mpr c3410
    clear c3410
    replace HS : Aside0 (Sep (fps []) w [] w3409) := ⟨HS.out.sub (.cons _ .slnil)⟩
    go_wp2_with fail
    go_ret3
    rw [← some_eq H]
    exact ⟨(by first | rfl | (simp [IntKind.wrap_u32]; done)), HS.out⟩

set_option maxHeartbeats 30000000 in
set_option maxRecDepth 100000 in
theorem obj_field.calls (k : Nat) (l3344 : List Int) (a3349 : Int) (a3350 : Int) (a3351 : Int) (a3352 : Int) (a3353 : Int) (a3354 : Int) (a3355 : Int) (a3356 : Bool) (g3340 : Nat) (g3342 : Nat) (A3345 : Option Addr) (m3346 : Nat) (n3347 : Nat) (r : Int × Int × Int × Int) (w : World)  (HGl0 : Aside0 (Gl 0 #[.int .i64 0, .int .i64 0, .int .i64 0, .int .i64 0, .int .i64 0] (fps [b7 g3340 g3342 a3350 a3351 a3352 a3353, b6 g3342 A3345 m3346 n3347 a3349, r5 A3345 m3346 n3347 l3344]) w)) (HS : Aside0 (Sep (fps [b7 g3340 g3342 a3350 a3351 a3352 a3353, b6 g3342 A3345 m3346 n3347 a3349, r5 A3345 m3346 n3347 l3344]) w [b7 g3340 g3342 a3350 a3351 a3352 a3353, b6 g3342 A3345 m3346 n3347 a3349, r5 A3345 m3346 n3347 l3344] w)) (H : Aside0 (obj_field.f k l3344 a3349 a3350 a3351 a3352 a3353 a3354 a3355 a3356 = some r)) :
    Calls Tryd.prog 116 #[.pointer (some ⟨g3340, 0, none⟩), .int .i64 a3354, .int .i64 a3355, .bool a3356] w fun e w' => e = .returned (.tuple #[.agg #[.int .i64 r.1, .int .i64 r.2.1], .int .i64 r.2.2.1]) ∧ Sep (fps [b7 g3340 g3342 a3350 a3351 a3352 a3353, b6 g3342 A3345 m3346 n3347 a3349, r5 A3345 m3346 n3347 l3344]) w [b7 g3340 g3342 a3350 a3351 a3352 a3353, b6 g3342 A3345 m3346 n3347 r.2.2.2, r5 A3345 m3346 n3347 l3344] w' := by
  generalize (fps [b7 g3340 g3342 a3350 a3351 a3352 a3353, b6 g3342 A3345 m3346 n3347 a3349, r5 A3345 m3346 n3347 l3344]) = FF at HS HGl0 ⊢
  obtain rfl := (row_len (HS.out.at2)).symm
  unfold obj_field.f at H
  go_enter Tryd.func116, Tryd.ntmps116
  go_wp2_with (first | ((with_reducible refine gate_dst (N := 8) rfl ?_); refine box_on ?hg (N := 8) ?hd (cs := #[.int .i64 0, .int .i64 0]) (t := 142) ?hr ?_; (case hd => rfl); (case hg => rfl); (case hr => first | (go_simp; done) | (go_simp; rfl)); intro g3373 hg w3374 hbox hb; replace HS : Aside0 (Sep FF w [b7 g3340 g3342 a3350 a3351 a3352 a3353, b6 g3342 A3345 l3344.length n3347 a3349, r5 A3345 l3344.length n3347 l3344, b19 g3373 0 0] w3374) := ⟨HS.out.box hg hbox hb⟩; clear hg hbox hb))
  obtain ⟨t3376, HA3377, H⟩ := bind_some H
  refine (obj_Lens.calls l3344 a3349 a3350 a3351 a3352 a3353 a3354 g3340 g3342 A3345 l3344.length n3347 t3376 _ ⟨HGl0.out.pass HS.out⟩ ⟨HS.out.begin⟩ HA3377).mono ?_
  rintro e_ w3378 ⟨rfl, hS⟩
  replace HS : Aside0 (Sep FF w [b7 g3340 g3342 a3350 a3351 a3352 a3353, b6 g3342 A3345 l3344.length n3347 t3376.2.2.2, r5 A3345 l3344.length n3347 l3344, b19 g3373 0 0] w3378) := ⟨HS.out.call hS⟩
  clear hS
  by_cases c3379 : t3376.2.2.1 = 0
  · replace H := if_yes c3379 H
    have c3379b0 : (t3376.2.2.1 == 0) = true := beq_iff_eq.mpr c3379
    have c3379b1 : (t3376.2.2.1 != 0) = false := bne_eq_false_iff_eq.mpr c3379
    clear c3379
    by_cases c3380 : a3356 = true
    · replace H := if_yes c3380 H
      have c3380b0 : a3356 = true := c3380
      have c3380b1 : (!a3356) = false := by rw [c3380b0]; rfl
      clear c3380
      by_cases c3381 : a3355 < 0
      · replace H := if_yes c3381 H
        have c3381b0 : decide (a3355 < 0) = true := decide_eq_true c3381
        clear c3381
        have hc3382 : w3378.cell? ⟨g3373, 0, none⟩ = some (.int .i64 0) := blk_cellv (HS.out.at3) 0 rfl
        have hz3383 : w3378.frozen? ⟨g3373, 0, none⟩ = false := blk_fz (HS.out.at3) 0
        have hc3384 : w3378.cell? ⟨g3373, 1, none⟩ = some (.int .i64 0) := blk_cellv (HS.out.at3) 1 rfl
        have hz3385 : w3378.frozen? ⟨g3373, 1, none⟩ = false := blk_fz (HS.out.at3) 1
        go_wp2_with (first | ((with_reducible refine gate_store (t := 142) (p := 8) rfl ?_); refine store_event (w1 := (World.setCell (World.setCell w3378 ⟨g3373, 0, none⟩ (.int .i64 0)) ⟨g3373, 1, none⟩ (.int .i64 0))) rfl (t := 142) (p := 8) rfl rfl ?hr ?_; (case hr => first | (go_simp; done) | (go_simp; rfl)); intro w3386 hst; clear hc3382 hz3383 hc3384 hz3385; have hq0 : Sep FF w [b7 g3340 g3342 a3350 a3351 a3352 a3353, b6 g3342 A3345 l3344.length n3347 t3376.2.2.2, r5 A3345 l3344.length n3347 l3344, b19 g3373 0 0] (World.setCell w3378 ⟨g3373, 0, none⟩ (.int .i64 0)) := (HS.out).set1 (l1 := [b7 g3340 g3342 a3350 a3351 a3352 a3353, b6 g3342 A3345 l3344.length n3347 t3376.2.2.2, r5 A3345 l3344.length n3347 l3344]) (l2 := []) 0 (.int .i64 0); have hq1 : Sep FF w [b7 g3340 g3342 a3350 a3351 a3352 a3353, b6 g3342 A3345 l3344.length n3347 t3376.2.2.2, r5 A3345 l3344.length n3347 l3344, b19 g3373 0 0] (World.setCell (World.setCell w3378 ⟨g3373, 0, none⟩ (.int .i64 0)) ⟨g3373, 1, none⟩ (.int .i64 0)) := (hq0).set1 (l1 := [b7 g3340 g3342 a3350 a3351 a3352 a3353, b6 g3342 A3345 l3344.length n3347 t3376.2.2.2, r5 A3345 l3344.length n3347 l3344]) (l2 := []) 1 (.int .i64 0); replace HS : Aside0 (Sep FF w [b7 g3340 g3342 a3350 a3351 a3352 a3353, b6 g3342 A3345 l3344.length n3347 t3376.2.2.2, r5 A3345 l3344.length n3347 l3344, b19 g3373 0 0] w3386) := ⟨by rw [hst]; exact hq1⟩; clear hq0 hq1; clear hst))
        have hc3387 : w3386.cell? ⟨g3373, 0, none⟩ = some (.int .i64 0) := blk_cellv (HS.out.at3) 0 rfl
        have hc3388 : w3386.cell? ⟨g3373, 1, none⟩ = some (.int .i64 0) := blk_cellv (HS.out.at3) 1 rfl
        refine bodyPost_ret (v := .tuple #[.agg #[.int .i64 0, .int .i64 0], .int .i64 7]) (by simp [results, Tryd.results116, go_sem, hc3387, hc3388]) rfl ?_
        rw [← some_eq H]
        exact ⟨(by first | rfl | (simp [IntKind.wrap_u32]; done)), HS.out.sub (.cons_cons _ (.cons_cons _ (.cons_cons _ (.cons _ .slnil))))⟩
      · replace H := if_no c3381 H
        have c3381b0 : decide (a3355 < 0) = false := decide_eq_false c3381
        clear c3381
        by_cases c3389 : a3355 ≥ t3376.2.1
        · replace H := if_yes c3389 H
          have c3389b0 : decide (t3376.2.1 ≤ a3355) = true := decide_eq_true c3389
          clear c3389
          have hc3390 : w3378.cell? ⟨g3373, 0, none⟩ = some (.int .i64 0) := blk_cellv (HS.out.at3) 0 rfl
          have hz3391 : w3378.frozen? ⟨g3373, 0, none⟩ = false := blk_fz (HS.out.at3) 0
          have hc3392 : w3378.cell? ⟨g3373, 1, none⟩ = some (.int .i64 0) := blk_cellv (HS.out.at3) 1 rfl
          have hz3393 : w3378.frozen? ⟨g3373, 1, none⟩ = false := blk_fz (HS.out.at3) 1
          go_wp2_with (first | ((with_reducible refine gate_store (t := 142) (p := 8) rfl ?_); refine store_event (w1 := (World.setCell (World.setCell w3378 ⟨g3373, 0, none⟩ (.int .i64 0)) ⟨g3373, 1, none⟩ (.int .i64 0))) rfl (t := 142) (p := 8) rfl rfl ?hr ?_; (case hr => first | (go_simp; done) | (go_simp; rfl)); intro w3394 hst; clear hc3390 hz3391 hc3392 hz3393; have hq0 : Sep FF w [b7 g3340 g3342 a3350 a3351 a3352 a3353, b6 g3342 A3345 l3344.length n3347 t3376.2.2.2, r5 A3345 l3344.length n3347 l3344, b19 g3373 0 0] (World.setCell w3378 ⟨g3373, 0, none⟩ (.int .i64 0)) := (HS.out).set1 (l1 := [b7 g3340 g3342 a3350 a3351 a3352 a3353, b6 g3342 A3345 l3344.length n3347 t3376.2.2.2, r5 A3345 l3344.length n3347 l3344]) (l2 := []) 0 (.int .i64 0); have hq1 : Sep FF w [b7 g3340 g3342 a3350 a3351 a3352 a3353, b6 g3342 A3345 l3344.length n3347 t3376.2.2.2, r5 A3345 l3344.length n3347 l3344, b19 g3373 0 0] (World.setCell (World.setCell w3378 ⟨g3373, 0, none⟩ (.int .i64 0)) ⟨g3373, 1, none⟩ (.int .i64 0)) := (hq0).set1 (l1 := [b7 g3340 g3342 a3350 a3351 a3352 a3353, b6 g3342 A3345 l3344.length n3347 t3376.2.2.2, r5 A3345 l3344.length n3347 l3344]) (l2 := []) 1 (.int .i64 0); replace HS : Aside0 (Sep FF w [b7 g3340 g3342 a3350 a3351 a3352 a3353, b6 g3342 A3345 l3344.length n3347 t3376.2.2.2, r5 A3345 l3344.length n3347 l3344, b19 g3373 0 0] w3394) := ⟨by rw [hst]; exact hq1⟩; clear hq0 hq1; clear hst))
          have hc3395 : w3394.cell? ⟨g3373, 0, none⟩ = some (.int .i64 0) := blk_cellv (HS.out.at3) 0 rfl
          have hc3396 : w3394.cell? ⟨g3373, 1, none⟩ = some (.int .i64 0) := blk_cellv (HS.out.at3) 1 rfl
          refine bodyPost_ret (v := .tuple #[.agg #[.int .i64 0, .int .i64 0], .int .i64 7]) (by simp [results, Tryd.results116, go_sem, hc3395, hc3396]) rfl ?_
          rw [← some_eq H]
          exact ⟨(by first | rfl | (simp [IntKind.wrap_u32]; done)), HS.out.sub (.cons_cons _ (.cons_cons _ (.cons_cons _ (.cons _ .slnil))))⟩
        · replace H := if_no c3389 H
          have c3389b0 : decide (t3376.2.1 ≤ a3355) = false := decide_eq_false c3389
          clear c3389
          go_wp2_with fail
          obtain ⟨t3397, HA3398, H⟩ := bind_some H
          refine (ground_Ground_Conf.calls l3344 t3376.2.2.2 a3350 a3351 a3352 a3353 g3340 g3342 A3345 l3344.length n3347 t3397 _ ⟨HGl0.out.pass HS.out⟩ ⟨HS.out.begin⟩ HA3398).mono ?_
          rintro e_ w3399 ⟨rfl, hS⟩
          replace HS : Aside0 (Sep FF w [b7 g3340 g3342 a3350 a3351 a3352 a3353, b6 g3342 A3345 l3344.length n3347 t3376.2.2.2, r5 A3345 l3344.length n3347 l3344, b19 g3373 0 0] w3399) := ⟨HS.out.call hS⟩
          clear hS
          have fl3400 : ∀ w, (Instr.field 30 (.agg #[.int .i64 t3397.1, .int .i64 t3397.2.1, .int .i64 t3397.2.2.1, .int .i64 t3397.2.2.2]) 1).run Tryd.prog w = .ok (.int .i64 t3397.2.1) w := fun _ => by kernel_rfl
          go_wp2_with fail
          clear fl3400
          obtain ⟨t3427, HA3428, H⟩ := bind_some H
          refine (shape_Place.calls _ t3397.2.1 (wrap64 (t3376.1 + t3376.2.1)) (wrap64 (t3376.1 + a3355)) t3427 _ ⟨HGl0.out.pass (l := []) HS.out⟩ ⟨Sep.start _⟩ HA3428).mono ?_
          rintro e_ w3429 ⟨rfl, hS⟩
          replace HS : Aside0 (Sep FF w [b7 g3340 g3342 a3350 a3351 a3352 a3353, b6 g3342 A3345 l3344.length n3347 t3376.2.2.2, r5 A3345 l3344.length n3347 l3344, b19 g3373 0 0] w3429) := ⟨HS.out.call hS⟩
          clear hS
          by_cases c3430 : t3427.2.2 = 0
          · replace H := if_yes c3430 H
            have c3430b0 : (t3427.2.2 == 0) = true := beq_iff_eq.mpr c3430
            have c3430b1 : (t3427.2.2 != 0) = false := bne_eq_false_iff_eq.mpr c3430
            clear c3430
            by_cases c3431 : t3427.1 < 0
            · replace H := if_yes c3431 H
              have c3431b0 : decide (t3427.1 < 0) = true := decide_eq_true c3431
              clear c3431
              have hc3432 : w3429.cell? ⟨g3373, 0, none⟩ = some (.int .i64 0) := blk_cellv (HS.out.at3) 0 rfl
              have hz3433 : w3429.frozen? ⟨g3373, 0, none⟩ = false := blk_fz (HS.out.at3) 0
              have hc3434 : w3429.cell? ⟨g3373, 1, none⟩ = some (.int .i64 0) := blk_cellv (HS.out.at3) 1 rfl
              have hz3435 : w3429.frozen? ⟨g3373, 1, none⟩ = false := blk_fz (HS.out.at3) 1
              go_wp2_with (first | ((with_reducible refine gate_store (t := 142) (p := 8) rfl ?_); refine store_event (w1 := (World.setCell (World.setCell w3429 ⟨g3373, 0, none⟩ (.int .i64 (wrap64 (a3354 - 1)))) ⟨g3373, 1, none⟩ (.int .i64 t3427.2.1))) rfl (t := 142) (p := 8) rfl rfl ?hr ?_; (case hr => first | (go_simp; done) | (go_simp; rfl)); intro w3436 hst; clear hc3432 hz3433 hc3434 hz3435; have hq0 : Sep FF w [b7 g3340 g3342 a3350 a3351 a3352 a3353, b6 g3342 A3345 l3344.length n3347 t3376.2.2.2, r5 A3345 l3344.length n3347 l3344, b19 g3373 (wrap64 (a3354 - 1)) 0] (World.setCell w3429 ⟨g3373, 0, none⟩ (.int .i64 (wrap64 (a3354 - 1)))) := (HS.out).set1 (l1 := [b7 g3340 g3342 a3350 a3351 a3352 a3353, b6 g3342 A3345 l3344.length n3347 t3376.2.2.2, r5 A3345 l3344.length n3347 l3344]) (l2 := []) 0 (.int .i64 (wrap64 (a3354 - 1))); have hq1 : Sep FF w [b7 g3340 g3342 a3350 a3351 a3352 a3353, b6 g3342 A3345 l3344.length n3347 t3376.2.2.2, r5 A3345 l3344.length n3347 l3344, b19 g3373 (wrap64 (a3354 - 1)) t3427.2.1] (World.setCell (World.setCell w3429 ⟨g3373, 0, none⟩ (.int .i64 (wrap64 (a3354 - 1)))) ⟨g3373, 1, none⟩ (.int .i64 t3427.2.1)) := (hq0).set1 (l1 := [b7 g3340 g3342 a3350 a3351 a3352 a3353, b6 g3342 A3345 l3344.length n3347 t3376.2.2.2, r5 A3345 l3344.length n3347 l3344]) (l2 := []) 1 (.int .i64 t3427.2.1); replace HS : Aside0 (Sep FF w [b7 g3340 g3342 a3350 a3351 a3352 a3353, b6 g3342 A3345 l3344.length n3347 t3376.2.2.2, r5 A3345 l3344.length n3347 l3344, b19 g3373 (wrap64 (a3354 - 1)) t3427.2.1] w3436) := ⟨by rw [hst]; exact hq1⟩; clear hq0 hq1; clear hst))
              have hc3437 : w3436.cell? ⟨g3373, 0, none⟩ = some (.int .i64 (wrap64 (a3354 - 1))) := blk_cellv (HS.out.at3) 0 rfl
              have hc3438 : w3436.cell? ⟨g3373, 1, none⟩ = some (.int .i64 t3427.2.1) := blk_cellv (HS.out.at3) 1 rfl
              refine bodyPost_ret (v := .tuple #[.agg #[.int .i64 (wrap64 (a3354 - 1)), .int .i64 t3427.2.1], .int .i64 0]) (by simp [results, Tryd.results116, go_sem, hc3437, hc3438]) rfl ?_
              rw [← some_eq H]
              exact ⟨(by first | rfl | (simp [IntKind.wrap_u32]; done)), HS.out.sub (.cons_cons _ (.cons_cons _ (.cons_cons _ (.cons _ .slnil))))⟩
            · replace H := if_no c3431 H
              have c3431b0 : decide (t3427.1 < 0) = false := decide_eq_false c3431
              clear c3431
              go_wp2_with fail
              obtain ⟨t3439, HA3440, H⟩ := bind_some H
              refine (ground_Ground_Word.calls l3344 t3376.2.2.2 a3350 a3351 a3352 a3353 (wrap64 (a3354 - 1)) (wrap64 (8 + t3427.1)) g3340 g3342 A3345 l3344.length n3347 t3439 _ ⟨HGl0.out.pass HS.out⟩ ⟨HS.out.begin⟩ HA3440).mono ?_
              rintro e_ w3441 ⟨rfl, hS⟩
              replace HS : Aside0 (Sep FF w [b7 g3340 g3342 a3350 a3351 a3352 a3353, b6 g3342 A3345 l3344.length n3347 t3439.2, r5 A3345 l3344.length n3347 l3344, b19 g3373 0 0] w3441) := ⟨HS.out.call hS⟩
              clear hS
              by_cases c3442 : (wrap64 (t3439.1)) = 0
              · replace H := if_yes c3442 H
                have c3442b0 : ((wrap64 (t3439.1)) == 0) = true := beq_iff_eq.mpr c3442
                have c3442b1 : ((wrap64 (t3439.1)) != 0) = false := bne_eq_false_iff_eq.mpr c3442
                clear c3442
                have hc3443 : w3441.cell? ⟨g3373, 0, none⟩ = some (.int .i64 0) := blk_cellv (HS.out.at3) 0 rfl
                have hz3444 : w3441.frozen? ⟨g3373, 0, none⟩ = false := blk_fz (HS.out.at3) 0
                have hc3445 : w3441.cell? ⟨g3373, 1, none⟩ = some (.int .i64 0) := blk_cellv (HS.out.at3) 1 rfl
                have hz3446 : w3441.frozen? ⟨g3373, 1, none⟩ = false := blk_fz (HS.out.at3) 1
                go_wp2_with (first | ((with_reducible refine gate_store (t := 142) (p := 8) rfl ?_); refine store_event (w1 := (World.setCell (World.setCell w3441 ⟨g3373, 0, none⟩ (.int .i64 0)) ⟨g3373, 1, none⟩ (.int .i64 0))) rfl (t := 142) (p := 8) rfl rfl ?hr ?_; (case hr => first | (go_simp; done) | (go_simp; rfl)); intro w3447 hst; clear hc3443 hz3444 hc3445 hz3446; have hq0 : Sep FF w [b7 g3340 g3342 a3350 a3351 a3352 a3353, b6 g3342 A3345 l3344.length n3347 t3439.2, r5 A3345 l3344.length n3347 l3344, b19 g3373 0 0] (World.setCell w3441 ⟨g3373, 0, none⟩ (.int .i64 0)) := (HS.out).set1 (l1 := [b7 g3340 g3342 a3350 a3351 a3352 a3353, b6 g3342 A3345 l3344.length n3347 t3439.2, r5 A3345 l3344.length n3347 l3344]) (l2 := []) 0 (.int .i64 0); have hq1 : Sep FF w [b7 g3340 g3342 a3350 a3351 a3352 a3353, b6 g3342 A3345 l3344.length n3347 t3439.2, r5 A3345 l3344.length n3347 l3344, b19 g3373 0 0] (World.setCell (World.setCell w3441 ⟨g3373, 0, none⟩ (.int .i64 0)) ⟨g3373, 1, none⟩ (.int .i64 0)) := (hq0).set1 (l1 := [b7 g3340 g3342 a3350 a3351 a3352 a3353, b6 g3342 A3345 l3344.length n3347 t3439.2, r5 A3345 l3344.length n3347 l3344]) (l2 := []) 1 (.int .i64 0); replace HS : Aside0 (Sep FF w [b7 g3340 g3342 a3350 a3351 a3352 a3353, b6 g3342 A3345 l3344.length n3347 t3439.2, r5 A3345 l3344.length n3347 l3344, b19 g3373 0 0] w3447) := ⟨by rw [hst]; exact hq1⟩; clear hq0 hq1; clear hst))
                have hc3448 : w3447.cell? ⟨g3373, 0, none⟩ = some (.int .i64 0) := blk_cellv (HS.out.at3) 0 rfl
                have hc3449 : w3447.cell? ⟨g3373, 1, none⟩ = some (.int .i64 0) := blk_cellv (HS.out.at3) 1 rfl
                refine bodyPost_ret (v := .tuple #[.agg #[.int .i64 0, .int .i64 0], .int .i64 7]) (by simp [results, Tryd.results116, go_sem, hc3448, hc3449]) rfl ?_
                rw [← some_eq H]
                exact ⟨(by first | rfl | (simp [IntKind.wrap_u32]; done)), HS.out.sub (.cons_cons _ (.cons_cons _ (.cons_cons _ (.cons _ .slnil))))⟩
              · replace H := if_no c3442 H
                have c3442b0 : ((wrap64 (t3439.1)) == 0) = false := beq_eq_false_iff_ne.mpr c3442
                have c3442b1 : ((wrap64 (t3439.1)) != 0) = true := bne_iff_ne.mpr c3442
                clear c3442
                have hc3450 : w3441.cell? ⟨g3373, 0, none⟩ = some (.int .i64 0) := blk_cellv (HS.out.at3) 0 rfl
                have hz3451 : w3441.frozen? ⟨g3373, 0, none⟩ = false := blk_fz (HS.out.at3) 0
                have hc3452 : w3441.cell? ⟨g3373, 1, none⟩ = some (.int .i64 0) := blk_cellv (HS.out.at3) 1 rfl
                have hz3453 : w3441.frozen? ⟨g3373, 1, none⟩ = false := blk_fz (HS.out.at3) 1
                go_wp2_with (first | ((with_reducible refine gate_store (t := 142) (p := 8) rfl ?_); refine store_event (w1 := (World.setCell (World.setCell w3441 ⟨g3373, 0, none⟩ (.int .i64 (wrap64 ((wrap64 (t3439.1)) - 1)))) ⟨g3373, 1, none⟩ (.int .i64 t3427.2.1))) rfl (t := 142) (p := 8) rfl rfl ?hr ?_; (case hr => first | (go_simp; done) | (go_simp; rfl)); intro w3454 hst; clear hc3450 hz3451 hc3452 hz3453; have hq0 : Sep FF w [b7 g3340 g3342 a3350 a3351 a3352 a3353, b6 g3342 A3345 l3344.length n3347 t3439.2, r5 A3345 l3344.length n3347 l3344, b19 g3373 (wrap64 ((wrap64 (t3439.1)) - 1)) 0] (World.setCell w3441 ⟨g3373, 0, none⟩ (.int .i64 (wrap64 ((wrap64 (t3439.1)) - 1)))) := (HS.out).set1 (l1 := [b7 g3340 g3342 a3350 a3351 a3352 a3353, b6 g3342 A3345 l3344.length n3347 t3439.2, r5 A3345 l3344.length n3347 l3344]) (l2 := []) 0 (.int .i64 (wrap64 ((wrap64 (t3439.1)) - 1))); have hq1 : Sep FF w [b7 g3340 g3342 a3350 a3351 a3352 a3353, b6 g3342 A3345 l3344.length n3347 t3439.2, r5 A3345 l3344.length n3347 l3344, b19 g3373 (wrap64 ((wrap64 (t3439.1)) - 1)) t3427.2.1] (World.setCell (World.setCell w3441 ⟨g3373, 0, none⟩ (.int .i64 (wrap64 ((wrap64 (t3439.1)) - 1)))) ⟨g3373, 1, none⟩ (.int .i64 t3427.2.1)) := (hq0).set1 (l1 := [b7 g3340 g3342 a3350 a3351 a3352 a3353, b6 g3342 A3345 l3344.length n3347 t3439.2, r5 A3345 l3344.length n3347 l3344]) (l2 := []) 1 (.int .i64 t3427.2.1); replace HS : Aside0 (Sep FF w [b7 g3340 g3342 a3350 a3351 a3352 a3353, b6 g3342 A3345 l3344.length n3347 t3439.2, r5 A3345 l3344.length n3347 l3344, b19 g3373 (wrap64 ((wrap64 (t3439.1)) - 1)) t3427.2.1] w3454) := ⟨by rw [hst]; exact hq1⟩; clear hq0 hq1; clear hst))
                have hc3455 : w3454.cell? ⟨g3373, 0, none⟩ = some (.int .i64 (wrap64 ((wrap64 (t3439.1)) - 1))) := blk_cellv (HS.out.at3) 0 rfl
                have hc3456 : w3454.cell? ⟨g3373, 1, none⟩ = some (.int .i64 t3427.2.1) := blk_cellv (HS.out.at3) 1 rfl
                refine bodyPost_ret (v := .tuple #[.agg #[.int .i64 (wrap64 ((wrap64 (t3439.1)) - 1)), .int .i64 t3427.2.1], .int .i64 0]) (by simp [results, Tryd.results116, go_sem, hc3455, hc3456]) rfl ?_
                rw [← some_eq H]
                exact ⟨(by first | rfl | (simp [IntKind.wrap_u32]; done)), HS.out.sub (.cons_cons _ (.cons_cons _ (.cons_cons _ (.cons _ .slnil))))⟩
          · replace H := if_no c3430 H
            have c3430b0 : (t3427.2.2 == 0) = false := beq_eq_false_iff_ne.mpr c3430
            have c3430b1 : (t3427.2.2 != 0) = true := bne_iff_ne.mpr c3430
            clear c3430
            have hc3457 : w3429.cell? ⟨g3373, 0, none⟩ = some (.int .i64 0) := blk_cellv (HS.out.at3) 0 rfl
            have hz3458 : w3429.frozen? ⟨g3373, 0, none⟩ = false := blk_fz (HS.out.at3) 0
            have hc3459 : w3429.cell? ⟨g3373, 1, none⟩ = some (.int .i64 0) := blk_cellv (HS.out.at3) 1 rfl
            have hz3460 : w3429.frozen? ⟨g3373, 1, none⟩ = false := blk_fz (HS.out.at3) 1
            go_wp2_with (first | ((with_reducible refine gate_store (t := 142) (p := 8) rfl ?_); refine store_event (w1 := (World.setCell (World.setCell w3429 ⟨g3373, 0, none⟩ (.int .i64 0)) ⟨g3373, 1, none⟩ (.int .i64 0))) rfl (t := 142) (p := 8) rfl rfl ?hr ?_; (case hr => first | (go_simp; done) | (go_simp; rfl)); intro w3461 hst; clear hc3457 hz3458 hc3459 hz3460; have hq0 : Sep FF w [b7 g3340 g3342 a3350 a3351 a3352 a3353, b6 g3342 A3345 l3344.length n3347 t3376.2.2.2, r5 A3345 l3344.length n3347 l3344, b19 g3373 0 0] (World.setCell w3429 ⟨g3373, 0, none⟩ (.int .i64 0)) := (HS.out).set1 (l1 := [b7 g3340 g3342 a3350 a3351 a3352 a3353, b6 g3342 A3345 l3344.length n3347 t3376.2.2.2, r5 A3345 l3344.length n3347 l3344]) (l2 := []) 0 (.int .i64 0); have hq1 : Sep FF w [b7 g3340 g3342 a3350 a3351 a3352 a3353, b6 g3342 A3345 l3344.length n3347 t3376.2.2.2, r5 A3345 l3344.length n3347 l3344, b19 g3373 0 0] (World.setCell (World.setCell w3429 ⟨g3373, 0, none⟩ (.int .i64 0)) ⟨g3373, 1, none⟩ (.int .i64 0)) := (hq0).set1 (l1 := [b7 g3340 g3342 a3350 a3351 a3352 a3353, b6 g3342 A3345 l3344.length n3347 t3376.2.2.2, r5 A3345 l3344.length n3347 l3344]) (l2 := []) 1 (.int .i64 0); replace HS : Aside0 (Sep FF w [b7 g3340 g3342 a3350 a3351 a3352 a3353, b6 g3342 A3345 l3344.length n3347 t3376.2.2.2, r5 A3345 l3344.length n3347 l3344, b19 g3373 0 0] w3461) := ⟨by rw [hst]; exact hq1⟩; clear hq0 hq1; clear hst))
            have hc3462 : w3461.cell? ⟨g3373, 0, none⟩ = some (.int .i64 0) := blk_cellv (HS.out.at3) 0 rfl
            have hc3463 : w3461.cell? ⟨g3373, 1, none⟩ = some (.int .i64 0) := blk_cellv (HS.out.at3) 1 rfl
            refine bodyPost_ret (v := .tuple #[.agg #[.int .i64 0, .int .i64 0], .int .i64 t3427.2.2]) (by simp [results, Tryd.results116, go_sem, hc3462, hc3463]) rfl ?_
            rw [← some_eq H]
            exact ⟨(by first | rfl | (simp [IntKind.wrap_u32]; done)), HS.out.sub (.cons_cons _ (.cons_cons _ (.cons_cons _ (.cons _ .slnil))))⟩
    · replace H := if_no c3380 H
      have c3380b0 : a3356 = false := by simpa using c3380
      have c3380b1 : (!a3356) = true := by rw [c3380b0]; rfl
      clear c3380
      by_cases c3464 : a3355 < 0
      · replace H := if_yes c3464 H
        have c3464b0 : decide (a3355 < 0) = true := decide_eq_true c3464
        clear c3464
        have hc3465 : w3378.cell? ⟨g3373, 0, none⟩ = some (.int .i64 0) := blk_cellv (HS.out.at3) 0 rfl
        have hz3466 : w3378.frozen? ⟨g3373, 0, none⟩ = false := blk_fz (HS.out.at3) 0
        have hc3467 : w3378.cell? ⟨g3373, 1, none⟩ = some (.int .i64 0) := blk_cellv (HS.out.at3) 1 rfl
        have hz3468 : w3378.frozen? ⟨g3373, 1, none⟩ = false := blk_fz (HS.out.at3) 1
        go_wp2_with (first | ((with_reducible refine gate_store (t := 142) (p := 8) rfl ?_); refine store_event (w1 := (World.setCell (World.setCell w3378 ⟨g3373, 0, none⟩ (.int .i64 0)) ⟨g3373, 1, none⟩ (.int .i64 0))) rfl (t := 142) (p := 8) rfl rfl ?hr ?_; (case hr => first | (go_simp; done) | (go_simp; rfl)); intro w3469 hst; clear hc3465 hz3466 hc3467 hz3468; have hq0 : Sep FF w [b7 g3340 g3342 a3350 a3351 a3352 a3353, b6 g3342 A3345 l3344.length n3347 t3376.2.2.2, r5 A3345 l3344.length n3347 l3344, b19 g3373 0 0] (World.setCell w3378 ⟨g3373, 0, none⟩ (.int .i64 0)) := (HS.out).set1 (l1 := [b7 g3340 g3342 a3350 a3351 a3352 a3353, b6 g3342 A3345 l3344.length n3347 t3376.2.2.2, r5 A3345 l3344.length n3347 l3344]) (l2 := []) 0 (.int .i64 0); have hq1 : Sep FF w [b7 g3340 g3342 a3350 a3351 a3352 a3353, b6 g3342 A3345 l3344.length n3347 t3376.2.2.2, r5 A3345 l3344.length n3347 l3344, b19 g3373 0 0] (World.setCell (World.setCell w3378 ⟨g3373, 0, none⟩ (.int .i64 0)) ⟨g3373, 1, none⟩ (.int .i64 0)) := (hq0).set1 (l1 := [b7 g3340 g3342 a3350 a3351 a3352 a3353, b6 g3342 A3345 l3344.length n3347 t3376.2.2.2, r5 A3345 l3344.length n3347 l3344]) (l2 := []) 1 (.int .i64 0); replace HS : Aside0 (Sep FF w [b7 g3340 g3342 a3350 a3351 a3352 a3353, b6 g3342 A3345 l3344.length n3347 t3376.2.2.2, r5 A3345 l3344.length n3347 l3344, b19 g3373 0 0] w3469) := ⟨by rw [hst]; exact hq1⟩; clear hq0 hq1; clear hst))
        have hc3470 : w3469.cell? ⟨g3373, 0, none⟩ = some (.int .i64 0) := blk_cellv (HS.out.at3) 0 rfl
        have hc3471 : w3469.cell? ⟨g3373, 1, none⟩ = some (.int .i64 0) := blk_cellv (HS.out.at3) 1 rfl
        refine bodyPost_ret (v := .tuple #[.agg #[.int .i64 0, .int .i64 0], .int .i64 7]) (by simp [results, Tryd.results116, go_sem, hc3470, hc3471]) rfl ?_
        rw [← some_eq H]
        exact ⟨(by first | rfl | (simp [IntKind.wrap_u32]; done)), HS.out.sub (.cons_cons _ (.cons_cons _ (.cons_cons _ (.cons _ .slnil))))⟩
      · replace H := if_no c3464 H
        have c3464b0 : decide (a3355 < 0) = false := decide_eq_false c3464
        clear c3464
        by_cases c3472 : a3355 ≥ t3376.1
        · replace H := if_yes c3472 H
          have c3472b0 : decide (t3376.1 ≤ a3355) = true := decide_eq_true c3472
          clear c3472
          have hc3473 : w3378.cell? ⟨g3373, 0, none⟩ = some (.int .i64 0) := blk_cellv (HS.out.at3) 0 rfl
          have hz3474 : w3378.frozen? ⟨g3373, 0, none⟩ = false := blk_fz (HS.out.at3) 0
          have hc3475 : w3378.cell? ⟨g3373, 1, none⟩ = some (.int .i64 0) := blk_cellv (HS.out.at3) 1 rfl
          have hz3476 : w3378.frozen? ⟨g3373, 1, none⟩ = false := blk_fz (HS.out.at3) 1
          go_wp2_with (first | ((with_reducible refine gate_store (t := 142) (p := 8) rfl ?_); refine store_event (w1 := (World.setCell (World.setCell w3378 ⟨g3373, 0, none⟩ (.int .i64 0)) ⟨g3373, 1, none⟩ (.int .i64 0))) rfl (t := 142) (p := 8) rfl rfl ?hr ?_; (case hr => first | (go_simp; done) | (go_simp; rfl)); intro w3477 hst; clear hc3473 hz3474 hc3475 hz3476; have hq0 : Sep FF w [b7 g3340 g3342 a3350 a3351 a3352 a3353, b6 g3342 A3345 l3344.length n3347 t3376.2.2.2, r5 A3345 l3344.length n3347 l3344, b19 g3373 0 0] (World.setCell w3378 ⟨g3373, 0, none⟩ (.int .i64 0)) := (HS.out).set1 (l1 := [b7 g3340 g3342 a3350 a3351 a3352 a3353, b6 g3342 A3345 l3344.length n3347 t3376.2.2.2, r5 A3345 l3344.length n3347 l3344]) (l2 := []) 0 (.int .i64 0); have hq1 : Sep FF w [b7 g3340 g3342 a3350 a3351 a3352 a3353, b6 g3342 A3345 l3344.length n3347 t3376.2.2.2, r5 A3345 l3344.length n3347 l3344, b19 g3373 0 0] (World.setCell (World.setCell w3378 ⟨g3373, 0, none⟩ (.int .i64 0)) ⟨g3373, 1, none⟩ (.int .i64 0)) := (hq0).set1 (l1 := [b7 g3340 g3342 a3350 a3351 a3352 a3353, b6 g3342 A3345 l3344.length n3347 t3376.2.2.2, r5 A3345 l3344.length n3347 l3344]) (l2 := []) 1 (.int .i64 0); replace HS : Aside0 (Sep FF w [b7 g3340 g3342 a3350 a3351 a3352 a3353, b6 g3342 A3345 l3344.length n3347 t3376.2.2.2, r5 A3345 l3344.length n3347 l3344, b19 g3373 0 0] w3477) := ⟨by rw [hst]; exact hq1⟩; clear hq0 hq1; clear hst))
          have hc3478 : w3477.cell? ⟨g3373, 0, none⟩ = some (.int .i64 0) := blk_cellv (HS.out.at3) 0 rfl
          have hc3479 : w3477.cell? ⟨g3373, 1, none⟩ = some (.int .i64 0) := blk_cellv (HS.out.at3) 1 rfl
          refine bodyPost_ret (v := .tuple #[.agg #[.int .i64 0, .int .i64 0], .int .i64 7]) (by simp [results, Tryd.results116, go_sem, hc3478, hc3479]) rfl ?_
          rw [← some_eq H]
          exact ⟨(by first | rfl | (simp [IntKind.wrap_u32]; done)), HS.out.sub (.cons_cons _ (.cons_cons _ (.cons_cons _ (.cons _ .slnil))))⟩
        · replace H := if_no c3472 H
          have c3472b0 : decide (t3376.1 ≤ a3355) = false := decide_eq_false c3472
          clear c3472
          go_wp2_with fail
          obtain ⟨t3397, HA3480, H⟩ := bind_some H
          refine (ground_Ground_Conf.calls l3344 t3376.2.2.2 a3350 a3351 a3352 a3353 g3340 g3342 A3345 l3344.length n3347 t3397 _ ⟨HGl0.out.pass HS.out⟩ ⟨HS.out.begin⟩ HA3480).mono ?_
          rintro e_ w3481 ⟨rfl, hS⟩
          replace HS : Aside0 (Sep FF w [b7 g3340 g3342 a3350 a3351 a3352 a3353, b6 g3342 A3345 l3344.length n3347 t3376.2.2.2, r5 A3345 l3344.length n3347 l3344, b19 g3373 0 0] w3481) := ⟨HS.out.call hS⟩
          clear hS
          have fl3482 : ∀ w, (Instr.field 30 (.agg #[.int .i64 t3397.1, .int .i64 t3397.2.1, .int .i64 t3397.2.2.1, .int .i64 t3397.2.2.2]) 1).run Tryd.prog w = .ok (.int .i64 t3397.2.1) w := fun _ => by kernel_rfl
          go_wp2_with fail
          clear fl3482
          obtain ⟨t3427, HA3483, H⟩ := bind_some H
          refine (shape_Place.calls _ t3397.2.1 (wrap64 (t3376.1 + t3376.2.1)) (wrap64 (a3355)) t3427 _ ⟨HGl0.out.pass (l := []) HS.out⟩ ⟨Sep.start _⟩ HA3483).mono ?_
          rintro e_ w3484 ⟨rfl, hS⟩
          replace HS : Aside0 (Sep FF w [b7 g3340 g3342 a3350 a3351 a3352 a3353, b6 g3342 A3345 l3344.length n3347 t3376.2.2.2, r5 A3345 l3344.length n3347 l3344, b19 g3373 0 0] w3484) := ⟨HS.out.call hS⟩
          clear hS
          by_cases c3485 : t3427.2.2 = 0
          · replace H := if_yes c3485 H
            have c3485b0 : (t3427.2.2 == 0) = true := beq_iff_eq.mpr c3485
            have c3485b1 : (t3427.2.2 != 0) = false := bne_eq_false_iff_eq.mpr c3485
            clear c3485
            by_cases c3486 : t3427.1 < 0
            · replace H := if_yes c3486 H
              have c3486b0 : decide (t3427.1 < 0) = true := decide_eq_true c3486
              clear c3486
              have hc3487 : w3484.cell? ⟨g3373, 0, none⟩ = some (.int .i64 0) := blk_cellv (HS.out.at3) 0 rfl
              have hz3488 : w3484.frozen? ⟨g3373, 0, none⟩ = false := blk_fz (HS.out.at3) 0
              have hc3489 : w3484.cell? ⟨g3373, 1, none⟩ = some (.int .i64 0) := blk_cellv (HS.out.at3) 1 rfl
              have hz3490 : w3484.frozen? ⟨g3373, 1, none⟩ = false := blk_fz (HS.out.at3) 1
              go_wp2_with (first | ((with_reducible refine gate_store (t := 142) (p := 8) rfl ?_); refine store_event (w1 := (World.setCell (World.setCell w3484 ⟨g3373, 0, none⟩ (.int .i64 (wrap64 (a3354 - 1)))) ⟨g3373, 1, none⟩ (.int .i64 t3427.2.1))) rfl (t := 142) (p := 8) rfl rfl ?hr ?_; (case hr => first | (go_simp; done) | (go_simp; rfl)); intro w3491 hst; clear hc3487 hz3488 hc3489 hz3490; have hq0 : Sep FF w [b7 g3340 g3342 a3350 a3351 a3352 a3353, b6 g3342 A3345 l3344.length n3347 t3376.2.2.2, r5 A3345 l3344.length n3347 l3344, b19 g3373 (wrap64 (a3354 - 1)) 0] (World.setCell w3484 ⟨g3373, 0, none⟩ (.int .i64 (wrap64 (a3354 - 1)))) := (HS.out).set1 (l1 := [b7 g3340 g3342 a3350 a3351 a3352 a3353, b6 g3342 A3345 l3344.length n3347 t3376.2.2.2, r5 A3345 l3344.length n3347 l3344]) (l2 := []) 0 (.int .i64 (wrap64 (a3354 - 1))); have hq1 : Sep FF w [b7 g3340 g3342 a3350 a3351 a3352 a3353, b6 g3342 A3345 l3344.length n3347 t3376.2.2.2, r5 A3345 l3344.length n3347 l3344, b19 g3373 (wrap64 (a3354 - 1)) t3427.2.1] (World.setCell (World.setCell w3484 ⟨g3373, 0, none⟩ (.int .i64 (wrap64 (a3354 - 1)))) ⟨g3373, 1, none⟩ (.int .i64 t3427.2.1)) := (hq0).set1 (l1 := [b7 g3340 g3342 a3350 a3351 a3352 a3353, b6 g3342 A3345 l3344.length n3347 t3376.2.2.2, r5 A3345 l3344.length n3347 l3344]) (l2 := []) 1 (.int .i64 t3427.2.1); replace HS : Aside0 (Sep FF w [b7 g3340 g3342 a3350 a3351 a3352 a3353, b6 g3342 A3345 l3344.length n3347 t3376.2.2.2, r5 A3345 l3344.length n3347 l3344, b19 g3373 (wrap64 (a3354 - 1)) t3427.2.1] w3491) := ⟨by rw [hst]; exact hq1⟩; clear hq0 hq1; clear hst))
              have hc3492 : w3491.cell? ⟨g3373, 0, none⟩ = some (.int .i64 (wrap64 (a3354 - 1))) := blk_cellv (HS.out.at3) 0 rfl
              have hc3493 : w3491.cell? ⟨g3373, 1, none⟩ = some (.int .i64 t3427.2.1) := blk_cellv (HS.out.at3) 1 rfl
              refine bodyPost_ret (v := .tuple #[.agg #[.int .i64 (wrap64 (a3354 - 1)), .int .i64 t3427.2.1], .int .i64 0]) (by simp [results, Tryd.results116, go_sem, hc3492, hc3493]) rfl ?_
              rw [← some_eq H]
              exact ⟨(by first | rfl | (simp [IntKind.wrap_u32]; done)), HS.out.sub (.cons_cons _ (.cons_cons _ (.cons_cons _ (.cons _ .slnil))))⟩
            · replace H := if_no c3486 H
              have c3486b0 : decide (t3427.1 < 0) = false := decide_eq_false c3486
              clear c3486
              go_wp2_with fail
              obtain ⟨t3439, HA3494, H⟩ := bind_some H
              refine (ground_Ground_Word.calls l3344 t3376.2.2.2 a3350 a3351 a3352 a3353 (wrap64 (a3354 - 1)) (wrap64 (8 + t3427.1)) g3340 g3342 A3345 l3344.length n3347 t3439 _ ⟨HGl0.out.pass HS.out⟩ ⟨HS.out.begin⟩ HA3494).mono ?_
              rintro e_ w3495 ⟨rfl, hS⟩
              replace HS : Aside0 (Sep FF w [b7 g3340 g3342 a3350 a3351 a3352 a3353, b6 g3342 A3345 l3344.length n3347 t3439.2, r5 A3345 l3344.length n3347 l3344, b19 g3373 0 0] w3495) := ⟨HS.out.call hS⟩
              clear hS
              by_cases c3496 : (wrap64 (t3439.1)) = 0
              · replace H := if_yes c3496 H
                have c3496b0 : ((wrap64 (t3439.1)) == 0) = true := beq_iff_eq.mpr c3496
                have c3496b1 : ((wrap64 (t3439.1)) != 0) = false := bne_eq_false_iff_eq.mpr c3496
                clear c3496
                have hc3497 : w3495.cell? ⟨g3373, 0, none⟩ = some (.int .i64 0) := blk_cellv (HS.out.at3) 0 rfl
                have hz3498 : w3495.frozen? ⟨g3373, 0, none⟩ = false := blk_fz (HS.out.at3) 0
                have hc3499 : w3495.cell? ⟨g3373, 1, none⟩ = some (.int .i64 0) := blk_cellv (HS.out.at3) 1 rfl
                have hz3500 : w3495.frozen? ⟨g3373, 1, none⟩ = false := blk_fz (HS.out.at3) 1
                go_wp2_with (first | ((with_reducible refine gate_store (t := 142) (p := 8) rfl ?_); refine store_event (w1 := (World.setCell (World.setCell w3495 ⟨g3373, 0, none⟩ (.int .i64 0)) ⟨g3373, 1, none⟩ (.int .i64 0))) rfl (t := 142) (p := 8) rfl rfl ?hr ?_; (case hr => first | (go_simp; done) | (go_simp; rfl)); intro w3501 hst; clear hc3497 hz3498 hc3499 hz3500; have hq0 : Sep FF w [b7 g3340 g3342 a3350 a3351 a3352 a3353, b6 g3342 A3345 l3344.length n3347 t3439.2, r5 A3345 l3344.length n3347 l3344, b19 g3373 0 0] (World.setCell w3495 ⟨g3373, 0, none⟩ (.int .i64 0)) := (HS.out).set1 (l1 := [b7 g3340 g3342 a3350 a3351 a3352 a3353, b6 g3342 A3345 l3344.length n3347 t3439.2, r5 A3345 l3344.length n3347 l3344]) (l2 := []) 0 (.int .i64 0); have hq1 : Sep FF w [b7 g3340 g3342 a3350 a3351 a3352 a3353, b6 g3342 A3345 l3344.length n3347 t3439.2, r5 A3345 l3344.length n3347 l3344, b19 g3373 0 0] (World.setCell (World.setCell w3495 ⟨g3373, 0, none⟩ (.int .i64 0)) ⟨g3373, 1, none⟩ (.int .i64 0)) := (hq0).set1 (l1 := [b7 g3340 g3342 a3350 a3351 a3352 a3353, b6 g3342 A3345 l3344.length n3347 t3439.2, r5 A3345 l3344.length n3347 l3344]) (l2 := []) 1 (.int .i64 0); replace HS : Aside0 (Sep FF w [b7 g3340 g3342 a3350 a3351 a3352 a3353, b6 g3342 A3345 l3344.length n3347 t3439.2, r5 A3345 l3344.length n3347 l3344, b19 g3373 0 0] w3501) := ⟨by rw [hst]; exact hq1⟩; clear hq0 hq1; clear hst))
                have hc3502 : w3501.cell? ⟨g3373, 0, none⟩ = some (.int .i64 0) := blk_cellv (HS.out.at3) 0 rfl
                have hc3503 : w3501.cell? ⟨g3373, 1, none⟩ = some (.int .i64 0) := blk_cellv (HS.out.at3) 1 rfl
                refine bodyPost_ret (v := .tuple #[.agg #[.int .i64 0, .int .i64 0], .int .i64 7]) (by simp [results, Tryd.results116, go_sem, hc3502, hc3503]) rfl ?_
                rw [← some_eq H]
                exact ⟨(by first | rfl | (simp [IntKind.wrap_u32]; done)), HS.out.sub (.cons_cons _ (.cons_cons _ (.cons_cons _ (.cons _ .slnil))))⟩
              · replace H := if_no c3496 H
                have c3496b0 : ((wrap64 (t3439.1)) == 0) = false := beq_eq_false_iff_ne.mpr c3496
                have c3496b1 : ((wrap64 (t3439.1)) != 0) = true := bne_iff_ne.mpr c3496
                clear c3496
                have hc3504 : w3495.cell? ⟨g3373, 0, none⟩ = some (.int .i64 0) := blk_cellv (HS.out.at3) 0 rfl
                have hz3505 : w3495.frozen? ⟨g3373, 0, none⟩ = false := blk_fz (HS.out.at3) 0
                have hc3506 : w3495.cell? ⟨g3373, 1, none⟩ = some (.int .i64 0) := blk_cellv (HS.out.at3) 1 rfl
                have hz3507 : w3495.frozen? ⟨g3373, 1, none⟩ = false := blk_fz (HS.out.at3) 1
                go_wp2_with (first | ((with_reducible refine gate_store (t := 142) (p := 8) rfl ?_); refine store_event (w1 := (World.setCell (World.setCell w3495 ⟨g3373, 0, none⟩ (.int .i64 (wrap64 ((wrap64 (t3439.1)) - 1)))) ⟨g3373, 1, none⟩ (.int .i64 t3427.2.1))) rfl (t := 142) (p := 8) rfl rfl ?hr ?_; (case hr => first | (go_simp; done) | (go_simp; rfl)); intro w3508 hst; clear hc3504 hz3505 hc3506 hz3507; have hq0 : Sep FF w [b7 g3340 g3342 a3350 a3351 a3352 a3353, b6 g3342 A3345 l3344.length n3347 t3439.2, r5 A3345 l3344.length n3347 l3344, b19 g3373 (wrap64 ((wrap64 (t3439.1)) - 1)) 0] (World.setCell w3495 ⟨g3373, 0, none⟩ (.int .i64 (wrap64 ((wrap64 (t3439.1)) - 1)))) := (HS.out).set1 (l1 := [b7 g3340 g3342 a3350 a3351 a3352 a3353, b6 g3342 A3345 l3344.length n3347 t3439.2, r5 A3345 l3344.length n3347 l3344]) (l2 := []) 0 (.int .i64 (wrap64 ((wrap64 (t3439.1)) - 1))); have hq1 : Sep FF w [b7 g3340 g3342 a3350 a3351 a3352 a3353, b6 g3342 A3345 l3344.length n3347 t3439.2, r5 A3345 l3344.length n3347 l3344, b19 g3373 (wrap64 ((wrap64 (t3439.1)) - 1)) t3427.2.1] (World.setCell (World.setCell w3495 ⟨g3373, 0, none⟩ (.int .i64 (wrap64 ((wrap64 (t3439.1)) - 1)))) ⟨g3373, 1, none⟩ (.int .i64 t3427.2.1)) := (hq0).set1 (l1 := [b7 g3340 g3342 a3350 a3351 a3352 a3353, b6 g3342 A3345 l3344.length n3347 t3439.2, r5 A3345 l3344.length n3347 l3344]) (l2 := []) 1 (.int .i64 t3427.2.1); replace HS : Aside0 (Sep FF w [b7 g3340 g3342 a3350 a3351 a3352 a3353, b6 g3342 A3345 l3344.length n3347 t3439.2, r5 A3345 l3344.length n3347 l3344, b19 g3373 (wrap64 ((wrap64 (t3439.1)) - 1)) t3427.2.1] w3508) := ⟨by rw [hst]; exact hq1⟩; clear hq0 hq1; clear hst))
                have hc3509 : w3508.cell? ⟨g3373, 0, none⟩ = some (.int .i64 (wrap64 ((wrap64 (t3439.1)) - 1))) := blk_cellv (HS.out.at3) 0 rfl
                have hc3510 : w3508.cell? ⟨g3373, 1, none⟩ = some (.int .i64 t3427.2.1) := blk_cellv (HS.out.at3) 1 rfl
                refine bodyPost_ret (v := .tuple #[.agg #[.int .i64 (wrap64 ((wrap64 (t3439.1)) - 1)), .int .i64 t3427.2.1], .int .i64 0]) (by simp [results, Tryd.results116, go_sem, hc3509, hc3510]) rfl ?_
                rw [← some_eq H]
                exact ⟨(by first | rfl | (simp [IntKind.wrap_u32]; done)), HS.out.sub (.cons_cons _ (.cons_cons _ (.cons_cons _ (.cons _ .slnil))))⟩
          · replace H := if_no c3485 H
            have c3485b0 : (t3427.2.2 == 0) = false := beq_eq_false_iff_ne.mpr c3485
            have c3485b1 : (t3427.2.2 != 0) = true := bne_iff_ne.mpr c3485
            clear c3485
            have hc3511 : w3484.cell? ⟨g3373, 0, none⟩ = some (.int .i64 0) := blk_cellv (HS.out.at3) 0 rfl
            have hz3512 : w3484.frozen? ⟨g3373, 0, none⟩ = false := blk_fz (HS.out.at3) 0
            have hc3513 : w3484.cell? ⟨g3373, 1, none⟩ = some (.int .i64 0) := blk_cellv (HS.out.at3) 1 rfl
            have hz3514 : w3484.frozen? ⟨g3373, 1, none⟩ = false := blk_fz (HS.out.at3) 1
            go_wp2_with (first | ((with_reducible refine gate_store (t := 142) (p := 8) rfl ?_); refine store_event (w1 := (World.setCell (World.setCell w3484 ⟨g3373, 0, none⟩ (.int .i64 0)) ⟨g3373, 1, none⟩ (.int .i64 0))) rfl (t := 142) (p := 8) rfl rfl ?hr ?_; (case hr => first | (go_simp; done) | (go_simp; rfl)); intro w3515 hst; clear hc3511 hz3512 hc3513 hz3514; have hq0 : Sep FF w [b7 g3340 g3342 a3350 a3351 a3352 a3353, b6 g3342 A3345 l3344.length n3347 t3376.2.2.2, r5 A3345 l3344.length n3347 l3344, b19 g3373 0 0] (World.setCell w3484 ⟨g3373, 0, none⟩ (.int .i64 0)) := (HS.out).set1 (l1 := [b7 g3340 g3342 a3350 a3351 a3352 a3353, b6 g3342 A3345 l3344.length n3347 t3376.2.2.2, r5 A3345 l3344.length n3347 l3344]) (l2 := []) 0 (.int .i64 0); have hq1 : Sep FF w [b7 g3340 g3342 a3350 a3351 a3352 a3353, b6 g3342 A3345 l3344.length n3347 t3376.2.2.2, r5 A3345 l3344.length n3347 l3344, b19 g3373 0 0] (World.setCell (World.setCell w3484 ⟨g3373, 0, none⟩ (.int .i64 0)) ⟨g3373, 1, none⟩ (.int .i64 0)) := (hq0).set1 (l1 := [b7 g3340 g3342 a3350 a3351 a3352 a3353, b6 g3342 A3345 l3344.length n3347 t3376.2.2.2, r5 A3345 l3344.length n3347 l3344]) (l2 := []) 1 (.int .i64 0); replace HS : Aside0 (Sep FF w [b7 g3340 g3342 a3350 a3351 a3352 a3353, b6 g3342 A3345 l3344.length n3347 t3376.2.2.2, r5 A3345 l3344.length n3347 l3344, b19 g3373 0 0] w3515) := ⟨by rw [hst]; exact hq1⟩; clear hq0 hq1; clear hst))
            have hc3516 : w3515.cell? ⟨g3373, 0, none⟩ = some (.int .i64 0) := blk_cellv (HS.out.at3) 0 rfl
            have hc3517 : w3515.cell? ⟨g3373, 1, none⟩ = some (.int .i64 0) := blk_cellv (HS.out.at3) 1 rfl
            refine bodyPost_ret (v := .tuple #[.agg #[.int .i64 0, .int .i64 0], .int .i64 t3427.2.2]) (by simp [results, Tryd.results116, go_sem, hc3516, hc3517]) rfl ?_
            rw [← some_eq H]
            exact ⟨(by first | rfl | (simp [IntKind.wrap_u32]; done)), HS.out.sub (.cons_cons _ (.cons_cons _ (.cons_cons _ (.cons _ .slnil))))⟩
  · replace H := if_no c3379 H
    have c3379b0 : (t3376.2.2.1 == 0) = false := beq_eq_false_iff_ne.mpr c3379
    have c3379b1 : (t3376.2.2.1 != 0) = true := bne_iff_ne.mpr c3379
    clear c3379
    have hc3518 : w3378.cell? ⟨g3373, 0, none⟩ = some (.int .i64 0) := blk_cellv (HS.out.at3) 0 rfl
    have hz3519 : w3378.frozen? ⟨g3373, 0, none⟩ = false := blk_fz (HS.out.at3) 0
    have hc3520 : w3378.cell? ⟨g3373, 1, none⟩ = some (.int .i64 0) := blk_cellv (HS.out.at3) 1 rfl
    have hz3521 : w3378.frozen? ⟨g3373, 1, none⟩ = false := blk_fz (HS.out.at3) 1
    go_wp2_with (first | ((with_reducible refine gate_store (t := 142) (p := 8) rfl ?_); refine store_event (w1 := (World.setCell (World.setCell w3378 ⟨g3373, 0, none⟩ (.int .i64 0)) ⟨g3373, 1, none⟩ (.int .i64 0))) rfl (t := 142) (p := 8) rfl rfl ?hr ?_; (case hr => first | (go_simp; done) | (go_simp; rfl)); intro w3522 hst; clear hc3518 hz3519 hc3520 hz3521; have hq0 : Sep FF w [b7 g3340 g3342 a3350 a3351 a3352 a3353, b6 g3342 A3345 l3344.length n3347 t3376.2.2.2, r5 A3345 l3344.length n3347 l3344, b19 g3373 0 0] (World.setCell w3378 ⟨g3373, 0, none⟩ (.int .i64 0)) := (HS.out).set1 (l1 := [b7 g3340 g3342 a3350 a3351 a3352 a3353, b6 g3342 A3345 l3344.length n3347 t3376.2.2.2, r5 A3345 l3344.length n3347 l3344]) (l2 := []) 0 (.int .i64 0); have hq1 : Sep FF w [b7 g3340 g3342 a3350 a3351 a3352 a3353, b6 g3342 A3345 l3344.length n3347 t3376.2.2.2, r5 A3345 l3344.length n3347 l3344, b19 g3373 0 0] (World.setCell (World.setCell w3378 ⟨g3373, 0, none⟩ (.int .i64 0)) ⟨g3373, 1, none⟩ (.int .i64 0)) := (hq0).set1 (l1 := [b7 g3340 g3342 a3350 a3351 a3352 a3353, b6 g3342 A3345 l3344.length n3347 t3376.2.2.2, r5 A3345 l3344.length n3347 l3344]) (l2 := []) 1 (.int .i64 0); replace HS : Aside0 (Sep FF w [b7 g3340 g3342 a3350 a3351 a3352 a3353, b6 g3342 A3345 l3344.length n3347 t3376.2.2.2, r5 A3345 l3344.length n3347 l3344, b19 g3373 0 0] w3522) := ⟨by rw [hst]; exact hq1⟩; clear hq0 hq1; clear hst))
    have hc3523 : w3522.cell? ⟨g3373, 0, none⟩ = some (.int .i64 0) := blk_cellv (HS.out.at3) 0 rfl
    have hc3524 : w3522.cell? ⟨g3373, 1, none⟩ = some (.int .i64 0) := blk_cellv (HS.out.at3) 1 rfl
    refine bodyPost_ret (v := .tuple #[.agg #[.int .i64 0, .int .i64 0], .int .i64 t3376.2.2.1]) (by simp [results, Tryd.results116, go_sem, hc3523, hc3524]) rfl ?_
    rw [← some_eq H]
    exact ⟨(by first | rfl | (simp [IntKind.wrap_u32]; done)), HS.out.sub (.cons_cons _ (.cons_cons _ (.cons_cons _ (.cons _ .slnil))))⟩

set_option maxHeartbeats 30000000 in
set_option maxRecDepth 100000 in
theorem obj_SetPtr.calls (k : Nat) (l3326 : List Int) (a3331 : Int) (a3332 : Int) (a3333 : Int) (a3334 : Int) (a3335 : Int) (a3336 : Int) (a3337 : Int) (a3338 : Int) (g3322 : Nat) (g3324 : Nat) (A3327 : Option Addr) (m3328 : Nat) (n3329 : Nat) (r : Int × Int × List Int) (w : World)  (HGl0 : Aside0 (Gl 0 #[.int .i64 0, .int .i64 0, .int .i64 0, .int .i64 0, .int .i64 0] (fps [b7 g3322 g3324 a3332 a3333 a3334 a3335, b6 g3324 A3327 m3328 n3329 a3331, r5 A3327 m3328 n3329 l3326]) w)) (HS : Aside0 (Sep (fps [b7 g3322 g3324 a3332 a3333 a3334 a3335, b6 g3324 A3327 m3328 n3329 a3331, r5 A3327 m3328 n3329 l3326]) w [b7 g3322 g3324 a3332 a3333 a3334 a3335, b6 g3324 A3327 m3328 n3329 a3331, r5 A3327 m3328 n3329 l3326] w)) (H : Aside0 (obj_SetPtr.f k l3326 a3331 a3332 a3333 a3334 a3335 a3336 a3337 a3338 = some r)) :
    Calls Tryd.prog 58 #[.pointer (some ⟨g3322, 0, none⟩), .int .i64 a3336, .int .i64 a3337, .int .i64 a3338] w fun e w' => e = .returned (.int .i64 r.1) ∧ Sep (fps [b7 g3322 g3324 a3332 a3333 a3334 a3335, b6 g3324 A3327 m3328 n3329 a3331, r5 A3327 m3328 n3329 l3326]) w [b7 g3322 g3324 a3332 a3333 a3334 a3335, b6 g3324 A3327 m3328 n3329 r.2.1, r5 A3327 m3328 n3329 r.2.2] w' := by
  generalize (fps [b7 g3322 g3324 a3332 a3333 a3334 a3335, b6 g3324 A3327 m3328 n3329 a3331, r5 A3327 m3328 n3329 l3326]) = FF at HS HGl0 ⊢
  obtain rfl := (row_len (HS.out.at2)).symm
  unfold obj_SetPtr.f at H
  go_enter Tryd.func58, Tryd.ntmps58
  go_wp2_with fail
  obtain ⟨t3561, HA3562, H⟩ := bind_some H
  refine (obj_field.calls _ l3326 a3331 a3332 a3333 a3334 a3335 a3336 a3337 false g3322 g3324 A3327 l3326.length n3329 t3561 _ ⟨HGl0.out.pass HS.out⟩ ⟨HS.out.begin⟩ HA3562).mono ?_
  rintro e_ w3563 ⟨rfl, hS⟩
  replace HS : Aside0 (Sep FF w [b7 g3322 g3324 a3332 a3333 a3334 a3335, b6 g3324 A3327 l3326.length n3329 t3561.2.2.2, r5 A3327 l3326.length n3329 l3326] w3563) := ⟨HS.out.call hS⟩
  clear hS
  by_cases c3572 : t3561.2.2.1 = 0
  · replace H := if_yes c3572 H
    have c3572b0 : (t3561.2.2.1 == 0) = true := beq_iff_eq.mpr c3572
    have c3572b1 : (t3561.2.2.1 != 0) = false := bne_eq_false_iff_eq.mpr c3572
    clear c3572
    by_cases c3573 : a3338 < 0
    · replace H := if_yes c3573 H
      have c3573b0 : decide (a3338 < 0) = true := decide_eq_true c3573
      clear c3573
      go_wp2_with (first | ((with_reducible refine gate_dst (N := 9) rfl ?_); refine box_on ?hg (N := 9) ?hd (cs := #[.int .i64 0, .int .i64 0]) (t := 142) ?hr ?_; (case hd => rfl); (case hg => rfl); (case hr => first | (go_simp; done) | (go_simp; rfl)); intro g3564 hg w3565 hbox hb; replace HS : Aside0 (Sep FF w [b7 g3322 g3324 a3332 a3333 a3334 a3335, b6 g3324 A3327 l3326.length n3329 t3561.2.2.2, r5 A3327 l3326.length n3329 l3326, b19 g3564 0 0] w3565) := ⟨HS.out.box hg hbox hb⟩; clear hg hbox hb; have hc3567 : w3565.cell? ⟨g3564, 0, none⟩ = some (.int .i64 0) := blk_cellv (HS.out.at3) 0 rfl; have hz3568 : w3565.frozen? ⟨g3564, 0, none⟩ = false := blk_fz (HS.out.at3) 0; have hc3569 : w3565.cell? ⟨g3564, 1, none⟩ = some (.int .i64 0) := blk_cellv (HS.out.at3) 1 rfl; have hz3570 : w3565.frozen? ⟨g3564, 1, none⟩ = false := blk_fz (HS.out.at3) 1) | ((with_reducible refine gate_store (t := 142) (p := 9) rfl ?_); refine store_event (w1 := (World.setCell (World.setCell w3565 ⟨g3564, 0, none⟩ (.int .i64 t3561.1)) ⟨g3564, 1, none⟩ (.int .i64 t3561.2.1))) rfl (t := 142) (p := 9) rfl rfl ?hr ?_; (case hr => first | (go_simp; done) | (go_simp; rfl)); intro w3571 hst; clear hc3567 hz3568 hc3569 hz3570; have hq0 : Sep FF w [b7 g3322 g3324 a3332 a3333 a3334 a3335, b6 g3324 A3327 l3326.length n3329 t3561.2.2.2, r5 A3327 l3326.length n3329 l3326, b19 g3564 t3561.1 0] (World.setCell w3565 ⟨g3564, 0, none⟩ (.int .i64 t3561.1)) := (HS.out).set1 (l1 := [b7 g3322 g3324 a3332 a3333 a3334 a3335, b6 g3324 A3327 l3326.length n3329 t3561.2.2.2, r5 A3327 l3326.length n3329 l3326]) (l2 := []) 0 (.int .i64 t3561.1); have hq1 : Sep FF w [b7 g3322 g3324 a3332 a3333 a3334 a3335, b6 g3324 A3327 l3326.length n3329 t3561.2.2.2, r5 A3327 l3326.length n3329 l3326, b19 g3564 t3561.1 t3561.2.1] (World.setCell (World.setCell w3565 ⟨g3564, 0, none⟩ (.int .i64 t3561.1)) ⟨g3564, 1, none⟩ (.int .i64 t3561.2.1)) := (hq0).set1 (l1 := [b7 g3322 g3324 a3332 a3333 a3334 a3335, b6 g3324 A3327 l3326.length n3329 t3561.2.2.2, r5 A3327 l3326.length n3329 l3326]) (l2 := []) 1 (.int .i64 t3561.2.1); replace HS : Aside0 (Sep FF w [b7 g3322 g3324 a3332 a3333 a3334 a3335, b6 g3324 A3327 l3326.length n3329 t3561.2.2.2, r5 A3327 l3326.length n3329 l3326, b19 g3564 t3561.1 t3561.2.1] w3571) := ⟨by rw [hst]; exact hq1⟩; clear hq0 hq1; clear hst; replace HS : Aside0 (Sep FF w [b7 g3322 g3324 a3332 a3333 a3334 a3335, b6 g3324 A3327 l3326.length n3329 t3561.2.2.2, r5 A3327 l3326.length n3329 l3326] w3571) := ⟨HS.out.sub (.cons_cons _ (.cons_cons _ (.cons_cons _ (.cons _ .slnil))))⟩))
      go_ret
      rw [← some_eq H]
      exact ⟨(by first | rfl | (simp [IntKind.wrap_u32]; done)), HS.out⟩
    · replace H := if_no c3573 H
      have c3573b0 : decide (a3338 < 0) = false := decide_eq_false c3573
      clear c3573
      go_wp2_with (first | ((with_reducible refine gate_dst (N := 9) rfl ?_); refine box_on ?hg (N := 9) ?hd (cs := #[.int .i64 0, .int .i64 0]) (t := 142) ?hr ?_; (case hd => rfl); (case hg => rfl); (case hr => first | (go_simp; done) | (go_simp; rfl)); intro g3564 hg w3565 hbox hb; replace HS : Aside0 (Sep FF w [b7 g3322 g3324 a3332 a3333 a3334 a3335, b6 g3324 A3327 l3326.length n3329 t3561.2.2.2, r5 A3327 l3326.length n3329 l3326, b19 g3564 0 0] w3565) := ⟨HS.out.box hg hbox hb⟩; clear hg hbox hb; have hc3567 : w3565.cell? ⟨g3564, 0, none⟩ = some (.int .i64 0) := blk_cellv (HS.out.at3) 0 rfl; have hz3568 : w3565.frozen? ⟨g3564, 0, none⟩ = false := blk_fz (HS.out.at3) 0; have hc3569 : w3565.cell? ⟨g3564, 1, none⟩ = some (.int .i64 0) := blk_cellv (HS.out.at3) 1 rfl; have hz3570 : w3565.frozen? ⟨g3564, 1, none⟩ = false := blk_fz (HS.out.at3) 1) | ((with_reducible refine gate_store (t := 142) (p := 9) rfl ?_); refine store_event (w1 := (World.setCell (World.setCell w3565 ⟨g3564, 0, none⟩ (.int .i64 t3561.1)) ⟨g3564, 1, none⟩ (.int .i64 t3561.2.1))) rfl (t := 142) (p := 9) rfl rfl ?hr ?_; (case hr => first | (go_simp; done) | (go_simp; rfl)); intro w3571 hst; clear hc3567 hz3568 hc3569 hz3570; have hq0 : Sep FF w [b7 g3322 g3324 a3332 a3333 a3334 a3335, b6 g3324 A3327 l3326.length n3329 t3561.2.2.2, r5 A3327 l3326.length n3329 l3326, b19 g3564 t3561.1 0] (World.setCell w3565 ⟨g3564, 0, none⟩ (.int .i64 t3561.1)) := (HS.out).set1 (l1 := [b7 g3322 g3324 a3332 a3333 a3334 a3335, b6 g3324 A3327 l3326.length n3329 t3561.2.2.2, r5 A3327 l3326.length n3329 l3326]) (l2 := []) 0 (.int .i64 t3561.1); have hq1 : Sep FF w [b7 g3322 g3324 a3332 a3333 a3334 a3335, b6 g3324 A3327 l3326.length n3329 t3561.2.2.2, r5 A3327 l3326.length n3329 l3326, b19 g3564 t3561.1 t3561.2.1] (World.setCell (World.setCell w3565 ⟨g3564, 0, none⟩ (.int .i64 t3561.1)) ⟨g3564, 1, none⟩ (.int .i64 t3561.2.1)) := (hq0).set1 (l1 := [b7 g3322 g3324 a3332 a3333 a3334 a3335, b6 g3324 A3327 l3326.length n3329 t3561.2.2.2, r5 A3327 l3326.length n3329 l3326]) (l2 := []) 1 (.int .i64 t3561.2.1); replace HS : Aside0 (Sep FF w [b7 g3322 g3324 a3332 a3333 a3334 a3335, b6 g3324 A3327 l3326.length n3329 t3561.2.2.2, r5 A3327 l3326.length n3329 l3326, b19 g3564 t3561.1 t3561.2.1] w3571) := ⟨by rw [hst]; exact hq1⟩; clear hq0 hq1; clear hst))
      obtain ⟨t3574, HA3575, H⟩ := bind_some H
      refine (ground_Ground_Conf.calls l3326 t3561.2.2.2 a3332 a3333 a3334 a3335 g3322 g3324 A3327 l3326.length n3329 t3574 _ ⟨HGl0.out.pass HS.out⟩ ⟨HS.out.begin⟩ HA3575).mono ?_
      rintro e_ w3576 ⟨rfl, hS⟩
      replace HS : Aside0 (Sep FF w [b7 g3322 g3324 a3332 a3333 a3334 a3335, b6 g3324 A3327 l3326.length n3329 t3561.2.2.2, r5 A3327 l3326.length n3329 l3326, b19 g3564 t3561.1 t3561.2.1] w3576) := ⟨HS.out.call hS⟩
      clear hS
      by_cases c3578 : a3338 > t3574.1
      · replace H := if_yes c3578 H
        have c3578b0 : decide (t3574.1 < a3338) = true := decide_eq_true c3578
        clear c3578
        have fl3577 : ∀ w, (Instr.field 30 (.agg #[.int .i64 t3574.1, .int .i64 t3574.2.1, .int .i64 t3574.2.2.1, .int .i64 t3574.2.2.2]) 0).run Tryd.prog w = .ok (.int .i64 t3574.1) w := fun _ => by kernel_rfl
        replace HS : Aside0 (Sep FF w [b7 g3322 g3324 a3332 a3333 a3334 a3335, b6 g3324 A3327 l3326.length n3329 t3561.2.2.2, r5 A3327 l3326.length n3329 l3326] w3576) := ⟨HS.out.sub (.cons_cons _ (.cons_cons _ (.cons_cons _ (.cons _ .slnil))))⟩
        go_wp2_with fail
        clear fl3577
        go_ret
        rw [← some_eq H]
        exact ⟨(by first | rfl | (simp [IntKind.wrap_u32]; done)), HS.out⟩
      · replace H := if_no c3578 H
        have c3578b0 : decide (t3574.1 < a3338) = false := decide_eq_false c3578
        clear c3578
        have fl3577 : ∀ w, (Instr.field 30 (.agg #[.int .i64 t3574.1, .int .i64 t3574.2.1, .int .i64 t3574.2.2.1, .int .i64 t3574.2.2.2]) 0).run Tryd.prog w = .ok (.int .i64 t3574.1) w := fun _ => by kernel_rfl
        have hc3579 : w3576.cell? ⟨g3564, 0, none⟩ = some (.int .i64 t3561.1) := blk_cellv (HS.out.at3) 0 rfl
        have hc3580 : w3576.cell? ⟨g3564, 1, none⟩ = some (.int .i64 t3561.2.1) := blk_cellv (HS.out.at3) 1 rfl
        go_wp2_with fail
        clear fl3577 hc3579 hc3580
        obtain ⟨t3581, HA3582, H⟩ := bind_some H
        refine (ground_Ground_SetWord.calls l3326 t3561.2.2.2 a3332 a3333 a3334 a3335 t3561.1 t3561.2.1 ((a3338) % 4294967296) g3322 g3324 A3327 l3326.length n3329 t3581 _ ⟨HGl0.out.pass HS.out⟩ ⟨HS.out.begin⟩ HA3582).mono ?_
        rintro e_ w3583 ⟨rfl, hS⟩
        replace HS : Aside0 (Sep FF w [b7 g3322 g3324 a3332 a3333 a3334 a3335, b6 g3324 A3327 l3326.length n3329 t3581.2.1, r5 A3327 l3326.length n3329 t3581.2.2, b19 g3564 t3561.1 t3561.2.1] w3583) := ⟨HS.out.call hS⟩
        clear hS
        replace HS : Aside0 (Sep FF w [b7 g3322 g3324 a3332 a3333 a3334 a3335, b6 g3324 A3327 l3326.length n3329 t3581.2.1, r5 A3327 l3326.length n3329 t3581.2.2] w3583) := ⟨HS.out.sub (.cons_cons _ (.cons_cons _ (.cons_cons _ (.cons _ .slnil))))⟩
        go_wp2_with fail
        go_ret
        rw [← some_eq H]
        exact ⟨(by first | rfl | (simp [IntKind.wrap_u32]; done)), HS.out⟩
  · replace H := if_no c3572 H
    have c3572b0 : (t3561.2.2.1 == 0) = false := beq_eq_false_iff_ne.mpr c3572
    have c3572b1 : (t3561.2.2.1 != 0) = true := bne_iff_ne.mpr c3572
    clear c3572
    go_wp2_with (first | ((with_reducible refine gate_dst (N := 9) rfl ?_); refine box_on ?hg (N := 9) ?hd (cs := #[.int .i64 0, .int .i64 0]) (t := 142) ?hr ?_; (case hd => rfl); (case hg => rfl); (case hr => first | (go_simp; done) | (go_simp; rfl)); intro g3564 hg w3565 hbox hb; replace HS : Aside0 (Sep FF w [b7 g3322 g3324 a3332 a3333 a3334 a3335, b6 g3324 A3327 l3326.length n3329 t3561.2.2.2, r5 A3327 l3326.length n3329 l3326, b19 g3564 0 0] w3565) := ⟨HS.out.box hg hbox hb⟩; clear hg hbox hb; have hc3567 : w3565.cell? ⟨g3564, 0, none⟩ = some (.int .i64 0) := blk_cellv (HS.out.at3) 0 rfl; have hz3568 : w3565.frozen? ⟨g3564, 0, none⟩ = false := blk_fz (HS.out.at3) 0; have hc3569 : w3565.cell? ⟨g3564, 1, none⟩ = some (.int .i64 0) := blk_cellv (HS.out.at3) 1 rfl; have hz3570 : w3565.frozen? ⟨g3564, 1, none⟩ = false := blk_fz (HS.out.at3) 1) | ((with_reducible refine gate_store (t := 142) (p := 9) rfl ?_); refine store_event (w1 := (World.setCell (World.setCell w3565 ⟨g3564, 0, none⟩ (.int .i64 t3561.1)) ⟨g3564, 1, none⟩ (.int .i64 t3561.2.1))) rfl (t := 142) (p := 9) rfl rfl ?hr ?_; (case hr => first | (go_simp; done) | (go_simp; rfl)); intro w3571 hst; clear hc3567 hz3568 hc3569 hz3570; have hq0 : Sep FF w [b7 g3322 g3324 a3332 a3333 a3334 a3335, b6 g3324 A3327 l3326.length n3329 t3561.2.2.2, r5 A3327 l3326.length n3329 l3326, b19 g3564 t3561.1 0] (World.setCell w3565 ⟨g3564, 0, none⟩ (.int .i64 t3561.1)) := (HS.out).set1 (l1 := [b7 g3322 g3324 a3332 a3333 a3334 a3335, b6 g3324 A3327 l3326.length n3329 t3561.2.2.2, r5 A3327 l3326.length n3329 l3326]) (l2 := []) 0 (.int .i64 t3561.1); have hq1 : Sep FF w [b7 g3322 g3324 a3332 a3333 a3334 a3335, b6 g3324 A3327 l3326.length n3329 t3561.2.2.2, r5 A3327 l3326.length n3329 l3326, b19 g3564 t3561.1 t3561.2.1] (World.setCell (World.setCell w3565 ⟨g3564, 0, none⟩ (.int .i64 t3561.1)) ⟨g3564, 1, none⟩ (.int .i64 t3561.2.1)) := (hq0).set1 (l1 := [b7 g3322 g3324 a3332 a3333 a3334 a3335, b6 g3324 A3327 l3326.length n3329 t3561.2.2.2, r5 A3327 l3326.length n3329 l3326]) (l2 := []) 1 (.int .i64 t3561.2.1); replace HS : Aside0 (Sep FF w [b7 g3322 g3324 a3332 a3333 a3334 a3335, b6 g3324 A3327 l3326.length n3329 t3561.2.2.2, r5 A3327 l3326.length n3329 l3326, b19 g3564 t3561.1 t3561.2.1] w3571) := ⟨by rw [hst]; exact hq1⟩; clear hq0 hq1; clear hst; replace HS : Aside0 (Sep FF w [b7 g3322 g3324 a3332 a3333 a3334 a3335, b6 g3324 A3327 l3326.length n3329 t3561.2.2.2, r5 A3327 l3326.length n3329 l3326] w3571) := ⟨HS.out.sub (.cons_cons _ (.cons_cons _ (.cons_cons _ (.cons _ .slnil))))⟩))
    go_ret
    rw [← some_eq H]
    exact ⟨(by first | rfl | (simp [IntKind.wrap_u32]; done)), HS.out⟩

set_option maxHeartbeats 30000000 in
set_option maxRecDepth 100000 in
theorem obj_SetData.calls (k : Nat) (l3592 : List Int) (a3597 : Int) (a3598 : Int) (a3599 : Int) (a3600 : Int) (a3601 : Int) (a3602 : Int) (a3603 : Int) (a3604 : Int) (g3588 : Nat) (g3590 : Nat) (A3593 : Option Addr) (m3594 : Nat) (n3595 : Nat) (r : Int × Int × List Int) (w : World)  (HGl0 : Aside0 (Gl 0 #[.int .i64 0, .int .i64 0, .int .i64 0, .int .i64 0, .int .i64 0] (fps [b7 g3588 g3590 a3598 a3599 a3600 a3601, b6 g3590 A3593 m3594 n3595 a3597, r5 A3593 m3594 n3595 l3592]) w)) (HS : Aside0 (Sep (fps [b7 g3588 g3590 a3598 a3599 a3600 a3601, b6 g3590 A3593 m3594 n3595 a3597, r5 A3593 m3594 n3595 l3592]) w [b7 g3588 g3590 a3598 a3599 a3600 a3601, b6 g3590 A3593 m3594 n3595 a3597, r5 A3593 m3594 n3595 l3592] w)) (H : Aside0 (obj_SetData.f k l3592 a3597 a3598 a3599 a3600 a3601 a3602 a3603 a3604 = some r)) :
    Calls Tryd.prog 56 #[.pointer (some ⟨g3588, 0, none⟩), .int .i64 a3602, .int .i64 a3603, .int .u32 a3604] w fun e w' => e = .returned (.int .i64 r.1) ∧ Sep (fps [b7 g3588 g3590 a3598 a3599 a3600 a3601, b6 g3590 A3593 m3594 n3595 a3597, r5 A3593 m3594 n3595 l3592]) w [b7 g3588 g3590 a3598 a3599 a3600 a3601, b6 g3590 A3593 m3594 n3595 r.2.1, r5 A3593 m3594 n3595 r.2.2] w' := by
  generalize (fps [b7 g3588 g3590 a3598 a3599 a3600 a3601, b6 g3590 A3593 m3594 n3595 a3597, r5 A3593 m3594 n3595 l3592]) = FF at HS HGl0 ⊢
  obtain rfl := (row_len (HS.out.at2)).symm
  unfold obj_SetData.f at H
  go_enter Tryd.func56, Tryd.ntmps56
  go_wp2_with fail
  obtain ⟨t3622, HA3623, H⟩ := bind_some H
  refine (obj_field.calls _ l3592 a3597 a3598 a3599 a3600 a3601 a3602 a3603 true g3588 g3590 A3593 l3592.length n3595 t3622 _ ⟨HGl0.out.pass HS.out⟩ ⟨HS.out.begin⟩ HA3623).mono ?_
  rintro e_ w3624 ⟨rfl, hS⟩
  replace HS : Aside0 (Sep FF w [b7 g3588 g3590 a3598 a3599 a3600 a3601, b6 g3590 A3593 l3592.length n3595 t3622.2.2.2, r5 A3593 l3592.length n3595 l3592] w3624) := ⟨HS.out.call hS⟩
  clear hS
  by_cases c3633 : t3622.2.2.1 = 0
  · replace H := if_yes c3633 H
    have c3633b0 : (t3622.2.2.1 == 0) = true := beq_iff_eq.mpr c3633
    have c3633b1 : (t3622.2.2.1 != 0) = false := bne_eq_false_iff_eq.mpr c3633
    clear c3633
    go_wp2_with (first | ((with_reducible refine gate_dst (N := 9) rfl ?_); refine box_on ?hg (N := 9) ?hd (cs := #[.int .i64 0, .int .i64 0]) (t := 142) ?hr ?_; (case hd => rfl); (case hg => rfl); (case hr => first | (go_simp; done) | (go_simp; rfl)); intro g3625 hg w3626 hbox hb; replace HS : Aside0 (Sep FF w [b7 g3588 g3590 a3598 a3599 a3600 a3601, b6 g3590 A3593 l3592.length n3595 t3622.2.2.2, r5 A3593 l3592.length n3595 l3592, b19 g3625 0 0] w3626) := ⟨HS.out.box hg hbox hb⟩; clear hg hbox hb; have hc3628 : w3626.cell? ⟨g3625, 0, none⟩ = some (.int .i64 0) := blk_cellv (HS.out.at3) 0 rfl; have hz3629 : w3626.frozen? ⟨g3625, 0, none⟩ = false := blk_fz (HS.out.at3) 0; have hc3630 : w3626.cell? ⟨g3625, 1, none⟩ = some (.int .i64 0) := blk_cellv (HS.out.at3) 1 rfl; have hz3631 : w3626.frozen? ⟨g3625, 1, none⟩ = false := blk_fz (HS.out.at3) 1) | ((with_reducible refine gate_store (t := 142) (p := 9) rfl ?_); refine store_event (w1 := (World.setCell (World.setCell w3626 ⟨g3625, 0, none⟩ (.int .i64 t3622.1)) ⟨g3625, 1, none⟩ (.int .i64 t3622.2.1))) rfl (t := 142) (p := 9) rfl rfl ?hr ?_; (case hr => first | (go_simp; done) | (go_simp; rfl)); intro w3632 hst; clear hc3628 hz3629 hc3630 hz3631; have hq0 : Sep FF w [b7 g3588 g3590 a3598 a3599 a3600 a3601, b6 g3590 A3593 l3592.length n3595 t3622.2.2.2, r5 A3593 l3592.length n3595 l3592, b19 g3625 t3622.1 0] (World.setCell w3626 ⟨g3625, 0, none⟩ (.int .i64 t3622.1)) := (HS.out).set1 (l1 := [b7 g3588 g3590 a3598 a3599 a3600 a3601, b6 g3590 A3593 l3592.length n3595 t3622.2.2.2, r5 A3593 l3592.length n3595 l3592]) (l2 := []) 0 (.int .i64 t3622.1); have hq1 : Sep FF w [b7 g3588 g3590 a3598 a3599 a3600 a3601, b6 g3590 A3593 l3592.length n3595 t3622.2.2.2, r5 A3593 l3592.length n3595 l3592, b19 g3625 t3622.1 t3622.2.1] (World.setCell (World.setCell w3626 ⟨g3625, 0, none⟩ (.int .i64 t3622.1)) ⟨g3625, 1, none⟩ (.int .i64 t3622.2.1)) := (hq0).set1 (l1 := [b7 g3588 g3590 a3598 a3599 a3600 a3601, b6 g3590 A3593 l3592.length n3595 t3622.2.2.2, r5 A3593 l3592.length n3595 l3592]) (l2 := []) 1 (.int .i64 t3622.2.1); replace HS : Aside0 (Sep FF w [b7 g3588 g3590 a3598 a3599 a3600 a3601, b6 g3590 A3593 l3592.length n3595 t3622.2.2.2, r5 A3593 l3592.length n3595 l3592, b19 g3625 t3622.1 t3622.2.1] w3632) := ⟨by rw [hst]; exact hq1⟩; clear hq0 hq1; clear hst; have hc3634 : w3632.cell? ⟨g3625, 0, none⟩ = some (.int .i64 t3622.1) := blk_cellv (HS.out.at3) 0 rfl; have hc3635 : w3632.cell? ⟨g3625, 1, none⟩ = some (.int .i64 t3622.2.1) := blk_cellv (HS.out.at3) 1 rfl))
    clear hc3634 hc3635
    obtain ⟨t3636, HA3637, H⟩ := bind_some H
    refine (ground_Ground_SetWord.calls l3592 t3622.2.2.2 a3598 a3599 a3600 a3601 t3622.1 t3622.2.1 a3604 g3588 g3590 A3593 l3592.length n3595 t3636 _ ⟨HGl0.out.pass HS.out⟩ ⟨HS.out.begin⟩ HA3637).mono ?_
    rintro e_ w3638 ⟨rfl, hS⟩
    replace HS : Aside0 (Sep FF w [b7 g3588 g3590 a3598 a3599 a3600 a3601, b6 g3590 A3593 l3592.length n3595 t3636.2.1, r5 A3593 l3592.length n3595 t3636.2.2, b19 g3625 t3622.1 t3622.2.1] w3638) := ⟨HS.out.call hS⟩
    clear hS
    replace HS : Aside0 (Sep FF w [b7 g3588 g3590 a3598 a3599 a3600 a3601, b6 g3590 A3593 l3592.length n3595 t3636.2.1, r5 A3593 l3592.length n3595 t3636.2.2] w3638) := ⟨HS.out.sub (.cons_cons _ (.cons_cons _ (.cons_cons _ (.cons _ .slnil))))⟩
    go_wp2_with fail
    go_ret
    rw [← some_eq H]
    exact ⟨(by first | rfl | (simp [IntKind.wrap_u32]; done)), HS.out⟩
  · replace H := if_no c3633 H
    have c3633b0 : (t3622.2.2.1 == 0) = false := beq_eq_false_iff_ne.mpr c3633
    have c3633b1 : (t3622.2.2.1 != 0) = true := bne_iff_ne.mpr c3633
    clear c3633
    go_wp2_with (first | ((with_reducible refine gate_dst (N := 9) rfl ?_); refine box_on ?hg (N := 9) ?hd (cs := #[.int .i64 0, .int .i64 0]) (t := 142) ?hr ?_; (case hd => rfl); (case hg => rfl); (case hr => first | (go_simp; done) | (go_simp; rfl)); intro g3625 hg w3626 hbox hb; replace HS : Aside0 (Sep FF w [b7 g3588 g3590 a3598 a3599 a3600 a3601, b6 g3590 A3593 l3592.length n3595 t3622.2.2.2, r5 A3593 l3592.length n3595 l3592, b19 g3625 0 0] w3626) := ⟨HS.out.box hg hbox hb⟩; clear hg hbox hb; have hc3628 : w3626.cell? ⟨g3625, 0, none⟩ = some (.int .i64 0) := blk_cellv (HS.out.at3) 0 rfl; have hz3629 : w3626.frozen? ⟨g3625, 0, none⟩ = false := blk_fz (HS.out.at3) 0; have hc3630 : w3626.cell? ⟨g3625, 1, none⟩ = some (.int .i64 0) := blk_cellv (HS.out.at3) 1 rfl; have hz3631 : w3626.frozen? ⟨g3625, 1, none⟩ = false := blk_fz (HS.out.at3) 1) | ((with_reducible refine gate_store (t := 142) (p := 9) rfl ?_); refine store_event (w1 := (World.setCell (World.setCell w3626 ⟨g3625, 0, none⟩ (.int .i64 t3622.1)) ⟨g3625, 1, none⟩ (.int .i64 t3622.2.1))) rfl (t := 142) (p := 9) rfl rfl ?hr ?_; (case hr => first | (go_simp; done) | (go_simp; rfl)); intro w3632 hst; clear hc3628 hz3629 hc3630 hz3631; have hq0 : Sep FF w [b7 g3588 g3590 a3598 a3599 a3600 a3601, b6 g3590 A3593 l3592.length n3595 t3622.2.2.2, r5 A3593 l3592.length n3595 l3592, b19 g3625 t3622.1 0] (World.setCell w3626 ⟨g3625, 0, none⟩ (.int .i64 t3622.1)) := (HS.out).set1 (l1 := [b7 g3588 g3590 a3598 a3599 a3600 a3601, b6 g3590 A3593 l3592.length n3595 t3622.2.2.2, r5 A3593 l3592.length n3595 l3592]) (l2 := []) 0 (.int .i64 t3622.1); have hq1 : Sep FF w [b7 g3588 g3590 a3598 a3599 a3600 a3601, b6 g3590 A3593 l3592.length n3595 t3622.2.2.2, r5 A3593 l3592.length n3595 l3592, b19 g3625 t3622.1 t3622.2.1] (World.setCell (World.setCell w3626 ⟨g3625, 0, none⟩ (.int .i64 t3622.1)) ⟨g3625, 1, none⟩ (.int .i64 t3622.2.1)) := (hq0).set1 (l1 := [b7 g3588 g3590 a3598 a3599 a3600 a3601, b6 g3590 A3593 l3592.length n3595 t3622.2.2.2, r5 A3593 l3592.length n3595 l3592]) (l2 := []) 1 (.int .i64 t3622.2.1); replace HS : Aside0 (Sep FF w [b7 g3588 g3590 a3598 a3599 a3600 a3601, b6 g3590 A3593 l3592.length n3595 t3622.2.2.2, r5 A3593 l3592.length n3595 l3592, b19 g3625 t3622.1 t3622.2.1] w3632) := ⟨by rw [hst]; exact hq1⟩; clear hq0 hq1; clear hst; replace HS : Aside0 (Sep FF w [b7 g3588 g3590 a3598 a3599 a3600 a3601, b6 g3590 A3593 l3592.length n3595 t3622.2.2.2, r5 A3593 l3592.length n3595 l3592] w3632) := ⟨HS.out.sub (.cons_cons _ (.cons_cons _ (.cons_cons _ (.cons _ .slnil))))⟩))
    go_ret
    rw [← some_eq H]
    exact ⟨(by first | rfl | (simp [IntKind.wrap_u32]; done)), HS.out⟩

set_option maxHeartbeats 30000000 in
set_option maxRecDepth 100000 in
theorem store_Store_Peek.calls (l3767 : List Int) (a3772 : Int) (a3773 : Int) (g3765 : Nat) (A3768 : Option Addr) (m3769 : Nat) (n3770 : Nat) (r : Int) (w : World)  (HGl0 : Aside0 (Gl 0 #[.int .i64 0, .int .i64 0, .int .i64 0, .int .i64 0, .int .i64 0] (fps [b6 g3765 A3768 m3769 n3770 a3772, r5 A3768 m3769 n3770 l3767]) w)) (HS : Aside0 (Sep (fps [b6 g3765 A3768 m3769 n3770 a3772, r5 A3768 m3769 n3770 l3767]) w [b6 g3765 A3768 m3769 n3770 a3772, r5 A3768 m3769 n3770 l3767] w)) (H : Aside0 (store_Store_Peek.f l3767 a3772 a3773 = some r)) :
    Calls Tryd.prog 73 #[.pointer (some ⟨g3765, 0, none⟩), .int .i64 a3773] w fun e w' => e = .returned (.int .u32 r) ∧ Sep (fps [b6 g3765 A3768 m3769 n3770 a3772, r5 A3768 m3769 n3770 l3767]) w [b6 g3765 A3768 m3769 n3770 a3772, r5 A3768 m3769 n3770 l3767] w' := by
  generalize (fps [b6 g3765 A3768 m3769 n3770 a3772, r5 A3768 m3769 n3770 l3767]) = FF at HS HGl0 ⊢
  obtain rfl := (row_len (HS.out.at1)).symm
  unfold store_Store_Peek.f at H
  go_enter Tryd.func73, Tryd.ntmps73
  go_wp2_with fail
  obtain ⟨t3774, HA3775, H⟩ := bind_some H
  refine (store_Store_has.calls l3767 a3772 a3773 g3765 A3768 l3767.length n3770 t3774 _ ⟨HGl0.out.pass HS.out⟩ ⟨HS.out.begin⟩ HA3775).mono ?_
  rintro e_ w3776 ⟨rfl, hS⟩
  replace HS : Aside0 (Sep FF w [b6 g3765 A3768 l3767.length n3770 a3772, r5 A3768 l3767.length n3770 l3767] w3776) := ⟨HS.out.call hS⟩
  clear hS
  by_cases c3777 : t3774 = true
  · replace H := if_yes c3777 H
    have c3777b0 : t3774 = true := c3777
    have c3777b1 : (!t3774) = false := by rw [c3777b0]; rfl
    try rw [c3777b1]
    clear c3777
    by_cases c3779 : 0 ≤ a3773
    · replace H := if_yes c3779 H
      have c3779b0 : decide (0 ≤ a3773) = true := decide_eq_true c3779
      have c3779p : (0 ≤ a3773) = True := eq_true c3779
      clear c3779
      by_cases c3780 : a3773 < (l3767.length : Int)
      · replace H := if_yes c3780 H
        have c3780b0 : decide (a3773 < (l3767.length : Int)) = true := decide_eq_true c3780
        have c3780p : (a3773 < (l3767.length : Int)) = True := eq_true c3780
        clear c3780
        have hc3778 : w3776.cell? ⟨g3765, 0, none⟩ = some (.slice A3768 l3767.length n3770) := blk_cellv (HS.out.at0) 0 rfl
        obtain ⟨g3781, ea⟩ := row_at (HS.out.at1) (by have := (of_decide_eq_true c3779b0); have := (of_decide_eq_true c3780b0); omega); cases ea
        have hx3782 := C_at_int (row_Ci (HS.out.at1)) a3773 (of_decide_eq_true c3779b0) (of_decide_eq_true c3780b0)
        have hx3783 : w3776.cell? ⟨g3781, (a3773).toNat, none⟩ = some (.int .u32 (rd l3767 a3773)) := (row_get 0 (HS.out.at1) a3773 (of_decide_eq_true c3779b0) (of_decide_eq_true c3780b0)).1
        go_wp2_with fail
        clear hc3778 hx3782 hx3783
        go_ret
        rw [← some_eq H]
        exact ⟨(by first | rfl | (simp [IntKind.wrap_u32]; done)), HS.out⟩
      · replace H := if_no c3780 H
        have c3780b0 : decide (a3773 < (l3767.length : Int)) = false := decide_eq_false c3780
        clear c3780
        exact (none_no H).elim
    · replace H := if_no c3779 H
      have c3779b0 : decide (0 ≤ a3773) = false := decide_eq_false c3779
      clear c3779
      exact (none_no H).elim
  · replace H := if_no c3777 H
    have c3777b0 : t3774 = false := by simpa using c3777
    have c3777b1 : (!t3774) = true := by rw [c3777b0]; rfl
    try rw [c3777b1]
    clear c3777
    go_wp2_with fail
    go_ret
    rw [← some_eq H]
    exact ⟨(by first | rfl | (simp [IntKind.wrap_u32]; done)), HS.out⟩

set_option maxHeartbeats 30000000 in
set_option maxRecDepth 100000 in
theorem ground_Ground_SeeWord.calls (l3746 : List Int) (a3751 : Int) (a3752 : Int) (a3753 : Int) (a3754 : Int) (a3755 : Int) (a3756 : Int) (a3757 : Int) (g3742 : Nat) (g3744 : Nat) (A3747 : Option Addr) (m3748 : Nat) (n3749 : Nat) (r : Int) (w : World)  (HGl0 : Aside0 (Gl 0 #[.int .i64 0, .int .i64 0, .int .i64 0, .int .i64 0, .int .i64 0] (fps [b7 g3742 g3744 a3752 a3753 a3754 a3755, b6 g3744 A3747 m3748 n3749 a3751, r5 A3747 m3748 n3749 l3746]) w)) (HS : Aside0 (Sep (fps [b7 g3742 g3744 a3752 a3753 a3754 a3755, b6 g3744 A3747 m3748 n3749 a3751, r5 A3747 m3748 n3749 l3746]) w [b7 g3742 g3744 a3752 a3753 a3754 a3755, b6 g3744 A3747 m3748 n3749 a3751, r5 A3747 m3748 n3749 l3746] w)) (H : Aside0 (ground_Ground_SeeWord.f l3746 a3751 a3752 a3753 a3754 a3755 a3756 a3757 = some r)) :
    Calls Tryd.prog 18 #[.pointer (some ⟨g3742, 0, none⟩), .int .i64 a3756, .int .i64 a3757] w fun e w' => e = .returned (.int .u32 r) ∧ Sep (fps [b7 g3742 g3744 a3752 a3753 a3754 a3755, b6 g3744 A3747 m3748 n3749 a3751, r5 A3747 m3748 n3749 l3746]) w [b7 g3742 g3744 a3752 a3753 a3754 a3755, b6 g3744 A3747 m3748 n3749 a3751, r5 A3747 m3748 n3749 l3746] w' := by
  generalize (fps [b7 g3742 g3744 a3752 a3753 a3754 a3755, b6 g3744 A3747 m3748 n3749 a3751, r5 A3747 m3748 n3749 l3746]) = FF at HS HGl0 ⊢
  obtain rfl := (row_len (HS.out.at2)).symm
  unfold ground_Ground_SeeWord.f at H
  go_enter Tryd.func18, Tryd.ntmps18
  go_wp2_with fail
  obtain ⟨t3758, HA3759, H⟩ := bind_some H
  refine (ground_Ground_all.calls l3746 a3751 a3752 a3753 a3754 a3755 g3742 g3744 A3747 l3746.length n3749 t3758 _ ⟨HGl0.out.pass HS.out⟩ ⟨HS.out.begin⟩ HA3759).mono ?_
  rintro e_ w3760 ⟨rfl, hS⟩
  replace HS : Aside0 (Sep FF w [b7 g3742 g3744 a3752 a3753 a3754 a3755, b6 g3744 A3747 l3746.length n3749 a3751, r5 A3747 l3746.length n3749 l3746] w3760) := ⟨HS.out.call hS⟩
  clear hS
  go_wp2_with fail
  obtain ⟨t3761, HA3762, H⟩ := bind_some H
  refine (ground_Ground_word.calls l3746 a3751 a3752 a3753 a3754 a3755 a3756 a3757 g3742 g3744 A3747 l3746.length n3749 t3761 _ ⟨HGl0.out.pass HS.out⟩ ⟨HS.out.begin⟩ HA3762).mono ?_
  rintro e_ w3763 ⟨rfl, hS⟩
  replace HS : Aside0 (Sep FF w [b7 g3742 g3744 a3752 a3753 a3754 a3755, b6 g3744 A3747 l3746.length n3749 a3751, r5 A3747 l3746.length n3749 l3746] w3763) := ⟨HS.out.call hS⟩
  clear hS
  go_wp2_with fail
  replace HS : Aside0 (Sep FF w [r5 A3747 l3746.length n3749 l3746, b7 g3742 g3744 a3752 a3753 a3754 a3755, b6 g3744 A3747 l3746.length n3749 a3751] w3763) := ⟨HS.out.front 2 (by simp)⟩
  replace HS : Aside0 (Sep FF w [b6 g3744 A3747 l3746.length n3749 a3751, r5 A3747 l3746.length n3749 l3746, b7 g3742 g3744 a3752 a3753 a3754 a3755] w3763) := ⟨HS.out.front 2 (by simp)⟩
  obtain ⟨t3784, HA3785, H⟩ := bind_some H
  refine (store_Store_Peek.calls l3746 a3751 t3761 g3744 A3747 l3746.length n3749 t3784 _ ⟨HGl0.out.pass HS.out⟩ ⟨HS.out.begin⟩ HA3785).mono ?_
  rintro e_ w3786 ⟨rfl, hS⟩
  replace HS : Aside0 (Sep FF w [b6 g3744 A3747 l3746.length n3749 a3751, r5 A3747 l3746.length n3749 l3746, b7 g3742 g3744 a3752 a3753 a3754 a3755] w3786) := ⟨HS.out.call hS⟩
  clear hS
  go_wp2_with fail
  go_ret
  rw [← some_eq H]
  exact ⟨(by first | rfl | (simp [IntKind.wrap_u32]; done)), ((((HS.out).front 1 (by simp)).front 1 (by simp)).front 2 (by simp)).keep (l := [b7 g3742 g3744 a3752 a3753 a3754 a3755, b6 g3744 A3747 l3746.length n3749 a3751, r5 A3747 l3746.length n3749 l3746]) (rest := [])⟩

set_option maxHeartbeats 30000000 in
set_option maxRecDepth 100000 in
theorem obj_look.calls (k : Nat) (l3833 : List Int) (a3838 : Int) (a3839 : Int) (a3840 : Int) (a3841 : Int) (a3842 : Int) (a3843 : Int) (a3844 : Int) (a3845 : Int) (g3829 : Nat) (g3831 : Nat) (A3834 : Option Addr) (m3835 : Nat) (n3836 : Nat) (r : Int) (w : World)  (HGl0 : Aside0 (Gl 0 #[.int .i64 0, .int .i64 0, .int .i64 0, .int .i64 0, .int .i64 0] (fps [b7 g3829 g3831 a3839 a3840 a3841 a3842, b6 g3831 A3834 m3835 n3836 a3838, r5 A3834 m3835 n3836 l3833]) w)) (HS : Aside0 (Sep (fps [b7 g3829 g3831 a3839 a3840 a3841 a3842, b6 g3831 A3834 m3835 n3836 a3838, r5 A3834 m3835 n3836 l3833]) w [b7 g3829 g3831 a3839 a3840 a3841 a3842, b6 g3831 A3834 m3835 n3836 a3838, r5 A3834 m3835 n3836 l3833] w)) (H : Aside0 (obj_look.f k l3833 a3838 a3839 a3840 a3841 a3842 a3843 a3844 a3845 = some r)) :
    Calls Tryd.prog 102 #[.pointer (some ⟨g3829, 0, none⟩), .int .i64 a3843, .int .i64 a3844, .int .i64 a3845] w fun e w' => e = .returned (.int .u32 r) ∧ Sep (fps [b7 g3829 g3831 a3839 a3840 a3841 a3842, b6 g3831 A3834 m3835 n3836 a3838, r5 A3834 m3835 n3836 l3833]) w [b7 g3829 g3831 a3839 a3840 a3841 a3842, b6 g3831 A3834 m3835 n3836 a3838, r5 A3834 m3835 n3836 l3833] w' := by
  generalize (fps [b7 g3829 g3831 a3839 a3840 a3841 a3842, b6 g3831 A3834 m3835 n3836 a3838, r5 A3834 m3835 n3836 l3833]) = FF at HS HGl0 ⊢
  obtain rfl := (row_len (HS.out.at2)).symm
  unfold obj_look.f at H
  go_enter Tryd.func102, Tryd.ntmps102
  go_wp2_with fail
  obtain ⟨t3846, HA3847, H⟩ := bind_some H
  refine (ground_Ground_Conf.calls l3833 a3838 a3839 a3840 a3841 a3842 g3829 g3831 A3834 l3833.length n3836 t3846 _ ⟨HGl0.out.pass HS.out⟩ ⟨HS.out.begin⟩ HA3847).mono ?_
  rintro e_ w3848 ⟨rfl, hS⟩
  replace HS : Aside0 (Sep FF w [b7 g3829 g3831 a3839 a3840 a3841 a3842, b6 g3831 A3834 l3833.length n3836 a3838, r5 A3834 l3833.length n3836 l3833] w3848) := ⟨HS.out.call hS⟩
  clear hS
  have fl3849 : ∀ w, (Instr.field 30 (.agg #[.int .i64 t3846.1, .int .i64 t3846.2.1, .int .i64 t3846.2.2.1, .int .i64 t3846.2.2.2]) 1).run Tryd.prog w = .ok (.int .i64 t3846.2.1) w := fun _ => by kernel_rfl
  go_wp2_with fail
  clear fl3849
  obtain ⟨t3850, HA3851, H⟩ := bind_some H
  refine (shape_Place.calls _ t3846.2.1 a3844 a3845 t3850 _ ⟨HGl0.out.pass (l := []) HS.out⟩ ⟨Sep.start _⟩ HA3851).mono ?_
  rintro e_ w3852 ⟨rfl, hS⟩
  replace HS : Aside0 (Sep FF w [b7 g3829 g3831 a3839 a3840 a3841 a3842, b6 g3831 A3834 l3833.length n3836 a3838, r5 A3834 l3833.length n3836 l3833] w3852) := ⟨HS.out.call hS⟩
  clear hS
  by_cases c3853 : t3850.2.2 = 0
  · replace H := if_yes c3853 H
    have c3853b0 : (t3850.2.2 == 0) = true := beq_iff_eq.mpr c3853
    have c3853b1 : (t3850.2.2 != 0) = false := bne_eq_false_iff_eq.mpr c3853
    clear c3853
    by_cases c3854 : t3850.1 < 0
    · replace H := if_yes c3854 H
      have c3854b0 : decide (t3850.1 < 0) = true := decide_eq_true c3854
      clear c3854
      go_wp2_with fail
      obtain ⟨t3855, HA3856, H⟩ := bind_some H
      refine (ground_Ground_SeeWord.calls l3833 a3838 a3839 a3840 a3841 a3842 (wrap64 (a3843 - 1)) t3850.2.1 g3829 g3831 A3834 l3833.length n3836 t3855 _ ⟨HGl0.out.pass HS.out⟩ ⟨HS.out.begin⟩ HA3856).mono ?_
      rintro e_ w3857 ⟨rfl, hS⟩
      replace HS : Aside0 (Sep FF w [b7 g3829 g3831 a3839 a3840 a3841 a3842, b6 g3831 A3834 l3833.length n3836 a3838, r5 A3834 l3833.length n3836 l3833] w3857) := ⟨HS.out.call hS⟩
      clear hS
      go_wp2_with fail
      go_ret
      rw [← some_eq H]
      exact ⟨(by first | rfl | (simp [IntKind.wrap_u32]; done)), HS.out⟩
    · replace H := if_no c3854 H
      have c3854b0 : decide (t3850.1 < 0) = false := decide_eq_false c3854
      clear c3854
      go_wp2_with fail
      obtain ⟨t3858, HA3859, H⟩ := bind_some H
      refine (ground_Ground_SeeWord.calls l3833 a3838 a3839 a3840 a3841 a3842 (wrap64 (a3843 - 1)) (wrap64 (8 + t3850.1)) g3829 g3831 A3834 l3833.length n3836 t3858 _ ⟨HGl0.out.pass HS.out⟩ ⟨HS.out.begin⟩ HA3859).mono ?_
      rintro e_ w3860 ⟨rfl, hS⟩
      replace HS : Aside0 (Sep FF w [b7 g3829 g3831 a3839 a3840 a3841 a3842, b6 g3831 A3834 l3833.length n3836 a3838, r5 A3834 l3833.length n3836 l3833] w3860) := ⟨HS.out.call hS⟩
      clear hS
      go_wp2_with fail
      obtain ⟨t3861, HA3862, H⟩ := bind_some H
      refine (ground_Ground_SeeWord.calls l3833 a3838 a3839 a3840 a3841 a3842 (wrap64 ((wrap64 (t3858)) - 1)) t3850.2.1 g3829 g3831 A3834 l3833.length n3836 t3861 _ ⟨HGl0.out.pass HS.out⟩ ⟨HS.out.begin⟩ HA3862).mono ?_
      rintro e_ w3863 ⟨rfl, hS⟩
      replace HS : Aside0 (Sep FF w [b7 g3829 g3831 a3839 a3840 a3841 a3842, b6 g3831 A3834 l3833.length n3836 a3838, r5 A3834 l3833.length n3836 l3833] w3863) := ⟨HS.out.call hS⟩
      clear hS
      go_wp2_with fail
      go_ret
      rw [← some_eq H]
      exact ⟨(by first | rfl | (simp [IntKind.wrap_u32]; done)), HS.out⟩
  · replace H := if_no c3853 H
    have c3853b0 : (t3850.2.2 == 0) = false := beq_eq_false_iff_ne.mpr c3853
    have c3853b1 : (t3850.2.2 != 0) = true := bne_iff_ne.mpr c3853
    clear c3853
    go_wp2_with fail
    go_ret
    rw [← some_eq H]
    exact ⟨(by first | rfl | (simp [IntKind.wrap_u32]; done)), HS.out⟩
end Go.Proofs.YtobeonkddamnoaaDoor.C

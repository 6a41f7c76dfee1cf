/- Each function of the group RP does what its plain function says, and changes nothing that was there; proved by walking its code. No condition. -/
import Derived.Test.YtobeonkddamnoaaDoorQw
import Derived.Test.YtobeonkddamnoaaDoorMRP
import Derived.Test.YtobeonkddamnoaaDoorGRP0
import Derived.Test.YtobeonkddamnoaaDoorGRP1
namespace Go.Proofs.YtobeonkddamnoaaDoor.C
open Go.RowKit Go.Proofs.YtobeonkddamnoaaDoorW.PrintWords Go.Proofs.YtobeonkddamnoaaDoorW.PrintLast Go.Proofs.YtobeonkddamnoaaDoor.Q Go.Proofs.YtobeonkddamnoaaDoor.M
set_option linter.unusedVariables false
set_option linter.unusedSimpArgs false
set_option maxHeartbeats 30000000 in
set_option maxRecDepth 100000 in
theorem ring_Cut.calls (k : Nat) (l2429 : List Int) (a2434 : Int) (a2435 : Int) (a2436 : Int) (a2437 : Int) (a2438 : Int) (a2439 : Int) (g2425 : Nat) (g2427 : Nat) (A2430 : Option Addr) (m2431 : Nat) (n2432 : Nat) (r : Bool × Int × List Int) (w : World)  (HGl0 : Aside0 (Gl 0 #[.int .i64 0, .int .i64 0, .int .i64 0, .int .i64 0, .int .i64 0] (fps [b8 g2425 g2427 a2435 a2436 a2437 a2438, b7 g2427 A2430 m2431 n2432 a2434, r6 A2430 m2431 n2432 l2429]) w)) (HS : Aside0 (Sep (fps [b8 g2425 g2427 a2435 a2436 a2437 a2438, b7 g2427 A2430 m2431 n2432 a2434, r6 A2430 m2431 n2432 l2429]) w [b8 g2425 g2427 a2435 a2436 a2437 a2438, b7 g2427 A2430 m2431 n2432 a2434, r6 A2430 m2431 n2432 l2429] w)) (H : Aside0 (ring_Cut.f k l2429 a2434 a2435 a2436 a2437 a2438 a2439 = some r)) :
    Calls Tryd.prog 24 #[.pointer (some ⟨g2425, 0, none⟩), .int .i64 a2439] w fun e w' => e = .returned (.bool r.1) ∧ Sep (fps [b8 g2425 g2427 a2435 a2436 a2437 a2438, b7 g2427 A2430 m2431 n2432 a2434, r6 A2430 m2431 n2432 l2429]) w [b8 g2425 g2427 a2435 a2436 a2437 a2438, b7 g2427 A2430 m2431 n2432 r.2.1, r6 A2430 m2431 n2432 r.2.2] w' := by
  generalize (fps [b8 g2425 g2427 a2435 a2436 a2437 a2438, b7 g2427 A2430 m2431 n2432 a2434, r6 A2430 m2431 n2432 l2429]) = FF at HS HGl0 ⊢
  obtain rfl := (row_len (HS.out.at2)).symm
  unfold ring_Cut.f at H
  go_enter Tryd.func24, Tryd.ntmps24
  go_wp2_with fail
  obtain ⟨t2496, HA2497, H⟩ := bind_some H
  refine (ring_marked.calls l2429 a2434 a2435 a2436 a2437 a2438 a2439 1 g2425 g2427 A2430 l2429.length n2432 t2496 _ ⟨HGl0.out.pass HS.out⟩ ⟨HS.out.begin⟩ HA2497).mono ?_
  rintro e_ w2498 ⟨rfl, hS⟩
  replace HS : Aside0 (Sep FF w [b8 g2425 g2427 a2435 a2436 a2437 a2438, b7 g2427 A2430 l2429.length n2432 t2496.2.2.2.2.2.2.2.2, r6 A2430 l2429.length n2432 l2429] w2498) := ⟨HS.out.call hS⟩
  clear hS
  by_cases c2517 : t2496.2.2.2.2.2.2.2.1 = true
  · replace H := if_yes c2517 H
    have c2517b0 : t2496.2.2.2.2.2.2.2.1 = true := c2517
    have c2517b1 : (!t2496.2.2.2.2.2.2.2.1) = false := by rw [c2517b0]; rfl
    try rw [c2517b1]
    clear c2517
    go_wp2_with (first | ((with_reducible refine gate_dst (N := 5) rfl ?_); refine box_on ?hg (N := 5) ?hd (cs := #[.int .i64 0, .int .i64 0, .int .i64 0, .int .i64 0, .int .i64 0, .int .i64 0, .int .i64 0]) (t := 32) ?hr ?_; (case hd => rfl); (case hg => rfl); (case hr => first | (go_simp; done) | (go_simp; rfl)); intro g2499 hg w2500 hbox hb; replace HS : Aside0 (Sep FF w [b8 g2425 g2427 a2435 a2436 a2437 a2438, b7 g2427 A2430 l2429.length n2432 t2496.2.2.2.2.2.2.2.2, r6 A2430 l2429.length n2432 l2429, b9 g2499 0 0 0 0 0 0 0] w2500) := ⟨HS.out.box hg hbox hb⟩; clear hg hbox hb; have hc2502 : w2500.cell? ⟨g2499, 0, none⟩ = some (.int .i64 0) := blk_cellv (HS.out.at3) 0 rfl; have hz2503 : w2500.frozen? ⟨g2499, 0, none⟩ = false := blk_fz (HS.out.at3) 0; have hc2504 : w2500.cell? ⟨g2499, 1, none⟩ = some (.int .i64 0) := blk_cellv (HS.out.at3) 1 rfl; have hz2505 : w2500.frozen? ⟨g2499, 1, none⟩ = false := blk_fz (HS.out.at3) 1; have hc2506 : w2500.cell? ⟨g2499, 2, none⟩ = some (.int .i64 0) := blk_cellv (HS.out.at3) 2 rfl; have hz2507 : w2500.frozen? ⟨g2499, 2, none⟩ = false := blk_fz (HS.out.at3) 2; have hc2508 : w2500.cell? ⟨g2499, 3, none⟩ = some (.int .i64 0) := blk_cellv (HS.out.at3) 3 rfl; have hz2509 : w2500.frozen? ⟨g2499, 3, none⟩ = false := blk_fz (HS.out.at3) 3; have hc2510 : w2500.cell? ⟨g2499, 4, none⟩ = some (.int .i64 0) := blk_cellv (HS.out.at3) 4 rfl; have hz2511 : w2500.frozen? ⟨g2499, 4, none⟩ = false := blk_fz (HS.out.at3) 4; have hc2512 : w2500.cell? ⟨g2499, 5, none⟩ = some (.int .i64 0) := blk_cellv (HS.out.at3) 5 rfl; have hz2513 : w2500.frozen? ⟨g2499, 5, none⟩ = false := blk_fz (HS.out.at3) 5; have hc2514 : w2500.cell? ⟨g2499, 6, none⟩ = some (.int .i64 0) := blk_cellv (HS.out.at3) 6 rfl; have hz2515 : w2500.frozen? ⟨g2499, 6, none⟩ = false := blk_fz (HS.out.at3) 6) | ((with_reducible refine gate_store (t := 32) (p := 5) rfl ?_); refine store_event (w1 := (World.setCell (World.setCell (World.setCell (World.setCell (World.setCell (World.setCell (World.setCell w2500 ⟨g2499, 0, none⟩ (.int .i64 t2496.1)) ⟨g2499, 1, none⟩ (.int .i64 t2496.2.1)) ⟨g2499, 2, none⟩ (.int .i64 t2496.2.2.1)) ⟨g2499, 3, none⟩ (.int .i64 t2496.2.2.2.1)) ⟨g2499, 4, none⟩ (.int .i64 t2496.2.2.2.2.1)) ⟨g2499, 5, none⟩ (.int .i64 t2496.2.2.2.2.2.1)) ⟨g2499, 6, none⟩ (.int .i64 t2496.2.2.2.2.2.2.1))) rfl (t := 32) (p := 5) rfl rfl ?hr ?_; (case hr => first | (go_simp; done) | (go_simp; rfl)); intro w2516 hst; clear hc2502 hz2503 hc2504 hz2505 hc2506 hz2507 hc2508 hz2509 hc2510 hz2511 hc2512 hz2513 hc2514 hz2515; replace HS : Aside0 (Sep FF w [b8 g2425 g2427 a2435 a2436 a2437 a2438, b7 g2427 A2430 l2429.length n2432 t2496.2.2.2.2.2.2.2.2, r6 A2430 l2429.length n2432 l2429, b9 g2499 t2496.1 t2496.2.1 t2496.2.2.1 t2496.2.2.2.1 t2496.2.2.2.2.1 t2496.2.2.2.2.2.1 t2496.2.2.2.2.2.2.1] w2516) := ⟨by rw [hst]; exact HS.out.setAll (l1 := [b8 g2425 g2427 a2435 a2436 a2437 a2438, b7 g2427 A2430 l2429.length n2432 t2496.2.2.2.2.2.2.2.2, r6 A2430 l2429.length n2432 l2429]) (l2 := []) [.int .i64 t2496.1, .int .i64 t2496.2.1, .int .i64 t2496.2.2.1, .int .i64 t2496.2.2.2.1, .int .i64 t2496.2.2.2.2.1, .int .i64 t2496.2.2.2.2.2.1, .int .i64 t2496.2.2.2.2.2.2.1] rfl⟩; clear hst; have hc2518 : w2516.cell? ⟨g2499, 0, none⟩ = some (.int .i64 t2496.1) := blk_cellv (HS.out.at3) 0 rfl; have hc2519 : w2516.cell? ⟨g2499, 1, none⟩ = some (.int .i64 t2496.2.1) := blk_cellv (HS.out.at3) 1 rfl; have hc2520 : w2516.cell? ⟨g2499, 2, none⟩ = some (.int .i64 t2496.2.2.1) := blk_cellv (HS.out.at3) 2 rfl; have hc2521 : w2516.cell? ⟨g2499, 3, none⟩ = some (.int .i64 t2496.2.2.2.1) := blk_cellv (HS.out.at3) 3 rfl; have hc2522 : w2516.cell? ⟨g2499, 4, none⟩ = some (.int .i64 t2496.2.2.2.2.1) := blk_cellv (HS.out.at3) 4 rfl; have hc2523 : w2516.cell? ⟨g2499, 5, none⟩ = some (.int .i64 t2496.2.2.2.2.2.1) := blk_cellv (HS.out.at3) 5 rfl; have hc2524 : w2516.cell? ⟨g2499, 6, none⟩ = some (.int .i64 t2496.2.2.2.2.2.2.1) := blk_cellv (HS.out.at3) 6 rfl))
    clear hc2518 hc2519 hc2520 hc2521 hc2522 hc2523 hc2524
    obtain ⟨t2525, HA2526, H⟩ := bind_some H
    refine (ring_mark.calls _ l2429 t2496.2.2.2.2.2.2.2.2 a2435 a2436 a2437 a2438 a2439 t2496.1 t2496.2.1 t2496.2.2.1 t2496.2.2.2.1 t2496.2.2.2.2.1 t2496.2.2.2.2.2.1 t2496.2.2.2.2.2.2.1 0 g2425 g2427 A2430 l2429.length n2432 t2525 _ ⟨HGl0.out.pass HS.out⟩ ⟨HS.out.begin⟩ HA2526).mono ?_
    rintro e_ w2527 ⟨rfl, hS⟩
    replace HS : Aside0 (Sep FF w [b8 g2425 g2427 a2435 a2436 a2437 a2438, b7 g2427 A2430 l2429.length n2432 t2525.1, r6 A2430 l2429.length n2432 t2525.2, b9 g2499 t2496.1 t2496.2.1 t2496.2.2.1 t2496.2.2.2.1 t2496.2.2.2.2.1 t2496.2.2.2.2.2.1 t2496.2.2.2.2.2.2.1] w2527) := ⟨HS.out.call hS⟩
    clear hS
    replace HS : Aside0 (Sep FF w [b8 g2425 g2427 a2435 a2436 a2437 a2438, b7 g2427 A2430 l2429.length n2432 t2525.1, r6 A2430 l2429.length n2432 t2525.2] w2527) := ⟨HS.out.sub (.cons_cons _ (.cons_cons _ (.cons_cons _ (.cons _ .slnil))))⟩
    go_wp2_with fail
    obtain ⟨t2528, HA2529, H⟩ := bind_some H
    refine (ground_Ground_Word.calls t2525.2 t2525.1 a2435 a2436 a2437 a2438 a2439 6 g2425 g2427 A2430 l2429.length n2432 t2528 _ ⟨HGl0.out.pass HS.out⟩ ⟨HS.out.begin⟩ HA2529).mono ?_
    rintro e_ w2530 ⟨rfl, hS⟩
    replace HS : Aside0 (Sep FF w [b8 g2425 g2427 a2435 a2436 a2437 a2438, b7 g2427 A2430 l2429.length n2432 t2528.2, r6 A2430 l2429.length n2432 t2525.2] w2530) := ⟨HS.out.call hS⟩
    clear hS
    go_wp2_with fail
    obtain ⟨t2531, HA2532, H⟩ := bind_some H
    refine (ground_Ground_Word.calls t2525.2 t2528.2 a2435 a2436 a2437 a2438 a2439 7 g2425 g2427 A2430 l2429.length n2432 t2531 _ ⟨HGl0.out.pass HS.out⟩ ⟨HS.out.begin⟩ HA2532).mono ?_
    rintro e_ w2533 ⟨rfl, hS⟩
    replace HS : Aside0 (Sep FF w [b8 g2425 g2427 a2435 a2436 a2437 a2438, b7 g2427 A2430 l2429.length n2432 t2531.2, r6 A2430 l2429.length n2432 t2525.2] w2533) := ⟨HS.out.call hS⟩
    clear hS
    go_wp2_with fail
    obtain ⟨t2534, HA2535, H⟩ := bind_some H
    refine (ring_link.calls t2525.2 t2531.2 a2435 a2436 a2437 a2438 (wrap64 (t2528.1)) 7 7 (wrap64 (t2531.1)) g2425 g2427 A2430 l2429.length n2432 t2534 _ ⟨HGl0.out.pass HS.out⟩ ⟨HS.out.begin⟩ HA2535).mono ?_
    rintro e_ w2536 ⟨rfl, hS⟩
    replace HS : Aside0 (Sep FF w [b8 g2425 g2427 a2435 a2436 a2437 a2438, b7 g2427 A2430 l2429.length n2432 t2534.1, r6 A2430 l2429.length n2432 t2534.2] w2536) := ⟨HS.out.call hS⟩
    clear hS
    go_wp2_with fail
    obtain ⟨t2537, HA2538, H⟩ := bind_some H
    refine (ring_link.calls t2534.2 t2534.1 a2435 a2436 a2437 a2438 (wrap64 (t2531.1)) 6 8 (wrap64 (t2528.1)) g2425 g2427 A2430 l2429.length n2432 t2537 _ ⟨HGl0.out.pass HS.out⟩ ⟨HS.out.begin⟩ HA2538).mono ?_
    rintro e_ w2539 ⟨rfl, hS⟩
    replace HS : Aside0 (Sep FF w [b8 g2425 g2427 a2435 a2436 a2437 a2438, b7 g2427 A2430 l2429.length n2432 t2537.1, r6 A2430 l2429.length n2432 t2537.2] w2539) := ⟨HS.out.call hS⟩
    clear hS
    go_wp2_with fail
    obtain ⟨t2540, HA2541, H⟩ := bind_some H
    refine (ground_Ground_SetWord.calls t2537.2 t2537.1 a2435 a2436 a2437 a2438 a2439 6 0 g2425 g2427 A2430 l2429.length n2432 t2540 _ ⟨HGl0.out.pass HS.out⟩ ⟨HS.out.begin⟩ HA2541).mono ?_
    rintro e_ w2542 ⟨rfl, hS⟩
    replace HS : Aside0 (Sep FF w [b8 g2425 g2427 a2435 a2436 a2437 a2438, b7 g2427 A2430 l2429.length n2432 t2540.2.1, r6 A2430 l2429.length n2432 t2540.2.2] w2542) := ⟨HS.out.call hS⟩
    clear hS
    go_wp2_with fail
    obtain ⟨t2543, HA2544, H⟩ := bind_some H
    refine (ground_Ground_SetWord.calls t2540.2.2 t2540.2.1 a2435 a2436 a2437 a2438 a2439 7 0 g2425 g2427 A2430 l2429.length n2432 t2543 _ ⟨HGl0.out.pass HS.out⟩ ⟨HS.out.begin⟩ HA2544).mono ?_
    rintro e_ w2545 ⟨rfl, hS⟩
    replace HS : Aside0 (Sep FF w [b8 g2425 g2427 a2435 a2436 a2437 a2438, b7 g2427 A2430 l2429.length n2432 t2543.2.1, r6 A2430 l2429.length n2432 t2543.2.2] w2545) := ⟨HS.out.call hS⟩
    clear hS
    go_wp2_with fail
    obtain ⟨t2546, HA2547, H⟩ := bind_some H
    refine (ground_Ground_Reg.calls t2543.2.2 t2543.2.1 a2435 a2436 a2437 a2438 9 g2425 g2427 A2430 l2429.length n2432 t2546 _ ⟨HGl0.out.pass HS.out⟩ ⟨HS.out.begin⟩ HA2547).mono ?_
    rintro e_ w2548 ⟨rfl, hS⟩
    replace HS : Aside0 (Sep FF w [b8 g2425 g2427 a2435 a2436 a2437 a2438, b7 g2427 A2430 l2429.length n2432 t2546.2, r6 A2430 l2429.length n2432 t2543.2.2] w2548) := ⟨HS.out.call hS⟩
    clear hS
    go_wp2_with fail
    obtain ⟨t2549, HA2550, H⟩ := bind_some H
    refine (ground_Ground_SetReg.calls t2543.2.2 t2546.2 a2435 a2436 a2437 a2438 9 (wrap64 (t2546.1 - 1)) g2425 g2427 A2430 l2429.length n2432 t2549 _ ⟨HGl0.out.pass HS.out⟩ ⟨HS.out.begin⟩ HA2550).mono ?_
    rintro e_ w2551 ⟨rfl, hS⟩
    replace HS : Aside0 (Sep FF w [b8 g2425 g2427 a2435 a2436 a2437 a2438, b7 g2427 A2430 l2429.length n2432 t2549.2.1, r6 A2430 l2429.length n2432 t2549.2.2] w2551) := ⟨HS.out.call hS⟩
    clear hS
    go_wp2_with fail
    go_ret
    rw [← some_eq H]
    exact ⟨(by first | rfl | (simp [IntKind.wrap_u32]; done)), HS.out⟩
  · replace H := if_no c2517 H
    have c2517b0 : t2496.2.2.2.2.2.2.2.1 = false := by simpa using c2517
    have c2517b1 : (!t2496.2.2.2.2.2.2.2.1) = true := by rw [c2517b0]; rfl
    try rw [c2517b1]
    clear c2517
    go_wp2_with (first | ((with_reducible refine gate_dst (N := 5) rfl ?_); refine box_on ?hg (N := 5) ?hd (cs := #[.int .i64 0, .int .i64 0, .int .i64 0, .int .i64 0, .int .i64 0, .int .i64 0, .int .i64 0]) (t := 32) ?hr ?_; (case hd => rfl); (case hg => rfl); (case hr => first | (go_simp; done) | (go_simp; rfl)); intro g2499 hg w2500 hbox hb; replace HS : Aside0 (Sep FF w [b8 g2425 g2427 a2435 a2436 a2437 a2438, b7 g2427 A2430 l2429.length n2432 t2496.2.2.2.2.2.2.2.2, r6 A2430 l2429.length n2432 l2429, b9 g2499 0 0 0 0 0 0 0] w2500) := ⟨HS.out.box hg hbox hb⟩; clear hg hbox hb; have hc2502 : w2500.cell? ⟨g2499, 0, none⟩ = some (.int .i64 0) := blk_cellv (HS.out.at3) 0 rfl; have hz2503 : w2500.frozen? ⟨g2499, 0, none⟩ = false := blk_fz (HS.out.at3) 0; have hc2504 : w2500.cell? ⟨g2499, 1, none⟩ = some (.int .i64 0) := blk_cellv (HS.out.at3) 1 rfl; have hz2505 : w2500.frozen? ⟨g2499, 1, none⟩ = false := blk_fz (HS.out.at3) 1; have hc2506 : w2500.cell? ⟨g2499, 2, none⟩ = some (.int .i64 0) := blk_cellv (HS.out.at3) 2 rfl; have hz2507 : w2500.frozen? ⟨g2499, 2, none⟩ = false := blk_fz (HS.out.at3) 2; have hc2508 : w2500.cell? ⟨g2499, 3, none⟩ = some (.int .i64 0) := blk_cellv (HS.out.at3) 3 rfl; have hz2509 : w2500.frozen? ⟨g2499, 3, none⟩ = false := blk_fz (HS.out.at3) 3; have hc2510 : w2500.cell? ⟨g2499, 4, none⟩ = some (.int .i64 0) := blk_cellv (HS.out.at3) 4 rfl; have hz2511 : w2500.frozen? ⟨g2499, 4, none⟩ = false := blk_fz (HS.out.at3) 4; have hc2512 : w2500.cell? ⟨g2499, 5, none⟩ = some (.int .i64 0) := blk_cellv (HS.out.at3) 5 rfl; have hz2513 : w2500.frozen? ⟨g2499, 5, none⟩ = false := blk_fz (HS.out.at3) 5; have hc2514 : w2500.cell? ⟨g2499, 6, none⟩ = some (.int .i64 0) := blk_cellv (HS.out.at3) 6 rfl; have hz2515 : w2500.frozen? ⟨g2499, 6, none⟩ = false := blk_fz (HS.out.at3) 6) | ((with_reducible refine gate_store (t := 32) (p := 5) rfl ?_); refine store_event (w1 := (World.setCell (World.setCell (World.setCell (World.setCell (World.setCell (World.setCell (World.setCell w2500 ⟨g2499, 0, none⟩ (.int .i64 t2496.1)) ⟨g2499, 1, none⟩ (.int .i64 t2496.2.1)) ⟨g2499, 2, none⟩ (.int .i64 t2496.2.2.1)) ⟨g2499, 3, none⟩ (.int .i64 t2496.2.2.2.1)) ⟨g2499, 4, none⟩ (.int .i64 t2496.2.2.2.2.1)) ⟨g2499, 5, none⟩ (.int .i64 t2496.2.2.2.2.2.1)) ⟨g2499, 6, none⟩ (.int .i64 t2496.2.2.2.2.2.2.1))) rfl (t := 32) (p := 5) rfl rfl ?hr ?_; (case hr => first | (go_simp; done) | (go_simp; rfl)); intro w2516 hst; clear hc2502 hz2503 hc2504 hz2505 hc2506 hz2507 hc2508 hz2509 hc2510 hz2511 hc2512 hz2513 hc2514 hz2515; replace HS : Aside0 (Sep FF w [b8 g2425 g2427 a2435 a2436 a2437 a2438, b7 g2427 A2430 l2429.length n2432 t2496.2.2.2.2.2.2.2.2, r6 A2430 l2429.length n2432 l2429, b9 g2499 t2496.1 t2496.2.1 t2496.2.2.1 t2496.2.2.2.1 t2496.2.2.2.2.1 t2496.2.2.2.2.2.1 t2496.2.2.2.2.2.2.1] w2516) := ⟨by rw [hst]; exact HS.out.setAll (l1 := [b8 g2425 g2427 a2435 a2436 a2437 a2438, b7 g2427 A2430 l2429.length n2432 t2496.2.2.2.2.2.2.2.2, r6 A2430 l2429.length n2432 l2429]) (l2 := []) [.int .i64 t2496.1, .int .i64 t2496.2.1, .int .i64 t2496.2.2.1, .int .i64 t2496.2.2.2.1, .int .i64 t2496.2.2.2.2.1, .int .i64 t2496.2.2.2.2.2.1, .int .i64 t2496.2.2.2.2.2.2.1] rfl⟩; clear hst; replace HS : Aside0 (Sep FF w [b8 g2425 g2427 a2435 a2436 a2437 a2438, b7 g2427 A2430 l2429.length n2432 t2496.2.2.2.2.2.2.2.2, r6 A2430 l2429.length n2432 l2429] w2516) := ⟨HS.out.sub (.cons_cons _ (.cons_cons _ (.cons_cons _ (.cons _ .slnil))))⟩))
    go_ret
    rw [← some_eq H]
    exact ⟨(by first | rfl | (simp [IntKind.wrap_u32]; done)), HS.out⟩

set_option maxHeartbeats 30000000 in
set_option maxRecDepth 100000 in
theorem store_Store_Peek.calls (l2596 : List Int) (a2601 : Int) (a2602 : Int) (g2594 : Nat) (A2597 : Option Addr) (m2598 : Nat) (n2599 : Nat) (r : Int) (w : World)  (HGl0 : Aside0 (Gl 0 #[.int .i64 0, .int .i64 0, .int .i64 0, .int .i64 0, .int .i64 0] (fps [b7 g2594 A2597 m2598 n2599 a2601, r6 A2597 m2598 n2599 l2596]) w)) (HS : Aside0 (Sep (fps [b7 g2594 A2597 m2598 n2599 a2601, r6 A2597 m2598 n2599 l2596]) w [b7 g2594 A2597 m2598 n2599 a2601, r6 A2597 m2598 n2599 l2596] w)) (H : Aside0 (store_Store_Peek.f l2596 a2601 a2602 = some r)) :
    Calls Tryd.prog 73 #[.pointer (some ⟨g2594, 0, none⟩), .int .i64 a2602] w fun e w' => e = .returned (.int .u32 r) ∧ Sep (fps [b7 g2594 A2597 m2598 n2599 a2601, r6 A2597 m2598 n2599 l2596]) w [b7 g2594 A2597 m2598 n2599 a2601, r6 A2597 m2598 n2599 l2596] w' := by
  generalize (fps [b7 g2594 A2597 m2598 n2599 a2601, r6 A2597 m2598 n2599 l2596]) = FF at HS HGl0 ⊢
  obtain rfl := (row_len (HS.out.at1)).symm
  unfold store_Store_Peek.f at H
  go_enter Tryd.func73, Tryd.ntmps73
  go_wp2_with fail
  obtain ⟨t2603, HA2604, H⟩ := bind_some H
  refine (store_Store_has.calls l2596 a2601 a2602 g2594 A2597 l2596.length n2599 t2603 _ ⟨HGl0.out.pass HS.out⟩ ⟨HS.out.begin⟩ HA2604).mono ?_
  rintro e_ w2605 ⟨rfl, hS⟩
  replace HS : Aside0 (Sep FF w [b7 g2594 A2597 l2596.length n2599 a2601, r6 A2597 l2596.length n2599 l2596] w2605) := ⟨HS.out.call hS⟩
  clear hS
  by_cases c2606 : t2603 = true
  · replace H := if_yes c2606 H
    have c2606b0 : t2603 = true := c2606
    have c2606b1 : (!t2603) = false := by rw [c2606b0]; rfl
    try rw [c2606b1]
    clear c2606
    by_cases c2608 : 0 ≤ a2602
    · replace H := if_yes c2608 H
      have c2608b0 : decide (0 ≤ a2602) = true := decide_eq_true c2608
      have c2608p : (0 ≤ a2602) = True := eq_true c2608
      clear c2608
      by_cases c2609 : a2602 < (l2596.length : Int)
      · replace H := if_yes c2609 H
        have c2609b0 : decide (a2602 < (l2596.length : Int)) = true := decide_eq_true c2609
        have c2609p : (a2602 < (l2596.length : Int)) = True := eq_true c2609
        clear c2609
        have hc2607 : w2605.cell? ⟨g2594, 0, none⟩ = some (.slice A2597 l2596.length n2599) := blk_cellv (HS.out.at0) 0 rfl
        obtain ⟨g2610, ea⟩ := row_at (HS.out.at1) (by have := (of_decide_eq_true c2608b0); have := (of_decide_eq_true c2609b0); omega); cases ea
        have hx2611 := C_at_int (row_Ci (HS.out.at1)) a2602 (of_decide_eq_true c2608b0) (of_decide_eq_true c2609b0)
        have hx2612 : w2605.cell? ⟨g2610, (a2602).toNat, none⟩ = some (.int .u32 (rd l2596 a2602)) := (row_get 0 (HS.out.at1) a2602 (of_decide_eq_true c2608b0) (of_decide_eq_true c2609b0)).1
        go_wp2_with fail
        clear hc2607 hx2611 hx2612
        go_ret
        rw [← some_eq H]
        exact ⟨(by first | rfl | (simp [IntKind.wrap_u32]; done)), HS.out⟩
      · replace H := if_no c2609 H
        have c2609b0 : decide (a2602 < (l2596.length : Int)) = false := decide_eq_false c2609
        clear c2609
        exact (none_no H).elim
    · replace H := if_no c2608 H
      have c2608b0 : decide (0 ≤ a2602) = false := decide_eq_false c2608
      clear c2608
      exact (none_no H).elim
  · replace H := if_no c2606 H
    have c2606b0 : t2603 = false := by simpa using c2606
    have c2606b1 : (!t2603) = true := by rw [c2606b0]; rfl
    try rw [c2606b1]
    clear c2606
    go_wp2_with fail
    go_ret
    rw [← some_eq H]
    exact ⟨(by first | rfl | (simp [IntKind.wrap_u32]; done)), HS.out⟩

set_option maxHeartbeats 30000000 in
set_option maxRecDepth 100000 in
theorem ground_Ground_SeeReg.calls (l2576 : List Int) (a2581 : Int) (a2582 : Int) (a2583 : Int) (a2584 : Int) (a2585 : Int) (a2586 : Int) (g2572 : Nat) (g2574 : Nat) (A2577 : Option Addr) (m2578 : Nat) (n2579 : Nat) (r : Int) (w : World)  (HGl0 : Aside0 (Gl 0 #[.int .i64 0, .int .i64 0, .int .i64 0, .int .i64 0, .int .i64 0] (fps [b8 g2572 g2574 a2582 a2583 a2584 a2585, b7 g2574 A2577 m2578 n2579 a2581, r6 A2577 m2578 n2579 l2576]) w)) (HS : Aside0 (Sep (fps [b8 g2572 g2574 a2582 a2583 a2584 a2585, b7 g2574 A2577 m2578 n2579 a2581, r6 A2577 m2578 n2579 l2576]) w [b8 g2572 g2574 a2582 a2583 a2584 a2585, b7 g2574 A2577 m2578 n2579 a2581, r6 A2577 m2578 n2579 l2576] w)) (H : Aside0 (ground_Ground_SeeReg.f l2576 a2581 a2582 a2583 a2584 a2585 a2586 = some r)) :
    Calls Tryd.prog 85 #[.pointer (some ⟨g2572, 0, none⟩), .int .i64 a2586] w fun e w' => e = .returned (.int .i64 r) ∧ Sep (fps [b8 g2572 g2574 a2582 a2583 a2584 a2585, b7 g2574 A2577 m2578 n2579 a2581, r6 A2577 m2578 n2579 l2576]) w [b8 g2572 g2574 a2582 a2583 a2584 a2585, b7 g2574 A2577 m2578 n2579 a2581, r6 A2577 m2578 n2579 l2576] w' := by
  generalize (fps [b8 g2572 g2574 a2582 a2583 a2584 a2585, b7 g2574 A2577 m2578 n2579 a2581, r6 A2577 m2578 n2579 l2576]) = FF at HS HGl0 ⊢
  obtain rfl := (row_len (HS.out.at2)).symm
  unfold ground_Ground_SeeReg.f at H
  go_enter Tryd.func85, Tryd.ntmps85
  go_wp2_with fail
  obtain ⟨t2587, HA2588, H⟩ := bind_some H
  refine (ground_Ground_all.calls l2576 a2581 a2582 a2583 a2584 a2585 g2572 g2574 A2577 l2576.length n2579 t2587 _ ⟨HGl0.out.pass HS.out⟩ ⟨HS.out.begin⟩ HA2588).mono ?_
  rintro e_ w2589 ⟨rfl, hS⟩
  replace HS : Aside0 (Sep FF w [b8 g2572 g2574 a2582 a2583 a2584 a2585, b7 g2574 A2577 l2576.length n2579 a2581, r6 A2577 l2576.length n2579 l2576] w2589) := ⟨HS.out.call hS⟩
  clear hS
  go_wp2_with fail
  obtain ⟨t2590, HA2591, H⟩ := bind_some H
  refine (ground_reg.calls a2586 t2590 _ ⟨HGl0.out.pass (l := []) HS.out⟩ ⟨Sep.start _⟩ HA2591).mono ?_
  rintro e_ w2592 ⟨rfl, hS⟩
  replace HS : Aside0 (Sep FF w [b8 g2572 g2574 a2582 a2583 a2584 a2585, b7 g2574 A2577 l2576.length n2579 a2581, r6 A2577 l2576.length n2579 l2576] w2592) := ⟨HS.out.call hS⟩
  clear hS
  go_wp2_with fail
  replace HS : Aside0 (Sep FF w [r6 A2577 l2576.length n2579 l2576, b8 g2572 g2574 a2582 a2583 a2584 a2585, b7 g2574 A2577 l2576.length n2579 a2581] w2592) := ⟨HS.out.front 2 (by simp)⟩
  replace HS : Aside0 (Sep FF w [b7 g2574 A2577 l2576.length n2579 a2581, r6 A2577 l2576.length n2579 l2576, b8 g2572 g2574 a2582 a2583 a2584 a2585] w2592) := ⟨HS.out.front 2 (by simp)⟩
  obtain ⟨t2613, HA2614, H⟩ := bind_some H
  refine (store_Store_Peek.calls l2576 a2581 t2590 g2574 A2577 l2576.length n2579 t2613 _ ⟨HGl0.out.pass HS.out⟩ ⟨HS.out.begin⟩ HA2614).mono ?_
  rintro e_ w2615 ⟨rfl, hS⟩
  replace HS : Aside0 (Sep FF w [b7 g2574 A2577 l2576.length n2579 a2581, r6 A2577 l2576.length n2579 l2576, b8 g2572 g2574 a2582 a2583 a2584 a2585] w2615) := ⟨HS.out.call hS⟩
  clear hS
  go_wp2_with fail
  go_ret
  rw [← some_eq H]
  exact ⟨(by first | rfl | (simp [IntKind.wrap_u32]; done)), ((((HS.out).front 1 (by simp)).front 1 (by simp)).front 2 (by simp)).keep (l := [b8 g2572 g2574 a2582 a2583 a2584 a2585, b7 g2574 A2577 l2576.length n2579 a2581, r6 A2577 l2576.length n2579 l2576]) (rest := [])⟩

set_option maxHeartbeats 30000000 in
set_option maxRecDepth 100000 in
theorem ground_Ground_SeeWord.calls (l2653 : List Int) (a2658 : Int) (a2659 : Int) (a2660 : Int) (a2661 : Int) (a2662 : Int) (a2663 : Int) (a2664 : Int) (g2649 : Nat) (g2651 : Nat) (A2654 : Option Addr) (m2655 : Nat) (n2656 : Nat) (r : Int) (w : World)  (HGl0 : Aside0 (Gl 0 #[.int .i64 0, .int .i64 0, .int .i64 0, .int .i64 0, .int .i64 0] (fps [b8 g2649 g2651 a2659 a2660 a2661 a2662, b7 g2651 A2654 m2655 n2656 a2658, r6 A2654 m2655 n2656 l2653]) w)) (HS : Aside0 (Sep (fps [b8 g2649 g2651 a2659 a2660 a2661 a2662, b7 g2651 A2654 m2655 n2656 a2658, r6 A2654 m2655 n2656 l2653]) w [b8 g2649 g2651 a2659 a2660 a2661 a2662, b7 g2651 A2654 m2655 n2656 a2658, r6 A2654 m2655 n2656 l2653] w)) (H : Aside0 (ground_Ground_SeeWord.f l2653 a2658 a2659 a2660 a2661 a2662 a2663 a2664 = some r)) :
    Calls Tryd.prog 18 #[.pointer (some ⟨g2649, 0, none⟩), .int .i64 a2663, .int .i64 a2664] w fun e w' => e = .returned (.int .u32 r) ∧ Sep (fps [b8 g2649 g2651 a2659 a2660 a2661 a2662, b7 g2651 A2654 m2655 n2656 a2658, r6 A2654 m2655 n2656 l2653]) w [b8 g2649 g2651 a2659 a2660 a2661 a2662, b7 g2651 A2654 m2655 n2656 a2658, r6 A2654 m2655 n2656 l2653] w' := by
  generalize (fps [b8 g2649 g2651 a2659 a2660 a2661 a2662, b7 g2651 A2654 m2655 n2656 a2658, r6 A2654 m2655 n2656 l2653]) = FF at HS HGl0 ⊢
  obtain rfl := (row_len (HS.out.at2)).symm
  unfold ground_Ground_SeeWord.f at H
  go_enter Tryd.func18, Tryd.ntmps18
  go_wp2_with fail
  obtain ⟨t2665, HA2666, H⟩ := bind_some H
  refine (ground_Ground_all.calls l2653 a2658 a2659 a2660 a2661 a2662 g2649 g2651 A2654 l2653.length n2656 t2665 _ ⟨HGl0.out.pass HS.out⟩ ⟨HS.out.begin⟩ HA2666).mono ?_
  rintro e_ w2667 ⟨rfl, hS⟩
  replace HS : Aside0 (Sep FF w [b8 g2649 g2651 a2659 a2660 a2661 a2662, b7 g2651 A2654 l2653.length n2656 a2658, r6 A2654 l2653.length n2656 l2653] w2667) := ⟨HS.out.call hS⟩
  clear hS
  go_wp2_with fail
  obtain ⟨t2668, HA2669, H⟩ := bind_some H
  refine (ground_Ground_word.calls l2653 a2658 a2659 a2660 a2661 a2662 a2663 a2664 g2649 g2651 A2654 l2653.length n2656 t2668 _ ⟨HGl0.out.pass HS.out⟩ ⟨HS.out.begin⟩ HA2669).mono ?_
  rintro e_ w2670 ⟨rfl, hS⟩
  replace HS : Aside0 (Sep FF w [b8 g2649 g2651 a2659 a2660 a2661 a2662, b7 g2651 A2654 l2653.length n2656 a2658, r6 A2654 l2653.length n2656 l2653] w2670) := ⟨HS.out.call hS⟩
  clear hS
  go_wp2_with fail
  replace HS : Aside0 (Sep FF w [r6 A2654 l2653.length n2656 l2653, b8 g2649 g2651 a2659 a2660 a2661 a2662, b7 g2651 A2654 l2653.length n2656 a2658] w2670) := ⟨HS.out.front 2 (by simp)⟩
  replace HS : Aside0 (Sep FF w [b7 g2651 A2654 l2653.length n2656 a2658, r6 A2654 l2653.length n2656 l2653, b8 g2649 g2651 a2659 a2660 a2661 a2662] w2670) := ⟨HS.out.front 2 (by simp)⟩
  obtain ⟨t2671, HA2672, H⟩ := bind_some H
  refine (store_Store_Peek.calls l2653 a2658 t2668 g2651 A2654 l2653.length n2656 t2671 _ ⟨HGl0.out.pass HS.out⟩ ⟨HS.out.begin⟩ HA2672).mono ?_
  rintro e_ w2673 ⟨rfl, hS⟩
  replace HS : Aside0 (Sep FF w [b7 g2651 A2654 l2653.length n2656 a2658, r6 A2654 l2653.length n2656 l2653, b8 g2649 g2651 a2659 a2660 a2661 a2662] w2673) := ⟨HS.out.call hS⟩
  clear hS
  go_wp2_with fail
  go_ret
  rw [← some_eq H]
  exact ⟨(by first | rfl | (simp [IntKind.wrap_u32]; done)), ((((HS.out).front 1 (by simp)).front 1 (by simp)).front 2 (by simp)).keep (l := [b8 g2649 g2651 a2659 a2660 a2661 a2662, b7 g2651 A2654 l2653.length n2656 a2658, r6 A2654 l2653.length n2656 l2653]) (rest := [])⟩

set_option maxHeartbeats 30000000 in
set_option maxRecDepth 100000 in
theorem ring_List.calls (k : Nat) (l2561 : List Int) (a2566 : Int) (a2567 : Int) (a2568 : Int) (a2569 : Int) (a2570 : Int) (g2557 : Nat) (g2559 : Nat) (A2562 : Option Addr) (m2563 : Nat) (n2564 : Nat) (r : List Int) (w : World)  (HGl0 : Aside0 (Gl 0 #[.int .i64 0, .int .i64 0, .int .i64 0, .int .i64 0, .int .i64 0] (fps [b8 g2557 g2559 a2567 a2568 a2569 a2570, b7 g2559 A2562 m2563 n2564 a2566, r6 A2562 m2563 n2564 l2561]) w)) (HS : Aside0 (Sep (fps [b8 g2557 g2559 a2567 a2568 a2569 a2570, b7 g2559 A2562 m2563 n2564 a2566, r6 A2562 m2563 n2564 l2561]) w [b8 g2557 g2559 a2567 a2568 a2569 a2570, b7 g2559 A2562 m2563 n2564 a2566, r6 A2562 m2563 n2564 l2561] w)) (H : Aside0 (ring_List.f k l2561 a2566 a2567 a2568 a2569 a2570 = some r)) :
    Calls Tryd.prog 28 #[.pointer (some ⟨g2557, 0, none⟩)] w fun e w' => ∃ (A2697 : Option Addr) (m2698 : Nat) (n2699 : Nat), e = .returned (.slice A2697 m2698 n2699) ∧ Sep (fps [b8 g2557 g2559 a2567 a2568 a2569 a2570, b7 g2559 A2562 m2563 n2564 a2566, r6 A2562 m2563 n2564 l2561]) w [b8 g2557 g2559 a2567 a2568 a2569 a2570, b7 g2559 A2562 m2563 n2564 a2566, r6 A2562 m2563 n2564 l2561, r14 A2697 m2698 n2699 r] w' := by
  generalize (fps [b8 g2557 g2559 a2567 a2568 a2569 a2570, b7 g2559 A2562 m2563 n2564 a2566, r6 A2562 m2563 n2564 l2561]) = FF at HS HGl0 ⊢
  obtain rfl := (row_len (HS.out.at2)).symm
  unfold ring_List.f at H
  go_enter Tryd.func28, Tryd.ntmps28
  go_wp2_with fail
  obtain ⟨t2616, HA2617, H⟩ := bind_some H
  refine (ground_Ground_SeeReg.calls l2561 a2566 a2567 a2568 a2569 a2570 7 g2557 g2559 A2562 l2561.length n2564 t2616 _ ⟨HGl0.out.pass HS.out⟩ ⟨HS.out.begin⟩ HA2617).mono ?_
  rintro e_ w2618 ⟨rfl, hS⟩
  replace HS : Aside0 (Sep FF w [b8 g2557 g2559 a2567 a2568 a2569 a2570, b7 g2559 A2562 l2561.length n2564 a2566, r6 A2562 l2561.length n2564 l2561] w2618) := ⟨HS.out.call hS⟩
  clear hS
  go_wp2_with fail
  replace HS : Aside0 (Sep FF w [r14 none 0 0 [], b8 g2557 g2559 a2567 a2568 a2569 a2570, b7 g2559 A2562 l2561.length n2564 a2566, r6 A2562 l2561.length n2564 l2561] w2618) := ⟨HS.out.nilrow 3 (Value.int .i64)⟩
  obtain ⟨o2620, AL2621, H⟩ := bind_some H
  go_loopg [3, 4] k (fun kq v3 v4 wc => ∃ (x2626 : Int) (x2627 : List Int) (A2628 : Option Addr) (m2629 : Nat) (n2630 : Nat), v3 = .slice A2628 m2629 n2630 ∧ v4 = .int .i64 x2626 ∧ Aside0 (ring_List.lo0 kq l2561 a2566 a2567 a2568 a2569 a2570 x2626 x2627 = some o2620) ∧ Aside0 (Sep FF w [r14 A2628 m2629 n2630 x2627, b8 g2557 g2559 a2567 a2568 a2569 a2570, b7 g2559 A2562 l2561.length n2564 a2566, r6 A2562 l2561.length n2564 l2561] wc))
  case atStart => exact ⟨(t2616), (([] : List Int)), (none), (0), (0), (by first | rfl | (simp [IntKind.wrap_u32]; done)), (by first | rfl | (simp [IntKind.wrap_u32]; done)), AL2621, ⟨HS.out⟩⟩
  case round =>
    clear AL2621 HS
    obtain ⟨x2626, x2627, A2628, m2629, n2630, rfl, rfl, AL2621, HS⟩ := hrel
    obtain ⟨w2622, rfl⟩ : ∃ x : World, x = wr := ⟨_, rfl⟩
    obtain rfl := (row_len (HS.out.at0)).symm
    cases gk with
    | zero => exact absurd AL2621.out (by simp [ring_List.lo0])
    | succ k2623 =>
      have AL0 := AL2621.out
      rw [ring_List.lo0] at AL0
      clear AL2621
      have AL2621 := Aside0.mk AL0
      clear AL0
      by_cases c2632 : x2626 > 0
      · replace AL2621 := if_yes c2632 AL2621
        have c2632b0 : decide (0 < x2626) = true := decide_eq_true c2632
        clear c2632
        go_wp2_with fail
        replace HS : Aside0 (Sep FF w [r6 A2562 l2561.length n2564 l2561, r14 A2628 x2627.length n2630 x2627, b8 g2557 g2559 a2567 a2568 a2569 a2570, b7 g2559 A2562 l2561.length n2564 a2566] w2622) := ⟨HS.out.front 3 (by simp)⟩
        replace HS : Aside0 (Sep FF w [b7 g2559 A2562 l2561.length n2564 a2566, r6 A2562 l2561.length n2564 l2561, r14 A2628 x2627.length n2630 x2627, b8 g2557 g2559 a2567 a2568 a2569 a2570] w2622) := ⟨HS.out.front 3 (by simp)⟩
        replace HS : Aside0 (Sep FF w [b8 g2557 g2559 a2567 a2568 a2569 a2570, b7 g2559 A2562 l2561.length n2564 a2566, r6 A2562 l2561.length n2564 l2561, r14 A2628 x2627.length n2630 x2627] w2622) := ⟨HS.out.front 3 (by simp)⟩
        obtain ⟨t2633, HA2634, AL2621⟩ := bind_some AL2621
        refine (ground_Ground_Conf.calls l2561 a2566 a2567 a2568 a2569 a2570 g2557 g2559 A2562 l2561.length n2564 t2633 _ ⟨HGl0.out.pass HS.out⟩ ⟨HS.out.begin⟩ HA2634).mono ?_
        rintro e_ w2635 ⟨rfl, hS⟩
        replace HS : Aside0 (Sep FF w [b8 g2557 g2559 a2567 a2568 a2569 a2570, b7 g2559 A2562 l2561.length n2564 a2566, r6 A2562 l2561.length n2564 l2561, r14 A2628 x2627.length n2630 x2627] w2635) := ⟨HS.out.call hS⟩
        clear hS
        by_cases c2637 : (x2627.length : Int) < t2633.1
        · replace AL2621 := if_yes c2637 AL2621
          have c2637b0 : decide ((x2627.length : Int) < t2633.1) = true := decide_eq_true c2637
          clear c2637
          by_cases c2641 : x2627.length < 17592186044416
          · replace AL2621 := if_yes c2641 AL2621
            have c2641b0 : decide (x2627.length < 17592186044416) = true := decide_eq_true c2641
            clear c2641
            obtain ⟨y2645, HA2646, AL2621⟩ := bind_some AL2621
            have fl2636 : ∀ w, (Instr.field 30 (.agg #[.int .i64 t2633.1, .int .i64 t2633.2.1, .int .i64 t2633.2.2.1, .int .i64 t2633.2.2.2]) 0).run Tryd.prog w = .ok (.int .i64 t2633.1) w := fun _ => by kernel_rfl
            go_wp2_with (first | ((with_reducible refine gate_dst (N := 27) rfl ?_); refine slice_on (n := 1) ?hg (N := 27) ?hd (cs := #[.int .i64 (wrap64 (x2626 - 1))]) (t := 3) ?hr ?_; (case hd => rfl); (case hg => rfl); (case hr => first | (go_simp; done) | (go_simp; rfl)); intro g2638 hg w2639 hbox hb; clear fl2636; replace HS : Aside0 (Sep FF w [b8 g2557 g2559 a2567 a2568 a2569 a2570, b7 g2559 A2562 l2561.length n2564 a2566, r6 A2562 l2561.length n2564 l2561, r14 A2628 x2627.length n2630 x2627, b15 g2638 (wrap64 (x2626 - 1))] w2639) := ⟨HS.out.box hg hbox hb⟩; clear hg hbox hb) | ((with_reducible refine gate_dst (N := 28) rfl ?_); refine append_event (l1 := [b8 g2557 g2559 a2567 a2568 a2569 a2570, b7 g2559 A2562 l2561.length n2564 a2566, r6 A2562 l2561.length n2564 l2561]) (l2 := [b15 g2638 (wrap64 (x2626 - 1))]) rfl (.tmp 24) (.tmp 27) 49 3 (.int .i64 0) 8 rfl Tryd.underlying49 (by kernel_rfl) rfl (by decide) (Value.int .i64) (fun _ => rfl) (.slice A2628 x2627.length n2630) (x2627 : List Int) [wrap64 (x2626 - 1)] ⟨g2638, 0, none⟩ 1 rfl rfl (blk_news (xs := [wrap64 (x2626 - 1)]) (HS.out.at4)) HS.out (by have := of_decide_eq_true c2641b0; simp only [List.length_cons, List.length_nil]; omega) HA2646 ?_; intro A2642 n2643 w2644 HS1; replace HS : Aside0 (Sep FF w [b8 g2557 g2559 a2567 a2568 a2569 a2570, b7 g2559 A2562 l2561.length n2564 a2566, r6 A2562 l2561.length n2564 l2561, r14 A2642 y2645.length n2643 y2645, b15 g2638 (wrap64 (x2626 - 1))] w2644) := ⟨HS1⟩; clear HS1; replace HS : Aside0 (Sep FF w [b8 g2557 g2559 a2567 a2568 a2569 a2570, b7 g2559 A2562 l2561.length n2564 a2566, r6 A2562 l2561.length n2564 l2561, r14 A2642 y2645.length n2643 y2645] w2644) := ⟨HS.out.sub (.cons_cons _ (.cons_cons _ (.cons_cons _ (.cons_cons _ (.cons _ .slnil)))))⟩))
            obtain ⟨t2674, HA2675, AL2621⟩ := bind_some AL2621
            refine (ground_Ground_SeeWord.calls l2561 a2566 a2567 a2568 a2569 a2570 (wrap64 (x2626 - 1)) 7 g2557 g2559 A2562 l2561.length n2564 t2674 _ ⟨HGl0.out.pass HS.out⟩ ⟨HS.out.begin⟩ HA2675).mono ?_
            rintro e_ w2676 ⟨rfl, hS⟩
            replace HS : Aside0 (Sep FF w [b8 g2557 g2559 a2567 a2568 a2569 a2570, b7 g2559 A2562 l2561.length n2564 a2566, r6 A2562 l2561.length n2564 l2561, r14 A2642 y2645.length n2643 y2645] w2676) := ⟨HS.out.call hS⟩
            clear hS
            go_wp2_with fail
            go_roundg k2623
            case measure => exact Nat.lt_succ_self _
            case rel => exact ⟨(wrap64 (t2674)), (y2645), (A2642), (y2645.length), (n2643), (by first | rfl | (simp [IntKind.wrap_u32]; done)), (by first | rfl | (simp [IntKind.wrap_u32]; done)), Aside0.mk AL2621.out, ⟨(((((HS.out).front 2 (by simp)).front 2 (by simp)).front 2 (by simp)).front 3 (by simp)).keep (l := [r14 A2642 y2645.length n2643 y2645, b8 g2557 g2559 a2567 a2568 a2569 a2570, b7 g2559 A2562 l2561.length n2564 a2566, r6 A2562 l2561.length n2564 l2561]) (rest := [])⟩⟩
          · replace AL2621 := if_no c2641 AL2621
            have c2641b0 : decide (x2627.length < 17592186044416) = false := decide_eq_false c2641
            clear c2641
            exact (none_no AL2621).elim
        · replace AL2621 := if_no c2637 AL2621
          have c2637b0 : decide ((x2627.length : Int) < t2633.1) = false := decide_eq_false c2637
          clear c2637
          have ho := some_eq AL2621
          subst ho
          clear AL2621
          have fl2636 : ∀ w, (Instr.field 30 (.agg #[.int .i64 t2633.1, .int .i64 t2633.2.1, .int .i64 t2633.2.2.1, .int .i64 t2633.2.2.2]) 0).run Tryd.prog w = .ok (.int .i64 t2633.1) w := fun _ => by kernel_rfl
          go_wp2_with fail
          clear fl2636
          go_ret
          rw [← some_eq H]
          exact ⟨A2628, x2627.length, n2630, (by first | rfl | (simp [IntKind.wrap_u32]; done)), HS.out⟩
      · replace AL2621 := if_no c2632 AL2621
        have c2632b0 : decide (0 < x2626) = false := decide_eq_false c2632
        clear c2632
        have ho := some_eq AL2621
        subst ho
        clear AL2621
        go_wp2_with fail
        go_ret
        rw [← some_eq H]
        exact ⟨A2628, x2627.length, n2630, (by first | rfl | (simp [IntKind.wrap_u32]; done)), ((((HS.out).front 3 (by simp)).front 3 (by simp)).front 3 (by simp)).keep (l := [b8 g2557 g2559 a2567 a2568 a2569 a2570, b7 g2559 A2562 l2561.length n2564 a2566, r6 A2562 l2561.length n2564 l2561, r14 A2628 x2627.length n2630 x2627]) (rest := [])⟩

set_option maxHeartbeats 30000000 in
set_option maxRecDepth 100000 in
theorem quitrentref01_Ints.calls (k : Nat) (l2712 : List Int) (l2716 : List Int) (A2713 : Option Addr) (n2714 : Nat) (A2717 : Option Addr) (n2718 : Nat) (r : Bool) (w : World) (HR2715 : Aside0 (Rd (Kd.int .i64) (fps []) w A2713 l2712.length l2712)) (HR2719 : Aside0 (Rd (Kd.int .i64) (fps []) w A2717 l2716.length l2716)) (HGl0 : Aside0 (Gl 0 #[.int .i64 0, .int .i64 0, .int .i64 0, .int .i64 0, .int .i64 0] (fps []) w)) (HS : Aside0 (Sep (fps []) w [] w)) (H : Aside0 (quitrentref01_Ints.f k l2712 l2716 = some r)) :
    Calls Tryd.prog 32 #[.slice A2713 l2712.length n2714, .slice A2717 l2716.length n2718] w fun e w' => e = .returned (.bool r) ∧ Sep (fps []) w [] w' := by
  unfold quitrentref01_Ints.f at H
  go_enter Tryd.func32, Tryd.ntmps32
  by_cases c2720 : (l2712.length : Int) = (l2716.length : Int)
  · replace H := if_yes c2720 H
    have c2720b0 : ((l2712.length : Int) == (l2716.length : Int)) = true := beq_iff_eq.mpr c2720
    have c2720b1 : ((l2712.length : Int) != (l2716.length : Int)) = false := bne_eq_false_iff_eq.mpr c2720
    clear c2720
    go_wp2_with fail
    obtain ⟨o2736, AL2737, H⟩ := bind_some H
    go_loopg [5] k (fun kq v5 wc => ∃ (x2740 : Int), v5 = .int .i64 x2740 ∧ Aside0 (quitrentref01_Ints.lo0 kq l2712 l2716 x2740 = some o2736) ∧ Aside0 (Sep (fps []) w [] wc))
    case atStart => exact ⟨(0), (by first | rfl | (simp [IntKind.wrap_u32]; done)), AL2737, ⟨HS.out⟩⟩
    case round =>
      clear AL2737 HS
      obtain ⟨x2740, rfl, AL2737, HS⟩ := hrel
      obtain ⟨w2738, rfl⟩ : ∃ x : World, x = wr := ⟨_, rfl⟩
      cases gk with
      | zero => exact absurd AL2737.out (by simp [quitrentref01_Ints.lo0])
      | succ k2739 =>
        have AL0 := AL2737.out
        rw [quitrentref01_Ints.lo0] at AL0
        clear AL2737
        have AL2737 := Aside0.mk AL0
        clear AL0
        by_cases c2741 : x2740 < (l2712.length : Int)
        · replace AL2737 := if_yes c2741 AL2737
          have c2741b0 : decide (x2740 < (l2712.length : Int)) = true := decide_eq_true c2741
          clear c2741
          go_wp2_with fail
          refine start_ (n := 9) (S := (fun w' => Kd.C (Kd.int .i64) w' A2713 l2712.length l2712 ∧ Kd.C (Kd.int .i64) w' A2717 l2716.length l2716)) (ds := []) #[false, false, false, false, false, false, false, false, false] (by kernel_rfl) rfl rfl (⟨Rd.read (fun _ _ _ _ h => h) HR2715.out (HS.out.drew).fr, Rd.read (fun _ _ _ _ h => h) HR2719.out (HS.out.drew).fr⟩) (fun hHeld => ?_)
          have HS_ := Aside0.mk HS.out.drew
          clear HS
          generalize World.drew _ = w2743 at HS_ hHeld ⊢
          have HS := HS_
          clear HS_
          refine pure_ (i := 0) (N := some 17) (v := ?_) (a' := ?_) #[true, false, false, false, false, false, false, false, false] rfl rfl (by kernel_rfl) (fun _ _ _ h => h) (Or.inl ⟨by rfl, ?_⟩) ?_ ?_
          rotate_left
          · intro w'
            go_simp
            with_reducible rfl
          rotate_left
          · simp only [Act.put, List.setIfInBounds_toArray, List.set_cons_zero, List.set_cons_succ, i64_w, i32_w]
            rfl
          refine pure_ (i := 1) (N := some 18) (v := ?_) (a' := ?_) #[true, true, false, false, false, false, false, false, false] rfl rfl (by kernel_rfl) (fun _ _ _ h => h) (Or.inl ⟨by rfl, ?_⟩) ?_ ?_
          rotate_left
          · intro w'
            go_simp
            with_reducible rfl
          rotate_left
          · simp only [Act.put, List.setIfInBounds_toArray, List.set_cons_zero, List.set_cons_succ, i64_w, i32_w]
            rfl
          by_cases c2744 : 0 ≤ x2740
          · replace AL2737 := if_yes c2744 AL2737
            have c2744b0 : decide (0 ≤ x2740) = true := decide_eq_true c2744
            have c2744p : (0 ≤ x2740) = True := eq_true c2744
            clear c2744
            have ip2745 : (x2740 < (l2712.length : Int)) = True := eq_true (of_decide_eq_true c2741b0)
            obtain ⟨ad2746, ea, _⟩ := Kd.at_int (Rd.read (fun _ _ _ _ h => h) HR2715.out HS.out.fr) x2740 (of_decide_eq_true c2744b0) (of_decide_eq_true c2741b0)
            cases ea
            refine pure_ (i := 2) (N := some 19) (v := ?_) (a' := ?_) #[true, true, true, false, false, false, false, false, false] rfl rfl (by kernel_rfl) (fun _ _ _ h => h) (Or.inl ⟨by rfl, ?_⟩) ?_ ?_
            rotate_left
            · intro w'
              go_simp
              with_reducible rfl
            rotate_left
            · simp only [Act.put, List.setIfInBounds_toArray, List.set_cons_zero, List.set_cons_succ, i64_w, i32_w]
              rfl
            refine pure_ (i := 4) (N := some 21) (v := ?_) (a' := ?_) #[true, true, true, false, true, false, false, false, false] rfl rfl (by kernel_rfl) (fun _ _ _ h => h) (Or.inl ⟨by rfl, ?_⟩) ?_ ?_
            rotate_left
            · intro w'
              go_simp
              with_reducible rfl
            rotate_left
            · simp only [Act.put, List.setIfInBounds_toArray, List.set_cons_zero, List.set_cons_succ, i64_w, i32_w]
              rfl
            refine pure_ (i := 5) (N := some 22) (v := ?_) (a' := ?_) #[true, true, true, false, true, true, false, false, false] rfl rfl (by kernel_rfl) (fun _ _ _ h => h) (Or.inl ⟨by rfl, ?_⟩) ?_ ?_
            rotate_left
            · intro w'
              go_simp
              with_reducible rfl
            rotate_left
            · simp only [Act.put, List.setIfInBounds_toArray, List.set_cons_zero, List.set_cons_succ, i64_w, i32_w]
              rfl
            by_cases c2747 : x2740 < (l2716.length : Int)
            · replace AL2737 := if_yes c2747 AL2737
              have c2747b0 : decide (x2740 < (l2716.length : Int)) = true := decide_eq_true c2747
              have c2747p : (x2740 < (l2716.length : Int)) = True := eq_true c2747
              clear c2747
              obtain ⟨ad2748, ea, _⟩ := Kd.at_int (Rd.read (fun _ _ _ _ h => h) HR2719.out HS.out.fr) x2740 (of_decide_eq_true c2744b0) (of_decide_eq_true c2747b0)
              cases ea
              refine pure_ (i := 6) (N := some 23) (v := ?_) (a' := ?_) #[true, true, true, false, true, true, true, false, false] rfl rfl (by kernel_rfl) (fun _ _ _ h => h) (Or.inl ⟨by rfl, ?_⟩) ?_ ?_
              rotate_left
              · intro w'
                go_simp
                with_reducible rfl
              rotate_left
              · simp only [Act.put, List.setIfInBounds_toArray, List.set_cons_zero, List.set_cons_succ, i64_w, i32_w]
                rfl
              refine take_ (i := 3) (N := some 20) (v := ?_) (a' := ?_) #[true, true, true, true, true, true, true, false, false] rfl rfl (by kernel_rfl) (fun _ _ _ h => h) (Or.inl ⟨by rfl, ?_⟩) hHeld ?_ ?_
              rotate_left
              · rintro w' hS'
                obtain ⟨s0, s1⟩ := hS'
                have hx := C_at_int s0 x2740 (of_decide_eq_true c2744b0) (of_decide_eq_true c2741b0)
                go_simp
                with_reducible rfl
              rotate_left
              · simp only [Act.put, List.setIfInBounds_toArray, List.set_cons_zero, List.set_cons_succ, i64_w, i32_w]
                rfl
              refine take_ (i := 7) (N := some 24) (v := ?_) (a' := ?_) #[true, true, true, true, true, true, true, true, false] rfl rfl (by kernel_rfl) (fun _ _ _ h => h) (Or.inl ⟨by rfl, ?_⟩) hHeld ?_ ?_
              rotate_left
              · rintro w' hS'
                obtain ⟨s0, s1⟩ := hS'
                have hx := C_at_int s1 x2740 (of_decide_eq_true c2744b0) (of_decide_eq_true c2747b0)
                go_simp
                with_reducible rfl
              rotate_left
              · simp only [Act.put, List.setIfInBounds_toArray, List.set_cons_zero, List.set_cons_succ, i64_w, i32_w]
                rfl
              refine pure_ (i := 8) (N := some 25) (v := ?_) (a' := ?_) #[true, true, true, true, true, true, true, true, true] rfl rfl (by kernel_rfl) (fun _ _ _ h => h) (Or.inl ⟨by rfl, ?_⟩) ?_ ?_
              rotate_left
              · intro w'
                go_simp
                with_reducible rfl
              rotate_left
              · simp only [Act.put, List.setIfInBounds_toArray, List.set_cons_zero, List.set_cons_succ, i64_w, i32_w]
                rfl
              refine done_ (by kernel_rfl) ?_
              by_cases c2749 : (rd l2712 x2740) = (rd l2716 x2740)
              · replace AL2737 := if_yes c2749 AL2737
                have c2749b0 : ((rd l2712 x2740) == (rd l2716 x2740)) = true := beq_iff_eq.mpr c2749
                have c2749b1 : ((rd l2712 x2740) != (rd l2716 x2740)) = false := bne_eq_false_iff_eq.mpr c2749
                clear c2749
                go_wp2_with fail
                go_roundg k2739
                case measure => exact Nat.lt_succ_self _
                case rel => exact ⟨(wrap64 (x2740 + 1)), (by first | rfl | (simp [IntKind.wrap_u32]; done)), Aside0.mk AL2737.out, ⟨HS.out⟩⟩
              · replace AL2737 := if_no c2749 AL2737
                have c2749b0 : ((rd l2712 x2740) == (rd l2716 x2740)) = false := beq_eq_false_iff_ne.mpr c2749
                have c2749b1 : ((rd l2712 x2740) != (rd l2716 x2740)) = true := bne_iff_ne.mpr c2749
                clear c2749
                go_wp2_with fail
                have ho := some_eq AL2737
                subst ho
                have H := lp_ret H
                go_ret
                rw [← some_eq H]
                exact ⟨(by first | rfl | (simp [IntKind.wrap_u32]; done)), HS.out⟩
            · replace AL2737 := if_no c2747 AL2737
              have c2747b0 : decide (x2740 < (l2716.length : Int)) = false := decide_eq_false c2747
              clear c2747
              exact (none_no AL2737).elim
          · replace AL2737 := if_no c2744 AL2737
            have c2744b0 : decide (0 ≤ x2740) = false := decide_eq_false c2744
            clear c2744
            exact (none_no AL2737).elim
        · replace AL2737 := if_no c2741 AL2737
          have c2741b0 : decide (x2740 < (l2712.length : Int)) = false := decide_eq_false c2741
          clear c2741
          have ho := some_eq AL2737
          subst ho
          clear AL2737
          have H := lp_out H
          go_wp2_with fail
          go_ret
          rw [← some_eq H]
          exact ⟨(by first | rfl | (simp [IntKind.wrap_u32]; done)), HS.out⟩
  · replace H := if_no c2720 H
    have c2720b0 : ((l2712.length : Int) == (l2716.length : Int)) = false := beq_eq_false_iff_ne.mpr c2720
    have c2720b1 : ((l2712.length : Int) != (l2716.length : Int)) = true := bne_iff_ne.mpr c2720
    clear c2720
    go_wp2_with fail
    go_ret
    rw [← some_eq H]
    exact ⟨(by first | rfl | (simp [IntKind.wrap_u32]; done)), HS.out⟩

set_option maxHeartbeats 30000000 in
set_option maxRecDepth 100000 in
theorem quitrentlaw09_begun.calls (k : Nat)  (r : Bool) (w : World)  (HGl0 : Aside0 (Gl 0 #[.int .i64 0, .int .i64 0, .int .i64 0, .int .i64 0, .int .i64 0] (fps []) w)) (HS : Aside0 (Sep (fps []) w [] w)) (H : Aside0 (quitrentlaw09_begun.f k = some r)) :
    Calls Tryd.prog 21 #[] w fun e w' => e = .returned (.bool r) ∧ Sep (fps []) w [] w' := by
  unfold quitrentlaw09_begun.f at H
  go_enter Tryd.func21, Tryd.ntmps21
  go_wp2_with (first | ((with_reducible refine gate_dst (N := 4) rfl ?_); refine slice_on (n := 6) ?hg (N := 4) ?hd (cs := #[.int .u8 1, .int .u8 1, .int .u8 1, .int .u8 1, .int .u8 1, .int .u8 2]) (t := 5) ?hr ?_; (case hd => rfl); (case hg => rfl); (case hr => first | (go_simp; done) | (go_simp; rfl)); intro g10 hg w11 hbox hb; replace HS : Aside0 (Sep (fps []) w [b1 g10 1 1 1 1 1 2] w11) := ⟨HS.out.box hg hbox hb⟩; clear hg hbox hb))
  obtain ⟨t1336, HA1337, H⟩ := bind_some H
  rcases t1336 with t1338 | t1339
  · have H := sum_l H
    refine (quitrentlaw09_made.calls _ [1, 1, 1, 1, 1, 2] (some ⟨g10, 0, none⟩) 6 (.inl t1338) _ ⟨Rd.lit (l := []) (xs := [1, 1, 1, 1, 1, 2]) HS.out 0 rfl (by simp)⟩ ⟨HGl0.out.pass (l := []) HS.out⟩ ⟨Sep.start _⟩ HA1337).mono ?_
    rintro e_ w1340 ⟨rfl, hS⟩
    replace HS : Aside0 (Sep (fps []) w [b1 g10 1 1 1 1 1 2] w1340) := ⟨HS.out.call hS⟩
    clear hS
    by_cases c1341 : t1338 = true
    · replace H := if_yes c1341 H
      have c1341b0 : t1338 = true := c1341
      have c1341b1 : (!t1338) = false := by rw [c1341b0]; rfl
      try rw [c1341b1]
      clear c1341
      exact (none_no H).elim
    · replace H := if_no c1341 H
      have c1341b0 : t1338 = false := by simpa using c1341
      have c1341b1 : (!t1338) = true := by rw [c1341b0]; rfl
      try rw [c1341b1]
      clear c1341
      replace HS : Aside0 (Sep (fps []) w [] w1340) := ⟨HS.out.sub (.cons _ .slnil)⟩
      go_wp2_with fail
      go_ret
      rw [← some_eq H]
      exact ⟨(by first | rfl | (simp [IntKind.wrap_u32]; done)), HS.out⟩
  · have H := sum_r H
    refine (quitrentlaw09_made.calls _ [1, 1, 1, 1, 1, 2] (some ⟨g10, 0, none⟩) 6 (.inr t1339) _ ⟨Rd.lit (l := []) (xs := [1, 1, 1, 1, 1, 2]) HS.out 0 rfl (by simp)⟩ ⟨HGl0.out.pass (l := []) HS.out⟩ ⟨Sep.start _⟩ HA1337).mono ?_
    rintro e_ w1342 ⟨g1346, rfl, g1347, A1348, m1349, n1350, hS⟩
    replace HS : Aside0 (Sep (fps []) w [b8 g1346 g1347 t1339.2.1 t1339.2.2.1 t1339.2.2.2.1 t1339.2.2.2.2.1, b7 g1347 A1348 m1349 n1350 t1339.2.2.2.2.2.1, r6 A1348 m1349 n1350 t1339.2.2.2.2.2.2, b1 g10 1 1 1 1 1 2] w1342) := ⟨HS.out.call hS⟩
    clear hS
    obtain rfl := (row_len (HS.out.at2)).symm
    by_cases c1352 : t1339.1 = true
    · replace H := if_yes c1352 H
      have c1352b0 : t1339.1 = true := c1352
      have c1352b1 : (!t1339.1) = false := by rw [c1352b0]; rfl
      try rw [c1352b1]
      clear c1352
      replace HS : Aside0 (Sep (fps []) w [b8 g1346 g1347 t1339.2.1 t1339.2.2.1 t1339.2.2.2.1 t1339.2.2.2.2.1, b7 g1347 A1348 ((t1339.2.2.2.2.2.2).length) n1350 t1339.2.2.2.2.2.1, r6 A1348 ((t1339.2.2.2.2.2.2).length) n1350 t1339.2.2.2.2.2.2] w1342) := ⟨HS.out.sub (.cons_cons _ (.cons_cons _ (.cons_cons _ (.cons _ .slnil))))⟩
      go_wp2_with fail
      obtain ⟨t2412, HA2413, H⟩ := bind_some H
      refine (ring_Add.calls _ t1339.2.2.2.2.2.2 t1339.2.2.2.2.2.1 t1339.2.1 t1339.2.2.1 t1339.2.2.2.1 t1339.2.2.2.2.1 3 g1346 g1347 A1348 ((t1339.2.2.2.2.2.2).length) n1350 t2412 _ ⟨HGl0.out.pass HS.out⟩ ⟨HS.out.begin⟩ HA2413).mono ?_
      rintro e_ w2414 ⟨rfl, hS⟩
      replace HS : Aside0 (Sep (fps []) w [b8 g1346 g1347 t1339.2.1 t1339.2.2.1 t1339.2.2.2.1 t1339.2.2.2.2.1, b7 g1347 A1348 ((t1339.2.2.2.2.2.2).length) n1350 t2412.2.1, r6 A1348 ((t1339.2.2.2.2.2.2).length) n1350 t2412.2.2] w2414) := ⟨HS.out.call hS⟩
      clear hS
      by_cases c2415 : t2412.1 = true
      · replace H := if_yes c2415 H
        have c2415b0 : t2412.1 = true := c2415
        have c2415b1 : (!t2412.1) = false := by rw [c2415b0]; rfl
        try rw [c2415b1]
        clear c2415
        go_wp2_with fail
        obtain ⟨t2416, HA2417, H⟩ := bind_some H
        refine (ring_Add.calls _ t2412.2.2 t2412.2.1 t1339.2.1 t1339.2.2.1 t1339.2.2.2.1 t1339.2.2.2.2.1 1 g1346 g1347 A1348 ((t1339.2.2.2.2.2.2).length) n1350 t2416 _ ⟨HGl0.out.pass HS.out⟩ ⟨HS.out.begin⟩ HA2417).mono ?_
        rintro e_ w2418 ⟨rfl, hS⟩
        replace HS : Aside0 (Sep (fps []) w [b8 g1346 g1347 t1339.2.1 t1339.2.2.1 t1339.2.2.2.1 t1339.2.2.2.2.1, b7 g1347 A1348 ((t1339.2.2.2.2.2.2).length) n1350 t2416.2.1, r6 A1348 ((t1339.2.2.2.2.2.2).length) n1350 t2416.2.2] w2418) := ⟨HS.out.call hS⟩
        clear hS
        by_cases c2419 : t2416.1 = true
        · replace H := if_yes c2419 H
          have c2419b0 : t2416.1 = true := c2419
          have c2419b1 : (!t2416.1) = false := by rw [c2419b0]; rfl
          try rw [c2419b1]
          clear c2419
          go_wp2_with fail
          obtain ⟨t2420, HA2421, H⟩ := bind_some H
          refine (ring_Add.calls _ t2416.2.2 t2416.2.1 t1339.2.1 t1339.2.2.1 t1339.2.2.2.1 t1339.2.2.2.2.1 5 g1346 g1347 A1348 ((t1339.2.2.2.2.2.2).length) n1350 t2420 _ ⟨HGl0.out.pass HS.out⟩ ⟨HS.out.begin⟩ HA2421).mono ?_
          rintro e_ w2422 ⟨rfl, hS⟩
          replace HS : Aside0 (Sep (fps []) w [b8 g1346 g1347 t1339.2.1 t1339.2.2.1 t1339.2.2.2.1 t1339.2.2.2.2.1, b7 g1347 A1348 ((t1339.2.2.2.2.2.2).length) n1350 t2420.2.1, r6 A1348 ((t1339.2.2.2.2.2.2).length) n1350 t2420.2.2] w2422) := ⟨HS.out.call hS⟩
          clear hS
          by_cases c2423 : t2420.1 = true
          · replace H := if_yes c2423 H
            have c2423b0 : t2420.1 = true := c2423
            have c2423b1 : (!t2420.1) = false := by rw [c2423b0]; rfl
            try rw [c2423b1]
            clear c2423
            go_wp2_with fail
            obtain ⟨t2552, HA2553, H⟩ := bind_some H
            refine (ring_Cut.calls _ t2420.2.2 t2420.2.1 t1339.2.1 t1339.2.2.1 t1339.2.2.2.1 t1339.2.2.2.2.1 1 g1346 g1347 A1348 ((t1339.2.2.2.2.2.2).length) n1350 t2552 _ ⟨HGl0.out.pass HS.out⟩ ⟨HS.out.begin⟩ HA2553).mono ?_
            rintro e_ w2554 ⟨rfl, hS⟩
            replace HS : Aside0 (Sep (fps []) w [b8 g1346 g1347 t1339.2.1 t1339.2.2.1 t1339.2.2.2.1 t1339.2.2.2.2.1, b7 g1347 A1348 ((t1339.2.2.2.2.2.2).length) n1350 t2552.2.1, r6 A1348 ((t1339.2.2.2.2.2.2).length) n1350 t2552.2.2] w2554) := ⟨HS.out.call hS⟩
            clear hS
            by_cases c2555 : t2552.1 = true
            · replace H := if_yes c2555 H
              have c2555b0 : t2552.1 = true := c2555
              have c2555b1 : (!t2552.1) = false := by rw [c2555b0]; rfl
              try rw [c2555b1]
              clear c2555
              go_wp2_with fail
              obtain ⟨t2701, HA2702, H⟩ := bind_some H
              refine (ring_List.calls _ t2552.2.2 t2552.2.1 t1339.2.1 t1339.2.2.1 t1339.2.2.2.1 t1339.2.2.2.2.1 g1346 g1347 A1348 ((t1339.2.2.2.2.2.2).length) n1350 t2701 _ ⟨HGl0.out.pass HS.out⟩ ⟨HS.out.begin⟩ HA2702).mono ?_
              rintro e_ w2703 ⟨A2705, m2706, n2707, rfl, hS⟩
              replace HS : Aside0 (Sep (fps []) w [b8 g1346 g1347 t1339.2.1 t1339.2.2.1 t1339.2.2.2.1 t1339.2.2.2.2.1, b7 g1347 A1348 ((t1339.2.2.2.2.2.2).length) n1350 t2552.2.1, r6 A1348 ((t1339.2.2.2.2.2.2).length) n1350 t2552.2.2, r14 A2705 m2706 n2707 t2701] w2703) := ⟨HS.out.call hS⟩
              clear hS
              obtain rfl := (row_len (HS.out.at3)).symm
              go_wp2_with (first | ((with_reducible refine gate_dst (N := 32) rfl ?_); refine slice_on (n := 2) ?hg (N := 32) ?hd (cs := #[.int .i64 3, .int .i64 5]) (t := 3) ?hr ?_; (case hd => rfl); (case hg => rfl); (case hr => first | (go_simp; done) | (go_simp; rfl)); intro g2709 hg w2710 hbox hb; replace HS : Aside0 (Sep (fps []) w [b8 g1346 g1347 t1339.2.1 t1339.2.2.1 t1339.2.2.2.1 t1339.2.2.2.2.1, b7 g1347 A1348 ((t1339.2.2.2.2.2.2).length) n1350 t2552.2.1, r6 A1348 ((t1339.2.2.2.2.2.2).length) n1350 t2552.2.2, r14 A2705 t2701.length n2707 t2701, b4 g2709 3 5] w2710) := ⟨HS.out.box hg hbox hb⟩; clear hg hbox hb))
              obtain ⟨t2751, HA2752, H⟩ := bind_some H
              refine (quitrentref01_Ints.calls _ t2701 [3, 5] A2705 n2707 (some ⟨g2709, 0, none⟩) 2 t2751 _ ⟨Rd.ownI (l := []) HS.out 3 rfl⟩ ⟨Rd.lit (l := []) (xs := [3, 5]) HS.out 4 rfl (by simp)⟩ ⟨HGl0.out.pass (l := []) HS.out⟩ ⟨Sep.start _⟩ HA2752).mono ?_
              rintro e_ w2753 ⟨rfl, hS⟩
              replace HS : Aside0 (Sep (fps []) w [b8 g1346 g1347 t1339.2.1 t1339.2.2.1 t1339.2.2.2.1 t1339.2.2.2.2.1, b7 g1347 A1348 ((t1339.2.2.2.2.2.2).length) n1350 t2552.2.1, r6 A1348 ((t1339.2.2.2.2.2.2).length) n1350 t2552.2.2, r14 A2705 t2701.length n2707 t2701, b4 g2709 3 5] w2753) := ⟨HS.out.call hS⟩
              clear hS
              by_cases c2754 : t2751 = true
              · replace H := if_yes c2754 H
                have c2754b0 : t2751 = true := c2754
                have c2754b1 : (!t2751) = false := by rw [c2754b0]; rfl
                clear c2754
                go_wp2_with fail
                obtain ⟨t2755, HA2756, H⟩ := bind_some H
                refine (ground_Ground_SeeWord.calls t2552.2.2 t2552.2.1 t1339.2.1 t1339.2.2.1 t1339.2.2.2.1 t1339.2.2.2.2.1 3 7 g1346 g1347 A1348 ((t1339.2.2.2.2.2.2).length) n1350 t2755 _ ⟨HGl0.out.pass HS.out⟩ ⟨HS.out.begin⟩ HA2756).mono ?_
                rintro e_ w2757 ⟨rfl, hS⟩
                replace HS : Aside0 (Sep (fps []) w [b8 g1346 g1347 t1339.2.1 t1339.2.2.1 t1339.2.2.2.1 t1339.2.2.2.2.1, b7 g1347 A1348 ((t1339.2.2.2.2.2.2).length) n1350 t2552.2.1, r6 A1348 ((t1339.2.2.2.2.2.2).length) n1350 t2552.2.2, r14 A2705 t2701.length n2707 t2701, b4 g2709 3 5] w2757) := ⟨HS.out.call hS⟩
                clear hS
                by_cases c2758 : t2755 = 6
                · replace H := if_yes c2758 H
                  have c2758b0 : (t2755 == 6) = true := beq_iff_eq.mpr c2758
                  have c2758b1 : (t2755 != 6) = false := bne_eq_false_iff_eq.mpr c2758
                  clear c2758
                  go_wp2_with fail
                  obtain ⟨t2759, HA2760, H⟩ := bind_some H
                  refine (ground_Ground_SeeWord.calls t2552.2.2 t2552.2.1 t1339.2.1 t1339.2.2.1 t1339.2.2.2.1 t1339.2.2.2.2.1 5 6 g1346 g1347 A1348 ((t1339.2.2.2.2.2.2).length) n1350 t2759 _ ⟨HGl0.out.pass HS.out⟩ ⟨HS.out.begin⟩ HA2760).mono ?_
                  rintro e_ w2761 ⟨rfl, hS⟩
                  replace HS : Aside0 (Sep (fps []) w [b8 g1346 g1347 t1339.2.1 t1339.2.2.1 t1339.2.2.2.1 t1339.2.2.2.2.1, b7 g1347 A1348 ((t1339.2.2.2.2.2.2).length) n1350 t2552.2.1, r6 A1348 ((t1339.2.2.2.2.2.2).length) n1350 t2552.2.2, r14 A2705 t2701.length n2707 t2701, b4 g2709 3 5] w2761) := ⟨HS.out.call hS⟩
                  clear hS
                  replace HS : Aside0 (Sep (fps []) w [] w2761) := ⟨HS.out.sub (.cons _ (.cons _ (.cons _ (.cons _ (.cons _ .slnil)))))⟩
                  go_wp2_with fail
                  go_ret
                  rw [← some_eq H]
                  exact ⟨(by first | rfl | (simp [IntKind.wrap_u32]; done)), HS.out⟩
                · replace H := if_no c2758 H
                  have c2758b0 : (t2755 == 6) = false := beq_eq_false_iff_ne.mpr c2758
                  have c2758b1 : (t2755 != 6) = true := bne_iff_ne.mpr c2758
                  clear c2758
                  replace HS : Aside0 (Sep (fps []) w [] w2757) := ⟨HS.out.sub (.cons _ (.cons _ (.cons _ (.cons _ (.cons _ .slnil)))))⟩
                  go_wp2_with fail
                  go_ret
                  rw [← some_eq H]
                  exact ⟨(by first | rfl | (simp [IntKind.wrap_u32]; done)), HS.out⟩
              · replace H := if_no c2754 H
                have c2754b0 : t2751 = false := by simpa using c2754
                have c2754b1 : (!t2751) = true := by rw [c2754b0]; rfl
                clear c2754
                replace HS : Aside0 (Sep (fps []) w [] w2753) := ⟨HS.out.sub (.cons _ (.cons _ (.cons _ (.cons _ (.cons _ .slnil)))))⟩
                go_wp2_with fail
                go_ret
                rw [← some_eq H]
                exact ⟨(by first | rfl | (simp [IntKind.wrap_u32]; done)), HS.out⟩
            · replace H := if_no c2555 H
              have c2555b0 : t2552.1 = false := by simpa using c2555
              have c2555b1 : (!t2552.1) = true := by rw [c2555b0]; rfl
              try rw [c2555b1]
              clear c2555
              replace HS : Aside0 (Sep (fps []) w [] w2554) := ⟨HS.out.sub (.cons _ (.cons _ (.cons _ .slnil)))⟩
              go_wp2_with fail
              go_ret
              rw [← some_eq H]
              exact ⟨(by first | rfl | (simp [IntKind.wrap_u32]; done)), HS.out⟩
          · replace H := if_no c2423 H
            have c2423b0 : t2420.1 = false := by simpa using c2423
            have c2423b1 : (!t2420.1) = true := by rw [c2423b0]; rfl
            try rw [c2423b1]
            clear c2423
            replace HS : Aside0 (Sep (fps []) w [] w2422) := ⟨HS.out.sub (.cons _ (.cons _ (.cons _ .slnil)))⟩
            go_wp2_with fail
            go_ret
            rw [← some_eq H]
            exact ⟨(by first | rfl | (simp [IntKind.wrap_u32]; done)), HS.out⟩
        · replace H := if_no c2419 H
          have c2419b0 : t2416.1 = false := by simpa using c2419
          have c2419b1 : (!t2416.1) = true := by rw [c2419b0]; rfl
          try rw [c2419b1]
          clear c2419
          replace HS : Aside0 (Sep (fps []) w [] w2418) := ⟨HS.out.sub (.cons _ (.cons _ (.cons _ .slnil)))⟩
          go_wp2_with fail
          go_ret
          rw [← some_eq H]
          exact ⟨(by first | rfl | (simp [IntKind.wrap_u32]; done)), HS.out⟩
      · replace H := if_no c2415 H
        have c2415b0 : t2412.1 = false := by simpa using c2415
        have c2415b1 : (!t2412.1) = true := by rw [c2415b0]; rfl
        try rw [c2415b1]
        clear c2415
        replace HS : Aside0 (Sep (fps []) w [] w2414) := ⟨HS.out.sub (.cons _ (.cons _ (.cons _ .slnil)))⟩
        go_wp2_with fail
        go_ret
        rw [← some_eq H]
        exact ⟨(by first | rfl | (simp [IntKind.wrap_u32]; done)), HS.out⟩
    · replace H := if_no c1352 H
      have c1352b0 : t1339.1 = false := by simpa using c1352
      have c1352b1 : (!t1339.1) = true := by rw [c1352b0]; rfl
      try rw [c1352b1]
      clear c1352
      replace HS : Aside0 (Sep (fps []) w [b8 g1346 g1347 t1339.2.1 t1339.2.2.1 t1339.2.2.2.1 t1339.2.2.2.2.1, b7 g1347 A1348 ((t1339.2.2.2.2.2.2).length) n1350 t1339.2.2.2.2.2.1, r6 A1348 ((t1339.2.2.2.2.2.2).length) n1350 t1339.2.2.2.2.2.2] w1342) := ⟨HS.out.sub (.cons_cons _ (.cons_cons _ (.cons_cons _ (.cons _ .slnil))))⟩
      replace HS : Aside0 (Sep (fps []) w [] w1342) := ⟨HS.out.sub (.cons _ (.cons _ (.cons _ .slnil)))⟩
      go_wp2_with fail
      go_ret
      rw [← some_eq H]
      exact ⟨(by first | rfl | (simp [IntKind.wrap_u32]; done)), HS.out⟩

set_option maxHeartbeats 30000000 in
set_option maxRecDepth 100000 in
theorem quitrentref08_Has.calls (k : Nat) (l2884 : List Int) (a2888 : Int) (A2885 : Option Addr) (n2886 : Nat) (r : Bool) (w : World) (HR2887 : Aside0 (Rd (Kd.int .i64) (fps []) w A2885 l2884.length l2884)) (HGl0 : Aside0 (Gl 0 #[.int .i64 0, .int .i64 0, .int .i64 0, .int .i64 0, .int .i64 0] (fps []) w)) (HS : Aside0 (Sep (fps []) w [] w)) (H : Aside0 (quitrentref08_Has.f k l2884 a2888 = some r)) :
    Calls Tryd.prog 87 #[.slice A2885 l2884.length n2886, .int .i64 a2888] w fun e w' => e = .returned (.bool r) ∧ Sep (fps []) w [] w' := by
  unfold quitrentref08_Has.f at H
  go_enter Tryd.func87, Tryd.ntmps87
  go_wp2_with fail
  obtain ⟨o2900, AL2901, H⟩ := bind_some H
  go_loopg [5] k (fun kq v5 wc => ∃ (x2904 : Int), v5 = .int .i64 x2904 ∧ Aside0 (quitrentref08_Has.lo0 kq l2884 a2888 x2904 = some o2900) ∧ Aside0 (Sep (fps []) w [] wc))
  case atStart => exact ⟨(0), (by first | rfl | (simp [IntKind.wrap_u32]; done)), AL2901, ⟨HS.out⟩⟩
  case round =>
    clear AL2901 HS
    obtain ⟨x2904, rfl, AL2901, HS⟩ := hrel
    obtain ⟨w2902, rfl⟩ : ∃ x : World, x = wr := ⟨_, rfl⟩
    cases gk with
    | zero => exact absurd AL2901.out (by simp [quitrentref08_Has.lo0])
    | succ k2903 =>
      have AL0 := AL2901.out
      rw [quitrentref08_Has.lo0] at AL0
      clear AL2901
      have AL2901 := Aside0.mk AL0
      clear AL0
      by_cases c2905 : x2904 < (l2884.length : Int)
      · replace AL2901 := if_yes c2905 AL2901
        have c2905b0 : decide (x2904 < (l2884.length : Int)) = true := decide_eq_true c2905
        clear c2905
        by_cases c2906 : 0 ≤ x2904
        · replace AL2901 := if_yes c2906 AL2901
          have c2906b0 : decide (0 ≤ x2904) = true := decide_eq_true c2906
          have c2906p : (0 ≤ x2904) = True := eq_true c2906
          clear c2906
          have ip2907 : (x2904 < (l2884.length : Int)) = True := eq_true (of_decide_eq_true c2905b0)
          by_cases c2909 : (rd l2884 x2904) = a2888
          · replace AL2901 := if_yes c2909 AL2901
            have c2909b0 : ((rd l2884 x2904) == a2888) = true := beq_iff_eq.mpr c2909
            have c2909b1 : ((rd l2884 x2904) != a2888) = false := bne_eq_false_iff_eq.mpr c2909
            clear c2909
            obtain ⟨hx2908a, hx2908e, hx2908⟩ := Kd.at_int (Rd.read (fun _ _ _ _ h => h) HR2887.out HS.out.fr) x2904 (of_decide_eq_true c2906b0) (of_decide_eq_true c2905b0); cases hx2908e
            go_wp2_with fail
            clear hx2908
            have ho := some_eq AL2901
            subst ho
            have H := lp_ret H
            go_ret
            rw [← some_eq H]
            exact ⟨(by first | rfl | (simp [IntKind.wrap_u32]; done)), HS.out⟩
          · replace AL2901 := if_no c2909 AL2901
            have c2909b0 : ((rd l2884 x2904) == a2888) = false := beq_eq_false_iff_ne.mpr c2909
            have c2909b1 : ((rd l2884 x2904) != a2888) = true := bne_iff_ne.mpr c2909
            clear c2909
            obtain ⟨hx2908a, hx2908e, hx2908⟩ := Kd.at_int (Rd.read (fun _ _ _ _ h => h) HR2887.out HS.out.fr) x2904 (of_decide_eq_true c2906b0) (of_decide_eq_true c2905b0); cases hx2908e
            go_wp2_with fail
            clear hx2908
            go_roundg k2903
            case measure => exact Nat.lt_succ_self _
            case rel => exact ⟨(wrap64 (x2904 + 1)), (by first | rfl | (simp [IntKind.wrap_u32]; done)), Aside0.mk AL2901.out, ⟨HS.out⟩⟩
        · replace AL2901 := if_no c2906 AL2901
          have c2906b0 : decide (0 ≤ x2904) = false := decide_eq_false c2906
          clear c2906
          exact (none_no AL2901).elim
      · replace AL2901 := if_no c2905 AL2901
        have c2905b0 : decide (x2904 < (l2884.length : Int)) = false := decide_eq_false c2905
        clear c2905
        have ho := some_eq AL2901
        subst ho
        clear AL2901
        have H := lp_out H
        go_wp2_with fail
        go_ret
        rw [← some_eq H]
        exact ⟨(by first | rfl | (simp [IntKind.wrap_u32]; done)), HS.out⟩

set_option maxHeartbeats 30000000 in
set_option maxRecDepth 100000 in
theorem atomic_Uint64_Load.calls (l2944 : List Int) (a2949 : Int) (g2942 : Nat) (A2945 : Option Addr) (m2946 : Nat) (n2947 : Nat) (r : Int) (w : World)  (HGl0 : Aside0 (Gl 0 #[.int .i64 0, .int .i64 0, .int .i64 0, .int .i64 0, .int .i64 0] (fps [b7 g2942 A2945 m2946 n2947 a2949, r6 A2945 m2946 n2947 l2944]) w)) (HS : Aside0 (Sep (fps [b7 g2942 A2945 m2946 n2947 a2949, r6 A2945 m2946 n2947 l2944]) w [b7 g2942 A2945 m2946 n2947 a2949, r6 A2945 m2946 n2947 l2944] w)) (H : Aside0 (atomic_Uint64_Load.f l2944 a2949 = some r)) :
    Calls Tryd.prog 133 #[.pointer (some ⟨g2942, 1, none⟩)] w fun e w' => e = .returned (.int .u64 r) ∧ Sep (fps [b7 g2942 A2945 m2946 n2947 a2949, r6 A2945 m2946 n2947 l2944]) w [b7 g2942 A2945 m2946 n2947 a2949, r6 A2945 m2946 n2947 l2944] w' := by
  generalize (fps [b7 g2942 A2945 m2946 n2947 a2949, r6 A2945 m2946 n2947 l2944]) = FF at HS HGl0 ⊢
  obtain rfl := (row_len (HS.out.at1)).symm
  unfold atomic_Uint64_Load.f at H
  go_enter Tryd.func133, Tryd.ntmps133
  have hc2950 : w.cell? ⟨g2942, 1, none⟩ = some (.int .u64 a2949) := blk_cellv (HS.out.at0) 1 rfl
  have hn2951 : (callFunc 154 #[.pointer (some ⟨g2942, 1, none⟩)]).run Tryd.prog w = .ok (.value (.int .u64 a2949)) w := run_call_load Tryd.func154 (by kernel_rfl) (by kernel_rfl) (by kernel_rfl) .u64 (by kernel_rfl) hc2950
  go_wp2_with (first | ((with_reducible refine gate_dst (N := 6) rfl ?_); refine run_on2 (by rfl) (w1 := w) (v := .int .u64 a2949) ?hr ?_; (case hr => first | (go_simp; done) | (go_simp; rfl)); intro w2952 hst; clear hc2950; replace HS : Aside0 (Sep FF w [b7 g2942 A2945 l2944.length n2947 a2949, r6 A2945 l2944.length n2947 l2944] w2952) := ⟨by rw [hst]; exact HS.out⟩; clear hst hn2951))
  go_ret
  rw [← some_eq H]
  exact ⟨(by first | rfl | (simp [IntKind.wrap_u32]; done)), HS.out⟩

set_option maxHeartbeats 30000000 in
set_option maxRecDepth 100000 in
theorem store_Store_Meter.calls (l2935 : List Int) (a2940 : Int) (g2933 : Nat) (A2936 : Option Addr) (m2937 : Nat) (n2938 : Nat) (r : Int) (w : World)  (HGl0 : Aside0 (Gl 0 #[.int .i64 0, .int .i64 0, .int .i64 0, .int .i64 0, .int .i64 0] (fps [b7 g2933 A2936 m2937 n2938 a2940, r6 A2936 m2937 n2938 l2935]) w)) (HS : Aside0 (Sep (fps [b7 g2933 A2936 m2937 n2938 a2940, r6 A2936 m2937 n2938 l2935]) w [b7 g2933 A2936 m2937 n2938 a2940, r6 A2936 m2937 n2938 l2935] w)) (H : Aside0 (store_Store_Meter.f l2935 a2940 = some r)) :
    Calls Tryd.prog 92 #[.pointer (some ⟨g2933, 0, none⟩)] w fun e w' => e = .returned (.int .u64 r) ∧ Sep (fps [b7 g2933 A2936 m2937 n2938 a2940, r6 A2936 m2937 n2938 l2935]) w [b7 g2933 A2936 m2937 n2938 a2940, r6 A2936 m2937 n2938 l2935] w' := by
  generalize (fps [b7 g2933 A2936 m2937 n2938 a2940, r6 A2936 m2937 n2938 l2935]) = FF at HS HGl0 ⊢
  obtain rfl := (row_len (HS.out.at1)).symm
  unfold store_Store_Meter.f at H
  go_enter Tryd.func92, Tryd.ntmps92
  go_wp2_with fail
  obtain ⟨t2953, HA2954, H⟩ := bind_some H
  refine (atomic_Uint64_Load.calls l2935 a2940 g2933 A2936 l2935.length n2938 t2953 _ ⟨HGl0.out.pass HS.out⟩ ⟨HS.out.begin⟩ HA2954).mono ?_
  rintro e_ w2955 ⟨rfl, hS⟩
  replace HS : Aside0 (Sep FF w [b7 g2933 A2936 l2935.length n2938 a2940, r6 A2936 l2935.length n2938 l2935] w2955) := ⟨HS.out.call hS⟩
  clear hS
  go_wp2_with fail
  go_ret
  rw [← some_eq H]
  exact ⟨(by first | rfl | (simp [IntKind.wrap_u32]; done)), HS.out⟩

set_option maxHeartbeats 30000000 in
set_option maxRecDepth 100000 in
theorem ground_Ground_Meter.calls (l2919 : List Int) (a2924 : Int) (a2925 : Int) (a2926 : Int) (a2927 : Int) (a2928 : Int) (g2915 : Nat) (g2917 : Nat) (A2920 : Option Addr) (m2921 : Nat) (n2922 : Nat) (r : Int) (w : World)  (HGl0 : Aside0 (Gl 0 #[.int .i64 0, .int .i64 0, .int .i64 0, .int .i64 0, .int .i64 0] (fps [b8 g2915 g2917 a2925 a2926 a2927 a2928, b7 g2917 A2920 m2921 n2922 a2924, r6 A2920 m2921 n2922 l2919]) w)) (HS : Aside0 (Sep (fps [b8 g2915 g2917 a2925 a2926 a2927 a2928, b7 g2917 A2920 m2921 n2922 a2924, r6 A2920 m2921 n2922 l2919]) w [b8 g2915 g2917 a2925 a2926 a2927 a2928, b7 g2917 A2920 m2921 n2922 a2924, r6 A2920 m2921 n2922 l2919] w)) (H : Aside0 (ground_Ground_Meter.f l2919 a2924 a2925 a2926 a2927 a2928 = some r)) :
    Calls Tryd.prog 30 #[.pointer (some ⟨g2915, 0, none⟩)] w fun e w' => e = .returned (.int .u64 r) ∧ Sep (fps [b8 g2915 g2917 a2925 a2926 a2927 a2928, b7 g2917 A2920 m2921 n2922 a2924, r6 A2920 m2921 n2922 l2919]) w [b8 g2915 g2917 a2925 a2926 a2927 a2928, b7 g2917 A2920 m2921 n2922 a2924, r6 A2920 m2921 n2922 l2919] w' := by
  generalize (fps [b8 g2915 g2917 a2925 a2926 a2927 a2928, b7 g2917 A2920 m2921 n2922 a2924, r6 A2920 m2921 n2922 l2919]) = FF at HS HGl0 ⊢
  obtain rfl := (row_len (HS.out.at2)).symm
  unfold ground_Ground_Meter.f at H
  go_enter Tryd.func30, Tryd.ntmps30
  go_wp2_with fail
  obtain ⟨t2929, HA2930, H⟩ := bind_some H
  refine (ground_Ground_all.calls l2919 a2924 a2925 a2926 a2927 a2928 g2915 g2917 A2920 l2919.length n2922 t2929 _ ⟨HGl0.out.pass HS.out⟩ ⟨HS.out.begin⟩ HA2930).mono ?_
  rintro e_ w2931 ⟨rfl, hS⟩
  replace HS : Aside0 (Sep FF w [b8 g2915 g2917 a2925 a2926 a2927 a2928, b7 g2917 A2920 l2919.length n2922 a2924, r6 A2920 l2919.length n2922 l2919] w2931) := ⟨HS.out.call hS⟩
  clear hS
  go_wp2_with fail
  replace HS : Aside0 (Sep FF w [r6 A2920 l2919.length n2922 l2919, b8 g2915 g2917 a2925 a2926 a2927 a2928, b7 g2917 A2920 l2919.length n2922 a2924] w2931) := ⟨HS.out.front 2 (by simp)⟩
  replace HS : Aside0 (Sep FF w [b7 g2917 A2920 l2919.length n2922 a2924, r6 A2920 l2919.length n2922 l2919, b8 g2915 g2917 a2925 a2926 a2927 a2928] w2931) := ⟨HS.out.front 2 (by simp)⟩
  obtain ⟨t2956, HA2957, H⟩ := bind_some H
  refine (store_Store_Meter.calls l2919 a2924 g2917 A2920 l2919.length n2922 t2956 _ ⟨HGl0.out.pass HS.out⟩ ⟨HS.out.begin⟩ HA2957).mono ?_
  rintro e_ w2958 ⟨rfl, hS⟩
  replace HS : Aside0 (Sep FF w [b7 g2917 A2920 l2919.length n2922 a2924, r6 A2920 l2919.length n2922 l2919, b8 g2915 g2917 a2925 a2926 a2927 a2928] w2958) := ⟨HS.out.call hS⟩
  clear hS
  go_wp2_with fail
  go_ret
  rw [← some_eq H]
  exact ⟨(by first | rfl | (simp [IntKind.wrap_u32]; done)), ((((HS.out).front 1 (by simp)).front 1 (by simp)).front 2 (by simp)).keep (l := [b8 g2915 g2917 a2925 a2926 a2927 a2928, b7 g2917 A2920 l2919.length n2922 a2924, r6 A2920 l2919.length n2922 l2919]) (rest := [])⟩

set_option maxHeartbeats 30000000 in
set_option maxRecDepth 100000 in
theorem quitrentlaw09_head.calls (l2965 : List Int) (a2969 : Int) (A2966 : Option Addr) (n2967 : Nat) (r : Bool) (w : World) (HR2968 : Aside0 (Rd (Kd.int .u8) (fps []) w A2966 l2965.length l2965)) (HGl0 : Aside0 (Gl 0 #[.int .i64 0, .int .i64 0, .int .i64 0, .int .i64 0, .int .i64 0] (fps []) w)) (HS : Aside0 (Sep (fps []) w [] w)) (H : Aside0 (quitrentlaw09_head.f l2965 a2969 = some r)) :
    Calls Tryd.prog 88 #[.slice A2966 l2965.length n2967, .int .i64 a2969] w fun e w' => e = .returned (.bool r) ∧ Sep (fps []) w [] w' := by
  unfold quitrentlaw09_head.f at H
  go_enter Tryd.func88, Tryd.ntmps88
  by_cases c2970 : a2969 ≥ 0
  · replace H := if_yes c2970 H
    have c2970b0 : decide (0 ≤ a2969) = true := decide_eq_true c2970
    clear c2970
    by_cases c2971 : a2969 < (l2965.length : Int)
    · replace H := if_yes c2971 H
      have c2971b0 : decide (a2969 < (l2965.length : Int)) = true := decide_eq_true c2971
      clear c2971
      by_cases c2972 : 0 ≤ a2969
      · replace H := if_yes c2972 H
        have c2972b0 : decide (0 ≤ a2969) = true := decide_eq_true c2972
        have c2972p : (0 ≤ a2969) = True := eq_true c2972
        clear c2972
        have ip2973 : (a2969 < (l2965.length : Int)) = True := eq_true (of_decide_eq_true c2971b0)
        by_cases c2975 : (Int.tmod (rd l2965 a2969) 4) = 1
        · replace H := if_yes c2975 H
          have c2975b0 : ((Int.tmod (rd l2965 a2969) 4) == 1) = true := beq_iff_eq.mpr c2975
          have c2975b1 : ((Int.tmod (rd l2965 a2969) 4) != 1) = false := bne_eq_false_iff_eq.mpr c2975
          clear c2975
          obtain ⟨hx2974a, hx2974e, hx2974⟩ := Kd.at_int (Rd.read (fun _ _ _ _ h => h) HR2968.out HS.out.fr) a2969 (of_decide_eq_true c2972b0) (of_decide_eq_true c2971b0); cases hx2974e
          go_wp2_with fail
          clear hx2974
          go_ret
          rw [← some_eq H]
          exact ⟨(by first | rfl | (simp [IntKind.wrap_u32]; done)), HS.out⟩
        · replace H := if_no c2975 H
          have c2975b0 : ((Int.tmod (rd l2965 a2969) 4) == 1) = false := beq_eq_false_iff_ne.mpr c2975
          have c2975b1 : ((Int.tmod (rd l2965 a2969) 4) != 1) = true := bne_iff_ne.mpr c2975
          clear c2975
          obtain ⟨hx2974a, hx2974e, hx2974⟩ := Kd.at_int (Rd.read (fun _ _ _ _ h => h) HR2968.out HS.out.fr) a2969 (of_decide_eq_true c2972b0) (of_decide_eq_true c2971b0); cases hx2974e
          have hx2976 := C_at_int (Rd.read (fun _ _ _ _ h => h) HR2968.out HS.out.fr) a2969 (of_decide_eq_true c2972b0) (of_decide_eq_true c2971b0)
          go_wp2_with fail
          clear hx2974 hx2976
          go_ret
          rw [← some_eq H]
          exact ⟨(by first | rfl | (simp [IntKind.wrap_u32]; done)), HS.out⟩
      · replace H := if_no c2972 H
        have c2972b0 : decide (0 ≤ a2969) = false := decide_eq_false c2972
        clear c2972
        exact (none_no H).elim
    · replace H := if_no c2971 H
      have c2971b0 : decide (a2969 < (l2965.length : Int)) = false := decide_eq_false c2971
      clear c2971
      go_wp2_with fail
      go_ret
      rw [← some_eq H]
      exact ⟨(by first | rfl | (simp [IntKind.wrap_u32]; done)), HS.out⟩
  · replace H := if_no c2970 H
    have c2970b0 : decide (0 ≤ a2969) = false := decide_eq_false c2970
    clear c2970
    go_wp2_with fail
    go_ret
    rw [← some_eq H]
    exact ⟨(by first | rfl | (simp [IntKind.wrap_u32]; done)), HS.out⟩

set_option maxHeartbeats 30000000 in
set_option maxRecDepth 100000 in
theorem quitrentref08_Behind.calls (k : Nat) (l3015 : List Int) (a3019 : Int) (A3016 : Option Addr) (n3017 : Nat) (r : List Int) (w : World) (HR3018 : Aside0 (Rd (Kd.int .i64) (fps []) w A3016 l3015.length l3015)) (HGl0 : Aside0 (Gl 0 #[.int .i64 0, .int .i64 0, .int .i64 0, .int .i64 0, .int .i64 0] (fps []) w)) (HS : Aside0 (Sep (fps []) w [] w)) (H : Aside0 (quitrentref08_Behind.f k l3015 a3019 = some r)) :
    Calls Tryd.prog 89 #[.slice A3016 l3015.length n3017, .int .i64 a3019] w fun e w' => ∃ (A3081 : Option Addr) (m3082 : Nat) (n3083 : Nat), e = .returned (.slice A3081 m3082 n3083) ∧ Sep (fps []) w [r14 A3081 m3082 n3083 r] w' := by
  unfold quitrentref08_Behind.f at H
  go_enter Tryd.func89, Tryd.ntmps89
  go_wp2_with fail
  replace HS : Aside0 (Sep (fps []) w [r14 none 0 0 []] w) := ⟨HS.out.nilrow 3 (Value.int .i64)⟩
  obtain ⟨o3021, AL3022, H⟩ := bind_some H
  go_loopg [5, 6] k (fun kq v5 v6 wc => ∃ (x3027 : Int) (x3028 : List Int) (A3029 : Option Addr) (m3030 : Nat) (n3031 : Nat), v5 = .slice A3029 m3030 n3031 ∧ v6 = .int .i64 x3027 ∧ Aside0 (quitrentref08_Behind.lo0 kq l3015 x3027 x3028 = some o3021) ∧ Aside0 (Sep (fps []) w [r14 A3029 m3030 n3031 x3028] wc))
  case atStart => exact ⟨(0), (([] : List Int)), (none), (0), (0), (by first | rfl | (simp [IntKind.wrap_u32]; done)), (by first | rfl | (simp [IntKind.wrap_u32]; done)), AL3022, ⟨HS.out⟩⟩
  case round =>
    clear AL3022 HS
    obtain ⟨x3027, x3028, A3029, m3030, n3031, rfl, rfl, AL3022, HS⟩ := hrel
    obtain ⟨w3023, rfl⟩ : ∃ x : World, x = wr := ⟨_, rfl⟩
    obtain rfl := (row_len (HS.out.at0)).symm
    cases gk with
    | zero => exact absurd AL3022.out (by simp [quitrentref08_Behind.lo0])
    | succ k3024 =>
      have AL0 := AL3022.out
      rw [quitrentref08_Behind.lo0] at AL0
      clear AL3022
      have AL3022 := Aside0.mk AL0
      clear AL0
      by_cases c3033 : x3027 < (l3015.length : Int)
      · replace AL3022 := if_yes c3033 AL3022
        have c3033b0 : decide (x3027 < (l3015.length : Int)) = true := decide_eq_true c3033
        clear c3033
        by_cases c3034 : 0 ≤ x3027
        · replace AL3022 := if_yes c3034 AL3022
          have c3034b0 : decide (0 ≤ x3027) = true := decide_eq_true c3034
          have c3034p : (0 ≤ x3027) = True := eq_true c3034
          clear c3034
          have ip3035 : (x3027 < (l3015.length : Int)) = True := eq_true (of_decide_eq_true c3033b0)
          by_cases c3040 : x3028.length < 17592186044416
          · replace AL3022 := if_yes c3040 AL3022
            have c3040b0 : decide (x3028.length < 17592186044416) = true := decide_eq_true c3040
            clear c3040
            obtain ⟨y3044, HA3045, AL3022⟩ := bind_some AL3022
            obtain ⟨hx3036a, hx3036e, hx3036⟩ := Kd.at_int (Rd.read (fun _ _ _ _ h => h) HR3018.out HS.out.fr) x3027 (of_decide_eq_true c3034b0) (of_decide_eq_true c3033b0); cases hx3036e
            go_wp2_with (first | ((with_reducible refine gate_dst (N := 18) rfl ?_); refine slice_on (n := 1) ?hg (N := 18) ?hd (cs := #[.int .i64 (rd l3015 x3027)]) (t := 3) ?hr ?_; (case hd => rfl); (case hg => rfl); (case hr => first | (go_simp; done) | (go_simp; rfl)); intro g3037 hg w3038 hbox hb; clear hx3036; replace HS : Aside0 (Sep (fps []) w [r14 A3029 x3028.length n3031 x3028, b15 g3037 (rd l3015 x3027)] w3038) := ⟨HS.out.box hg hbox hb⟩; clear hg hbox hb) | ((with_reducible refine gate_dst (N := 19) rfl ?_); refine append_event (l1 := []) (l2 := [b15 g3037 (rd l3015 x3027)]) rfl (.tmp 13) (.tmp 18) 49 3 (.int .i64 0) 8 rfl Tryd.underlying49 (by kernel_rfl) rfl (by decide) (Value.int .i64) (fun _ => rfl) (.slice A3029 x3028.length n3031) (x3028 : List Int) [rd l3015 x3027] ⟨g3037, 0, none⟩ 1 rfl rfl (blk_news (xs := [rd l3015 x3027]) (HS.out.at1)) HS.out (by have := of_decide_eq_true c3040b0; simp only [List.length_cons, List.length_nil]; omega) HA3045 ?_; intro A3041 n3042 w3043 HS1; replace HS : Aside0 (Sep (fps []) w [r14 A3041 y3044.length n3042 y3044, b15 g3037 (rd l3015 x3027)] w3043) := ⟨HS1⟩; clear HS1; replace HS : Aside0 (Sep (fps []) w [r14 A3041 y3044.length n3042 y3044] w3043) := ⟨HS.out.sub (.cons_cons _ (.cons _ .slnil))⟩))
            go_roundg k3024
            case measure => exact Nat.lt_succ_self _
            case rel => exact ⟨(wrap64 (x3027 + 1)), (y3044), (A3041), (y3044.length), (n3042), (by first | rfl | (simp [IntKind.wrap_u32]; done)), (by first | rfl | (simp [IntKind.wrap_u32]; done)), Aside0.mk AL3022.out, ⟨HS.out⟩⟩
          · replace AL3022 := if_no c3040 AL3022
            have c3040b0 : decide (x3028.length < 17592186044416) = false := decide_eq_false c3040
            clear c3040
            exact (none_no AL3022).elim
        · replace AL3022 := if_no c3034 AL3022
          have c3034b0 : decide (0 ≤ x3027) = false := decide_eq_false c3034
          clear c3034
          exact (none_no AL3022).elim
      · replace AL3022 := if_no c3033 AL3022
        have c3033b0 : decide (x3027 < (l3015.length : Int)) = false := decide_eq_false c3033
        clear c3033
        have ho := some_eq AL3022
        subst ho
        clear AL3022
        by_cases c3050 : x3028.length < 17592186044416
        · replace H := if_yes c3050 H
          have c3050b0 : decide (x3028.length < 17592186044416) = true := decide_eq_true c3050
          clear c3050
          obtain ⟨y3054, HA3055, H⟩ := bind_some H
          go_wp2_with (first | ((with_reducible refine gate_dst (N := 22) rfl ?_); refine slice_on (n := 1) ?hg (N := 22) ?hd (cs := #[.int .i64 a3019]) (t := 3) ?hr ?_; (case hd => rfl); (case hg => rfl); (case hr => first | (go_simp; done) | (go_simp; rfl)); intro g3047 hg w3048 hbox hb; replace HS : Aside0 (Sep (fps []) w [r14 A3029 x3028.length n3031 x3028, b15 g3047 a3019] w3048) := ⟨HS.out.box hg hbox hb⟩; clear hg hbox hb) | ((with_reducible refine gate_dst (N := 23) rfl ?_); refine append_event (l1 := []) (l2 := [b15 g3047 a3019]) rfl (.tmp 20) (.tmp 22) 49 3 (.int .i64 0) 8 rfl Tryd.underlying49 (by kernel_rfl) rfl (by decide) (Value.int .i64) (fun _ => rfl) (.slice A3029 x3028.length n3031) (x3028 : List Int) [a3019] ⟨g3047, 0, none⟩ 1 rfl rfl (blk_news (xs := [a3019]) (HS.out.at1)) HS.out (by have := of_decide_eq_true c3050b0; simp only [List.length_cons, List.length_nil]; omega) HA3055 ?_; intro A3051 n3052 w3053 HS1; replace HS : Aside0 (Sep (fps []) w [r14 A3051 y3054.length n3052 y3054, b15 g3047 a3019] w3053) := ⟨HS1⟩; clear HS1; replace HS : Aside0 (Sep (fps []) w [r14 A3051 y3054.length n3052 y3054] w3053) := ⟨HS.out.sub (.cons_cons _ (.cons _ .slnil))⟩))
          go_ret
          rw [← some_eq H]
          exact ⟨A3051, y3054.length, n3052, (by first | rfl | (simp [IntKind.wrap_u32]; done)), HS.out⟩
        · replace H := if_no c3050 H
          have c3050b0 : decide (x3028.length < 17592186044416) = false := decide_eq_false c3050
          clear c3050
          exact (none_no H).elim

set_option maxHeartbeats 30000000 in
set_option maxRecDepth 100000 in
theorem quitrentref09_Without.calls (k : Nat) (l3157 : List Int) (a3161 : Int) (A3158 : Option Addr) (n3159 : Nat) (r : List Int) (w : World) (HR3160 : Aside0 (Rd (Kd.int .i64) (fps []) w A3158 l3157.length l3157)) (HGl0 : Aside0 (Gl 0 #[.int .i64 0, .int .i64 0, .int .i64 0, .int .i64 0, .int .i64 0] (fps []) w)) (HS : Aside0 (Sep (fps []) w [] w)) (H : Aside0 (quitrentref09_Without.f k l3157 a3161 = some r)) :
    Calls Tryd.prog 90 #[.slice A3158 l3157.length n3159, .int .i64 a3161] w fun e w' => ∃ (A3206 : Option Addr) (m3207 : Nat) (n3208 : Nat), e = .returned (.slice A3206 m3207 n3208) ∧ Sep (fps []) w [r14 A3206 m3207 n3208 r] w' := by
  unfold quitrentref09_Without.f at H
  go_enter Tryd.func90, Tryd.ntmps90
  go_wp2_with fail
  replace HS : Aside0 (Sep (fps []) w [r14 none 0 0 []] w) := ⟨HS.out.nilrow 3 (Value.int .i64)⟩
  obtain ⟨o3163, AL3164, H⟩ := bind_some H
  go_loopg [5, 6] k (fun kq v5 v6 wc => ∃ (x3169 : Int) (x3170 : List Int) (A3171 : Option Addr) (m3172 : Nat) (n3173 : Nat), v5 = .slice A3171 m3172 n3173 ∧ v6 = .int .i64 x3169 ∧ Aside0 (quitrentref09_Without.lo0 kq l3157 a3161 x3169 x3170 = some o3163) ∧ Aside0 (Sep (fps []) w [r14 A3171 m3172 n3173 x3170] wc))
  case atStart => exact ⟨(0), (([] : List Int)), (none), (0), (0), (by first | rfl | (simp [IntKind.wrap_u32]; done)), (by first | rfl | (simp [IntKind.wrap_u32]; done)), AL3164, ⟨HS.out⟩⟩
  case round =>
    clear AL3164 HS
    obtain ⟨x3169, x3170, A3171, m3172, n3173, rfl, rfl, AL3164, HS⟩ := hrel
    obtain ⟨w3165, rfl⟩ : ∃ x : World, x = wr := ⟨_, rfl⟩
    obtain rfl := (row_len (HS.out.at0)).symm
    cases gk with
    | zero => exact absurd AL3164.out (by simp [quitrentref09_Without.lo0])
    | succ k3166 =>
      have AL0 := AL3164.out
      rw [quitrentref09_Without.lo0] at AL0
      clear AL3164
      have AL3164 := Aside0.mk AL0
      clear AL0
      by_cases c3175 : x3169 < (l3157.length : Int)
      · replace AL3164 := if_yes c3175 AL3164
        have c3175b0 : decide (x3169 < (l3157.length : Int)) = true := decide_eq_true c3175
        clear c3175
        by_cases c3176 : 0 ≤ x3169
        · replace AL3164 := if_yes c3176 AL3164
          have c3176b0 : decide (0 ≤ x3169) = true := decide_eq_true c3176
          have c3176p : (0 ≤ x3169) = True := eq_true c3176
          clear c3176
          have ip3177 : (x3169 < (l3157.length : Int)) = True := eq_true (of_decide_eq_true c3175b0)
          by_cases c3179 : (rd l3157 x3169) = a3161
          · replace AL3164 := if_yes c3179 AL3164
            have c3179b0 : ((rd l3157 x3169) == a3161) = true := beq_iff_eq.mpr c3179
            have c3179b1 : ((rd l3157 x3169) != a3161) = false := bne_eq_false_iff_eq.mpr c3179
            clear c3179
            obtain ⟨hx3178a, hx3178e, hx3178⟩ := Kd.at_int (Rd.read (fun _ _ _ _ h => h) HR3160.out HS.out.fr) x3169 (of_decide_eq_true c3176b0) (of_decide_eq_true c3175b0); cases hx3178e
            go_wp2_with fail
            clear hx3178
            go_roundg k3166
            case measure => exact Nat.lt_succ_self _
            case rel => exact ⟨(wrap64 (x3169 + 1)), (x3170), (A3171), (x3170.length), (n3173), (by first | rfl | (simp [IntKind.wrap_u32]; done)), (by first | rfl | (simp [IntKind.wrap_u32]; done)), Aside0.mk AL3164.out, ⟨HS.out⟩⟩
          · replace AL3164 := if_no c3179 AL3164
            have c3179b0 : ((rd l3157 x3169) == a3161) = false := beq_eq_false_iff_ne.mpr c3179
            have c3179b1 : ((rd l3157 x3169) != a3161) = true := bne_iff_ne.mpr c3179
            clear c3179
            by_cases c3184 : x3170.length < 17592186044416
            · replace AL3164 := if_yes c3184 AL3164
              have c3184b0 : decide (x3170.length < 17592186044416) = true := decide_eq_true c3184
              clear c3184
              obtain ⟨y3188, HA3189, AL3164⟩ := bind_some AL3164
              obtain ⟨hx3178a, hx3178e, hx3178⟩ := Kd.at_int (Rd.read (fun _ _ _ _ h => h) HR3160.out HS.out.fr) x3169 (of_decide_eq_true c3176b0) (of_decide_eq_true c3175b0); cases hx3178e
              have hx3180 := C_at_int (Rd.read (fun _ _ _ _ h => h) HR3160.out HS.out.fr) x3169 (of_decide_eq_true c3176b0) (of_decide_eq_true c3175b0)
              go_wp2_with (first | ((with_reducible refine gate_dst (N := 24) rfl ?_); refine slice_on (n := 1) ?hg (N := 24) ?hd (cs := #[.int .i64 (rd l3157 x3169)]) (t := 3) ?hr ?_; (case hd => rfl); (case hg => rfl); (case hr => first | (go_simp; done) | (go_simp; rfl)); intro g3181 hg w3182 hbox hb; clear hx3178 hx3180; replace HS : Aside0 (Sep (fps []) w [r14 A3171 x3170.length n3173 x3170, b15 g3181 (rd l3157 x3169)] w3182) := ⟨HS.out.box hg hbox hb⟩; clear hg hbox hb) | ((with_reducible refine gate_dst (N := 25) rfl ?_); refine append_event (l1 := []) (l2 := [b15 g3181 (rd l3157 x3169)]) rfl (.tmp 19) (.tmp 24) 49 3 (.int .i64 0) 8 rfl Tryd.underlying49 (by kernel_rfl) rfl (by decide) (Value.int .i64) (fun _ => rfl) (.slice A3171 x3170.length n3173) (x3170 : List Int) [rd l3157 x3169] ⟨g3181, 0, none⟩ 1 rfl rfl (blk_news (xs := [rd l3157 x3169]) (HS.out.at1)) HS.out (by have := of_decide_eq_true c3184b0; simp only [List.length_cons, List.length_nil]; omega) HA3189 ?_; intro A3185 n3186 w3187 HS1; replace HS : Aside0 (Sep (fps []) w [r14 A3185 y3188.length n3186 y3188, b15 g3181 (rd l3157 x3169)] w3187) := ⟨HS1⟩; clear HS1; replace HS : Aside0 (Sep (fps []) w [r14 A3185 y3188.length n3186 y3188] w3187) := ⟨HS.out.sub (.cons_cons _ (.cons _ .slnil))⟩))
              go_roundg k3166
              case measure => exact Nat.lt_succ_self _
              case rel => exact ⟨(wrap64 (x3169 + 1)), (y3188), (A3185), (y3188.length), (n3186), (by first | rfl | (simp [IntKind.wrap_u32]; done)), (by first | rfl | (simp [IntKind.wrap_u32]; done)), Aside0.mk AL3164.out, ⟨HS.out⟩⟩
            · replace AL3164 := if_no c3184 AL3164
              have c3184b0 : decide (x3170.length < 17592186044416) = false := decide_eq_false c3184
              clear c3184
              exact (none_no AL3164).elim
        · replace AL3164 := if_no c3176 AL3164
          have c3176b0 : decide (0 ≤ x3169) = false := decide_eq_false c3176
          clear c3176
          exact (none_no AL3164).elim
      · replace AL3164 := if_no c3175 AL3164
        have c3175b0 : decide (x3169 < (l3157.length : Int)) = false := decide_eq_false c3175
        clear c3175
        have ho := some_eq AL3164
        subst ho
        clear AL3164
        go_wp2_with fail
        go_ret
        rw [← some_eq H]
        exact ⟨A3171, x3170.length, n3173, (by first | rfl | (simp [IntKind.wrap_u32]; done)), HS.out⟩

set_option maxHeartbeats 30000000 in
set_option maxRecDepth 100000 in
theorem ring_Take.calls (k : Nat) (l3246 : List Int) (a3251 : Int) (a3252 : Int) (a3253 : Int) (a3254 : Int) (a3255 : Int) (g3242 : Nat) (g3244 : Nat) (A3247 : Option Addr) (m3248 : Nat) (n3249 : Nat) (r : Int × Bool × Int × List Int) (w : World)  (HGl0 : Aside0 (Gl 0 #[.int .i64 0, .int .i64 0, .int .i64 0, .int .i64 0, .int .i64 0] (fps [b8 g3242 g3244 a3252 a3253 a3254 a3255, b7 g3244 A3247 m3248 n3249 a3251, r6 A3247 m3248 n3249 l3246]) w)) (HS : Aside0 (Sep (fps [b8 g3242 g3244 a3252 a3253 a3254 a3255, b7 g3244 A3247 m3248 n3249 a3251, r6 A3247 m3248 n3249 l3246]) w [b8 g3242 g3244 a3252 a3253 a3254 a3255, b7 g3244 A3247 m3248 n3249 a3251, r6 A3247 m3248 n3249 l3246] w)) (H : Aside0 (ring_Take.f k l3246 a3251 a3252 a3253 a3254 a3255 = some r)) :
    Calls Tryd.prog 25 #[.pointer (some ⟨g3242, 0, none⟩)] w fun e w' => e = .returned (.tuple #[.int .i64 r.1, .bool r.2.1]) ∧ Sep (fps [b8 g3242 g3244 a3252 a3253 a3254 a3255, b7 g3244 A3247 m3248 n3249 a3251, r6 A3247 m3248 n3249 l3246]) w [b8 g3242 g3244 a3252 a3253 a3254 a3255, b7 g3244 A3247 m3248 n3249 r.2.2.1, r6 A3247 m3248 n3249 r.2.2.2] w' := by
  generalize (fps [b8 g3242 g3244 a3252 a3253 a3254 a3255, b7 g3244 A3247 m3248 n3249 a3251, r6 A3247 m3248 n3249 l3246]) = FF at HS HGl0 ⊢
  obtain rfl := (row_len (HS.out.at2)).symm
  unfold ring_Take.f at H
  go_enter Tryd.func25, Tryd.ntmps25
  go_wp2_with fail
  obtain ⟨t3268, HA3269, H⟩ := bind_some H
  refine (ground_Ground_Reg.calls l3246 a3251 a3252 a3253 a3254 a3255 7 g3242 g3244 A3247 l3246.length n3249 t3268 _ ⟨HGl0.out.pass HS.out⟩ ⟨HS.out.begin⟩ HA3269).mono ?_
  rintro e_ w3270 ⟨rfl, hS⟩
  replace HS : Aside0 (Sep FF w [b8 g3242 g3244 a3252 a3253 a3254 a3255, b7 g3244 A3247 l3246.length n3249 t3268.2, r6 A3247 l3246.length n3249 l3246] w3270) := ⟨HS.out.call hS⟩
  clear hS
  by_cases c3271 : t3268.1 = 0
  · replace H := if_yes c3271 H
    have c3271b0 : (t3268.1 == 0) = true := beq_iff_eq.mpr c3271
    have c3271b1 : (t3268.1 != 0) = false := bne_eq_false_iff_eq.mpr c3271
    clear c3271
    go_wp2_with fail
    go_ret2
    rw [← some_eq H]
    exact ⟨(by first | rfl | (simp [IntKind.wrap_u32]; done)), HS.out⟩
  · replace H := if_no c3271 H
    have c3271b0 : (t3268.1 == 0) = false := beq_eq_false_iff_ne.mpr c3271
    have c3271b1 : (t3268.1 != 0) = true := bne_iff_ne.mpr c3271
    clear c3271
    go_wp2_with fail
    obtain ⟨t3272, HA3273, H⟩ := bind_some H
    refine (ring_Cut.calls _ l3246 t3268.2 a3252 a3253 a3254 a3255 (wrap64 (t3268.1 - 1)) g3242 g3244 A3247 l3246.length n3249 t3272 _ ⟨HGl0.out.pass HS.out⟩ ⟨HS.out.begin⟩ HA3273).mono ?_
    rintro e_ w3274 ⟨rfl, hS⟩
    replace HS : Aside0 (Sep FF w [b8 g3242 g3244 a3252 a3253 a3254 a3255, b7 g3244 A3247 l3246.length n3249 t3272.2.1, r6 A3247 l3246.length n3249 t3272.2.2] w3274) := ⟨HS.out.call hS⟩
    clear hS
    by_cases c3275 : t3272.1 = true
    · replace H := if_yes c3275 H
      have c3275b0 : t3272.1 = true := c3275
      have c3275b1 : (!t3272.1) = false := by rw [c3275b0]; rfl
      try rw [c3275b1]
      clear c3275
      go_wp2_with fail
      go_ret2
      rw [← some_eq H]
      exact ⟨(by first | rfl | (simp [IntKind.wrap_u32]; done)), HS.out⟩
    · replace H := if_no c3275 H
      have c3275b0 : t3272.1 = false := by simpa using c3275
      have c3275b1 : (!t3272.1) = true := by rw [c3275b0]; rfl
      try rw [c3275b1]
      clear c3275
      go_wp2_with fail
      go_ret2
      rw [← some_eq H]
      exact ⟨(by first | rfl | (simp [IntKind.wrap_u32]; done)), HS.out⟩

set_option maxHeartbeats 30000000 in
set_option maxRecDepth 100000 in
theorem quitrentref08_Rest.calls (k : Nat) (l3285 : List Int) (A3286 : Option Addr) (n3287 : Nat) (r : List Int) (w : World) (HR3288 : Aside0 (Rd (Kd.int .i64) (fps []) w A3286 l3285.length l3285)) (HGl0 : Aside0 (Gl 0 #[.int .i64 0, .int .i64 0, .int .i64 0, .int .i64 0, .int .i64 0] (fps []) w)) (HS : Aside0 (Sep (fps []) w [] w)) (H : Aside0 (quitrentref08_Rest.f k l3285 = some r)) :
    Calls Tryd.prog 91 #[.slice A3286 l3285.length n3287] w fun e w' => ∃ (A3331 : Option Addr) (m3332 : Nat) (n3333 : Nat), e = .returned (.slice A3331 m3332 n3333) ∧ Sep (fps []) w [r14 A3331 m3332 n3333 r] w' := by
  unfold quitrentref08_Rest.f at H
  go_enter Tryd.func91, Tryd.ntmps91
  go_wp2_with fail
  replace HS : Aside0 (Sep (fps []) w [r14 none 0 0 []] w) := ⟨HS.out.nilrow 3 (Value.int .i64)⟩
  obtain ⟨o3290, AL3291, H⟩ := bind_some H
  go_loopg [3, 4] k (fun kq v3 v4 wc => ∃ (x3296 : Int) (x3297 : List Int) (A3298 : Option Addr) (m3299 : Nat) (n3300 : Nat), v3 = .slice A3298 m3299 n3300 ∧ v4 = .int .i64 x3296 ∧ Aside0 (quitrentref08_Rest.lo0 kq l3285 x3296 x3297 = some o3290) ∧ Aside0 (Sep (fps []) w [r14 A3298 m3299 n3300 x3297] wc))
  case atStart => exact ⟨(1), (([] : List Int)), (none), (0), (0), (by first | rfl | (simp [IntKind.wrap_u32]; done)), (by first | rfl | (simp [IntKind.wrap_u32]; done)), AL3291, ⟨HS.out⟩⟩
  case round =>
    clear AL3291 HS
    obtain ⟨x3296, x3297, A3298, m3299, n3300, rfl, rfl, AL3291, HS⟩ := hrel
    obtain ⟨w3292, rfl⟩ : ∃ x : World, x = wr := ⟨_, rfl⟩
    obtain rfl := (row_len (HS.out.at0)).symm
    cases gk with
    | zero => exact absurd AL3291.out (by simp [quitrentref08_Rest.lo0])
    | succ k3293 =>
      have AL0 := AL3291.out
      rw [quitrentref08_Rest.lo0] at AL0
      clear AL3291
      have AL3291 := Aside0.mk AL0
      clear AL0
      by_cases c3302 : x3296 < (l3285.length : Int)
      · replace AL3291 := if_yes c3302 AL3291
        have c3302b0 : decide (x3296 < (l3285.length : Int)) = true := decide_eq_true c3302
        clear c3302
        by_cases c3303 : 0 ≤ x3296
        · replace AL3291 := if_yes c3303 AL3291
          have c3303b0 : decide (0 ≤ x3296) = true := decide_eq_true c3303
          have c3303p : (0 ≤ x3296) = True := eq_true c3303
          clear c3303
          have ip3304 : (x3296 < (l3285.length : Int)) = True := eq_true (of_decide_eq_true c3302b0)
          by_cases c3309 : x3297.length < 17592186044416
          · replace AL3291 := if_yes c3309 AL3291
            have c3309b0 : decide (x3297.length < 17592186044416) = true := decide_eq_true c3309
            clear c3309
            obtain ⟨y3313, HA3314, AL3291⟩ := bind_some AL3291
            obtain ⟨hx3305a, hx3305e, hx3305⟩ := Kd.at_int (Rd.read (fun _ _ _ _ h => h) HR3288.out HS.out.fr) x3296 (of_decide_eq_true c3303b0) (of_decide_eq_true c3302b0); cases hx3305e
            go_wp2_with (first | ((with_reducible refine gate_dst (N := 16) rfl ?_); refine slice_on (n := 1) ?hg (N := 16) ?hd (cs := #[.int .i64 (rd l3285 x3296)]) (t := 3) ?hr ?_; (case hd => rfl); (case hg => rfl); (case hr => first | (go_simp; done) | (go_simp; rfl)); intro g3306 hg w3307 hbox hb; clear hx3305; replace HS : Aside0 (Sep (fps []) w [r14 A3298 x3297.length n3300 x3297, b15 g3306 (rd l3285 x3296)] w3307) := ⟨HS.out.box hg hbox hb⟩; clear hg hbox hb) | ((with_reducible refine gate_dst (N := 17) rfl ?_); refine append_event (l1 := []) (l2 := [b15 g3306 (rd l3285 x3296)]) rfl (.tmp 11) (.tmp 16) 49 3 (.int .i64 0) 8 rfl Tryd.underlying49 (by kernel_rfl) rfl (by decide) (Value.int .i64) (fun _ => rfl) (.slice A3298 x3297.length n3300) (x3297 : List Int) [rd l3285 x3296] ⟨g3306, 0, none⟩ 1 rfl rfl (blk_news (xs := [rd l3285 x3296]) (HS.out.at1)) HS.out (by have := of_decide_eq_true c3309b0; simp only [List.length_cons, List.length_nil]; omega) HA3314 ?_; intro A3310 n3311 w3312 HS1; replace HS : Aside0 (Sep (fps []) w [r14 A3310 y3313.length n3311 y3313, b15 g3306 (rd l3285 x3296)] w3312) := ⟨HS1⟩; clear HS1; replace HS : Aside0 (Sep (fps []) w [r14 A3310 y3313.length n3311 y3313] w3312) := ⟨HS.out.sub (.cons_cons _ (.cons _ .slnil))⟩))
            go_roundg k3293
            case measure => exact Nat.lt_succ_self _
            case rel => exact ⟨(wrap64 (x3296 + 1)), (y3313), (A3310), (y3313.length), (n3311), (by first | rfl | (simp [IntKind.wrap_u32]; done)), (by first | rfl | (simp [IntKind.wrap_u32]; done)), Aside0.mk AL3291.out, ⟨HS.out⟩⟩
          · replace AL3291 := if_no c3309 AL3291
            have c3309b0 : decide (x3297.length < 17592186044416) = false := decide_eq_false c3309
            clear c3309
            exact (none_no AL3291).elim
        · replace AL3291 := if_no c3303 AL3291
          have c3303b0 : decide (0 ≤ x3296) = false := decide_eq_false c3303
          clear c3303
          exact (none_no AL3291).elim
      · replace AL3291 := if_no c3302 AL3291
        have c3302b0 : decide (x3296 < (l3285.length : Int)) = false := decide_eq_false c3302
        clear c3302
        have ho := some_eq AL3291
        subst ho
        clear AL3291
        go_wp2_with fail
        go_ret
        rw [← some_eq H]
        exact ⟨A3298, x3297.length, n3300, (by first | rfl | (simp [IntKind.wrap_u32]; done)), HS.out⟩

set_option maxHeartbeats 30000000 in
set_option maxRecDepth 100000 in
theorem ring_Len.calls (l3368 : List Int) (a3373 : Int) (a3374 : Int) (a3375 : Int) (a3376 : Int) (a3377 : Int) (g3364 : Nat) (g3366 : Nat) (A3369 : Option Addr) (m3370 : Nat) (n3371 : Nat) (r : Int × Int) (w : World)  (HGl0 : Aside0 (Gl 0 #[.int .i64 0, .int .i64 0, .int .i64 0, .int .i64 0, .int .i64 0] (fps [b8 g3364 g3366 a3374 a3375 a3376 a3377, b7 g3366 A3369 m3370 n3371 a3373, r6 A3369 m3370 n3371 l3368]) w)) (HS : Aside0 (Sep (fps [b8 g3364 g3366 a3374 a3375 a3376 a3377, b7 g3366 A3369 m3370 n3371 a3373, r6 A3369 m3370 n3371 l3368]) w [b8 g3364 g3366 a3374 a3375 a3376 a3377, b7 g3366 A3369 m3370 n3371 a3373, r6 A3369 m3370 n3371 l3368] w)) (H : Aside0 (ring_Len.f l3368 a3373 a3374 a3375 a3376 a3377 = some r)) :
    Calls Tryd.prog 26 #[.pointer (some ⟨g3364, 0, none⟩)] w fun e w' => e = .returned (.int .i64 r.1) ∧ Sep (fps [b8 g3364 g3366 a3374 a3375 a3376 a3377, b7 g3366 A3369 m3370 n3371 a3373, r6 A3369 m3370 n3371 l3368]) w [b8 g3364 g3366 a3374 a3375 a3376 a3377, b7 g3366 A3369 m3370 n3371 r.2, r6 A3369 m3370 n3371 l3368] w' := by
  generalize (fps [b8 g3364 g3366 a3374 a3375 a3376 a3377, b7 g3366 A3369 m3370 n3371 a3373, r6 A3369 m3370 n3371 l3368]) = FF at HS HGl0 ⊢
  obtain rfl := (row_len (HS.out.at2)).symm
  unfold ring_Len.f at H
  go_enter Tryd.func26, Tryd.ntmps26
  go_wp2_with fail
  obtain ⟨t3381, HA3382, H⟩ := bind_some H
  refine (ground_Ground_Reg.calls l3368 a3373 a3374 a3375 a3376 a3377 9 g3364 g3366 A3369 l3368.length n3371 t3381 _ ⟨HGl0.out.pass HS.out⟩ ⟨HS.out.begin⟩ HA3382).mono ?_
  rintro e_ w3383 ⟨rfl, hS⟩
  replace HS : Aside0 (Sep FF w [b8 g3364 g3366 a3374 a3375 a3376 a3377, b7 g3366 A3369 l3368.length n3371 t3381.2, r6 A3369 l3368.length n3371 l3368] w3383) := ⟨HS.out.call hS⟩
  clear hS
  go_wp2_with fail
  go_ret
  rw [← some_eq H]
  exact ⟨(by first | rfl | (simp [IntKind.wrap_u32]; done)), HS.out⟩

set_option maxHeartbeats 30000000 in
set_option maxRecDepth 100000 in
theorem ring_Has.calls (l3394 : List Int) (a3399 : Int) (a3400 : Int) (a3401 : Int) (a3402 : Int) (a3403 : Int) (a3404 : Int) (g3390 : Nat) (g3392 : Nat) (A3395 : Option Addr) (m3396 : Nat) (n3397 : Nat) (r : Bool × Int) (w : World)  (HGl0 : Aside0 (Gl 0 #[.int .i64 0, .int .i64 0, .int .i64 0, .int .i64 0, .int .i64 0] (fps [b8 g3390 g3392 a3400 a3401 a3402 a3403, b7 g3392 A3395 m3396 n3397 a3399, r6 A3395 m3396 n3397 l3394]) w)) (HS : Aside0 (Sep (fps [b8 g3390 g3392 a3400 a3401 a3402 a3403, b7 g3392 A3395 m3396 n3397 a3399, r6 A3395 m3396 n3397 l3394]) w [b8 g3390 g3392 a3400 a3401 a3402 a3403, b7 g3392 A3395 m3396 n3397 a3399, r6 A3395 m3396 n3397 l3394] w)) (H : Aside0 (ring_Has.f l3394 a3399 a3400 a3401 a3402 a3403 a3404 = some r)) :
    Calls Tryd.prog 27 #[.pointer (some ⟨g3390, 0, none⟩), .int .i64 a3404] w fun e w' => e = .returned (.bool r.1) ∧ Sep (fps [b8 g3390 g3392 a3400 a3401 a3402 a3403, b7 g3392 A3395 m3396 n3397 a3399, r6 A3395 m3396 n3397 l3394]) w [b8 g3390 g3392 a3400 a3401 a3402 a3403, b7 g3392 A3395 m3396 n3397 r.2, r6 A3395 m3396 n3397 l3394] w' := by
  generalize (fps [b8 g3390 g3392 a3400 a3401 a3402 a3403, b7 g3392 A3395 m3396 n3397 a3399, r6 A3395 m3396 n3397 l3394]) = FF at HS HGl0 ⊢
  obtain rfl := (row_len (HS.out.at2)).symm
  unfold ring_Has.f at H
  go_enter Tryd.func27, Tryd.ntmps27
  go_wp2_with fail
  obtain ⟨t3426, HA3427, H⟩ := bind_some H
  refine (ring_marked.calls l3394 a3399 a3400 a3401 a3402 a3403 a3404 1 g3390 g3392 A3395 l3394.length n3397 t3426 _ ⟨HGl0.out.pass HS.out⟩ ⟨HS.out.begin⟩ HA3427).mono ?_
  rintro e_ w3428 ⟨rfl, hS⟩
  replace HS : Aside0 (Sep FF w [b8 g3390 g3392 a3400 a3401 a3402 a3403, b7 g3392 A3395 l3394.length n3397 t3426.2.2.2.2.2.2.2.2, r6 A3395 l3394.length n3397 l3394] w3428) := ⟨HS.out.call hS⟩
  clear hS
  go_wp2_with (first | ((with_reducible refine gate_dst (N := 5) rfl ?_); refine box_on ?hg (N := 5) ?hd (cs := #[.int .i64 0, .int .i64 0, .int .i64 0, .int .i64 0, .int .i64 0, .int .i64 0, .int .i64 0]) (t := 32) ?hr ?_; (case hd => rfl); (case hg => rfl); (case hr => first | (go_simp; done) | (go_simp; rfl)); intro g3429 hg w3430 hbox hb; replace HS : Aside0 (Sep FF w [b8 g3390 g3392 a3400 a3401 a3402 a3403, b7 g3392 A3395 l3394.length n3397 t3426.2.2.2.2.2.2.2.2, r6 A3395 l3394.length n3397 l3394, b9 g3429 0 0 0 0 0 0 0] w3430) := ⟨HS.out.box hg hbox hb⟩; clear hg hbox hb; have hc3432 : w3430.cell? ⟨g3429, 0, none⟩ = some (.int .i64 0) := blk_cellv (HS.out.at3) 0 rfl; have hz3433 : w3430.frozen? ⟨g3429, 0, none⟩ = false := blk_fz (HS.out.at3) 0; have hc3434 : w3430.cell? ⟨g3429, 1, none⟩ = some (.int .i64 0) := blk_cellv (HS.out.at3) 1 rfl; have hz3435 : w3430.frozen? ⟨g3429, 1, none⟩ = false := blk_fz (HS.out.at3) 1; have hc3436 : w3430.cell? ⟨g3429, 2, none⟩ = some (.int .i64 0) := blk_cellv (HS.out.at3) 2 rfl; have hz3437 : w3430.frozen? ⟨g3429, 2, none⟩ = false := blk_fz (HS.out.at3) 2; have hc3438 : w3430.cell? ⟨g3429, 3, none⟩ = some (.int .i64 0) := blk_cellv (HS.out.at3) 3 rfl; have hz3439 : w3430.frozen? ⟨g3429, 3, none⟩ = false := blk_fz (HS.out.at3) 3; have hc3440 : w3430.cell? ⟨g3429, 4, none⟩ = some (.int .i64 0) := blk_cellv (HS.out.at3) 4 rfl; have hz3441 : w3430.frozen? ⟨g3429, 4, none⟩ = false := blk_fz (HS.out.at3) 4; have hc3442 : w3430.cell? ⟨g3429, 5, none⟩ = some (.int .i64 0) := blk_cellv (HS.out.at3) 5 rfl; have hz3443 : w3430.frozen? ⟨g3429, 5, none⟩ = false := blk_fz (HS.out.at3) 5; have hc3444 : w3430.cell? ⟨g3429, 6, none⟩ = some (.int .i64 0) := blk_cellv (HS.out.at3) 6 rfl; have hz3445 : w3430.frozen? ⟨g3429, 6, none⟩ = false := blk_fz (HS.out.at3) 6) | ((with_reducible refine gate_store (t := 32) (p := 5) rfl ?_); refine store_event (w1 := (World.setCell (World.setCell (World.setCell (World.setCell (World.setCell (World.setCell (World.setCell w3430 ⟨g3429, 0, none⟩ (.int .i64 t3426.1)) ⟨g3429, 1, none⟩ (.int .i64 t3426.2.1)) ⟨g3429, 2, none⟩ (.int .i64 t3426.2.2.1)) ⟨g3429, 3, none⟩ (.int .i64 t3426.2.2.2.1)) ⟨g3429, 4, none⟩ (.int .i64 t3426.2.2.2.2.1)) ⟨g3429, 5, none⟩ (.int .i64 t3426.2.2.2.2.2.1)) ⟨g3429, 6, none⟩ (.int .i64 t3426.2.2.2.2.2.2.1))) rfl (t := 32) (p := 5) rfl rfl ?hr ?_; (case hr => first | (go_simp; done) | (go_simp; rfl)); intro w3446 hst; clear hc3432 hz3433 hc3434 hz3435 hc3436 hz3437 hc3438 hz3439 hc3440 hz3441 hc3442 hz3443 hc3444 hz3445; replace HS : Aside0 (Sep FF w [b8 g3390 g3392 a3400 a3401 a3402 a3403, b7 g3392 A3395 l3394.length n3397 t3426.2.2.2.2.2.2.2.2, r6 A3395 l3394.length n3397 l3394, b9 g3429 t3426.1 t3426.2.1 t3426.2.2.1 t3426.2.2.2.1 t3426.2.2.2.2.1 t3426.2.2.2.2.2.1 t3426.2.2.2.2.2.2.1] w3446) := ⟨by rw [hst]; exact HS.out.setAll (l1 := [b8 g3390 g3392 a3400 a3401 a3402 a3403, b7 g3392 A3395 l3394.length n3397 t3426.2.2.2.2.2.2.2.2, r6 A3395 l3394.length n3397 l3394]) (l2 := []) [.int .i64 t3426.1, .int .i64 t3426.2.1, .int .i64 t3426.2.2.1, .int .i64 t3426.2.2.2.1, .int .i64 t3426.2.2.2.2.1, .int .i64 t3426.2.2.2.2.2.1, .int .i64 t3426.2.2.2.2.2.2.1] rfl⟩; clear hst; replace HS : Aside0 (Sep FF w [b8 g3390 g3392 a3400 a3401 a3402 a3403, b7 g3392 A3395 l3394.length n3397 t3426.2.2.2.2.2.2.2.2, r6 A3395 l3394.length n3397 l3394] w3446) := ⟨HS.out.sub (.cons_cons _ (.cons_cons _ (.cons_cons _ (.cons _ .slnil))))⟩))
  go_ret
  rw [← some_eq H]
  exact ⟨(by first | rfl | (simp [IntKind.wrap_u32]; done)), HS.out⟩

set_option maxHeartbeats 30000000 in
set_option maxRecDepth 100000 in
theorem quitrentlaw09_do.calls (k : Nat) (l2860 : List Int) (a2865 : Int) (a2866 : Int) (a2867 : Int) (a2868 : Int) (a2869 : Int) (l2870 : List Int) (l2874 : List Int) (a2878 : Int) (a2879 : Int) (g2856 : Nat) (g2858 : Nat) (A2861 : Option Addr) (m2862 : Nat) (n2863 : Nat) (A2871 : Option Addr) (n2872 : Nat) (A2875 : Option Addr) (n2876 : Nat) (r : (Bool × Int × List Int) ⊕ (Bool × Int × List Int × List Int)) (w : World) (HR2873 : Aside0 (Rd (Kd.int .u8) (fps [b8 g2856 g2858 a2866 a2867 a2868 a2869, b7 g2858 A2861 m2862 n2863 a2865, r6 A2861 m2862 n2863 l2860]) w A2871 l2870.length l2870)) (HR2877 : Aside0 (Rd (Kd.int .i64) (fps [b8 g2856 g2858 a2866 a2867 a2868 a2869, b7 g2858 A2861 m2862 n2863 a2865, r6 A2861 m2862 n2863 l2860]) w A2875 l2874.length l2874)) (HGl0 : Aside0 (Gl 0 #[.int .i64 0, .int .i64 0, .int .i64 0, .int .i64 0, .int .i64 0] (fps [b8 g2856 g2858 a2866 a2867 a2868 a2869, b7 g2858 A2861 m2862 n2863 a2865, r6 A2861 m2862 n2863 l2860]) w)) (HS : Aside0 (Sep (fps [b8 g2856 g2858 a2866 a2867 a2868 a2869, b7 g2858 A2861 m2862 n2863 a2865, r6 A2861 m2862 n2863 l2860]) w [b8 g2856 g2858 a2866 a2867 a2868 a2869, b7 g2858 A2861 m2862 n2863 a2865, r6 A2861 m2862 n2863 l2860] w)) (H : Aside0 (quitrentlaw09_do.f k l2860 a2865 a2866 a2867 a2868 a2869 l2870 l2874 a2878 a2879 = some r)) :
    Calls Tryd.prog 29 #[.pointer (some ⟨g2856, 0, none⟩), .slice A2871 l2870.length n2872, .slice A2875 l2874.length n2876, .agg #[.int .u8 a2878, .int .i64 a2879]] w fun e w' => Sum.elim (fun (r : Bool × Int × List Int) => e = .returned (.tuple #[.slice A2875 l2874.length n2876, .bool r.1]) ∧ Sep (fps [b8 g2856 g2858 a2866 a2867 a2868 a2869, b7 g2858 A2861 m2862 n2863 a2865, r6 A2861 m2862 n2863 l2860]) w [b8 g2856 g2858 a2866 a2867 a2868 a2869, b7 g2858 A2861 m2862 n2863 r.2.1, r6 A2861 m2862 n2863 r.2.2] w') (fun (r : Bool × Int × List Int × List Int) => ∃ (A3459 : Option Addr) (m3460 : Nat) (n3461 : Nat), e = .returned (.tuple #[.slice A3459 m3460 n3461, .bool r.1]) ∧ Sep (fps [b8 g2856 g2858 a2866 a2867 a2868 a2869, b7 g2858 A2861 m2862 n2863 a2865, r6 A2861 m2862 n2863 l2860]) w [b8 g2856 g2858 a2866 a2867 a2868 a2869, b7 g2858 A2861 m2862 n2863 r.2.1, r6 A2861 m2862 n2863 r.2.2.1, r14 A3459 m3460 n3461 r.2.2.2] w') r := by
  generalize (fps [b8 g2856 g2858 a2866 a2867 a2868 a2869, b7 g2858 A2861 m2862 n2863 a2865, r6 A2861 m2862 n2863 l2860]) = FF at HS HR2873 HR2877 HGl0 ⊢
  obtain rfl := (row_len (HS.out.at2)).symm
  unfold quitrentlaw09_do.f at H
  go_enter Tryd.func29, Tryd.ntmps29
  go_wp2_with (first | ((with_reducible refine gate_dst (N := 7) rfl ?_); refine box_on ?hg (N := 7) ?hd (cs := #[.int .u8 a2878, .int .i64 a2879]) (t := 54) ?hr ?_; (case hd => rfl); (case hg => rfl); (case hr => first | (go_simp; done) | (go_simp; rfl)); intro g3093 hg w3094 hbox hb; replace HS : Aside0 (Sep FF w [b8 g2856 g2858 a2866 a2867 a2868 a2869, b7 g2858 A2861 l2860.length n2863 a2865, r6 A2861 l2860.length n2863 l2860, b17 g3093 a2878 a2879] w3094) := ⟨HS.out.box hg hbox hb⟩; clear hg hbox hb; have hc3096 : w3094.cell? ⟨g3093, 1, none⟩ = some (.int .i64 a2879) := blk_cellv (HS.out.at3) 1 rfl))
  clear hc3096
  obtain ⟨t3097, HA3098, H⟩ := bind_some H
  refine (quitrentref08_Has.calls _ l2874 a2879 A2875 n2876 t3097 _ ⟨Rd.pass (l := []) (by decide) (fun _ _ _ _ h => h) HR2877.out HS.out⟩ ⟨HGl0.out.pass (l := []) HS.out⟩ ⟨Sep.start _⟩ HA3098).mono ?_
  rintro e_ w3099 ⟨rfl, hS⟩
  replace HS : Aside0 (Sep FF w [b8 g2856 g2858 a2866 a2867 a2868 a2869, b7 g2858 A2861 l2860.length n2863 a2865, r6 A2861 l2860.length n2863 l2860, b17 g3093 a2878 a2879] w3099) := ⟨HS.out.call hS⟩
  clear hS
  go_wp2_with fail
  obtain ⟨t3100, HA3101, H⟩ := bind_some H
  refine (ground_Ground_Meter.calls l2860 a2865 a2866 a2867 a2868 a2869 g2856 g2858 A2861 l2860.length n2863 t3100 _ ⟨HGl0.out.pass HS.out⟩ ⟨HS.out.begin⟩ HA3101).mono ?_
  rintro e_ w3102 ⟨rfl, hS⟩
  replace HS : Aside0 (Sep FF w [b8 g2856 g2858 a2866 a2867 a2868 a2869, b7 g2858 A2861 l2860.length n2863 a2865, r6 A2861 l2860.length n2863 l2860, b17 g3093 a2878 a2879] w3102) := ⟨HS.out.call hS⟩
  clear hS
  by_cases c3104 : a2878 = 0
  · replace H := if_yes c3104 H
    have c3104b0 : (a2878 == 0) = true := beq_iff_eq.mpr c3104
    have c3104b1 : (a2878 != 0) = false := bne_eq_false_iff_eq.mpr c3104
    clear c3104
    have hc3103 : w3102.cell? ⟨g3093, 0, none⟩ = some (.int .u8 a2878) := blk_cellv (HS.out.at3) 0 rfl
    have hc3105 : w3102.cell? ⟨g3093, 1, none⟩ = some (.int .i64 a2879) := blk_cellv (HS.out.at3) 1 rfl
    go_wp2_with fail
    clear hc3103 hc3105
    obtain ⟨t3106, HA3107, H⟩ := bind_some H
    refine (quitrentlaw09_head.calls l2870 a2879 A2871 n2872 t3106 _ ⟨Rd.pass (l := []) (by decide) (fun _ _ _ _ h => h) HR2873.out HS.out⟩ ⟨HGl0.out.pass (l := []) HS.out⟩ ⟨Sep.start _⟩ HA3107).mono ?_
    rintro e_ w3108 ⟨rfl, hS⟩
    replace HS : Aside0 (Sep FF w [b8 g2856 g2858 a2866 a2867 a2868 a2869, b7 g2858 A2861 l2860.length n2863 a2865, r6 A2861 l2860.length n2863 l2860, b17 g3093 a2878 a2879] w3108) := ⟨HS.out.call hS⟩
    clear hS
    by_cases c3109 : t3106 = true
    · replace H := if_yes c3109 H
      have c3109b0 : t3106 = true := c3109
      have c3109b1 : (!t3106) = false := by rw [c3109b0]; rfl
      clear c3109
      have hc3110 : w3108.cell? ⟨g3093, 1, none⟩ = some (.int .i64 a2879) := blk_cellv (HS.out.at3) 1 rfl
      go_wp2_with fail
      clear hc3110
      obtain ⟨t3111, HA3112, H⟩ := bind_some H
      refine (ring_Add.calls _ l2860 a2865 a2866 a2867 a2868 a2869 a2879 g2856 g2858 A2861 l2860.length n2863 t3111 _ ⟨HGl0.out.pass HS.out⟩ ⟨HS.out.begin⟩ HA3112).mono ?_
      rintro e_ w3113 ⟨rfl, hS⟩
      replace HS : Aside0 (Sep FF w [b8 g2856 g2858 a2866 a2867 a2868 a2869, b7 g2858 A2861 l2860.length n2863 t3111.2.1, r6 A2861 l2860.length n2863 t3111.2.2, b17 g3093 a2878 a2879] w3113) := ⟨HS.out.call hS⟩
      clear hS
      by_cases c3114 : t3111.1 = true
      · replace H := if_yes c3114 H
        have c3114b0 : t3111.1 = true := c3114
        have c3114b1 : (!t3111.1) = false := by rw [c3114b0]; rfl
        clear c3114
        by_cases c3115 : t3097 = true
        · replace H := if_yes c3115 H
          have c3115b0 : t3097 = true := c3115
          have c3115b1 : (!t3097) = false := by rw [c3115b0]; rfl
          try rw [c3115b1]
          clear c3115
          replace HS : Aside0 (Sep FF w [b8 g2856 g2858 a2866 a2867 a2868 a2869, b7 g2858 A2861 l2860.length n2863 t3111.2.1, r6 A2861 l2860.length n2863 t3111.2.2] w3113) := ⟨HS.out.sub (.cons_cons _ (.cons_cons _ (.cons_cons _ (.cons _ .slnil))))⟩
          go_wp2_with fail
          go_ret2
          rw [← some_eq H]
          exact ⟨(by first | rfl | (simp [IntKind.wrap_u32]; done)), HS.out⟩
        · replace H := if_no c3115 H
          have c3115b0 : t3097 = false := by simpa using c3115
          have c3115b1 : (!t3097) = true := by rw [c3115b0]; rfl
          try rw [c3115b1]
          clear c3115
          go_wp2_with fail
          obtain ⟨t3116, HA3117, H⟩ := bind_some H
          refine (ground_Ground_Meter.calls t3111.2.2 t3111.2.1 a2866 a2867 a2868 a2869 g2856 g2858 A2861 l2860.length n2863 t3116 _ ⟨HGl0.out.pass HS.out⟩ ⟨HS.out.begin⟩ HA3117).mono ?_
          rintro e_ w3118 ⟨rfl, hS⟩
          replace HS : Aside0 (Sep FF w [b8 g2856 g2858 a2866 a2867 a2868 a2869, b7 g2858 A2861 l2860.length n2863 t3111.2.1, r6 A2861 l2860.length n2863 t3111.2.2, b17 g3093 a2878 a2879] w3118) := ⟨HS.out.call hS⟩
          clear hS
          by_cases c3119 : (IntKind.u64.wrap (t3116 - t3100)) > 24
          · replace H := if_yes c3119 H
            have c3119b0 : decide (24 < (IntKind.u64.wrap (t3116 - t3100))) = true := decide_eq_true c3119
            clear c3119
            replace HS : Aside0 (Sep FF w [b8 g2856 g2858 a2866 a2867 a2868 a2869, b7 g2858 A2861 l2860.length n2863 t3111.2.1, r6 A2861 l2860.length n2863 t3111.2.2] w3118) := ⟨HS.out.sub (.cons_cons _ (.cons_cons _ (.cons_cons _ (.cons _ .slnil))))⟩
            go_wp2_with fail
            go_ret2
            rw [← some_eq H]
            exact ⟨(by first | rfl | (simp [IntKind.wrap_u32]; done)), HS.out⟩
          · replace H := if_no c3119 H
            have c3119b0 : decide (24 < (IntKind.u64.wrap (t3116 - t3100))) = false := decide_eq_false c3119
            clear c3119
            have hc3120 : w3118.cell? ⟨g3093, 1, none⟩ = some (.int .i64 a2879) := blk_cellv (HS.out.at3) 1 rfl
            go_wp2_with fail
            clear hc3120
            obtain ⟨t3121, HA3122, H⟩ := bind_some H
            refine (quitrentref08_Behind.calls _ l2874 a2879 A2875 n2876 t3121 _ ⟨Rd.pass (l := []) (by decide) (fun _ _ _ _ h => h) HR2877.out HS.out⟩ ⟨HGl0.out.pass (l := []) HS.out⟩ ⟨Sep.start _⟩ HA3122).mono ?_
            rintro e_ w3123 ⟨A3125, m3126, n3127, rfl, hS⟩
            replace HS : Aside0 (Sep FF w [r14 A3125 m3126 n3127 t3121, b8 g2856 g2858 a2866 a2867 a2868 a2869, b7 g2858 A2861 l2860.length n2863 t3111.2.1, r6 A2861 l2860.length n2863 t3111.2.2, b17 g3093 a2878 a2879] w3123) := ⟨HS.out.call hS⟩
            clear hS
            obtain rfl := (row_len (HS.out.at0)).symm
            replace HS : Aside0 (Sep FF w [r14 A3125 t3121.length n3127 t3121, b8 g2856 g2858 a2866 a2867 a2868 a2869, b7 g2858 A2861 l2860.length n2863 t3111.2.1, r6 A2861 l2860.length n2863 t3111.2.2] w3123) := ⟨HS.out.sub (.cons_cons _ (.cons_cons _ (.cons_cons _ (.cons_cons _ (.cons _ .slnil)))))⟩
            go_wp2_with fail
            go_ret2
            rw [← some_eq H]
            exact ⟨A3125, t3121.length, n3127, (by first | rfl | (simp [IntKind.wrap_u32]; done)), ((((HS.out).front 3 (by simp)).front 3 (by simp)).front 3 (by simp)).keep (l := [b8 g2856 g2858 a2866 a2867 a2868 a2869, b7 g2858 A2861 l2860.length n2863 t3111.2.1, r6 A2861 l2860.length n2863 t3111.2.2, r14 A3125 t3121.length n3127 t3121]) (rest := [])⟩
      · replace H := if_no c3114 H
        have c3114b0 : t3111.1 = false := by simpa using c3114
        have c3114b1 : (!t3111.1) = true := by rw [c3114b0]; rfl
        clear c3114
        by_cases c3134 : t3097 = true
        · replace H := if_yes c3134 H
          have c3134b0 : t3097 = true := c3134
          have c3134b1 : (!t3097) = false := by rw [c3134b0]; rfl
          try rw [c3134b1]
          clear c3134
          go_wp2_with fail
          obtain ⟨t3116, HA3135, H⟩ := bind_some H
          refine (ground_Ground_Meter.calls t3111.2.2 t3111.2.1 a2866 a2867 a2868 a2869 g2856 g2858 A2861 l2860.length n2863 t3116 _ ⟨HGl0.out.pass HS.out⟩ ⟨HS.out.begin⟩ HA3135).mono ?_
          rintro e_ w3136 ⟨rfl, hS⟩
          replace HS : Aside0 (Sep FF w [b8 g2856 g2858 a2866 a2867 a2868 a2869, b7 g2858 A2861 l2860.length n2863 t3111.2.1, r6 A2861 l2860.length n2863 t3111.2.2, b17 g3093 a2878 a2879] w3136) := ⟨HS.out.call hS⟩
          clear hS
          by_cases c3137 : (IntKind.u64.wrap (t3116 - t3100)) > 24
          · replace H := if_yes c3137 H
            have c3137b0 : decide (24 < (IntKind.u64.wrap (t3116 - t3100))) = true := decide_eq_true c3137
            clear c3137
            replace HS : Aside0 (Sep FF w [b8 g2856 g2858 a2866 a2867 a2868 a2869, b7 g2858 A2861 l2860.length n2863 t3111.2.1, r6 A2861 l2860.length n2863 t3111.2.2] w3136) := ⟨HS.out.sub (.cons_cons _ (.cons_cons _ (.cons_cons _ (.cons _ .slnil))))⟩
            go_wp2_with fail
            go_ret2
            rw [← some_eq H]
            exact ⟨(by first | rfl | (simp [IntKind.wrap_u32]; done)), HS.out⟩
          · replace H := if_no c3137 H
            have c3137b0 : decide (24 < (IntKind.u64.wrap (t3116 - t3100))) = false := decide_eq_false c3137
            clear c3137
            replace HS : Aside0 (Sep FF w [b8 g2856 g2858 a2866 a2867 a2868 a2869, b7 g2858 A2861 l2860.length n2863 t3111.2.1, r6 A2861 l2860.length n2863 t3111.2.2] w3136) := ⟨HS.out.sub (.cons_cons _ (.cons_cons _ (.cons_cons _ (.cons _ .slnil))))⟩
            go_wp2_with fail
            go_ret2
            rw [← some_eq H]
            exact ⟨(by first | rfl | (simp [IntKind.wrap_u32]; done)), HS.out⟩
        · replace H := if_no c3134 H
          have c3134b0 : t3097 = false := by simpa using c3134
          have c3134b1 : (!t3097) = true := by rw [c3134b0]; rfl
          try rw [c3134b1]
          clear c3134
          replace HS : Aside0 (Sep FF w [b8 g2856 g2858 a2866 a2867 a2868 a2869, b7 g2858 A2861 l2860.length n2863 t3111.2.1, r6 A2861 l2860.length n2863 t3111.2.2] w3113) := ⟨HS.out.sub (.cons_cons _ (.cons_cons _ (.cons_cons _ (.cons _ .slnil))))⟩
          go_wp2_with fail
          go_ret2
          rw [← some_eq H]
          exact ⟨(by first | rfl | (simp [IntKind.wrap_u32]; done)), HS.out⟩
    · replace H := if_no c3109 H
      have c3109b0 : t3106 = false := by simpa using c3109
      have c3109b1 : (!t3106) = true := by rw [c3109b0]; rfl
      clear c3109
      have hc3138 : w3108.cell? ⟨g3093, 1, none⟩ = some (.int .i64 a2879) := blk_cellv (HS.out.at3) 1 rfl
      go_wp2_with fail
      clear hc3138
      obtain ⟨t3111, HA3139, H⟩ := bind_some H
      refine (ring_Add.calls _ l2860 a2865 a2866 a2867 a2868 a2869 a2879 g2856 g2858 A2861 l2860.length n2863 t3111 _ ⟨HGl0.out.pass HS.out⟩ ⟨HS.out.begin⟩ HA3139).mono ?_
      rintro e_ w3140 ⟨rfl, hS⟩
      replace HS : Aside0 (Sep FF w [b8 g2856 g2858 a2866 a2867 a2868 a2869, b7 g2858 A2861 l2860.length n2863 t3111.2.1, r6 A2861 l2860.length n2863 t3111.2.2, b17 g3093 a2878 a2879] w3140) := ⟨HS.out.call hS⟩
      clear hS
      by_cases c3141 : t3111.1 = true
      · replace H := if_yes c3141 H
        have c3141b0 : t3111.1 = true := c3141
        have c3141b1 : (!t3111.1) = false := by rw [c3141b0]; rfl
        clear c3141
        replace HS : Aside0 (Sep FF w [b8 g2856 g2858 a2866 a2867 a2868 a2869, b7 g2858 A2861 l2860.length n2863 t3111.2.1, r6 A2861 l2860.length n2863 t3111.2.2] w3140) := ⟨HS.out.sub (.cons_cons _ (.cons_cons _ (.cons_cons _ (.cons _ .slnil))))⟩
        go_wp2_with fail
        go_ret2
        rw [← some_eq H]
        exact ⟨(by first | rfl | (simp [IntKind.wrap_u32]; done)), HS.out⟩
      · replace H := if_no c3141 H
        have c3141b0 : t3111.1 = false := by simpa using c3141
        have c3141b1 : (!t3111.1) = true := by rw [c3141b0]; rfl
        clear c3141
        go_wp2_with fail
        obtain ⟨t3116, HA3142, H⟩ := bind_some H
        refine (ground_Ground_Meter.calls t3111.2.2 t3111.2.1 a2866 a2867 a2868 a2869 g2856 g2858 A2861 l2860.length n2863 t3116 _ ⟨HGl0.out.pass HS.out⟩ ⟨HS.out.begin⟩ HA3142).mono ?_
        rintro e_ w3143 ⟨rfl, hS⟩
        replace HS : Aside0 (Sep FF w [b8 g2856 g2858 a2866 a2867 a2868 a2869, b7 g2858 A2861 l2860.length n2863 t3111.2.1, r6 A2861 l2860.length n2863 t3111.2.2, b17 g3093 a2878 a2879] w3143) := ⟨HS.out.call hS⟩
        clear hS
        by_cases c3144 : (IntKind.u64.wrap (t3116 - t3100)) > 24
        · replace H := if_yes c3144 H
          have c3144b0 : decide (24 < (IntKind.u64.wrap (t3116 - t3100))) = true := decide_eq_true c3144
          clear c3144
          replace HS : Aside0 (Sep FF w [b8 g2856 g2858 a2866 a2867 a2868 a2869, b7 g2858 A2861 l2860.length n2863 t3111.2.1, r6 A2861 l2860.length n2863 t3111.2.2] w3143) := ⟨HS.out.sub (.cons_cons _ (.cons_cons _ (.cons_cons _ (.cons _ .slnil))))⟩
          go_wp2_with fail
          go_ret2
          rw [← some_eq H]
          exact ⟨(by first | rfl | (simp [IntKind.wrap_u32]; done)), HS.out⟩
        · replace H := if_no c3144 H
          have c3144b0 : decide (24 < (IntKind.u64.wrap (t3116 - t3100))) = false := decide_eq_false c3144
          clear c3144
          replace HS : Aside0 (Sep FF w [b8 g2856 g2858 a2866 a2867 a2868 a2869, b7 g2858 A2861 l2860.length n2863 t3111.2.1, r6 A2861 l2860.length n2863 t3111.2.2] w3143) := ⟨HS.out.sub (.cons_cons _ (.cons_cons _ (.cons_cons _ (.cons _ .slnil))))⟩
          go_wp2_with fail
          go_ret2
          rw [← some_eq H]
          exact ⟨(by first | rfl | (simp [IntKind.wrap_u32]; done)), HS.out⟩
  · replace H := if_no c3104 H
    have c3104b0 : (a2878 == 0) = false := beq_eq_false_iff_ne.mpr c3104
    have c3104b1 : (a2878 != 0) = true := bne_iff_ne.mpr c3104
    clear c3104
    by_cases c3145 : a2878 = 1
    · replace H := if_yes c3145 H
      have c3145b0 : (a2878 == 1) = true := beq_iff_eq.mpr c3145
      have c3145b1 : (a2878 != 1) = false := bne_eq_false_iff_eq.mpr c3145
      clear c3145
      have hc3103 : w3102.cell? ⟨g3093, 0, none⟩ = some (.int .u8 a2878) := blk_cellv (HS.out.at3) 0 rfl
      have hc3146 : w3102.cell? ⟨g3093, 1, none⟩ = some (.int .i64 a2879) := blk_cellv (HS.out.at3) 1 rfl
      go_wp2_with fail
      clear hc3103 hc3146
      obtain ⟨t3147, HA3148, H⟩ := bind_some H
      refine (ring_Cut.calls _ l2860 a2865 a2866 a2867 a2868 a2869 a2879 g2856 g2858 A2861 l2860.length n2863 t3147 _ ⟨HGl0.out.pass HS.out⟩ ⟨HS.out.begin⟩ HA3148).mono ?_
      rintro e_ w3149 ⟨rfl, hS⟩
      replace HS : Aside0 (Sep FF w [b8 g2856 g2858 a2866 a2867 a2868 a2869, b7 g2858 A2861 l2860.length n2863 t3147.2.1, r6 A2861 l2860.length n2863 t3147.2.2, b17 g3093 a2878 a2879] w3149) := ⟨HS.out.call hS⟩
      clear hS
      by_cases c3150 : t3147.1 = true
      · replace H := if_yes c3150 H
        have c3150b0 : t3147.1 = true := c3150
        have c3150b1 : (!t3147.1) = false := by rw [c3150b0]; rfl
        clear c3150
        by_cases c3151 : t3097 = true
        · replace H := if_yes c3151 H
          have c3151b0 : t3097 = true := c3151
          have c3151b1 : (!t3097) = false := by rw [c3151b0]; rfl
          clear c3151
          go_wp2_with fail
          obtain ⟨t3152, HA3153, H⟩ := bind_some H
          refine (ground_Ground_Meter.calls t3147.2.2 t3147.2.1 a2866 a2867 a2868 a2869 g2856 g2858 A2861 l2860.length n2863 t3152 _ ⟨HGl0.out.pass HS.out⟩ ⟨HS.out.begin⟩ HA3153).mono ?_
          rintro e_ w3154 ⟨rfl, hS⟩
          replace HS : Aside0 (Sep FF w [b8 g2856 g2858 a2866 a2867 a2868 a2869, b7 g2858 A2861 l2860.length n2863 t3147.2.1, r6 A2861 l2860.length n2863 t3147.2.2, b17 g3093 a2878 a2879] w3154) := ⟨HS.out.call hS⟩
          clear hS
          by_cases c3155 : (IntKind.u64.wrap (t3152 - t3100)) > 24
          · replace H := if_yes c3155 H
            have c3155b0 : decide (24 < (IntKind.u64.wrap (t3152 - t3100))) = true := decide_eq_true c3155
            clear c3155
            replace HS : Aside0 (Sep FF w [b8 g2856 g2858 a2866 a2867 a2868 a2869, b7 g2858 A2861 l2860.length n2863 t3147.2.1, r6 A2861 l2860.length n2863 t3147.2.2] w3154) := ⟨HS.out.sub (.cons_cons _ (.cons_cons _ (.cons_cons _ (.cons _ .slnil))))⟩
            go_wp2_with fail
            go_ret2
            rw [← some_eq H]
            exact ⟨(by first | rfl | (simp [IntKind.wrap_u32]; done)), HS.out⟩
          · replace H := if_no c3155 H
            have c3155b0 : decide (24 < (IntKind.u64.wrap (t3152 - t3100))) = false := decide_eq_false c3155
            clear c3155
            have hc3156 : w3154.cell? ⟨g3093, 1, none⟩ = some (.int .i64 a2879) := blk_cellv (HS.out.at3) 1 rfl
            go_wp2_with fail
            clear hc3156
            obtain ⟨t3210, HA3211, H⟩ := bind_some H
            refine (quitrentref09_Without.calls _ l2874 a2879 A2875 n2876 t3210 _ ⟨Rd.pass (l := []) (by decide) (fun _ _ _ _ h => h) HR2877.out HS.out⟩ ⟨HGl0.out.pass (l := []) HS.out⟩ ⟨Sep.start _⟩ HA3211).mono ?_
            rintro e_ w3212 ⟨A3214, m3215, n3216, rfl, hS⟩
            replace HS : Aside0 (Sep FF w [r14 A3214 m3215 n3216 t3210, b8 g2856 g2858 a2866 a2867 a2868 a2869, b7 g2858 A2861 l2860.length n2863 t3147.2.1, r6 A2861 l2860.length n2863 t3147.2.2, b17 g3093 a2878 a2879] w3212) := ⟨HS.out.call hS⟩
            clear hS
            obtain rfl := (row_len (HS.out.at0)).symm
            replace HS : Aside0 (Sep FF w [r14 A3214 t3210.length n3216 t3210, b8 g2856 g2858 a2866 a2867 a2868 a2869, b7 g2858 A2861 l2860.length n2863 t3147.2.1, r6 A2861 l2860.length n2863 t3147.2.2] w3212) := ⟨HS.out.sub (.cons_cons _ (.cons_cons _ (.cons_cons _ (.cons_cons _ (.cons _ .slnil)))))⟩
            go_wp2_with fail
            go_ret2
            rw [← some_eq H]
            exact ⟨A3214, t3210.length, n3216, (by first | rfl | (simp [IntKind.wrap_u32]; done)), ((((HS.out).front 3 (by simp)).front 3 (by simp)).front 3 (by simp)).keep (l := [b8 g2856 g2858 a2866 a2867 a2868 a2869, b7 g2858 A2861 l2860.length n2863 t3147.2.1, r6 A2861 l2860.length n2863 t3147.2.2, r14 A3214 t3210.length n3216 t3210]) (rest := [])⟩
        · replace H := if_no c3151 H
          have c3151b0 : t3097 = false := by simpa using c3151
          have c3151b1 : (!t3097) = true := by rw [c3151b0]; rfl
          clear c3151
          replace HS : Aside0 (Sep FF w [b8 g2856 g2858 a2866 a2867 a2868 a2869, b7 g2858 A2861 l2860.length n2863 t3147.2.1, r6 A2861 l2860.length n2863 t3147.2.2] w3149) := ⟨HS.out.sub (.cons_cons _ (.cons_cons _ (.cons_cons _ (.cons _ .slnil))))⟩
          go_wp2_with fail
          go_ret2
          rw [← some_eq H]
          exact ⟨(by first | rfl | (simp [IntKind.wrap_u32]; done)), HS.out⟩
      · replace H := if_no c3150 H
        have c3150b0 : t3147.1 = false := by simpa using c3150
        have c3150b1 : (!t3147.1) = true := by rw [c3150b0]; rfl
        clear c3150
        by_cases c3223 : t3097 = true
        · replace H := if_yes c3223 H
          have c3223b0 : t3097 = true := c3223
          have c3223b1 : (!t3097) = false := by rw [c3223b0]; rfl
          clear c3223
          replace HS : Aside0 (Sep FF w [b8 g2856 g2858 a2866 a2867 a2868 a2869, b7 g2858 A2861 l2860.length n2863 t3147.2.1, r6 A2861 l2860.length n2863 t3147.2.2] w3149) := ⟨HS.out.sub (.cons_cons _ (.cons_cons _ (.cons_cons _ (.cons _ .slnil))))⟩
          go_wp2_with fail
          go_ret2
          rw [← some_eq H]
          exact ⟨(by first | rfl | (simp [IntKind.wrap_u32]; done)), HS.out⟩
        · replace H := if_no c3223 H
          have c3223b0 : t3097 = false := by simpa using c3223
          have c3223b1 : (!t3097) = true := by rw [c3223b0]; rfl
          clear c3223
          go_wp2_with fail
          obtain ⟨t3152, HA3224, H⟩ := bind_some H
          refine (ground_Ground_Meter.calls t3147.2.2 t3147.2.1 a2866 a2867 a2868 a2869 g2856 g2858 A2861 l2860.length n2863 t3152 _ ⟨HGl0.out.pass HS.out⟩ ⟨HS.out.begin⟩ HA3224).mono ?_
          rintro e_ w3225 ⟨rfl, hS⟩
          replace HS : Aside0 (Sep FF w [b8 g2856 g2858 a2866 a2867 a2868 a2869, b7 g2858 A2861 l2860.length n2863 t3147.2.1, r6 A2861 l2860.length n2863 t3147.2.2, b17 g3093 a2878 a2879] w3225) := ⟨HS.out.call hS⟩
          clear hS
          by_cases c3226 : (IntKind.u64.wrap (t3152 - t3100)) > 24
          · replace H := if_yes c3226 H
            have c3226b0 : decide (24 < (IntKind.u64.wrap (t3152 - t3100))) = true := decide_eq_true c3226
            clear c3226
            replace HS : Aside0 (Sep FF w [b8 g2856 g2858 a2866 a2867 a2868 a2869, b7 g2858 A2861 l2860.length n2863 t3147.2.1, r6 A2861 l2860.length n2863 t3147.2.2] w3225) := ⟨HS.out.sub (.cons_cons _ (.cons_cons _ (.cons_cons _ (.cons _ .slnil))))⟩
            go_wp2_with fail
            go_ret2
            rw [← some_eq H]
            exact ⟨(by first | rfl | (simp [IntKind.wrap_u32]; done)), HS.out⟩
          · replace H := if_no c3226 H
            have c3226b0 : decide (24 < (IntKind.u64.wrap (t3152 - t3100))) = false := decide_eq_false c3226
            clear c3226
            have hc3227 : w3225.cell? ⟨g3093, 1, none⟩ = some (.int .i64 a2879) := blk_cellv (HS.out.at3) 1 rfl
            go_wp2_with fail
            clear hc3227
            obtain ⟨t3210, HA3228, H⟩ := bind_some H
            refine (quitrentref09_Without.calls _ l2874 a2879 A2875 n2876 t3210 _ ⟨Rd.pass (l := []) (by decide) (fun _ _ _ _ h => h) HR2877.out HS.out⟩ ⟨HGl0.out.pass (l := []) HS.out⟩ ⟨Sep.start _⟩ HA3228).mono ?_
            rintro e_ w3229 ⟨A3231, m3232, n3233, rfl, hS⟩
            replace HS : Aside0 (Sep FF w [r14 A3231 m3232 n3233 t3210, b8 g2856 g2858 a2866 a2867 a2868 a2869, b7 g2858 A2861 l2860.length n2863 t3147.2.1, r6 A2861 l2860.length n2863 t3147.2.2, b17 g3093 a2878 a2879] w3229) := ⟨HS.out.call hS⟩
            clear hS
            obtain rfl := (row_len (HS.out.at0)).symm
            replace HS : Aside0 (Sep FF w [r14 A3231 t3210.length n3233 t3210, b8 g2856 g2858 a2866 a2867 a2868 a2869, b7 g2858 A2861 l2860.length n2863 t3147.2.1, r6 A2861 l2860.length n2863 t3147.2.2] w3229) := ⟨HS.out.sub (.cons_cons _ (.cons_cons _ (.cons_cons _ (.cons_cons _ (.cons _ .slnil)))))⟩
            go_wp2_with fail
            go_ret2
            rw [← some_eq H]
            exact ⟨A3231, t3210.length, n3233, (by first | rfl | (simp [IntKind.wrap_u32]; done)), ((((HS.out).front 3 (by simp)).front 3 (by simp)).front 3 (by simp)).keep (l := [b8 g2856 g2858 a2866 a2867 a2868 a2869, b7 g2858 A2861 l2860.length n2863 t3147.2.1, r6 A2861 l2860.length n2863 t3147.2.2, r14 A3231 t3210.length n3233 t3210]) (rest := [])⟩
    · replace H := if_no c3145 H
      have c3145b0 : (a2878 == 1) = false := beq_eq_false_iff_ne.mpr c3145
      have c3145b1 : (a2878 != 1) = true := bne_iff_ne.mpr c3145
      clear c3145
      by_cases c3240 : a2878 = 2
      · replace H := if_yes c3240 H
        have c3240b0 : (a2878 == 2) = true := beq_iff_eq.mpr c3240
        have c3240b1 : (a2878 != 2) = false := bne_eq_false_iff_eq.mpr c3240
        clear c3240
        have hc3103 : w3102.cell? ⟨g3093, 0, none⟩ = some (.int .u8 a2878) := blk_cellv (HS.out.at3) 0 rfl
        go_wp2_with fail
        clear hc3103
        obtain ⟨t3276, HA3277, H⟩ := bind_some H
        refine (ring_Take.calls _ l2860 a2865 a2866 a2867 a2868 a2869 g2856 g2858 A2861 l2860.length n2863 t3276 _ ⟨HGl0.out.pass HS.out⟩ ⟨HS.out.begin⟩ HA3277).mono ?_
        rintro e_ w3278 ⟨rfl, hS⟩
        replace HS : Aside0 (Sep FF w [b8 g2856 g2858 a2866 a2867 a2868 a2869, b7 g2858 A2861 l2860.length n2863 t3276.2.2.1, r6 A2861 l2860.length n2863 t3276.2.2.2, b17 g3093 a2878 a2879] w3278) := ⟨HS.out.call hS⟩
        clear hS
        by_cases c3279 : (l2874.length : Int) = 0
        · replace H := if_yes c3279 H
          have c3279b0 : ((l2874.length : Int) == 0) = true := beq_iff_eq.mpr c3279
          have c3279b1 : ((l2874.length : Int) != 0) = false := bne_eq_false_iff_eq.mpr c3279
          clear c3279
          by_cases c3280 : t3276.1 = 0
          · replace H := if_yes c3280 H
            have c3280b0 : (t3276.1 == 0) = true := beq_iff_eq.mpr c3280
            have c3280b1 : (t3276.1 != 0) = false := bne_eq_false_iff_eq.mpr c3280
            clear c3280
            replace HS : Aside0 (Sep FF w [b8 g2856 g2858 a2866 a2867 a2868 a2869, b7 g2858 A2861 l2860.length n2863 t3276.2.2.1, r6 A2861 l2860.length n2863 t3276.2.2.2] w3278) := ⟨HS.out.sub (.cons_cons _ (.cons_cons _ (.cons_cons _ (.cons _ .slnil))))⟩
            go_wp2_with fail
            go_ret2
            rw [← some_eq H]
            exact ⟨(by first | rfl | (simp [IntKind.wrap_u32]; done)), HS.out⟩
          · replace H := if_no c3280 H
            have c3280b0 : (t3276.1 == 0) = false := beq_eq_false_iff_ne.mpr c3280
            have c3280b1 : (t3276.1 != 0) = true := bne_iff_ne.mpr c3280
            clear c3280
            replace HS : Aside0 (Sep FF w [b8 g2856 g2858 a2866 a2867 a2868 a2869, b7 g2858 A2861 l2860.length n2863 t3276.2.2.1, r6 A2861 l2860.length n2863 t3276.2.2.2] w3278) := ⟨HS.out.sub (.cons_cons _ (.cons_cons _ (.cons_cons _ (.cons _ .slnil))))⟩
            go_wp2_with fail
            go_ret2
            rw [← some_eq H]
            exact ⟨(by first | rfl | (simp [IntKind.wrap_u32]; done)), HS.out⟩
        · replace H := if_no c3279 H
          have c3279b0 : ((l2874.length : Int) == 0) = false := beq_eq_false_iff_ne.mpr c3279
          have c3279b1 : ((l2874.length : Int) != 0) = true := bne_iff_ne.mpr c3279
          clear c3279
          replace HS : Aside0 (Sep FF w [b8 g2856 g2858 a2866 a2867 a2868 a2869, b7 g2858 A2861 l2860.length n2863 t3276.2.2.1, r6 A2861 l2860.length n2863 t3276.2.2.2] w3278) := ⟨HS.out.sub (.cons_cons _ (.cons_cons _ (.cons_cons _ (.cons _ .slnil))))⟩
          go_wp2_with fail
          refine start_ (n := 19) (S := (fun w' => Kd.C (Kd.int .i64) w' A2875 l2874.length l2874)) (ds := []) #[false, false, false, false, false, false, false, false, false, false, false, false, false, false, false, false, false, false, false] (by kernel_rfl) rfl rfl (Rd.read (fun _ _ _ _ h => h) HR2877.out (HS.out.drew).fr) (fun hHeld => ?_)
          have HS_ := Aside0.mk HS.out.drew
          clear HS
          generalize World.drew _ = w3282 at HS_ hHeld ⊢
          have HS := HS_
          clear HS_
          refine pure_ (i := 0) (N := some 90) (v := ?_) (a' := ?_) #[true, false, false, false, false, false, false, false, false, false, false, false, false, false, false, false, false, false, false] rfl rfl (by kernel_rfl) (fun _ _ _ h => h) (Or.inl ⟨by rfl, ?_⟩) ?_ ?_
          rotate_left
          · intro w'
            go_simp
            with_reducible rfl
          rotate_left
          · simp only [Act.put, List.setIfInBounds_toArray, List.set_cons_zero, List.set_cons_succ, i64_w, i32_w]
            rfl
          refine pure_ (i := 2) (N := some 92) (v := ?_) (a' := ?_) #[true, false, true, false, false, false, false, false, false, false, false, false, false, false, false, false, false, false, false] rfl rfl (by kernel_rfl) (fun _ _ _ h => h) (Or.inl ⟨by rfl, ?_⟩) ?_ ?_
          rotate_left
          · intro w'
            go_simp
            with_reducible rfl
          rotate_left
          · simp only [Act.put, List.setIfInBounds_toArray, List.set_cons_zero, List.set_cons_succ, i64_w, i32_w]
            rfl
          refine pure_ (i := 3) (N := some 93) (v := ?_) (a' := ?_) #[true, false, true, true, false, false, false, false, false, false, false, false, false, false, false, false, false, false, false] rfl rfl (by kernel_rfl) (fun _ _ _ h => h) (Or.inl ⟨by rfl, ?_⟩) ?_ ?_
          rotate_left
          · intro w'
            go_simp
            with_reducible rfl
          rotate_left
          · simp only [Act.put, List.setIfInBounds_toArray, List.set_cons_zero, List.set_cons_succ, i64_w, i32_w]
            rfl
          by_cases c3283 : 0 < (l2874.length : Int)
          · replace H := if_yes c3283 H
            have c3283b0 : decide (0 < (l2874.length : Int)) = true := decide_eq_true c3283
            have c3283b1 : decide (0 < l2874.length) = true := decide_eq_true (by omega)
            have c3283p : (0 < (l2874.length : Int)) = True := eq_true c3283
            have c3283n : (0 < l2874.length) = True := eq_true (by omega)
            clear c3283
            obtain ⟨ad3284, ea, _⟩ := Kd.at_int (Rd.read (fun _ _ _ _ h => h) HR2877.out HS.out.fr) 0 (by decide) (of_decide_eq_true c3283b0)
            cases ea
            refine pure_ (i := 4) (N := some 94) (v := ?_) (a' := ?_) #[true, false, true, true, true, false, false, false, false, false, false, false, false, false, false, false, false, false, false] rfl rfl (by kernel_rfl) (fun _ _ _ h => h) (Or.inl ⟨by rfl, ?_⟩) ?_ ?_
            rotate_left
            · intro w'
              go_simp
              with_reducible rfl
            rotate_left
            · simp only [Act.put, List.setIfInBounds_toArray, List.set_cons_zero, List.set_cons_succ, i64_w, i32_w]
              rfl
            refine take_ (i := 5) (N := some 95) (v := ?_) (a' := ?_) #[true, false, true, true, true, true, false, false, false, false, false, false, false, false, false, false, false, false, false] rfl rfl (by kernel_rfl) (fun _ _ _ h => h) (Or.inl ⟨by rfl, ?_⟩) hHeld ?_ ?_
            rotate_left
            · rintro w' hS'
              have s0 := hS'
              have hx := C_at_int s0 0 (by decide) (of_decide_eq_true c3283b0)
              have hx0 : w'.cell? ad3284 = some (.int .i64 (rd l2874 0)) := hx
              go_simp
              with_reducible rfl
            rotate_left
            · simp only [Act.put, List.setIfInBounds_toArray, List.set_cons_zero, List.set_cons_succ, i64_w, i32_w]
              rfl
            refine pure_ (i := 6) (N := some 96) (v := ?_) (a' := ?_) #[true, false, true, true, true, true, true, false, false, false, false, false, false, false, false, false, false, false, false] rfl rfl (by kernel_rfl) (fun _ _ _ h => h) (Or.inl ⟨by rfl, ?_⟩) ?_ ?_
            rotate_left
            · intro w'
              go_simp
              with_reducible rfl
            rotate_left
            · simp only [Act.put, List.setIfInBounds_toArray, List.set_cons_zero, List.set_cons_succ, i64_w, i32_w]
              rfl
            refine one_ (i := 1) (N := some 91) #[true, true, true, true, true, true, true, false, false, false, false, false, false, false, false, false, false, false, false] rfl rfl (by kernel_rfl) (by decide) (fun K hK => ?_)
            obtain ⟨t3335, HA3336, H⟩ := bind_some H
            refine goes_ Tryd.func91 (by kernel_rfl) rfl #[.slice (some ad3284) l2874.length n2876] (by rfl) rfl rfl (by (try simp only [List.map_toArray, List.map_cons, List.map_nil]); first | done | rfl) ?_
            refine (quitrentref08_Rest.calls _ l2874 (some ad3284) n2876 t3335 _ ⟨Rd.pass (l := []) (by decide) (fun _ _ _ _ h => h) HR2877.out HS.out⟩ ⟨HGl0.out.pass (l := []) HS.out⟩ ⟨Sep.start _⟩ HA3336).mono ?_
            rintro e_ w3337 ⟨A3339, m3340, n3341, rfl, hS⟩
            replace HS : Aside0 (Sep FF w [r14 A3339 m3340 n3341 t3335, b8 g2856 g2858 a2866 a2867 a2868 a2869, b7 g2858 A2861 l2860.length n2863 t3276.2.2.1, r6 A2861 l2860.length n2863 t3276.2.2.2] w3337) := ⟨HS.out.call hS⟩
            clear hS
            obtain rfl := (row_len (HS.out.at0)).symm
            refine ⟨_, rfl, ?_⟩
            refine hK.out _ _ (Rd.read (fun _ _ _ _ h => h) HR2877.out HS.out.fr) (fun hHeld => ?_)
            clear hK K
            refine norm_ (a' := ?_) ?_ ?_
            rotate_left
            · show Act.put _ (some 91) _ = _
              simp only [Act.put, List.setIfInBounds_toArray, List.set_cons_zero, List.set_cons_succ, i64_w, i32_w]
              rfl
            refine pure_ (i := 7) (N := some 97) (v := ?_) (a' := ?_) #[true, true, true, true, true, true, true, true, false, false, false, false, false, false, false, false, false, false, false] rfl rfl (by kernel_rfl) (fun _ _ _ h => h) (Or.inl ⟨by rfl, ?_⟩) ?_ ?_
            rotate_left
            · intro w'
              go_simp
              with_reducible rfl
            rotate_left
            · simp only [Act.put, List.setIfInBounds_toArray, List.set_cons_zero, List.set_cons_succ, i64_w, i32_w]
              rfl
            by_cases c3343 : t3276.1 = (rd l2874 0)
            · replace H := if_yes c3343 H
              have c3343b0 : (t3276.1 == (rd l2874 0)) = true := beq_iff_eq.mpr c3343
              have c3343b1 : (t3276.1 != (rd l2874 0)) = false := bne_eq_false_iff_eq.mpr c3343
              clear c3343
              try simp only [c3343b0, c3343b1, Bool.not_true, Bool.not_false]
              refine pure_ (i := 8) (N := some 98) (v := ?_) (a' := ?_) #[true, true, true, true, true, true, true, true, true, false, false, false, false, false, false, false, false, false, false] rfl rfl (by kernel_rfl) (fun _ _ _ h => h) (Or.inl ⟨by rfl, ?_⟩) ?_ ?_
              rotate_left
              · intro w'
                go_simp
                with_reducible rfl
              rotate_left
              · simp only [Act.put, List.setIfInBounds_toArray, List.set_cons_zero, List.set_cons_succ, i64_w, i32_w]
                rfl
              refine pure_ (i := 9) (N := some 99) (v := ?_) (a' := ?_) #[true, true, true, true, true, true, true, true, true, true, false, false, false, false, false, false, false, false, false] rfl rfl (by kernel_rfl) (fun _ _ _ h => h) (Or.inl ⟨by rfl, ?_⟩) ?_ ?_
              rotate_left
              · intro w'
                go_simp
                with_reducible rfl
              rotate_left
              · simp only [Act.put, List.setIfInBounds_toArray, List.set_cons_zero, List.set_cons_succ, i64_w, i32_w]
                rfl
              refine pure_ (i := 10) (N := some 100) (v := ?_) (a' := ?_) #[true, true, true, true, true, true, true, true, true, true, true, false, false, false, false, false, false, false, false] rfl rfl (by kernel_rfl) (fun _ _ _ h => h) (Or.inl ⟨by rfl, ?_⟩) ?_ ?_
              rotate_left
              · intro w'
                go_simp
                with_reducible rfl
              rotate_left
              · simp only [Act.put, List.setIfInBounds_toArray, List.set_cons_zero, List.set_cons_succ, i64_w, i32_w]
                rfl
              by_cases c3344 : t3276.2.1 = true
              · replace H := if_yes c3344 H
                have c3344b0 : t3276.2.1 = true := c3344
                have c3344b1 : (!t3276.2.1) = false := by rw [c3344b0]; rfl
                clear c3344
                try simp only [c3344b0, Bool.not_true, Bool.not_false]
                refine pure_ (i := 11) (N := some 101) (v := ?_) (a' := ?_) #[true, true, true, true, true, true, true, true, true, true, true, true, false, false, false, false, false, false, false] rfl rfl (by kernel_rfl) (fun _ _ _ h => h) (Or.inl ⟨by rfl, ?_⟩) ?_ ?_
                rotate_left
                · intro w'
                  go_simp
                  with_reducible rfl
                rotate_left
                · simp only [Act.put, List.setIfInBounds_toArray, List.set_cons_zero, List.set_cons_succ, i64_w, i32_w]
                  rfl
                try simp only [c3344b0, Bool.not_true, Bool.not_false]
                refine pure_ (i := 13) (N := some 103) (v := ?_) (a' := ?_) #[true, true, true, true, true, true, true, true, true, true, true, true, false, true, false, false, false, false, false] rfl rfl (by kernel_rfl) (fun _ _ _ h => h) (Or.inl ⟨by rfl, ?_⟩) ?_ ?_
                rotate_left
                · intro w'
                  go_simp
                  with_reducible rfl
                rotate_left
                · simp only [Act.put, List.setIfInBounds_toArray, List.set_cons_zero, List.set_cons_succ, i64_w, i32_w]
                  rfl
                try simp only [c3344b0, Bool.not_true, Bool.not_false]
                refine one_ (i := 12) (N := some 102) #[true, true, true, true, true, true, true, true, true, true, true, true, true, true, false, false, false, false, false] rfl rfl (by kernel_rfl) (by decide) (fun K hK => ?_)
                replace HS : Aside0 (Sep FF w [r6 A2861 l2860.length n2863 t3276.2.2.2, r14 A3339 t3335.length n3341 t3335, b8 g2856 g2858 a2866 a2867 a2868 a2869, b7 g2858 A2861 l2860.length n2863 t3276.2.2.1] w3337) := ⟨HS.out.front 3 (by simp)⟩
                replace HS : Aside0 (Sep FF w [b7 g2858 A2861 l2860.length n2863 t3276.2.2.1, r6 A2861 l2860.length n2863 t3276.2.2.2, r14 A3339 t3335.length n3341 t3335, b8 g2856 g2858 a2866 a2867 a2868 a2869] w3337) := ⟨HS.out.front 3 (by simp)⟩
                replace HS : Aside0 (Sep FF w [b8 g2856 g2858 a2866 a2867 a2868 a2869, b7 g2858 A2861 l2860.length n2863 t3276.2.2.1, r6 A2861 l2860.length n2863 t3276.2.2.2, r14 A3339 t3335.length n3341 t3335] w3337) := ⟨HS.out.front 3 (by simp)⟩
                obtain ⟨t3345, HA3346, H⟩ := bind_some H
                refine goes_ Tryd.func30 (by kernel_rfl) rfl #[.pointer (some ⟨g2856, 0, none⟩)] (by rfl) rfl rfl (by (try simp only [List.map_toArray, List.map_cons, List.map_nil]); first | done | rfl) ?_
                refine (ground_Ground_Meter.calls t3276.2.2.2 t3276.2.2.1 a2866 a2867 a2868 a2869 g2856 g2858 A2861 l2860.length n2863 t3345 _ ⟨HGl0.out.pass HS.out⟩ ⟨HS.out.begin⟩ HA3346).mono ?_
                rintro e_ w3347 ⟨rfl, hS⟩
                replace HS : Aside0 (Sep FF w [b8 g2856 g2858 a2866 a2867 a2868 a2869, b7 g2858 A2861 l2860.length n2863 t3276.2.2.1, r6 A2861 l2860.length n2863 t3276.2.2.2, r14 A3339 t3335.length n3341 t3335] w3347) := ⟨HS.out.call hS⟩
                clear hS
                refine ⟨_, rfl, ?_⟩
                refine hK.out _ _ (Rd.read (fun _ _ _ _ h => h) HR2877.out HS.out.fr) (fun hHeld => ?_)
                clear hK K
                refine norm_ (a' := ?_) ?_ ?_
                rotate_left
                · show Act.put _ (some 102) _ = _
                  simp only [Act.put, List.setIfInBounds_toArray, List.set_cons_zero, List.set_cons_succ, i64_w, i32_w]
                  rfl
                try simp only [c3344b0, Bool.not_true, Bool.not_false]
                refine pure_ (i := 14) (N := some 104) (v := ?_) (a' := ?_) #[true, true, true, true, true, true, true, true, true, true, true, true, true, true, true, false, false, false, false] rfl rfl (by kernel_rfl) (fun _ _ _ h => h) (Or.inl ⟨by rfl, ?_⟩) ?_ ?_
                rotate_left
                · intro w'
                  go_simp
                  with_reducible rfl
                rotate_left
                · simp only [Act.put, List.setIfInBounds_toArray, List.set_cons_zero, List.set_cons_succ, i64_w, i32_w]
                  rfl
                try simp only [c3344b0, Bool.not_true, Bool.not_false]
                refine pure_ (i := 15) (N := some 105) (v := ?_) (a' := ?_) #[true, true, true, true, true, true, true, true, true, true, true, true, true, true, true, true, false, false, false] rfl rfl (by kernel_rfl) (fun _ _ _ h => h) (Or.inl ⟨by rfl, ?_⟩) ?_ ?_
                rotate_left
                · intro w'
                  go_simp
                  with_reducible rfl
                rotate_left
                · simp only [Act.put, List.setIfInBounds_toArray, List.set_cons_zero, List.set_cons_succ, i64_w, i32_w]
                  rfl
                refine pure_ (i := 16) (N := some 106) (v := ?_) (a' := ?_) #[true, true, true, true, true, true, true, true, true, true, true, true, true, true, true, true, true, false, false] rfl rfl (by kernel_rfl) (fun _ _ _ h => h) (Or.inl ⟨by rfl, ?_⟩) ?_ ?_
                rotate_left
                · intro w'
                  go_simp
                  with_reducible rfl
                rotate_left
                · simp only [Act.put, List.setIfInBounds_toArray, List.set_cons_zero, List.set_cons_succ, i64_w, i32_w]
                  rfl
                refine pure_ (i := 17) (N := some 8) (v := ?_) (a' := ?_) #[true, true, true, true, true, true, true, true, true, true, true, true, true, true, true, true, true, true, false] rfl rfl (by kernel_rfl) (fun _ _ _ h => h) (Or.inl ⟨by rfl, ?_⟩) ?_ ?_
                rotate_left
                · intro w'
                  go_simp
                  with_reducible rfl
                rotate_left
                · simp only [Act.put, List.setIfInBounds_toArray, List.set_cons_zero, List.set_cons_succ, i64_w, i32_w]
                  rfl
                refine pure_ (i := 18) (N := some 9) (v := ?_) (a' := ?_) #[true, true, true, true, true, true, true, true, true, true, true, true, true, true, true, true, true, true, true] rfl rfl (by kernel_rfl) (fun _ _ _ h => h) (Or.inl ⟨by rfl, ?_⟩) ?_ ?_
                rotate_left
                · intro w'
                  go_simp
                  with_reducible rfl
                rotate_left
                · simp only [Act.put, List.setIfInBounds_toArray, List.set_cons_zero, List.set_cons_succ, i64_w, i32_w]
                  rfl
                refine done_ (by kernel_rfl) ?_
                go_wp2_with fail
                go_ret2
                rw [← some_eq H]
                exact ⟨A3339, t3335.length, n3341, (by first | rfl | (simp [IntKind.wrap_u32]; done)), HS.out⟩
              · replace H := if_no c3344 H
                have c3344b0 : t3276.2.1 = false := by simpa using c3344
                have c3344b1 : (!t3276.2.1) = true := by rw [c3344b0]; rfl
                clear c3344
                try simp only [c3344b0, Bool.not_true, Bool.not_false]
                refine pure_ (i := 11) (N := some 101) (v := undef) (a' := ?_) #[true, true, true, true, true, true, true, true, true, true, true, true, false, false, false, false, false, false, false] rfl rfl (by kernel_rfl) (fun _ _ _ h => h) (Or.inr ⟨by rfl, rfl⟩) ?_ ?_
                rotate_left
                · simp only [Act.put, List.setIfInBounds_toArray, List.set_cons_zero, List.set_cons_succ, i64_w, i32_w]
                  rfl
                try simp only [c3344b0, Bool.not_true, Bool.not_false]
                refine pure_ (i := 12) (N := some 102) (v := undef) (a' := ?_) #[true, true, true, true, true, true, true, true, true, true, true, true, true, false, false, false, false, false, false] rfl rfl (by kernel_rfl) (fun _ _ _ h => h) (Or.inr ⟨by rfl, rfl⟩) ?_ ?_
                rotate_left
                · simp only [Act.put, List.setIfInBounds_toArray, List.set_cons_zero, List.set_cons_succ, i64_w, i32_w]
                  rfl
                try simp only [c3344b0, Bool.not_true, Bool.not_false]
                refine pure_ (i := 13) (N := some 103) (v := undef) (a' := ?_) #[true, true, true, true, true, true, true, true, true, true, true, true, true, true, false, false, false, false, false] rfl rfl (by kernel_rfl) (fun _ _ _ h => h) (Or.inr ⟨by rfl, rfl⟩) ?_ ?_
                rotate_left
                · simp only [Act.put, List.setIfInBounds_toArray, List.set_cons_zero, List.set_cons_succ, i64_w, i32_w]
                  rfl
                try simp only [c3344b0, Bool.not_true, Bool.not_false]
                refine pure_ (i := 14) (N := some 104) (v := undef) (a' := ?_) #[true, true, true, true, true, true, true, true, true, true, true, true, true, true, true, false, false, false, false] rfl rfl (by kernel_rfl) (fun _ _ _ h => h) (Or.inr ⟨by rfl, rfl⟩) ?_ ?_
                rotate_left
                · simp only [Act.put, List.setIfInBounds_toArray, List.set_cons_zero, List.set_cons_succ, i64_w, i32_w]
                  rfl
                try simp only [c3344b0, Bool.not_true, Bool.not_false]
                refine pure_ (i := 15) (N := some 105) (v := undef) (a' := ?_) #[true, true, true, true, true, true, true, true, true, true, true, true, true, true, true, true, false, false, false] rfl rfl (by kernel_rfl) (fun _ _ _ h => h) (Or.inr ⟨by rfl, rfl⟩) ?_ ?_
                rotate_left
                · simp only [Act.put, List.setIfInBounds_toArray, List.set_cons_zero, List.set_cons_succ, i64_w, i32_w]
                  rfl
                refine pure_ (i := 16) (N := some 106) (v := ?_) (a' := ?_) #[true, true, true, true, true, true, true, true, true, true, true, true, true, true, true, true, true, false, false] rfl rfl (by kernel_rfl) (fun _ _ _ h => h) (Or.inl ⟨by rfl, ?_⟩) ?_ ?_
                rotate_left
                · intro w'
                  go_simp
                  with_reducible rfl
                rotate_left
                · simp only [Act.put, List.setIfInBounds_toArray, List.set_cons_zero, List.set_cons_succ, i64_w, i32_w]
                  rfl
                refine pure_ (i := 17) (N := some 8) (v := ?_) (a' := ?_) #[true, true, true, true, true, true, true, true, true, true, true, true, true, true, true, true, true, true, false] rfl rfl (by kernel_rfl) (fun _ _ _ h => h) (Or.inl ⟨by rfl, ?_⟩) ?_ ?_
                rotate_left
                · intro w'
                  go_simp
                  with_reducible rfl
                rotate_left
                · simp only [Act.put, List.setIfInBounds_toArray, List.set_cons_zero, List.set_cons_succ, i64_w, i32_w]
                  rfl
                refine pure_ (i := 18) (N := some 9) (v := ?_) (a' := ?_) #[true, true, true, true, true, true, true, true, true, true, true, true, true, true, true, true, true, true, true] rfl rfl (by kernel_rfl) (fun _ _ _ h => h) (Or.inl ⟨by rfl, ?_⟩) ?_ ?_
                rotate_left
                · intro w'
                  go_simp
                  with_reducible rfl
                rotate_left
                · simp only [Act.put, List.setIfInBounds_toArray, List.set_cons_zero, List.set_cons_succ, i64_w, i32_w]
                  rfl
                refine done_ (by kernel_rfl) ?_
                go_wp2_with fail
                go_ret2
                rw [← some_eq H]
                exact ⟨A3339, t3335.length, n3341, (by first | rfl | (simp [IntKind.wrap_u32]; done)), ((((HS.out).front 3 (by simp)).front 3 (by simp)).front 3 (by simp)).keep (l := [b8 g2856 g2858 a2866 a2867 a2868 a2869, b7 g2858 A2861 l2860.length n2863 t3276.2.2.1, r6 A2861 l2860.length n2863 t3276.2.2.2, r14 A3339 t3335.length n3341 t3335]) (rest := [])⟩
            · replace H := if_no c3343 H
              have c3343b0 : (t3276.1 == (rd l2874 0)) = false := beq_eq_false_iff_ne.mpr c3343
              have c3343b1 : (t3276.1 != (rd l2874 0)) = true := bne_iff_ne.mpr c3343
              clear c3343
              try simp only [c3343b0, c3343b1, Bool.not_true, Bool.not_false]
              refine pure_ (i := 8) (N := some 98) (v := undef) (a' := ?_) #[true, true, true, true, true, true, true, true, true, false, false, false, false, false, false, false, false, false, false] rfl rfl (by kernel_rfl) (fun _ _ _ h => h) (Or.inr ⟨by rfl, rfl⟩) ?_ ?_
              rotate_left
              · simp only [Act.put, List.setIfInBounds_toArray, List.set_cons_zero, List.set_cons_succ, i64_w, i32_w]
                rfl
              refine pure_ (i := 9) (N := some 99) (v := ?_) (a' := ?_) #[true, true, true, true, true, true, true, true, true, true, false, false, false, false, false, false, false, false, false] rfl rfl (by kernel_rfl) (fun _ _ _ h => h) (Or.inl ⟨by rfl, ?_⟩) ?_ ?_
              rotate_left
              · intro w'
                go_simp
                with_reducible rfl
              rotate_left
              · simp only [Act.put, List.setIfInBounds_toArray, List.set_cons_zero, List.set_cons_succ, i64_w, i32_w]
                rfl
              refine pure_ (i := 10) (N := some 100) (v := ?_) (a' := ?_) #[true, true, true, true, true, true, true, true, true, true, true, false, false, false, false, false, false, false, false] rfl rfl (by kernel_rfl) (fun _ _ _ h => h) (Or.inl ⟨by rfl, ?_⟩) ?_ ?_
              rotate_left
              · intro w'
                go_simp
                with_reducible rfl
              rotate_left
              · simp only [Act.put, List.setIfInBounds_toArray, List.set_cons_zero, List.set_cons_succ, i64_w, i32_w]
                rfl
              refine pure_ (i := 11) (N := some 101) (v := undef) (a' := ?_) #[true, true, true, true, true, true, true, true, true, true, true, true, false, false, false, false, false, false, false] rfl rfl (by kernel_rfl) (fun _ _ _ h => h) (Or.inr ⟨by rfl, rfl⟩) ?_ ?_
              rotate_left
              · simp only [Act.put, List.setIfInBounds_toArray, List.set_cons_zero, List.set_cons_succ, i64_w, i32_w]
                rfl
              refine pure_ (i := 12) (N := some 102) (v := undef) (a' := ?_) #[true, true, true, true, true, true, true, true, true, true, true, true, true, false, false, false, false, false, false] rfl rfl (by kernel_rfl) (fun _ _ _ h => h) (Or.inr ⟨by rfl, rfl⟩) ?_ ?_
              rotate_left
              · simp only [Act.put, List.setIfInBounds_toArray, List.set_cons_zero, List.set_cons_succ, i64_w, i32_w]
                rfl
              refine pure_ (i := 13) (N := some 103) (v := undef) (a' := ?_) #[true, true, true, true, true, true, true, true, true, true, true, true, true, true, false, false, false, false, false] rfl rfl (by kernel_rfl) (fun _ _ _ h => h) (Or.inr ⟨by rfl, rfl⟩) ?_ ?_
              rotate_left
              · simp only [Act.put, List.setIfInBounds_toArray, List.set_cons_zero, List.set_cons_succ, i64_w, i32_w]
                rfl
              refine pure_ (i := 14) (N := some 104) (v := undef) (a' := ?_) #[true, true, true, true, true, true, true, true, true, true, true, true, true, true, true, false, false, false, false] rfl rfl (by kernel_rfl) (fun _ _ _ h => h) (Or.inr ⟨by rfl, rfl⟩) ?_ ?_
              rotate_left
              · simp only [Act.put, List.setIfInBounds_toArray, List.set_cons_zero, List.set_cons_succ, i64_w, i32_w]
                rfl
              refine pure_ (i := 15) (N := some 105) (v := undef) (a' := ?_) #[true, true, true, true, true, true, true, true, true, true, true, true, true, true, true, true, false, false, false] rfl rfl (by kernel_rfl) (fun _ _ _ h => h) (Or.inr ⟨by rfl, rfl⟩) ?_ ?_
              rotate_left
              · simp only [Act.put, List.setIfInBounds_toArray, List.set_cons_zero, List.set_cons_succ, i64_w, i32_w]
                rfl
              refine pure_ (i := 16) (N := some 106) (v := ?_) (a' := ?_) #[true, true, true, true, true, true, true, true, true, true, true, true, true, true, true, true, true, false, false] rfl rfl (by kernel_rfl) (fun _ _ _ h => h) (Or.inl ⟨by rfl, ?_⟩) ?_ ?_
              rotate_left
              · intro w'
                go_simp
                with_reducible rfl
              rotate_left
              · simp only [Act.put, List.setIfInBounds_toArray, List.set_cons_zero, List.set_cons_succ, i64_w, i32_w]
                rfl
              refine pure_ (i := 17) (N := some 8) (v := ?_) (a' := ?_) #[true, true, true, true, true, true, true, true, true, true, true, true, true, true, true, true, true, true, false] rfl rfl (by kernel_rfl) (fun _ _ _ h => h) (Or.inl ⟨by rfl, ?_⟩) ?_ ?_
              rotate_left
              · intro w'
                go_simp
                with_reducible rfl
              rotate_left
              · simp only [Act.put, List.setIfInBounds_toArray, List.set_cons_zero, List.set_cons_succ, i64_w, i32_w]
                rfl
              refine pure_ (i := 18) (N := some 9) (v := ?_) (a' := ?_) #[true, true, true, true, true, true, true, true, true, true, true, true, true, true, true, true, true, true, true] rfl rfl (by kernel_rfl) (fun _ _ _ h => h) (Or.inl ⟨by rfl, ?_⟩) ?_ ?_
              rotate_left
              · intro w'
                go_simp
                with_reducible rfl
              rotate_left
              · simp only [Act.put, List.setIfInBounds_toArray, List.set_cons_zero, List.set_cons_succ, i64_w, i32_w]
                rfl
              refine done_ (by kernel_rfl) ?_
              go_wp2_with fail
              go_ret2
              rw [← some_eq H]
              exact ⟨A3339, t3335.length, n3341, (by first | rfl | (simp [IntKind.wrap_u32]; done)), ((((HS.out).front 3 (by simp)).front 3 (by simp)).front 3 (by simp)).keep (l := [b8 g2856 g2858 a2866 a2867 a2868 a2869, b7 g2858 A2861 l2860.length n2863 t3276.2.2.1, r6 A2861 l2860.length n2863 t3276.2.2.2, r14 A3339 t3335.length n3341 t3335]) (rest := [])⟩
          · replace H := if_no c3283 H
            have c3283b0 : decide (0 < (l2874.length : Int)) = false := decide_eq_false c3283
            have c3283b1 : decide (0 < l2874.length) = false := decide_eq_false (by omega)
            clear c3283
            exact (none_no H).elim
      · replace H := if_no c3240 H
        have c3240b0 : (a2878 == 2) = false := beq_eq_false_iff_ne.mpr c3240
        have c3240b1 : (a2878 != 2) = true := bne_iff_ne.mpr c3240
        clear c3240
        have hc3103 : w3102.cell? ⟨g3093, 0, none⟩ = some (.int .u8 a2878) := blk_cellv (HS.out.at3) 0 rfl
        go_wp2_with fail
        clear hc3103
        obtain ⟨t3384, HA3385, H⟩ := bind_some H
        refine (ring_Len.calls l2860 a2865 a2866 a2867 a2868 a2869 g2856 g2858 A2861 l2860.length n2863 t3384 _ ⟨HGl0.out.pass HS.out⟩ ⟨HS.out.begin⟩ HA3385).mono ?_
        rintro e_ w3386 ⟨rfl, hS⟩
        replace HS : Aside0 (Sep FF w [b8 g2856 g2858 a2866 a2867 a2868 a2869, b7 g2858 A2861 l2860.length n2863 t3384.2, r6 A2861 l2860.length n2863 l2860, b17 g3093 a2878 a2879] w3386) := ⟨HS.out.call hS⟩
        clear hS
        by_cases c3387 : t3384.1 = (l2874.length : Int)
        · replace H := if_yes c3387 H
          have c3387b0 : (t3384.1 == (l2874.length : Int)) = true := beq_iff_eq.mpr c3387
          have c3387b1 : (t3384.1 != (l2874.length : Int)) = false := bne_eq_false_iff_eq.mpr c3387
          clear c3387
          have hc3388 : w3386.cell? ⟨g3093, 1, none⟩ = some (.int .i64 a2879) := blk_cellv (HS.out.at3) 1 rfl
          go_wp2_with fail
          clear hc3388
          obtain ⟨t3447, HA3448, H⟩ := bind_some H
          refine (ring_Has.calls l2860 t3384.2 a2866 a2867 a2868 a2869 a2879 g2856 g2858 A2861 l2860.length n2863 t3447 _ ⟨HGl0.out.pass HS.out⟩ ⟨HS.out.begin⟩ HA3448).mono ?_
          rintro e_ w3449 ⟨rfl, hS⟩
          replace HS : Aside0 (Sep FF w [b8 g2856 g2858 a2866 a2867 a2868 a2869, b7 g2858 A2861 l2860.length n2863 t3447.2, r6 A2861 l2860.length n2863 l2860, b17 g3093 a2878 a2879] w3449) := ⟨HS.out.call hS⟩
          clear hS
          by_cases c3450 : t3447.1 = true
          · replace H := if_yes c3450 H
            have c3450b0 : t3447.1 = true := c3450
            have c3450b1 : (!t3447.1) = false := by rw [c3450b0]; rfl
            clear c3450
            by_cases c3451 : t3097 = true
            · replace H := if_yes c3451 H
              have c3451b0 : t3097 = true := c3451
              have c3451b1 : (!t3097) = false := by rw [c3451b0]; rfl
              clear c3451
              go_wp2_with fail
              obtain ⟨t3452, HA3453, H⟩ := bind_some H
              refine (ground_Ground_Meter.calls l2860 t3447.2 a2866 a2867 a2868 a2869 g2856 g2858 A2861 l2860.length n2863 t3452 _ ⟨HGl0.out.pass HS.out⟩ ⟨HS.out.begin⟩ HA3453).mono ?_
              rintro e_ w3454 ⟨rfl, hS⟩
              replace HS : Aside0 (Sep FF w [b8 g2856 g2858 a2866 a2867 a2868 a2869, b7 g2858 A2861 l2860.length n2863 t3447.2, r6 A2861 l2860.length n2863 l2860, b17 g3093 a2878 a2879] w3454) := ⟨HS.out.call hS⟩
              clear hS
              replace HS : Aside0 (Sep FF w [b8 g2856 g2858 a2866 a2867 a2868 a2869, b7 g2858 A2861 l2860.length n2863 t3447.2, r6 A2861 l2860.length n2863 l2860] w3454) := ⟨HS.out.sub (.cons_cons _ (.cons_cons _ (.cons_cons _ (.cons _ .slnil))))⟩
              go_wp2_with fail
              go_ret2
              rw [← some_eq H]
              exact ⟨(by first | rfl | (simp [IntKind.wrap_u32]; done)), HS.out⟩
            · replace H := if_no c3451 H
              have c3451b0 : t3097 = false := by simpa using c3451
              have c3451b1 : (!t3097) = true := by rw [c3451b0]; rfl
              clear c3451
              replace HS : Aside0 (Sep FF w [b8 g2856 g2858 a2866 a2867 a2868 a2869, b7 g2858 A2861 l2860.length n2863 t3447.2, r6 A2861 l2860.length n2863 l2860] w3449) := ⟨HS.out.sub (.cons_cons _ (.cons_cons _ (.cons_cons _ (.cons _ .slnil))))⟩
              go_wp2_with fail
              go_ret2
              rw [← some_eq H]
              exact ⟨(by first | rfl | (simp [IntKind.wrap_u32]; done)), HS.out⟩
          · replace H := if_no c3450 H
            have c3450b0 : t3447.1 = false := by simpa using c3450
            have c3450b1 : (!t3447.1) = true := by rw [c3450b0]; rfl
            clear c3450
            by_cases c3455 : t3097 = true
            · replace H := if_yes c3455 H
              have c3455b0 : t3097 = true := c3455
              have c3455b1 : (!t3097) = false := by rw [c3455b0]; rfl
              clear c3455
              replace HS : Aside0 (Sep FF w [b8 g2856 g2858 a2866 a2867 a2868 a2869, b7 g2858 A2861 l2860.length n2863 t3447.2, r6 A2861 l2860.length n2863 l2860] w3449) := ⟨HS.out.sub (.cons_cons _ (.cons_cons _ (.cons_cons _ (.cons _ .slnil))))⟩
              go_wp2_with fail
              go_ret2
              rw [← some_eq H]
              exact ⟨(by first | rfl | (simp [IntKind.wrap_u32]; done)), HS.out⟩
            · replace H := if_no c3455 H
              have c3455b0 : t3097 = false := by simpa using c3455
              have c3455b1 : (!t3097) = true := by rw [c3455b0]; rfl
              clear c3455
              go_wp2_with fail
              obtain ⟨t3452, HA3456, H⟩ := bind_some H
              refine (ground_Ground_Meter.calls l2860 t3447.2 a2866 a2867 a2868 a2869 g2856 g2858 A2861 l2860.length n2863 t3452 _ ⟨HGl0.out.pass HS.out⟩ ⟨HS.out.begin⟩ HA3456).mono ?_
              rintro e_ w3457 ⟨rfl, hS⟩
              replace HS : Aside0 (Sep FF w [b8 g2856 g2858 a2866 a2867 a2868 a2869, b7 g2858 A2861 l2860.length n2863 t3447.2, r6 A2861 l2860.length n2863 l2860, b17 g3093 a2878 a2879] w3457) := ⟨HS.out.call hS⟩
              clear hS
              replace HS : Aside0 (Sep FF w [b8 g2856 g2858 a2866 a2867 a2868 a2869, b7 g2858 A2861 l2860.length n2863 t3447.2, r6 A2861 l2860.length n2863 l2860] w3457) := ⟨HS.out.sub (.cons_cons _ (.cons_cons _ (.cons_cons _ (.cons _ .slnil))))⟩
              go_wp2_with fail
              go_ret2
              rw [← some_eq H]
              exact ⟨(by first | rfl | (simp [IntKind.wrap_u32]; done)), HS.out⟩
        · replace H := if_no c3387 H
          have c3387b0 : (t3384.1 == (l2874.length : Int)) = false := beq_eq_false_iff_ne.mpr c3387
          have c3387b1 : (t3384.1 != (l2874.length : Int)) = true := bne_iff_ne.mpr c3387
          clear c3387
          replace HS : Aside0 (Sep FF w [b8 g2856 g2858 a2866 a2867 a2868 a2869, b7 g2858 A2861 l2860.length n2863 t3384.2, r6 A2861 l2860.length n2863 l2860] w3386) := ⟨HS.out.sub (.cons_cons _ (.cons_cons _ (.cons_cons _ (.cons _ .slnil))))⟩
          go_wp2_with fail
          go_ret2
          rw [← some_eq H]
          exact ⟨(by first | rfl | (simp [IntKind.wrap_u32]; done)), HS.out⟩

set_option maxHeartbeats 30000000 in
set_option maxRecDepth 100000 in
theorem quitrentref08_Ends.calls (l3495 : List Int) (A3496 : Option Addr) (n3497 : Nat) (r : Int × Int × Int) (w : World) (HR3498 : Aside0 (Rd (Kd.int .i64) (fps []) w A3496 l3495.length l3495)) (HGl0 : Aside0 (Gl 0 #[.int .i64 0, .int .i64 0, .int .i64 0, .int .i64 0, .int .i64 0] (fps []) w)) (HS : Aside0 (Sep (fps []) w [] w)) (H : Aside0 (quitrentref08_Ends.f l3495 = some r)) :
    Calls Tryd.prog 93 #[.slice A3496 l3495.length n3497] w fun e w' => e = .returned (.tuple #[.int .i64 r.1, .int .i64 r.2.1, .int .i64 r.2.2]) ∧ Sep (fps []) w [] w' := by
  unfold quitrentref08_Ends.f at H
  go_enter Tryd.func93, Tryd.ntmps93
  by_cases c3499 : (l3495.length : Int) = 0
  · replace H := if_yes c3499 H
    have c3499b0 : ((l3495.length : Int) == 0) = true := beq_iff_eq.mpr c3499
    have c3499b1 : ((l3495.length : Int) != 0) = false := bne_eq_false_iff_eq.mpr c3499
    clear c3499
    go_wp2_with fail
    go_ret3
    rw [← some_eq H]
    exact ⟨(by first | rfl | (simp [IntKind.wrap_u32]; done)), HS.out⟩
  · replace H := if_no c3499 H
    have c3499b0 : ((l3495.length : Int) == 0) = false := beq_eq_false_iff_ne.mpr c3499
    have c3499b1 : ((l3495.length : Int) != 0) = true := bne_iff_ne.mpr c3499
    clear c3499
    go_wp2_with fail
    refine start_ (n := 16) (S := (fun w' => Kd.C (Kd.int .i64) w' A3496 l3495.length l3495)) (ds := []) #[false, false, false, false, false, false, false, false, false, false, false, false, false, false, false, false] (by kernel_rfl) rfl rfl (Rd.read (fun _ _ _ _ h => h) HR3498.out (HS.out.drew).fr) (fun hHeld => ?_)
    have HS_ := Aside0.mk HS.out.drew
    clear HS
    generalize World.drew _ = w3501 at HS_ hHeld ⊢
    have HS := HS_
    clear HS_
    refine pure_ (i := 0) (N := some 8) (v := ?_) (a' := ?_) #[true, false, false, false, false, false, false, false, false, false, false, false, false, false, false, false] rfl rfl (by kernel_rfl) (fun _ _ _ h => h) (Or.inl ⟨by rfl, ?_⟩) ?_ ?_
    rotate_left
    · intro w'
      go_simp
      with_reducible rfl
    rotate_left
    · simp only [Act.put, List.setIfInBounds_toArray, List.set_cons_zero, List.set_cons_succ, i64_w, i32_w]
      rfl
    by_cases c3502 : 0 < (l3495.length : Int)
    · replace H := if_yes c3502 H
      have c3502b0 : decide (0 < (l3495.length : Int)) = true := decide_eq_true c3502
      have c3502b1 : decide (0 < l3495.length) = true := decide_eq_true (by omega)
      have c3502p : (0 < (l3495.length : Int)) = True := eq_true c3502
      have c3502n : (0 < l3495.length) = True := eq_true (by omega)
      clear c3502
      obtain ⟨ad3503, ea, _⟩ := Kd.at_int (Rd.read (fun _ _ _ _ h => h) HR3498.out HS.out.fr) 0 (by decide) (of_decide_eq_true c3502b0)
      cases ea
      refine pure_ (i := 1) (N := some 9) (v := ?_) (a' := ?_) #[true, true, false, false, false, false, false, false, false, false, false, false, false, false, false, false] rfl rfl (by kernel_rfl) (fun _ _ _ h => h) (Or.inl ⟨by rfl, ?_⟩) ?_ ?_
      rotate_left
      · intro w'
        go_simp
        with_reducible rfl
      rotate_left
      · simp only [Act.put, List.setIfInBounds_toArray, List.set_cons_zero, List.set_cons_succ, i64_w, i32_w]
        rfl
      refine pure_ (i := 4) (N := some 12) (v := ?_) (a' := ?_) #[true, true, false, false, true, false, false, false, false, false, false, false, false, false, false, false] rfl rfl (by kernel_rfl) (fun _ _ _ h => h) (Or.inl ⟨by rfl, ?_⟩) ?_ ?_
      rotate_left
      · intro w'
        go_simp
        with_reducible rfl
      rotate_left
      · simp only [Act.put, List.setIfInBounds_toArray, List.set_cons_zero, List.set_cons_succ, i64_w, i32_w]
        rfl
      refine pure_ (i := 5) (N := some 13) (v := ?_) (a' := ?_) #[true, true, false, false, true, true, false, false, false, false, false, false, false, false, false, false] rfl rfl (by kernel_rfl) (fun _ _ _ h => h) (Or.inl ⟨by rfl, ?_⟩) ?_ ?_
      rotate_left
      · intro w'
        go_simp
        with_reducible rfl
      rotate_left
      · simp only [Act.put, List.setIfInBounds_toArray, List.set_cons_zero, List.set_cons_succ, i64_w, i32_w]
        rfl
      refine pure_ (i := 6) (N := some 14) (v := ?_) (a' := ?_) #[true, true, false, false, true, true, true, false, false, false, false, false, false, false, false, false] rfl rfl (by kernel_rfl) (fun _ _ _ h => h) (Or.inl ⟨by rfl, ?_⟩) ?_ ?_
      rotate_left
      · intro w'
        go_simp
        with_reducible rfl
      rotate_left
      · simp only [Act.put, List.setIfInBounds_toArray, List.set_cons_zero, List.set_cons_succ, i64_w, i32_w]
        rfl
      refine pure_ (i := 7) (N := some 15) (v := ?_) (a' := ?_) #[true, true, false, false, true, true, true, true, false, false, false, false, false, false, false, false] rfl rfl (by kernel_rfl) (fun _ _ _ h => h) (Or.inl ⟨by rfl, ?_⟩) ?_ ?_
      rotate_left
      · intro w'
        go_simp
        with_reducible rfl
      rotate_left
      · simp only [Act.put, List.setIfInBounds_toArray, List.set_cons_zero, List.set_cons_succ, i64_w, i32_w]
        rfl
      by_cases c3504 : 0 ≤ (wrap64 ((l3495.length : Int) - 1))
      · replace H := if_yes c3504 H
        have c3504b0 : decide (0 ≤ (wrap64 ((l3495.length : Int) - 1))) = true := decide_eq_true c3504
        have c3504p : (0 ≤ (wrap64 ((l3495.length : Int) - 1))) = True := eq_true c3504
        clear c3504
        by_cases c3505 : (wrap64 ((l3495.length : Int) - 1)) < (l3495.length : Int)
        · replace H := if_yes c3505 H
          have c3505b0 : decide ((wrap64 ((l3495.length : Int) - 1)) < (l3495.length : Int)) = true := decide_eq_true c3505
          have c3505p : ((wrap64 ((l3495.length : Int) - 1)) < (l3495.length : Int)) = True := eq_true c3505
          clear c3505
          refine pure_ (i := 8) (N := some 16) (v := ?_) (a' := ?_) #[true, true, false, false, true, true, true, true, true, false, false, false, false, false, false, false] rfl rfl (by kernel_rfl) (fun _ _ _ h => h) (Or.inl ⟨by rfl, ?_⟩) ?_ ?_
          rotate_left
          · intro w'
            go_simp
            with_reducible rfl
          rotate_left
          · simp only [Act.put, List.setIfInBounds_toArray, List.set_cons_zero, List.set_cons_succ, i64_w, i32_w]
            rfl
          refine pure_ (i := 11) (N := some 19) (v := ?_) (a' := ?_) #[true, true, false, false, true, true, true, true, true, false, false, true, false, false, false, false] rfl rfl (by kernel_rfl) (fun _ _ _ h => h) (Or.inl ⟨by rfl, ?_⟩) ?_ ?_
          rotate_left
          · intro w'
            go_simp
            with_reducible rfl
          rotate_left
          · simp only [Act.put, List.setIfInBounds_toArray, List.set_cons_zero, List.set_cons_succ, i64_w, i32_w]
            rfl
          refine pure_ (i := 12) (N := some 20) (v := ?_) (a' := ?_) #[true, true, false, false, true, true, true, true, true, false, false, true, true, false, false, false] rfl rfl (by kernel_rfl) (fun _ _ _ h => h) (Or.inl ⟨by rfl, ?_⟩) ?_ ?_
          rotate_left
          · intro w'
            go_simp
            with_reducible rfl
          rotate_left
          · simp only [Act.put, List.setIfInBounds_toArray, List.set_cons_zero, List.set_cons_succ, i64_w, i32_w]
            rfl
          refine take_ (i := 2) (N := some 10) (v := ?_) (a' := ?_) #[true, true, true, false, true, true, true, true, true, false, false, true, true, false, false, false] rfl rfl (by kernel_rfl) (fun _ _ _ h => h) (Or.inl ⟨by rfl, ?_⟩) hHeld ?_ ?_
          rotate_left
          · rintro w' hS'
            have s0 := hS'
            have hx := C_at_int s0 0 (by decide) (of_decide_eq_true c3502b0)
            have hx0 : w'.cell? ad3503 = some (.int .i64 (rd l3495 0)) := hx
            go_simp
            with_reducible rfl
          rotate_left
          · simp only [Act.put, List.setIfInBounds_toArray, List.set_cons_zero, List.set_cons_succ, i64_w, i32_w]
            rfl
          refine pure_ (i := 3) (N := some 11) (v := ?_) (a' := ?_) #[true, true, true, true, true, true, true, true, true, false, false, true, true, false, false, false] rfl rfl (by kernel_rfl) (fun _ _ _ h => h) (Or.inl ⟨by rfl, ?_⟩) ?_ ?_
          rotate_left
          · intro w'
            go_simp
            with_reducible rfl
          rotate_left
          · simp only [Act.put, List.setIfInBounds_toArray, List.set_cons_zero, List.set_cons_succ, i64_w, i32_w]
            rfl
          refine pure_ (i := 13) (N := some 2) (v := ?_) (a' := ?_) #[true, true, true, true, true, true, true, true, true, false, false, true, true, true, false, false] rfl rfl (by kernel_rfl) (fun _ _ _ h => h) (Or.inl ⟨by rfl, ?_⟩) ?_ ?_
          rotate_left
          · intro w'
            go_simp
            with_reducible rfl
          rotate_left
          · simp only [Act.put, List.setIfInBounds_toArray, List.set_cons_zero, List.set_cons_succ, i64_w, i32_w]
            rfl
          refine take_ (i := 9) (N := some 17) (v := ?_) (a' := ?_) #[true, true, true, true, true, true, true, true, true, true, false, true, true, true, false, false] rfl rfl (by kernel_rfl) (fun _ _ _ h => h) (Or.inl ⟨by rfl, ?_⟩) hHeld ?_ ?_
          rotate_left
          · rintro w' hS'
            have s0 := hS'
            have hx := C_at_int s0 (wrap64 ((l3495.length : Int) - 1)) (of_decide_eq_true c3504b0) (of_decide_eq_true c3505b0)
            go_simp
            with_reducible rfl
          rotate_left
          · simp only [Act.put, List.setIfInBounds_toArray, List.set_cons_zero, List.set_cons_succ, i64_w, i32_w]
            rfl
          refine pure_ (i := 10) (N := some 18) (v := ?_) (a' := ?_) #[true, true, true, true, true, true, true, true, true, true, true, true, true, true, false, false] rfl rfl (by kernel_rfl) (fun _ _ _ h => h) (Or.inl ⟨by rfl, ?_⟩) ?_ ?_
          rotate_left
          · intro w'
            go_simp
            with_reducible rfl
          rotate_left
          · simp only [Act.put, List.setIfInBounds_toArray, List.set_cons_zero, List.set_cons_succ, i64_w, i32_w]
            rfl
          refine pure_ (i := 14) (N := some 3) (v := ?_) (a' := ?_) #[true, true, true, true, true, true, true, true, true, true, true, true, true, true, true, false] rfl rfl (by kernel_rfl) (fun _ _ _ h => h) (Or.inl ⟨by rfl, ?_⟩) ?_ ?_
          rotate_left
          · intro w'
            go_simp
            with_reducible rfl
          rotate_left
          · simp only [Act.put, List.setIfInBounds_toArray, List.set_cons_zero, List.set_cons_succ, i64_w, i32_w]
            rfl
          refine pure_ (i := 15) (N := some 4) (v := ?_) (a' := ?_) #[true, true, true, true, true, true, true, true, true, true, true, true, true, true, true, true] rfl rfl (by kernel_rfl) (fun _ _ _ h => h) (Or.inl ⟨by rfl, ?_⟩) ?_ ?_
          rotate_left
          · intro w'
            go_simp
            with_reducible rfl
          rotate_left
          · simp only [Act.put, List.setIfInBounds_toArray, List.set_cons_zero, List.set_cons_succ, i64_w, i32_w]
            rfl
          refine done_ (by kernel_rfl) ?_
          go_wp2_with fail
          go_ret3
          rw [← some_eq H]
          exact ⟨(by first | rfl | (simp [IntKind.wrap_u32]; done)), HS.out⟩
        · replace H := if_no c3505 H
          have c3505b0 : decide ((wrap64 ((l3495.length : Int) - 1)) < (l3495.length : Int)) = false := decide_eq_false c3505
          clear c3505
          exact (none_no H).elim
      · replace H := if_no c3504 H
        have c3504b0 : decide (0 ≤ (wrap64 ((l3495.length : Int) - 1))) = false := decide_eq_false c3504
        clear c3504
        exact (none_no H).elim
    · replace H := if_no c3502 H
      have c3502b0 : decide (0 < (l3495.length : Int)) = false := decide_eq_false c3502
      have c3502b1 : decide (0 < l3495.length) = false := decide_eq_false (by omega)
      clear c3502
      exact (none_no H).elim

set_option maxHeartbeats 30000000 in
set_option maxRecDepth 100000 in
theorem quitrentref09_Ahead.calls (l3534 : List Int) (a3538 : Int) (A3535 : Option Addr) (n3536 : Nat) (r : Int) (w : World) (HR3537 : Aside0 (Rd (Kd.int .i64) (fps []) w A3535 l3534.length l3534)) (HGl0 : Aside0 (Gl 0 #[.int .i64 0, .int .i64 0, .int .i64 0, .int .i64 0, .int .i64 0] (fps []) w)) (HS : Aside0 (Sep (fps []) w [] w)) (H : Aside0 (quitrentref09_Ahead.f l3534 a3538 = some r)) :
    Calls Tryd.prog 94 #[.slice A3535 l3534.length n3536, .int .i64 a3538] w fun e w' => e = .returned (.int .i64 r) ∧ Sep (fps []) w [] w' := by
  unfold quitrentref09_Ahead.f at H
  go_enter Tryd.func94, Tryd.ntmps94
  by_cases c3539 : a3538 < 1
  · replace H := if_yes c3539 H
    have c3539b0 : decide (a3538 < 1) = true := decide_eq_true c3539
    clear c3539
    go_wp2_with fail
    go_ret
    rw [← some_eq H]
    exact ⟨(by first | rfl | (simp [IntKind.wrap_u32]; done)), HS.out⟩
  · replace H := if_no c3539 H
    have c3539b0 : decide (a3538 < 1) = false := decide_eq_false c3539
    clear c3539
    by_cases c3540 : 0 ≤ (wrap64 (a3538 - 1))
    · replace H := if_yes c3540 H
      have c3540b0 : decide (0 ≤ (wrap64 (a3538 - 1))) = true := decide_eq_true c3540
      have c3540p : (0 ≤ (wrap64 (a3538 - 1))) = True := eq_true c3540
      clear c3540
      by_cases c3541 : (wrap64 (a3538 - 1)) < (l3534.length : Int)
      · replace H := if_yes c3541 H
        have c3541b0 : decide ((wrap64 (a3538 - 1)) < (l3534.length : Int)) = true := decide_eq_true c3541
        have c3541p : ((wrap64 (a3538 - 1)) < (l3534.length : Int)) = True := eq_true c3541
        clear c3541
        obtain ⟨hx3542a, hx3542e, hx3542⟩ := Kd.at_int (Rd.read (fun _ _ _ _ h => h) HR3537.out HS.out.fr) (wrap64 (a3538 - 1)) (of_decide_eq_true c3540b0) (of_decide_eq_true c3541b0); cases hx3542e
        go_wp2_with fail
        clear hx3542
        go_ret
        rw [← some_eq H]
        exact ⟨(by first | rfl | (simp [IntKind.wrap_u32]; done)), HS.out⟩
      · replace H := if_no c3541 H
        have c3541b0 : decide ((wrap64 (a3538 - 1)) < (l3534.length : Int)) = false := decide_eq_false c3541
        clear c3541
        exact (none_no H).elim
    · replace H := if_no c3540 H
      have c3540b0 : decide (0 ≤ (wrap64 (a3538 - 1))) = false := decide_eq_false c3540
      clear c3540
      exact (none_no H).elim

set_option maxHeartbeats 30000000 in
set_option maxRecDepth 100000 in
theorem quitrentref08_Next.calls (l3550 : List Int) (a3554 : Int) (A3551 : Option Addr) (n3552 : Nat) (r : Int) (w : World) (HR3553 : Aside0 (Rd (Kd.int .i64) (fps []) w A3551 l3550.length l3550)) (HGl0 : Aside0 (Gl 0 #[.int .i64 0, .int .i64 0, .int .i64 0, .int .i64 0, .int .i64 0] (fps []) w)) (HS : Aside0 (Sep (fps []) w [] w)) (H : Aside0 (quitrentref08_Next.f l3550 a3554 = some r)) :
    Calls Tryd.prog 95 #[.slice A3551 l3550.length n3552, .int .i64 a3554] w fun e w' => e = .returned (.int .i64 r) ∧ Sep (fps []) w [] w' := by
  unfold quitrentref08_Next.f at H
  go_enter Tryd.func95, Tryd.ntmps95
  by_cases c3555 : (wrap64 (a3554 + 1)) ≥ (l3550.length : Int)
  · replace H := if_yes c3555 H
    have c3555b0 : decide ((l3550.length : Int) ≤ (wrap64 (a3554 + 1))) = true := decide_eq_true c3555
    clear c3555
    go_wp2_with fail
    go_ret
    rw [← some_eq H]
    exact ⟨(by first | rfl | (simp [IntKind.wrap_u32]; done)), HS.out⟩
  · replace H := if_no c3555 H
    have c3555b0 : decide ((l3550.length : Int) ≤ (wrap64 (a3554 + 1))) = false := decide_eq_false c3555
    clear c3555
    by_cases c3556 : 0 ≤ (wrap64 (a3554 + 1))
    · replace H := if_yes c3556 H
      have c3556b0 : decide (0 ≤ (wrap64 (a3554 + 1))) = true := decide_eq_true c3556
      have c3556p : (0 ≤ (wrap64 (a3554 + 1))) = True := eq_true c3556
      clear c3556
      by_cases c3557 : (wrap64 (a3554 + 1)) < (l3550.length : Int)
      · replace H := if_yes c3557 H
        have c3557b0 : decide ((wrap64 (a3554 + 1)) < (l3550.length : Int)) = true := decide_eq_true c3557
        have c3557p : ((wrap64 (a3554 + 1)) < (l3550.length : Int)) = True := eq_true c3557
        clear c3557
        obtain ⟨hx3558a, hx3558e, hx3558⟩ := Kd.at_int (Rd.read (fun _ _ _ _ h => h) HR3553.out HS.out.fr) (wrap64 (a3554 + 1)) (of_decide_eq_true c3556b0) (of_decide_eq_true c3557b0); cases hx3558e
        go_wp2_with fail
        clear hx3558
        go_ret
        rw [← some_eq H]
        exact ⟨(by first | rfl | (simp [IntKind.wrap_u32]; done)), HS.out⟩
      · replace H := if_no c3557 H
        have c3557b0 : decide ((wrap64 (a3554 + 1)) < (l3550.length : Int)) = false := decide_eq_false c3557
        clear c3557
        exact (none_no H).elim
    · replace H := if_no c3556 H
      have c3556b0 : decide (0 ≤ (wrap64 (a3554 + 1))) = false := decide_eq_false c3556
      clear c3556
      exact (none_no H).elim
end Go.Proofs.YtobeonkddamnoaaDoor.C

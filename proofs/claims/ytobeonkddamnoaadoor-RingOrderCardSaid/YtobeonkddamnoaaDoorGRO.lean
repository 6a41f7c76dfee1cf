/- Each function of the group RO does what its plain function says, and changes nothing that was there; proved by walking its code. No condition. -/
import Derived.Test.YtobeonkddamnoaaDoorQw
import Derived.Test.YtobeonkddamnoaaDoorMRO
import Derived.Test.YtobeonkddamnoaaDoorGRO0
import Derived.Test.YtobeonkddamnoaaDoorGRO1
namespace Go.Proofs.YtobeonkddamnoaaDoor.C
open Go.RowKit Go.Proofs.YtobeonkddamnoaaDoorW.PrintWords Go.Proofs.YtobeonkddamnoaaDoorW.PrintLast Go.Proofs.YtobeonkddamnoaaDoor.Q Go.Proofs.YtobeonkddamnoaaDoor.M
set_option linter.unusedVariables false
set_option linter.unusedSimpArgs false
set_option maxHeartbeats 30000000 in
set_option maxRecDepth 100000 in
theorem ring_Cut.calls (k : Nat) (l2426 : List Int) (a2431 : Int) (a2432 : Int) (a2433 : Int) (a2434 : Int) (a2435 : Int) (a2436 : Int) (g2422 : Nat) (g2424 : Nat) (A2427 : Option Addr) (m2428 : Nat) (n2429 : Nat) (r : Bool × Int × List Int) (w : World)  (HGl0 : Aside0 (Gl 0 #[.int .i64 0, .int .i64 0, .int .i64 0, .int .i64 0, .int .i64 0] (fps [b8 g2422 g2424 a2432 a2433 a2434 a2435, b7 g2424 A2427 m2428 n2429 a2431, r6 A2427 m2428 n2429 l2426]) w)) (HS : Aside0 (Sep (fps [b8 g2422 g2424 a2432 a2433 a2434 a2435, b7 g2424 A2427 m2428 n2429 a2431, r6 A2427 m2428 n2429 l2426]) w [b8 g2422 g2424 a2432 a2433 a2434 a2435, b7 g2424 A2427 m2428 n2429 a2431, r6 A2427 m2428 n2429 l2426] w)) (H : Aside0 (ring_Cut.f k l2426 a2431 a2432 a2433 a2434 a2435 a2436 = some r)) :
    Calls Tryd.prog 24 #[.pointer (some ⟨g2422, 0, none⟩), .int .i64 a2436] w fun e w' => e = .returned (.bool r.1) ∧ Sep (fps [b8 g2422 g2424 a2432 a2433 a2434 a2435, b7 g2424 A2427 m2428 n2429 a2431, r6 A2427 m2428 n2429 l2426]) w [b8 g2422 g2424 a2432 a2433 a2434 a2435, b7 g2424 A2427 m2428 n2429 r.2.1, r6 A2427 m2428 n2429 r.2.2] w' := by
  generalize (fps [b8 g2422 g2424 a2432 a2433 a2434 a2435, b7 g2424 A2427 m2428 n2429 a2431, r6 A2427 m2428 n2429 l2426]) = FF at HS HGl0 ⊢
  obtain rfl := (row_len (HS.out.at2)).symm
  unfold ring_Cut.f at H
  go_enter Tryd.func24, Tryd.ntmps24
  go_wp2_with fail
  obtain ⟨t2493, HA2494, H⟩ := bind_some H
  refine (ring_marked.calls l2426 a2431 a2432 a2433 a2434 a2435 a2436 1 g2422 g2424 A2427 l2426.length n2429 t2493 _ ⟨HGl0.out.pass HS.out⟩ ⟨HS.out.begin⟩ HA2494).mono ?_
  rintro e_ w2495 ⟨rfl, hS⟩
  replace HS : Aside0 (Sep FF w [b8 g2422 g2424 a2432 a2433 a2434 a2435, b7 g2424 A2427 l2426.length n2429 t2493.2.2.2.2.2.2.2.2, r6 A2427 l2426.length n2429 l2426] w2495) := ⟨HS.out.call hS⟩
  clear hS
  by_cases c2514 : t2493.2.2.2.2.2.2.2.1 = true
  · replace H := if_yes c2514 H
    have c2514b0 : t2493.2.2.2.2.2.2.2.1 = true := c2514
    have c2514b1 : (!t2493.2.2.2.2.2.2.2.1) = false := by rw [c2514b0]; rfl
    try rw [c2514b1]
    clear c2514
    go_wp2_with (first | ((with_reducible refine gate_dst (N := 5) rfl ?_); refine box_on ?hg (N := 5) ?hd (cs := #[.int .i64 0, .int .i64 0, .int .i64 0, .int .i64 0, .int .i64 0, .int .i64 0, .int .i64 0]) (t := 32) ?hr ?_; (case hd => rfl); (case hg => rfl); (case hr => first | (go_simp; done) | (go_simp; rfl)); intro g2496 hg w2497 hbox hb; replace HS : Aside0 (Sep FF w [b8 g2422 g2424 a2432 a2433 a2434 a2435, b7 g2424 A2427 l2426.length n2429 t2493.2.2.2.2.2.2.2.2, r6 A2427 l2426.length n2429 l2426, b9 g2496 0 0 0 0 0 0 0] w2497) := ⟨HS.out.box hg hbox hb⟩; clear hg hbox hb; have hc2499 : w2497.cell? ⟨g2496, 0, none⟩ = some (.int .i64 0) := blk_cellv (HS.out.at3) 0 rfl; have hz2500 : w2497.frozen? ⟨g2496, 0, none⟩ = false := blk_fz (HS.out.at3) 0; have hc2501 : w2497.cell? ⟨g2496, 1, none⟩ = some (.int .i64 0) := blk_cellv (HS.out.at3) 1 rfl; have hz2502 : w2497.frozen? ⟨g2496, 1, none⟩ = false := blk_fz (HS.out.at3) 1; have hc2503 : w2497.cell? ⟨g2496, 2, none⟩ = some (.int .i64 0) := blk_cellv (HS.out.at3) 2 rfl; have hz2504 : w2497.frozen? ⟨g2496, 2, none⟩ = false := blk_fz (HS.out.at3) 2; have hc2505 : w2497.cell? ⟨g2496, 3, none⟩ = some (.int .i64 0) := blk_cellv (HS.out.at3) 3 rfl; have hz2506 : w2497.frozen? ⟨g2496, 3, none⟩ = false := blk_fz (HS.out.at3) 3; have hc2507 : w2497.cell? ⟨g2496, 4, none⟩ = some (.int .i64 0) := blk_cellv (HS.out.at3) 4 rfl; have hz2508 : w2497.frozen? ⟨g2496, 4, none⟩ = false := blk_fz (HS.out.at3) 4; have hc2509 : w2497.cell? ⟨g2496, 5, none⟩ = some (.int .i64 0) := blk_cellv (HS.out.at3) 5 rfl; have hz2510 : w2497.frozen? ⟨g2496, 5, none⟩ = false := blk_fz (HS.out.at3) 5; have hc2511 : w2497.cell? ⟨g2496, 6, none⟩ = some (.int .i64 0) := blk_cellv (HS.out.at3) 6 rfl; have hz2512 : w2497.frozen? ⟨g2496, 6, none⟩ = false := blk_fz (HS.out.at3) 6) | ((with_reducible refine gate_store (t := 32) (p := 5) rfl ?_); refine store_event (w1 := (World.setCell (World.setCell (World.setCell (World.setCell (World.setCell (World.setCell (World.setCell w2497 ⟨g2496, 0, none⟩ (.int .i64 t2493.1)) ⟨g2496, 1, none⟩ (.int .i64 t2493.2.1)) ⟨g2496, 2, none⟩ (.int .i64 t2493.2.2.1)) ⟨g2496, 3, none⟩ (.int .i64 t2493.2.2.2.1)) ⟨g2496, 4, none⟩ (.int .i64 t2493.2.2.2.2.1)) ⟨g2496, 5, none⟩ (.int .i64 t2493.2.2.2.2.2.1)) ⟨g2496, 6, none⟩ (.int .i64 t2493.2.2.2.2.2.2.1))) rfl (t := 32) (p := 5) rfl rfl ?hr ?_; (case hr => first | (go_simp; done) | (go_simp; rfl)); intro w2513 hst; clear hc2499 hz2500 hc2501 hz2502 hc2503 hz2504 hc2505 hz2506 hc2507 hz2508 hc2509 hz2510 hc2511 hz2512; replace HS : Aside0 (Sep FF w [b8 g2422 g2424 a2432 a2433 a2434 a2435, b7 g2424 A2427 l2426.length n2429 t2493.2.2.2.2.2.2.2.2, r6 A2427 l2426.length n2429 l2426, b9 g2496 t2493.1 t2493.2.1 t2493.2.2.1 t2493.2.2.2.1 t2493.2.2.2.2.1 t2493.2.2.2.2.2.1 t2493.2.2.2.2.2.2.1] w2513) := ⟨by rw [hst]; exact HS.out.setAll (l1 := [b8 g2422 g2424 a2432 a2433 a2434 a2435, b7 g2424 A2427 l2426.length n2429 t2493.2.2.2.2.2.2.2.2, r6 A2427 l2426.length n2429 l2426]) (l2 := []) [.int .i64 t2493.1, .int .i64 t2493.2.1, .int .i64 t2493.2.2.1, .int .i64 t2493.2.2.2.1, .int .i64 t2493.2.2.2.2.1, .int .i64 t2493.2.2.2.2.2.1, .int .i64 t2493.2.2.2.2.2.2.1] rfl⟩; clear hst; have hc2515 : w2513.cell? ⟨g2496, 0, none⟩ = some (.int .i64 t2493.1) := blk_cellv (HS.out.at3) 0 rfl; have hc2516 : w2513.cell? ⟨g2496, 1, none⟩ = some (.int .i64 t2493.2.1) := blk_cellv (HS.out.at3) 1 rfl; have hc2517 : w2513.cell? ⟨g2496, 2, none⟩ = some (.int .i64 t2493.2.2.1) := blk_cellv (HS.out.at3) 2 rfl; have hc2518 : w2513.cell? ⟨g2496, 3, none⟩ = some (.int .i64 t2493.2.2.2.1) := blk_cellv (HS.out.at3) 3 rfl; have hc2519 : w2513.cell? ⟨g2496, 4, none⟩ = some (.int .i64 t2493.2.2.2.2.1) := blk_cellv (HS.out.at3) 4 rfl; have hc2520 : w2513.cell? ⟨g2496, 5, none⟩ = some (.int .i64 t2493.2.2.2.2.2.1) := blk_cellv (HS.out.at3) 5 rfl; have hc2521 : w2513.cell? ⟨g2496, 6, none⟩ = some (.int .i64 t2493.2.2.2.2.2.2.1) := blk_cellv (HS.out.at3) 6 rfl))
    clear hc2515 hc2516 hc2517 hc2518 hc2519 hc2520 hc2521
    obtain ⟨t2522, HA2523, H⟩ := bind_some H
    refine (ring_mark.calls _ l2426 t2493.2.2.2.2.2.2.2.2 a2432 a2433 a2434 a2435 a2436 t2493.1 t2493.2.1 t2493.2.2.1 t2493.2.2.2.1 t2493.2.2.2.2.1 t2493.2.2.2.2.2.1 t2493.2.2.2.2.2.2.1 0 g2422 g2424 A2427 l2426.length n2429 t2522 _ ⟨HGl0.out.pass HS.out⟩ ⟨HS.out.begin⟩ HA2523).mono ?_
    rintro e_ w2524 ⟨rfl, hS⟩
    replace HS : Aside0 (Sep FF w [b8 g2422 g2424 a2432 a2433 a2434 a2435, b7 g2424 A2427 l2426.length n2429 t2522.1, r6 A2427 l2426.length n2429 t2522.2, b9 g2496 t2493.1 t2493.2.1 t2493.2.2.1 t2493.2.2.2.1 t2493.2.2.2.2.1 t2493.2.2.2.2.2.1 t2493.2.2.2.2.2.2.1] w2524) := ⟨HS.out.call hS⟩
    clear hS
    replace HS : Aside0 (Sep FF w [b8 g2422 g2424 a2432 a2433 a2434 a2435, b7 g2424 A2427 l2426.length n2429 t2522.1, r6 A2427 l2426.length n2429 t2522.2] w2524) := ⟨HS.out.sub (.cons_cons _ (.cons_cons _ (.cons_cons _ (.cons _ .slnil))))⟩
    go_wp2_with fail
    obtain ⟨t2525, HA2526, H⟩ := bind_some H
    refine (ground_Ground_Word.calls t2522.2 t2522.1 a2432 a2433 a2434 a2435 a2436 6 g2422 g2424 A2427 l2426.length n2429 t2525 _ ⟨HGl0.out.pass HS.out⟩ ⟨HS.out.begin⟩ HA2526).mono ?_
    rintro e_ w2527 ⟨rfl, hS⟩
    replace HS : Aside0 (Sep FF w [b8 g2422 g2424 a2432 a2433 a2434 a2435, b7 g2424 A2427 l2426.length n2429 t2525.2, r6 A2427 l2426.length n2429 t2522.2] w2527) := ⟨HS.out.call hS⟩
    clear hS
    go_wp2_with fail
    obtain ⟨t2528, HA2529, H⟩ := bind_some H
    refine (ground_Ground_Word.calls t2522.2 t2525.2 a2432 a2433 a2434 a2435 a2436 7 g2422 g2424 A2427 l2426.length n2429 t2528 _ ⟨HGl0.out.pass HS.out⟩ ⟨HS.out.begin⟩ HA2529).mono ?_
    rintro e_ w2530 ⟨rfl, hS⟩
    replace HS : Aside0 (Sep FF w [b8 g2422 g2424 a2432 a2433 a2434 a2435, b7 g2424 A2427 l2426.length n2429 t2528.2, r6 A2427 l2426.length n2429 t2522.2] w2530) := ⟨HS.out.call hS⟩
    clear hS
    go_wp2_with fail
    obtain ⟨t2531, HA2532, H⟩ := bind_some H
    refine (ring_link.calls t2522.2 t2528.2 a2432 a2433 a2434 a2435 (wrap64 (t2525.1)) 7 7 (wrap64 (t2528.1)) g2422 g2424 A2427 l2426.length n2429 t2531 _ ⟨HGl0.out.pass HS.out⟩ ⟨HS.out.begin⟩ HA2532).mono ?_
    rintro e_ w2533 ⟨rfl, hS⟩
    replace HS : Aside0 (Sep FF w [b8 g2422 g2424 a2432 a2433 a2434 a2435, b7 g2424 A2427 l2426.length n2429 t2531.1, r6 A2427 l2426.length n2429 t2531.2] w2533) := ⟨HS.out.call hS⟩
    clear hS
    go_wp2_with fail
    obtain ⟨t2534, HA2535, H⟩ := bind_some H
    refine (ring_link.calls t2531.2 t2531.1 a2432 a2433 a2434 a2435 (wrap64 (t2528.1)) 6 8 (wrap64 (t2525.1)) g2422 g2424 A2427 l2426.length n2429 t2534 _ ⟨HGl0.out.pass HS.out⟩ ⟨HS.out.begin⟩ HA2535).mono ?_
    rintro e_ w2536 ⟨rfl, hS⟩
    replace HS : Aside0 (Sep FF w [b8 g2422 g2424 a2432 a2433 a2434 a2435, b7 g2424 A2427 l2426.length n2429 t2534.1, r6 A2427 l2426.length n2429 t2534.2] w2536) := ⟨HS.out.call hS⟩
    clear hS
    go_wp2_with fail
    obtain ⟨t2537, HA2538, H⟩ := bind_some H
    refine (ground_Ground_SetWord.calls t2534.2 t2534.1 a2432 a2433 a2434 a2435 a2436 6 0 g2422 g2424 A2427 l2426.length n2429 t2537 _ ⟨HGl0.out.pass HS.out⟩ ⟨HS.out.begin⟩ HA2538).mono ?_
    rintro e_ w2539 ⟨rfl, hS⟩
    replace HS : Aside0 (Sep FF w [b8 g2422 g2424 a2432 a2433 a2434 a2435, b7 g2424 A2427 l2426.length n2429 t2537.2.1, r6 A2427 l2426.length n2429 t2537.2.2] w2539) := ⟨HS.out.call hS⟩
    clear hS
    go_wp2_with fail
    obtain ⟨t2540, HA2541, H⟩ := bind_some H
    refine (ground_Ground_SetWord.calls t2537.2.2 t2537.2.1 a2432 a2433 a2434 a2435 a2436 7 0 g2422 g2424 A2427 l2426.length n2429 t2540 _ ⟨HGl0.out.pass HS.out⟩ ⟨HS.out.begin⟩ HA2541).mono ?_
    rintro e_ w2542 ⟨rfl, hS⟩
    replace HS : Aside0 (Sep FF w [b8 g2422 g2424 a2432 a2433 a2434 a2435, b7 g2424 A2427 l2426.length n2429 t2540.2.1, r6 A2427 l2426.length n2429 t2540.2.2] w2542) := ⟨HS.out.call hS⟩
    clear hS
    go_wp2_with fail
    obtain ⟨t2543, HA2544, H⟩ := bind_some H
    refine (ground_Ground_Reg.calls t2540.2.2 t2540.2.1 a2432 a2433 a2434 a2435 9 g2422 g2424 A2427 l2426.length n2429 t2543 _ ⟨HGl0.out.pass HS.out⟩ ⟨HS.out.begin⟩ HA2544).mono ?_
    rintro e_ w2545 ⟨rfl, hS⟩
    replace HS : Aside0 (Sep FF w [b8 g2422 g2424 a2432 a2433 a2434 a2435, b7 g2424 A2427 l2426.length n2429 t2543.2, r6 A2427 l2426.length n2429 t2540.2.2] w2545) := ⟨HS.out.call hS⟩
    clear hS
    go_wp2_with fail
    obtain ⟨t2546, HA2547, H⟩ := bind_some H
    refine (ground_Ground_SetReg.calls t2540.2.2 t2543.2 a2432 a2433 a2434 a2435 9 (wrap64 (t2543.1 - 1)) g2422 g2424 A2427 l2426.length n2429 t2546 _ ⟨HGl0.out.pass HS.out⟩ ⟨HS.out.begin⟩ HA2547).mono ?_
    rintro e_ w2548 ⟨rfl, hS⟩
    replace HS : Aside0 (Sep FF w [b8 g2422 g2424 a2432 a2433 a2434 a2435, b7 g2424 A2427 l2426.length n2429 t2546.2.1, r6 A2427 l2426.length n2429 t2546.2.2] w2548) := ⟨HS.out.call hS⟩
    clear hS
    go_wp2_with fail
    go_ret
    rw [← some_eq H]
    exact ⟨(by first | rfl | (simp [IntKind.wrap_u32]; done)), HS.out⟩
  · replace H := if_no c2514 H
    have c2514b0 : t2493.2.2.2.2.2.2.2.1 = false := by simpa using c2514
    have c2514b1 : (!t2493.2.2.2.2.2.2.2.1) = true := by rw [c2514b0]; rfl
    try rw [c2514b1]
    clear c2514
    go_wp2_with (first | ((with_reducible refine gate_dst (N := 5) rfl ?_); refine box_on ?hg (N := 5) ?hd (cs := #[.int .i64 0, .int .i64 0, .int .i64 0, .int .i64 0, .int .i64 0, .int .i64 0, .int .i64 0]) (t := 32) ?hr ?_; (case hd => rfl); (case hg => rfl); (case hr => first | (go_simp; done) | (go_simp; rfl)); intro g2496 hg w2497 hbox hb; replace HS : Aside0 (Sep FF w [b8 g2422 g2424 a2432 a2433 a2434 a2435, b7 g2424 A2427 l2426.length n2429 t2493.2.2.2.2.2.2.2.2, r6 A2427 l2426.length n2429 l2426, b9 g2496 0 0 0 0 0 0 0] w2497) := ⟨HS.out.box hg hbox hb⟩; clear hg hbox hb; have hc2499 : w2497.cell? ⟨g2496, 0, none⟩ = some (.int .i64 0) := blk_cellv (HS.out.at3) 0 rfl; have hz2500 : w2497.frozen? ⟨g2496, 0, none⟩ = false := blk_fz (HS.out.at3) 0; have hc2501 : w2497.cell? ⟨g2496, 1, none⟩ = some (.int .i64 0) := blk_cellv (HS.out.at3) 1 rfl; have hz2502 : w2497.frozen? ⟨g2496, 1, none⟩ = false := blk_fz (HS.out.at3) 1; have hc2503 : w2497.cell? ⟨g2496, 2, none⟩ = some (.int .i64 0) := blk_cellv (HS.out.at3) 2 rfl; have hz2504 : w2497.frozen? ⟨g2496, 2, none⟩ = false := blk_fz (HS.out.at3) 2; have hc2505 : w2497.cell? ⟨g2496, 3, none⟩ = some (.int .i64 0) := blk_cellv (HS.out.at3) 3 rfl; have hz2506 : w2497.frozen? ⟨g2496, 3, none⟩ = false := blk_fz (HS.out.at3) 3; have hc2507 : w2497.cell? ⟨g2496, 4, none⟩ = some (.int .i64 0) := blk_cellv (HS.out.at3) 4 rfl; have hz2508 : w2497.frozen? ⟨g2496, 4, none⟩ = false := blk_fz (HS.out.at3) 4; have hc2509 : w2497.cell? ⟨g2496, 5, none⟩ = some (.int .i64 0) := blk_cellv (HS.out.at3) 5 rfl; have hz2510 : w2497.frozen? ⟨g2496, 5, none⟩ = false := blk_fz (HS.out.at3) 5; have hc2511 : w2497.cell? ⟨g2496, 6, none⟩ = some (.int .i64 0) := blk_cellv (HS.out.at3) 6 rfl; have hz2512 : w2497.frozen? ⟨g2496, 6, none⟩ = false := blk_fz (HS.out.at3) 6) | ((with_reducible refine gate_store (t := 32) (p := 5) rfl ?_); refine store_event (w1 := (World.setCell (World.setCell (World.setCell (World.setCell (World.setCell (World.setCell (World.setCell w2497 ⟨g2496, 0, none⟩ (.int .i64 t2493.1)) ⟨g2496, 1, none⟩ (.int .i64 t2493.2.1)) ⟨g2496, 2, none⟩ (.int .i64 t2493.2.2.1)) ⟨g2496, 3, none⟩ (.int .i64 t2493.2.2.2.1)) ⟨g2496, 4, none⟩ (.int .i64 t2493.2.2.2.2.1)) ⟨g2496, 5, none⟩ (.int .i64 t2493.2.2.2.2.2.1)) ⟨g2496, 6, none⟩ (.int .i64 t2493.2.2.2.2.2.2.1))) rfl (t := 32) (p := 5) rfl rfl ?hr ?_; (case hr => first | (go_simp; done) | (go_simp; rfl)); intro w2513 hst; clear hc2499 hz2500 hc2501 hz2502 hc2503 hz2504 hc2505 hz2506 hc2507 hz2508 hc2509 hz2510 hc2511 hz2512; replace HS : Aside0 (Sep FF w [b8 g2422 g2424 a2432 a2433 a2434 a2435, b7 g2424 A2427 l2426.length n2429 t2493.2.2.2.2.2.2.2.2, r6 A2427 l2426.length n2429 l2426, b9 g2496 t2493.1 t2493.2.1 t2493.2.2.1 t2493.2.2.2.1 t2493.2.2.2.2.1 t2493.2.2.2.2.2.1 t2493.2.2.2.2.2.2.1] w2513) := ⟨by rw [hst]; exact HS.out.setAll (l1 := [b8 g2422 g2424 a2432 a2433 a2434 a2435, b7 g2424 A2427 l2426.length n2429 t2493.2.2.2.2.2.2.2.2, r6 A2427 l2426.length n2429 l2426]) (l2 := []) [.int .i64 t2493.1, .int .i64 t2493.2.1, .int .i64 t2493.2.2.1, .int .i64 t2493.2.2.2.1, .int .i64 t2493.2.2.2.2.1, .int .i64 t2493.2.2.2.2.2.1, .int .i64 t2493.2.2.2.2.2.2.1] rfl⟩; clear hst; replace HS : Aside0 (Sep FF w [b8 g2422 g2424 a2432 a2433 a2434 a2435, b7 g2424 A2427 l2426.length n2429 t2493.2.2.2.2.2.2.2.2, r6 A2427 l2426.length n2429 l2426] w2513) := ⟨HS.out.sub (.cons_cons _ (.cons_cons _ (.cons_cons _ (.cons _ .slnil))))⟩))
    go_ret
    rw [← some_eq H]
    exact ⟨(by first | rfl | (simp [IntKind.wrap_u32]; done)), HS.out⟩

set_option maxHeartbeats 30000000 in
set_option maxRecDepth 100000 in
theorem store_Store_Peek.calls (l2593 : List Int) (a2598 : Int) (a2599 : Int) (g2591 : Nat) (A2594 : Option Addr) (m2595 : Nat) (n2596 : Nat) (r : Int) (w : World)  (HGl0 : Aside0 (Gl 0 #[.int .i64 0, .int .i64 0, .int .i64 0, .int .i64 0, .int .i64 0] (fps [b7 g2591 A2594 m2595 n2596 a2598, r6 A2594 m2595 n2596 l2593]) w)) (HS : Aside0 (Sep (fps [b7 g2591 A2594 m2595 n2596 a2598, r6 A2594 m2595 n2596 l2593]) w [b7 g2591 A2594 m2595 n2596 a2598, r6 A2594 m2595 n2596 l2593] w)) (H : Aside0 (store_Store_Peek.f l2593 a2598 a2599 = some r)) :
    Calls Tryd.prog 73 #[.pointer (some ⟨g2591, 0, none⟩), .int .i64 a2599] w fun e w' => e = .returned (.int .u32 r) ∧ Sep (fps [b7 g2591 A2594 m2595 n2596 a2598, r6 A2594 m2595 n2596 l2593]) w [b7 g2591 A2594 m2595 n2596 a2598, r6 A2594 m2595 n2596 l2593] w' := by
  generalize (fps [b7 g2591 A2594 m2595 n2596 a2598, r6 A2594 m2595 n2596 l2593]) = FF at HS HGl0 ⊢
  obtain rfl := (row_len (HS.out.at1)).symm
  unfold store_Store_Peek.f at H
  go_enter Tryd.func73, Tryd.ntmps73
  go_wp2_with fail
  obtain ⟨t2600, HA2601, H⟩ := bind_some H
  refine (store_Store_has.calls l2593 a2598 a2599 g2591 A2594 l2593.length n2596 t2600 _ ⟨HGl0.out.pass HS.out⟩ ⟨HS.out.begin⟩ HA2601).mono ?_
  rintro e_ w2602 ⟨rfl, hS⟩
  replace HS : Aside0 (Sep FF w [b7 g2591 A2594 l2593.length n2596 a2598, r6 A2594 l2593.length n2596 l2593] w2602) := ⟨HS.out.call hS⟩
  clear hS
  by_cases c2603 : t2600 = true
  · replace H := if_yes c2603 H
    have c2603b0 : t2600 = true := c2603
    have c2603b1 : (!t2600) = false := by rw [c2603b0]; rfl
    try rw [c2603b1]
    clear c2603
    by_cases c2605 : 0 ≤ a2599
    · replace H := if_yes c2605 H
      have c2605b0 : decide (0 ≤ a2599) = true := decide_eq_true c2605
      have c2605p : (0 ≤ a2599) = True := eq_true c2605
      clear c2605
      by_cases c2606 : a2599 < (l2593.length : Int)
      · replace H := if_yes c2606 H
        have c2606b0 : decide (a2599 < (l2593.length : Int)) = true := decide_eq_true c2606
        have c2606p : (a2599 < (l2593.length : Int)) = True := eq_true c2606
        clear c2606
        have hc2604 : w2602.cell? ⟨g2591, 0, none⟩ = some (.slice A2594 l2593.length n2596) := blk_cellv (HS.out.at0) 0 rfl
        obtain ⟨g2607, ea⟩ := row_at (HS.out.at1) (by have := (of_decide_eq_true c2605b0); have := (of_decide_eq_true c2606b0); omega); cases ea
        have hx2608 := C_at_int (row_Ci (HS.out.at1)) a2599 (of_decide_eq_true c2605b0) (of_decide_eq_true c2606b0)
        have hx2609 : w2602.cell? ⟨g2607, (a2599).toNat, none⟩ = some (.int .u32 (rd l2593 a2599)) := (row_get 0 (HS.out.at1) a2599 (of_decide_eq_true c2605b0) (of_decide_eq_true c2606b0)).1
        go_wp2_with fail
        clear hc2604 hx2608 hx2609
        go_ret
        rw [← some_eq H]
        exact ⟨(by first | rfl | (simp [IntKind.wrap_u32]; done)), HS.out⟩
      · replace H := if_no c2606 H
        have c2606b0 : decide (a2599 < (l2593.length : Int)) = false := decide_eq_false c2606
        clear c2606
        exact (none_no H).elim
    · replace H := if_no c2605 H
      have c2605b0 : decide (0 ≤ a2599) = false := decide_eq_false c2605
      clear c2605
      exact (none_no H).elim
  · replace H := if_no c2603 H
    have c2603b0 : t2600 = false := by simpa using c2603
    have c2603b1 : (!t2600) = true := by rw [c2603b0]; rfl
    try rw [c2603b1]
    clear c2603
    go_wp2_with fail
    go_ret
    rw [← some_eq H]
    exact ⟨(by first | rfl | (simp [IntKind.wrap_u32]; done)), HS.out⟩

set_option maxHeartbeats 30000000 in
set_option maxRecDepth 100000 in
theorem ground_Ground_SeeReg.calls (l2573 : List Int) (a2578 : Int) (a2579 : Int) (a2580 : Int) (a2581 : Int) (a2582 : Int) (a2583 : Int) (g2569 : Nat) (g2571 : Nat) (A2574 : Option Addr) (m2575 : Nat) (n2576 : Nat) (r : Int) (w : World)  (HGl0 : Aside0 (Gl 0 #[.int .i64 0, .int .i64 0, .int .i64 0, .int .i64 0, .int .i64 0] (fps [b8 g2569 g2571 a2579 a2580 a2581 a2582, b7 g2571 A2574 m2575 n2576 a2578, r6 A2574 m2575 n2576 l2573]) w)) (HS : Aside0 (Sep (fps [b8 g2569 g2571 a2579 a2580 a2581 a2582, b7 g2571 A2574 m2575 n2576 a2578, r6 A2574 m2575 n2576 l2573]) w [b8 g2569 g2571 a2579 a2580 a2581 a2582, b7 g2571 A2574 m2575 n2576 a2578, r6 A2574 m2575 n2576 l2573] w)) (H : Aside0 (ground_Ground_SeeReg.f l2573 a2578 a2579 a2580 a2581 a2582 a2583 = some r)) :
    Calls Tryd.prog 85 #[.pointer (some ⟨g2569, 0, none⟩), .int .i64 a2583] w fun e w' => e = .returned (.int .i64 r) ∧ Sep (fps [b8 g2569 g2571 a2579 a2580 a2581 a2582, b7 g2571 A2574 m2575 n2576 a2578, r6 A2574 m2575 n2576 l2573]) w [b8 g2569 g2571 a2579 a2580 a2581 a2582, b7 g2571 A2574 m2575 n2576 a2578, r6 A2574 m2575 n2576 l2573] w' := by
  generalize (fps [b8 g2569 g2571 a2579 a2580 a2581 a2582, b7 g2571 A2574 m2575 n2576 a2578, r6 A2574 m2575 n2576 l2573]) = FF at HS HGl0 ⊢
  obtain rfl := (row_len (HS.out.at2)).symm
  unfold ground_Ground_SeeReg.f at H
  go_enter Tryd.func85, Tryd.ntmps85
  go_wp2_with fail
  obtain ⟨t2584, HA2585, H⟩ := bind_some H
  refine (ground_Ground_all.calls l2573 a2578 a2579 a2580 a2581 a2582 g2569 g2571 A2574 l2573.length n2576 t2584 _ ⟨HGl0.out.pass HS.out⟩ ⟨HS.out.begin⟩ HA2585).mono ?_
  rintro e_ w2586 ⟨rfl, hS⟩
  replace HS : Aside0 (Sep FF w [b8 g2569 g2571 a2579 a2580 a2581 a2582, b7 g2571 A2574 l2573.length n2576 a2578, r6 A2574 l2573.length n2576 l2573] w2586) := ⟨HS.out.call hS⟩
  clear hS
  go_wp2_with fail
  obtain ⟨t2587, HA2588, H⟩ := bind_some H
  refine (ground_reg.calls a2583 t2587 _ ⟨HGl0.out.pass (l := []) HS.out⟩ ⟨Sep.start _⟩ HA2588).mono ?_
  rintro e_ w2589 ⟨rfl, hS⟩
  replace HS : Aside0 (Sep FF w [b8 g2569 g2571 a2579 a2580 a2581 a2582, b7 g2571 A2574 l2573.length n2576 a2578, r6 A2574 l2573.length n2576 l2573] w2589) := ⟨HS.out.call hS⟩
  clear hS
  go_wp2_with fail
  replace HS : Aside0 (Sep FF w [r6 A2574 l2573.length n2576 l2573, b8 g2569 g2571 a2579 a2580 a2581 a2582, b7 g2571 A2574 l2573.length n2576 a2578] w2589) := ⟨HS.out.front 2 (by simp)⟩
  replace HS : Aside0 (Sep FF w [b7 g2571 A2574 l2573.length n2576 a2578, r6 A2574 l2573.length n2576 l2573, b8 g2569 g2571 a2579 a2580 a2581 a2582] w2589) := ⟨HS.out.front 2 (by simp)⟩
  obtain ⟨t2610, HA2611, H⟩ := bind_some H
  refine (store_Store_Peek.calls l2573 a2578 t2587 g2571 A2574 l2573.length n2576 t2610 _ ⟨HGl0.out.pass HS.out⟩ ⟨HS.out.begin⟩ HA2611).mono ?_
  rintro e_ w2612 ⟨rfl, hS⟩
  replace HS : Aside0 (Sep FF w [b7 g2571 A2574 l2573.length n2576 a2578, r6 A2574 l2573.length n2576 l2573, b8 g2569 g2571 a2579 a2580 a2581 a2582] w2612) := ⟨HS.out.call hS⟩
  clear hS
  go_wp2_with fail
  go_ret
  rw [← some_eq H]
  exact ⟨(by first | rfl | (simp [IntKind.wrap_u32]; done)), ((((HS.out).front 1 (by simp)).front 1 (by simp)).front 2 (by simp)).keep (l := [b8 g2569 g2571 a2579 a2580 a2581 a2582, b7 g2571 A2574 l2573.length n2576 a2578, r6 A2574 l2573.length n2576 l2573]) (rest := [])⟩

set_option maxHeartbeats 30000000 in
set_option maxRecDepth 100000 in
theorem ground_Ground_SeeWord.calls (l2650 : List Int) (a2655 : Int) (a2656 : Int) (a2657 : Int) (a2658 : Int) (a2659 : Int) (a2660 : Int) (a2661 : Int) (g2646 : Nat) (g2648 : Nat) (A2651 : Option Addr) (m2652 : Nat) (n2653 : Nat) (r : Int) (w : World)  (HGl0 : Aside0 (Gl 0 #[.int .i64 0, .int .i64 0, .int .i64 0, .int .i64 0, .int .i64 0] (fps [b8 g2646 g2648 a2656 a2657 a2658 a2659, b7 g2648 A2651 m2652 n2653 a2655, r6 A2651 m2652 n2653 l2650]) w)) (HS : Aside0 (Sep (fps [b8 g2646 g2648 a2656 a2657 a2658 a2659, b7 g2648 A2651 m2652 n2653 a2655, r6 A2651 m2652 n2653 l2650]) w [b8 g2646 g2648 a2656 a2657 a2658 a2659, b7 g2648 A2651 m2652 n2653 a2655, r6 A2651 m2652 n2653 l2650] w)) (H : Aside0 (ground_Ground_SeeWord.f l2650 a2655 a2656 a2657 a2658 a2659 a2660 a2661 = some r)) :
    Calls Tryd.prog 18 #[.pointer (some ⟨g2646, 0, none⟩), .int .i64 a2660, .int .i64 a2661] w fun e w' => e = .returned (.int .u32 r) ∧ Sep (fps [b8 g2646 g2648 a2656 a2657 a2658 a2659, b7 g2648 A2651 m2652 n2653 a2655, r6 A2651 m2652 n2653 l2650]) w [b8 g2646 g2648 a2656 a2657 a2658 a2659, b7 g2648 A2651 m2652 n2653 a2655, r6 A2651 m2652 n2653 l2650] w' := by
  generalize (fps [b8 g2646 g2648 a2656 a2657 a2658 a2659, b7 g2648 A2651 m2652 n2653 a2655, r6 A2651 m2652 n2653 l2650]) = FF at HS HGl0 ⊢
  obtain rfl := (row_len (HS.out.at2)).symm
  unfold ground_Ground_SeeWord.f at H
  go_enter Tryd.func18, Tryd.ntmps18
  go_wp2_with fail
  obtain ⟨t2662, HA2663, H⟩ := bind_some H
  refine (ground_Ground_all.calls l2650 a2655 a2656 a2657 a2658 a2659 g2646 g2648 A2651 l2650.length n2653 t2662 _ ⟨HGl0.out.pass HS.out⟩ ⟨HS.out.begin⟩ HA2663).mono ?_
  rintro e_ w2664 ⟨rfl, hS⟩
  replace HS : Aside0 (Sep FF w [b8 g2646 g2648 a2656 a2657 a2658 a2659, b7 g2648 A2651 l2650.length n2653 a2655, r6 A2651 l2650.length n2653 l2650] w2664) := ⟨HS.out.call hS⟩
  clear hS
  go_wp2_with fail
  obtain ⟨t2665, HA2666, H⟩ := bind_some H
  refine (ground_Ground_word.calls l2650 a2655 a2656 a2657 a2658 a2659 a2660 a2661 g2646 g2648 A2651 l2650.length n2653 t2665 _ ⟨HGl0.out.pass HS.out⟩ ⟨HS.out.begin⟩ HA2666).mono ?_
  rintro e_ w2667 ⟨rfl, hS⟩
  replace HS : Aside0 (Sep FF w [b8 g2646 g2648 a2656 a2657 a2658 a2659, b7 g2648 A2651 l2650.length n2653 a2655, r6 A2651 l2650.length n2653 l2650] w2667) := ⟨HS.out.call hS⟩
  clear hS
  go_wp2_with fail
  replace HS : Aside0 (Sep FF w [r6 A2651 l2650.length n2653 l2650, b8 g2646 g2648 a2656 a2657 a2658 a2659, b7 g2648 A2651 l2650.length n2653 a2655] w2667) := ⟨HS.out.front 2 (by simp)⟩
  replace HS : Aside0 (Sep FF w [b7 g2648 A2651 l2650.length n2653 a2655, r6 A2651 l2650.length n2653 l2650, b8 g2646 g2648 a2656 a2657 a2658 a2659] w2667) := ⟨HS.out.front 2 (by simp)⟩
  obtain ⟨t2668, HA2669, H⟩ := bind_some H
  refine (store_Store_Peek.calls l2650 a2655 t2665 g2648 A2651 l2650.length n2653 t2668 _ ⟨HGl0.out.pass HS.out⟩ ⟨HS.out.begin⟩ HA2669).mono ?_
  rintro e_ w2670 ⟨rfl, hS⟩
  replace HS : Aside0 (Sep FF w [b7 g2648 A2651 l2650.length n2653 a2655, r6 A2651 l2650.length n2653 l2650, b8 g2646 g2648 a2656 a2657 a2658 a2659] w2670) := ⟨HS.out.call hS⟩
  clear hS
  go_wp2_with fail
  go_ret
  rw [← some_eq H]
  exact ⟨(by first | rfl | (simp [IntKind.wrap_u32]; done)), ((((HS.out).front 1 (by simp)).front 1 (by simp)).front 2 (by simp)).keep (l := [b8 g2646 g2648 a2656 a2657 a2658 a2659, b7 g2648 A2651 l2650.length n2653 a2655, r6 A2651 l2650.length n2653 l2650]) (rest := [])⟩

set_option maxHeartbeats 30000000 in
set_option maxRecDepth 100000 in
theorem ring_List.calls (k : Nat) (l2558 : List Int) (a2563 : Int) (a2564 : Int) (a2565 : Int) (a2566 : Int) (a2567 : Int) (g2554 : Nat) (g2556 : Nat) (A2559 : Option Addr) (m2560 : Nat) (n2561 : Nat) (r : List Int) (w : World)  (HGl0 : Aside0 (Gl 0 #[.int .i64 0, .int .i64 0, .int .i64 0, .int .i64 0, .int .i64 0] (fps [b8 g2554 g2556 a2564 a2565 a2566 a2567, b7 g2556 A2559 m2560 n2561 a2563, r6 A2559 m2560 n2561 l2558]) w)) (HS : Aside0 (Sep (fps [b8 g2554 g2556 a2564 a2565 a2566 a2567, b7 g2556 A2559 m2560 n2561 a2563, r6 A2559 m2560 n2561 l2558]) w [b8 g2554 g2556 a2564 a2565 a2566 a2567, b7 g2556 A2559 m2560 n2561 a2563, r6 A2559 m2560 n2561 l2558] w)) (H : Aside0 (ring_List.f k l2558 a2563 a2564 a2565 a2566 a2567 = some r)) :
    Calls Tryd.prog 28 #[.pointer (some ⟨g2554, 0, none⟩)] w fun e w' => ∃ (A2694 : Option Addr) (m2695 : Nat) (n2696 : Nat), e = .returned (.slice A2694 m2695 n2696) ∧ Sep (fps [b8 g2554 g2556 a2564 a2565 a2566 a2567, b7 g2556 A2559 m2560 n2561 a2563, r6 A2559 m2560 n2561 l2558]) w [b8 g2554 g2556 a2564 a2565 a2566 a2567, b7 g2556 A2559 m2560 n2561 a2563, r6 A2559 m2560 n2561 l2558, r14 A2694 m2695 n2696 r] w' := by
  generalize (fps [b8 g2554 g2556 a2564 a2565 a2566 a2567, b7 g2556 A2559 m2560 n2561 a2563, r6 A2559 m2560 n2561 l2558]) = FF at HS HGl0 ⊢
  obtain rfl := (row_len (HS.out.at2)).symm
  unfold ring_List.f at H
  go_enter Tryd.func28, Tryd.ntmps28
  go_wp2_with fail
  obtain ⟨t2613, HA2614, H⟩ := bind_some H
  refine (ground_Ground_SeeReg.calls l2558 a2563 a2564 a2565 a2566 a2567 7 g2554 g2556 A2559 l2558.length n2561 t2613 _ ⟨HGl0.out.pass HS.out⟩ ⟨HS.out.begin⟩ HA2614).mono ?_
  rintro e_ w2615 ⟨rfl, hS⟩
  replace HS : Aside0 (Sep FF w [b8 g2554 g2556 a2564 a2565 a2566 a2567, b7 g2556 A2559 l2558.length n2561 a2563, r6 A2559 l2558.length n2561 l2558] w2615) := ⟨HS.out.call hS⟩
  clear hS
  go_wp2_with fail
  replace HS : Aside0 (Sep FF w [r14 none 0 0 [], b8 g2554 g2556 a2564 a2565 a2566 a2567, b7 g2556 A2559 l2558.length n2561 a2563, r6 A2559 l2558.length n2561 l2558] w2615) := ⟨HS.out.nilrow 3 (Value.int .i64)⟩
  obtain ⟨o2617, AL2618, H⟩ := bind_some H
  go_loopg [3, 4] k (fun kq v3 v4 wc => ∃ (x2623 : Int) (x2624 : List Int) (A2625 : Option Addr) (m2626 : Nat) (n2627 : Nat), v3 = .slice A2625 m2626 n2627 ∧ v4 = .int .i64 x2623 ∧ Aside0 (ring_List.lo0 kq l2558 a2563 a2564 a2565 a2566 a2567 x2623 x2624 = some o2617) ∧ Aside0 (Sep FF w [r14 A2625 m2626 n2627 x2624, b8 g2554 g2556 a2564 a2565 a2566 a2567, b7 g2556 A2559 l2558.length n2561 a2563, r6 A2559 l2558.length n2561 l2558] wc))
  case atStart => exact ⟨(t2613), (([] : List Int)), (none), (0), (0), (by first | rfl | (simp [IntKind.wrap_u32]; done)), (by first | rfl | (simp [IntKind.wrap_u32]; done)), AL2618, ⟨HS.out⟩⟩
  case round =>
    clear AL2618 HS
    obtain ⟨x2623, x2624, A2625, m2626, n2627, rfl, rfl, AL2618, HS⟩ := hrel
    obtain ⟨w2619, rfl⟩ : ∃ x : World, x = wr := ⟨_, rfl⟩
    obtain rfl := (row_len (HS.out.at0)).symm
    cases gk with
    | zero => exact absurd AL2618.out (by simp [ring_List.lo0])
    | succ k2620 =>
      have AL0 := AL2618.out
      rw [ring_List.lo0] at AL0
      clear AL2618
      have AL2618 := Aside0.mk AL0
      clear AL0
      by_cases c2629 : x2623 > 0
      · replace AL2618 := if_yes c2629 AL2618
        have c2629b0 : decide (0 < x2623) = true := decide_eq_true c2629
        clear c2629
        go_wp2_with fail
        replace HS : Aside0 (Sep FF w [r6 A2559 l2558.length n2561 l2558, r14 A2625 x2624.length n2627 x2624, b8 g2554 g2556 a2564 a2565 a2566 a2567, b7 g2556 A2559 l2558.length n2561 a2563] w2619) := ⟨HS.out.front 3 (by simp)⟩
        replace HS : Aside0 (Sep FF w [b7 g2556 A2559 l2558.length n2561 a2563, r6 A2559 l2558.length n2561 l2558, r14 A2625 x2624.length n2627 x2624, b8 g2554 g2556 a2564 a2565 a2566 a2567] w2619) := ⟨HS.out.front 3 (by simp)⟩
        replace HS : Aside0 (Sep FF w [b8 g2554 g2556 a2564 a2565 a2566 a2567, b7 g2556 A2559 l2558.length n2561 a2563, r6 A2559 l2558.length n2561 l2558, r14 A2625 x2624.length n2627 x2624] w2619) := ⟨HS.out.front 3 (by simp)⟩
        obtain ⟨t2630, HA2631, AL2618⟩ := bind_some AL2618
        refine (ground_Ground_Conf.calls l2558 a2563 a2564 a2565 a2566 a2567 g2554 g2556 A2559 l2558.length n2561 t2630 _ ⟨HGl0.out.pass HS.out⟩ ⟨HS.out.begin⟩ HA2631).mono ?_
        rintro e_ w2632 ⟨rfl, hS⟩
        replace HS : Aside0 (Sep FF w [b8 g2554 g2556 a2564 a2565 a2566 a2567, b7 g2556 A2559 l2558.length n2561 a2563, r6 A2559 l2558.length n2561 l2558, r14 A2625 x2624.length n2627 x2624] w2632) := ⟨HS.out.call hS⟩
        clear hS
        by_cases c2634 : (x2624.length : Int) < t2630.1
        · replace AL2618 := if_yes c2634 AL2618
          have c2634b0 : decide ((x2624.length : Int) < t2630.1) = true := decide_eq_true c2634
          clear c2634
          by_cases c2638 : x2624.length < 17592186044416
          · replace AL2618 := if_yes c2638 AL2618
            have c2638b0 : decide (x2624.length < 17592186044416) = true := decide_eq_true c2638
            clear c2638
            obtain ⟨y2642, HA2643, AL2618⟩ := bind_some AL2618
            have fl2633 : ∀ w, (Instr.field 30 (.agg #[.int .i64 t2630.1, .int .i64 t2630.2.1, .int .i64 t2630.2.2.1, .int .i64 t2630.2.2.2]) 0).run Tryd.prog w = .ok (.int .i64 t2630.1) w := fun _ => by kernel_rfl
            go_wp2_with (first | ((with_reducible refine gate_dst (N := 27) rfl ?_); refine slice_on (n := 1) ?hg (N := 27) ?hd (cs := #[.int .i64 (wrap64 (x2623 - 1))]) (t := 3) ?hr ?_; (case hd => rfl); (case hg => rfl); (case hr => first | (go_simp; done) | (go_simp; rfl)); intro g2635 hg w2636 hbox hb; clear fl2633; replace HS : Aside0 (Sep FF w [b8 g2554 g2556 a2564 a2565 a2566 a2567, b7 g2556 A2559 l2558.length n2561 a2563, r6 A2559 l2558.length n2561 l2558, r14 A2625 x2624.length n2627 x2624, b15 g2635 (wrap64 (x2623 - 1))] w2636) := ⟨HS.out.box hg hbox hb⟩; clear hg hbox hb) | ((with_reducible refine gate_dst (N := 28) rfl ?_); refine append_event (l1 := [b8 g2554 g2556 a2564 a2565 a2566 a2567, b7 g2556 A2559 l2558.length n2561 a2563, r6 A2559 l2558.length n2561 l2558]) (l2 := [b15 g2635 (wrap64 (x2623 - 1))]) rfl (.tmp 24) (.tmp 27) 49 3 (.int .i64 0) 8 rfl Tryd.underlying49 (by kernel_rfl) rfl (by decide) (Value.int .i64) (fun _ => rfl) (.slice A2625 x2624.length n2627) (x2624 : List Int) [wrap64 (x2623 - 1)] ⟨g2635, 0, none⟩ 1 rfl rfl (blk_news (xs := [wrap64 (x2623 - 1)]) (HS.out.at4)) HS.out (by have := of_decide_eq_true c2638b0; simp only [List.length_cons, List.length_nil]; omega) HA2643 ?_; intro A2639 n2640 w2641 HS1; replace HS : Aside0 (Sep FF w [b8 g2554 g2556 a2564 a2565 a2566 a2567, b7 g2556 A2559 l2558.length n2561 a2563, r6 A2559 l2558.length n2561 l2558, r14 A2639 y2642.length n2640 y2642, b15 g2635 (wrap64 (x2623 - 1))] w2641) := ⟨HS1⟩; clear HS1; replace HS : Aside0 (Sep FF w [b8 g2554 g2556 a2564 a2565 a2566 a2567, b7 g2556 A2559 l2558.length n2561 a2563, r6 A2559 l2558.length n2561 l2558, r14 A2639 y2642.length n2640 y2642] w2641) := ⟨HS.out.sub (.cons_cons _ (.cons_cons _ (.cons_cons _ (.cons_cons _ (.cons _ .slnil)))))⟩))
            obtain ⟨t2671, HA2672, AL2618⟩ := bind_some AL2618
            refine (ground_Ground_SeeWord.calls l2558 a2563 a2564 a2565 a2566 a2567 (wrap64 (x2623 - 1)) 7 g2554 g2556 A2559 l2558.length n2561 t2671 _ ⟨HGl0.out.pass HS.out⟩ ⟨HS.out.begin⟩ HA2672).mono ?_
            rintro e_ w2673 ⟨rfl, hS⟩
            replace HS : Aside0 (Sep FF w [b8 g2554 g2556 a2564 a2565 a2566 a2567, b7 g2556 A2559 l2558.length n2561 a2563, r6 A2559 l2558.length n2561 l2558, r14 A2639 y2642.length n2640 y2642] w2673) := ⟨HS.out.call hS⟩
            clear hS
            go_wp2_with fail
            go_roundg k2620
            case measure => exact Nat.lt_succ_self _
            case rel => exact ⟨(wrap64 (t2671)), (y2642), (A2639), (y2642.length), (n2640), (by first | rfl | (simp [IntKind.wrap_u32]; done)), (by first | rfl | (simp [IntKind.wrap_u32]; done)), Aside0.mk AL2618.out, ⟨(((((HS.out).front 2 (by simp)).front 2 (by simp)).front 2 (by simp)).front 3 (by simp)).keep (l := [r14 A2639 y2642.length n2640 y2642, b8 g2554 g2556 a2564 a2565 a2566 a2567, b7 g2556 A2559 l2558.length n2561 a2563, r6 A2559 l2558.length n2561 l2558]) (rest := [])⟩⟩
          · replace AL2618 := if_no c2638 AL2618
            have c2638b0 : decide (x2624.length < 17592186044416) = false := decide_eq_false c2638
            clear c2638
            exact (none_no AL2618).elim
        · replace AL2618 := if_no c2634 AL2618
          have c2634b0 : decide ((x2624.length : Int) < t2630.1) = false := decide_eq_false c2634
          clear c2634
          have ho := some_eq AL2618
          subst ho
          clear AL2618
          have fl2633 : ∀ w, (Instr.field 30 (.agg #[.int .i64 t2630.1, .int .i64 t2630.2.1, .int .i64 t2630.2.2.1, .int .i64 t2630.2.2.2]) 0).run Tryd.prog w = .ok (.int .i64 t2630.1) w := fun _ => by kernel_rfl
          go_wp2_with fail
          clear fl2633
          go_ret
          rw [← some_eq H]
          exact ⟨A2625, x2624.length, n2627, (by first | rfl | (simp [IntKind.wrap_u32]; done)), HS.out⟩
      · replace AL2618 := if_no c2629 AL2618
        have c2629b0 : decide (0 < x2623) = false := decide_eq_false c2629
        clear c2629
        have ho := some_eq AL2618
        subst ho
        clear AL2618
        go_wp2_with fail
        go_ret
        rw [← some_eq H]
        exact ⟨A2625, x2624.length, n2627, (by first | rfl | (simp [IntKind.wrap_u32]; done)), ((((HS.out).front 3 (by simp)).front 3 (by simp)).front 3 (by simp)).keep (l := [b8 g2554 g2556 a2564 a2565 a2566 a2567, b7 g2556 A2559 l2558.length n2561 a2563, r6 A2559 l2558.length n2561 l2558, r14 A2625 x2624.length n2627 x2624]) (rest := [])⟩

set_option maxHeartbeats 30000000 in
set_option maxRecDepth 100000 in
theorem quitrentref01_Ints.calls (k : Nat) (l2709 : List Int) (l2713 : List Int) (A2710 : Option Addr) (n2711 : Nat) (A2714 : Option Addr) (n2715 : Nat) (r : Bool) (w : World) (HR2712 : Aside0 (Rd (Kd.int .i64) (fps []) w A2710 l2709.length l2709)) (HR2716 : Aside0 (Rd (Kd.int .i64) (fps []) w A2714 l2713.length l2713)) (HGl0 : Aside0 (Gl 0 #[.int .i64 0, .int .i64 0, .int .i64 0, .int .i64 0, .int .i64 0] (fps []) w)) (HS : Aside0 (Sep (fps []) w [] w)) (H : Aside0 (quitrentref01_Ints.f k l2709 l2713 = some r)) :
    Calls Tryd.prog 32 #[.slice A2710 l2709.length n2711, .slice A2714 l2713.length n2715] w fun e w' => e = .returned (.bool r) ∧ Sep (fps []) w [] w' := by
  unfold quitrentref01_Ints.f at H
  go_enter Tryd.func32, Tryd.ntmps32
  by_cases c2717 : (l2709.length : Int) = (l2713.length : Int)
  · replace H := if_yes c2717 H
    have c2717b0 : ((l2709.length : Int) == (l2713.length : Int)) = true := beq_iff_eq.mpr c2717
    have c2717b1 : ((l2709.length : Int) != (l2713.length : Int)) = false := bne_eq_false_iff_eq.mpr c2717
    clear c2717
    go_wp2_with fail
    obtain ⟨o2733, AL2734, H⟩ := bind_some H
    go_loopg [5] k (fun kq v5 wc => ∃ (x2737 : Int), v5 = .int .i64 x2737 ∧ Aside0 (quitrentref01_Ints.lo0 kq l2709 l2713 x2737 = some o2733) ∧ Aside0 (Sep (fps []) w [] wc))
    case atStart => exact ⟨(0), (by first | rfl | (simp [IntKind.wrap_u32]; done)), AL2734, ⟨HS.out⟩⟩
    case round =>
      clear AL2734 HS
      obtain ⟨x2737, rfl, AL2734, HS⟩ := hrel
      obtain ⟨w2735, rfl⟩ : ∃ x : World, x = wr := ⟨_, rfl⟩
      cases gk with
      | zero => exact absurd AL2734.out (by simp [quitrentref01_Ints.lo0])
      | succ k2736 =>
        have AL0 := AL2734.out
        rw [quitrentref01_Ints.lo0] at AL0
        clear AL2734
        have AL2734 := Aside0.mk AL0
        clear AL0
        by_cases c2738 : x2737 < (l2709.length : Int)
        · replace AL2734 := if_yes c2738 AL2734
          have c2738b0 : decide (x2737 < (l2709.length : Int)) = true := decide_eq_true c2738
          clear c2738
          go_wp2_with fail
          refine start_ (n := 9) (S := (fun w' => Kd.C (Kd.int .i64) w' A2710 l2709.length l2709 ∧ Kd.C (Kd.int .i64) w' A2714 l2713.length l2713)) (ds := []) #[false, false, false, false, false, false, false, false, false] (by kernel_rfl) rfl rfl (⟨Rd.read (fun _ _ _ _ h => h) HR2712.out (HS.out.drew).fr, Rd.read (fun _ _ _ _ h => h) HR2716.out (HS.out.drew).fr⟩) (fun hHeld => ?_)
          have HS_ := Aside0.mk HS.out.drew
          clear HS
          generalize World.drew _ = w2740 at HS_ hHeld ⊢
          have HS := HS_
          clear HS_
          refine pure_ (i := 0) (N := some 17) (v := ?_) (a' := ?_) #[true, false, false, false, false, false, false, false, false] rfl rfl (by kernel_rfl) (fun _ _ _ h => h) (Or.inl ⟨by rfl, ?_⟩) ?_ ?_
          rotate_left
          · intro w'
            go_simp
            with_reducible rfl
          rotate_left
          · simp only [Act.put, List.setIfInBounds_toArray, List.set_cons_zero, List.set_cons_succ, i64_w, i32_w]
            rfl
          refine pure_ (i := 1) (N := some 18) (v := ?_) (a' := ?_) #[true, true, false, false, false, false, false, false, false] rfl rfl (by kernel_rfl) (fun _ _ _ h => h) (Or.inl ⟨by rfl, ?_⟩) ?_ ?_
          rotate_left
          · intro w'
            go_simp
            with_reducible rfl
          rotate_left
          · simp only [Act.put, List.setIfInBounds_toArray, List.set_cons_zero, List.set_cons_succ, i64_w, i32_w]
            rfl
          by_cases c2741 : 0 ≤ x2737
          · replace AL2734 := if_yes c2741 AL2734
            have c2741b0 : decide (0 ≤ x2737) = true := decide_eq_true c2741
            have c2741p : (0 ≤ x2737) = True := eq_true c2741
            clear c2741
            have ip2742 : (x2737 < (l2709.length : Int)) = True := eq_true (of_decide_eq_true c2738b0)
            obtain ⟨ad2743, ea, _⟩ := Kd.at_int (Rd.read (fun _ _ _ _ h => h) HR2712.out HS.out.fr) x2737 (of_decide_eq_true c2741b0) (of_decide_eq_true c2738b0)
            cases ea
            refine pure_ (i := 2) (N := some 19) (v := ?_) (a' := ?_) #[true, true, true, false, false, false, false, false, false] rfl rfl (by kernel_rfl) (fun _ _ _ h => h) (Or.inl ⟨by rfl, ?_⟩) ?_ ?_
            rotate_left
            · intro w'
              go_simp
              with_reducible rfl
            rotate_left
            · simp only [Act.put, List.setIfInBounds_toArray, List.set_cons_zero, List.set_cons_succ, i64_w, i32_w]
              rfl
            refine pure_ (i := 4) (N := some 21) (v := ?_) (a' := ?_) #[true, true, true, false, true, false, false, false, false] rfl rfl (by kernel_rfl) (fun _ _ _ h => h) (Or.inl ⟨by rfl, ?_⟩) ?_ ?_
            rotate_left
            · intro w'
              go_simp
              with_reducible rfl
            rotate_left
            · simp only [Act.put, List.setIfInBounds_toArray, List.set_cons_zero, List.set_cons_succ, i64_w, i32_w]
              rfl
            refine pure_ (i := 5) (N := some 22) (v := ?_) (a' := ?_) #[true, true, true, false, true, true, false, false, false] rfl rfl (by kernel_rfl) (fun _ _ _ h => h) (Or.inl ⟨by rfl, ?_⟩) ?_ ?_
            rotate_left
            · intro w'
              go_simp
              with_reducible rfl
            rotate_left
            · simp only [Act.put, List.setIfInBounds_toArray, List.set_cons_zero, List.set_cons_succ, i64_w, i32_w]
              rfl
            by_cases c2744 : x2737 < (l2713.length : Int)
            · replace AL2734 := if_yes c2744 AL2734
              have c2744b0 : decide (x2737 < (l2713.length : Int)) = true := decide_eq_true c2744
              have c2744p : (x2737 < (l2713.length : Int)) = True := eq_true c2744
              clear c2744
              obtain ⟨ad2745, ea, _⟩ := Kd.at_int (Rd.read (fun _ _ _ _ h => h) HR2716.out HS.out.fr) x2737 (of_decide_eq_true c2741b0) (of_decide_eq_true c2744b0)
              cases ea
              refine pure_ (i := 6) (N := some 23) (v := ?_) (a' := ?_) #[true, true, true, false, true, true, true, false, false] rfl rfl (by kernel_rfl) (fun _ _ _ h => h) (Or.inl ⟨by rfl, ?_⟩) ?_ ?_
              rotate_left
              · intro w'
                go_simp
                with_reducible rfl
              rotate_left
              · simp only [Act.put, List.setIfInBounds_toArray, List.set_cons_zero, List.set_cons_succ, i64_w, i32_w]
                rfl
              refine take_ (i := 3) (N := some 20) (v := ?_) (a' := ?_) #[true, true, true, true, true, true, true, false, false] rfl rfl (by kernel_rfl) (fun _ _ _ h => h) (Or.inl ⟨by rfl, ?_⟩) hHeld ?_ ?_
              rotate_left
              · rintro w' hS'
                obtain ⟨s0, s1⟩ := hS'
                have hx := C_at_int s0 x2737 (of_decide_eq_true c2741b0) (of_decide_eq_true c2738b0)
                go_simp
                with_reducible rfl
              rotate_left
              · simp only [Act.put, List.setIfInBounds_toArray, List.set_cons_zero, List.set_cons_succ, i64_w, i32_w]
                rfl
              refine take_ (i := 7) (N := some 24) (v := ?_) (a' := ?_) #[true, true, true, true, true, true, true, true, false] rfl rfl (by kernel_rfl) (fun _ _ _ h => h) (Or.inl ⟨by rfl, ?_⟩) hHeld ?_ ?_
              rotate_left
              · rintro w' hS'
                obtain ⟨s0, s1⟩ := hS'
                have hx := C_at_int s1 x2737 (of_decide_eq_true c2741b0) (of_decide_eq_true c2744b0)
                go_simp
                with_reducible rfl
              rotate_left
              · simp only [Act.put, List.setIfInBounds_toArray, List.set_cons_zero, List.set_cons_succ, i64_w, i32_w]
                rfl
              refine pure_ (i := 8) (N := some 25) (v := ?_) (a' := ?_) #[true, true, true, true, true, true, true, true, true] rfl rfl (by kernel_rfl) (fun _ _ _ h => h) (Or.inl ⟨by rfl, ?_⟩) ?_ ?_
              rotate_left
              · intro w'
                go_simp
                with_reducible rfl
              rotate_left
              · simp only [Act.put, List.setIfInBounds_toArray, List.set_cons_zero, List.set_cons_succ, i64_w, i32_w]
                rfl
              refine done_ (by kernel_rfl) ?_
              by_cases c2746 : (rd l2709 x2737) = (rd l2713 x2737)
              · replace AL2734 := if_yes c2746 AL2734
                have c2746b0 : ((rd l2709 x2737) == (rd l2713 x2737)) = true := beq_iff_eq.mpr c2746
                have c2746b1 : ((rd l2709 x2737) != (rd l2713 x2737)) = false := bne_eq_false_iff_eq.mpr c2746
                clear c2746
                go_wp2_with fail
                go_roundg k2736
                case measure => exact Nat.lt_succ_self _
                case rel => exact ⟨(wrap64 (x2737 + 1)), (by first | rfl | (simp [IntKind.wrap_u32]; done)), Aside0.mk AL2734.out, ⟨HS.out⟩⟩
              · replace AL2734 := if_no c2746 AL2734
                have c2746b0 : ((rd l2709 x2737) == (rd l2713 x2737)) = false := beq_eq_false_iff_ne.mpr c2746
                have c2746b1 : ((rd l2709 x2737) != (rd l2713 x2737)) = true := bne_iff_ne.mpr c2746
                clear c2746
                go_wp2_with fail
                have ho := some_eq AL2734
                subst ho
                have H := lp_ret H
                go_ret
                rw [← some_eq H]
                exact ⟨(by first | rfl | (simp [IntKind.wrap_u32]; done)), HS.out⟩
            · replace AL2734 := if_no c2744 AL2734
              have c2744b0 : decide (x2737 < (l2713.length : Int)) = false := decide_eq_false c2744
              clear c2744
              exact (none_no AL2734).elim
          · replace AL2734 := if_no c2741 AL2734
            have c2741b0 : decide (0 ≤ x2737) = false := decide_eq_false c2741
            clear c2741
            exact (none_no AL2734).elim
        · replace AL2734 := if_no c2738 AL2734
          have c2738b0 : decide (x2737 < (l2709.length : Int)) = false := decide_eq_false c2738
          clear c2738
          have ho := some_eq AL2734
          subst ho
          clear AL2734
          have H := lp_out H
          go_wp2_with fail
          go_ret
          rw [← some_eq H]
          exact ⟨(by first | rfl | (simp [IntKind.wrap_u32]; done)), HS.out⟩
  · replace H := if_no c2717 H
    have c2717b0 : ((l2709.length : Int) == (l2713.length : Int)) = false := beq_eq_false_iff_ne.mpr c2717
    have c2717b1 : ((l2709.length : Int) != (l2713.length : Int)) = true := bne_iff_ne.mpr c2717
    clear c2717
    go_wp2_with fail
    go_ret
    rw [← some_eq H]
    exact ⟨(by first | rfl | (simp [IntKind.wrap_u32]; done)), HS.out⟩

set_option maxHeartbeats 30000000 in
set_option maxRecDepth 100000 in
theorem quitrentlaw09_begun.calls (k : Nat)  (r : Bool) (w : World)  (HGl0 : Aside0 (Gl 0 #[.int .i64 0, .int .i64 0, .int .i64 0, .int .i64 0, .int .i64 0] (fps []) w)) (HS : Aside0 (Sep (fps []) w [] w)) (H : Aside0 (quitrentlaw09_begun.f k = some r)) :
    Calls Tryd.prog 21 #[] w fun e w' => e = .returned (.bool r) ∧ Sep (fps []) w [] w' := by
  unfold quitrentlaw09_begun.f at H
  go_enter Tryd.func21, Tryd.ntmps21
  go_wp2_with (first | ((with_reducible refine gate_dst (N := 4) rfl ?_); refine slice_on (n := 6) ?hg (N := 4) ?hd (cs := #[.int .u8 1, .int .u8 1, .int .u8 1, .int .u8 1, .int .u8 1, .int .u8 2]) (t := 5) ?hr ?_; (case hd => rfl); (case hg => rfl); (case hr => first | (go_simp; done) | (go_simp; rfl)); intro g7 hg w8 hbox hb; replace HS : Aside0 (Sep (fps []) w [b1 g7 1 1 1 1 1 2] w8) := ⟨HS.out.box hg hbox hb⟩; clear hg hbox hb))
  obtain ⟨t1333, HA1334, H⟩ := bind_some H
  rcases t1333 with t1335 | t1336
  · have H := sum_l H
    refine (quitrentlaw09_made.calls _ [1, 1, 1, 1, 1, 2] (some ⟨g7, 0, none⟩) 6 (.inl t1335) _ ⟨Rd.lit (l := []) (xs := [1, 1, 1, 1, 1, 2]) HS.out 0 rfl (by simp)⟩ ⟨HGl0.out.pass (l := []) HS.out⟩ ⟨Sep.start _⟩ HA1334).mono ?_
    rintro e_ w1337 ⟨rfl, hS⟩
    replace HS : Aside0 (Sep (fps []) w [b1 g7 1 1 1 1 1 2] w1337) := ⟨HS.out.call hS⟩
    clear hS
    by_cases c1338 : t1335 = true
    · replace H := if_yes c1338 H
      have c1338b0 : t1335 = true := c1338
      have c1338b1 : (!t1335) = false := by rw [c1338b0]; rfl
      try rw [c1338b1]
      clear c1338
      exact (none_no H).elim
    · replace H := if_no c1338 H
      have c1338b0 : t1335 = false := by simpa using c1338
      have c1338b1 : (!t1335) = true := by rw [c1338b0]; rfl
      try rw [c1338b1]
      clear c1338
      replace HS : Aside0 (Sep (fps []) w [] w1337) := ⟨HS.out.sub (.cons _ .slnil)⟩
      go_wp2_with fail
      go_ret
      rw [← some_eq H]
      exact ⟨(by first | rfl | (simp [IntKind.wrap_u32]; done)), HS.out⟩
  · have H := sum_r H
    refine (quitrentlaw09_made.calls _ [1, 1, 1, 1, 1, 2] (some ⟨g7, 0, none⟩) 6 (.inr t1336) _ ⟨Rd.lit (l := []) (xs := [1, 1, 1, 1, 1, 2]) HS.out 0 rfl (by simp)⟩ ⟨HGl0.out.pass (l := []) HS.out⟩ ⟨Sep.start _⟩ HA1334).mono ?_
    rintro e_ w1339 ⟨g1343, rfl, g1344, A1345, m1346, n1347, hS⟩
    replace HS : Aside0 (Sep (fps []) w [b8 g1343 g1344 t1336.2.1 t1336.2.2.1 t1336.2.2.2.1 t1336.2.2.2.2.1, b7 g1344 A1345 m1346 n1347 t1336.2.2.2.2.2.1, r6 A1345 m1346 n1347 t1336.2.2.2.2.2.2, b1 g7 1 1 1 1 1 2] w1339) := ⟨HS.out.call hS⟩
    clear hS
    obtain rfl := (row_len (HS.out.at2)).symm
    by_cases c1349 : t1336.1 = true
    · replace H := if_yes c1349 H
      have c1349b0 : t1336.1 = true := c1349
      have c1349b1 : (!t1336.1) = false := by rw [c1349b0]; rfl
      try rw [c1349b1]
      clear c1349
      replace HS : Aside0 (Sep (fps []) w [b8 g1343 g1344 t1336.2.1 t1336.2.2.1 t1336.2.2.2.1 t1336.2.2.2.2.1, b7 g1344 A1345 ((t1336.2.2.2.2.2.2).length) n1347 t1336.2.2.2.2.2.1, r6 A1345 ((t1336.2.2.2.2.2.2).length) n1347 t1336.2.2.2.2.2.2] w1339) := ⟨HS.out.sub (.cons_cons _ (.cons_cons _ (.cons_cons _ (.cons _ .slnil))))⟩
      go_wp2_with fail
      obtain ⟨t2409, HA2410, H⟩ := bind_some H
      refine (ring_Add.calls _ t1336.2.2.2.2.2.2 t1336.2.2.2.2.2.1 t1336.2.1 t1336.2.2.1 t1336.2.2.2.1 t1336.2.2.2.2.1 3 g1343 g1344 A1345 ((t1336.2.2.2.2.2.2).length) n1347 t2409 _ ⟨HGl0.out.pass HS.out⟩ ⟨HS.out.begin⟩ HA2410).mono ?_
      rintro e_ w2411 ⟨rfl, hS⟩
      replace HS : Aside0 (Sep (fps []) w [b8 g1343 g1344 t1336.2.1 t1336.2.2.1 t1336.2.2.2.1 t1336.2.2.2.2.1, b7 g1344 A1345 ((t1336.2.2.2.2.2.2).length) n1347 t2409.2.1, r6 A1345 ((t1336.2.2.2.2.2.2).length) n1347 t2409.2.2] w2411) := ⟨HS.out.call hS⟩
      clear hS
      by_cases c2412 : t2409.1 = true
      · replace H := if_yes c2412 H
        have c2412b0 : t2409.1 = true := c2412
        have c2412b1 : (!t2409.1) = false := by rw [c2412b0]; rfl
        try rw [c2412b1]
        clear c2412
        go_wp2_with fail
        obtain ⟨t2413, HA2414, H⟩ := bind_some H
        refine (ring_Add.calls _ t2409.2.2 t2409.2.1 t1336.2.1 t1336.2.2.1 t1336.2.2.2.1 t1336.2.2.2.2.1 1 g1343 g1344 A1345 ((t1336.2.2.2.2.2.2).length) n1347 t2413 _ ⟨HGl0.out.pass HS.out⟩ ⟨HS.out.begin⟩ HA2414).mono ?_
        rintro e_ w2415 ⟨rfl, hS⟩
        replace HS : Aside0 (Sep (fps []) w [b8 g1343 g1344 t1336.2.1 t1336.2.2.1 t1336.2.2.2.1 t1336.2.2.2.2.1, b7 g1344 A1345 ((t1336.2.2.2.2.2.2).length) n1347 t2413.2.1, r6 A1345 ((t1336.2.2.2.2.2.2).length) n1347 t2413.2.2] w2415) := ⟨HS.out.call hS⟩
        clear hS
        by_cases c2416 : t2413.1 = true
        · replace H := if_yes c2416 H
          have c2416b0 : t2413.1 = true := c2416
          have c2416b1 : (!t2413.1) = false := by rw [c2416b0]; rfl
          try rw [c2416b1]
          clear c2416
          go_wp2_with fail
          obtain ⟨t2417, HA2418, H⟩ := bind_some H
          refine (ring_Add.calls _ t2413.2.2 t2413.2.1 t1336.2.1 t1336.2.2.1 t1336.2.2.2.1 t1336.2.2.2.2.1 5 g1343 g1344 A1345 ((t1336.2.2.2.2.2.2).length) n1347 t2417 _ ⟨HGl0.out.pass HS.out⟩ ⟨HS.out.begin⟩ HA2418).mono ?_
          rintro e_ w2419 ⟨rfl, hS⟩
          replace HS : Aside0 (Sep (fps []) w [b8 g1343 g1344 t1336.2.1 t1336.2.2.1 t1336.2.2.2.1 t1336.2.2.2.2.1, b7 g1344 A1345 ((t1336.2.2.2.2.2.2).length) n1347 t2417.2.1, r6 A1345 ((t1336.2.2.2.2.2.2).length) n1347 t2417.2.2] w2419) := ⟨HS.out.call hS⟩
          clear hS
          by_cases c2420 : t2417.1 = true
          · replace H := if_yes c2420 H
            have c2420b0 : t2417.1 = true := c2420
            have c2420b1 : (!t2417.1) = false := by rw [c2420b0]; rfl
            try rw [c2420b1]
            clear c2420
            go_wp2_with fail
            obtain ⟨t2549, HA2550, H⟩ := bind_some H
            refine (ring_Cut.calls _ t2417.2.2 t2417.2.1 t1336.2.1 t1336.2.2.1 t1336.2.2.2.1 t1336.2.2.2.2.1 1 g1343 g1344 A1345 ((t1336.2.2.2.2.2.2).length) n1347 t2549 _ ⟨HGl0.out.pass HS.out⟩ ⟨HS.out.begin⟩ HA2550).mono ?_
            rintro e_ w2551 ⟨rfl, hS⟩
            replace HS : Aside0 (Sep (fps []) w [b8 g1343 g1344 t1336.2.1 t1336.2.2.1 t1336.2.2.2.1 t1336.2.2.2.2.1, b7 g1344 A1345 ((t1336.2.2.2.2.2.2).length) n1347 t2549.2.1, r6 A1345 ((t1336.2.2.2.2.2.2).length) n1347 t2549.2.2] w2551) := ⟨HS.out.call hS⟩
            clear hS
            by_cases c2552 : t2549.1 = true
            · replace H := if_yes c2552 H
              have c2552b0 : t2549.1 = true := c2552
              have c2552b1 : (!t2549.1) = false := by rw [c2552b0]; rfl
              try rw [c2552b1]
              clear c2552
              go_wp2_with fail
              obtain ⟨t2698, HA2699, H⟩ := bind_some H
              refine (ring_List.calls _ t2549.2.2 t2549.2.1 t1336.2.1 t1336.2.2.1 t1336.2.2.2.1 t1336.2.2.2.2.1 g1343 g1344 A1345 ((t1336.2.2.2.2.2.2).length) n1347 t2698 _ ⟨HGl0.out.pass HS.out⟩ ⟨HS.out.begin⟩ HA2699).mono ?_
              rintro e_ w2700 ⟨A2702, m2703, n2704, rfl, hS⟩
              replace HS : Aside0 (Sep (fps []) w [b8 g1343 g1344 t1336.2.1 t1336.2.2.1 t1336.2.2.2.1 t1336.2.2.2.2.1, b7 g1344 A1345 ((t1336.2.2.2.2.2.2).length) n1347 t2549.2.1, r6 A1345 ((t1336.2.2.2.2.2.2).length) n1347 t2549.2.2, r14 A2702 m2703 n2704 t2698] w2700) := ⟨HS.out.call hS⟩
              clear hS
              obtain rfl := (row_len (HS.out.at3)).symm
              go_wp2_with (first | ((with_reducible refine gate_dst (N := 32) rfl ?_); refine slice_on (n := 2) ?hg (N := 32) ?hd (cs := #[.int .i64 3, .int .i64 5]) (t := 3) ?hr ?_; (case hd => rfl); (case hg => rfl); (case hr => first | (go_simp; done) | (go_simp; rfl)); intro g2706 hg w2707 hbox hb; replace HS : Aside0 (Sep (fps []) w [b8 g1343 g1344 t1336.2.1 t1336.2.2.1 t1336.2.2.2.1 t1336.2.2.2.2.1, b7 g1344 A1345 ((t1336.2.2.2.2.2.2).length) n1347 t2549.2.1, r6 A1345 ((t1336.2.2.2.2.2.2).length) n1347 t2549.2.2, r14 A2702 t2698.length n2704 t2698, b4 g2706 3 5] w2707) := ⟨HS.out.box hg hbox hb⟩; clear hg hbox hb))
              obtain ⟨t2748, HA2749, H⟩ := bind_some H
              refine (quitrentref01_Ints.calls _ t2698 [3, 5] A2702 n2704 (some ⟨g2706, 0, none⟩) 2 t2748 _ ⟨Rd.ownI (l := []) HS.out 3 rfl⟩ ⟨Rd.lit (l := []) (xs := [3, 5]) HS.out 4 rfl (by simp)⟩ ⟨HGl0.out.pass (l := []) HS.out⟩ ⟨Sep.start _⟩ HA2749).mono ?_
              rintro e_ w2750 ⟨rfl, hS⟩
              replace HS : Aside0 (Sep (fps []) w [b8 g1343 g1344 t1336.2.1 t1336.2.2.1 t1336.2.2.2.1 t1336.2.2.2.2.1, b7 g1344 A1345 ((t1336.2.2.2.2.2.2).length) n1347 t2549.2.1, r6 A1345 ((t1336.2.2.2.2.2.2).length) n1347 t2549.2.2, r14 A2702 t2698.length n2704 t2698, b4 g2706 3 5] w2750) := ⟨HS.out.call hS⟩
              clear hS
              by_cases c2751 : t2748 = true
              · replace H := if_yes c2751 H
                have c2751b0 : t2748 = true := c2751
                have c2751b1 : (!t2748) = false := by rw [c2751b0]; rfl
                clear c2751
                go_wp2_with fail
                obtain ⟨t2752, HA2753, H⟩ := bind_some H
                refine (ground_Ground_SeeWord.calls t2549.2.2 t2549.2.1 t1336.2.1 t1336.2.2.1 t1336.2.2.2.1 t1336.2.2.2.2.1 3 7 g1343 g1344 A1345 ((t1336.2.2.2.2.2.2).length) n1347 t2752 _ ⟨HGl0.out.pass HS.out⟩ ⟨HS.out.begin⟩ HA2753).mono ?_
                rintro e_ w2754 ⟨rfl, hS⟩
                replace HS : Aside0 (Sep (fps []) w [b8 g1343 g1344 t1336.2.1 t1336.2.2.1 t1336.2.2.2.1 t1336.2.2.2.2.1, b7 g1344 A1345 ((t1336.2.2.2.2.2.2).length) n1347 t2549.2.1, r6 A1345 ((t1336.2.2.2.2.2.2).length) n1347 t2549.2.2, r14 A2702 t2698.length n2704 t2698, b4 g2706 3 5] w2754) := ⟨HS.out.call hS⟩
                clear hS
                by_cases c2755 : t2752 = 6
                · replace H := if_yes c2755 H
                  have c2755b0 : (t2752 == 6) = true := beq_iff_eq.mpr c2755
                  have c2755b1 : (t2752 != 6) = false := bne_eq_false_iff_eq.mpr c2755
                  clear c2755
                  go_wp2_with fail
                  obtain ⟨t2756, HA2757, H⟩ := bind_some H
                  refine (ground_Ground_SeeWord.calls t2549.2.2 t2549.2.1 t1336.2.1 t1336.2.2.1 t1336.2.2.2.1 t1336.2.2.2.2.1 5 6 g1343 g1344 A1345 ((t1336.2.2.2.2.2.2).length) n1347 t2756 _ ⟨HGl0.out.pass HS.out⟩ ⟨HS.out.begin⟩ HA2757).mono ?_
                  rintro e_ w2758 ⟨rfl, hS⟩
                  replace HS : Aside0 (Sep (fps []) w [b8 g1343 g1344 t1336.2.1 t1336.2.2.1 t1336.2.2.2.1 t1336.2.2.2.2.1, b7 g1344 A1345 ((t1336.2.2.2.2.2.2).length) n1347 t2549.2.1, r6 A1345 ((t1336.2.2.2.2.2.2).length) n1347 t2549.2.2, r14 A2702 t2698.length n2704 t2698, b4 g2706 3 5] w2758) := ⟨HS.out.call hS⟩
                  clear hS
                  replace HS : Aside0 (Sep (fps []) w [] w2758) := ⟨HS.out.sub (.cons _ (.cons _ (.cons _ (.cons _ (.cons _ .slnil)))))⟩
                  go_wp2_with fail
                  go_ret
                  rw [← some_eq H]
                  exact ⟨(by first | rfl | (simp [IntKind.wrap_u32]; done)), HS.out⟩
                · replace H := if_no c2755 H
                  have c2755b0 : (t2752 == 6) = false := beq_eq_false_iff_ne.mpr c2755
                  have c2755b1 : (t2752 != 6) = true := bne_iff_ne.mpr c2755
                  clear c2755
                  replace HS : Aside0 (Sep (fps []) w [] w2754) := ⟨HS.out.sub (.cons _ (.cons _ (.cons _ (.cons _ (.cons _ .slnil)))))⟩
                  go_wp2_with fail
                  go_ret
                  rw [← some_eq H]
                  exact ⟨(by first | rfl | (simp [IntKind.wrap_u32]; done)), HS.out⟩
              · replace H := if_no c2751 H
                have c2751b0 : t2748 = false := by simpa using c2751
                have c2751b1 : (!t2748) = true := by rw [c2751b0]; rfl
                clear c2751
                replace HS : Aside0 (Sep (fps []) w [] w2750) := ⟨HS.out.sub (.cons _ (.cons _ (.cons _ (.cons _ (.cons _ .slnil)))))⟩
                go_wp2_with fail
                go_ret
                rw [← some_eq H]
                exact ⟨(by first | rfl | (simp [IntKind.wrap_u32]; done)), HS.out⟩
            · replace H := if_no c2552 H
              have c2552b0 : t2549.1 = false := by simpa using c2552
              have c2552b1 : (!t2549.1) = true := by rw [c2552b0]; rfl
              try rw [c2552b1]
              clear c2552
              replace HS : Aside0 (Sep (fps []) w [] w2551) := ⟨HS.out.sub (.cons _ (.cons _ (.cons _ .slnil)))⟩
              go_wp2_with fail
              go_ret
              rw [← some_eq H]
              exact ⟨(by first | rfl | (simp [IntKind.wrap_u32]; done)), HS.out⟩
          · replace H := if_no c2420 H
            have c2420b0 : t2417.1 = false := by simpa using c2420
            have c2420b1 : (!t2417.1) = true := by rw [c2420b0]; rfl
            try rw [c2420b1]
            clear c2420
            replace HS : Aside0 (Sep (fps []) w [] w2419) := ⟨HS.out.sub (.cons _ (.cons _ (.cons _ .slnil)))⟩
            go_wp2_with fail
            go_ret
            rw [← some_eq H]
            exact ⟨(by first | rfl | (simp [IntKind.wrap_u32]; done)), HS.out⟩
        · replace H := if_no c2416 H
          have c2416b0 : t2413.1 = false := by simpa using c2416
          have c2416b1 : (!t2413.1) = true := by rw [c2416b0]; rfl
          try rw [c2416b1]
          clear c2416
          replace HS : Aside0 (Sep (fps []) w [] w2415) := ⟨HS.out.sub (.cons _ (.cons _ (.cons _ .slnil)))⟩
          go_wp2_with fail
          go_ret
          rw [← some_eq H]
          exact ⟨(by first | rfl | (simp [IntKind.wrap_u32]; done)), HS.out⟩
      · replace H := if_no c2412 H
        have c2412b0 : t2409.1 = false := by simpa using c2412
        have c2412b1 : (!t2409.1) = true := by rw [c2412b0]; rfl
        try rw [c2412b1]
        clear c2412
        replace HS : Aside0 (Sep (fps []) w [] w2411) := ⟨HS.out.sub (.cons _ (.cons _ (.cons _ .slnil)))⟩
        go_wp2_with fail
        go_ret
        rw [← some_eq H]
        exact ⟨(by first | rfl | (simp [IntKind.wrap_u32]; done)), HS.out⟩
    · replace H := if_no c1349 H
      have c1349b0 : t1336.1 = false := by simpa using c1349
      have c1349b1 : (!t1336.1) = true := by rw [c1349b0]; rfl
      try rw [c1349b1]
      clear c1349
      replace HS : Aside0 (Sep (fps []) w [b8 g1343 g1344 t1336.2.1 t1336.2.2.1 t1336.2.2.2.1 t1336.2.2.2.2.1, b7 g1344 A1345 ((t1336.2.2.2.2.2.2).length) n1347 t1336.2.2.2.2.2.1, r6 A1345 ((t1336.2.2.2.2.2.2).length) n1347 t1336.2.2.2.2.2.2] w1339) := ⟨HS.out.sub (.cons_cons _ (.cons_cons _ (.cons_cons _ (.cons _ .slnil))))⟩
      replace HS : Aside0 (Sep (fps []) w [] w1339) := ⟨HS.out.sub (.cons _ (.cons _ (.cons _ .slnil)))⟩
      go_wp2_with fail
      go_ret
      rw [← some_eq H]
      exact ⟨(by first | rfl | (simp [IntKind.wrap_u32]; done)), HS.out⟩

set_option maxHeartbeats 30000000 in
set_option maxRecDepth 100000 in
theorem ring_Take.calls (k : Nat) (l3084 : List Int) (a3089 : Int) (a3090 : Int) (a3091 : Int) (a3092 : Int) (a3093 : Int) (g3080 : Nat) (g3082 : Nat) (A3085 : Option Addr) (m3086 : Nat) (n3087 : Nat) (r : Int × Bool × Int × List Int) (w : World)  (HGl0 : Aside0 (Gl 0 #[.int .i64 0, .int .i64 0, .int .i64 0, .int .i64 0, .int .i64 0] (fps [b8 g3080 g3082 a3090 a3091 a3092 a3093, b7 g3082 A3085 m3086 n3087 a3089, r6 A3085 m3086 n3087 l3084]) w)) (HS : Aside0 (Sep (fps [b8 g3080 g3082 a3090 a3091 a3092 a3093, b7 g3082 A3085 m3086 n3087 a3089, r6 A3085 m3086 n3087 l3084]) w [b8 g3080 g3082 a3090 a3091 a3092 a3093, b7 g3082 A3085 m3086 n3087 a3089, r6 A3085 m3086 n3087 l3084] w)) (H : Aside0 (ring_Take.f k l3084 a3089 a3090 a3091 a3092 a3093 = some r)) :
    Calls Tryd.prog 25 #[.pointer (some ⟨g3080, 0, none⟩)] w fun e w' => e = .returned (.tuple #[.int .i64 r.1, .bool r.2.1]) ∧ Sep (fps [b8 g3080 g3082 a3090 a3091 a3092 a3093, b7 g3082 A3085 m3086 n3087 a3089, r6 A3085 m3086 n3087 l3084]) w [b8 g3080 g3082 a3090 a3091 a3092 a3093, b7 g3082 A3085 m3086 n3087 r.2.2.1, r6 A3085 m3086 n3087 r.2.2.2] w' := by
  generalize (fps [b8 g3080 g3082 a3090 a3091 a3092 a3093, b7 g3082 A3085 m3086 n3087 a3089, r6 A3085 m3086 n3087 l3084]) = FF at HS HGl0 ⊢
  obtain rfl := (row_len (HS.out.at2)).symm
  unfold ring_Take.f at H
  go_enter Tryd.func25, Tryd.ntmps25
  go_wp2_with fail
  obtain ⟨t3106, HA3107, H⟩ := bind_some H
  refine (ground_Ground_Reg.calls l3084 a3089 a3090 a3091 a3092 a3093 7 g3080 g3082 A3085 l3084.length n3087 t3106 _ ⟨HGl0.out.pass HS.out⟩ ⟨HS.out.begin⟩ HA3107).mono ?_
  rintro e_ w3108 ⟨rfl, hS⟩
  replace HS : Aside0 (Sep FF w [b8 g3080 g3082 a3090 a3091 a3092 a3093, b7 g3082 A3085 l3084.length n3087 t3106.2, r6 A3085 l3084.length n3087 l3084] w3108) := ⟨HS.out.call hS⟩
  clear hS
  by_cases c3109 : t3106.1 = 0
  · replace H := if_yes c3109 H
    have c3109b0 : (t3106.1 == 0) = true := beq_iff_eq.mpr c3109
    have c3109b1 : (t3106.1 != 0) = false := bne_eq_false_iff_eq.mpr c3109
    clear c3109
    go_wp2_with fail
    go_ret2
    rw [← some_eq H]
    exact ⟨(by first | rfl | (simp [IntKind.wrap_u32]; done)), HS.out⟩
  · replace H := if_no c3109 H
    have c3109b0 : (t3106.1 == 0) = false := beq_eq_false_iff_ne.mpr c3109
    have c3109b1 : (t3106.1 != 0) = true := bne_iff_ne.mpr c3109
    clear c3109
    go_wp2_with fail
    obtain ⟨t3110, HA3111, H⟩ := bind_some H
    refine (ring_Cut.calls _ l3084 t3106.2 a3090 a3091 a3092 a3093 (wrap64 (t3106.1 - 1)) g3080 g3082 A3085 l3084.length n3087 t3110 _ ⟨HGl0.out.pass HS.out⟩ ⟨HS.out.begin⟩ HA3111).mono ?_
    rintro e_ w3112 ⟨rfl, hS⟩
    replace HS : Aside0 (Sep FF w [b8 g3080 g3082 a3090 a3091 a3092 a3093, b7 g3082 A3085 l3084.length n3087 t3110.2.1, r6 A3085 l3084.length n3087 t3110.2.2] w3112) := ⟨HS.out.call hS⟩
    clear hS
    by_cases c3113 : t3110.1 = true
    · replace H := if_yes c3113 H
      have c3113b0 : t3110.1 = true := c3113
      have c3113b1 : (!t3110.1) = false := by rw [c3113b0]; rfl
      try rw [c3113b1]
      clear c3113
      go_wp2_with fail
      go_ret2
      rw [← some_eq H]
      exact ⟨(by first | rfl | (simp [IntKind.wrap_u32]; done)), HS.out⟩
    · replace H := if_no c3113 H
      have c3113b0 : t3110.1 = false := by simpa using c3113
      have c3113b1 : (!t3110.1) = true := by rw [c3113b0]; rfl
      try rw [c3113b1]
      clear c3113
      go_wp2_with fail
      go_ret2
      rw [← some_eq H]
      exact ⟨(by first | rfl | (simp [IntKind.wrap_u32]; done)), HS.out⟩

set_option maxHeartbeats 30000000 in
set_option maxRecDepth 100000 in
theorem ring_Len.calls (l3170 : List Int) (a3175 : Int) (a3176 : Int) (a3177 : Int) (a3178 : Int) (a3179 : Int) (g3166 : Nat) (g3168 : Nat) (A3171 : Option Addr) (m3172 : Nat) (n3173 : Nat) (r : Int × Int) (w : World)  (HGl0 : Aside0 (Gl 0 #[.int .i64 0, .int .i64 0, .int .i64 0, .int .i64 0, .int .i64 0] (fps [b8 g3166 g3168 a3176 a3177 a3178 a3179, b7 g3168 A3171 m3172 n3173 a3175, r6 A3171 m3172 n3173 l3170]) w)) (HS : Aside0 (Sep (fps [b8 g3166 g3168 a3176 a3177 a3178 a3179, b7 g3168 A3171 m3172 n3173 a3175, r6 A3171 m3172 n3173 l3170]) w [b8 g3166 g3168 a3176 a3177 a3178 a3179, b7 g3168 A3171 m3172 n3173 a3175, r6 A3171 m3172 n3173 l3170] w)) (H : Aside0 (ring_Len.f l3170 a3175 a3176 a3177 a3178 a3179 = some r)) :
    Calls Tryd.prog 26 #[.pointer (some ⟨g3166, 0, none⟩)] w fun e w' => e = .returned (.int .i64 r.1) ∧ Sep (fps [b8 g3166 g3168 a3176 a3177 a3178 a3179, b7 g3168 A3171 m3172 n3173 a3175, r6 A3171 m3172 n3173 l3170]) w [b8 g3166 g3168 a3176 a3177 a3178 a3179, b7 g3168 A3171 m3172 n3173 r.2, r6 A3171 m3172 n3173 l3170] w' := by
  generalize (fps [b8 g3166 g3168 a3176 a3177 a3178 a3179, b7 g3168 A3171 m3172 n3173 a3175, r6 A3171 m3172 n3173 l3170]) = FF at HS HGl0 ⊢
  obtain rfl := (row_len (HS.out.at2)).symm
  unfold ring_Len.f at H
  go_enter Tryd.func26, Tryd.ntmps26
  go_wp2_with fail
  obtain ⟨t3183, HA3184, H⟩ := bind_some H
  refine (ground_Ground_Reg.calls l3170 a3175 a3176 a3177 a3178 a3179 9 g3166 g3168 A3171 l3170.length n3173 t3183 _ ⟨HGl0.out.pass HS.out⟩ ⟨HS.out.begin⟩ HA3184).mono ?_
  rintro e_ w3185 ⟨rfl, hS⟩
  replace HS : Aside0 (Sep FF w [b8 g3166 g3168 a3176 a3177 a3178 a3179, b7 g3168 A3171 l3170.length n3173 t3183.2, r6 A3171 l3170.length n3173 l3170] w3185) := ⟨HS.out.call hS⟩
  clear hS
  go_wp2_with fail
  go_ret
  rw [← some_eq H]
  exact ⟨(by first | rfl | (simp [IntKind.wrap_u32]; done)), HS.out⟩

set_option maxHeartbeats 30000000 in
set_option maxRecDepth 100000 in
theorem quitrentlaw09_RingOrder.calls (k : Nat) (a1 : Int) (l2 : List Int) (A3 : Option Addr) (n4 : Nat) (r : Bool) (w : World) (HR5 : Aside0 (Rd (Kd.int .u8) (fps []) w A3 l2.length l2)) (HGl0 : Aside0 (Gl 0 #[.int .i64 0, .int .i64 0, .int .i64 0, .int .i64 0, .int .i64 0] (fps []) w)) (HS : Aside0 (Sep (fps []) w [] w)) (H : Aside0 (quitrentlaw09_RingOrder.f k a1 l2 = some r)) :
    Calls Tryd.prog 4 #[.int .u8 a1, .slice A3 l2.length n4] w fun e w' => e = .returned (.bool r) ∧ Sep (fps []) w [] w' := by
  unfold quitrentlaw09_RingOrder.f at H
  go_enter Tryd.func4, Tryd.ntmps4
  by_cases c6 : a1 < 1
  · replace H := if_yes c6 H
    have c6b0 : decide (a1 < 1) = true := decide_eq_true c6
    clear c6
    go_wp2_with fail
    obtain ⟨t2759, HA2760, H⟩ := bind_some H
    refine (quitrentlaw09_begun.calls _ t2759 _ ⟨HGl0.out.pass (l := []) HS.out⟩ ⟨Sep.start _⟩ HA2760).mono ?_
    rintro e_ w2761 ⟨rfl, hS⟩
    replace HS : Aside0 (Sep (fps []) w [] w2761) := ⟨HS.out.call hS⟩
    clear hS
    go_wp2_with fail
    go_ret
    rw [← some_eq H]
    exact ⟨(by first | rfl | (simp [IntKind.wrap_u32]; done)), HS.out⟩
  · replace H := if_no c6 H
    have c6b0 : decide (a1 < 1) = false := decide_eq_false c6
    clear c6
    by_cases c2762 : a1 > 60
    · replace H := if_yes c2762 H
      have c2762b0 : decide (60 < a1) = true := decide_eq_true c2762
      clear c2762
      go_wp2_with fail
      obtain ⟨t2759, HA2763, H⟩ := bind_some H
      refine (quitrentlaw09_begun.calls _ t2759 _ ⟨HGl0.out.pass (l := []) HS.out⟩ ⟨Sep.start _⟩ HA2763).mono ?_
      rintro e_ w2764 ⟨rfl, hS⟩
      replace HS : Aside0 (Sep (fps []) w [] w2764) := ⟨HS.out.call hS⟩
      clear hS
      go_wp2_with fail
      go_ret
      rw [← some_eq H]
      exact ⟨(by first | rfl | (simp [IntKind.wrap_u32]; done)), HS.out⟩
    · replace H := if_no c2762 H
      have c2762b0 : decide (60 < a1) = false := decide_eq_false c2762
      clear c2762
      by_cases c2765 : (l2.length : Int) > 100
      · replace H := if_yes c2765 H
        have c2765b0 : decide (100 < (l2.length : Int)) = true := decide_eq_true c2765
        have c2765b1 : decide (100 < l2.length) = true := decide_eq_true (by omega)
        clear c2765
        go_wp2_with fail
        obtain ⟨t2759, HA2766, H⟩ := bind_some H
        refine (quitrentlaw09_begun.calls _ t2759 _ ⟨HGl0.out.pass (l := []) HS.out⟩ ⟨Sep.start _⟩ HA2766).mono ?_
        rintro e_ w2767 ⟨rfl, hS⟩
        replace HS : Aside0 (Sep (fps []) w [] w2767) := ⟨HS.out.call hS⟩
        clear hS
        go_wp2_with fail
        go_ret
        rw [← some_eq H]
        exact ⟨(by first | rfl | (simp [IntKind.wrap_u32]; done)), HS.out⟩
      · replace H := if_no c2765 H
        have c2765b0 : decide (100 < (l2.length : Int)) = false := decide_eq_false c2765
        have c2765b1 : decide (100 < l2.length) = false := decide_eq_false (by omega)
        clear c2765
        obtain ⟨m2768, HA2769, H⟩ := bind_some H
        obtain ⟨hm2770, hn2771⟩ := mkLen_eq HA2769
        have hm2770H := Aside0.mk hm2770
        clear hm2770
        go_wp2_with (first | ((with_reducible refine gate_dst (N := 33) rfl ?_); refine make_event rfl (N := 33) rfl 23 5 (.tmp 32) (.tmp 32) rfl .u8 (.int .u8 0) 1 Tryd.underlying23 (by kernel_rfl) rfl (by decide) (Value.int .u8) 0 rfl m2768 (by show Value.int _ _ = _; rw [hm2770H.out]) (by show Value.int _ _ = _; rw [hm2770H.out]) (by omega) HS.out ?_; intro g2772 w2773 HS1; replace HS : Aside0 (Sep (fps []) w [r16 (some ⟨g2772, 0, none⟩) m2768 m2768 (List.replicate m2768 (0 : Int))] w2773) := ⟨HS1⟩; clear HS1))
        obtain ⟨o2790, AL2791, H⟩ := bind_some H
        go_loopg [36] k (fun kq v36 wc => ∃ (x2794 : Int) (x2795 : List Int), v36 = .int .i64 x2794 ∧ Aside0 (quitrentlaw09_RingOrder.lo0 kq m2768 x2794 x2795 = some o2790) ∧ Aside0 (Sep (fps []) w [r16 (some ⟨g2772, 0, none⟩) m2768 m2768 x2795] wc))
        case atStart => exact ⟨(0), ((List.replicate m2768 (0 : Int))), (by first | rfl | (simp [IntKind.wrap_u32]; done)), AL2791, ⟨HS.out⟩⟩
        case round =>
          clear AL2791 HS
          obtain ⟨x2794, x2795, rfl, AL2791, HS⟩ := hrel
          obtain ⟨w2792, rfl⟩ : ∃ x : World, x = wr := ⟨_, rfl⟩
          cases gk with
          | zero => exact absurd AL2791.out (by simp [quitrentlaw09_RingOrder.lo0])
          | succ k2793 =>
            have AL0 := AL2791.out
            rw [quitrentlaw09_RingOrder.lo0] at AL0
            clear AL2791
            have AL2791 := Aside0.mk AL0
            clear AL0
            by_cases c2796 : x2794 < (m2768 : Int)
            · replace AL2791 := if_yes c2796 AL2791
              have c2796b0 : decide (x2794 < (m2768 : Int)) = true := decide_eq_true c2796
              clear c2796
              by_cases c2797 : 0 ≤ x2794
              · replace AL2791 := if_yes c2797 AL2791
                have c2797b0 : decide (0 ≤ x2794) = true := decide_eq_true c2797
                have c2797p : (0 ≤ x2794) = True := eq_true c2797
                clear c2797
                have ip2798 : (x2794 < (m2768 : Int)) = True := eq_true (of_decide_eq_true c2796b0)
                obtain ⟨y2786, HA2800, AL2791⟩ := bind_some AL2791
                have hx2801 := (row_get 0 (HS.out.at0) x2794 (of_decide_eq_true c2797b0) (of_decide_eq_true c2796b0)).1
                have hz2802 := (row_get 0 (HS.out.at0) x2794 (of_decide_eq_true c2797b0) (of_decide_eq_true c2796b0)).2
                go_wp2_with (first | ((with_reducible refine gate_store (t := 5) (p := 41) rfl ?_); refine store_event (w1 := World.setCell w2792 ⟨g2772, (x2794).toNat, none⟩ (.int .u8 1)) rfl (t := 5) (p := 41) rfl rfl ?hr ?_; (case hr => first | (go_simp; done) | (go_simp; rfl)); intro w2799 hst; clear hx2801 hz2802; have hq := Sep.rowset (l1 := []) (l2 := []) HS.out x2794 1; rw [← hst, some_eq HA2800] at hq; replace HS : Aside0 (Sep (fps []) w [r16 (some ⟨g2772, 0, none⟩) m2768 m2768 y2786] w2799) := ⟨hq⟩; clear hst hq))
                go_roundg k2793
                case measure => exact Nat.lt_succ_self _
                case rel => exact ⟨(wrap64 (x2794 + 1)), (y2786), (by first | rfl | (simp [IntKind.wrap_u32]; done)), Aside0.mk AL2791.out, ⟨HS.out⟩⟩
              · replace AL2791 := if_no c2797 AL2791
                have c2797b0 : decide (0 ≤ x2794) = false := decide_eq_false c2797
                clear c2797
                exact (none_no AL2791).elim
            · replace AL2791 := if_no c2796 AL2791
              have c2796b0 : decide (x2794 < (m2768 : Int)) = false := decide_eq_false c2796
              clear c2796
              have ho := some_eq AL2791
              subst ho
              clear AL2791
              go_wp2_with fail
              have hl_ := row_len (HS.out.at0)
              rw [← hl_] at HS ⊢
              clear hl_
              obtain ⟨t2803, HA2804, H⟩ := bind_some H
              rcases t2803 with t2805 | t2806
              · have H := sum_l H
                refine (quitrentlaw09_made.calls _ x2795 (some ⟨g2772, 0, none⟩) x2795.length (.inl t2805) _ ⟨Rd.ownI (l := []) HS.out 0 rfl⟩ ⟨HGl0.out.pass (l := []) HS.out⟩ ⟨Sep.start _⟩ HA2804).mono ?_
                rintro e_ w2807 ⟨rfl, hS⟩
                replace HS : Aside0 (Sep (fps []) w [r16 (some ⟨g2772, 0, none⟩) x2795.length x2795.length x2795] w2807) := ⟨HS.out.call hS⟩
                clear hS
                by_cases c2808 : t2805 = true
                · replace H := if_yes c2808 H
                  have c2808b0 : t2805 = true := c2808
                  have c2808b1 : (!t2805) = false := by rw [c2808b0]; rfl
                  try rw [c2808b1]
                  clear c2808
                  go_wp2_with fail
                  obtain ⟨o2810, AL2811, H⟩ := bind_some H
                  go_loopg [52] k (fun kq v52 wc => ∃ (x2814 : Int), v52 = .int .i64 x2814 ∧ Aside0 (quitrentlaw09_RingOrder.lo1 kq x2795 x2814 = some o2810) ∧ Aside0 (Sep (fps []) w [r16 (some ⟨g2772, 0, none⟩) x2795.length x2795.length x2795] wc))
                  case atStart => exact ⟨(0), (by first | rfl | (simp [IntKind.wrap_u32]; done)), AL2811, ⟨HS.out⟩⟩
                  case round =>
                    clear AL2811 HS
                    obtain ⟨x2814, rfl, AL2811, HS⟩ := hrel
                    obtain ⟨w2812, rfl⟩ : ∃ x : World, x = wr := ⟨_, rfl⟩
                    cases gk with
                    | zero => exact absurd AL2811.out (by simp [quitrentlaw09_RingOrder.lo1])
                    | succ k2813 =>
                      have AL0 := AL2811.out
                      rw [quitrentlaw09_RingOrder.lo1] at AL0
                      clear AL2811
                      have AL2811 := Aside0.mk AL0
                      clear AL0
                      by_cases c2815 : x2814 < (x2795.length : Int)
                      · replace AL2811 := if_yes c2815 AL2811
                        have c2815b0 : decide (x2814 < (x2795.length : Int)) = true := decide_eq_true c2815
                        clear c2815
                        exact (none_no AL2811).elim
                      · replace AL2811 := if_no c2815 AL2811
                        have c2815b0 : decide (x2814 < (x2795.length : Int)) = false := decide_eq_false c2815
                        clear c2815
                        have ho := some_eq AL2811
                        subst ho
                        clear AL2811
                        obtain ⟨m2816, HA2817, H⟩ := bind_some H
                        obtain ⟨hm2818, hn2819⟩ := mkLen_eq HA2817
                        have hm2818H := Aside0.mk hm2818
                        clear hm2818
                        go_wp2_with (first | ((with_reducible refine gate_dst (N := 66) rfl ?_); refine make_event rfl (N := 66) rfl 44 4 (.tmp 65) (.tmp 65) rfl .u8 (.bool false) 1 Tryd.underlying44 (by kernel_rfl) rfl (by decide) (Value.bool) false rfl m2816 (by show Value.int _ _ = _; rw [hm2818H.out]) (by show Value.int _ _ = _; rw [hm2818H.out]) (by omega) HS.out ?_; intro g2820 w2821 HS1; replace HS : Aside0 (Sep (fps []) w [r16 (some ⟨g2772, 0, none⟩) x2795.length x2795.length x2795, r17 (some ⟨g2820, 0, none⟩) m2816 m2816 (List.replicate m2816 false)] w2821) := ⟨HS1⟩; clear HS1))
                        obtain ⟨o2825, AL2826, H⟩ := bind_some H
                        go_loopg [69] k (fun kq v69 wc => ∃ (x2829 : Int), v69 = .int .i64 x2829 ∧ Aside0 (quitrentlaw09_RingOrder.lo2 kq l2 x2829 = some o2825) ∧ Aside0 (Sep (fps []) w [r16 (some ⟨g2772, 0, none⟩) x2795.length x2795.length x2795, r17 (some ⟨g2820, 0, none⟩) m2816 m2816 (List.replicate m2816 false)] wc))
                        case atStart => exact ⟨(0), (by first | rfl | (simp [IntKind.wrap_u32]; done)), AL2826, ⟨HS.out⟩⟩
                        case round =>
                          clear AL2826 HS
                          obtain ⟨x2829, rfl, AL2826, HS⟩ := hrel
                          obtain ⟨w2827, rfl⟩ : ∃ x : World, x = wr := ⟨_, rfl⟩
                          cases gk with
                          | zero => exact absurd AL2826.out (by simp [quitrentlaw09_RingOrder.lo2])
                          | succ k2828 =>
                            have AL0 := AL2826.out
                            rw [quitrentlaw09_RingOrder.lo2] at AL0
                            clear AL2826
                            have AL2826 := Aside0.mk AL0
                            clear AL0
                            by_cases c2830 : x2829 < (l2.length : Int)
                            · replace AL2826 := if_yes c2830 AL2826
                              have c2830b0 : decide (x2829 < (l2.length : Int)) = true := decide_eq_true c2830
                              clear c2830
                              have ip2832 : (x2829 < (l2.length : Int)) = True := eq_true (of_decide_eq_true c2830b0)
                              exact (none_no AL2826).elim
                            · replace AL2826 := if_no c2830 AL2826
                              have c2830b0 : decide (x2829 < (l2.length : Int)) = false := decide_eq_false c2830
                              clear c2830
                              have ho := some_eq AL2826
                              subst ho
                              clear AL2826
                              by_cases c2839 : (l2.length : Int) > 0
                              · replace H := if_yes c2839 H
                                have c2839b0 : decide (0 < (l2.length : Int)) = true := decide_eq_true c2839
                                have c2839b1 : decide (0 < l2.length) = true := decide_eq_true (by omega)
                                clear c2839
                                exact (none_no H).elim
                              · replace H := if_no c2839 H
                                have c2839b0 : decide (0 < (l2.length : Int)) = false := decide_eq_false c2839
                                have c2839b1 : decide (0 < l2.length) = false := decide_eq_false (by omega)
                                clear c2839
                                replace HS : Aside0 (Sep (fps []) w [r17 (some ⟨g2820, 0, none⟩) m2816 m2816 (List.replicate m2816 false)] w2827) := ⟨HS.out.sub (.cons _ (.cons_cons _ .slnil))⟩
                                go_wp2_with fail
                                obtain ⟨o2844, AL2845, H⟩ := bind_some H
                                go_loopg [104] k (fun kq v104 wc => ∃ (x2848 : Int), v104 = .int .i64 x2848 ∧ Aside0 (quitrentlaw09_RingOrder.lo3 kq x2795 m2816 x2848 = some o2844) ∧ Aside0 (Sep (fps []) w [r17 (some ⟨g2820, 0, none⟩) m2816 m2816 (List.replicate m2816 false)] wc))
                                case atStart => exact ⟨(0), (by first | rfl | (simp [IntKind.wrap_u32]; done)), AL2845, ⟨HS.out⟩⟩
                                case round =>
                                  clear AL2845 HS
                                  obtain ⟨x2848, rfl, AL2845, HS⟩ := hrel
                                  obtain ⟨w2846, rfl⟩ : ∃ x : World, x = wr := ⟨_, rfl⟩
                                  cases gk with
                                  | zero => exact absurd AL2845.out (by simp [quitrentlaw09_RingOrder.lo3])
                                  | succ k2847 =>
                                    have AL0 := AL2845.out
                                    rw [quitrentlaw09_RingOrder.lo3] at AL0
                                    clear AL2845
                                    have AL2845 := Aside0.mk AL0
                                    clear AL0
                                    by_cases c2849 : x2848 < (x2795.length : Int)
                                    · replace AL2845 := if_yes c2849 AL2845
                                      have c2849b0 : decide (x2848 < (x2795.length : Int)) = true := decide_eq_true c2849
                                      clear c2849
                                      by_cases c2850 : 0 ≤ x2848
                                      · replace AL2845 := if_yes c2850 AL2845
                                        have c2850b0 : decide (0 ≤ x2848) = true := decide_eq_true c2850
                                        have c2850p : (0 ≤ x2848) = True := eq_true c2850
                                        clear c2850
                                        by_cases c2851 : x2848 < (m2816 : Int)
                                        · replace AL2845 := if_yes c2851 AL2845
                                          have c2851b0 : decide (x2848 < (m2816 : Int)) = true := decide_eq_true c2851
                                          have c2851p : (x2848 < (m2816 : Int)) = True := eq_true c2851
                                          clear c2851
                                          by_cases c2854 : (rdOf false (List.replicate m2816 false) x2848) = true
                                          · replace AL2845 := if_yes c2854 AL2845
                                            have c2854b0 : (rdOf false (List.replicate m2816 false) x2848) = true := c2854
                                            have c2854b1 : (!(rdOf false (List.replicate m2816 false) x2848)) = false := by rw [c2854b0]; rfl
                                            clear c2854
                                            have hx2852 := C_at_bool (row_Cb (HS.out.at0)) x2848 (of_decide_eq_true c2850b0) (of_decide_eq_true c2851b0)
                                            have hx2853 : w2846.cell? ⟨g2820, (x2848).toNat, none⟩ = some (.bool (rdOf false (List.replicate m2816 false) x2848)) := (row_get false (HS.out.at0) x2848 (of_decide_eq_true c2850b0) (of_decide_eq_true c2851b0)).1
                                            go_wp2_with fail
                                            clear hx2852 hx2853
                                            go_roundg k2847
                                            case measure => exact Nat.lt_succ_self _
                                            case rel => exact ⟨(wrap64 (x2848 + 1)), (by first | rfl | (simp [IntKind.wrap_u32]; done)), Aside0.mk AL2845.out, ⟨HS.out⟩⟩
                                          · replace AL2845 := if_no c2854 AL2845
                                            have c2854b0 : (rdOf false (List.replicate m2816 false) x2848) = false := by simpa using c2854
                                            have c2854b1 : (!(rdOf false (List.replicate m2816 false) x2848)) = true := by rw [c2854b0]; rfl
                                            clear c2854
                                            exact (none_no AL2845).elim
                                        · replace AL2845 := if_no c2851 AL2845
                                          have c2851b0 : decide (x2848 < (m2816 : Int)) = false := decide_eq_false c2851
                                          clear c2851
                                          exact (none_no AL2845).elim
                                      · replace AL2845 := if_no c2850 AL2845
                                        have c2850b0 : decide (0 ≤ x2848) = false := decide_eq_false c2850
                                        clear c2850
                                        exact (none_no AL2845).elim
                                    · replace AL2845 := if_no c2849 AL2845
                                      have c2849b0 : decide (x2848 < (x2795.length : Int)) = false := decide_eq_false c2849
                                      clear c2849
                                      have ho := some_eq AL2845
                                      subst ho
                                      clear AL2845
                                      exact (none_no H).elim
                · replace H := if_no c2808 H
                  have c2808b0 : t2805 = false := by simpa using c2808
                  have c2808b1 : (!t2805) = true := by rw [c2808b0]; rfl
                  try rw [c2808b1]
                  clear c2808
                  replace HS : Aside0 (Sep (fps []) w [] w2807) := ⟨HS.out.sub (.cons _ .slnil)⟩
                  go_wp2_with fail
                  go_ret
                  rw [← some_eq H]
                  exact ⟨(by first | rfl | (simp [IntKind.wrap_u32]; done)), HS.out⟩
              · have H := sum_r H
                refine (quitrentlaw09_made.calls _ x2795 (some ⟨g2772, 0, none⟩) x2795.length (.inr t2806) _ ⟨Rd.ownI (l := []) HS.out 0 rfl⟩ ⟨HGl0.out.pass (l := []) HS.out⟩ ⟨Sep.start _⟩ HA2804).mono ?_
                rintro e_ w2928 ⟨g2932, rfl, g2933, A2934, m2935, n2936, hS⟩
                replace HS : Aside0 (Sep (fps []) w [b8 g2932 g2933 t2806.2.1 t2806.2.2.1 t2806.2.2.2.1 t2806.2.2.2.2.1, b7 g2933 A2934 m2935 n2936 t2806.2.2.2.2.2.1, r6 A2934 m2935 n2936 t2806.2.2.2.2.2.2, r16 (some ⟨g2772, 0, none⟩) x2795.length x2795.length x2795] w2928) := ⟨HS.out.call hS⟩
                clear hS
                obtain rfl := (row_len (HS.out.at2)).symm
                by_cases c2938 : t2806.1 = true
                · replace H := if_yes c2938 H
                  have c2938b0 : t2806.1 = true := c2938
                  have c2938b1 : (!t2806.1) = false := by rw [c2938b0]; rfl
                  try rw [c2938b1]
                  clear c2938
                  go_wp2_with fail
                  obtain ⟨o2966, AL2967, H⟩ := bind_some H
                  go_loopg [52] k (fun kq v52 wc => ∃ (x2970 : Int) (x2971 : List Int) (x2972 : Int), v52 = .int .i64 x2970 ∧ Aside0 (quitrentlaw09_RingOrder.lo4 kq x2795 t2806 x2970 x2971 x2972 = some o2966) ∧ Aside0 (Sep (fps []) w [b8 g2932 g2933 t2806.2.1 t2806.2.2.1 t2806.2.2.2.1 t2806.2.2.2.2.1, b7 g2933 A2934 ((t2806.2.2.2.2.2.2).length) n2936 x2972, r6 A2934 ((t2806.2.2.2.2.2.2).length) n2936 x2971, r16 (some ⟨g2772, 0, none⟩) x2795.length x2795.length x2795] wc))
                  case atStart => exact ⟨(0), (t2806.2.2.2.2.2.2), (t2806.2.2.2.2.2.1), (by first | rfl | (simp [IntKind.wrap_u32]; done)), AL2967, ⟨HS.out⟩⟩
                  case round =>
                    clear AL2967 HS
                    obtain ⟨x2970, x2971, x2972, rfl, AL2967, HS⟩ := hrel
                    obtain ⟨w2968, rfl⟩ : ∃ x : World, x = wr := ⟨_, rfl⟩
                    cases gk with
                    | zero => exact absurd AL2967.out (by simp [quitrentlaw09_RingOrder.lo4])
                    | succ k2969 =>
                      have AL0 := AL2967.out
                      rw [quitrentlaw09_RingOrder.lo4] at AL0
                      clear AL2967
                      have AL2967 := Aside0.mk AL0
                      clear AL0
                      by_cases c2973 : x2970 < (x2795.length : Int)
                      · replace AL2967 := if_yes c2973 AL2967
                        have c2973b0 : decide (x2970 < (x2795.length : Int)) = true := decide_eq_true c2973
                        clear c2973
                        go_wp2_with fail
                        obtain ⟨t2946, HA2974, AL2967⟩ := bind_some AL2967
                        refine (ring_Add.calls _ x2971 x2972 t2806.2.1 t2806.2.2.1 t2806.2.2.2.1 t2806.2.2.2.2.1 x2970 g2932 g2933 A2934 ((t2806.2.2.2.2.2.2).length) n2936 t2946 _ ⟨HGl0.out.pass HS.out⟩ ⟨HS.out.begin⟩ HA2974).mono ?_
                        rintro e_ w2975 ⟨rfl, hS⟩
                        replace HS : Aside0 (Sep (fps []) w [b8 g2932 g2933 t2806.2.1 t2806.2.2.1 t2806.2.2.2.1 t2806.2.2.2.2.1, b7 g2933 A2934 ((t2806.2.2.2.2.2.2).length) n2936 t2946.2.1, r6 A2934 ((t2806.2.2.2.2.2.2).length) n2936 t2946.2.2, r16 (some ⟨g2772, 0, none⟩) x2795.length x2795.length x2795] w2975) := ⟨HS.out.call hS⟩
                        clear hS
                        by_cases c2976 : t2946.1 = true
                        · replace AL2967 := if_yes c2976 AL2967
                          have c2976b0 : t2946.1 = true := c2976
                          have c2976b1 : (!t2946.1) = false := by rw [c2976b0]; rfl
                          try rw [c2976b1]
                          clear c2976
                          go_wp2_with fail
                          obtain ⟨t2950, HA2977, AL2967⟩ := bind_some AL2967
                          refine (ring_Add.calls _ t2946.2.2 t2946.2.1 t2806.2.1 t2806.2.2.1 t2806.2.2.2.1 t2806.2.2.2.2.1 x2970 g2932 g2933 A2934 ((t2806.2.2.2.2.2.2).length) n2936 t2950 _ ⟨HGl0.out.pass HS.out⟩ ⟨HS.out.begin⟩ HA2977).mono ?_
                          rintro e_ w2978 ⟨rfl, hS⟩
                          replace HS : Aside0 (Sep (fps []) w [b8 g2932 g2933 t2806.2.1 t2806.2.2.1 t2806.2.2.2.1 t2806.2.2.2.2.1, b7 g2933 A2934 ((t2806.2.2.2.2.2.2).length) n2936 t2950.2.1, r6 A2934 ((t2806.2.2.2.2.2.2).length) n2936 t2950.2.2, r16 (some ⟨g2772, 0, none⟩) x2795.length x2795.length x2795] w2978) := ⟨HS.out.call hS⟩
                          clear hS
                          by_cases c2979 : t2950.1 = true
                          · replace AL2967 := if_yes c2979 AL2967
                            have c2979b0 : t2950.1 = true := c2979
                            have c2979b1 : (!t2950.1) = false := by rw [c2979b0]; rfl
                            clear c2979
                            go_wp2_with fail
                            have ho := some_eq AL2967
                            subst ho
                            have H := lp_ret H
                            go_ret
                            rw [← some_eq H]
                            exact ⟨(by first | rfl | (simp [IntKind.wrap_u32]; done)), HS.out.sub (.cons _ (.cons _ (.cons _ (.cons _ .slnil))))⟩
                          · replace AL2967 := if_no c2979 AL2967
                            have c2979b0 : t2950.1 = false := by simpa using c2979
                            have c2979b1 : (!t2950.1) = true := by rw [c2979b0]; rfl
                            clear c2979
                            go_wp2_with fail
                            go_roundg k2969
                            case measure => exact Nat.lt_succ_self _
                            case rel => exact ⟨(wrap64 (x2970 + 1)), (t2950.2.2), (t2950.2.1), (by first | rfl | (simp [IntKind.wrap_u32]; done)), Aside0.mk AL2967.out, ⟨HS.out⟩⟩
                        · replace AL2967 := if_no c2976 AL2967
                          have c2976b0 : t2946.1 = false := by simpa using c2976
                          have c2976b1 : (!t2946.1) = true := by rw [c2976b0]; rfl
                          try rw [c2976b1]
                          clear c2976
                          go_wp2_with fail
                          have ho := some_eq AL2967
                          subst ho
                          have H := lp_ret H
                          go_ret
                          rw [← some_eq H]
                          exact ⟨(by first | rfl | (simp [IntKind.wrap_u32]; done)), HS.out.sub (.cons _ (.cons _ (.cons _ (.cons _ .slnil))))⟩
                      · replace AL2967 := if_no c2973 AL2967
                        have c2973b0 : decide (x2970 < (x2795.length : Int)) = false := decide_eq_false c2973
                        clear c2973
                        have ho := some_eq AL2967
                        subst ho
                        clear AL2967
                        have H := lp_out H
                        obtain ⟨m2816, HA2980, H⟩ := bind_some H
                        obtain ⟨hm2981, hn2982⟩ := mkLen_eq HA2980
                        have hm2981H := Aside0.mk hm2981
                        clear hm2981
                        go_wp2_with (first | ((with_reducible refine gate_dst (N := 66) rfl ?_); refine make_event rfl (N := 66) rfl 44 4 (.tmp 65) (.tmp 65) rfl .u8 (.bool false) 1 Tryd.underlying44 (by kernel_rfl) rfl (by decide) (Value.bool) false rfl m2816 (by show Value.int _ _ = _; rw [hm2981H.out]) (by show Value.int _ _ = _; rw [hm2981H.out]) (by omega) HS.out ?_; intro g2983 w2984 HS1; replace HS : Aside0 (Sep (fps []) w [b8 g2932 g2933 t2806.2.1 t2806.2.2.1 t2806.2.2.2.1 t2806.2.2.2.2.1, b7 g2933 A2934 ((t2806.2.2.2.2.2.2).length) n2936 x2972, r6 A2934 ((t2806.2.2.2.2.2.2).length) n2936 x2971, r16 (some ⟨g2772, 0, none⟩) x2795.length x2795.length x2795, r17 (some ⟨g2983, 0, none⟩) m2816 m2816 (List.replicate m2816 false)] w2984) := ⟨HS1⟩; clear HS1))
                        obtain ⟨o3030, AL3031, H⟩ := bind_some H
                        go_loopg [69] k (fun kq v69 wc => ∃ (x3034 : Int) (x3035 : List Int) (x3036 : List Bool) (x3037 : Int), v69 = .int .i64 x3034 ∧ Aside0 (quitrentlaw09_RingOrder.lo5 kq a1 l2 t2806 m2816 x3034 x3035 x3036 x3037 = some o3030) ∧ Aside0 (Sep (fps []) w [b8 g2932 g2933 t2806.2.1 t2806.2.2.1 t2806.2.2.2.1 t2806.2.2.2.2.1, b7 g2933 A2934 ((t2806.2.2.2.2.2.2).length) n2936 x3037, r6 A2934 ((t2806.2.2.2.2.2.2).length) n2936 x3035, r16 (some ⟨g2772, 0, none⟩) x2795.length x2795.length x2795, r17 (some ⟨g2983, 0, none⟩) m2816 m2816 x3036] wc))
                        case atStart => exact ⟨(0), (x2971), ((List.replicate m2816 false)), (x2972), (by first | rfl | (simp [IntKind.wrap_u32]; done)), AL3031, ⟨HS.out⟩⟩
                        case round =>
                          clear AL3031 HS
                          obtain ⟨x3034, x3035, x3036, x3037, rfl, AL3031, HS⟩ := hrel
                          obtain ⟨w3032, rfl⟩ : ∃ x : World, x = wr := ⟨_, rfl⟩
                          cases gk with
                          | zero => exact absurd AL3031.out (by simp [quitrentlaw09_RingOrder.lo5])
                          | succ k3033 =>
                            have AL0 := AL3031.out
                            rw [quitrentlaw09_RingOrder.lo5] at AL0
                            clear AL3031
                            have AL3031 := Aside0.mk AL0
                            clear AL0
                            by_cases c3038 : x3034 < (l2.length : Int)
                            · replace AL3031 := if_yes c3038 AL3031
                              have c3038b0 : decide (x3034 < (l2.length : Int)) = true := decide_eq_true c3038
                              clear c3038
                              by_cases c3039 : 0 ≤ x3034
                              · replace AL3031 := if_yes c3039 AL3031
                                have c3039b0 : decide (0 ≤ x3034) = true := decide_eq_true c3039
                                have c3039p : (0 ≤ x3034) = True := eq_true c3039
                                clear c3039
                                have ip3040 : (x3034 < (l2.length : Int)) = True := eq_true (of_decide_eq_true c3038b0)
                                by_cases c3042 : a1 = 0
                                · replace AL3031 := if_yes c3042 AL3031
                                  have c3042b0 : (a1 == 0) = true := beq_iff_eq.mpr c3042
                                  have c3042b1 : (a1 != 0) = false := bne_eq_false_iff_eq.mpr c3042
                                  exact (none_no AL3031).elim
                                · replace AL3031 := if_no c3042 AL3031
                                  have c3042b0 : (a1 == 0) = false := beq_eq_false_iff_ne.mpr c3042
                                  have c3042b1 : (a1 != 0) = true := bne_iff_ne.mpr c3042
                                  obtain ⟨hx3041a, hx3041e, hx3041⟩ := Kd.at_int (Rd.read (fun _ _ _ _ h => h) HR5.out HS.out.fr) x3034 (of_decide_eq_true c3039b0) (of_decide_eq_true c3038b0); cases hx3041e
                                  skip
                                  go_wp2_with fail
                                  clear hx3041 c3042
                                  refine start_ (n := 8) (S := (fun w' => Kd.C Kd.bool w' (some ⟨g2983, 0, none⟩) m2816 x3036)) (ds := []) #[false, false, false, false, false, false, false, false] (by kernel_rfl) rfl rfl (row_Cb ((HS.out.drew).at4)) (fun hHeld => ?_)
                                  have HS_ := Aside0.mk HS.out.drew
                                  clear HS
                                  generalize World.drew _ = w3044 at HS_ hHeld ⊢
                                  have HS := HS_
                                  clear HS_
                                  refine pure_ (i := 0) (N := some 77) (v := ?_) (a' := ?_) #[true, false, false, false, false, false, false, false] rfl rfl (by kernel_rfl) (fun _ _ _ h => h) (Or.inl ⟨by rfl, ?_⟩) ?_ ?_
                                  rotate_left
                                  · intro w'
                                    go_simp
                                    with_reducible rfl
                                  rotate_left
                                  · simp only [Act.put, List.setIfInBounds_toArray, List.set_cons_zero, List.set_cons_succ, i64_w, i32_w]
                                    rfl
                                  refine pure_ (i := 1) (N := some 78) (v := ?_) (a' := ?_) #[true, true, false, false, false, false, false, false] rfl rfl (by kernel_rfl) (fun _ _ _ h => h) (Or.inl ⟨by rfl, ?_⟩) ?_ ?_
                                  rotate_left
                                  · intro w'
                                    go_simp
                                    with_reducible rfl
                                  rotate_left
                                  · simp only [Act.put, List.setIfInBounds_toArray, List.set_cons_zero, List.set_cons_succ, i64_w, i32_w]
                                    rfl
                                  refine pure_ (i := 3) (N := some 80) (v := ?_) (a' := ?_) #[true, true, false, true, false, false, false, false] rfl rfl (by kernel_rfl) (fun _ _ _ h => h) (Or.inl ⟨by rfl, ?_⟩) ?_ ?_
                                  rotate_left
                                  · intro w'
                                    go_simp
                                    with_reducible rfl
                                  rotate_left
                                  · simp only [Act.put, List.setIfInBounds_toArray, List.set_cons_zero, List.set_cons_succ, i64_w, i32_w]
                                    rfl
                                  refine pure_ (i := 4) (N := some 81) (v := ?_) (a' := ?_) #[true, true, false, true, true, false, false, false] rfl rfl (by kernel_rfl) (fun _ _ _ h => h) (Or.inl ⟨by rfl, ?_⟩) ?_ ?_
                                  rotate_left
                                  · intro w'
                                    go_simp
                                    with_reducible rfl
                                  rotate_left
                                  · simp only [Act.put, List.setIfInBounds_toArray, List.set_cons_zero, List.set_cons_succ, i64_w, i32_w]
                                    rfl
                                  by_cases c3045 : 0 ≤ (wrap64 (Int.tmod (rd l2 x3034) a1))
                                  · replace AL3031 := if_yes c3045 AL3031
                                    have c3045b0 : decide (0 ≤ (wrap64 (Int.tmod (rd l2 x3034) a1))) = true := decide_eq_true c3045
                                    have c3045p : (0 ≤ (wrap64 (Int.tmod (rd l2 x3034) a1))) = True := eq_true c3045
                                    clear c3045
                                    by_cases c3046 : (wrap64 (Int.tmod (rd l2 x3034) a1)) < (m2816 : Int)
                                    · replace AL3031 := if_yes c3046 AL3031
                                      have c3046b0 : decide ((wrap64 (Int.tmod (rd l2 x3034) a1)) < (m2816 : Int)) = true := decide_eq_true c3046
                                      have c3046p : ((wrap64 (Int.tmod (rd l2 x3034) a1)) < (m2816 : Int)) = True := eq_true c3046
                                      clear c3046
                                      refine pure_ (i := 5) (N := some 82) (v := ?_) (a' := ?_) #[true, true, false, true, true, true, false, false] rfl rfl (by kernel_rfl) (fun _ _ _ h => h) (Or.inl ⟨by rfl, ?_⟩) ?_ ?_
                                      rotate_left
                                      · intro w'
                                        go_simp
                                        with_reducible rfl
                                      rotate_left
                                      · simp only [Act.put, List.setIfInBounds_toArray, List.set_cons_zero, List.set_cons_succ, i64_w, i32_w]
                                        rfl
                                      refine take_ (i := 6) (N := some 83) (v := ?_) (a' := ?_) #[true, true, false, true, true, true, true, false] rfl rfl (by kernel_rfl) (fun _ _ _ h => h) (Or.inl ⟨by rfl, ?_⟩) hHeld ?_ ?_
                                      rotate_left
                                      · rintro w' hS'
                                        have s0 := hS'
                                        have hx := C_at_bool s0 (wrap64 (Int.tmod (rd l2 x3034) a1)) (of_decide_eq_true c3045b0) (of_decide_eq_true c3046b0)
                                        have hx2 : w'.cell? ⟨g2983, (wrap64 (Int.tmod (rd l2 x3034) a1)).toNat, none⟩ = some (.bool (rdOf false x3036 (wrap64 (Int.tmod (rd l2 x3034) a1)))) := by have h_ := hx; rwa [add_plain] at h_
                                        go_simp
                                        with_reducible rfl
                                      rotate_left
                                      · simp only [Act.put, List.setIfInBounds_toArray, List.set_cons_zero, List.set_cons_succ, i64_w, i32_w]
                                        rfl
                                      refine one_ (i := 2) (N := some 79) #[true, true, true, true, true, true, true, false] rfl rfl (by kernel_rfl) (by decide) (fun K hK => ?_)
                                      obtain ⟨t3002, HA3047, AL3031⟩ := bind_some AL3031
                                      refine goes_ Tryd.func24 (by kernel_rfl) rfl #[.pointer (some ⟨g2932, 0, none⟩), .int .i64 (wrap64 (Int.tmod (rd l2 x3034) a1))] (by rfl) rfl rfl (by (try simp only [List.map_toArray, List.map_cons, List.map_nil]); first | done | rfl) ?_
                                      refine (ring_Cut.calls _ x3035 x3037 t2806.2.1 t2806.2.2.1 t2806.2.2.2.1 t2806.2.2.2.2.1 (wrap64 (Int.tmod (rd l2 x3034) a1)) g2932 g2933 A2934 ((t2806.2.2.2.2.2.2).length) n2936 t3002 _ ⟨HGl0.out.pass HS.out⟩ ⟨HS.out.begin⟩ HA3047).mono ?_
                                      rintro e_ w3048 ⟨rfl, hS⟩
                                      replace HS : Aside0 (Sep (fps []) w [b8 g2932 g2933 t2806.2.1 t2806.2.2.1 t2806.2.2.2.1 t2806.2.2.2.2.1, b7 g2933 A2934 ((t2806.2.2.2.2.2.2).length) n2936 t3002.2.1, r6 A2934 ((t2806.2.2.2.2.2.2).length) n2936 t3002.2.2, r16 (some ⟨g2772, 0, none⟩) x2795.length x2795.length x2795, r17 (some ⟨g2983, 0, none⟩) m2816 m2816 x3036] w3048) := ⟨HS.out.call hS⟩
                                      clear hS
                                      refine ⟨_, rfl, ?_⟩
                                      refine hK.out _ _ (row_Cb (HS.out.at4)) (fun hHeld => ?_)
                                      clear hK K
                                      refine norm_ (a' := ?_) ?_ ?_
                                      rotate_left
                                      · show Act.put _ (some 79) _ = _
                                        simp only [Act.put, List.setIfInBounds_toArray, List.set_cons_zero, List.set_cons_succ, i64_w, i32_w]
                                        rfl
                                      by_cases c3049 : t3002.1 = true
                                      · replace AL3031 := if_yes c3049 AL3031
                                        have c3049b0 : t3002.1 = true := c3049
                                        have c3049b1 : (!t3002.1) = false := by rw [c3049b0]; rfl
                                        clear c3049
                                        by_cases c3050 : (rdOf false x3036 (wrap64 (Int.tmod (rd l2 x3034) a1))) = true
                                        · replace AL3031 := if_yes c3050 AL3031
                                          have c3050b0 : (rdOf false x3036 (wrap64 (Int.tmod (rd l2 x3034) a1))) = true := c3050
                                          have c3050b1 : (!(rdOf false x3036 (wrap64 (Int.tmod (rd l2 x3034) a1)))) = false := by rw [c3050b0]; rfl
                                          clear c3050
                                          refine pure_ (i := 7) (N := some 84) (v := ?_) (a' := ?_) #[true, true, true, true, true, true, true, true] rfl rfl (by kernel_rfl) (fun _ _ _ h => h) (Or.inl ⟨by rfl, ?_⟩) ?_ ?_
                                          rotate_left
                                          · intro w'
                                            go_simp
                                            with_reducible rfl
                                          rotate_left
                                          · simp only [Act.put, List.setIfInBounds_toArray, List.set_cons_zero, List.set_cons_succ, i64_w, i32_w]
                                            rfl
                                          refine done_ (by kernel_rfl) ?_
                                          go_wp2_with fail
                                          have ho := some_eq AL3031
                                          subst ho
                                          have H := lp_ret H
                                          go_ret
                                          rw [← some_eq H]
                                          exact ⟨(by first | rfl | (simp [IntKind.wrap_u32]; done)), HS.out.sub (.cons _ (.cons _ (.cons _ (.cons _ (.cons _ .slnil)))))⟩
                                        · replace AL3031 := if_no c3050 AL3031
                                          have c3050b0 : (rdOf false x3036 (wrap64 (Int.tmod (rd l2 x3034) a1))) = false := by simpa using c3050
                                          have c3050b1 : (!(rdOf false x3036 (wrap64 (Int.tmod (rd l2 x3034) a1)))) = true := by rw [c3050b0]; rfl
                                          clear c3050
                                          refine pure_ (i := 7) (N := some 84) (v := ?_) (a' := ?_) #[true, true, true, true, true, true, true, true] rfl rfl (by kernel_rfl) (fun _ _ _ h => h) (Or.inl ⟨by rfl, ?_⟩) ?_ ?_
                                          rotate_left
                                          · intro w'
                                            go_simp
                                            with_reducible rfl
                                          rotate_left
                                          · simp only [Act.put, List.setIfInBounds_toArray, List.set_cons_zero, List.set_cons_succ, i64_w, i32_w]
                                            rfl
                                          refine done_ (by kernel_rfl) ?_
                                          obtain ⟨y3026, HA3052, AL3031⟩ := bind_some AL3031
                                          have hx3053 := (row_get false (HS.out.at4) (wrap64 (Int.tmod (rd l2 x3034) a1)) (of_decide_eq_true c3045b0) (of_decide_eq_true c3046b0)).1
                                          have hz3054 := (row_get false (HS.out.at4) (wrap64 (Int.tmod (rd l2 x3034) a1)) (of_decide_eq_true c3045b0) (of_decide_eq_true c3046b0)).2
                                          go_wp2_with (first | ((with_reducible refine gate_store (t := 4) (p := 87) rfl ?_); refine store_event (w1 := World.setCell w3048 ⟨g2983, (wrap64 (Int.tmod (rd l2 x3034) a1)).toNat, none⟩ (.bool true)) rfl (t := 4) (p := 87) rfl rfl ?hr ?_; (case hr => first | (go_simp; done) | (go_simp; rfl)); intro w3051 hst; clear hx3053 hz3054; have hq := Sep.rowset (l1 := [b8 g2932 g2933 t2806.2.1 t2806.2.2.1 t2806.2.2.2.1 t2806.2.2.2.2.1, b7 g2933 A2934 ((t2806.2.2.2.2.2.2).length) n2936 t3002.2.1, r6 A2934 ((t2806.2.2.2.2.2.2).length) n2936 t3002.2.2, r16 (some ⟨g2772, 0, none⟩) x2795.length x2795.length x2795]) (l2 := []) HS.out (wrap64 (Int.tmod (rd l2 x3034) a1)) true; rw [← hst, some_eq HA3052] at hq; replace HS : Aside0 (Sep (fps []) w [b8 g2932 g2933 t2806.2.1 t2806.2.2.1 t2806.2.2.2.1 t2806.2.2.2.2.1, b7 g2933 A2934 ((t2806.2.2.2.2.2.2).length) n2936 t3002.2.1, r6 A2934 ((t2806.2.2.2.2.2.2).length) n2936 t3002.2.2, r16 (some ⟨g2772, 0, none⟩) x2795.length x2795.length x2795, r17 (some ⟨g2983, 0, none⟩) m2816 m2816 y3026] w3051) := ⟨hq⟩; clear hst hq))
                                          go_roundg k3033
                                          case measure => exact Nat.lt_succ_self _
                                          case rel => exact ⟨(wrap64 (x3034 + 1)), (t3002.2.2), (y3026), (t3002.2.1), (by first | rfl | (simp [IntKind.wrap_u32]; done)), Aside0.mk AL3031.out, ⟨HS.out⟩⟩
                                      · replace AL3031 := if_no c3049 AL3031
                                        have c3049b0 : t3002.1 = false := by simpa using c3049
                                        have c3049b1 : (!t3002.1) = true := by rw [c3049b0]; rfl
                                        clear c3049
                                        by_cases c3055 : (rdOf false x3036 (wrap64 (Int.tmod (rd l2 x3034) a1))) = true
                                        · replace AL3031 := if_yes c3055 AL3031
                                          have c3055b0 : (rdOf false x3036 (wrap64 (Int.tmod (rd l2 x3034) a1))) = true := c3055
                                          have c3055b1 : (!(rdOf false x3036 (wrap64 (Int.tmod (rd l2 x3034) a1)))) = false := by rw [c3055b0]; rfl
                                          clear c3055
                                          refine pure_ (i := 7) (N := some 84) (v := ?_) (a' := ?_) #[true, true, true, true, true, true, true, true] rfl rfl (by kernel_rfl) (fun _ _ _ h => h) (Or.inl ⟨by rfl, ?_⟩) ?_ ?_
                                          rotate_left
                                          · intro w'
                                            go_simp
                                            with_reducible rfl
                                          rotate_left
                                          · simp only [Act.put, List.setIfInBounds_toArray, List.set_cons_zero, List.set_cons_succ, i64_w, i32_w]
                                            rfl
                                          refine done_ (by kernel_rfl) ?_
                                          obtain ⟨y3026, HA3057, AL3031⟩ := bind_some AL3031
                                          have hx3058 := (row_get false (HS.out.at4) (wrap64 (Int.tmod (rd l2 x3034) a1)) (of_decide_eq_true c3045b0) (of_decide_eq_true c3046b0)).1
                                          have hz3059 := (row_get false (HS.out.at4) (wrap64 (Int.tmod (rd l2 x3034) a1)) (of_decide_eq_true c3045b0) (of_decide_eq_true c3046b0)).2
                                          go_wp2_with (first | ((with_reducible refine gate_store (t := 4) (p := 87) rfl ?_); refine store_event (w1 := World.setCell w3048 ⟨g2983, (wrap64 (Int.tmod (rd l2 x3034) a1)).toNat, none⟩ (.bool true)) rfl (t := 4) (p := 87) rfl rfl ?hr ?_; (case hr => first | (go_simp; done) | (go_simp; rfl)); intro w3056 hst; clear hx3058 hz3059; have hq := Sep.rowset (l1 := [b8 g2932 g2933 t2806.2.1 t2806.2.2.1 t2806.2.2.2.1 t2806.2.2.2.2.1, b7 g2933 A2934 ((t2806.2.2.2.2.2.2).length) n2936 t3002.2.1, r6 A2934 ((t2806.2.2.2.2.2.2).length) n2936 t3002.2.2, r16 (some ⟨g2772, 0, none⟩) x2795.length x2795.length x2795]) (l2 := []) HS.out (wrap64 (Int.tmod (rd l2 x3034) a1)) true; rw [← hst, some_eq HA3057] at hq; replace HS : Aside0 (Sep (fps []) w [b8 g2932 g2933 t2806.2.1 t2806.2.2.1 t2806.2.2.2.1 t2806.2.2.2.2.1, b7 g2933 A2934 ((t2806.2.2.2.2.2.2).length) n2936 t3002.2.1, r6 A2934 ((t2806.2.2.2.2.2.2).length) n2936 t3002.2.2, r16 (some ⟨g2772, 0, none⟩) x2795.length x2795.length x2795, r17 (some ⟨g2983, 0, none⟩) m2816 m2816 y3026] w3056) := ⟨hq⟩; clear hst hq))
                                          go_roundg k3033
                                          case measure => exact Nat.lt_succ_self _
                                          case rel => exact ⟨(wrap64 (x3034 + 1)), (t3002.2.2), (y3026), (t3002.2.1), (by first | rfl | (simp [IntKind.wrap_u32]; done)), Aside0.mk AL3031.out, ⟨HS.out⟩⟩
                                        · replace AL3031 := if_no c3055 AL3031
                                          have c3055b0 : (rdOf false x3036 (wrap64 (Int.tmod (rd l2 x3034) a1))) = false := by simpa using c3055
                                          have c3055b1 : (!(rdOf false x3036 (wrap64 (Int.tmod (rd l2 x3034) a1)))) = true := by rw [c3055b0]; rfl
                                          clear c3055
                                          refine pure_ (i := 7) (N := some 84) (v := ?_) (a' := ?_) #[true, true, true, true, true, true, true, true] rfl rfl (by kernel_rfl) (fun _ _ _ h => h) (Or.inl ⟨by rfl, ?_⟩) ?_ ?_
                                          rotate_left
                                          · intro w'
                                            go_simp
                                            with_reducible rfl
                                          rotate_left
                                          · simp only [Act.put, List.setIfInBounds_toArray, List.set_cons_zero, List.set_cons_succ, i64_w, i32_w]
                                            rfl
                                          refine done_ (by kernel_rfl) ?_
                                          go_wp2_with fail
                                          have ho := some_eq AL3031
                                          subst ho
                                          have H := lp_ret H
                                          go_ret
                                          rw [← some_eq H]
                                          exact ⟨(by first | rfl | (simp [IntKind.wrap_u32]; done)), HS.out.sub (.cons _ (.cons _ (.cons _ (.cons _ (.cons _ .slnil)))))⟩
                                    · replace AL3031 := if_no c3046 AL3031
                                      have c3046b0 : decide ((wrap64 (Int.tmod (rd l2 x3034) a1)) < (m2816 : Int)) = false := decide_eq_false c3046
                                      clear c3046
                                      exact (none_no AL3031).elim
                                  · replace AL3031 := if_no c3045 AL3031
                                    have c3045b0 : decide (0 ≤ (wrap64 (Int.tmod (rd l2 x3034) a1))) = false := decide_eq_false c3045
                                    clear c3045
                                    exact (none_no AL3031).elim
                              · replace AL3031 := if_no c3039 AL3031
                                have c3039b0 : decide (0 ≤ x3034) = false := decide_eq_false c3039
                                clear c3039
                                exact (none_no AL3031).elim
                            · replace AL3031 := if_no c3038 AL3031
                              have c3038b0 : decide (x3034 < (l2.length : Int)) = false := decide_eq_false c3038
                              clear c3038
                              have ho := some_eq AL3031
                              subst ho
                              clear AL3031
                              have H := lp_out H
                              by_cases c3060 : (l2.length : Int) > 0
                              · replace H := if_yes c3060 H
                                have c3060b0 : decide (0 < (l2.length : Int)) = true := decide_eq_true c3060
                                have c3060b1 : decide (0 < l2.length) = true := decide_eq_true (by omega)
                                clear c3060
                                by_cases c3061 : 0 < (l2.length : Int)
                                · replace H := if_yes c3061 H
                                  have c3061b0 : decide (0 < (l2.length : Int)) = true := decide_eq_true c3061
                                  have c3061b1 : decide (0 < l2.length) = true := decide_eq_true (by omega)
                                  have c3061p : (0 < (l2.length : Int)) = True := eq_true c3061
                                  have c3061n : (0 < l2.length) = True := eq_true (by omega)
                                  clear c3061
                                  by_cases c3063 : a1 = 0
                                  · replace H := if_yes c3063 H
                                    have c3063b0 : (a1 == 0) = true := beq_iff_eq.mpr c3063
                                    have c3063b1 : (a1 != 0) = false := bne_eq_false_iff_eq.mpr c3063
                                    exact (none_no H).elim
                                  · replace H := if_no c3063 H
                                    have c3063b0 : (a1 == 0) = false := beq_eq_false_iff_ne.mpr c3063
                                    have c3063b1 : (a1 != 0) = true := bne_iff_ne.mpr c3063
                                    obtain ⟨hx3062a, hx3062e, hx3062⟩ := Kd.at_int (Rd.read (fun _ _ _ _ h => h) HR5.out HS.out.fr) 0 (by decide) (of_decide_eq_true c3061b0); cases hx3062e
                                    have hx3062z : w3032.cell? hx3062a = some (.int .u8 (rd l2 0)) := hx3062
                                    skip
                                    go_wp2_with fail
                                    clear hx3062 hx3062z c3063
                                    obtain ⟨t3064, HA3065, H⟩ := bind_some H
                                    refine (ring_Add.calls _ x3035 x3037 t2806.2.1 t2806.2.2.1 t2806.2.2.2.1 t2806.2.2.2.2.1 (wrap64 (Int.tmod (rd l2 0) a1)) g2932 g2933 A2934 ((t2806.2.2.2.2.2.2).length) n2936 t3064 _ ⟨HGl0.out.pass HS.out⟩ ⟨HS.out.begin⟩ HA3065).mono ?_
                                    rintro e_ w3066 ⟨rfl, hS⟩
                                    replace HS : Aside0 (Sep (fps []) w [b8 g2932 g2933 t2806.2.1 t2806.2.2.1 t2806.2.2.2.1 t2806.2.2.2.2.1, b7 g2933 A2934 ((t2806.2.2.2.2.2.2).length) n2936 t3064.2.1, r6 A2934 ((t2806.2.2.2.2.2.2).length) n2936 t3064.2.2, r16 (some ⟨g2772, 0, none⟩) x2795.length x2795.length x2795, r17 (some ⟨g2983, 0, none⟩) m2816 m2816 x3036] w3066) := ⟨HS.out.call hS⟩
                                    clear hS
                                    replace HS : Aside0 (Sep (fps []) w [b8 g2932 g2933 t2806.2.1 t2806.2.2.1 t2806.2.2.2.1 t2806.2.2.2.2.1, b7 g2933 A2934 ((t2806.2.2.2.2.2.2).length) n2936 t3064.2.1, r6 A2934 ((t2806.2.2.2.2.2.2).length) n2936 t3064.2.2, r17 (some ⟨g2983, 0, none⟩) m2816 m2816 x3036] w3066) := ⟨HS.out.sub (.cons_cons _ (.cons_cons _ (.cons_cons _ (.cons _ (.cons_cons _ .slnil)))))⟩
                                    go_wp2_with fail
                                    obtain ⟨o3136, AL3137, H⟩ := bind_some H
                                    go_loopg [104] k (fun kq v104 wc => ∃ (x3140 : Int) (x3141 : List Int) (x3142 : Int), v104 = .int .i64 x3140 ∧ Aside0 (quitrentlaw09_RingOrder.lo6 kq x2795 t2806 m2816 (x3035, x3036, x3037) x3140 x3141 x3142 = some o3136) ∧ Aside0 (Sep (fps []) w [b8 g2932 g2933 t2806.2.1 t2806.2.2.1 t2806.2.2.2.1 t2806.2.2.2.2.1, b7 g2933 A2934 ((t2806.2.2.2.2.2.2).length) n2936 x3142, r6 A2934 ((t2806.2.2.2.2.2.2).length) n2936 x3141, r17 (some ⟨g2983, 0, none⟩) m2816 m2816 x3036] wc))
                                    case atStart => exact ⟨(0), (t3064.2.2), (t3064.2.1), (by first | rfl | (simp [IntKind.wrap_u32]; done)), AL3137, ⟨HS.out⟩⟩
                                    case round =>
                                      clear AL3137 HS
                                      obtain ⟨x3140, x3141, x3142, rfl, AL3137, HS⟩ := hrel
                                      obtain ⟨w3138, rfl⟩ : ∃ x : World, x = wr := ⟨_, rfl⟩
                                      cases gk with
                                      | zero => exact absurd AL3137.out (by simp [quitrentlaw09_RingOrder.lo6])
                                      | succ k3139 =>
                                        have AL0 := AL3137.out
                                        rw [quitrentlaw09_RingOrder.lo6] at AL0
                                        clear AL3137
                                        have AL3137 := Aside0.mk AL0
                                        clear AL0
                                        by_cases c3143 : x3140 < (x2795.length : Int)
                                        · replace AL3137 := if_yes c3143 AL3137
                                          have c3143b0 : decide (x3140 < (x2795.length : Int)) = true := decide_eq_true c3143
                                          clear c3143
                                          by_cases c3144 : 0 ≤ x3140
                                          · replace AL3137 := if_yes c3144 AL3137
                                            have c3144b0 : decide (0 ≤ x3140) = true := decide_eq_true c3144
                                            have c3144p : (0 ≤ x3140) = True := eq_true c3144
                                            clear c3144
                                            by_cases c3145 : x3140 < (m2816 : Int)
                                            · replace AL3137 := if_yes c3145 AL3137
                                              have c3145b0 : decide (x3140 < (m2816 : Int)) = true := decide_eq_true c3145
                                              have c3145p : (x3140 < (m2816 : Int)) = True := eq_true c3145
                                              clear c3145
                                              by_cases c3148 : (rdOf false x3036 x3140) = true
                                              · replace AL3137 := if_yes c3148 AL3137
                                                have c3148b0 : (rdOf false x3036 x3140) = true := c3148
                                                have c3148b1 : (!(rdOf false x3036 x3140)) = false := by rw [c3148b0]; rfl
                                                clear c3148
                                                have hx3146 := C_at_bool (row_Cb (HS.out.at3)) x3140 (of_decide_eq_true c3144b0) (of_decide_eq_true c3145b0)
                                                have hx3147 : w3138.cell? ⟨g2983, (x3140).toNat, none⟩ = some (.bool (rdOf false x3036 x3140)) := (row_get false (HS.out.at3) x3140 (of_decide_eq_true c3144b0) (of_decide_eq_true c3145b0)).1
                                                go_wp2_with fail
                                                clear hx3146 hx3147
                                                go_roundg k3139
                                                case measure => exact Nat.lt_succ_self _
                                                case rel => exact ⟨(wrap64 (x3140 + 1)), (x3141), (x3142), (by first | rfl | (simp [IntKind.wrap_u32]; done)), Aside0.mk AL3137.out, ⟨HS.out⟩⟩
                                              · replace AL3137 := if_no c3148 AL3137
                                                have c3148b0 : (rdOf false x3036 x3140) = false := by simpa using c3148
                                                have c3148b1 : (!(rdOf false x3036 x3140)) = true := by rw [c3148b0]; rfl
                                                clear c3148
                                                have hx3146 := C_at_bool (row_Cb (HS.out.at3)) x3140 (of_decide_eq_true c3144b0) (of_decide_eq_true c3145b0)
                                                have hx3147 : w3138.cell? ⟨g2983, (x3140).toNat, none⟩ = some (.bool (rdOf false x3036 x3140)) := (row_get false (HS.out.at3) x3140 (of_decide_eq_true c3144b0) (of_decide_eq_true c3145b0)).1
                                                go_wp2_with fail
                                                clear hx3146 hx3147
                                                obtain ⟨t3114, HA3149, AL3137⟩ := bind_some AL3137
                                                refine (ring_Take.calls _ x3141 x3142 t2806.2.1 t2806.2.2.1 t2806.2.2.2.1 t2806.2.2.2.2.1 g2932 g2933 A2934 ((t2806.2.2.2.2.2.2).length) n2936 t3114 _ ⟨HGl0.out.pass HS.out⟩ ⟨HS.out.begin⟩ HA3149).mono ?_
                                                rintro e_ w3150 ⟨rfl, hS⟩
                                                replace HS : Aside0 (Sep (fps []) w [b8 g2932 g2933 t2806.2.1 t2806.2.2.1 t2806.2.2.2.1 t2806.2.2.2.2.1, b7 g2933 A2934 ((t2806.2.2.2.2.2.2).length) n2936 t3114.2.2.1, r6 A2934 ((t2806.2.2.2.2.2.2).length) n2936 t3114.2.2.2, r17 (some ⟨g2983, 0, none⟩) m2816 m2816 x3036] w3150) := ⟨HS.out.call hS⟩
                                                clear hS
                                                by_cases c3151 : t3114.1 = x3140
                                                · replace AL3137 := if_yes c3151 AL3137
                                                  have c3151b0 : (t3114.1 == x3140) = true := beq_iff_eq.mpr c3151
                                                  have c3151b1 : (t3114.1 != x3140) = false := bne_eq_false_iff_eq.mpr c3151
                                                  clear c3151
                                                  by_cases c3152 : t3114.2.1 = true
                                                  · replace AL3137 := if_yes c3152 AL3137
                                                    have c3152b0 : t3114.2.1 = true := c3152
                                                    have c3152b1 : (!t3114.2.1) = false := by rw [c3152b0]; rfl
                                                    try rw [c3152b1]
                                                    clear c3152
                                                    go_wp2_with fail
                                                    go_roundg k3139
                                                    case measure => exact Nat.lt_succ_self _
                                                    case rel => exact ⟨(wrap64 (x3140 + 1)), (t3114.2.2.2), (t3114.2.2.1), (by first | rfl | (simp [IntKind.wrap_u32]; done)), Aside0.mk AL3137.out, ⟨HS.out⟩⟩
                                                  · replace AL3137 := if_no c3152 AL3137
                                                    have c3152b0 : t3114.2.1 = false := by simpa using c3152
                                                    have c3152b1 : (!t3114.2.1) = true := by rw [c3152b0]; rfl
                                                    try rw [c3152b1]
                                                    clear c3152
                                                    go_wp2_with fail
                                                    have ho := some_eq AL3137
                                                    subst ho
                                                    have H := lp_ret H
                                                    go_ret
                                                    rw [← some_eq H]
                                                    exact ⟨(by first | rfl | (simp [IntKind.wrap_u32]; done)), HS.out.sub (.cons _ (.cons _ (.cons _ (.cons _ .slnil))))⟩
                                                · replace AL3137 := if_no c3151 AL3137
                                                  have c3151b0 : (t3114.1 == x3140) = false := beq_eq_false_iff_ne.mpr c3151
                                                  have c3151b1 : (t3114.1 != x3140) = true := bne_iff_ne.mpr c3151
                                                  clear c3151
                                                  go_wp2_with fail
                                                  have ho := some_eq AL3137
                                                  subst ho
                                                  have H := lp_ret H
                                                  go_ret
                                                  rw [← some_eq H]
                                                  exact ⟨(by first | rfl | (simp [IntKind.wrap_u32]; done)), HS.out.sub (.cons _ (.cons _ (.cons _ (.cons _ .slnil))))⟩
                                            · replace AL3137 := if_no c3145 AL3137
                                              have c3145b0 : decide (x3140 < (m2816 : Int)) = false := decide_eq_false c3145
                                              clear c3145
                                              exact (none_no AL3137).elim
                                          · replace AL3137 := if_no c3144 AL3137
                                            have c3144b0 : decide (0 ≤ x3140) = false := decide_eq_false c3144
                                            clear c3144
                                            exact (none_no AL3137).elim
                                        · replace AL3137 := if_no c3143 AL3137
                                          have c3143b0 : decide (x3140 < (x2795.length : Int)) = false := decide_eq_false c3143
                                          clear c3143
                                          have ho := some_eq AL3137
                                          subst ho
                                          clear AL3137
                                          have H := lp_out H
                                          go_wp2_with fail
                                          obtain ⟨t3153, HA3154, H⟩ := bind_some H
                                          refine (ring_Take.calls _ x3141 x3142 t2806.2.1 t2806.2.2.1 t2806.2.2.2.1 t2806.2.2.2.2.1 g2932 g2933 A2934 ((t2806.2.2.2.2.2.2).length) n2936 t3153 _ ⟨HGl0.out.pass HS.out⟩ ⟨HS.out.begin⟩ HA3154).mono ?_
                                          rintro e_ w3155 ⟨rfl, hS⟩
                                          replace HS : Aside0 (Sep (fps []) w [b8 g2932 g2933 t2806.2.1 t2806.2.2.1 t2806.2.2.2.1 t2806.2.2.2.2.1, b7 g2933 A2934 ((t2806.2.2.2.2.2.2).length) n2936 t3153.2.2.1, r6 A2934 ((t2806.2.2.2.2.2.2).length) n2936 t3153.2.2.2, r17 (some ⟨g2983, 0, none⟩) m2816 m2816 x3036] w3155) := ⟨HS.out.call hS⟩
                                          clear hS
                                          replace HS : Aside0 (Sep (fps []) w [b8 g2932 g2933 t2806.2.1 t2806.2.2.1 t2806.2.2.2.1 t2806.2.2.2.2.1, b7 g2933 A2934 ((t2806.2.2.2.2.2.2).length) n2936 t3153.2.2.1, r6 A2934 ((t2806.2.2.2.2.2.2).length) n2936 t3153.2.2.2] w3155) := ⟨HS.out.sub (.cons_cons _ (.cons_cons _ (.cons_cons _ (.cons _ .slnil))))⟩
                                          go_wp2_with fail
                                          obtain ⟨t3156, HA3157, H⟩ := bind_some H
                                          refine (quitrentlaw09_begun.calls _ t3156 _ ⟨HGl0.out.pass (l := []) HS.out⟩ ⟨Sep.start _⟩ HA3157).mono ?_
                                          rintro e_ w3158 ⟨rfl, hS⟩
                                          replace HS : Aside0 (Sep (fps []) w [b8 g2932 g2933 t2806.2.1 t2806.2.2.1 t2806.2.2.2.1 t2806.2.2.2.2.1, b7 g2933 A2934 ((t2806.2.2.2.2.2.2).length) n2936 t3153.2.2.1, r6 A2934 ((t2806.2.2.2.2.2.2).length) n2936 t3153.2.2.2] w3158) := ⟨HS.out.call hS⟩
                                          clear hS
                                          by_cases c3159 : t3156 = true
                                          · replace H := if_yes c3159 H
                                            have c3159b0 : t3156 = true := c3159
                                            have c3159b1 : (!t3156) = false := by rw [c3159b0]; rfl
                                            clear c3159
                                            by_cases c3160 : t3064.1 = true
                                            · replace H := if_yes c3160 H
                                              have c3160b0 : t3064.1 = true := c3160
                                              have c3160b1 : (!t3064.1) = false := by rw [c3160b0]; rfl
                                              clear c3160
                                              by_cases c3161 : t3153.2.1 = true
                                              · replace H := if_yes c3161 H
                                                have c3161b0 : t3153.2.1 = true := c3161
                                                have c3161b1 : (!t3153.2.1) = false := by rw [c3161b0]; rfl
                                                clear c3161
                                                by_cases c3164 : t3153.1 = (wrap64 (Int.tmod (rd l2 0) a1))
                                                · replace H := if_yes c3164 H
                                                  have c3164b0 : (t3153.1 == (wrap64 (Int.tmod (rd l2 0) a1))) = true := beq_iff_eq.mpr c3164
                                                  have c3164b1 : (t3153.1 != (wrap64 (Int.tmod (rd l2 0) a1))) = false := bne_eq_false_iff_eq.mpr c3164
                                                  clear c3164
                                                  have hx3162 := C_at_int (Rd.read (fun _ _ _ _ h => h) HR5.out HS.out.fr) 0 (by decide) (of_decide_eq_true c3061b0)
                                                  have hx3162z : w3158.cell? hx3062a = some (.int .u8 (rd l2 0)) := hx3162
                                                  have nz3163 : (a1 = 0) = False := eq_false (by have := beq_eq_false_iff_ne.1 c3063b0; omega)
                                                  go_wp2_with fail
                                                  clear hx3162 hx3162z nz3163
                                                  obtain ⟨t3186, HA3187, H⟩ := bind_some H
                                                  refine (ring_Len.calls t3153.2.2.2 t3153.2.2.1 t2806.2.1 t2806.2.2.1 t2806.2.2.2.1 t2806.2.2.2.2.1 g2932 g2933 A2934 ((t2806.2.2.2.2.2.2).length) n2936 t3186 _ ⟨HGl0.out.pass HS.out⟩ ⟨HS.out.begin⟩ HA3187).mono ?_
                                                  rintro e_ w3188 ⟨rfl, hS⟩
                                                  replace HS : Aside0 (Sep (fps []) w [b8 g2932 g2933 t2806.2.1 t2806.2.2.1 t2806.2.2.2.1 t2806.2.2.2.2.1, b7 g2933 A2934 ((t2806.2.2.2.2.2.2).length) n2936 t3186.2, r6 A2934 ((t2806.2.2.2.2.2.2).length) n2936 t3153.2.2.2] w3188) := ⟨HS.out.call hS⟩
                                                  clear hS
                                                  replace HS : Aside0 (Sep (fps []) w [] w3188) := ⟨HS.out.sub (.cons _ (.cons _ (.cons _ .slnil)))⟩
                                                  go_wp2_with fail
                                                  go_ret
                                                  rw [← some_eq H]
                                                  exact ⟨(by first | rfl | (simp [IntKind.wrap_u32]; done)), HS.out⟩
                                                · replace H := if_no c3164 H
                                                  have c3164b0 : (t3153.1 == (wrap64 (Int.tmod (rd l2 0) a1))) = false := beq_eq_false_iff_ne.mpr c3164
                                                  have c3164b1 : (t3153.1 != (wrap64 (Int.tmod (rd l2 0) a1))) = true := bne_iff_ne.mpr c3164
                                                  clear c3164
                                                  have hx3162 := C_at_int (Rd.read (fun _ _ _ _ h => h) HR5.out HS.out.fr) 0 (by decide) (of_decide_eq_true c3061b0)
                                                  have hx3162z : w3158.cell? hx3062a = some (.int .u8 (rd l2 0)) := hx3162
                                                  have nz3163 : (a1 = 0) = False := eq_false (by have := beq_eq_false_iff_ne.1 c3063b0; omega)
                                                  replace HS : Aside0 (Sep (fps []) w [] w3158) := ⟨HS.out.sub (.cons _ (.cons _ (.cons _ .slnil)))⟩
                                                  go_wp2_with fail
                                                  clear hx3162 hx3162z nz3163
                                                  go_ret
                                                  rw [← some_eq H]
                                                  exact ⟨(by first | rfl | (simp [IntKind.wrap_u32]; done)), HS.out⟩
                                              · replace H := if_no c3161 H
                                                have c3161b0 : t3153.2.1 = false := by simpa using c3161
                                                have c3161b1 : (!t3153.2.1) = true := by rw [c3161b0]; rfl
                                                clear c3161
                                                replace HS : Aside0 (Sep (fps []) w [] w3158) := ⟨HS.out.sub (.cons _ (.cons _ (.cons _ .slnil)))⟩
                                                go_wp2_with fail
                                                go_ret
                                                rw [← some_eq H]
                                                exact ⟨(by first | rfl | (simp [IntKind.wrap_u32]; done)), HS.out⟩
                                            · replace H := if_no c3160 H
                                              have c3160b0 : t3064.1 = false := by simpa using c3160
                                              have c3160b1 : (!t3064.1) = true := by rw [c3160b0]; rfl
                                              clear c3160
                                              replace HS : Aside0 (Sep (fps []) w [] w3158) := ⟨HS.out.sub (.cons _ (.cons _ (.cons _ .slnil)))⟩
                                              go_wp2_with fail
                                              go_ret
                                              rw [← some_eq H]
                                              exact ⟨(by first | rfl | (simp [IntKind.wrap_u32]; done)), HS.out⟩
                                          · replace H := if_no c3159 H
                                            have c3159b0 : t3156 = false := by simpa using c3159
                                            have c3159b1 : (!t3156) = true := by rw [c3159b0]; rfl
                                            clear c3159
                                            replace HS : Aside0 (Sep (fps []) w [] w3158) := ⟨HS.out.sub (.cons _ (.cons _ (.cons _ .slnil)))⟩
                                            go_wp2_with fail
                                            go_ret
                                            rw [← some_eq H]
                                            exact ⟨(by first | rfl | (simp [IntKind.wrap_u32]; done)), HS.out⟩
                                · replace H := if_no c3061 H
                                  have c3061b0 : decide (0 < (l2.length : Int)) = false := decide_eq_false c3061
                                  have c3061b1 : decide (0 < l2.length) = false := decide_eq_false (by omega)
                                  clear c3061
                                  exact (none_no H).elim
                              · replace H := if_no c3060 H
                                have c3060b0 : decide (0 < (l2.length : Int)) = false := decide_eq_false c3060
                                have c3060b1 : decide (0 < l2.length) = false := decide_eq_false (by omega)
                                clear c3060
                                replace HS : Aside0 (Sep (fps []) w [b8 g2932 g2933 t2806.2.1 t2806.2.2.1 t2806.2.2.2.1 t2806.2.2.2.2.1, b7 g2933 A2934 ((t2806.2.2.2.2.2.2).length) n2936 x3037, r6 A2934 ((t2806.2.2.2.2.2.2).length) n2936 x3035, r17 (some ⟨g2983, 0, none⟩) m2816 m2816 x3036] w3032) := ⟨HS.out.sub (.cons_cons _ (.cons_cons _ (.cons_cons _ (.cons _ (.cons_cons _ .slnil)))))⟩
                                go_wp2_with fail
                                obtain ⟨o3235, AL3236, H⟩ := bind_some H
                                go_loopg [104] k (fun kq v104 wc => ∃ (x3239 : Int) (x3240 : List Int) (x3241 : Int), v104 = .int .i64 x3239 ∧ Aside0 (quitrentlaw09_RingOrder.lo7 kq x2795 t2806 m2816 (x3035, x3036, x3037) x3239 x3240 x3241 = some o3235) ∧ Aside0 (Sep (fps []) w [b8 g2932 g2933 t2806.2.1 t2806.2.2.1 t2806.2.2.2.1 t2806.2.2.2.2.1, b7 g2933 A2934 ((t2806.2.2.2.2.2.2).length) n2936 x3241, r6 A2934 ((t2806.2.2.2.2.2.2).length) n2936 x3240, r17 (some ⟨g2983, 0, none⟩) m2816 m2816 x3036] wc))
                                case atStart => exact ⟨(0), (x3035), (x3037), (by first | rfl | (simp [IntKind.wrap_u32]; done)), AL3236, ⟨HS.out⟩⟩
                                case round =>
                                  clear AL3236 HS
                                  obtain ⟨x3239, x3240, x3241, rfl, AL3236, HS⟩ := hrel
                                  obtain ⟨w3237, rfl⟩ : ∃ x : World, x = wr := ⟨_, rfl⟩
                                  cases gk with
                                  | zero => exact absurd AL3236.out (by simp [quitrentlaw09_RingOrder.lo7])
                                  | succ k3238 =>
                                    have AL0 := AL3236.out
                                    rw [quitrentlaw09_RingOrder.lo7] at AL0
                                    clear AL3236
                                    have AL3236 := Aside0.mk AL0
                                    clear AL0
                                    by_cases c3242 : x3239 < (x2795.length : Int)
                                    · replace AL3236 := if_yes c3242 AL3236
                                      have c3242b0 : decide (x3239 < (x2795.length : Int)) = true := decide_eq_true c3242
                                      clear c3242
                                      by_cases c3243 : 0 ≤ x3239
                                      · replace AL3236 := if_yes c3243 AL3236
                                        have c3243b0 : decide (0 ≤ x3239) = true := decide_eq_true c3243
                                        have c3243p : (0 ≤ x3239) = True := eq_true c3243
                                        clear c3243
                                        by_cases c3244 : x3239 < (m2816 : Int)
                                        · replace AL3236 := if_yes c3244 AL3236
                                          have c3244b0 : decide (x3239 < (m2816 : Int)) = true := decide_eq_true c3244
                                          have c3244p : (x3239 < (m2816 : Int)) = True := eq_true c3244
                                          clear c3244
                                          by_cases c3247 : (rdOf false x3036 x3239) = true
                                          · replace AL3236 := if_yes c3247 AL3236
                                            have c3247b0 : (rdOf false x3036 x3239) = true := c3247
                                            have c3247b1 : (!(rdOf false x3036 x3239)) = false := by rw [c3247b0]; rfl
                                            clear c3247
                                            have hx3245 := C_at_bool (row_Cb (HS.out.at3)) x3239 (of_decide_eq_true c3243b0) (of_decide_eq_true c3244b0)
                                            have hx3246 : w3237.cell? ⟨g2983, (x3239).toNat, none⟩ = some (.bool (rdOf false x3036 x3239)) := (row_get false (HS.out.at3) x3239 (of_decide_eq_true c3243b0) (of_decide_eq_true c3244b0)).1
                                            go_wp2_with fail
                                            clear hx3245 hx3246
                                            go_roundg k3238
                                            case measure => exact Nat.lt_succ_self _
                                            case rel => exact ⟨(wrap64 (x3239 + 1)), (x3240), (x3241), (by first | rfl | (simp [IntKind.wrap_u32]; done)), Aside0.mk AL3236.out, ⟨HS.out⟩⟩
                                          · replace AL3236 := if_no c3247 AL3236
                                            have c3247b0 : (rdOf false x3036 x3239) = false := by simpa using c3247
                                            have c3247b1 : (!(rdOf false x3036 x3239)) = true := by rw [c3247b0]; rfl
                                            clear c3247
                                            have hx3245 := C_at_bool (row_Cb (HS.out.at3)) x3239 (of_decide_eq_true c3243b0) (of_decide_eq_true c3244b0)
                                            have hx3246 : w3237.cell? ⟨g2983, (x3239).toNat, none⟩ = some (.bool (rdOf false x3036 x3239)) := (row_get false (HS.out.at3) x3239 (of_decide_eq_true c3243b0) (of_decide_eq_true c3244b0)).1
                                            go_wp2_with fail
                                            clear hx3245 hx3246
                                            obtain ⟨t3114, HA3248, AL3236⟩ := bind_some AL3236
                                            refine (ring_Take.calls _ x3240 x3241 t2806.2.1 t2806.2.2.1 t2806.2.2.2.1 t2806.2.2.2.2.1 g2932 g2933 A2934 ((t2806.2.2.2.2.2.2).length) n2936 t3114 _ ⟨HGl0.out.pass HS.out⟩ ⟨HS.out.begin⟩ HA3248).mono ?_
                                            rintro e_ w3249 ⟨rfl, hS⟩
                                            replace HS : Aside0 (Sep (fps []) w [b8 g2932 g2933 t2806.2.1 t2806.2.2.1 t2806.2.2.2.1 t2806.2.2.2.2.1, b7 g2933 A2934 ((t2806.2.2.2.2.2.2).length) n2936 t3114.2.2.1, r6 A2934 ((t2806.2.2.2.2.2.2).length) n2936 t3114.2.2.2, r17 (some ⟨g2983, 0, none⟩) m2816 m2816 x3036] w3249) := ⟨HS.out.call hS⟩
                                            clear hS
                                            by_cases c3250 : t3114.1 = x3239
                                            · replace AL3236 := if_yes c3250 AL3236
                                              have c3250b0 : (t3114.1 == x3239) = true := beq_iff_eq.mpr c3250
                                              have c3250b1 : (t3114.1 != x3239) = false := bne_eq_false_iff_eq.mpr c3250
                                              clear c3250
                                              by_cases c3251 : t3114.2.1 = true
                                              · replace AL3236 := if_yes c3251 AL3236
                                                have c3251b0 : t3114.2.1 = true := c3251
                                                have c3251b1 : (!t3114.2.1) = false := by rw [c3251b0]; rfl
                                                try rw [c3251b1]
                                                clear c3251
                                                go_wp2_with fail
                                                go_roundg k3238
                                                case measure => exact Nat.lt_succ_self _
                                                case rel => exact ⟨(wrap64 (x3239 + 1)), (t3114.2.2.2), (t3114.2.2.1), (by first | rfl | (simp [IntKind.wrap_u32]; done)), Aside0.mk AL3236.out, ⟨HS.out⟩⟩
                                              · replace AL3236 := if_no c3251 AL3236
                                                have c3251b0 : t3114.2.1 = false := by simpa using c3251
                                                have c3251b1 : (!t3114.2.1) = true := by rw [c3251b0]; rfl
                                                try rw [c3251b1]
                                                clear c3251
                                                go_wp2_with fail
                                                have ho := some_eq AL3236
                                                subst ho
                                                have H := lp_ret H
                                                go_ret
                                                rw [← some_eq H]
                                                exact ⟨(by first | rfl | (simp [IntKind.wrap_u32]; done)), HS.out.sub (.cons _ (.cons _ (.cons _ (.cons _ .slnil))))⟩
                                            · replace AL3236 := if_no c3250 AL3236
                                              have c3250b0 : (t3114.1 == x3239) = false := beq_eq_false_iff_ne.mpr c3250
                                              have c3250b1 : (t3114.1 != x3239) = true := bne_iff_ne.mpr c3250
                                              clear c3250
                                              go_wp2_with fail
                                              have ho := some_eq AL3236
                                              subst ho
                                              have H := lp_ret H
                                              go_ret
                                              rw [← some_eq H]
                                              exact ⟨(by first | rfl | (simp [IntKind.wrap_u32]; done)), HS.out.sub (.cons _ (.cons _ (.cons _ (.cons _ .slnil))))⟩
                                        · replace AL3236 := if_no c3244 AL3236
                                          have c3244b0 : decide (x3239 < (m2816 : Int)) = false := decide_eq_false c3244
                                          clear c3244
                                          exact (none_no AL3236).elim
                                      · replace AL3236 := if_no c3243 AL3236
                                        have c3243b0 : decide (0 ≤ x3239) = false := decide_eq_false c3243
                                        clear c3243
                                        exact (none_no AL3236).elim
                                    · replace AL3236 := if_no c3242 AL3236
                                      have c3242b0 : decide (x3239 < (x2795.length : Int)) = false := decide_eq_false c3242
                                      clear c3242
                                      have ho := some_eq AL3236
                                      subst ho
                                      clear AL3236
                                      have H := lp_out H
                                      go_wp2_with fail
                                      obtain ⟨t3153, HA3252, H⟩ := bind_some H
                                      refine (ring_Take.calls _ x3240 x3241 t2806.2.1 t2806.2.2.1 t2806.2.2.2.1 t2806.2.2.2.2.1 g2932 g2933 A2934 ((t2806.2.2.2.2.2.2).length) n2936 t3153 _ ⟨HGl0.out.pass HS.out⟩ ⟨HS.out.begin⟩ HA3252).mono ?_
                                      rintro e_ w3253 ⟨rfl, hS⟩
                                      replace HS : Aside0 (Sep (fps []) w [b8 g2932 g2933 t2806.2.1 t2806.2.2.1 t2806.2.2.2.1 t2806.2.2.2.2.1, b7 g2933 A2934 ((t2806.2.2.2.2.2.2).length) n2936 t3153.2.2.1, r6 A2934 ((t2806.2.2.2.2.2.2).length) n2936 t3153.2.2.2, r17 (some ⟨g2983, 0, none⟩) m2816 m2816 x3036] w3253) := ⟨HS.out.call hS⟩
                                      clear hS
                                      replace HS : Aside0 (Sep (fps []) w [b8 g2932 g2933 t2806.2.1 t2806.2.2.1 t2806.2.2.2.1 t2806.2.2.2.2.1, b7 g2933 A2934 ((t2806.2.2.2.2.2.2).length) n2936 t3153.2.2.1, r6 A2934 ((t2806.2.2.2.2.2.2).length) n2936 t3153.2.2.2] w3253) := ⟨HS.out.sub (.cons_cons _ (.cons_cons _ (.cons_cons _ (.cons _ .slnil))))⟩
                                      go_wp2_with fail
                                      obtain ⟨t3156, HA3254, H⟩ := bind_some H
                                      refine (quitrentlaw09_begun.calls _ t3156 _ ⟨HGl0.out.pass (l := []) HS.out⟩ ⟨Sep.start _⟩ HA3254).mono ?_
                                      rintro e_ w3255 ⟨rfl, hS⟩
                                      replace HS : Aside0 (Sep (fps []) w [b8 g2932 g2933 t2806.2.1 t2806.2.2.1 t2806.2.2.2.1 t2806.2.2.2.2.1, b7 g2933 A2934 ((t2806.2.2.2.2.2.2).length) n2936 t3153.2.2.1, r6 A2934 ((t2806.2.2.2.2.2.2).length) n2936 t3153.2.2.2] w3255) := ⟨HS.out.call hS⟩
                                      clear hS
                                      by_cases c3256 : t3156 = true
                                      · replace H := if_yes c3256 H
                                        have c3256b0 : t3156 = true := c3256
                                        have c3256b1 : (!t3156) = false := by rw [c3256b0]; rfl
                                        clear c3256
                                        by_cases c3257 : t3153.2.1 = true
                                        · replace H := if_yes c3257 H
                                          have c3257b0 : t3153.2.1 = true := c3257
                                          have c3257b1 : (!t3153.2.1) = false := by rw [c3257b0]; rfl
                                          clear c3257
                                          replace HS : Aside0 (Sep (fps []) w [] w3255) := ⟨HS.out.sub (.cons _ (.cons _ (.cons _ .slnil)))⟩
                                          go_wp2_with fail
                                          go_ret
                                          rw [← some_eq H]
                                          exact ⟨(by first | rfl | (simp [IntKind.wrap_u32]; done)), HS.out⟩
                                        · replace H := if_no c3257 H
                                          have c3257b0 : t3153.2.1 = false := by simpa using c3257
                                          have c3257b1 : (!t3153.2.1) = true := by rw [c3257b0]; rfl
                                          clear c3257
                                          by_cases c3258 : t3153.1 = 0
                                          · replace H := if_yes c3258 H
                                            have c3258b0 : (t3153.1 == 0) = true := beq_iff_eq.mpr c3258
                                            have c3258b1 : (t3153.1 != 0) = false := bne_eq_false_iff_eq.mpr c3258
                                            clear c3258
                                            go_wp2_with fail
                                            obtain ⟨t3186, HA3259, H⟩ := bind_some H
                                            refine (ring_Len.calls t3153.2.2.2 t3153.2.2.1 t2806.2.1 t2806.2.2.1 t2806.2.2.2.1 t2806.2.2.2.2.1 g2932 g2933 A2934 ((t2806.2.2.2.2.2.2).length) n2936 t3186 _ ⟨HGl0.out.pass HS.out⟩ ⟨HS.out.begin⟩ HA3259).mono ?_
                                            rintro e_ w3260 ⟨rfl, hS⟩
                                            replace HS : Aside0 (Sep (fps []) w [b8 g2932 g2933 t2806.2.1 t2806.2.2.1 t2806.2.2.2.1 t2806.2.2.2.2.1, b7 g2933 A2934 ((t2806.2.2.2.2.2.2).length) n2936 t3186.2, r6 A2934 ((t2806.2.2.2.2.2.2).length) n2936 t3153.2.2.2] w3260) := ⟨HS.out.call hS⟩
                                            clear hS
                                            replace HS : Aside0 (Sep (fps []) w [] w3260) := ⟨HS.out.sub (.cons _ (.cons _ (.cons _ .slnil)))⟩
                                            go_wp2_with fail
                                            go_ret
                                            rw [← some_eq H]
                                            exact ⟨(by first | rfl | (simp [IntKind.wrap_u32]; done)), HS.out⟩
                                          · replace H := if_no c3258 H
                                            have c3258b0 : (t3153.1 == 0) = false := beq_eq_false_iff_ne.mpr c3258
                                            have c3258b1 : (t3153.1 != 0) = true := bne_iff_ne.mpr c3258
                                            clear c3258
                                            replace HS : Aside0 (Sep (fps []) w [] w3255) := ⟨HS.out.sub (.cons _ (.cons _ (.cons _ .slnil)))⟩
                                            go_wp2_with fail
                                            go_ret
                                            rw [← some_eq H]
                                            exact ⟨(by first | rfl | (simp [IntKind.wrap_u32]; done)), HS.out⟩
                                      · replace H := if_no c3256 H
                                        have c3256b0 : t3156 = false := by simpa using c3256
                                        have c3256b1 : (!t3156) = true := by rw [c3256b0]; rfl
                                        clear c3256
                                        replace HS : Aside0 (Sep (fps []) w [] w3255) := ⟨HS.out.sub (.cons _ (.cons _ (.cons _ .slnil)))⟩
                                        go_wp2_with fail
                                        go_ret
                                        rw [← some_eq H]
                                        exact ⟨(by first | rfl | (simp [IntKind.wrap_u32]; done)), HS.out⟩
                · replace H := if_no c2938 H
                  have c2938b0 : t2806.1 = false := by simpa using c2938
                  have c2938b1 : (!t2806.1) = true := by rw [c2938b0]; rfl
                  try rw [c2938b1]
                  clear c2938
                  replace HS : Aside0 (Sep (fps []) w [] w2928) := ⟨HS.out.sub (.cons _ (.cons _ (.cons _ (.cons _ .slnil))))⟩
                  go_wp2_with fail
                  go_ret
                  rw [← some_eq H]
                  exact ⟨(by first | rfl | (simp [IntKind.wrap_u32]; done)), HS.out⟩
end Go.Proofs.YtobeonkddamnoaaDoor.C

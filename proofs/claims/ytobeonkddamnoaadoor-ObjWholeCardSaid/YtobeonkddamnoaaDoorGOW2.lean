/- Each function of the group OW does what its plain function says, and changes nothing that was there; proved by walking its code. No condition. -/
import Derived.Test.YtobeonkddamnoaaDoorQw
import Derived.Test.YtobeonkddamnoaaDoorMOW
import Derived.Test.YtobeonkddamnoaaDoorGOW0
import Derived.Test.YtobeonkddamnoaaDoorGOW1
namespace Go.Proofs.YtobeonkddamnoaaDoor.C
open Go.RowKit Go.Proofs.YtobeonkddamnoaaDoorW.PrintWords Go.Proofs.YtobeonkddamnoaaDoorW.PrintLast Go.Proofs.YtobeonkddamnoaaDoor.Q Go.Proofs.YtobeonkddamnoaaDoor.M
set_option linter.unusedVariables false
set_option linter.unusedSimpArgs false
set_option maxHeartbeats 30000000 in
set_option maxRecDepth 100000 in
theorem obj_Make.calls (k : Nat) (l1624 : List Int) (a1629 : Int) (a1630 : Int) (a1631 : Int) (a1632 : Int) (a1633 : Int) (a1634 : Int) (a1635 : Int) (g1620 : Nat) (g1622 : Nat) (A1625 : Option Addr) (m1626 : Nat) (n1627 : Nat) (r : Int × Int × Int × List Int) (w : World)  (HGl0 : Aside0 (Gl 0 #[.int .i64 0, .int .i64 0, .int .i64 0, .int .i64 0, .int .i64 0] (fps [b7 g1620 g1622 a1630 a1631 a1632 a1633, b6 g1622 A1625 m1626 n1627 a1629, r5 A1625 m1626 n1627 l1624]) w)) (HS : Aside0 (Sep (fps [b7 g1620 g1622 a1630 a1631 a1632 a1633, b6 g1622 A1625 m1626 n1627 a1629, r5 A1625 m1626 n1627 l1624]) w [b7 g1620 g1622 a1630 a1631 a1632 a1633, b6 g1622 A1625 m1626 n1627 a1629, r5 A1625 m1626 n1627 l1624] w)) (H : Aside0 (obj_Make.f k l1624 a1629 a1630 a1631 a1632 a1633 a1634 a1635 = some r)) :
    Calls Tryd.prog 34 #[.pointer (some ⟨g1620, 0, none⟩), .int .i64 a1634, .int .i64 a1635] w fun e w' => e = .returned (.tuple #[.int .i64 r.1, .int .i64 r.2.1]) ∧ Sep (fps [b7 g1620 g1622 a1630 a1631 a1632 a1633, b6 g1622 A1625 m1626 n1627 a1629, r5 A1625 m1626 n1627 l1624]) w [b7 g1620 g1622 a1630 a1631 a1632 a1633, b6 g1622 A1625 m1626 n1627 r.2.2.1, r5 A1625 m1626 n1627 r.2.2.2] w' := by
  generalize (fps [b7 g1620 g1622 a1630 a1631 a1632 a1633, b6 g1622 A1625 m1626 n1627 a1629, r5 A1625 m1626 n1627 l1624]) = FF at HS HGl0 ⊢
  obtain rfl := (row_len (HS.out.at2)).symm
  unfold obj_Make.f at H
  go_enter Tryd.func34, Tryd.ntmps34
  go_wp2_with fail
  obtain ⟨t2452, HA2453, H⟩ := bind_some H
  refine (ground_Ground_Conf.calls l1624 a1629 a1630 a1631 a1632 a1633 g1620 g1622 A1625 l1624.length n1627 t2452 _ ⟨HGl0.out.pass HS.out⟩ ⟨HS.out.begin⟩ HA2453).mono ?_
  rintro e_ w2454 ⟨rfl, hS⟩
  replace HS : Aside0 (Sep FF w [b7 g1620 g1622 a1630 a1631 a1632 a1633, b6 g1622 A1625 l1624.length n1627 a1629, r5 A1625 l1624.length n1627 l1624] w2454) := ⟨HS.out.call hS⟩
  clear hS
  have fl2455 : ∀ w, (Instr.field 30 (.agg #[.int .i64 t2452.1, .int .i64 t2452.2.1, .int .i64 t2452.2.2.1, .int .i64 t2452.2.2.2]) 1).run Tryd.prog w = .ok (.int .i64 t2452.2.1) w := fun _ => by kernel_rfl
  go_wp2_with fail
  clear fl2455
  obtain ⟨t2456, HA2457, H⟩ := bind_some H
  refine (shape_Blocks.calls _ t2452.2.1 a1634 a1635 t2456 _ ⟨HGl0.out.pass (l := []) HS.out⟩ ⟨Sep.start _⟩ HA2457).mono ?_
  rintro e_ w2458 ⟨rfl, hS⟩
  replace HS : Aside0 (Sep FF w [b7 g1620 g1622 a1630 a1631 a1632 a1633, b6 g1622 A1625 l1624.length n1627 a1629, r5 A1625 l1624.length n1627 l1624] w2458) := ⟨HS.out.call hS⟩
  clear hS
  by_cases c2459 : t2456.2 = 0
  · replace H := if_yes c2459 H
    have c2459b0 : (t2456.2 == 0) = true := beq_iff_eq.mpr c2459
    have c2459b1 : (t2456.2 != 0) = false := bne_eq_false_iff_eq.mpr c2459
    clear c2459
    go_wp2_with fail
    obtain ⟨t2460, HA2461, H⟩ := bind_some H
    refine (pool_Len.calls l1624 a1629 a1630 a1631 a1632 a1633 g1620 g1622 A1625 l1624.length n1627 t2460 _ ⟨HGl0.out.pass HS.out⟩ ⟨HS.out.begin⟩ HA2461).mono ?_
    rintro e_ w2462 ⟨rfl, hS⟩
    replace HS : Aside0 (Sep FF w [b7 g1620 g1622 a1630 a1631 a1632 a1633, b6 g1622 A1625 l1624.length n1627 t2460.2, r5 A1625 l1624.length n1627 l1624] w2462) := ⟨HS.out.call hS⟩
    clear hS
    by_cases c2463 : t2460.1 < t2456.1
    · replace H := if_yes c2463 H
      have c2463b0 : decide (t2460.1 < t2456.1) = true := decide_eq_true c2463
      clear c2463
      go_wp2_with fail
      go_ret2
      rw [← some_eq H]
      exact ⟨(by first | rfl | (simp [IntKind.wrap_u32]; done)), HS.out⟩
    · replace H := if_no c2463 H
      have c2463b0 : decide (t2460.1 < t2456.1) = false := decide_eq_false c2463
      clear c2463
      go_wp2_with fail
      obtain ⟨t2464, HA2465, H⟩ := bind_some H
      refine (pool_Take.calls _ l1624 t2460.2 a1630 a1631 a1632 a1633 g1620 g1622 A1625 l1624.length n1627 t2464 _ ⟨HGl0.out.pass HS.out⟩ ⟨HS.out.begin⟩ HA2465).mono ?_
      rintro e_ w2466 ⟨rfl, hS⟩
      replace HS : Aside0 (Sep FF w [b7 g1620 g1622 a1630 a1631 a1632 a1633, b6 g1622 A1625 l1624.length n1627 t2464.2.2.1, r5 A1625 l1624.length n1627 t2464.2.2.2] w2466) := ⟨HS.out.call hS⟩
      clear hS
      by_cases c2467 : t2456.1 > 1
      · replace H := if_yes c2467 H
        have c2467b0 : decide (1 < t2456.1) = true := decide_eq_true c2467
        clear c2467
        go_wp2_with fail
        obtain ⟨t2468, HA2469, H⟩ := bind_some H
        refine (obj_mark.calls _ t2464.2.2.2 t2464.2.2.1 a1630 a1631 a1632 a1633 t2464.1 2 0 0 0 0 0 0 g1620 g1622 A1625 l1624.length n1627 t2468 _ ⟨HGl0.out.pass HS.out⟩ ⟨HS.out.begin⟩ HA2469).mono ?_
        rintro e_ w2470 ⟨rfl, hS⟩
        replace HS : Aside0 (Sep FF w [b7 g1620 g1622 a1630 a1631 a1632 a1633, b6 g1622 A1625 l1624.length n1627 t2468.1, r5 A1625 l1624.length n1627 t2468.2] w2470) := ⟨HS.out.call hS⟩
        clear hS
        go_wp2_with fail
        obtain ⟨t2471, HA2472, H⟩ := bind_some H
        refine (ground_Ground_SetWord.calls t2468.2 t2468.1 a1630 a1631 a1632 a1633 t2464.1 1 ((a1634) % 4294967296) g1620 g1622 A1625 l1624.length n1627 t2471 _ ⟨HGl0.out.pass HS.out⟩ ⟨HS.out.begin⟩ HA2472).mono ?_
        rintro e_ w2473 ⟨rfl, hS⟩
        replace HS : Aside0 (Sep FF w [b7 g1620 g1622 a1630 a1631 a1632 a1633, b6 g1622 A1625 l1624.length n1627 t2471.2.1, r5 A1625 l1624.length n1627 t2471.2.2] w2473) := ⟨HS.out.call hS⟩
        clear hS
        go_wp2_with fail
        obtain ⟨t2474, HA2475, H⟩ := bind_some H
        refine (ground_Ground_SetWord.calls t2471.2.2 t2471.2.1 a1630 a1631 a1632 a1633 t2464.1 2 ((a1635) % 4294967296) g1620 g1622 A1625 l1624.length n1627 t2474 _ ⟨HGl0.out.pass HS.out⟩ ⟨HS.out.begin⟩ HA2475).mono ?_
        rintro e_ w2476 ⟨rfl, hS⟩
        replace HS : Aside0 (Sep FF w [b7 g1620 g1622 a1630 a1631 a1632 a1633, b6 g1622 A1625 l1624.length n1627 t2474.2.1, r5 A1625 l1624.length n1627 t2474.2.2] w2476) := ⟨HS.out.call hS⟩
        clear hS
        go_wp2_with fail
        obtain ⟨o2493, AL2494, H⟩ := bind_some H
        go_loopg [56] k (fun kq v56 wc => ∃ (x2497 : Int) (x2498 : List Int) (x2499 : Int), v56 = .int .i64 x2497 ∧ Aside0 (obj_Make.lo0 kq a1630 a1631 a1632 a1633 t2456 t2464 x2497 x2498 x2499 = some o2493) ∧ Aside0 (Sep FF w [b7 g1620 g1622 a1630 a1631 a1632 a1633, b6 g1622 A1625 l1624.length n1627 x2499, r5 A1625 l1624.length n1627 x2498] wc))
        case atStart => exact ⟨(0), (t2474.2.2), (t2474.2.1), (by first | rfl | (simp [IntKind.wrap_u32]; done)), AL2494, ⟨HS.out⟩⟩
        case round =>
          clear AL2494 HS
          obtain ⟨x2497, x2498, x2499, rfl, AL2494, HS⟩ := hrel
          obtain ⟨w2495, rfl⟩ : ∃ x : World, x = wr := ⟨_, rfl⟩
          cases gk with
          | zero => exact absurd AL2494.out (by simp [obj_Make.lo0])
          | succ k2496 =>
            have AL0 := AL2494.out
            rw [obj_Make.lo0] at AL0
            clear AL2494
            have AL2494 := Aside0.mk AL0
            clear AL0
            by_cases c2500 : x2497 < (wrap64 (t2456.1 - 1))
            · replace AL2494 := if_yes c2500 AL2494
              have c2500b0 : decide (x2497 < (wrap64 (t2456.1 - 1))) = true := decide_eq_true c2500
              clear c2500
              go_wp2_with fail
              obtain ⟨t2484, HA2501, AL2494⟩ := bind_some AL2494
              refine (pool_Take.calls _ x2498 x2499 a1630 a1631 a1632 a1633 g1620 g1622 A1625 l1624.length n1627 t2484 _ ⟨HGl0.out.pass HS.out⟩ ⟨HS.out.begin⟩ HA2501).mono ?_
              rintro e_ w2502 ⟨rfl, hS⟩
              replace HS : Aside0 (Sep FF w [b7 g1620 g1622 a1630 a1631 a1632 a1633, b6 g1622 A1625 l1624.length n1627 t2484.2.2.1, r5 A1625 l1624.length n1627 t2484.2.2.2] w2502) := ⟨HS.out.call hS⟩
              clear hS
              go_wp2_with fail
              obtain ⟨t2487, HA2503, AL2494⟩ := bind_some AL2494
              refine (obj_mark.calls _ t2484.2.2.2 t2484.2.2.1 a1630 a1631 a1632 a1633 t2484.1 3 0 0 0 0 0 t2464.1 g1620 g1622 A1625 l1624.length n1627 t2487 _ ⟨HGl0.out.pass HS.out⟩ ⟨HS.out.begin⟩ HA2503).mono ?_
              rintro e_ w2504 ⟨rfl, hS⟩
              replace HS : Aside0 (Sep FF w [b7 g1620 g1622 a1630 a1631 a1632 a1633, b6 g1622 A1625 l1624.length n1627 t2487.1, r5 A1625 l1624.length n1627 t2487.2] w2504) := ⟨HS.out.call hS⟩
              clear hS
              go_wp2_with fail
              obtain ⟨t2490, HA2505, AL2494⟩ := bind_some AL2494
              refine (ground_Ground_SetWord.calls t2487.2 t2487.1 a1630 a1631 a1632 a1633 t2464.1 (wrap64 (8 + x2497)) ((wrap64 (t2484.1 + 1)) % 4294967296) g1620 g1622 A1625 l1624.length n1627 t2490 _ ⟨HGl0.out.pass HS.out⟩ ⟨HS.out.begin⟩ HA2505).mono ?_
              rintro e_ w2506 ⟨rfl, hS⟩
              replace HS : Aside0 (Sep FF w [b7 g1620 g1622 a1630 a1631 a1632 a1633, b6 g1622 A1625 l1624.length n1627 t2490.2.1, r5 A1625 l1624.length n1627 t2490.2.2] w2506) := ⟨HS.out.call hS⟩
              clear hS
              go_wp2_with fail
              go_roundg k2496
              case measure => exact Nat.lt_succ_self _
              case rel => exact ⟨(wrap64 (x2497 + 1)), (t2490.2.2), (t2490.2.1), (by first | rfl | (simp [IntKind.wrap_u32]; done)), Aside0.mk AL2494.out, ⟨HS.out⟩⟩
            · replace AL2494 := if_no c2500 AL2494
              have c2500b0 : decide (x2497 < (wrap64 (t2456.1 - 1))) = false := decide_eq_false c2500
              clear c2500
              have ho := some_eq AL2494
              subst ho
              clear AL2494
              go_wp2_with fail
              go_ret2
              rw [← some_eq H]
              exact ⟨(by first | rfl | (simp [IntKind.wrap_u32]; done)), HS.out⟩
      · replace H := if_no c2467 H
        have c2467b0 : decide (1 < t2456.1) = false := decide_eq_false c2467
        clear c2467
        go_wp2_with fail
        obtain ⟨t2468, HA2508, H⟩ := bind_some H
        refine (obj_mark.calls _ t2464.2.2.2 t2464.2.2.1 a1630 a1631 a1632 a1633 t2464.1 1 0 0 0 0 0 0 g1620 g1622 A1625 l1624.length n1627 t2468 _ ⟨HGl0.out.pass HS.out⟩ ⟨HS.out.begin⟩ HA2508).mono ?_
        rintro e_ w2509 ⟨rfl, hS⟩
        replace HS : Aside0 (Sep FF w [b7 g1620 g1622 a1630 a1631 a1632 a1633, b6 g1622 A1625 l1624.length n1627 t2468.1, r5 A1625 l1624.length n1627 t2468.2] w2509) := ⟨HS.out.call hS⟩
        clear hS
        go_wp2_with fail
        obtain ⟨t2471, HA2510, H⟩ := bind_some H
        refine (ground_Ground_SetWord.calls t2468.2 t2468.1 a1630 a1631 a1632 a1633 t2464.1 1 ((a1634) % 4294967296) g1620 g1622 A1625 l1624.length n1627 t2471 _ ⟨HGl0.out.pass HS.out⟩ ⟨HS.out.begin⟩ HA2510).mono ?_
        rintro e_ w2511 ⟨rfl, hS⟩
        replace HS : Aside0 (Sep FF w [b7 g1620 g1622 a1630 a1631 a1632 a1633, b6 g1622 A1625 l1624.length n1627 t2471.2.1, r5 A1625 l1624.length n1627 t2471.2.2] w2511) := ⟨HS.out.call hS⟩
        clear hS
        go_wp2_with fail
        obtain ⟨t2474, HA2512, H⟩ := bind_some H
        refine (ground_Ground_SetWord.calls t2471.2.2 t2471.2.1 a1630 a1631 a1632 a1633 t2464.1 2 ((a1635) % 4294967296) g1620 g1622 A1625 l1624.length n1627 t2474 _ ⟨HGl0.out.pass HS.out⟩ ⟨HS.out.begin⟩ HA2512).mono ?_
        rintro e_ w2513 ⟨rfl, hS⟩
        replace HS : Aside0 (Sep FF w [b7 g1620 g1622 a1630 a1631 a1632 a1633, b6 g1622 A1625 l1624.length n1627 t2474.2.1, r5 A1625 l1624.length n1627 t2474.2.2] w2513) := ⟨HS.out.call hS⟩
        clear hS
        go_wp2_with fail
        obtain ⟨o2527, AL2528, H⟩ := bind_some H
        go_loopg [56] k (fun kq v56 wc => ∃ (x2531 : Int) (x2532 : List Int) (x2533 : Int), v56 = .int .i64 x2531 ∧ Aside0 (obj_Make.lo1 kq a1630 a1631 a1632 a1633 t2456 t2464 x2531 x2532 x2533 = some o2527) ∧ Aside0 (Sep FF w [b7 g1620 g1622 a1630 a1631 a1632 a1633, b6 g1622 A1625 l1624.length n1627 x2533, r5 A1625 l1624.length n1627 x2532] wc))
        case atStart => exact ⟨(0), (t2474.2.2), (t2474.2.1), (by first | rfl | (simp [IntKind.wrap_u32]; done)), AL2528, ⟨HS.out⟩⟩
        case round =>
          clear AL2528 HS
          obtain ⟨x2531, x2532, x2533, rfl, AL2528, HS⟩ := hrel
          obtain ⟨w2529, rfl⟩ : ∃ x : World, x = wr := ⟨_, rfl⟩
          cases gk with
          | zero => exact absurd AL2528.out (by simp [obj_Make.lo1])
          | succ k2530 =>
            have AL0 := AL2528.out
            rw [obj_Make.lo1] at AL0
            clear AL2528
            have AL2528 := Aside0.mk AL0
            clear AL0
            by_cases c2534 : x2531 < (wrap64 (t2456.1 - 1))
            · replace AL2528 := if_yes c2534 AL2528
              have c2534b0 : decide (x2531 < (wrap64 (t2456.1 - 1))) = true := decide_eq_true c2534
              clear c2534
              go_wp2_with fail
              obtain ⟨t2484, HA2535, AL2528⟩ := bind_some AL2528
              refine (pool_Take.calls _ x2532 x2533 a1630 a1631 a1632 a1633 g1620 g1622 A1625 l1624.length n1627 t2484 _ ⟨HGl0.out.pass HS.out⟩ ⟨HS.out.begin⟩ HA2535).mono ?_
              rintro e_ w2536 ⟨rfl, hS⟩
              replace HS : Aside0 (Sep FF w [b7 g1620 g1622 a1630 a1631 a1632 a1633, b6 g1622 A1625 l1624.length n1627 t2484.2.2.1, r5 A1625 l1624.length n1627 t2484.2.2.2] w2536) := ⟨HS.out.call hS⟩
              clear hS
              go_wp2_with fail
              obtain ⟨t2487, HA2537, AL2528⟩ := bind_some AL2528
              refine (obj_mark.calls _ t2484.2.2.2 t2484.2.2.1 a1630 a1631 a1632 a1633 t2484.1 3 0 0 0 0 0 t2464.1 g1620 g1622 A1625 l1624.length n1627 t2487 _ ⟨HGl0.out.pass HS.out⟩ ⟨HS.out.begin⟩ HA2537).mono ?_
              rintro e_ w2538 ⟨rfl, hS⟩
              replace HS : Aside0 (Sep FF w [b7 g1620 g1622 a1630 a1631 a1632 a1633, b6 g1622 A1625 l1624.length n1627 t2487.1, r5 A1625 l1624.length n1627 t2487.2] w2538) := ⟨HS.out.call hS⟩
              clear hS
              go_wp2_with fail
              obtain ⟨t2490, HA2539, AL2528⟩ := bind_some AL2528
              refine (ground_Ground_SetWord.calls t2487.2 t2487.1 a1630 a1631 a1632 a1633 t2464.1 (wrap64 (8 + x2531)) ((wrap64 (t2484.1 + 1)) % 4294967296) g1620 g1622 A1625 l1624.length n1627 t2490 _ ⟨HGl0.out.pass HS.out⟩ ⟨HS.out.begin⟩ HA2539).mono ?_
              rintro e_ w2540 ⟨rfl, hS⟩
              replace HS : Aside0 (Sep FF w [b7 g1620 g1622 a1630 a1631 a1632 a1633, b6 g1622 A1625 l1624.length n1627 t2490.2.1, r5 A1625 l1624.length n1627 t2490.2.2] w2540) := ⟨HS.out.call hS⟩
              clear hS
              go_wp2_with fail
              go_roundg k2530
              case measure => exact Nat.lt_succ_self _
              case rel => exact ⟨(wrap64 (x2531 + 1)), (t2490.2.2), (t2490.2.1), (by first | rfl | (simp [IntKind.wrap_u32]; done)), Aside0.mk AL2528.out, ⟨HS.out⟩⟩
            · replace AL2528 := if_no c2534 AL2528
              have c2534b0 : decide (x2531 < (wrap64 (t2456.1 - 1))) = false := decide_eq_false c2534
              clear c2534
              have ho := some_eq AL2528
              subst ho
              clear AL2528
              go_wp2_with fail
              go_ret2
              rw [← some_eq H]
              exact ⟨(by first | rfl | (simp [IntKind.wrap_u32]; done)), HS.out⟩
  · replace H := if_no c2459 H
    have c2459b0 : (t2456.2 == 0) = false := beq_eq_false_iff_ne.mpr c2459
    have c2459b1 : (t2456.2 != 0) = true := bne_iff_ne.mpr c2459
    clear c2459
    go_wp2_with fail
    go_ret2
    rw [← some_eq H]
    exact ⟨(by first | rfl | (simp [IntKind.wrap_u32]; done)), HS.out⟩

set_option maxHeartbeats 30000000 in
set_option maxRecDepth 100000 in
theorem obj_in.calls (l2610 : List Int) (a2615 : Int) (a2616 : Int) (a2617 : Int) (a2618 : Int) (a2619 : Int) (a2620 : Int) (g2606 : Nat) (g2608 : Nat) (A2611 : Option Addr) (m2612 : Nat) (n2613 : Nat) (r : Bool) (w : World)  (HGl0 : Aside0 (Gl 0 #[.int .i64 0, .int .i64 0, .int .i64 0, .int .i64 0, .int .i64 0] (fps [b7 g2606 g2608 a2616 a2617 a2618 a2619, b6 g2608 A2611 m2612 n2613 a2615, r5 A2611 m2612 n2613 l2610]) w)) (HS : Aside0 (Sep (fps [b7 g2606 g2608 a2616 a2617 a2618 a2619, b6 g2608 A2611 m2612 n2613 a2615, r5 A2611 m2612 n2613 l2610]) w [b7 g2606 g2608 a2616 a2617 a2618 a2619, b6 g2608 A2611 m2612 n2613 a2615, r5 A2611 m2612 n2613 l2610] w)) (H : Aside0 (obj_in.f l2610 a2615 a2616 a2617 a2618 a2619 a2620 = some r)) :
    Calls Tryd.prog 100 #[.pointer (some ⟨g2606, 0, none⟩), .int .i64 a2620] w fun e w' => e = .returned (.bool r) ∧ Sep (fps [b7 g2606 g2608 a2616 a2617 a2618 a2619, b6 g2608 A2611 m2612 n2613 a2615, r5 A2611 m2612 n2613 l2610]) w [b7 g2606 g2608 a2616 a2617 a2618 a2619, b6 g2608 A2611 m2612 n2613 a2615, r5 A2611 m2612 n2613 l2610] w' := by
  generalize (fps [b7 g2606 g2608 a2616 a2617 a2618 a2619, b6 g2608 A2611 m2612 n2613 a2615, r5 A2611 m2612 n2613 l2610]) = FF at HS HGl0 ⊢
  obtain rfl := (row_len (HS.out.at2)).symm
  unfold obj_in.f at H
  go_enter Tryd.func100, Tryd.ntmps100
  by_cases c2621 : a2620 > 0
  · replace H := if_yes c2621 H
    have c2621b0 : decide (0 < a2620) = true := decide_eq_true c2621
    clear c2621
    go_wp2_with fail
    obtain ⟨t2622, HA2623, H⟩ := bind_some H
    refine (ground_Ground_Conf.calls l2610 a2615 a2616 a2617 a2618 a2619 g2606 g2608 A2611 l2610.length n2613 t2622 _ ⟨HGl0.out.pass HS.out⟩ ⟨HS.out.begin⟩ HA2623).mono ?_
    rintro e_ w2624 ⟨rfl, hS⟩
    replace HS : Aside0 (Sep FF w [b7 g2606 g2608 a2616 a2617 a2618 a2619, b6 g2608 A2611 l2610.length n2613 a2615, r5 A2611 l2610.length n2613 l2610] w2624) := ⟨HS.out.call hS⟩
    clear hS
    have fl2625 : ∀ w, (Instr.field 30 (.agg #[.int .i64 t2622.1, .int .i64 t2622.2.1, .int .i64 t2622.2.2.1, .int .i64 t2622.2.2.2]) 0).run Tryd.prog w = .ok (.int .i64 t2622.1) w := fun _ => by kernel_rfl
    go_wp2_with fail
    clear fl2625
    go_ret
    rw [← some_eq H]
    exact ⟨(by first | rfl | (simp [IntKind.wrap_u32]; done)), HS.out⟩
  · replace H := if_no c2621 H
    have c2621b0 : decide (0 < a2620) = false := decide_eq_false c2621
    clear c2621
    go_wp2_with fail
    go_ret
    rw [← some_eq H]
    exact ⟨(by first | rfl | (simp [IntKind.wrap_u32]; done)), HS.out⟩

set_option maxHeartbeats 30000000 in
set_option maxRecDepth 100000 in
theorem pack_Get.calls (a2646 : Int) (a2647 : Int) (a2648 : Int) (r : Int) (w : World)  (HGl0 : Aside0 (Gl 0 #[.int .i64 0, .int .i64 0, .int .i64 0, .int .i64 0, .int .i64 0] (fps []) w)) (HS : Aside0 (Sep (fps []) w [] w)) (H : Aside0 (pack_Get.f a2646 a2647 a2648 = some r)) :
    Calls Tryd.prog 20 #[.int .u32 a2646, .int .i64 a2647, .int .i64 a2648] w fun e w' => e = .returned (.int .u32 r) ∧ Sep (fps []) w [] w' := by
  unfold pack_Get.f at H
  go_enter Tryd.func20, Tryd.ntmps20
  go_wp2_with fail
  obtain ⟨t2649, HA2650, H⟩ := bind_some H
  refine (pack_isPiece.calls a2647 a2648 t2649 _ ⟨HGl0.out.pass (l := []) HS.out⟩ ⟨Sep.start _⟩ HA2650).mono ?_
  rintro e_ w2651 ⟨rfl, hS⟩
  replace HS : Aside0 (Sep (fps []) w [] w2651) := ⟨HS.out.call hS⟩
  clear hS
  by_cases c2652 : t2649 = true
  · replace H := if_yes c2652 H
    have c2652b0 : t2649 = true := c2652
    have c2652b1 : (!t2649) = false := by rw [c2652b0]; rfl
    try rw [c2652b1]
    clear c2652
    go_wp2_with fail
    obtain ⟨t2653, HA2654, H⟩ := bind_some H
    refine (pack_mask.calls a2647 a2648 t2653 _ ⟨HGl0.out.pass (l := []) HS.out⟩ ⟨Sep.start _⟩ HA2654).mono ?_
    rintro e_ w2655 ⟨rfl, hS⟩
    replace HS : Aside0 (Sep (fps []) w [] w2655) := ⟨HS.out.call hS⟩
    clear hS
    by_cases c2656 : 0 ≤ (IntKind.u64.wrap (a2647))
    · replace H := if_yes c2656 H
      have c2656b0 : decide (0 ≤ (IntKind.u64.wrap (a2647))) = true := decide_eq_true c2656
      skip
      go_wp2_with fail
      clear c2656
      go_ret
      rw [← some_eq H]
      exact ⟨(by first | rfl | (simp [IntKind.wrap_u32]; done)), HS.out⟩
    · replace H := if_no c2656 H
      have c2656b0 : decide (0 ≤ (IntKind.u64.wrap (a2647))) = false := decide_eq_false c2656
      exact (none_no H).elim
  · replace H := if_no c2652 H
    have c2652b0 : t2649 = false := by simpa using c2652
    have c2652b1 : (!t2649) = true := by rw [c2652b0]; rfl
    try rw [c2652b1]
    clear c2652
    go_wp2_with fail
    go_ret
    rw [← some_eq H]
    exact ⟨(by first | rfl | (simp [IntKind.wrap_u32]; done)), HS.out⟩

set_option maxHeartbeats 30000000 in
set_option maxRecDepth 100000 in
theorem tag_Unpack_1.calls (a2640 : Int) (a2641 : Int) (a2644 : Int) (g2643 : Nat) (r : Int) (w : World)  (HGl0 : Aside0 (Gl 0 #[.int .i64 0, .int .i64 0, .int .i64 0, .int .i64 0, .int .i64 0] (fps [b13 g2643 a2644]) w)) (HS : Aside0 (Sep (fps [b13 g2643 a2644]) w [b13 g2643 a2644] w)) (H : Aside0 (tag_Unpack_1.f a2640 a2641 a2644 = some r)) :
    Calls Tryd.prog 74 #[.int .i64 a2640, .int .i64 a2641, .pointer (some ⟨g2643, 0, none⟩)] w fun e w' => e = .returned (.int .i64 r) ∧ Sep (fps [b13 g2643 a2644]) w [b13 g2643 a2644] w' := by
  generalize (fps [b13 g2643 a2644]) = FF at HS HGl0 ⊢
  unfold tag_Unpack_1.f at H
  go_enter Tryd.func74, Tryd.ntmps74
  have hc2645 : w.cell? ⟨g2643, 0, none⟩ = some (.int .u32 a2644) := blk_cellv (HS.out.at0) 0 rfl
  go_wp2_with fail
  clear hc2645
  obtain ⟨t2657, HA2658, H⟩ := bind_some H
  refine (pack_Get.calls a2644 a2640 a2641 t2657 _ ⟨HGl0.out.pass (l := []) HS.out⟩ ⟨Sep.start _⟩ HA2658).mono ?_
  rintro e_ w2659 ⟨rfl, hS⟩
  replace HS : Aside0 (Sep FF w [b13 g2643 a2644] w2659) := ⟨HS.out.call hS⟩
  clear hS
  go_wp2_with fail
  go_ret
  rw [← some_eq H]
  exact ⟨(by first | rfl | (simp [IntKind.wrap_u32]; done)), HS.out⟩

set_option maxHeartbeats 30000000 in
set_option maxRecDepth 100000 in
theorem tag_Unpack.calls (a2633 : Int) (r : Int × Int × Int × Int × Int × Int × Int) (w : World)  (HGl0 : Aside0 (Gl 0 #[.int .i64 0, .int .i64 0, .int .i64 0, .int .i64 0, .int .i64 0] (fps []) w)) (HS : Aside0 (Sep (fps []) w [] w)) (H : Aside0 (tag_Unpack.f a2633 = some r)) :
    Calls Tryd.prog 19 #[.int .u32 a2633] w fun e w' => e = .returned (.agg #[.int .i64 r.1, .int .i64 r.2.1, .int .i64 r.2.2.1, .int .i64 r.2.2.2.1, .int .i64 r.2.2.2.2.1, .int .i64 r.2.2.2.2.2.1, .int .i64 r.2.2.2.2.2.2]) ∧ Sep (fps []) w [] w' := by
  unfold tag_Unpack.f at H
  go_enter Tryd.func19, Tryd.ntmps19
  go_wp2_with (first | ((with_reducible refine gate_dst (N := 1) rfl ?_); refine box_on ?hg (N := 1) ?hd (cs := #[.int .u32 a2633]) (t := 33) ?hr ?_; (case hd => rfl); (case hg => rfl); (case hr => first | (go_simp; done) | (go_simp; rfl)); intro g2634 hg w2635 hbox hb; replace HS : Aside0 (Sep (fps []) w [b13 g2634 a2633] w2635) := ⟨HS.out.box hg hbox hb⟩; clear hg hbox hb) | ((with_reducible refine gate_dst (N := 2) rfl ?_); refine box_on ?hg (N := 2) ?hd (cs := #[.int .i64 0, .int .i64 0, .int .i64 0, .int .i64 0, .int .i64 0, .int .i64 0, .int .i64 0]) (t := 32) ?hr ?_; (case hd => rfl); (case hg => rfl); (case hr => first | (go_simp; done) | (go_simp; rfl)); intro g2637 hg w2638 hbox hb; replace HS : Aside0 (Sep (fps []) w [b13 g2634 a2633, b11 g2637 0 0 0 0 0 0 0] w2638) := ⟨HS.out.box hg hbox hb⟩; clear hg hbox hb))
  obtain ⟨t2660, HA2661, H⟩ := bind_some H
  refine (tag_Unpack_1.calls 0 2 a2633 g2634 t2660 _ ⟨HGl0.out.pass HS.out⟩ ⟨HS.out.begin⟩ HA2661).mono ?_
  rintro e_ w2662 ⟨rfl, hS⟩
  replace HS : Aside0 (Sep (fps []) w [b13 g2634 a2633, b11 g2637 0 0 0 0 0 0 0] w2662) := ⟨HS.out.call hS⟩
  clear hS
  go_wp2_with fail
  obtain ⟨t2663, HA2664, H⟩ := bind_some H
  refine (tag_Unpack_1.calls 2 1 a2633 g2634 t2663 _ ⟨HGl0.out.pass HS.out⟩ ⟨HS.out.begin⟩ HA2664).mono ?_
  rintro e_ w2665 ⟨rfl, hS⟩
  replace HS : Aside0 (Sep (fps []) w [b13 g2634 a2633, b11 g2637 0 0 0 0 0 0 0] w2665) := ⟨HS.out.call hS⟩
  clear hS
  go_wp2_with fail
  obtain ⟨t2666, HA2667, H⟩ := bind_some H
  refine (tag_Unpack_1.calls 3 1 a2633 g2634 t2666 _ ⟨HGl0.out.pass HS.out⟩ ⟨HS.out.begin⟩ HA2667).mono ?_
  rintro e_ w2668 ⟨rfl, hS⟩
  replace HS : Aside0 (Sep (fps []) w [b13 g2634 a2633, b11 g2637 0 0 0 0 0 0 0] w2668) := ⟨HS.out.call hS⟩
  clear hS
  go_wp2_with fail
  obtain ⟨t2669, HA2670, H⟩ := bind_some H
  refine (tag_Unpack_1.calls 4 1 a2633 g2634 t2669 _ ⟨HGl0.out.pass HS.out⟩ ⟨HS.out.begin⟩ HA2670).mono ?_
  rintro e_ w2671 ⟨rfl, hS⟩
  replace HS : Aside0 (Sep (fps []) w [b13 g2634 a2633, b11 g2637 0 0 0 0 0 0 0] w2671) := ⟨HS.out.call hS⟩
  clear hS
  go_wp2_with fail
  obtain ⟨t2672, HA2673, H⟩ := bind_some H
  refine (tag_Unpack_1.calls 5 1 a2633 g2634 t2672 _ ⟨HGl0.out.pass HS.out⟩ ⟨HS.out.begin⟩ HA2673).mono ?_
  rintro e_ w2674 ⟨rfl, hS⟩
  replace HS : Aside0 (Sep (fps []) w [b13 g2634 a2633, b11 g2637 0 0 0 0 0 0 0] w2674) := ⟨HS.out.call hS⟩
  clear hS
  go_wp2_with fail
  obtain ⟨t2675, HA2676, H⟩ := bind_some H
  refine (tag_Unpack_1.calls 6 1 a2633 g2634 t2675 _ ⟨HGl0.out.pass HS.out⟩ ⟨HS.out.begin⟩ HA2676).mono ?_
  rintro e_ w2677 ⟨rfl, hS⟩
  replace HS : Aside0 (Sep (fps []) w [b13 g2634 a2633, b11 g2637 0 0 0 0 0 0 0] w2677) := ⟨HS.out.call hS⟩
  clear hS
  go_wp2_with fail
  obtain ⟨t2678, HA2679, H⟩ := bind_some H
  refine (tag_Unpack_1.calls 8 24 a2633 g2634 t2678 _ ⟨HGl0.out.pass HS.out⟩ ⟨HS.out.begin⟩ HA2679).mono ?_
  rintro e_ w2680 ⟨rfl, hS⟩
  replace HS : Aside0 (Sep (fps []) w [b13 g2634 a2633, b11 g2637 0 0 0 0 0 0 0] w2680) := ⟨HS.out.call hS⟩
  clear hS
  have hc2681 : w2680.cell? ⟨g2637, 0, none⟩ = some (.int .i64 0) := blk_cellv (HS.out.at1) 0 rfl
  have hz2682 : w2680.frozen? ⟨g2637, 0, none⟩ = false := blk_fz (HS.out.at1) 0
  have hc2683 : w2680.cell? ⟨g2637, 1, none⟩ = some (.int .i64 0) := blk_cellv (HS.out.at1) 1 rfl
  have hz2684 : w2680.frozen? ⟨g2637, 1, none⟩ = false := blk_fz (HS.out.at1) 1
  have hc2685 : w2680.cell? ⟨g2637, 2, none⟩ = some (.int .i64 0) := blk_cellv (HS.out.at1) 2 rfl
  have hz2686 : w2680.frozen? ⟨g2637, 2, none⟩ = false := blk_fz (HS.out.at1) 2
  have hc2687 : w2680.cell? ⟨g2637, 3, none⟩ = some (.int .i64 0) := blk_cellv (HS.out.at1) 3 rfl
  have hz2688 : w2680.frozen? ⟨g2637, 3, none⟩ = false := blk_fz (HS.out.at1) 3
  have hc2689 : w2680.cell? ⟨g2637, 4, none⟩ = some (.int .i64 0) := blk_cellv (HS.out.at1) 4 rfl
  have hz2690 : w2680.frozen? ⟨g2637, 4, none⟩ = false := blk_fz (HS.out.at1) 4
  have hc2691 : w2680.cell? ⟨g2637, 5, none⟩ = some (.int .i64 0) := blk_cellv (HS.out.at1) 5 rfl
  have hz2692 : w2680.frozen? ⟨g2637, 5, none⟩ = false := blk_fz (HS.out.at1) 5
  have hc2693 : w2680.cell? ⟨g2637, 6, none⟩ = some (.int .i64 0) := blk_cellv (HS.out.at1) 6 rfl
  have hz2694 : w2680.frozen? ⟨g2637, 6, none⟩ = false := blk_fz (HS.out.at1) 6
  go_wp2_with (first | ((with_reducible refine gate_store (t := 32) (p := 2) rfl ?_); refine store_event (w1 := (World.setCell (World.setCell (World.setCell (World.setCell (World.setCell (World.setCell (World.setCell w2680 ⟨g2637, 0, none⟩ (.int .i64 t2660)) ⟨g2637, 1, none⟩ (.int .i64 t2663)) ⟨g2637, 2, none⟩ (.int .i64 t2666)) ⟨g2637, 3, none⟩ (.int .i64 t2669)) ⟨g2637, 4, none⟩ (.int .i64 t2672)) ⟨g2637, 5, none⟩ (.int .i64 t2675)) ⟨g2637, 6, none⟩ (.int .i64 t2678))) rfl (t := 32) (p := 2) rfl rfl ?hr ?_; (case hr => first | (go_simp; done) | (go_simp; rfl)); intro w2695 hst; clear hc2681 hz2682 hc2683 hz2684 hc2685 hz2686 hc2687 hz2688 hc2689 hz2690 hc2691 hz2692 hc2693 hz2694; replace HS : Aside0 (Sep (fps []) w [b13 g2634 a2633, b11 g2637 t2660 t2663 t2666 t2669 t2672 t2675 t2678] w2695) := ⟨by rw [hst]; exact HS.out.setAll (l1 := [b13 g2634 a2633]) (l2 := []) [.int .i64 t2660, .int .i64 t2663, .int .i64 t2666, .int .i64 t2669, .int .i64 t2672, .int .i64 t2675, .int .i64 t2678] rfl⟩; clear hst; replace HS : Aside0 (Sep (fps []) w [b11 g2637 t2660 t2663 t2666 t2669 t2672 t2675 t2678] w2695) := ⟨HS.out.sub (.cons _ (.cons_cons _ .slnil))⟩))
  have hc2696 : w2695.cell? ⟨g2637, 0, none⟩ = some (.int .i64 t2660) := blk_cellv (HS.out.at0) 0 rfl
  have hc2697 : w2695.cell? ⟨g2637, 1, none⟩ = some (.int .i64 t2663) := blk_cellv (HS.out.at0) 1 rfl
  have hc2698 : w2695.cell? ⟨g2637, 2, none⟩ = some (.int .i64 t2666) := blk_cellv (HS.out.at0) 2 rfl
  have hc2699 : w2695.cell? ⟨g2637, 3, none⟩ = some (.int .i64 t2669) := blk_cellv (HS.out.at0) 3 rfl
  have hc2700 : w2695.cell? ⟨g2637, 4, none⟩ = some (.int .i64 t2672) := blk_cellv (HS.out.at0) 4 rfl
  have hc2701 : w2695.cell? ⟨g2637, 5, none⟩ = some (.int .i64 t2675) := blk_cellv (HS.out.at0) 5 rfl
  have hc2702 : w2695.cell? ⟨g2637, 6, none⟩ = some (.int .i64 t2678) := blk_cellv (HS.out.at0) 6 rfl
  refine bodyPost_ret (v := .agg #[.int .i64 t2660, .int .i64 t2663, .int .i64 t2666, .int .i64 t2669, .int .i64 t2672, .int .i64 t2675, .int .i64 t2678]) (by simp [results, Tryd.results19, go_sem, hc2696, hc2697, hc2698, hc2699, hc2700, hc2701, hc2702]) rfl ?_
  rw [← some_eq H]
  exact ⟨(by first | rfl | (simp [IntKind.wrap_u32]; done)), HS.out.sub (.cons _ .slnil)⟩

set_option maxHeartbeats 30000000 in
set_option maxRecDepth 100000 in
theorem obj_isHead.calls (a2707 : Int) (r : Bool) (w : World)  (HGl0 : Aside0 (Gl 0 #[.int .i64 0, .int .i64 0, .int .i64 0, .int .i64 0, .int .i64 0] (fps []) w)) (HS : Aside0 (Sep (fps []) w [] w)) (H : Aside0 (obj_isHead.f a2707 = some r)) :
    Calls Tryd.prog 101 #[.int .i64 a2707] w fun e w' => e = .returned (.bool r) ∧ Sep (fps []) w [] w' := by
  unfold obj_isHead.f at H
  go_enter Tryd.func101, Tryd.ntmps101
  by_cases c2708 : a2707 = 1
  · replace H := if_yes c2708 H
    have c2708b0 : (a2707 == 1) = true := beq_iff_eq.mpr c2708
    have c2708b1 : (a2707 != 1) = false := bne_eq_false_iff_eq.mpr c2708
    clear c2708
    go_wp2_with fail
    go_ret
    rw [← some_eq H]
    exact ⟨(by first | rfl | (simp [IntKind.wrap_u32]; done)), HS.out⟩
  · replace H := if_no c2708 H
    have c2708b0 : (a2707 == 1) = false := beq_eq_false_iff_ne.mpr c2708
    have c2708b1 : (a2707 != 1) = true := bne_iff_ne.mpr c2708
    clear c2708
    go_wp2_with fail
    go_ret
    rw [← some_eq H]
    exact ⟨(by first | rfl | (simp [IntKind.wrap_u32]; done)), HS.out⟩

set_option maxHeartbeats 30000000 in
set_option maxRecDepth 100000 in
theorem obj_Is.calls (l2594 : List Int) (a2599 : Int) (a2600 : Int) (a2601 : Int) (a2602 : Int) (a2603 : Int) (a2604 : Int) (g2590 : Nat) (g2592 : Nat) (A2595 : Option Addr) (m2596 : Nat) (n2597 : Nat) (r : Bool × Int) (w : World)  (HGl0 : Aside0 (Gl 0 #[.int .i64 0, .int .i64 0, .int .i64 0, .int .i64 0, .int .i64 0] (fps [b7 g2590 g2592 a2600 a2601 a2602 a2603, b6 g2592 A2595 m2596 n2597 a2599, r5 A2595 m2596 n2597 l2594]) w)) (HS : Aside0 (Sep (fps [b7 g2590 g2592 a2600 a2601 a2602 a2603, b6 g2592 A2595 m2596 n2597 a2599, r5 A2595 m2596 n2597 l2594]) w [b7 g2590 g2592 a2600 a2601 a2602 a2603, b6 g2592 A2595 m2596 n2597 a2599, r5 A2595 m2596 n2597 l2594] w)) (H : Aside0 (obj_Is.f l2594 a2599 a2600 a2601 a2602 a2603 a2604 = some r)) :
    Calls Tryd.prog 48 #[.pointer (some ⟨g2590, 0, none⟩), .int .i64 a2604] w fun e w' => e = .returned (.bool r.1) ∧ Sep (fps [b7 g2590 g2592 a2600 a2601 a2602 a2603, b6 g2592 A2595 m2596 n2597 a2599, r5 A2595 m2596 n2597 l2594]) w [b7 g2590 g2592 a2600 a2601 a2602 a2603, b6 g2592 A2595 m2596 n2597 r.2, r5 A2595 m2596 n2597 l2594] w' := by
  generalize (fps [b7 g2590 g2592 a2600 a2601 a2602 a2603, b6 g2592 A2595 m2596 n2597 a2599, r5 A2595 m2596 n2597 l2594]) = FF at HS HGl0 ⊢
  obtain rfl := (row_len (HS.out.at2)).symm
  unfold obj_Is.f at H
  go_enter Tryd.func48, Tryd.ntmps48
  go_wp2_with fail
  obtain ⟨t2712, HA2713, H⟩ := bind_some H
  refine (obj_in.calls l2594 a2599 a2600 a2601 a2602 a2603 a2604 g2590 g2592 A2595 l2594.length n2597 t2712 _ ⟨HGl0.out.pass HS.out⟩ ⟨HS.out.begin⟩ HA2713).mono ?_
  rintro e_ w2714 ⟨rfl, hS⟩
  replace HS : Aside0 (Sep FF w [b7 g2590 g2592 a2600 a2601 a2602 a2603, b6 g2592 A2595 l2594.length n2597 a2599, r5 A2595 l2594.length n2597 l2594] w2714) := ⟨HS.out.call hS⟩
  clear hS
  by_cases c2715 : t2712 = true
  · replace H := if_yes c2715 H
    have c2715b0 : t2712 = true := c2715
    have c2715b1 : (!t2712) = false := by rw [c2715b0]; rfl
    clear c2715
    go_wp2_with fail
    obtain ⟨t2716, HA2717, H⟩ := bind_some H
    refine (ground_Ground_Word.calls l2594 a2599 a2600 a2601 a2602 a2603 (wrap64 (a2604 - 1)) 0 g2590 g2592 A2595 l2594.length n2597 t2716 _ ⟨HGl0.out.pass HS.out⟩ ⟨HS.out.begin⟩ HA2717).mono ?_
    rintro e_ w2718 ⟨rfl, hS⟩
    replace HS : Aside0 (Sep FF w [b7 g2590 g2592 a2600 a2601 a2602 a2603, b6 g2592 A2595 l2594.length n2597 t2716.2, r5 A2595 l2594.length n2597 l2594] w2718) := ⟨HS.out.call hS⟩
    clear hS
    go_wp2_with fail
    obtain ⟨t2719, HA2720, H⟩ := bind_some H
    refine (tag_Unpack.calls t2716.1 t2719 _ ⟨HGl0.out.pass (l := []) HS.out⟩ ⟨Sep.start _⟩ HA2720).mono ?_
    rintro e_ w2721 ⟨rfl, hS⟩
    replace HS : Aside0 (Sep FF w [b7 g2590 g2592 a2600 a2601 a2602 a2603, b6 g2592 A2595 l2594.length n2597 t2716.2, r5 A2595 l2594.length n2597 l2594] w2721) := ⟨HS.out.call hS⟩
    clear hS
    have fl2722 : ∀ w, (Instr.field 32 (.agg #[.int .i64 t2719.1, .int .i64 t2719.2.1, .int .i64 t2719.2.2.1, .int .i64 t2719.2.2.2.1, .int .i64 t2719.2.2.2.2.1, .int .i64 t2719.2.2.2.2.2.1, .int .i64 t2719.2.2.2.2.2.2]) 0).run Tryd.prog w = .ok (.int .i64 t2719.1) w := fun _ => by kernel_rfl
    go_wp2_with fail
    clear fl2722
    obtain ⟨t2723, HA2724, H⟩ := bind_some H
    refine (obj_isHead.calls t2719.1 t2723 _ ⟨HGl0.out.pass (l := []) HS.out⟩ ⟨Sep.start _⟩ HA2724).mono ?_
    rintro e_ w2725 ⟨rfl, hS⟩
    replace HS : Aside0 (Sep FF w [b7 g2590 g2592 a2600 a2601 a2602 a2603, b6 g2592 A2595 l2594.length n2597 t2716.2, r5 A2595 l2594.length n2597 l2594] w2725) := ⟨HS.out.call hS⟩
    clear hS
    go_wp2_with fail
    go_ret
    rw [← some_eq H]
    exact ⟨(by first | rfl | (simp [IntKind.wrap_u32]; done)), HS.out⟩
  · replace H := if_no c2715 H
    have c2715b0 : t2712 = false := by simpa using c2715
    have c2715b1 : (!t2712) = true := by rw [c2715b0]; rfl
    clear c2715
    go_wp2_with fail
    go_ret
    rw [← some_eq H]
    exact ⟨(by first | rfl | (simp [IntKind.wrap_u32]; done)), HS.out⟩

set_option maxHeartbeats 30000000 in
set_option maxRecDepth 100000 in
theorem obj_Lens.calls (l2578 : List Int) (a2583 : Int) (a2584 : Int) (a2585 : Int) (a2586 : Int) (a2587 : Int) (a2588 : Int) (g2574 : Nat) (g2576 : Nat) (A2579 : Option Addr) (m2580 : Nat) (n2581 : Nat) (r : Int × Int × Int × Int) (w : World)  (HGl0 : Aside0 (Gl 0 #[.int .i64 0, .int .i64 0, .int .i64 0, .int .i64 0, .int .i64 0] (fps [b7 g2574 g2576 a2584 a2585 a2586 a2587, b6 g2576 A2579 m2580 n2581 a2583, r5 A2579 m2580 n2581 l2578]) w)) (HS : Aside0 (Sep (fps [b7 g2574 g2576 a2584 a2585 a2586 a2587, b6 g2576 A2579 m2580 n2581 a2583, r5 A2579 m2580 n2581 l2578]) w [b7 g2574 g2576 a2584 a2585 a2586 a2587, b6 g2576 A2579 m2580 n2581 a2583, r5 A2579 m2580 n2581 l2578] w)) (H : Aside0 (obj_Lens.f l2578 a2583 a2584 a2585 a2586 a2587 a2588 = some r)) :
    Calls Tryd.prog 60 #[.pointer (some ⟨g2574, 0, none⟩), .int .i64 a2588] w fun e w' => e = .returned (.tuple #[.int .i64 r.1, .int .i64 r.2.1, .int .i64 r.2.2.1]) ∧ Sep (fps [b7 g2574 g2576 a2584 a2585 a2586 a2587, b6 g2576 A2579 m2580 n2581 a2583, r5 A2579 m2580 n2581 l2578]) w [b7 g2574 g2576 a2584 a2585 a2586 a2587, b6 g2576 A2579 m2580 n2581 r.2.2.2, r5 A2579 m2580 n2581 l2578] w' := by
  generalize (fps [b7 g2574 g2576 a2584 a2585 a2586 a2587, b6 g2576 A2579 m2580 n2581 a2583, r5 A2579 m2580 n2581 l2578]) = FF at HS HGl0 ⊢
  obtain rfl := (row_len (HS.out.at2)).symm
  unfold obj_Lens.f at H
  go_enter Tryd.func60, Tryd.ntmps60
  go_wp2_with fail
  obtain ⟨t2736, HA2737, H⟩ := bind_some H
  refine (obj_Is.calls l2578 a2583 a2584 a2585 a2586 a2587 a2588 g2574 g2576 A2579 l2578.length n2581 t2736 _ ⟨HGl0.out.pass HS.out⟩ ⟨HS.out.begin⟩ HA2737).mono ?_
  rintro e_ w2738 ⟨rfl, hS⟩
  replace HS : Aside0 (Sep FF w [b7 g2574 g2576 a2584 a2585 a2586 a2587, b6 g2576 A2579 l2578.length n2581 t2736.2, r5 A2579 l2578.length n2581 l2578] w2738) := ⟨HS.out.call hS⟩
  clear hS
  by_cases c2739 : t2736.1 = true
  · replace H := if_yes c2739 H
    have c2739b0 : t2736.1 = true := c2739
    have c2739b1 : (!t2736.1) = false := by rw [c2739b0]; rfl
    try rw [c2739b1]
    clear c2739
    go_wp2_with fail
    obtain ⟨t2740, HA2741, H⟩ := bind_some H
    refine (ground_Ground_Word.calls l2578 t2736.2 a2584 a2585 a2586 a2587 (wrap64 (a2588 - 1)) 1 g2574 g2576 A2579 l2578.length n2581 t2740 _ ⟨HGl0.out.pass HS.out⟩ ⟨HS.out.begin⟩ HA2741).mono ?_
    rintro e_ w2742 ⟨rfl, hS⟩
    replace HS : Aside0 (Sep FF w [b7 g2574 g2576 a2584 a2585 a2586 a2587, b6 g2576 A2579 l2578.length n2581 t2740.2, r5 A2579 l2578.length n2581 l2578] w2742) := ⟨HS.out.call hS⟩
    clear hS
    go_wp2_with fail
    obtain ⟨t2743, HA2744, H⟩ := bind_some H
    refine (ground_Ground_Word.calls l2578 t2740.2 a2584 a2585 a2586 a2587 (wrap64 (a2588 - 1)) 2 g2574 g2576 A2579 l2578.length n2581 t2743 _ ⟨HGl0.out.pass HS.out⟩ ⟨HS.out.begin⟩ HA2744).mono ?_
    rintro e_ w2745 ⟨rfl, hS⟩
    replace HS : Aside0 (Sep FF w [b7 g2574 g2576 a2584 a2585 a2586 a2587, b6 g2576 A2579 l2578.length n2581 t2743.2, r5 A2579 l2578.length n2581 l2578] w2745) := ⟨HS.out.call hS⟩
    clear hS
    go_wp2_with fail
    go_ret3
    rw [← some_eq H]
    exact ⟨(by first | rfl | (simp [IntKind.wrap_u32]; done)), HS.out⟩
  · replace H := if_no c2739 H
    have c2739b0 : t2736.1 = false := by simpa using c2739
    have c2739b1 : (!t2736.1) = true := by rw [c2739b0]; rfl
    try rw [c2739b1]
    clear c2739
    go_wp2_with fail
    go_ret3
    rw [← some_eq H]
    exact ⟨(by first | rfl | (simp [IntKind.wrap_u32]; done)), HS.out⟩

set_option maxHeartbeats 30000000 in
set_option maxRecDepth 100000 in
theorem obj_Blocks.calls (k : Nat) (l2562 : List Int) (a2567 : Int) (a2568 : Int) (a2569 : Int) (a2570 : Int) (a2571 : Int) (a2572 : Int) (g2558 : Nat) (g2560 : Nat) (A2563 : Option Addr) (m2564 : Nat) (n2565 : Nat) (r : Int × Int) (w : World)  (HGl0 : Aside0 (Gl 0 #[.int .i64 0, .int .i64 0, .int .i64 0, .int .i64 0, .int .i64 0] (fps [b7 g2558 g2560 a2568 a2569 a2570 a2571, b6 g2560 A2563 m2564 n2565 a2567, r5 A2563 m2564 n2565 l2562]) w)) (HS : Aside0 (Sep (fps [b7 g2558 g2560 a2568 a2569 a2570 a2571, b6 g2560 A2563 m2564 n2565 a2567, r5 A2563 m2564 n2565 l2562]) w [b7 g2558 g2560 a2568 a2569 a2570 a2571, b6 g2560 A2563 m2564 n2565 a2567, r5 A2563 m2564 n2565 l2562] w)) (H : Aside0 (obj_Blocks.f k l2562 a2567 a2568 a2569 a2570 a2571 a2572 = some r)) :
    Calls Tryd.prog 45 #[.pointer (some ⟨g2558, 0, none⟩), .int .i64 a2572] w fun e w' => e = .returned (.int .i64 r.1) ∧ Sep (fps [b7 g2558 g2560 a2568 a2569 a2570 a2571, b6 g2560 A2563 m2564 n2565 a2567, r5 A2563 m2564 n2565 l2562]) w [b7 g2558 g2560 a2568 a2569 a2570 a2571, b6 g2560 A2563 m2564 n2565 r.2, r5 A2563 m2564 n2565 l2562] w' := by
  generalize (fps [b7 g2558 g2560 a2568 a2569 a2570 a2571, b6 g2560 A2563 m2564 n2565 a2567, r5 A2563 m2564 n2565 l2562]) = FF at HS HGl0 ⊢
  obtain rfl := (row_len (HS.out.at2)).symm
  unfold obj_Blocks.f at H
  go_enter Tryd.func45, Tryd.ntmps45
  go_wp2_with fail
  obtain ⟨t2757, HA2758, H⟩ := bind_some H
  refine (obj_Lens.calls l2562 a2567 a2568 a2569 a2570 a2571 a2572 g2558 g2560 A2563 l2562.length n2565 t2757 _ ⟨HGl0.out.pass HS.out⟩ ⟨HS.out.begin⟩ HA2758).mono ?_
  rintro e_ w2759 ⟨rfl, hS⟩
  replace HS : Aside0 (Sep FF w [b7 g2558 g2560 a2568 a2569 a2570 a2571, b6 g2560 A2563 l2562.length n2565 t2757.2.2.2, r5 A2563 l2562.length n2565 l2562] w2759) := ⟨HS.out.call hS⟩
  clear hS
  by_cases c2760 : t2757.2.2.1 = 0
  · replace H := if_yes c2760 H
    have c2760b0 : (t2757.2.2.1 == 0) = true := beq_iff_eq.mpr c2760
    have c2760b1 : (t2757.2.2.1 != 0) = false := bne_eq_false_iff_eq.mpr c2760
    clear c2760
    go_wp2_with fail
    obtain ⟨t2761, HA2762, H⟩ := bind_some H
    refine (ground_Ground_Conf.calls l2562 t2757.2.2.2 a2568 a2569 a2570 a2571 g2558 g2560 A2563 l2562.length n2565 t2761 _ ⟨HGl0.out.pass HS.out⟩ ⟨HS.out.begin⟩ HA2762).mono ?_
    rintro e_ w2763 ⟨rfl, hS⟩
    replace HS : Aside0 (Sep FF w [b7 g2558 g2560 a2568 a2569 a2570 a2571, b6 g2560 A2563 l2562.length n2565 t2757.2.2.2, r5 A2563 l2562.length n2565 l2562] w2763) := ⟨HS.out.call hS⟩
    clear hS
    have fl2764 : ∀ w, (Instr.field 30 (.agg #[.int .i64 t2761.1, .int .i64 t2761.2.1, .int .i64 t2761.2.2.1, .int .i64 t2761.2.2.2]) 1).run Tryd.prog w = .ok (.int .i64 t2761.2.1) w := fun _ => by kernel_rfl
    go_wp2_with fail
    clear fl2764
    obtain ⟨t2765, HA2766, H⟩ := bind_some H
    refine (shape_Blocks.calls _ t2761.2.1 t2757.1 t2757.2.1 t2765 _ ⟨HGl0.out.pass (l := []) HS.out⟩ ⟨Sep.start _⟩ HA2766).mono ?_
    rintro e_ w2767 ⟨rfl, hS⟩
    replace HS : Aside0 (Sep FF w [b7 g2558 g2560 a2568 a2569 a2570 a2571, b6 g2560 A2563 l2562.length n2565 t2757.2.2.2, r5 A2563 l2562.length n2565 l2562] w2767) := ⟨HS.out.call hS⟩
    clear hS
    go_wp2_with fail
    go_ret
    rw [← some_eq H]
    exact ⟨(by first | rfl | (simp [IntKind.wrap_u32]; done)), HS.out⟩
  · replace H := if_no c2760 H
    have c2760b0 : (t2757.2.2.1 == 0) = false := beq_eq_false_iff_ne.mpr c2760
    have c2760b1 : (t2757.2.2.1 != 0) = true := bne_iff_ne.mpr c2760
    clear c2760
    go_wp2_with fail
    go_ret
    rw [← some_eq H]
    exact ⟨(by first | rfl | (simp [IntKind.wrap_u32]; done)), HS.out⟩

set_option maxHeartbeats 30000000 in
set_option maxRecDepth 100000 in
theorem shape_Place.calls (k : Nat) (a2852 : Int) (a2853 : Int) (a2854 : Int) (r : Int × Int × Int) (w : World)  (HGl0 : Aside0 (Gl 0 #[.int .i64 0, .int .i64 0, .int .i64 0, .int .i64 0, .int .i64 0] (fps []) w)) (HS : Aside0 (Sep (fps []) w [] w)) (H : Aside0 (shape_Place.f k a2852 a2853 a2854 = some r)) :
    Calls Tryd.prog 137 #[.int .i64 a2852, .int .i64 a2853, .int .i64 a2854] w fun e w' => e = .returned (.tuple #[.int .i64 r.1, .int .i64 r.2.1, .int .i64 r.2.2]) ∧ Sep (fps []) w [] w' := by
  unfold shape_Place.f at H
  go_enter Tryd.func137, Tryd.ntmps137
  go_wp2_with (first | ((with_reducible refine gate_dst (N := 12) rfl ?_); refine slice_on (n := 1) ?hg (N := 12) ?hd (cs := #[.int .i64 a2853]) (t := 3) ?hr ?_; (case hd => rfl); (case hg => rfl); (case hr => first | (go_simp; done) | (go_simp; rfl)); intro g2855 hg w2856 hbox hb; replace HS : Aside0 (Sep (fps []) w [b10 g2855 a2853] w2856) := ⟨HS.out.box hg hbox hb⟩; clear hg hbox hb))
  obtain ⟨t2858, HA2859, H⟩ := bind_some H
  refine (shape_wrong.calls _ a2852 [a2853] (some ⟨g2855, 0, none⟩) 1 t2858 _ ⟨Rd.lit (l := []) (xs := [a2853]) HS.out 0 rfl (by simp)⟩ ⟨HGl0.out.pass (l := []) HS.out⟩ ⟨Sep.start _⟩ HA2859).mono ?_
  rintro e_ w2860 ⟨rfl, hS⟩
  replace HS : Aside0 (Sep (fps []) w [b10 g2855 a2853] w2860) := ⟨HS.out.call hS⟩
  clear hS
  by_cases c2861 : t2858 = 0
  · replace H := if_yes c2861 H
    have c2861b0 : (t2858 == 0) = true := beq_iff_eq.mpr c2861
    have c2861b1 : (t2858 != 0) = false := bne_eq_false_iff_eq.mpr c2861
    clear c2861
    by_cases c2862 : a2854 < 0
    · replace H := if_yes c2862 H
      have c2862b0 : decide (a2854 < 0) = true := decide_eq_true c2862
      clear c2862
      replace HS : Aside0 (Sep (fps []) w [] w2860) := ⟨HS.out.sub (.cons _ .slnil)⟩
      go_wp2_with fail
      go_ret3
      rw [← some_eq H]
      exact ⟨(by first | rfl | (simp [IntKind.wrap_u32]; done)), HS.out⟩
    · replace H := if_no c2862 H
      have c2862b0 : decide (a2854 < 0) = false := decide_eq_false c2862
      clear c2862
      by_cases c2863 : a2854 ≥ a2853
      · replace H := if_yes c2863 H
        have c2863b0 : decide (a2853 ≤ a2854) = true := decide_eq_true c2863
        clear c2863
        replace HS : Aside0 (Sep (fps []) w [] w2860) := ⟨HS.out.sub (.cons _ .slnil)⟩
        go_wp2_with fail
        go_ret3
        rw [← some_eq H]
        exact ⟨(by first | rfl | (simp [IntKind.wrap_u32]; done)), HS.out⟩
      · replace H := if_no c2863 H
        have c2863b0 : decide (a2853 ≤ a2854) = false := decide_eq_false c2863
        clear c2863
        replace HS : Aside0 (Sep (fps []) w [] w2860) := ⟨HS.out.sub (.cons _ .slnil)⟩
        go_wp2_with fail
        obtain ⟨t2864, HA2865, H⟩ := bind_some H
        refine (shape_leaves.calls a2852 a2853 t2864 _ ⟨HGl0.out.pass (l := []) HS.out⟩ ⟨Sep.start _⟩ HA2865).mono ?_
        rintro e_ w2866 ⟨rfl, hS⟩
        replace HS : Aside0 (Sep (fps []) w [] w2866) := ⟨HS.out.call hS⟩
        clear hS
        by_cases c2867 : t2864 = 0
        · replace H := if_yes c2867 H
          have c2867b0 : (t2864 == 0) = true := beq_iff_eq.mpr c2867
          have c2867b1 : (t2864 != 0) = false := bne_eq_false_iff_eq.mpr c2867
          clear c2867
          go_wp2_with fail
          go_ret3
          rw [← some_eq H]
          exact ⟨(by first | rfl | (simp [IntKind.wrap_u32]; done)), HS.out⟩
        · replace H := if_no c2867 H
          have c2867b0 : (t2864 == 0) = false := beq_eq_false_iff_ne.mpr c2867
          have c2867b1 : (t2864 != 0) = true := bne_iff_ne.mpr c2867
          clear c2867
          go_wp2_with fail
          refine start_ (n := 12) (S := (fun _ => True)) (ds := []) #[false, false, false, false, false, false, false, false, false, false, false, false] (by kernel_rfl) rfl rfl (trivial) (fun hHeld => ?_)
          have HS_ := Aside0.mk HS.out.drew
          clear HS
          generalize World.drew _ = w2869 at HS_ hHeld ⊢
          have HS := HS_
          clear HS_
          refine pure_ (i := 0) (N := some 32) (v := ?_) (a' := ?_) #[true, false, false, false, false, false, false, false, false, false, false, false] rfl rfl (by kernel_rfl) (fun _ _ _ h => h) (Or.inl ⟨by rfl, ?_⟩) ?_ ?_
          rotate_left
          · intro w'
            go_simp
            with_reducible rfl
          rotate_left
          · simp only [Act.put, List.setIfInBounds_toArray, List.set_cons_zero, List.set_cons_succ, i64_w, i32_w]
            rfl
          refine pure_ (i := 1) (N := some 33) (v := ?_) (a' := ?_) #[true, true, false, false, false, false, false, false, false, false, false, false] rfl rfl (by kernel_rfl) (fun _ _ _ h => h) (Or.inl ⟨by rfl, ?_⟩) ?_ ?_
          rotate_left
          · intro w'
            go_simp
            with_reducible rfl
          rotate_left
          · simp only [Act.put, List.setIfInBounds_toArray, List.set_cons_zero, List.set_cons_succ, i64_w, i32_w]
            rfl
          refine pure_ (i := 4) (N := some 36) (v := ?_) (a' := ?_) #[true, true, false, false, true, false, false, false, false, false, false, false] rfl rfl (by kernel_rfl) (fun _ _ _ h => h) (Or.inl ⟨by rfl, ?_⟩) ?_ ?_
          rotate_left
          · intro w'
            go_simp
            with_reducible rfl
          rotate_left
          · simp only [Act.put, List.setIfInBounds_toArray, List.set_cons_zero, List.set_cons_succ, i64_w, i32_w]
            rfl
          refine pure_ (i := 5) (N := some 37) (v := ?_) (a' := ?_) #[true, true, false, false, true, true, false, false, false, false, false, false] rfl rfl (by kernel_rfl) (fun _ _ _ h => h) (Or.inl ⟨by rfl, ?_⟩) ?_ ?_
          rotate_left
          · intro w'
            go_simp
            with_reducible rfl
          rotate_left
          · simp only [Act.put, List.setIfInBounds_toArray, List.set_cons_zero, List.set_cons_succ, i64_w, i32_w]
            rfl
          refine one_ (i := 2) (N := some 34) #[true, true, true, false, true, true, false, false, false, false, false, false] rfl rfl (by kernel_rfl) (by decide) (fun K hK => ?_)
          obtain ⟨t2870, HA2871, H⟩ := bind_some H
          refine goes_ Tryd.func120 (by kernel_rfl) rfl #[.int .i64 a2852] (by rfl) rfl rfl (by (try simp only [List.map_toArray, List.map_cons, List.map_nil]); first | done | rfl) ?_
          refine (shape_inLeaf.calls a2852 t2870 _ ⟨HGl0.out.pass (l := []) HS.out⟩ ⟨Sep.start _⟩ HA2871).mono ?_
          rintro e_ w2872 ⟨rfl, hS⟩
          replace HS : Aside0 (Sep (fps []) w [] w2872) := ⟨HS.out.call hS⟩
          clear hS
          refine ⟨_, rfl, ?_⟩
          refine hK.out _ _ (trivial) (fun hHeld => ?_)
          clear hK K
          refine norm_ (a' := ?_) ?_ ?_
          rotate_left
          · show Act.put _ (some 34) _ = _
            simp only [Act.put, List.setIfInBounds_toArray, List.set_cons_zero, List.set_cons_succ, i64_w, i32_w]
            rfl
          by_cases c2873 : t2870 = 0
          · replace H := if_yes c2873 H
            have c2873b0 : (t2870 == 0) = true := beq_iff_eq.mpr c2873
            have c2873b1 : (t2870 != 0) = false := bne_eq_false_iff_eq.mpr c2873
            exact (none_no H).elim
          · replace H := if_no c2873 H
            have c2873b0 : (t2870 == 0) = false := beq_eq_false_iff_ne.mpr c2873
            have c2873b1 : (t2870 != 0) = true := bne_iff_ne.mpr c2873
            refine pure_ (i := 3) (N := some 35) (v := ?_) (a' := ?_) #[true, true, true, true, true, true, false, false, false, false, false, false] rfl rfl (by kernel_rfl) (fun _ _ _ h => h) (Or.inl ⟨by rfl, ?_⟩) ?_ ?_
            rotate_left
            · intro w'
              go_simp
              with_reducible rfl
            rotate_left
            · simp only [Act.put, List.setIfInBounds_toArray, List.set_cons_zero, List.set_cons_succ, i64_w, i32_w]
              rfl
            refine one_ (i := 6) (N := some 38) #[true, true, true, true, true, true, true, false, false, false, false, false] rfl rfl (by kernel_rfl) (by decide) (fun K hK => ?_)
            obtain ⟨t2874, HA2875, H⟩ := bind_some H
            refine goes_ Tryd.func120 (by kernel_rfl) rfl #[.int .i64 a2852] (by rfl) rfl rfl (by (try simp only [List.map_toArray, List.map_cons, List.map_nil]); first | done | rfl) ?_
            refine (shape_inLeaf.calls a2852 t2874 _ ⟨HGl0.out.pass (l := []) HS.out⟩ ⟨Sep.start _⟩ HA2875).mono ?_
            rintro e_ w2876 ⟨rfl, hS⟩
            replace HS : Aside0 (Sep (fps []) w [] w2876) := ⟨HS.out.call hS⟩
            clear hS
            refine ⟨_, rfl, ?_⟩
            refine hK.out _ _ (trivial) (fun hHeld => ?_)
            clear hK K
            refine norm_ (a' := ?_) ?_ ?_
            rotate_left
            · show Act.put _ (some 38) _ = _
              simp only [Act.put, List.setIfInBounds_toArray, List.set_cons_zero, List.set_cons_succ, i64_w, i32_w]
              rfl
            by_cases c2877 : t2874 = 0
            · replace H := if_yes c2877 H
              have c2877b0 : (t2874 == 0) = true := beq_iff_eq.mpr c2877
              have c2877b1 : (t2874 != 0) = false := bne_eq_false_iff_eq.mpr c2877
              exact (none_no H).elim
            · replace H := if_no c2877 H
              have c2877b0 : (t2874 == 0) = false := beq_eq_false_iff_ne.mpr c2877
              have c2877b1 : (t2874 != 0) = true := bne_iff_ne.mpr c2877
              refine pure_ (i := 7) (N := some 39) (v := ?_) (a' := ?_) #[true, true, true, true, true, true, true, true, false, false, false, false] rfl rfl (by kernel_rfl) (fun _ _ _ h => h) (Or.inl ⟨by rfl, ?_⟩) ?_ ?_
              rotate_left
              · intro w'
                go_simp
                with_reducible rfl
              rotate_left
              · simp only [Act.put, List.setIfInBounds_toArray, List.set_cons_zero, List.set_cons_succ, i64_w, i32_w]
                rfl
              refine pure_ (i := 8) (N := some 40) (v := ?_) (a' := ?_) #[true, true, true, true, true, true, true, true, true, false, false, false] rfl rfl (by kernel_rfl) (fun _ _ _ h => h) (Or.inl ⟨by rfl, ?_⟩) ?_ ?_
              rotate_left
              · intro w'
                go_simp
                with_reducible rfl
              rotate_left
              · simp only [Act.put, List.setIfInBounds_toArray, List.set_cons_zero, List.set_cons_succ, i64_w, i32_w]
                rfl
              refine pure_ (i := 9) (N := some 6) (v := ?_) (a' := ?_) #[true, true, true, true, true, true, true, true, true, true, false, false] rfl rfl (by kernel_rfl) (fun _ _ _ h => h) (Or.inl ⟨by rfl, ?_⟩) ?_ ?_
              rotate_left
              · intro w'
                go_simp
                with_reducible rfl
              rotate_left
              · simp only [Act.put, List.setIfInBounds_toArray, List.set_cons_zero, List.set_cons_succ, i64_w, i32_w]
                rfl
              refine pure_ (i := 10) (N := some 7) (v := ?_) (a' := ?_) #[true, true, true, true, true, true, true, true, true, true, true, false] rfl rfl (by kernel_rfl) (fun _ _ _ h => h) (Or.inl ⟨by rfl, ?_⟩) ?_ ?_
              rotate_left
              · intro w'
                go_simp
                with_reducible rfl
              rotate_left
              · simp only [Act.put, List.setIfInBounds_toArray, List.set_cons_zero, List.set_cons_succ, i64_w, i32_w]
                rfl
              refine pure_ (i := 11) (N := some 8) (v := ?_) (a' := ?_) #[true, true, true, true, true, true, true, true, true, true, true, true] rfl rfl (by kernel_rfl) (fun _ _ _ h => h) (Or.inl ⟨by rfl, ?_⟩) ?_ ?_
              rotate_left
              · intro w'
                go_simp
                with_reducible rfl
              rotate_left
              · simp only [Act.put, List.setIfInBounds_toArray, List.set_cons_zero, List.set_cons_succ, i64_w, i32_w]
                rfl
              refine done_ (by kernel_rfl) ?_
              skip
              skip
              go_wp2_with fail
              clear c2873 c2877
              go_ret3
              rw [← some_eq H]
              exact ⟨(by first | rfl | (simp [IntKind.wrap_u32]; done)), HS.out⟩
  · replace H := if_no c2861 H
    have c2861b0 : (t2858 == 0) = false := beq_eq_false_iff_ne.mpr c2861
    have c2861b1 : (t2858 != 0) = true := bne_iff_ne.mpr c2861
    clear c2861
    replace HS : Aside0 (Sep (fps []) w [] w2860) := ⟨HS.out.sub (.cons _ .slnil)⟩
    go_wp2_with fail
    go_ret3
    rw [← some_eq H]
    exact ⟨(by first | rfl | (simp [IntKind.wrap_u32]; done)), HS.out⟩

set_option maxHeartbeats 30000000 in
set_option maxRecDepth 100000 in
theorem obj_field.calls (k : Nat) (l2795 : List Int) (a2800 : Int) (a2801 : Int) (a2802 : Int) (a2803 : Int) (a2804 : Int) (a2805 : Int) (a2806 : Int) (a2807 : Bool) (g2791 : Nat) (g2793 : Nat) (A2796 : Option Addr) (m2797 : Nat) (n2798 : Nat) (r : Int × Int × Int × Int) (w : World)  (HGl0 : Aside0 (Gl 0 #[.int .i64 0, .int .i64 0, .int .i64 0, .int .i64 0, .int .i64 0] (fps [b7 g2791 g2793 a2801 a2802 a2803 a2804, b6 g2793 A2796 m2797 n2798 a2800, r5 A2796 m2797 n2798 l2795]) w)) (HS : Aside0 (Sep (fps [b7 g2791 g2793 a2801 a2802 a2803 a2804, b6 g2793 A2796 m2797 n2798 a2800, r5 A2796 m2797 n2798 l2795]) w [b7 g2791 g2793 a2801 a2802 a2803 a2804, b6 g2793 A2796 m2797 n2798 a2800, r5 A2796 m2797 n2798 l2795] w)) (H : Aside0 (obj_field.f k l2795 a2800 a2801 a2802 a2803 a2804 a2805 a2806 a2807 = some r)) :
    Calls Tryd.prog 116 #[.pointer (some ⟨g2791, 0, none⟩), .int .i64 a2805, .int .i64 a2806, .bool a2807] w fun e w' => e = .returned (.tuple #[.agg #[.int .i64 r.1, .int .i64 r.2.1], .int .i64 r.2.2.1]) ∧ Sep (fps [b7 g2791 g2793 a2801 a2802 a2803 a2804, b6 g2793 A2796 m2797 n2798 a2800, r5 A2796 m2797 n2798 l2795]) w [b7 g2791 g2793 a2801 a2802 a2803 a2804, b6 g2793 A2796 m2797 n2798 r.2.2.2, r5 A2796 m2797 n2798 l2795] w' := by
  generalize (fps [b7 g2791 g2793 a2801 a2802 a2803 a2804, b6 g2793 A2796 m2797 n2798 a2800, r5 A2796 m2797 n2798 l2795]) = FF at HS HGl0 ⊢
  obtain rfl := (row_len (HS.out.at2)).symm
  unfold obj_field.f at H
  go_enter Tryd.func116, Tryd.ntmps116
  go_wp2_with (first | ((with_reducible refine gate_dst (N := 8) rfl ?_); refine box_on ?hg (N := 8) ?hd (cs := #[.int .i64 0, .int .i64 0]) (t := 142) ?hr ?_; (case hd => rfl); (case hg => rfl); (case hr => first | (go_simp; done) | (go_simp; rfl)); intro g2824 hg w2825 hbox hb; replace HS : Aside0 (Sep FF w [b7 g2791 g2793 a2801 a2802 a2803 a2804, b6 g2793 A2796 l2795.length n2798 a2800, r5 A2796 l2795.length n2798 l2795, b16 g2824 0 0] w2825) := ⟨HS.out.box hg hbox hb⟩; clear hg hbox hb))
  obtain ⟨t2827, HA2828, H⟩ := bind_some H
  refine (obj_Lens.calls l2795 a2800 a2801 a2802 a2803 a2804 a2805 g2791 g2793 A2796 l2795.length n2798 t2827 _ ⟨HGl0.out.pass HS.out⟩ ⟨HS.out.begin⟩ HA2828).mono ?_
  rintro e_ w2829 ⟨rfl, hS⟩
  replace HS : Aside0 (Sep FF w [b7 g2791 g2793 a2801 a2802 a2803 a2804, b6 g2793 A2796 l2795.length n2798 t2827.2.2.2, r5 A2796 l2795.length n2798 l2795, b16 g2824 0 0] w2829) := ⟨HS.out.call hS⟩
  clear hS
  by_cases c2830 : t2827.2.2.1 = 0
  · replace H := if_yes c2830 H
    have c2830b0 : (t2827.2.2.1 == 0) = true := beq_iff_eq.mpr c2830
    have c2830b1 : (t2827.2.2.1 != 0) = false := bne_eq_false_iff_eq.mpr c2830
    clear c2830
    by_cases c2831 : a2807 = true
    · replace H := if_yes c2831 H
      have c2831b0 : a2807 = true := c2831
      have c2831b1 : (!a2807) = false := by rw [c2831b0]; rfl
      clear c2831
      by_cases c2832 : a2806 < 0
      · replace H := if_yes c2832 H
        have c2832b0 : decide (a2806 < 0) = true := decide_eq_true c2832
        clear c2832
        have hc2833 : w2829.cell? ⟨g2824, 0, none⟩ = some (.int .i64 0) := blk_cellv (HS.out.at3) 0 rfl
        have hz2834 : w2829.frozen? ⟨g2824, 0, none⟩ = false := blk_fz (HS.out.at3) 0
        have hc2835 : w2829.cell? ⟨g2824, 1, none⟩ = some (.int .i64 0) := blk_cellv (HS.out.at3) 1 rfl
        have hz2836 : w2829.frozen? ⟨g2824, 1, none⟩ = false := blk_fz (HS.out.at3) 1
        go_wp2_with (first | ((with_reducible refine gate_store (t := 142) (p := 8) rfl ?_); refine store_event (w1 := (World.setCell (World.setCell w2829 ⟨g2824, 0, none⟩ (.int .i64 0)) ⟨g2824, 1, none⟩ (.int .i64 0))) rfl (t := 142) (p := 8) rfl rfl ?hr ?_; (case hr => first | (go_simp; done) | (go_simp; rfl)); intro w2837 hst; clear hc2833 hz2834 hc2835 hz2836; have hq0 : Sep FF w [b7 g2791 g2793 a2801 a2802 a2803 a2804, b6 g2793 A2796 l2795.length n2798 t2827.2.2.2, r5 A2796 l2795.length n2798 l2795, b16 g2824 0 0] (World.setCell w2829 ⟨g2824, 0, none⟩ (.int .i64 0)) := (HS.out).set1 (l1 := [b7 g2791 g2793 a2801 a2802 a2803 a2804, b6 g2793 A2796 l2795.length n2798 t2827.2.2.2, r5 A2796 l2795.length n2798 l2795]) (l2 := []) 0 (.int .i64 0); have hq1 : Sep FF w [b7 g2791 g2793 a2801 a2802 a2803 a2804, b6 g2793 A2796 l2795.length n2798 t2827.2.2.2, r5 A2796 l2795.length n2798 l2795, b16 g2824 0 0] (World.setCell (World.setCell w2829 ⟨g2824, 0, none⟩ (.int .i64 0)) ⟨g2824, 1, none⟩ (.int .i64 0)) := (hq0).set1 (l1 := [b7 g2791 g2793 a2801 a2802 a2803 a2804, b6 g2793 A2796 l2795.length n2798 t2827.2.2.2, r5 A2796 l2795.length n2798 l2795]) (l2 := []) 1 (.int .i64 0); replace HS : Aside0 (Sep FF w [b7 g2791 g2793 a2801 a2802 a2803 a2804, b6 g2793 A2796 l2795.length n2798 t2827.2.2.2, r5 A2796 l2795.length n2798 l2795, b16 g2824 0 0] w2837) := ⟨by rw [hst]; exact hq1⟩; clear hq0 hq1; clear hst))
        have hc2838 : w2837.cell? ⟨g2824, 0, none⟩ = some (.int .i64 0) := blk_cellv (HS.out.at3) 0 rfl
        have hc2839 : w2837.cell? ⟨g2824, 1, none⟩ = some (.int .i64 0) := blk_cellv (HS.out.at3) 1 rfl
        refine bodyPost_ret (v := .tuple #[.agg #[.int .i64 0, .int .i64 0], .int .i64 7]) (by simp [results, Tryd.results116, go_sem, hc2838, hc2839]) rfl ?_
        rw [← some_eq H]
        exact ⟨(by first | rfl | (simp [IntKind.wrap_u32]; done)), HS.out.sub (.cons_cons _ (.cons_cons _ (.cons_cons _ (.cons _ .slnil))))⟩
      · replace H := if_no c2832 H
        have c2832b0 : decide (a2806 < 0) = false := decide_eq_false c2832
        clear c2832
        by_cases c2840 : a2806 ≥ t2827.2.1
        · replace H := if_yes c2840 H
          have c2840b0 : decide (t2827.2.1 ≤ a2806) = true := decide_eq_true c2840
          clear c2840
          have hc2841 : w2829.cell? ⟨g2824, 0, none⟩ = some (.int .i64 0) := blk_cellv (HS.out.at3) 0 rfl
          have hz2842 : w2829.frozen? ⟨g2824, 0, none⟩ = false := blk_fz (HS.out.at3) 0
          have hc2843 : w2829.cell? ⟨g2824, 1, none⟩ = some (.int .i64 0) := blk_cellv (HS.out.at3) 1 rfl
          have hz2844 : w2829.frozen? ⟨g2824, 1, none⟩ = false := blk_fz (HS.out.at3) 1
          go_wp2_with (first | ((with_reducible refine gate_store (t := 142) (p := 8) rfl ?_); refine store_event (w1 := (World.setCell (World.setCell w2829 ⟨g2824, 0, none⟩ (.int .i64 0)) ⟨g2824, 1, none⟩ (.int .i64 0))) rfl (t := 142) (p := 8) rfl rfl ?hr ?_; (case hr => first | (go_simp; done) | (go_simp; rfl)); intro w2845 hst; clear hc2841 hz2842 hc2843 hz2844; have hq0 : Sep FF w [b7 g2791 g2793 a2801 a2802 a2803 a2804, b6 g2793 A2796 l2795.length n2798 t2827.2.2.2, r5 A2796 l2795.length n2798 l2795, b16 g2824 0 0] (World.setCell w2829 ⟨g2824, 0, none⟩ (.int .i64 0)) := (HS.out).set1 (l1 := [b7 g2791 g2793 a2801 a2802 a2803 a2804, b6 g2793 A2796 l2795.length n2798 t2827.2.2.2, r5 A2796 l2795.length n2798 l2795]) (l2 := []) 0 (.int .i64 0); have hq1 : Sep FF w [b7 g2791 g2793 a2801 a2802 a2803 a2804, b6 g2793 A2796 l2795.length n2798 t2827.2.2.2, r5 A2796 l2795.length n2798 l2795, b16 g2824 0 0] (World.setCell (World.setCell w2829 ⟨g2824, 0, none⟩ (.int .i64 0)) ⟨g2824, 1, none⟩ (.int .i64 0)) := (hq0).set1 (l1 := [b7 g2791 g2793 a2801 a2802 a2803 a2804, b6 g2793 A2796 l2795.length n2798 t2827.2.2.2, r5 A2796 l2795.length n2798 l2795]) (l2 := []) 1 (.int .i64 0); replace HS : Aside0 (Sep FF w [b7 g2791 g2793 a2801 a2802 a2803 a2804, b6 g2793 A2796 l2795.length n2798 t2827.2.2.2, r5 A2796 l2795.length n2798 l2795, b16 g2824 0 0] w2845) := ⟨by rw [hst]; exact hq1⟩; clear hq0 hq1; clear hst))
          have hc2846 : w2845.cell? ⟨g2824, 0, none⟩ = some (.int .i64 0) := blk_cellv (HS.out.at3) 0 rfl
          have hc2847 : w2845.cell? ⟨g2824, 1, none⟩ = some (.int .i64 0) := blk_cellv (HS.out.at3) 1 rfl
          refine bodyPost_ret (v := .tuple #[.agg #[.int .i64 0, .int .i64 0], .int .i64 7]) (by simp [results, Tryd.results116, go_sem, hc2846, hc2847]) rfl ?_
          rw [← some_eq H]
          exact ⟨(by first | rfl | (simp [IntKind.wrap_u32]; done)), HS.out.sub (.cons_cons _ (.cons_cons _ (.cons_cons _ (.cons _ .slnil))))⟩
        · replace H := if_no c2840 H
          have c2840b0 : decide (t2827.2.1 ≤ a2806) = false := decide_eq_false c2840
          clear c2840
          go_wp2_with fail
          obtain ⟨t2848, HA2849, H⟩ := bind_some H
          refine (ground_Ground_Conf.calls l2795 t2827.2.2.2 a2801 a2802 a2803 a2804 g2791 g2793 A2796 l2795.length n2798 t2848 _ ⟨HGl0.out.pass HS.out⟩ ⟨HS.out.begin⟩ HA2849).mono ?_
          rintro e_ w2850 ⟨rfl, hS⟩
          replace HS : Aside0 (Sep FF w [b7 g2791 g2793 a2801 a2802 a2803 a2804, b6 g2793 A2796 l2795.length n2798 t2827.2.2.2, r5 A2796 l2795.length n2798 l2795, b16 g2824 0 0] w2850) := ⟨HS.out.call hS⟩
          clear hS
          have fl2851 : ∀ w, (Instr.field 30 (.agg #[.int .i64 t2848.1, .int .i64 t2848.2.1, .int .i64 t2848.2.2.1, .int .i64 t2848.2.2.2]) 1).run Tryd.prog w = .ok (.int .i64 t2848.2.1) w := fun _ => by kernel_rfl
          go_wp2_with fail
          clear fl2851
          obtain ⟨t2878, HA2879, H⟩ := bind_some H
          refine (shape_Place.calls _ t2848.2.1 (wrap64 (t2827.1 + t2827.2.1)) (wrap64 (t2827.1 + a2806)) t2878 _ ⟨HGl0.out.pass (l := []) HS.out⟩ ⟨Sep.start _⟩ HA2879).mono ?_
          rintro e_ w2880 ⟨rfl, hS⟩
          replace HS : Aside0 (Sep FF w [b7 g2791 g2793 a2801 a2802 a2803 a2804, b6 g2793 A2796 l2795.length n2798 t2827.2.2.2, r5 A2796 l2795.length n2798 l2795, b16 g2824 0 0] w2880) := ⟨HS.out.call hS⟩
          clear hS
          by_cases c2881 : t2878.2.2 = 0
          · replace H := if_yes c2881 H
            have c2881b0 : (t2878.2.2 == 0) = true := beq_iff_eq.mpr c2881
            have c2881b1 : (t2878.2.2 != 0) = false := bne_eq_false_iff_eq.mpr c2881
            clear c2881
            by_cases c2882 : t2878.1 < 0
            · replace H := if_yes c2882 H
              have c2882b0 : decide (t2878.1 < 0) = true := decide_eq_true c2882
              clear c2882
              have hc2883 : w2880.cell? ⟨g2824, 0, none⟩ = some (.int .i64 0) := blk_cellv (HS.out.at3) 0 rfl
              have hz2884 : w2880.frozen? ⟨g2824, 0, none⟩ = false := blk_fz (HS.out.at3) 0
              have hc2885 : w2880.cell? ⟨g2824, 1, none⟩ = some (.int .i64 0) := blk_cellv (HS.out.at3) 1 rfl
              have hz2886 : w2880.frozen? ⟨g2824, 1, none⟩ = false := blk_fz (HS.out.at3) 1
              go_wp2_with (first | ((with_reducible refine gate_store (t := 142) (p := 8) rfl ?_); refine store_event (w1 := (World.setCell (World.setCell w2880 ⟨g2824, 0, none⟩ (.int .i64 (wrap64 (a2805 - 1)))) ⟨g2824, 1, none⟩ (.int .i64 t2878.2.1))) rfl (t := 142) (p := 8) rfl rfl ?hr ?_; (case hr => first | (go_simp; done) | (go_simp; rfl)); intro w2887 hst; clear hc2883 hz2884 hc2885 hz2886; have hq0 : Sep FF w [b7 g2791 g2793 a2801 a2802 a2803 a2804, b6 g2793 A2796 l2795.length n2798 t2827.2.2.2, r5 A2796 l2795.length n2798 l2795, b16 g2824 (wrap64 (a2805 - 1)) 0] (World.setCell w2880 ⟨g2824, 0, none⟩ (.int .i64 (wrap64 (a2805 - 1)))) := (HS.out).set1 (l1 := [b7 g2791 g2793 a2801 a2802 a2803 a2804, b6 g2793 A2796 l2795.length n2798 t2827.2.2.2, r5 A2796 l2795.length n2798 l2795]) (l2 := []) 0 (.int .i64 (wrap64 (a2805 - 1))); have hq1 : Sep FF w [b7 g2791 g2793 a2801 a2802 a2803 a2804, b6 g2793 A2796 l2795.length n2798 t2827.2.2.2, r5 A2796 l2795.length n2798 l2795, b16 g2824 (wrap64 (a2805 - 1)) t2878.2.1] (World.setCell (World.setCell w2880 ⟨g2824, 0, none⟩ (.int .i64 (wrap64 (a2805 - 1)))) ⟨g2824, 1, none⟩ (.int .i64 t2878.2.1)) := (hq0).set1 (l1 := [b7 g2791 g2793 a2801 a2802 a2803 a2804, b6 g2793 A2796 l2795.length n2798 t2827.2.2.2, r5 A2796 l2795.length n2798 l2795]) (l2 := []) 1 (.int .i64 t2878.2.1); replace HS : Aside0 (Sep FF w [b7 g2791 g2793 a2801 a2802 a2803 a2804, b6 g2793 A2796 l2795.length n2798 t2827.2.2.2, r5 A2796 l2795.length n2798 l2795, b16 g2824 (wrap64 (a2805 - 1)) t2878.2.1] w2887) := ⟨by rw [hst]; exact hq1⟩; clear hq0 hq1; clear hst))
              have hc2888 : w2887.cell? ⟨g2824, 0, none⟩ = some (.int .i64 (wrap64 (a2805 - 1))) := blk_cellv (HS.out.at3) 0 rfl
              have hc2889 : w2887.cell? ⟨g2824, 1, none⟩ = some (.int .i64 t2878.2.1) := blk_cellv (HS.out.at3) 1 rfl
              refine bodyPost_ret (v := .tuple #[.agg #[.int .i64 (wrap64 (a2805 - 1)), .int .i64 t2878.2.1], .int .i64 0]) (by simp [results, Tryd.results116, go_sem, hc2888, hc2889]) rfl ?_
              rw [← some_eq H]
              exact ⟨(by first | rfl | (simp [IntKind.wrap_u32]; done)), HS.out.sub (.cons_cons _ (.cons_cons _ (.cons_cons _ (.cons _ .slnil))))⟩
            · replace H := if_no c2882 H
              have c2882b0 : decide (t2878.1 < 0) = false := decide_eq_false c2882
              clear c2882
              go_wp2_with fail
              obtain ⟨t2890, HA2891, H⟩ := bind_some H
              refine (ground_Ground_Word.calls l2795 t2827.2.2.2 a2801 a2802 a2803 a2804 (wrap64 (a2805 - 1)) (wrap64 (8 + t2878.1)) g2791 g2793 A2796 l2795.length n2798 t2890 _ ⟨HGl0.out.pass HS.out⟩ ⟨HS.out.begin⟩ HA2891).mono ?_
              rintro e_ w2892 ⟨rfl, hS⟩
              replace HS : Aside0 (Sep FF w [b7 g2791 g2793 a2801 a2802 a2803 a2804, b6 g2793 A2796 l2795.length n2798 t2890.2, r5 A2796 l2795.length n2798 l2795, b16 g2824 0 0] w2892) := ⟨HS.out.call hS⟩
              clear hS
              by_cases c2893 : (wrap64 (t2890.1)) = 0
              · replace H := if_yes c2893 H
                have c2893b0 : ((wrap64 (t2890.1)) == 0) = true := beq_iff_eq.mpr c2893
                have c2893b1 : ((wrap64 (t2890.1)) != 0) = false := bne_eq_false_iff_eq.mpr c2893
                clear c2893
                have hc2894 : w2892.cell? ⟨g2824, 0, none⟩ = some (.int .i64 0) := blk_cellv (HS.out.at3) 0 rfl
                have hz2895 : w2892.frozen? ⟨g2824, 0, none⟩ = false := blk_fz (HS.out.at3) 0
                have hc2896 : w2892.cell? ⟨g2824, 1, none⟩ = some (.int .i64 0) := blk_cellv (HS.out.at3) 1 rfl
                have hz2897 : w2892.frozen? ⟨g2824, 1, none⟩ = false := blk_fz (HS.out.at3) 1
                go_wp2_with (first | ((with_reducible refine gate_store (t := 142) (p := 8) rfl ?_); refine store_event (w1 := (World.setCell (World.setCell w2892 ⟨g2824, 0, none⟩ (.int .i64 0)) ⟨g2824, 1, none⟩ (.int .i64 0))) rfl (t := 142) (p := 8) rfl rfl ?hr ?_; (case hr => first | (go_simp; done) | (go_simp; rfl)); intro w2898 hst; clear hc2894 hz2895 hc2896 hz2897; have hq0 : Sep FF w [b7 g2791 g2793 a2801 a2802 a2803 a2804, b6 g2793 A2796 l2795.length n2798 t2890.2, r5 A2796 l2795.length n2798 l2795, b16 g2824 0 0] (World.setCell w2892 ⟨g2824, 0, none⟩ (.int .i64 0)) := (HS.out).set1 (l1 := [b7 g2791 g2793 a2801 a2802 a2803 a2804, b6 g2793 A2796 l2795.length n2798 t2890.2, r5 A2796 l2795.length n2798 l2795]) (l2 := []) 0 (.int .i64 0); have hq1 : Sep FF w [b7 g2791 g2793 a2801 a2802 a2803 a2804, b6 g2793 A2796 l2795.length n2798 t2890.2, r5 A2796 l2795.length n2798 l2795, b16 g2824 0 0] (World.setCell (World.setCell w2892 ⟨g2824, 0, none⟩ (.int .i64 0)) ⟨g2824, 1, none⟩ (.int .i64 0)) := (hq0).set1 (l1 := [b7 g2791 g2793 a2801 a2802 a2803 a2804, b6 g2793 A2796 l2795.length n2798 t2890.2, r5 A2796 l2795.length n2798 l2795]) (l2 := []) 1 (.int .i64 0); replace HS : Aside0 (Sep FF w [b7 g2791 g2793 a2801 a2802 a2803 a2804, b6 g2793 A2796 l2795.length n2798 t2890.2, r5 A2796 l2795.length n2798 l2795, b16 g2824 0 0] w2898) := ⟨by rw [hst]; exact hq1⟩; clear hq0 hq1; clear hst))
                have hc2899 : w2898.cell? ⟨g2824, 0, none⟩ = some (.int .i64 0) := blk_cellv (HS.out.at3) 0 rfl
                have hc2900 : w2898.cell? ⟨g2824, 1, none⟩ = some (.int .i64 0) := blk_cellv (HS.out.at3) 1 rfl
                refine bodyPost_ret (v := .tuple #[.agg #[.int .i64 0, .int .i64 0], .int .i64 7]) (by simp [results, Tryd.results116, go_sem, hc2899, hc2900]) rfl ?_
                rw [← some_eq H]
                exact ⟨(by first | rfl | (simp [IntKind.wrap_u32]; done)), HS.out.sub (.cons_cons _ (.cons_cons _ (.cons_cons _ (.cons _ .slnil))))⟩
              · replace H := if_no c2893 H
                have c2893b0 : ((wrap64 (t2890.1)) == 0) = false := beq_eq_false_iff_ne.mpr c2893
                have c2893b1 : ((wrap64 (t2890.1)) != 0) = true := bne_iff_ne.mpr c2893
                clear c2893
                have hc2901 : w2892.cell? ⟨g2824, 0, none⟩ = some (.int .i64 0) := blk_cellv (HS.out.at3) 0 rfl
                have hz2902 : w2892.frozen? ⟨g2824, 0, none⟩ = false := blk_fz (HS.out.at3) 0
                have hc2903 : w2892.cell? ⟨g2824, 1, none⟩ = some (.int .i64 0) := blk_cellv (HS.out.at3) 1 rfl
                have hz2904 : w2892.frozen? ⟨g2824, 1, none⟩ = false := blk_fz (HS.out.at3) 1
                go_wp2_with (first | ((with_reducible refine gate_store (t := 142) (p := 8) rfl ?_); refine store_event (w1 := (World.setCell (World.setCell w2892 ⟨g2824, 0, none⟩ (.int .i64 (wrap64 ((wrap64 (t2890.1)) - 1)))) ⟨g2824, 1, none⟩ (.int .i64 t2878.2.1))) rfl (t := 142) (p := 8) rfl rfl ?hr ?_; (case hr => first | (go_simp; done) | (go_simp; rfl)); intro w2905 hst; clear hc2901 hz2902 hc2903 hz2904; have hq0 : Sep FF w [b7 g2791 g2793 a2801 a2802 a2803 a2804, b6 g2793 A2796 l2795.length n2798 t2890.2, r5 A2796 l2795.length n2798 l2795, b16 g2824 (wrap64 ((wrap64 (t2890.1)) - 1)) 0] (World.setCell w2892 ⟨g2824, 0, none⟩ (.int .i64 (wrap64 ((wrap64 (t2890.1)) - 1)))) := (HS.out).set1 (l1 := [b7 g2791 g2793 a2801 a2802 a2803 a2804, b6 g2793 A2796 l2795.length n2798 t2890.2, r5 A2796 l2795.length n2798 l2795]) (l2 := []) 0 (.int .i64 (wrap64 ((wrap64 (t2890.1)) - 1))); have hq1 : Sep FF w [b7 g2791 g2793 a2801 a2802 a2803 a2804, b6 g2793 A2796 l2795.length n2798 t2890.2, r5 A2796 l2795.length n2798 l2795, b16 g2824 (wrap64 ((wrap64 (t2890.1)) - 1)) t2878.2.1] (World.setCell (World.setCell w2892 ⟨g2824, 0, none⟩ (.int .i64 (wrap64 ((wrap64 (t2890.1)) - 1)))) ⟨g2824, 1, none⟩ (.int .i64 t2878.2.1)) := (hq0).set1 (l1 := [b7 g2791 g2793 a2801 a2802 a2803 a2804, b6 g2793 A2796 l2795.length n2798 t2890.2, r5 A2796 l2795.length n2798 l2795]) (l2 := []) 1 (.int .i64 t2878.2.1); replace HS : Aside0 (Sep FF w [b7 g2791 g2793 a2801 a2802 a2803 a2804, b6 g2793 A2796 l2795.length n2798 t2890.2, r5 A2796 l2795.length n2798 l2795, b16 g2824 (wrap64 ((wrap64 (t2890.1)) - 1)) t2878.2.1] w2905) := ⟨by rw [hst]; exact hq1⟩; clear hq0 hq1; clear hst))
                have hc2906 : w2905.cell? ⟨g2824, 0, none⟩ = some (.int .i64 (wrap64 ((wrap64 (t2890.1)) - 1))) := blk_cellv (HS.out.at3) 0 rfl
                have hc2907 : w2905.cell? ⟨g2824, 1, none⟩ = some (.int .i64 t2878.2.1) := blk_cellv (HS.out.at3) 1 rfl
                refine bodyPost_ret (v := .tuple #[.agg #[.int .i64 (wrap64 ((wrap64 (t2890.1)) - 1)), .int .i64 t2878.2.1], .int .i64 0]) (by simp [results, Tryd.results116, go_sem, hc2906, hc2907]) rfl ?_
                rw [← some_eq H]
                exact ⟨(by first | rfl | (simp [IntKind.wrap_u32]; done)), HS.out.sub (.cons_cons _ (.cons_cons _ (.cons_cons _ (.cons _ .slnil))))⟩
          · replace H := if_no c2881 H
            have c2881b0 : (t2878.2.2 == 0) = false := beq_eq_false_iff_ne.mpr c2881
            have c2881b1 : (t2878.2.2 != 0) = true := bne_iff_ne.mpr c2881
            clear c2881
            have hc2908 : w2880.cell? ⟨g2824, 0, none⟩ = some (.int .i64 0) := blk_cellv (HS.out.at3) 0 rfl
            have hz2909 : w2880.frozen? ⟨g2824, 0, none⟩ = false := blk_fz (HS.out.at3) 0
            have hc2910 : w2880.cell? ⟨g2824, 1, none⟩ = some (.int .i64 0) := blk_cellv (HS.out.at3) 1 rfl
            have hz2911 : w2880.frozen? ⟨g2824, 1, none⟩ = false := blk_fz (HS.out.at3) 1
            go_wp2_with (first | ((with_reducible refine gate_store (t := 142) (p := 8) rfl ?_); refine store_event (w1 := (World.setCell (World.setCell w2880 ⟨g2824, 0, none⟩ (.int .i64 0)) ⟨g2824, 1, none⟩ (.int .i64 0))) rfl (t := 142) (p := 8) rfl rfl ?hr ?_; (case hr => first | (go_simp; done) | (go_simp; rfl)); intro w2912 hst; clear hc2908 hz2909 hc2910 hz2911; have hq0 : Sep FF w [b7 g2791 g2793 a2801 a2802 a2803 a2804, b6 g2793 A2796 l2795.length n2798 t2827.2.2.2, r5 A2796 l2795.length n2798 l2795, b16 g2824 0 0] (World.setCell w2880 ⟨g2824, 0, none⟩ (.int .i64 0)) := (HS.out).set1 (l1 := [b7 g2791 g2793 a2801 a2802 a2803 a2804, b6 g2793 A2796 l2795.length n2798 t2827.2.2.2, r5 A2796 l2795.length n2798 l2795]) (l2 := []) 0 (.int .i64 0); have hq1 : Sep FF w [b7 g2791 g2793 a2801 a2802 a2803 a2804, b6 g2793 A2796 l2795.length n2798 t2827.2.2.2, r5 A2796 l2795.length n2798 l2795, b16 g2824 0 0] (World.setCell (World.setCell w2880 ⟨g2824, 0, none⟩ (.int .i64 0)) ⟨g2824, 1, none⟩ (.int .i64 0)) := (hq0).set1 (l1 := [b7 g2791 g2793 a2801 a2802 a2803 a2804, b6 g2793 A2796 l2795.length n2798 t2827.2.2.2, r5 A2796 l2795.length n2798 l2795]) (l2 := []) 1 (.int .i64 0); replace HS : Aside0 (Sep FF w [b7 g2791 g2793 a2801 a2802 a2803 a2804, b6 g2793 A2796 l2795.length n2798 t2827.2.2.2, r5 A2796 l2795.length n2798 l2795, b16 g2824 0 0] w2912) := ⟨by rw [hst]; exact hq1⟩; clear hq0 hq1; clear hst))
            have hc2913 : w2912.cell? ⟨g2824, 0, none⟩ = some (.int .i64 0) := blk_cellv (HS.out.at3) 0 rfl
            have hc2914 : w2912.cell? ⟨g2824, 1, none⟩ = some (.int .i64 0) := blk_cellv (HS.out.at3) 1 rfl
            refine bodyPost_ret (v := .tuple #[.agg #[.int .i64 0, .int .i64 0], .int .i64 t2878.2.2]) (by simp [results, Tryd.results116, go_sem, hc2913, hc2914]) rfl ?_
            rw [← some_eq H]
            exact ⟨(by first | rfl | (simp [IntKind.wrap_u32]; done)), HS.out.sub (.cons_cons _ (.cons_cons _ (.cons_cons _ (.cons _ .slnil))))⟩
    · replace H := if_no c2831 H
      have c2831b0 : a2807 = false := by simpa using c2831
      have c2831b1 : (!a2807) = true := by rw [c2831b0]; rfl
      clear c2831
      by_cases c2915 : a2806 < 0
      · replace H := if_yes c2915 H
        have c2915b0 : decide (a2806 < 0) = true := decide_eq_true c2915
        clear c2915
        have hc2916 : w2829.cell? ⟨g2824, 0, none⟩ = some (.int .i64 0) := blk_cellv (HS.out.at3) 0 rfl
        have hz2917 : w2829.frozen? ⟨g2824, 0, none⟩ = false := blk_fz (HS.out.at3) 0
        have hc2918 : w2829.cell? ⟨g2824, 1, none⟩ = some (.int .i64 0) := blk_cellv (HS.out.at3) 1 rfl
        have hz2919 : w2829.frozen? ⟨g2824, 1, none⟩ = false := blk_fz (HS.out.at3) 1
        go_wp2_with (first | ((with_reducible refine gate_store (t := 142) (p := 8) rfl ?_); refine store_event (w1 := (World.setCell (World.setCell w2829 ⟨g2824, 0, none⟩ (.int .i64 0)) ⟨g2824, 1, none⟩ (.int .i64 0))) rfl (t := 142) (p := 8) rfl rfl ?hr ?_; (case hr => first | (go_simp; done) | (go_simp; rfl)); intro w2920 hst; clear hc2916 hz2917 hc2918 hz2919; have hq0 : Sep FF w [b7 g2791 g2793 a2801 a2802 a2803 a2804, b6 g2793 A2796 l2795.length n2798 t2827.2.2.2, r5 A2796 l2795.length n2798 l2795, b16 g2824 0 0] (World.setCell w2829 ⟨g2824, 0, none⟩ (.int .i64 0)) := (HS.out).set1 (l1 := [b7 g2791 g2793 a2801 a2802 a2803 a2804, b6 g2793 A2796 l2795.length n2798 t2827.2.2.2, r5 A2796 l2795.length n2798 l2795]) (l2 := []) 0 (.int .i64 0); have hq1 : Sep FF w [b7 g2791 g2793 a2801 a2802 a2803 a2804, b6 g2793 A2796 l2795.length n2798 t2827.2.2.2, r5 A2796 l2795.length n2798 l2795, b16 g2824 0 0] (World.setCell (World.setCell w2829 ⟨g2824, 0, none⟩ (.int .i64 0)) ⟨g2824, 1, none⟩ (.int .i64 0)) := (hq0).set1 (l1 := [b7 g2791 g2793 a2801 a2802 a2803 a2804, b6 g2793 A2796 l2795.length n2798 t2827.2.2.2, r5 A2796 l2795.length n2798 l2795]) (l2 := []) 1 (.int .i64 0); replace HS : Aside0 (Sep FF w [b7 g2791 g2793 a2801 a2802 a2803 a2804, b6 g2793 A2796 l2795.length n2798 t2827.2.2.2, r5 A2796 l2795.length n2798 l2795, b16 g2824 0 0] w2920) := ⟨by rw [hst]; exact hq1⟩; clear hq0 hq1; clear hst))
        have hc2921 : w2920.cell? ⟨g2824, 0, none⟩ = some (.int .i64 0) := blk_cellv (HS.out.at3) 0 rfl
        have hc2922 : w2920.cell? ⟨g2824, 1, none⟩ = some (.int .i64 0) := blk_cellv (HS.out.at3) 1 rfl
        refine bodyPost_ret (v := .tuple #[.agg #[.int .i64 0, .int .i64 0], .int .i64 7]) (by simp [results, Tryd.results116, go_sem, hc2921, hc2922]) rfl ?_
        rw [← some_eq H]
        exact ⟨(by first | rfl | (simp [IntKind.wrap_u32]; done)), HS.out.sub (.cons_cons _ (.cons_cons _ (.cons_cons _ (.cons _ .slnil))))⟩
      · replace H := if_no c2915 H
        have c2915b0 : decide (a2806 < 0) = false := decide_eq_false c2915
        clear c2915
        by_cases c2923 : a2806 ≥ t2827.1
        · replace H := if_yes c2923 H
          have c2923b0 : decide (t2827.1 ≤ a2806) = true := decide_eq_true c2923
          clear c2923
          have hc2924 : w2829.cell? ⟨g2824, 0, none⟩ = some (.int .i64 0) := blk_cellv (HS.out.at3) 0 rfl
          have hz2925 : w2829.frozen? ⟨g2824, 0, none⟩ = false := blk_fz (HS.out.at3) 0
          have hc2926 : w2829.cell? ⟨g2824, 1, none⟩ = some (.int .i64 0) := blk_cellv (HS.out.at3) 1 rfl
          have hz2927 : w2829.frozen? ⟨g2824, 1, none⟩ = false := blk_fz (HS.out.at3) 1
          go_wp2_with (first | ((with_reducible refine gate_store (t := 142) (p := 8) rfl ?_); refine store_event (w1 := (World.setCell (World.setCell w2829 ⟨g2824, 0, none⟩ (.int .i64 0)) ⟨g2824, 1, none⟩ (.int .i64 0))) rfl (t := 142) (p := 8) rfl rfl ?hr ?_; (case hr => first | (go_simp; done) | (go_simp; rfl)); intro w2928 hst; clear hc2924 hz2925 hc2926 hz2927; have hq0 : Sep FF w [b7 g2791 g2793 a2801 a2802 a2803 a2804, b6 g2793 A2796 l2795.length n2798 t2827.2.2.2, r5 A2796 l2795.length n2798 l2795, b16 g2824 0 0] (World.setCell w2829 ⟨g2824, 0, none⟩ (.int .i64 0)) := (HS.out).set1 (l1 := [b7 g2791 g2793 a2801 a2802 a2803 a2804, b6 g2793 A2796 l2795.length n2798 t2827.2.2.2, r5 A2796 l2795.length n2798 l2795]) (l2 := []) 0 (.int .i64 0); have hq1 : Sep FF w [b7 g2791 g2793 a2801 a2802 a2803 a2804, b6 g2793 A2796 l2795.length n2798 t2827.2.2.2, r5 A2796 l2795.length n2798 l2795, b16 g2824 0 0] (World.setCell (World.setCell w2829 ⟨g2824, 0, none⟩ (.int .i64 0)) ⟨g2824, 1, none⟩ (.int .i64 0)) := (hq0).set1 (l1 := [b7 g2791 g2793 a2801 a2802 a2803 a2804, b6 g2793 A2796 l2795.length n2798 t2827.2.2.2, r5 A2796 l2795.length n2798 l2795]) (l2 := []) 1 (.int .i64 0); replace HS : Aside0 (Sep FF w [b7 g2791 g2793 a2801 a2802 a2803 a2804, b6 g2793 A2796 l2795.length n2798 t2827.2.2.2, r5 A2796 l2795.length n2798 l2795, b16 g2824 0 0] w2928) := ⟨by rw [hst]; exact hq1⟩; clear hq0 hq1; clear hst))
          have hc2929 : w2928.cell? ⟨g2824, 0, none⟩ = some (.int .i64 0) := blk_cellv (HS.out.at3) 0 rfl
          have hc2930 : w2928.cell? ⟨g2824, 1, none⟩ = some (.int .i64 0) := blk_cellv (HS.out.at3) 1 rfl
          refine bodyPost_ret (v := .tuple #[.agg #[.int .i64 0, .int .i64 0], .int .i64 7]) (by simp [results, Tryd.results116, go_sem, hc2929, hc2930]) rfl ?_
          rw [← some_eq H]
          exact ⟨(by first | rfl | (simp [IntKind.wrap_u32]; done)), HS.out.sub (.cons_cons _ (.cons_cons _ (.cons_cons _ (.cons _ .slnil))))⟩
        · replace H := if_no c2923 H
          have c2923b0 : decide (t2827.1 ≤ a2806) = false := decide_eq_false c2923
          clear c2923
          go_wp2_with fail
          obtain ⟨t2848, HA2931, H⟩ := bind_some H
          refine (ground_Ground_Conf.calls l2795 t2827.2.2.2 a2801 a2802 a2803 a2804 g2791 g2793 A2796 l2795.length n2798 t2848 _ ⟨HGl0.out.pass HS.out⟩ ⟨HS.out.begin⟩ HA2931).mono ?_
          rintro e_ w2932 ⟨rfl, hS⟩
          replace HS : Aside0 (Sep FF w [b7 g2791 g2793 a2801 a2802 a2803 a2804, b6 g2793 A2796 l2795.length n2798 t2827.2.2.2, r5 A2796 l2795.length n2798 l2795, b16 g2824 0 0] w2932) := ⟨HS.out.call hS⟩
          clear hS
          have fl2933 : ∀ w, (Instr.field 30 (.agg #[.int .i64 t2848.1, .int .i64 t2848.2.1, .int .i64 t2848.2.2.1, .int .i64 t2848.2.2.2]) 1).run Tryd.prog w = .ok (.int .i64 t2848.2.1) w := fun _ => by kernel_rfl
          go_wp2_with fail
          clear fl2933
          obtain ⟨t2878, HA2934, H⟩ := bind_some H
          refine (shape_Place.calls _ t2848.2.1 (wrap64 (t2827.1 + t2827.2.1)) (wrap64 (a2806)) t2878 _ ⟨HGl0.out.pass (l := []) HS.out⟩ ⟨Sep.start _⟩ HA2934).mono ?_
          rintro e_ w2935 ⟨rfl, hS⟩
          replace HS : Aside0 (Sep FF w [b7 g2791 g2793 a2801 a2802 a2803 a2804, b6 g2793 A2796 l2795.length n2798 t2827.2.2.2, r5 A2796 l2795.length n2798 l2795, b16 g2824 0 0] w2935) := ⟨HS.out.call hS⟩
          clear hS
          by_cases c2936 : t2878.2.2 = 0
          · replace H := if_yes c2936 H
            have c2936b0 : (t2878.2.2 == 0) = true := beq_iff_eq.mpr c2936
            have c2936b1 : (t2878.2.2 != 0) = false := bne_eq_false_iff_eq.mpr c2936
            clear c2936
            by_cases c2937 : t2878.1 < 0
            · replace H := if_yes c2937 H
              have c2937b0 : decide (t2878.1 < 0) = true := decide_eq_true c2937
              clear c2937
              have hc2938 : w2935.cell? ⟨g2824, 0, none⟩ = some (.int .i64 0) := blk_cellv (HS.out.at3) 0 rfl
              have hz2939 : w2935.frozen? ⟨g2824, 0, none⟩ = false := blk_fz (HS.out.at3) 0
              have hc2940 : w2935.cell? ⟨g2824, 1, none⟩ = some (.int .i64 0) := blk_cellv (HS.out.at3) 1 rfl
              have hz2941 : w2935.frozen? ⟨g2824, 1, none⟩ = false := blk_fz (HS.out.at3) 1
              go_wp2_with (first | ((with_reducible refine gate_store (t := 142) (p := 8) rfl ?_); refine store_event (w1 := (World.setCell (World.setCell w2935 ⟨g2824, 0, none⟩ (.int .i64 (wrap64 (a2805 - 1)))) ⟨g2824, 1, none⟩ (.int .i64 t2878.2.1))) rfl (t := 142) (p := 8) rfl rfl ?hr ?_; (case hr => first | (go_simp; done) | (go_simp; rfl)); intro w2942 hst; clear hc2938 hz2939 hc2940 hz2941; have hq0 : Sep FF w [b7 g2791 g2793 a2801 a2802 a2803 a2804, b6 g2793 A2796 l2795.length n2798 t2827.2.2.2, r5 A2796 l2795.length n2798 l2795, b16 g2824 (wrap64 (a2805 - 1)) 0] (World.setCell w2935 ⟨g2824, 0, none⟩ (.int .i64 (wrap64 (a2805 - 1)))) := (HS.out).set1 (l1 := [b7 g2791 g2793 a2801 a2802 a2803 a2804, b6 g2793 A2796 l2795.length n2798 t2827.2.2.2, r5 A2796 l2795.length n2798 l2795]) (l2 := []) 0 (.int .i64 (wrap64 (a2805 - 1))); have hq1 : Sep FF w [b7 g2791 g2793 a2801 a2802 a2803 a2804, b6 g2793 A2796 l2795.length n2798 t2827.2.2.2, r5 A2796 l2795.length n2798 l2795, b16 g2824 (wrap64 (a2805 - 1)) t2878.2.1] (World.setCell (World.setCell w2935 ⟨g2824, 0, none⟩ (.int .i64 (wrap64 (a2805 - 1)))) ⟨g2824, 1, none⟩ (.int .i64 t2878.2.1)) := (hq0).set1 (l1 := [b7 g2791 g2793 a2801 a2802 a2803 a2804, b6 g2793 A2796 l2795.length n2798 t2827.2.2.2, r5 A2796 l2795.length n2798 l2795]) (l2 := []) 1 (.int .i64 t2878.2.1); replace HS : Aside0 (Sep FF w [b7 g2791 g2793 a2801 a2802 a2803 a2804, b6 g2793 A2796 l2795.length n2798 t2827.2.2.2, r5 A2796 l2795.length n2798 l2795, b16 g2824 (wrap64 (a2805 - 1)) t2878.2.1] w2942) := ⟨by rw [hst]; exact hq1⟩; clear hq0 hq1; clear hst))
              have hc2943 : w2942.cell? ⟨g2824, 0, none⟩ = some (.int .i64 (wrap64 (a2805 - 1))) := blk_cellv (HS.out.at3) 0 rfl
              have hc2944 : w2942.cell? ⟨g2824, 1, none⟩ = some (.int .i64 t2878.2.1) := blk_cellv (HS.out.at3) 1 rfl
              refine bodyPost_ret (v := .tuple #[.agg #[.int .i64 (wrap64 (a2805 - 1)), .int .i64 t2878.2.1], .int .i64 0]) (by simp [results, Tryd.results116, go_sem, hc2943, hc2944]) rfl ?_
              rw [← some_eq H]
              exact ⟨(by first | rfl | (simp [IntKind.wrap_u32]; done)), HS.out.sub (.cons_cons _ (.cons_cons _ (.cons_cons _ (.cons _ .slnil))))⟩
            · replace H := if_no c2937 H
              have c2937b0 : decide (t2878.1 < 0) = false := decide_eq_false c2937
              clear c2937
              go_wp2_with fail
              obtain ⟨t2890, HA2945, H⟩ := bind_some H
              refine (ground_Ground_Word.calls l2795 t2827.2.2.2 a2801 a2802 a2803 a2804 (wrap64 (a2805 - 1)) (wrap64 (8 + t2878.1)) g2791 g2793 A2796 l2795.length n2798 t2890 _ ⟨HGl0.out.pass HS.out⟩ ⟨HS.out.begin⟩ HA2945).mono ?_
              rintro e_ w2946 ⟨rfl, hS⟩
              replace HS : Aside0 (Sep FF w [b7 g2791 g2793 a2801 a2802 a2803 a2804, b6 g2793 A2796 l2795.length n2798 t2890.2, r5 A2796 l2795.length n2798 l2795, b16 g2824 0 0] w2946) := ⟨HS.out.call hS⟩
              clear hS
              by_cases c2947 : (wrap64 (t2890.1)) = 0
              · replace H := if_yes c2947 H
                have c2947b0 : ((wrap64 (t2890.1)) == 0) = true := beq_iff_eq.mpr c2947
                have c2947b1 : ((wrap64 (t2890.1)) != 0) = false := bne_eq_false_iff_eq.mpr c2947
                clear c2947
                have hc2948 : w2946.cell? ⟨g2824, 0, none⟩ = some (.int .i64 0) := blk_cellv (HS.out.at3) 0 rfl
                have hz2949 : w2946.frozen? ⟨g2824, 0, none⟩ = false := blk_fz (HS.out.at3) 0
                have hc2950 : w2946.cell? ⟨g2824, 1, none⟩ = some (.int .i64 0) := blk_cellv (HS.out.at3) 1 rfl
                have hz2951 : w2946.frozen? ⟨g2824, 1, none⟩ = false := blk_fz (HS.out.at3) 1
                go_wp2_with (first | ((with_reducible refine gate_store (t := 142) (p := 8) rfl ?_); refine store_event (w1 := (World.setCell (World.setCell w2946 ⟨g2824, 0, none⟩ (.int .i64 0)) ⟨g2824, 1, none⟩ (.int .i64 0))) rfl (t := 142) (p := 8) rfl rfl ?hr ?_; (case hr => first | (go_simp; done) | (go_simp; rfl)); intro w2952 hst; clear hc2948 hz2949 hc2950 hz2951; have hq0 : Sep FF w [b7 g2791 g2793 a2801 a2802 a2803 a2804, b6 g2793 A2796 l2795.length n2798 t2890.2, r5 A2796 l2795.length n2798 l2795, b16 g2824 0 0] (World.setCell w2946 ⟨g2824, 0, none⟩ (.int .i64 0)) := (HS.out).set1 (l1 := [b7 g2791 g2793 a2801 a2802 a2803 a2804, b6 g2793 A2796 l2795.length n2798 t2890.2, r5 A2796 l2795.length n2798 l2795]) (l2 := []) 0 (.int .i64 0); have hq1 : Sep FF w [b7 g2791 g2793 a2801 a2802 a2803 a2804, b6 g2793 A2796 l2795.length n2798 t2890.2, r5 A2796 l2795.length n2798 l2795, b16 g2824 0 0] (World.setCell (World.setCell w2946 ⟨g2824, 0, none⟩ (.int .i64 0)) ⟨g2824, 1, none⟩ (.int .i64 0)) := (hq0).set1 (l1 := [b7 g2791 g2793 a2801 a2802 a2803 a2804, b6 g2793 A2796 l2795.length n2798 t2890.2, r5 A2796 l2795.length n2798 l2795]) (l2 := []) 1 (.int .i64 0); replace HS : Aside0 (Sep FF w [b7 g2791 g2793 a2801 a2802 a2803 a2804, b6 g2793 A2796 l2795.length n2798 t2890.2, r5 A2796 l2795.length n2798 l2795, b16 g2824 0 0] w2952) := ⟨by rw [hst]; exact hq1⟩; clear hq0 hq1; clear hst))
                have hc2953 : w2952.cell? ⟨g2824, 0, none⟩ = some (.int .i64 0) := blk_cellv (HS.out.at3) 0 rfl
                have hc2954 : w2952.cell? ⟨g2824, 1, none⟩ = some (.int .i64 0) := blk_cellv (HS.out.at3) 1 rfl
                refine bodyPost_ret (v := .tuple #[.agg #[.int .i64 0, .int .i64 0], .int .i64 7]) (by simp [results, Tryd.results116, go_sem, hc2953, hc2954]) rfl ?_
                rw [← some_eq H]
                exact ⟨(by first | rfl | (simp [IntKind.wrap_u32]; done)), HS.out.sub (.cons_cons _ (.cons_cons _ (.cons_cons _ (.cons _ .slnil))))⟩
              · replace H := if_no c2947 H
                have c2947b0 : ((wrap64 (t2890.1)) == 0) = false := beq_eq_false_iff_ne.mpr c2947
                have c2947b1 : ((wrap64 (t2890.1)) != 0) = true := bne_iff_ne.mpr c2947
                clear c2947
                have hc2955 : w2946.cell? ⟨g2824, 0, none⟩ = some (.int .i64 0) := blk_cellv (HS.out.at3) 0 rfl
                have hz2956 : w2946.frozen? ⟨g2824, 0, none⟩ = false := blk_fz (HS.out.at3) 0
                have hc2957 : w2946.cell? ⟨g2824, 1, none⟩ = some (.int .i64 0) := blk_cellv (HS.out.at3) 1 rfl
                have hz2958 : w2946.frozen? ⟨g2824, 1, none⟩ = false := blk_fz (HS.out.at3) 1
                go_wp2_with (first | ((with_reducible refine gate_store (t := 142) (p := 8) rfl ?_); refine store_event (w1 := (World.setCell (World.setCell w2946 ⟨g2824, 0, none⟩ (.int .i64 (wrap64 ((wrap64 (t2890.1)) - 1)))) ⟨g2824, 1, none⟩ (.int .i64 t2878.2.1))) rfl (t := 142) (p := 8) rfl rfl ?hr ?_; (case hr => first | (go_simp; done) | (go_simp; rfl)); intro w2959 hst; clear hc2955 hz2956 hc2957 hz2958; have hq0 : Sep FF w [b7 g2791 g2793 a2801 a2802 a2803 a2804, b6 g2793 A2796 l2795.length n2798 t2890.2, r5 A2796 l2795.length n2798 l2795, b16 g2824 (wrap64 ((wrap64 (t2890.1)) - 1)) 0] (World.setCell w2946 ⟨g2824, 0, none⟩ (.int .i64 (wrap64 ((wrap64 (t2890.1)) - 1)))) := (HS.out).set1 (l1 := [b7 g2791 g2793 a2801 a2802 a2803 a2804, b6 g2793 A2796 l2795.length n2798 t2890.2, r5 A2796 l2795.length n2798 l2795]) (l2 := []) 0 (.int .i64 (wrap64 ((wrap64 (t2890.1)) - 1))); have hq1 : Sep FF w [b7 g2791 g2793 a2801 a2802 a2803 a2804, b6 g2793 A2796 l2795.length n2798 t2890.2, r5 A2796 l2795.length n2798 l2795, b16 g2824 (wrap64 ((wrap64 (t2890.1)) - 1)) t2878.2.1] (World.setCell (World.setCell w2946 ⟨g2824, 0, none⟩ (.int .i64 (wrap64 ((wrap64 (t2890.1)) - 1)))) ⟨g2824, 1, none⟩ (.int .i64 t2878.2.1)) := (hq0).set1 (l1 := [b7 g2791 g2793 a2801 a2802 a2803 a2804, b6 g2793 A2796 l2795.length n2798 t2890.2, r5 A2796 l2795.length n2798 l2795]) (l2 := []) 1 (.int .i64 t2878.2.1); replace HS : Aside0 (Sep FF w [b7 g2791 g2793 a2801 a2802 a2803 a2804, b6 g2793 A2796 l2795.length n2798 t2890.2, r5 A2796 l2795.length n2798 l2795, b16 g2824 (wrap64 ((wrap64 (t2890.1)) - 1)) t2878.2.1] w2959) := ⟨by rw [hst]; exact hq1⟩; clear hq0 hq1; clear hst))
                have hc2960 : w2959.cell? ⟨g2824, 0, none⟩ = some (.int .i64 (wrap64 ((wrap64 (t2890.1)) - 1))) := blk_cellv (HS.out.at3) 0 rfl
                have hc2961 : w2959.cell? ⟨g2824, 1, none⟩ = some (.int .i64 t2878.2.1) := blk_cellv (HS.out.at3) 1 rfl
                refine bodyPost_ret (v := .tuple #[.agg #[.int .i64 (wrap64 ((wrap64 (t2890.1)) - 1)), .int .i64 t2878.2.1], .int .i64 0]) (by simp [results, Tryd.results116, go_sem, hc2960, hc2961]) rfl ?_
                rw [← some_eq H]
                exact ⟨(by first | rfl | (simp [IntKind.wrap_u32]; done)), HS.out.sub (.cons_cons _ (.cons_cons _ (.cons_cons _ (.cons _ .slnil))))⟩
          · replace H := if_no c2936 H
            have c2936b0 : (t2878.2.2 == 0) = false := beq_eq_false_iff_ne.mpr c2936
            have c2936b1 : (t2878.2.2 != 0) = true := bne_iff_ne.mpr c2936
            clear c2936
            have hc2962 : w2935.cell? ⟨g2824, 0, none⟩ = some (.int .i64 0) := blk_cellv (HS.out.at3) 0 rfl
            have hz2963 : w2935.frozen? ⟨g2824, 0, none⟩ = false := blk_fz (HS.out.at3) 0
            have hc2964 : w2935.cell? ⟨g2824, 1, none⟩ = some (.int .i64 0) := blk_cellv (HS.out.at3) 1 rfl
            have hz2965 : w2935.frozen? ⟨g2824, 1, none⟩ = false := blk_fz (HS.out.at3) 1
            go_wp2_with (first | ((with_reducible refine gate_store (t := 142) (p := 8) rfl ?_); refine store_event (w1 := (World.setCell (World.setCell w2935 ⟨g2824, 0, none⟩ (.int .i64 0)) ⟨g2824, 1, none⟩ (.int .i64 0))) rfl (t := 142) (p := 8) rfl rfl ?hr ?_; (case hr => first | (go_simp; done) | (go_simp; rfl)); intro w2966 hst; clear hc2962 hz2963 hc2964 hz2965; have hq0 : Sep FF w [b7 g2791 g2793 a2801 a2802 a2803 a2804, b6 g2793 A2796 l2795.length n2798 t2827.2.2.2, r5 A2796 l2795.length n2798 l2795, b16 g2824 0 0] (World.setCell w2935 ⟨g2824, 0, none⟩ (.int .i64 0)) := (HS.out).set1 (l1 := [b7 g2791 g2793 a2801 a2802 a2803 a2804, b6 g2793 A2796 l2795.length n2798 t2827.2.2.2, r5 A2796 l2795.length n2798 l2795]) (l2 := []) 0 (.int .i64 0); have hq1 : Sep FF w [b7 g2791 g2793 a2801 a2802 a2803 a2804, b6 g2793 A2796 l2795.length n2798 t2827.2.2.2, r5 A2796 l2795.length n2798 l2795, b16 g2824 0 0] (World.setCell (World.setCell w2935 ⟨g2824, 0, none⟩ (.int .i64 0)) ⟨g2824, 1, none⟩ (.int .i64 0)) := (hq0).set1 (l1 := [b7 g2791 g2793 a2801 a2802 a2803 a2804, b6 g2793 A2796 l2795.length n2798 t2827.2.2.2, r5 A2796 l2795.length n2798 l2795]) (l2 := []) 1 (.int .i64 0); replace HS : Aside0 (Sep FF w [b7 g2791 g2793 a2801 a2802 a2803 a2804, b6 g2793 A2796 l2795.length n2798 t2827.2.2.2, r5 A2796 l2795.length n2798 l2795, b16 g2824 0 0] w2966) := ⟨by rw [hst]; exact hq1⟩; clear hq0 hq1; clear hst))
            have hc2967 : w2966.cell? ⟨g2824, 0, none⟩ = some (.int .i64 0) := blk_cellv (HS.out.at3) 0 rfl
            have hc2968 : w2966.cell? ⟨g2824, 1, none⟩ = some (.int .i64 0) := blk_cellv (HS.out.at3) 1 rfl
            refine bodyPost_ret (v := .tuple #[.agg #[.int .i64 0, .int .i64 0], .int .i64 t2878.2.2]) (by simp [results, Tryd.results116, go_sem, hc2967, hc2968]) rfl ?_
            rw [← some_eq H]
            exact ⟨(by first | rfl | (simp [IntKind.wrap_u32]; done)), HS.out.sub (.cons_cons _ (.cons_cons _ (.cons_cons _ (.cons _ .slnil))))⟩
  · replace H := if_no c2830 H
    have c2830b0 : (t2827.2.2.1 == 0) = false := beq_eq_false_iff_ne.mpr c2830
    have c2830b1 : (t2827.2.2.1 != 0) = true := bne_iff_ne.mpr c2830
    clear c2830
    have hc2969 : w2829.cell? ⟨g2824, 0, none⟩ = some (.int .i64 0) := blk_cellv (HS.out.at3) 0 rfl
    have hz2970 : w2829.frozen? ⟨g2824, 0, none⟩ = false := blk_fz (HS.out.at3) 0
    have hc2971 : w2829.cell? ⟨g2824, 1, none⟩ = some (.int .i64 0) := blk_cellv (HS.out.at3) 1 rfl
    have hz2972 : w2829.frozen? ⟨g2824, 1, none⟩ = false := blk_fz (HS.out.at3) 1
    go_wp2_with (first | ((with_reducible refine gate_store (t := 142) (p := 8) rfl ?_); refine store_event (w1 := (World.setCell (World.setCell w2829 ⟨g2824, 0, none⟩ (.int .i64 0)) ⟨g2824, 1, none⟩ (.int .i64 0))) rfl (t := 142) (p := 8) rfl rfl ?hr ?_; (case hr => first | (go_simp; done) | (go_simp; rfl)); intro w2973 hst; clear hc2969 hz2970 hc2971 hz2972; have hq0 : Sep FF w [b7 g2791 g2793 a2801 a2802 a2803 a2804, b6 g2793 A2796 l2795.length n2798 t2827.2.2.2, r5 A2796 l2795.length n2798 l2795, b16 g2824 0 0] (World.setCell w2829 ⟨g2824, 0, none⟩ (.int .i64 0)) := (HS.out).set1 (l1 := [b7 g2791 g2793 a2801 a2802 a2803 a2804, b6 g2793 A2796 l2795.length n2798 t2827.2.2.2, r5 A2796 l2795.length n2798 l2795]) (l2 := []) 0 (.int .i64 0); have hq1 : Sep FF w [b7 g2791 g2793 a2801 a2802 a2803 a2804, b6 g2793 A2796 l2795.length n2798 t2827.2.2.2, r5 A2796 l2795.length n2798 l2795, b16 g2824 0 0] (World.setCell (World.setCell w2829 ⟨g2824, 0, none⟩ (.int .i64 0)) ⟨g2824, 1, none⟩ (.int .i64 0)) := (hq0).set1 (l1 := [b7 g2791 g2793 a2801 a2802 a2803 a2804, b6 g2793 A2796 l2795.length n2798 t2827.2.2.2, r5 A2796 l2795.length n2798 l2795]) (l2 := []) 1 (.int .i64 0); replace HS : Aside0 (Sep FF w [b7 g2791 g2793 a2801 a2802 a2803 a2804, b6 g2793 A2796 l2795.length n2798 t2827.2.2.2, r5 A2796 l2795.length n2798 l2795, b16 g2824 0 0] w2973) := ⟨by rw [hst]; exact hq1⟩; clear hq0 hq1; clear hst))
    have hc2974 : w2973.cell? ⟨g2824, 0, none⟩ = some (.int .i64 0) := blk_cellv (HS.out.at3) 0 rfl
    have hc2975 : w2973.cell? ⟨g2824, 1, none⟩ = some (.int .i64 0) := blk_cellv (HS.out.at3) 1 rfl
    refine bodyPost_ret (v := .tuple #[.agg #[.int .i64 0, .int .i64 0], .int .i64 t2827.2.2.1]) (by simp [results, Tryd.results116, go_sem, hc2974, hc2975]) rfl ?_
    rw [← some_eq H]
    exact ⟨(by first | rfl | (simp [IntKind.wrap_u32]; done)), HS.out.sub (.cons_cons _ (.cons_cons _ (.cons_cons _ (.cons _ .slnil))))⟩

set_option maxHeartbeats 30000000 in
set_option maxRecDepth 100000 in
theorem obj_SetPtr.calls (k : Nat) (l2777 : List Int) (a2782 : Int) (a2783 : Int) (a2784 : Int) (a2785 : Int) (a2786 : Int) (a2787 : Int) (a2788 : Int) (a2789 : Int) (g2773 : Nat) (g2775 : Nat) (A2778 : Option Addr) (m2779 : Nat) (n2780 : Nat) (r : Int × Int × List Int) (w : World)  (HGl0 : Aside0 (Gl 0 #[.int .i64 0, .int .i64 0, .int .i64 0, .int .i64 0, .int .i64 0] (fps [b7 g2773 g2775 a2783 a2784 a2785 a2786, b6 g2775 A2778 m2779 n2780 a2782, r5 A2778 m2779 n2780 l2777]) w)) (HS : Aside0 (Sep (fps [b7 g2773 g2775 a2783 a2784 a2785 a2786, b6 g2775 A2778 m2779 n2780 a2782, r5 A2778 m2779 n2780 l2777]) w [b7 g2773 g2775 a2783 a2784 a2785 a2786, b6 g2775 A2778 m2779 n2780 a2782, r5 A2778 m2779 n2780 l2777] w)) (H : Aside0 (obj_SetPtr.f k l2777 a2782 a2783 a2784 a2785 a2786 a2787 a2788 a2789 = some r)) :
    Calls Tryd.prog 58 #[.pointer (some ⟨g2773, 0, none⟩), .int .i64 a2787, .int .i64 a2788, .int .i64 a2789] w fun e w' => e = .returned (.int .i64 r.1) ∧ Sep (fps [b7 g2773 g2775 a2783 a2784 a2785 a2786, b6 g2775 A2778 m2779 n2780 a2782, r5 A2778 m2779 n2780 l2777]) w [b7 g2773 g2775 a2783 a2784 a2785 a2786, b6 g2775 A2778 m2779 n2780 r.2.1, r5 A2778 m2779 n2780 r.2.2] w' := by
  generalize (fps [b7 g2773 g2775 a2783 a2784 a2785 a2786, b6 g2775 A2778 m2779 n2780 a2782, r5 A2778 m2779 n2780 l2777]) = FF at HS HGl0 ⊢
  obtain rfl := (row_len (HS.out.at2)).symm
  unfold obj_SetPtr.f at H
  go_enter Tryd.func58, Tryd.ntmps58
  go_wp2_with fail
  obtain ⟨t3012, HA3013, H⟩ := bind_some H
  refine (obj_field.calls _ l2777 a2782 a2783 a2784 a2785 a2786 a2787 a2788 false g2773 g2775 A2778 l2777.length n2780 t3012 _ ⟨HGl0.out.pass HS.out⟩ ⟨HS.out.begin⟩ HA3013).mono ?_
  rintro e_ w3014 ⟨rfl, hS⟩
  replace HS : Aside0 (Sep FF w [b7 g2773 g2775 a2783 a2784 a2785 a2786, b6 g2775 A2778 l2777.length n2780 t3012.2.2.2, r5 A2778 l2777.length n2780 l2777] w3014) := ⟨HS.out.call hS⟩
  clear hS
  by_cases c3023 : t3012.2.2.1 = 0
  · replace H := if_yes c3023 H
    have c3023b0 : (t3012.2.2.1 == 0) = true := beq_iff_eq.mpr c3023
    have c3023b1 : (t3012.2.2.1 != 0) = false := bne_eq_false_iff_eq.mpr c3023
    clear c3023
    by_cases c3024 : a2789 < 0
    · replace H := if_yes c3024 H
      have c3024b0 : decide (a2789 < 0) = true := decide_eq_true c3024
      clear c3024
      go_wp2_with (first | ((with_reducible refine gate_dst (N := 9) rfl ?_); refine box_on ?hg (N := 9) ?hd (cs := #[.int .i64 0, .int .i64 0]) (t := 142) ?hr ?_; (case hd => rfl); (case hg => rfl); (case hr => first | (go_simp; done) | (go_simp; rfl)); intro g3015 hg w3016 hbox hb; replace HS : Aside0 (Sep FF w [b7 g2773 g2775 a2783 a2784 a2785 a2786, b6 g2775 A2778 l2777.length n2780 t3012.2.2.2, r5 A2778 l2777.length n2780 l2777, b16 g3015 0 0] w3016) := ⟨HS.out.box hg hbox hb⟩; clear hg hbox hb; have hc3018 : w3016.cell? ⟨g3015, 0, none⟩ = some (.int .i64 0) := blk_cellv (HS.out.at3) 0 rfl; have hz3019 : w3016.frozen? ⟨g3015, 0, none⟩ = false := blk_fz (HS.out.at3) 0; have hc3020 : w3016.cell? ⟨g3015, 1, none⟩ = some (.int .i64 0) := blk_cellv (HS.out.at3) 1 rfl; have hz3021 : w3016.frozen? ⟨g3015, 1, none⟩ = false := blk_fz (HS.out.at3) 1) | ((with_reducible refine gate_store (t := 142) (p := 9) rfl ?_); refine store_event (w1 := (World.setCell (World.setCell w3016 ⟨g3015, 0, none⟩ (.int .i64 t3012.1)) ⟨g3015, 1, none⟩ (.int .i64 t3012.2.1))) rfl (t := 142) (p := 9) rfl rfl ?hr ?_; (case hr => first | (go_simp; done) | (go_simp; rfl)); intro w3022 hst; clear hc3018 hz3019 hc3020 hz3021; have hq0 : Sep FF w [b7 g2773 g2775 a2783 a2784 a2785 a2786, b6 g2775 A2778 l2777.length n2780 t3012.2.2.2, r5 A2778 l2777.length n2780 l2777, b16 g3015 t3012.1 0] (World.setCell w3016 ⟨g3015, 0, none⟩ (.int .i64 t3012.1)) := (HS.out).set1 (l1 := [b7 g2773 g2775 a2783 a2784 a2785 a2786, b6 g2775 A2778 l2777.length n2780 t3012.2.2.2, r5 A2778 l2777.length n2780 l2777]) (l2 := []) 0 (.int .i64 t3012.1); have hq1 : Sep FF w [b7 g2773 g2775 a2783 a2784 a2785 a2786, b6 g2775 A2778 l2777.length n2780 t3012.2.2.2, r5 A2778 l2777.length n2780 l2777, b16 g3015 t3012.1 t3012.2.1] (World.setCell (World.setCell w3016 ⟨g3015, 0, none⟩ (.int .i64 t3012.1)) ⟨g3015, 1, none⟩ (.int .i64 t3012.2.1)) := (hq0).set1 (l1 := [b7 g2773 g2775 a2783 a2784 a2785 a2786, b6 g2775 A2778 l2777.length n2780 t3012.2.2.2, r5 A2778 l2777.length n2780 l2777]) (l2 := []) 1 (.int .i64 t3012.2.1); replace HS : Aside0 (Sep FF w [b7 g2773 g2775 a2783 a2784 a2785 a2786, b6 g2775 A2778 l2777.length n2780 t3012.2.2.2, r5 A2778 l2777.length n2780 l2777, b16 g3015 t3012.1 t3012.2.1] w3022) := ⟨by rw [hst]; exact hq1⟩; clear hq0 hq1; clear hst; replace HS : Aside0 (Sep FF w [b7 g2773 g2775 a2783 a2784 a2785 a2786, b6 g2775 A2778 l2777.length n2780 t3012.2.2.2, r5 A2778 l2777.length n2780 l2777] w3022) := ⟨HS.out.sub (.cons_cons _ (.cons_cons _ (.cons_cons _ (.cons _ .slnil))))⟩))
      go_ret
      rw [← some_eq H]
      exact ⟨(by first | rfl | (simp [IntKind.wrap_u32]; done)), HS.out⟩
    · replace H := if_no c3024 H
      have c3024b0 : decide (a2789 < 0) = false := decide_eq_false c3024
      clear c3024
      go_wp2_with (first | ((with_reducible refine gate_dst (N := 9) rfl ?_); refine box_on ?hg (N := 9) ?hd (cs := #[.int .i64 0, .int .i64 0]) (t := 142) ?hr ?_; (case hd => rfl); (case hg => rfl); (case hr => first | (go_simp; done) | (go_simp; rfl)); intro g3015 hg w3016 hbox hb; replace HS : Aside0 (Sep FF w [b7 g2773 g2775 a2783 a2784 a2785 a2786, b6 g2775 A2778 l2777.length n2780 t3012.2.2.2, r5 A2778 l2777.length n2780 l2777, b16 g3015 0 0] w3016) := ⟨HS.out.box hg hbox hb⟩; clear hg hbox hb; have hc3018 : w3016.cell? ⟨g3015, 0, none⟩ = some (.int .i64 0) := blk_cellv (HS.out.at3) 0 rfl; have hz3019 : w3016.frozen? ⟨g3015, 0, none⟩ = false := blk_fz (HS.out.at3) 0; have hc3020 : w3016.cell? ⟨g3015, 1, none⟩ = some (.int .i64 0) := blk_cellv (HS.out.at3) 1 rfl; have hz3021 : w3016.frozen? ⟨g3015, 1, none⟩ = false := blk_fz (HS.out.at3) 1) | ((with_reducible refine gate_store (t := 142) (p := 9) rfl ?_); refine store_event (w1 := (World.setCell (World.setCell w3016 ⟨g3015, 0, none⟩ (.int .i64 t3012.1)) ⟨g3015, 1, none⟩ (.int .i64 t3012.2.1))) rfl (t := 142) (p := 9) rfl rfl ?hr ?_; (case hr => first | (go_simp; done) | (go_simp; rfl)); intro w3022 hst; clear hc3018 hz3019 hc3020 hz3021; have hq0 : Sep FF w [b7 g2773 g2775 a2783 a2784 a2785 a2786, b6 g2775 A2778 l2777.length n2780 t3012.2.2.2, r5 A2778 l2777.length n2780 l2777, b16 g3015 t3012.1 0] (World.setCell w3016 ⟨g3015, 0, none⟩ (.int .i64 t3012.1)) := (HS.out).set1 (l1 := [b7 g2773 g2775 a2783 a2784 a2785 a2786, b6 g2775 A2778 l2777.length n2780 t3012.2.2.2, r5 A2778 l2777.length n2780 l2777]) (l2 := []) 0 (.int .i64 t3012.1); have hq1 : Sep FF w [b7 g2773 g2775 a2783 a2784 a2785 a2786, b6 g2775 A2778 l2777.length n2780 t3012.2.2.2, r5 A2778 l2777.length n2780 l2777, b16 g3015 t3012.1 t3012.2.1] (World.setCell (World.setCell w3016 ⟨g3015, 0, none⟩ (.int .i64 t3012.1)) ⟨g3015, 1, none⟩ (.int .i64 t3012.2.1)) := (hq0).set1 (l1 := [b7 g2773 g2775 a2783 a2784 a2785 a2786, b6 g2775 A2778 l2777.length n2780 t3012.2.2.2, r5 A2778 l2777.length n2780 l2777]) (l2 := []) 1 (.int .i64 t3012.2.1); replace HS : Aside0 (Sep FF w [b7 g2773 g2775 a2783 a2784 a2785 a2786, b6 g2775 A2778 l2777.length n2780 t3012.2.2.2, r5 A2778 l2777.length n2780 l2777, b16 g3015 t3012.1 t3012.2.1] w3022) := ⟨by rw [hst]; exact hq1⟩; clear hq0 hq1; clear hst))
      obtain ⟨t3025, HA3026, H⟩ := bind_some H
      refine (ground_Ground_Conf.calls l2777 t3012.2.2.2 a2783 a2784 a2785 a2786 g2773 g2775 A2778 l2777.length n2780 t3025 _ ⟨HGl0.out.pass HS.out⟩ ⟨HS.out.begin⟩ HA3026).mono ?_
      rintro e_ w3027 ⟨rfl, hS⟩
      replace HS : Aside0 (Sep FF w [b7 g2773 g2775 a2783 a2784 a2785 a2786, b6 g2775 A2778 l2777.length n2780 t3012.2.2.2, r5 A2778 l2777.length n2780 l2777, b16 g3015 t3012.1 t3012.2.1] w3027) := ⟨HS.out.call hS⟩
      clear hS
      by_cases c3029 : a2789 > t3025.1
      · replace H := if_yes c3029 H
        have c3029b0 : decide (t3025.1 < a2789) = true := decide_eq_true c3029
        clear c3029
        have fl3028 : ∀ w, (Instr.field 30 (.agg #[.int .i64 t3025.1, .int .i64 t3025.2.1, .int .i64 t3025.2.2.1, .int .i64 t3025.2.2.2]) 0).run Tryd.prog w = .ok (.int .i64 t3025.1) w := fun _ => by kernel_rfl
        replace HS : Aside0 (Sep FF w [b7 g2773 g2775 a2783 a2784 a2785 a2786, b6 g2775 A2778 l2777.length n2780 t3012.2.2.2, r5 A2778 l2777.length n2780 l2777] w3027) := ⟨HS.out.sub (.cons_cons _ (.cons_cons _ (.cons_cons _ (.cons _ .slnil))))⟩
        go_wp2_with fail
        clear fl3028
        go_ret
        rw [← some_eq H]
        exact ⟨(by first | rfl | (simp [IntKind.wrap_u32]; done)), HS.out⟩
      · replace H := if_no c3029 H
        have c3029b0 : decide (t3025.1 < a2789) = false := decide_eq_false c3029
        clear c3029
        have fl3028 : ∀ w, (Instr.field 30 (.agg #[.int .i64 t3025.1, .int .i64 t3025.2.1, .int .i64 t3025.2.2.1, .int .i64 t3025.2.2.2]) 0).run Tryd.prog w = .ok (.int .i64 t3025.1) w := fun _ => by kernel_rfl
        have hc3030 : w3027.cell? ⟨g3015, 0, none⟩ = some (.int .i64 t3012.1) := blk_cellv (HS.out.at3) 0 rfl
        have hc3031 : w3027.cell? ⟨g3015, 1, none⟩ = some (.int .i64 t3012.2.1) := blk_cellv (HS.out.at3) 1 rfl
        go_wp2_with fail
        clear fl3028 hc3030 hc3031
        obtain ⟨t3032, HA3033, H⟩ := bind_some H
        refine (ground_Ground_SetWord.calls l2777 t3012.2.2.2 a2783 a2784 a2785 a2786 t3012.1 t3012.2.1 ((a2789) % 4294967296) g2773 g2775 A2778 l2777.length n2780 t3032 _ ⟨HGl0.out.pass HS.out⟩ ⟨HS.out.begin⟩ HA3033).mono ?_
        rintro e_ w3034 ⟨rfl, hS⟩
        replace HS : Aside0 (Sep FF w [b7 g2773 g2775 a2783 a2784 a2785 a2786, b6 g2775 A2778 l2777.length n2780 t3032.2.1, r5 A2778 l2777.length n2780 t3032.2.2, b16 g3015 t3012.1 t3012.2.1] w3034) := ⟨HS.out.call hS⟩
        clear hS
        replace HS : Aside0 (Sep FF w [b7 g2773 g2775 a2783 a2784 a2785 a2786, b6 g2775 A2778 l2777.length n2780 t3032.2.1, r5 A2778 l2777.length n2780 t3032.2.2] w3034) := ⟨HS.out.sub (.cons_cons _ (.cons_cons _ (.cons_cons _ (.cons _ .slnil))))⟩
        go_wp2_with fail
        go_ret
        rw [← some_eq H]
        exact ⟨(by first | rfl | (simp [IntKind.wrap_u32]; done)), HS.out⟩
  · replace H := if_no c3023 H
    have c3023b0 : (t3012.2.2.1 == 0) = false := beq_eq_false_iff_ne.mpr c3023
    have c3023b1 : (t3012.2.2.1 != 0) = true := bne_iff_ne.mpr c3023
    clear c3023
    go_wp2_with (first | ((with_reducible refine gate_dst (N := 9) rfl ?_); refine box_on ?hg (N := 9) ?hd (cs := #[.int .i64 0, .int .i64 0]) (t := 142) ?hr ?_; (case hd => rfl); (case hg => rfl); (case hr => first | (go_simp; done) | (go_simp; rfl)); intro g3015 hg w3016 hbox hb; replace HS : Aside0 (Sep FF w [b7 g2773 g2775 a2783 a2784 a2785 a2786, b6 g2775 A2778 l2777.length n2780 t3012.2.2.2, r5 A2778 l2777.length n2780 l2777, b16 g3015 0 0] w3016) := ⟨HS.out.box hg hbox hb⟩; clear hg hbox hb; have hc3018 : w3016.cell? ⟨g3015, 0, none⟩ = some (.int .i64 0) := blk_cellv (HS.out.at3) 0 rfl; have hz3019 : w3016.frozen? ⟨g3015, 0, none⟩ = false := blk_fz (HS.out.at3) 0; have hc3020 : w3016.cell? ⟨g3015, 1, none⟩ = some (.int .i64 0) := blk_cellv (HS.out.at3) 1 rfl; have hz3021 : w3016.frozen? ⟨g3015, 1, none⟩ = false := blk_fz (HS.out.at3) 1) | ((with_reducible refine gate_store (t := 142) (p := 9) rfl ?_); refine store_event (w1 := (World.setCell (World.setCell w3016 ⟨g3015, 0, none⟩ (.int .i64 t3012.1)) ⟨g3015, 1, none⟩ (.int .i64 t3012.2.1))) rfl (t := 142) (p := 9) rfl rfl ?hr ?_; (case hr => first | (go_simp; done) | (go_simp; rfl)); intro w3022 hst; clear hc3018 hz3019 hc3020 hz3021; have hq0 : Sep FF w [b7 g2773 g2775 a2783 a2784 a2785 a2786, b6 g2775 A2778 l2777.length n2780 t3012.2.2.2, r5 A2778 l2777.length n2780 l2777, b16 g3015 t3012.1 0] (World.setCell w3016 ⟨g3015, 0, none⟩ (.int .i64 t3012.1)) := (HS.out).set1 (l1 := [b7 g2773 g2775 a2783 a2784 a2785 a2786, b6 g2775 A2778 l2777.length n2780 t3012.2.2.2, r5 A2778 l2777.length n2780 l2777]) (l2 := []) 0 (.int .i64 t3012.1); have hq1 : Sep FF w [b7 g2773 g2775 a2783 a2784 a2785 a2786, b6 g2775 A2778 l2777.length n2780 t3012.2.2.2, r5 A2778 l2777.length n2780 l2777, b16 g3015 t3012.1 t3012.2.1] (World.setCell (World.setCell w3016 ⟨g3015, 0, none⟩ (.int .i64 t3012.1)) ⟨g3015, 1, none⟩ (.int .i64 t3012.2.1)) := (hq0).set1 (l1 := [b7 g2773 g2775 a2783 a2784 a2785 a2786, b6 g2775 A2778 l2777.length n2780 t3012.2.2.2, r5 A2778 l2777.length n2780 l2777]) (l2 := []) 1 (.int .i64 t3012.2.1); replace HS : Aside0 (Sep FF w [b7 g2773 g2775 a2783 a2784 a2785 a2786, b6 g2775 A2778 l2777.length n2780 t3012.2.2.2, r5 A2778 l2777.length n2780 l2777, b16 g3015 t3012.1 t3012.2.1] w3022) := ⟨by rw [hst]; exact hq1⟩; clear hq0 hq1; clear hst; replace HS : Aside0 (Sep FF w [b7 g2773 g2775 a2783 a2784 a2785 a2786, b6 g2775 A2778 l2777.length n2780 t3012.2.2.2, r5 A2778 l2777.length n2780 l2777] w3022) := ⟨HS.out.sub (.cons_cons _ (.cons_cons _ (.cons_cons _ (.cons _ .slnil))))⟩))
    go_ret
    rw [← some_eq H]
    exact ⟨(by first | rfl | (simp [IntKind.wrap_u32]; done)), HS.out⟩

set_option maxHeartbeats 30000000 in
set_option maxRecDepth 100000 in
theorem obj_Ptr.calls (k : Nat) (l3044 : List Int) (a3049 : Int) (a3050 : Int) (a3051 : Int) (a3052 : Int) (a3053 : Int) (a3054 : Int) (a3055 : Int) (g3040 : Nat) (g3042 : Nat) (A3045 : Option Addr) (m3046 : Nat) (n3047 : Nat) (r : Int × Int × Int) (w : World)  (HGl0 : Aside0 (Gl 0 #[.int .i64 0, .int .i64 0, .int .i64 0, .int .i64 0, .int .i64 0] (fps [b7 g3040 g3042 a3050 a3051 a3052 a3053, b6 g3042 A3045 m3046 n3047 a3049, r5 A3045 m3046 n3047 l3044]) w)) (HS : Aside0 (Sep (fps [b7 g3040 g3042 a3050 a3051 a3052 a3053, b6 g3042 A3045 m3046 n3047 a3049, r5 A3045 m3046 n3047 l3044]) w [b7 g3040 g3042 a3050 a3051 a3052 a3053, b6 g3042 A3045 m3046 n3047 a3049, r5 A3045 m3046 n3047 l3044] w)) (H : Aside0 (obj_Ptr.f k l3044 a3049 a3050 a3051 a3052 a3053 a3054 a3055 = some r)) :
    Calls Tryd.prog 59 #[.pointer (some ⟨g3040, 0, none⟩), .int .i64 a3054, .int .i64 a3055] w fun e w' => e = .returned (.tuple #[.int .i64 r.1, .int .i64 r.2.1]) ∧ Sep (fps [b7 g3040 g3042 a3050 a3051 a3052 a3053, b6 g3042 A3045 m3046 n3047 a3049, r5 A3045 m3046 n3047 l3044]) w [b7 g3040 g3042 a3050 a3051 a3052 a3053, b6 g3042 A3045 m3046 n3047 r.2.2, r5 A3045 m3046 n3047 l3044] w' := by
  generalize (fps [b7 g3040 g3042 a3050 a3051 a3052 a3053, b6 g3042 A3045 m3046 n3047 a3049, r5 A3045 m3046 n3047 l3044]) = FF at HS HGl0 ⊢
  obtain rfl := (row_len (HS.out.at2)).symm
  unfold obj_Ptr.f at H
  go_enter Tryd.func59, Tryd.ntmps59
  go_wp2_with fail
  obtain ⟨t3073, HA3074, H⟩ := bind_some H
  refine (obj_field.calls _ l3044 a3049 a3050 a3051 a3052 a3053 a3054 a3055 false g3040 g3042 A3045 l3044.length n3047 t3073 _ ⟨HGl0.out.pass HS.out⟩ ⟨HS.out.begin⟩ HA3074).mono ?_
  rintro e_ w3075 ⟨rfl, hS⟩
  replace HS : Aside0 (Sep FF w [b7 g3040 g3042 a3050 a3051 a3052 a3053, b6 g3042 A3045 l3044.length n3047 t3073.2.2.2, r5 A3045 l3044.length n3047 l3044] w3075) := ⟨HS.out.call hS⟩
  clear hS
  by_cases c3084 : t3073.2.2.1 = 0
  · replace H := if_yes c3084 H
    have c3084b0 : (t3073.2.2.1 == 0) = true := beq_iff_eq.mpr c3084
    have c3084b1 : (t3073.2.2.1 != 0) = false := bne_eq_false_iff_eq.mpr c3084
    clear c3084
    go_wp2_with (first | ((with_reducible refine gate_dst (N := 8) rfl ?_); refine box_on ?hg (N := 8) ?hd (cs := #[.int .i64 0, .int .i64 0]) (t := 142) ?hr ?_; (case hd => rfl); (case hg => rfl); (case hr => first | (go_simp; done) | (go_simp; rfl)); intro g3076 hg w3077 hbox hb; replace HS : Aside0 (Sep FF w [b7 g3040 g3042 a3050 a3051 a3052 a3053, b6 g3042 A3045 l3044.length n3047 t3073.2.2.2, r5 A3045 l3044.length n3047 l3044, b16 g3076 0 0] w3077) := ⟨HS.out.box hg hbox hb⟩; clear hg hbox hb; have hc3079 : w3077.cell? ⟨g3076, 0, none⟩ = some (.int .i64 0) := blk_cellv (HS.out.at3) 0 rfl; have hz3080 : w3077.frozen? ⟨g3076, 0, none⟩ = false := blk_fz (HS.out.at3) 0; have hc3081 : w3077.cell? ⟨g3076, 1, none⟩ = some (.int .i64 0) := blk_cellv (HS.out.at3) 1 rfl; have hz3082 : w3077.frozen? ⟨g3076, 1, none⟩ = false := blk_fz (HS.out.at3) 1) | ((with_reducible refine gate_store (t := 142) (p := 8) rfl ?_); refine store_event (w1 := (World.setCell (World.setCell w3077 ⟨g3076, 0, none⟩ (.int .i64 t3073.1)) ⟨g3076, 1, none⟩ (.int .i64 t3073.2.1))) rfl (t := 142) (p := 8) rfl rfl ?hr ?_; (case hr => first | (go_simp; done) | (go_simp; rfl)); intro w3083 hst; clear hc3079 hz3080 hc3081 hz3082; have hq0 : Sep FF w [b7 g3040 g3042 a3050 a3051 a3052 a3053, b6 g3042 A3045 l3044.length n3047 t3073.2.2.2, r5 A3045 l3044.length n3047 l3044, b16 g3076 t3073.1 0] (World.setCell w3077 ⟨g3076, 0, none⟩ (.int .i64 t3073.1)) := (HS.out).set1 (l1 := [b7 g3040 g3042 a3050 a3051 a3052 a3053, b6 g3042 A3045 l3044.length n3047 t3073.2.2.2, r5 A3045 l3044.length n3047 l3044]) (l2 := []) 0 (.int .i64 t3073.1); have hq1 : Sep FF w [b7 g3040 g3042 a3050 a3051 a3052 a3053, b6 g3042 A3045 l3044.length n3047 t3073.2.2.2, r5 A3045 l3044.length n3047 l3044, b16 g3076 t3073.1 t3073.2.1] (World.setCell (World.setCell w3077 ⟨g3076, 0, none⟩ (.int .i64 t3073.1)) ⟨g3076, 1, none⟩ (.int .i64 t3073.2.1)) := (hq0).set1 (l1 := [b7 g3040 g3042 a3050 a3051 a3052 a3053, b6 g3042 A3045 l3044.length n3047 t3073.2.2.2, r5 A3045 l3044.length n3047 l3044]) (l2 := []) 1 (.int .i64 t3073.2.1); replace HS : Aside0 (Sep FF w [b7 g3040 g3042 a3050 a3051 a3052 a3053, b6 g3042 A3045 l3044.length n3047 t3073.2.2.2, r5 A3045 l3044.length n3047 l3044, b16 g3076 t3073.1 t3073.2.1] w3083) := ⟨by rw [hst]; exact hq1⟩; clear hq0 hq1; clear hst; have hc3085 : w3083.cell? ⟨g3076, 0, none⟩ = some (.int .i64 t3073.1) := blk_cellv (HS.out.at3) 0 rfl; have hc3086 : w3083.cell? ⟨g3076, 1, none⟩ = some (.int .i64 t3073.2.1) := blk_cellv (HS.out.at3) 1 rfl))
    clear hc3085 hc3086
    obtain ⟨t3087, HA3088, H⟩ := bind_some H
    refine (ground_Ground_Word.calls l3044 t3073.2.2.2 a3050 a3051 a3052 a3053 t3073.1 t3073.2.1 g3040 g3042 A3045 l3044.length n3047 t3087 _ ⟨HGl0.out.pass HS.out⟩ ⟨HS.out.begin⟩ HA3088).mono ?_
    rintro e_ w3089 ⟨rfl, hS⟩
    replace HS : Aside0 (Sep FF w [b7 g3040 g3042 a3050 a3051 a3052 a3053, b6 g3042 A3045 l3044.length n3047 t3087.2, r5 A3045 l3044.length n3047 l3044, b16 g3076 t3073.1 t3073.2.1] w3089) := ⟨HS.out.call hS⟩
    clear hS
    replace HS : Aside0 (Sep FF w [b7 g3040 g3042 a3050 a3051 a3052 a3053, b6 g3042 A3045 l3044.length n3047 t3087.2, r5 A3045 l3044.length n3047 l3044] w3089) := ⟨HS.out.sub (.cons_cons _ (.cons_cons _ (.cons_cons _ (.cons _ .slnil))))⟩
    go_wp2_with fail
    go_ret2
    rw [← some_eq H]
    exact ⟨(by first | rfl | (simp [IntKind.wrap_u32]; done)), HS.out⟩
  · replace H := if_no c3084 H
    have c3084b0 : (t3073.2.2.1 == 0) = false := beq_eq_false_iff_ne.mpr c3084
    have c3084b1 : (t3073.2.2.1 != 0) = true := bne_iff_ne.mpr c3084
    clear c3084
    go_wp2_with (first | ((with_reducible refine gate_dst (N := 8) rfl ?_); refine box_on ?hg (N := 8) ?hd (cs := #[.int .i64 0, .int .i64 0]) (t := 142) ?hr ?_; (case hd => rfl); (case hg => rfl); (case hr => first | (go_simp; done) | (go_simp; rfl)); intro g3076 hg w3077 hbox hb; replace HS : Aside0 (Sep FF w [b7 g3040 g3042 a3050 a3051 a3052 a3053, b6 g3042 A3045 l3044.length n3047 t3073.2.2.2, r5 A3045 l3044.length n3047 l3044, b16 g3076 0 0] w3077) := ⟨HS.out.box hg hbox hb⟩; clear hg hbox hb; have hc3079 : w3077.cell? ⟨g3076, 0, none⟩ = some (.int .i64 0) := blk_cellv (HS.out.at3) 0 rfl; have hz3080 : w3077.frozen? ⟨g3076, 0, none⟩ = false := blk_fz (HS.out.at3) 0; have hc3081 : w3077.cell? ⟨g3076, 1, none⟩ = some (.int .i64 0) := blk_cellv (HS.out.at3) 1 rfl; have hz3082 : w3077.frozen? ⟨g3076, 1, none⟩ = false := blk_fz (HS.out.at3) 1) | ((with_reducible refine gate_store (t := 142) (p := 8) rfl ?_); refine store_event (w1 := (World.setCell (World.setCell w3077 ⟨g3076, 0, none⟩ (.int .i64 t3073.1)) ⟨g3076, 1, none⟩ (.int .i64 t3073.2.1))) rfl (t := 142) (p := 8) rfl rfl ?hr ?_; (case hr => first | (go_simp; done) | (go_simp; rfl)); intro w3083 hst; clear hc3079 hz3080 hc3081 hz3082; have hq0 : Sep FF w [b7 g3040 g3042 a3050 a3051 a3052 a3053, b6 g3042 A3045 l3044.length n3047 t3073.2.2.2, r5 A3045 l3044.length n3047 l3044, b16 g3076 t3073.1 0] (World.setCell w3077 ⟨g3076, 0, none⟩ (.int .i64 t3073.1)) := (HS.out).set1 (l1 := [b7 g3040 g3042 a3050 a3051 a3052 a3053, b6 g3042 A3045 l3044.length n3047 t3073.2.2.2, r5 A3045 l3044.length n3047 l3044]) (l2 := []) 0 (.int .i64 t3073.1); have hq1 : Sep FF w [b7 g3040 g3042 a3050 a3051 a3052 a3053, b6 g3042 A3045 l3044.length n3047 t3073.2.2.2, r5 A3045 l3044.length n3047 l3044, b16 g3076 t3073.1 t3073.2.1] (World.setCell (World.setCell w3077 ⟨g3076, 0, none⟩ (.int .i64 t3073.1)) ⟨g3076, 1, none⟩ (.int .i64 t3073.2.1)) := (hq0).set1 (l1 := [b7 g3040 g3042 a3050 a3051 a3052 a3053, b6 g3042 A3045 l3044.length n3047 t3073.2.2.2, r5 A3045 l3044.length n3047 l3044]) (l2 := []) 1 (.int .i64 t3073.2.1); replace HS : Aside0 (Sep FF w [b7 g3040 g3042 a3050 a3051 a3052 a3053, b6 g3042 A3045 l3044.length n3047 t3073.2.2.2, r5 A3045 l3044.length n3047 l3044, b16 g3076 t3073.1 t3073.2.1] w3083) := ⟨by rw [hst]; exact hq1⟩; clear hq0 hq1; clear hst; replace HS : Aside0 (Sep FF w [b7 g3040 g3042 a3050 a3051 a3052 a3053, b6 g3042 A3045 l3044.length n3047 t3073.2.2.2, r5 A3045 l3044.length n3047 l3044] w3083) := ⟨HS.out.sub (.cons_cons _ (.cons_cons _ (.cons_cons _ (.cons _ .slnil))))⟩))
    go_ret2
    rw [← some_eq H]
    exact ⟨(by first | rfl | (simp [IntKind.wrap_u32]; done)), HS.out⟩

set_option maxHeartbeats 30000000 in
set_option maxRecDepth 100000 in
theorem chain_Push_1.calls (a3238 : Int) (a3239 : Int) (a3240 : Int) (a3241 : Int) (a3242 : Int) (l3250 : List Int) (a3255 : Int) (a3256 : Int) (a3257 : Int) (a3258 : Int) (a3259 : Int) (a3262 : Int) (g3244 : Nat) (g3246 : Nat) (g3248 : Nat) (A3251 : Option Addr) (m3252 : Nat) (n3253 : Nat) (g3261 : Nat) (r : Int × List Int) (w : World)  (HGl0 : Aside0 (Gl 0 #[.int .i64 0, .int .i64 0, .int .i64 0, .int .i64 0, .int .i64 0] (fps [b9 g3244 g3246, b7 g3246 g3248 a3256 a3257 a3258 a3259, b6 g3248 A3251 m3252 n3253 a3255, r5 A3251 m3252 n3253 l3250, b10 g3261 a3262]) w)) (HS : Aside0 (Sep (fps [b9 g3244 g3246, b7 g3246 g3248 a3256 a3257 a3258 a3259, b6 g3248 A3251 m3252 n3253 a3255, r5 A3251 m3252 n3253 l3250, b10 g3261 a3262]) w [b9 g3244 g3246, b7 g3246 g3248 a3256 a3257 a3258 a3259, b6 g3248 A3251 m3252 n3253 a3255, r5 A3251 m3252 n3253 l3250, b10 g3261 a3262] w)) (H : Aside0 (chain_Push_1.f a3238 a3239 a3240 a3241 a3242 l3250 a3255 a3256 a3257 a3258 a3259 a3262 = some r)) :
    Calls Tryd.prog 156 #[.agg #[.int .i64 a3238, .int .i64 a3239, .int .i64 a3240], .int .i64 a3241, .int .i64 a3242, .pointer (some ⟨g3244, 0, none⟩), .pointer (some ⟨g3261, 0, none⟩)] w fun e w' => e = .returned (.tuple #[]) ∧ Sep (fps [b9 g3244 g3246, b7 g3246 g3248 a3256 a3257 a3258 a3259, b6 g3248 A3251 m3252 n3253 a3255, r5 A3251 m3252 n3253 l3250, b10 g3261 a3262]) w [b9 g3244 g3246, b7 g3246 g3248 a3256 a3257 a3258 a3259, b6 g3248 A3251 m3252 n3253 r.1, r5 A3251 m3252 n3253 r.2, b10 g3261 a3262] w' := by
  generalize (fps [b9 g3244 g3246, b7 g3246 g3248 a3256 a3257 a3258 a3259, b6 g3248 A3251 m3252 n3253 a3255, r5 A3251 m3252 n3253 l3250, b10 g3261 a3262]) = FF at HS HGl0 ⊢
  obtain rfl := (row_len (HS.out.at3)).symm
  unfold chain_Push_1.f at H
  go_enter Tryd.func156, Tryd.ntmps156
  go_wp2_with (first | ((with_reducible refine gate_dst (N := 5) rfl ?_); refine box_on ?hg (N := 5) ?hd (cs := #[.int .i64 a3238, .int .i64 a3239, .int .i64 a3240]) (t := 166) ?hr ?_; (case hd => rfl); (case hg => rfl); (case hr => first | (go_simp; done) | (go_simp; rfl)); intro g3285 hg w3286 hbox hb; replace HS : Aside0 (Sep FF w [b9 g3244 g3246, b7 g3246 g3248 a3256 a3257 a3258 a3259, b6 g3248 A3251 l3250.length n3253 a3255, r5 A3251 l3250.length n3253 l3250, b10 g3261 a3262, b8 g3285 a3238 a3239 a3240] w3286) := ⟨HS.out.box hg hbox hb⟩; clear hg hbox hb))
  refine start_ (n := 8) (S := (fun w' => w'.cell? ⟨g3244, 0, none⟩ = some (.pointer (some ⟨g3246, 0, none⟩)) ∧ w'.cell? ⟨g3261, 0, none⟩ = some (.int .i64 a3262) ∧ w'.cell? ⟨g3285, 0, none⟩ = some (.int .i64 a3238))) (ds := []) #[false, false, false, false, false, false, false, false] (by kernel_rfl) rfl rfl (⟨blk_cellv ((HS.out.drew).at0) 0 rfl, blk_cellv ((HS.out.drew).at4) 0 rfl, blk_cellv ((HS.out.drew).at5) 0 rfl⟩) (fun hHeld => ?_)
  have HS_ := Aside0.mk HS.out.drew
  clear HS
  generalize World.drew _ = w3289 at HS_ hHeld ⊢
  have HS := HS_
  clear HS_
  refine pure_ (i := 3) (N := some 11) (v := ?_) (a' := ?_) #[false, false, false, true, false, false, false, false] rfl rfl (by kernel_rfl) (fun _ _ _ h => h) (Or.inl ⟨by rfl, ?_⟩) ?_ ?_
  rotate_left
  · intro w'
    go_simp
    with_reducible rfl
  rotate_left
  · simp only [Act.put, List.setIfInBounds_toArray, List.set_cons_zero, List.set_cons_succ, i64_w, i32_w]
    rfl
  refine take_ (i := 0) (N := some 8) (v := ?_) (a' := ?_) #[true, false, false, true, false, false, false, false] rfl rfl (by kernel_rfl) (fun _ _ _ h => h) (Or.inl ⟨by rfl, ?_⟩) hHeld ?_ ?_
  rotate_left
  · rintro w' hS'
    obtain ⟨s0, s1, s2⟩ := hS'
    go_simp
    with_reducible rfl
  rotate_left
  · simp only [Act.put, List.setIfInBounds_toArray, List.set_cons_zero, List.set_cons_succ, i64_w, i32_w]
    rfl
  refine take_ (i := 1) (N := some 9) (v := ?_) (a' := ?_) #[true, true, false, true, false, false, false, false] rfl rfl (by kernel_rfl) (fun _ _ _ h => h) (Or.inl ⟨by rfl, ?_⟩) hHeld ?_ ?_
  rotate_left
  · rintro w' hS'
    obtain ⟨s0, s1, s2⟩ := hS'
    go_simp
    with_reducible rfl
  rotate_left
  · simp only [Act.put, List.setIfInBounds_toArray, List.set_cons_zero, List.set_cons_succ, i64_w, i32_w]
    rfl
  refine take_ (i := 2) (N := some 10) (v := ?_) (a' := ?_) #[true, true, true, true, false, false, false, false] rfl rfl (by kernel_rfl) (fun _ _ _ h => h) (Or.inl ⟨by rfl, ?_⟩) hHeld ?_ ?_
  rotate_left
  · rintro w' hS'
    obtain ⟨s0, s1, s2⟩ := hS'
    go_simp
    with_reducible rfl
  rotate_left
  · simp only [Act.put, List.setIfInBounds_toArray, List.set_cons_zero, List.set_cons_succ, i64_w, i32_w]
    rfl
  refine take_ (i := 4) (N := some 12) (v := ?_) (a' := ?_) #[true, true, true, true, true, false, false, false] rfl rfl (by kernel_rfl) (fun _ _ _ h => h) (Or.inl ⟨by rfl, ?_⟩) hHeld ?_ ?_
  rotate_left
  · rintro w' hS'
    obtain ⟨s0, s1, s2⟩ := hS'
    go_simp
    with_reducible rfl
  rotate_left
  · simp only [Act.put, List.setIfInBounds_toArray, List.set_cons_zero, List.set_cons_succ, i64_w, i32_w]
    rfl
  refine one_ (i := 5) (N := some 13) #[true, true, true, true, true, true, false, false] rfl rfl (by kernel_rfl) (by decide) (fun K hK => ?_)
  replace HS : Aside0 (Sep FF w [r5 A3251 l3250.length n3253 l3250, b9 g3244 g3246, b7 g3246 g3248 a3256 a3257 a3258 a3259, b6 g3248 A3251 l3250.length n3253 a3255, b10 g3261 a3262, b8 g3285 a3238 a3239 a3240] w3289) := ⟨HS.out.front 3 (by simp)⟩
  replace HS : Aside0 (Sep FF w [b6 g3248 A3251 l3250.length n3253 a3255, r5 A3251 l3250.length n3253 l3250, b9 g3244 g3246, b7 g3246 g3248 a3256 a3257 a3258 a3259, b10 g3261 a3262, b8 g3285 a3238 a3239 a3240] w3289) := ⟨HS.out.front 3 (by simp)⟩
  replace HS : Aside0 (Sep FF w [b7 g3246 g3248 a3256 a3257 a3258 a3259, b6 g3248 A3251 l3250.length n3253 a3255, r5 A3251 l3250.length n3253 l3250, b9 g3244 g3246, b10 g3261 a3262, b8 g3285 a3238 a3239 a3240] w3289) := ⟨HS.out.front 3 (by simp)⟩
  obtain ⟨t3290, HA3291, H⟩ := bind_some H
  refine goes_ Tryd.func81 (by kernel_rfl) rfl #[.pointer (some ⟨g3246, 0, none⟩), .int .i64 a3238] (by rfl) rfl rfl (by (try simp only [List.map_toArray, List.map_cons, List.map_nil]); first | done | rfl) ?_
  refine (ground_Ground_Reg.calls l3250 a3255 a3256 a3257 a3258 a3259 a3238 g3246 g3248 A3251 l3250.length n3253 t3290 _ ⟨HGl0.out.pass HS.out⟩ ⟨HS.out.begin⟩ HA3291).mono ?_
  rintro e_ w3292 ⟨rfl, hS⟩
  replace HS : Aside0 (Sep FF w [b7 g3246 g3248 a3256 a3257 a3258 a3259, b6 g3248 A3251 l3250.length n3253 t3290.2, r5 A3251 l3250.length n3253 l3250, b9 g3244 g3246, b10 g3261 a3262, b8 g3285 a3238 a3239 a3240] w3292) := ⟨HS.out.call hS⟩
  clear hS
  refine ⟨_, rfl, ?_⟩
  refine hK.out _ _ (⟨blk_cellv (HS.out.at3) 0 rfl, blk_cellv (HS.out.at4) 0 rfl, blk_cellv (HS.out.at5) 0 rfl⟩) (fun hHeld => ?_)
  clear hK K
  refine norm_ (a' := ?_) ?_ ?_
  rotate_left
  · show Act.put _ (some 13) _ = _
    simp only [Act.put, List.setIfInBounds_toArray, List.set_cons_zero, List.set_cons_succ, i64_w, i32_w]
    rfl
  refine pure_ (i := 6) (N := some 14) (v := ?_) (a' := ?_) #[true, true, true, true, true, true, true, false] rfl rfl (by kernel_rfl) (fun _ _ _ h => h) (Or.inl ⟨by rfl, ?_⟩) ?_ ?_
  rotate_left
  · intro w'
    go_simp
    with_reducible rfl
  rotate_left
  · simp only [Act.put, List.setIfInBounds_toArray, List.set_cons_zero, List.set_cons_succ, i64_w, i32_w, IntKind.wrap_u32]
    rfl
  refine one_ (i := 7) (N := some 15) #[true, true, true, true, true, true, true, true] rfl rfl (by kernel_rfl) (by decide) (fun K hK => ?_)
  obtain ⟨t3293, HA3294, H⟩ := bind_some H
  refine goes_ Tryd.func17 (by kernel_rfl) rfl #[.pointer (some ⟨g3246, 0, none⟩), .int .i64 a3262, .int .i64 5, .int .u32 ((t3290.1) % 4294967296)] (by rfl) rfl rfl (by (try simp only [List.map_toArray, List.map_cons, List.map_nil]); first | done | rfl) ?_
  refine (ground_Ground_SetWord.calls l3250 t3290.2 a3256 a3257 a3258 a3259 a3262 5 ((t3290.1) % 4294967296) g3246 g3248 A3251 l3250.length n3253 t3293 _ ⟨HGl0.out.pass HS.out⟩ ⟨HS.out.begin⟩ HA3294).mono ?_
  rintro e_ w3295 ⟨rfl, hS⟩
  replace HS : Aside0 (Sep FF w [b7 g3246 g3248 a3256 a3257 a3258 a3259, b6 g3248 A3251 l3250.length n3253 t3293.2.1, r5 A3251 l3250.length n3253 t3293.2.2, b9 g3244 g3246, b10 g3261 a3262, b8 g3285 a3238 a3239 a3240] w3295) := ⟨HS.out.call hS⟩
  clear hS
  refine ⟨_, rfl, ?_⟩
  refine hK.out _ _ (⟨blk_cellv (HS.out.at3) 0 rfl, blk_cellv (HS.out.at4) 0 rfl, blk_cellv (HS.out.at5) 0 rfl⟩) (fun hHeld => ?_)
  clear hK K
  refine norm_ (a' := ?_) ?_ ?_
  rotate_left
  · show Act.put _ (some 15) _ = _
    simp only [Act.put, List.setIfInBounds_toArray, List.set_cons_zero, List.set_cons_succ, i64_w, i32_w]
    rfl
  refine done_ (by kernel_rfl) ?_
  have hc3296 : w3295.cell? ⟨g3244, 0, none⟩ = some (.pointer (some ⟨g3246, 0, none⟩)) := blk_cellv (HS.out.at3) 0 rfl
  have hc3297 : w3295.cell? ⟨g3285, 0, none⟩ = some (.int .i64 a3238) := blk_cellv (HS.out.at5) 0 rfl
  go_wp2_with fail
  clear hc3296 hc3297
  obtain ⟨t3298, HA3299, H⟩ := bind_some H
  refine (ground_Ground_SetReg.calls t3293.2.2 t3293.2.1 a3256 a3257 a3258 a3259 a3238 a3241 g3246 g3248 A3251 l3250.length n3253 t3298 _ ⟨HGl0.out.pass HS.out⟩ ⟨HS.out.begin⟩ HA3299).mono ?_
  rintro e_ w3300 ⟨rfl, hS⟩
  replace HS : Aside0 (Sep FF w [b7 g3246 g3248 a3256 a3257 a3258 a3259, b6 g3248 A3251 l3250.length n3253 t3298.2.1, r5 A3251 l3250.length n3253 t3298.2.2, b9 g3244 g3246, b10 g3261 a3262, b8 g3285 a3238 a3239 a3240] w3300) := ⟨HS.out.call hS⟩
  clear hS
  by_cases c3301 : a3242 = 0
  · replace H := if_yes c3301 H
    have c3301b0 : (a3242 == 0) = true := beq_iff_eq.mpr c3301
    have c3301b1 : (a3242 != 0) = false := bne_eq_false_iff_eq.mpr c3301
    clear c3301
    have hc3302 : w3300.cell? ⟨g3244, 0, none⟩ = some (.pointer (some ⟨g3246, 0, none⟩)) := blk_cellv (HS.out.at3) 0 rfl
    have hc3303 : w3300.cell? ⟨g3285, 1, none⟩ = some (.int .i64 a3239) := blk_cellv (HS.out.at5) 1 rfl
    go_wp2_with fail
    clear hc3302 hc3303
    obtain ⟨t3304, HA3305, H⟩ := bind_some H
    refine (ground_Ground_SetReg.calls t3298.2.2 t3298.2.1 a3256 a3257 a3258 a3259 a3239 a3241 g3246 g3248 A3251 l3250.length n3253 t3304 _ ⟨HGl0.out.pass HS.out⟩ ⟨HS.out.begin⟩ HA3305).mono ?_
    rintro e_ w3306 ⟨rfl, hS⟩
    replace HS : Aside0 (Sep FF w [b7 g3246 g3248 a3256 a3257 a3258 a3259, b6 g3248 A3251 l3250.length n3253 t3304.2.1, r5 A3251 l3250.length n3253 t3304.2.2, b9 g3244 g3246, b10 g3261 a3262, b8 g3285 a3238 a3239 a3240] w3306) := ⟨HS.out.call hS⟩
    clear hS
    replace HS : Aside0 (Sep FF w [b7 g3246 g3248 a3256 a3257 a3258 a3259, b6 g3248 A3251 l3250.length n3253 t3304.2.1, r5 A3251 l3250.length n3253 t3304.2.2, b9 g3244 g3246, b10 g3261 a3262] w3306) := ⟨HS.out.sub (.cons_cons _ (.cons_cons _ (.cons_cons _ (.cons_cons _ (.cons_cons _ (.cons _ .slnil))))))⟩
    go_wp2_with fail
    first | go_end0 | refine bodyPost_ret (results_none rfl _ _ _) rfl ?_
    rw [← some_eq H]
    exact ⟨rfl, ((((((HS.out).front 4 (by simp)).front 3 (by simp)).front 3 (by simp)).front 3 (by simp)).front 4 (by simp)).keep (l := [b9 g3244 g3246, b7 g3246 g3248 a3256 a3257 a3258 a3259, b6 g3248 A3251 l3250.length n3253 t3304.2.1, r5 A3251 l3250.length n3253 t3304.2.2, b10 g3261 a3262]) (rest := [])⟩
  · replace H := if_no c3301 H
    have c3301b0 : (a3242 == 0) = false := beq_eq_false_iff_ne.mpr c3301
    have c3301b1 : (a3242 != 0) = true := bne_iff_ne.mpr c3301
    clear c3301
    go_wp2_with fail
    first | go_end0 | refine bodyPost_ret (results_none rfl _ _ _) rfl ?_
    rw [← some_eq H]
    exact ⟨rfl, ((((((HS.out).front 4 (by simp)).front 3 (by simp)).front 3 (by simp)).front 3 (by simp)).front 4 (by simp)).keep (l := [b9 g3244 g3246, b7 g3246 g3248 a3256 a3257 a3258 a3259, b6 g3248 A3251 l3250.length n3253 t3298.2.1, r5 A3251 l3250.length n3253 t3298.2.2, b10 g3261 a3262]) (rest := [b8 g3285 a3238 a3239 a3240])⟩

set_option maxHeartbeats 30000000 in
set_option maxRecDepth 100000 in
theorem chain_put_F156.calls (l3194 : List Int) (a3199 : Int) (a3200 : Int) (a3201 : Int) (a3202 : Int) (a3203 : Int) (a3204 : Int) (a3205 : Int) (a3210 : Int) (g3190 : Nat) (g3192 : Nat) (A3195 : Option Addr) (m3196 : Nat) (n3197 : Nat) (g3207 : Nat) (g3209 : Nat) (r : Bool × Int × List Int) (w : World)  (HGl0 : Aside0 (Gl 0 #[.int .i64 0, .int .i64 0, .int .i64 0, .int .i64 0, .int .i64 0] (fps [b7 g3190 g3192 a3200 a3201 a3202 a3203, b6 g3192 A3195 m3196 n3197 a3199, r5 A3195 m3196 n3197 l3194, b9 g3207 g3190, b10 g3209 a3210]) w)) (HS : Aside0 (Sep (fps [b7 g3190 g3192 a3200 a3201 a3202 a3203, b6 g3192 A3195 m3196 n3197 a3199, r5 A3195 m3196 n3197 l3194, b9 g3207 g3190, b10 g3209 a3210]) w [b7 g3190 g3192 a3200 a3201 a3202 a3203, b6 g3192 A3195 m3196 n3197 a3199, r5 A3195 m3196 n3197 l3194, b9 g3207 g3190, b10 g3209 a3210] w)) (H : Aside0 (chain_put_F156.f l3194 a3199 a3200 a3201 a3202 a3203 a3204 a3205 a3210 = some r)) :
    Calls Tryd.prog 142 #[.pointer (some ⟨g3190, 0, none⟩), .int .i64 a3204, .int .i64 a3205, .func (.func 156) #[] #[.pointer (some ⟨g3207, 0, none⟩), .pointer (some ⟨g3209, 0, none⟩)]] w fun e w' => e = .returned (.bool r.1) ∧ Sep (fps [b7 g3190 g3192 a3200 a3201 a3202 a3203, b6 g3192 A3195 m3196 n3197 a3199, r5 A3195 m3196 n3197 l3194, b9 g3207 g3190, b10 g3209 a3210]) w [b7 g3190 g3192 a3200 a3201 a3202 a3203, b6 g3192 A3195 m3196 n3197 r.2.1, r5 A3195 m3196 n3197 r.2.2, b9 g3207 g3190, b10 g3209 a3210] w' := by
  generalize (fps [b7 g3190 g3192 a3200 a3201 a3202 a3203, b6 g3192 A3195 m3196 n3197 a3199, r5 A3195 m3196 n3197 l3194, b9 g3207 g3190, b10 g3209 a3210]) = FF at HS HGl0 ⊢
  obtain rfl := (row_len (HS.out.at2)).symm
  unfold chain_put_F156.f at H
  go_enter Tryd.func142, Tryd.ntmps142
  go_wp2_with fail
  obtain ⟨t3314, HA3315, H⟩ := bind_some H
  refine (chain_of.calls l3194 a3199 a3200 a3201 a3202 a3203 a3204 g3190 g3192 A3195 l3194.length n3197 t3314 _ ⟨HGl0.out.pass HS.out⟩ ⟨HS.out.begin⟩ HA3315).mono ?_
  rintro e_ w3316 ⟨rfl, hS⟩
  replace HS : Aside0 (Sep FF w [b7 g3190 g3192 a3200 a3201 a3202 a3203, b6 g3192 A3195 l3194.length n3197 a3199, r5 A3195 l3194.length n3197 l3194, b9 g3207 g3190, b10 g3209 a3210] w3316) := ⟨HS.out.call hS⟩
  clear hS
  by_cases c3327 : t3314.2.2.2 = true
  · replace H := if_yes c3327 H
    have c3327b0 : t3314.2.2.2 = true := c3327
    have c3327b1 : (!t3314.2.2.2) = false := by rw [c3327b0]; rfl
    try rw [c3327b1]
    clear c3327
    by_cases c3328 : a3205 < 0
    · replace H := if_yes c3328 H
      have c3328b0 : decide (a3205 < 0) = true := decide_eq_true c3328
      clear c3328
      go_wp2_with (first | ((with_reducible refine gate_dst (N := 9) rfl ?_); refine box_on ?hg (N := 9) ?hd (cs := #[.int .i64 0, .int .i64 0, .int .i64 0]) (t := 166) ?hr ?_; (case hd => rfl); (case hg => rfl); (case hr => first | (go_simp; done) | (go_simp; rfl)); intro g3317 hg w3318 hbox hb; replace HS : Aside0 (Sep FF w [b7 g3190 g3192 a3200 a3201 a3202 a3203, b6 g3192 A3195 l3194.length n3197 a3199, r5 A3195 l3194.length n3197 l3194, b9 g3207 g3190, b10 g3209 a3210, b8 g3317 0 0 0] w3318) := ⟨HS.out.box hg hbox hb⟩; clear hg hbox hb; have hc3320 : w3318.cell? ⟨g3317, 0, none⟩ = some (.int .i64 0) := blk_cellv (HS.out.at5) 0 rfl; have hz3321 : w3318.frozen? ⟨g3317, 0, none⟩ = false := blk_fz (HS.out.at5) 0; have hc3322 : w3318.cell? ⟨g3317, 1, none⟩ = some (.int .i64 0) := blk_cellv (HS.out.at5) 1 rfl; have hz3323 : w3318.frozen? ⟨g3317, 1, none⟩ = false := blk_fz (HS.out.at5) 1; have hc3324 : w3318.cell? ⟨g3317, 2, none⟩ = some (.int .i64 0) := blk_cellv (HS.out.at5) 2 rfl; have hz3325 : w3318.frozen? ⟨g3317, 2, none⟩ = false := blk_fz (HS.out.at5) 2) | ((with_reducible refine gate_store (t := 166) (p := 9) rfl ?_); refine store_event (w1 := (World.setCell (World.setCell (World.setCell w3318 ⟨g3317, 0, none⟩ (.int .i64 t3314.1)) ⟨g3317, 1, none⟩ (.int .i64 t3314.2.1)) ⟨g3317, 2, none⟩ (.int .i64 t3314.2.2.1))) rfl (t := 166) (p := 9) rfl rfl ?hr ?_; (case hr => first | (go_simp; done) | (go_simp; rfl)); intro w3326 hst; clear hc3320 hz3321 hc3322 hz3323 hc3324 hz3325; replace HS : Aside0 (Sep FF w [b7 g3190 g3192 a3200 a3201 a3202 a3203, b6 g3192 A3195 l3194.length n3197 a3199, r5 A3195 l3194.length n3197 l3194, b9 g3207 g3190, b10 g3209 a3210, b8 g3317 t3314.1 t3314.2.1 t3314.2.2.1] w3326) := ⟨by rw [hst]; exact HS.out.setAll (l1 := [b7 g3190 g3192 a3200 a3201 a3202 a3203, b6 g3192 A3195 l3194.length n3197 a3199, r5 A3195 l3194.length n3197 l3194, b9 g3207 g3190, b10 g3209 a3210]) (l2 := []) [.int .i64 t3314.1, .int .i64 t3314.2.1, .int .i64 t3314.2.2.1] rfl⟩; clear hst; replace HS : Aside0 (Sep FF w [b7 g3190 g3192 a3200 a3201 a3202 a3203, b6 g3192 A3195 l3194.length n3197 a3199, r5 A3195 l3194.length n3197 l3194, b9 g3207 g3190, b10 g3209 a3210] w3326) := ⟨HS.out.sub (.cons_cons _ (.cons_cons _ (.cons_cons _ (.cons_cons _ (.cons_cons _ (.cons _ .slnil))))))⟩))
      go_ret
      rw [← some_eq H]
      exact ⟨(by first | rfl | (simp [IntKind.wrap_u32]; done)), HS.out⟩
    · replace H := if_no c3328 H
      have c3328b0 : decide (a3205 < 0) = false := decide_eq_false c3328
      clear c3328
      go_wp2_with (first | ((with_reducible refine gate_dst (N := 9) rfl ?_); refine box_on ?hg (N := 9) ?hd (cs := #[.int .i64 0, .int .i64 0, .int .i64 0]) (t := 166) ?hr ?_; (case hd => rfl); (case hg => rfl); (case hr => first | (go_simp; done) | (go_simp; rfl)); intro g3317 hg w3318 hbox hb; replace HS : Aside0 (Sep FF w [b7 g3190 g3192 a3200 a3201 a3202 a3203, b6 g3192 A3195 l3194.length n3197 a3199, r5 A3195 l3194.length n3197 l3194, b9 g3207 g3190, b10 g3209 a3210, b8 g3317 0 0 0] w3318) := ⟨HS.out.box hg hbox hb⟩; clear hg hbox hb; have hc3320 : w3318.cell? ⟨g3317, 0, none⟩ = some (.int .i64 0) := blk_cellv (HS.out.at5) 0 rfl; have hz3321 : w3318.frozen? ⟨g3317, 0, none⟩ = false := blk_fz (HS.out.at5) 0; have hc3322 : w3318.cell? ⟨g3317, 1, none⟩ = some (.int .i64 0) := blk_cellv (HS.out.at5) 1 rfl; have hz3323 : w3318.frozen? ⟨g3317, 1, none⟩ = false := blk_fz (HS.out.at5) 1; have hc3324 : w3318.cell? ⟨g3317, 2, none⟩ = some (.int .i64 0) := blk_cellv (HS.out.at5) 2 rfl; have hz3325 : w3318.frozen? ⟨g3317, 2, none⟩ = false := blk_fz (HS.out.at5) 2) | ((with_reducible refine gate_store (t := 166) (p := 9) rfl ?_); refine store_event (w1 := (World.setCell (World.setCell (World.setCell w3318 ⟨g3317, 0, none⟩ (.int .i64 t3314.1)) ⟨g3317, 1, none⟩ (.int .i64 t3314.2.1)) ⟨g3317, 2, none⟩ (.int .i64 t3314.2.2.1))) rfl (t := 166) (p := 9) rfl rfl ?hr ?_; (case hr => first | (go_simp; done) | (go_simp; rfl)); intro w3326 hst; clear hc3320 hz3321 hc3322 hz3323 hc3324 hz3325; replace HS : Aside0 (Sep FF w [b7 g3190 g3192 a3200 a3201 a3202 a3203, b6 g3192 A3195 l3194.length n3197 a3199, r5 A3195 l3194.length n3197 l3194, b9 g3207 g3190, b10 g3209 a3210, b8 g3317 t3314.1 t3314.2.1 t3314.2.2.1] w3326) := ⟨by rw [hst]; exact HS.out.setAll (l1 := [b7 g3190 g3192 a3200 a3201 a3202 a3203, b6 g3192 A3195 l3194.length n3197 a3199, r5 A3195 l3194.length n3197 l3194, b9 g3207 g3190, b10 g3209 a3210]) (l2 := []) [.int .i64 t3314.1, .int .i64 t3314.2.1, .int .i64 t3314.2.2.1] rfl⟩; clear hst))
      obtain ⟨t3329, HA3330, H⟩ := bind_some H
      refine (ground_Ground_Conf.calls l3194 a3199 a3200 a3201 a3202 a3203 g3190 g3192 A3195 l3194.length n3197 t3329 _ ⟨HGl0.out.pass HS.out⟩ ⟨HS.out.begin⟩ HA3330).mono ?_
      rintro e_ w3331 ⟨rfl, hS⟩
      replace HS : Aside0 (Sep FF w [b7 g3190 g3192 a3200 a3201 a3202 a3203, b6 g3192 A3195 l3194.length n3197 a3199, r5 A3195 l3194.length n3197 l3194, b9 g3207 g3190, b10 g3209 a3210, b8 g3317 t3314.1 t3314.2.1 t3314.2.2.1] w3331) := ⟨HS.out.call hS⟩
      clear hS
      by_cases c3333 : a3205 ≥ t3329.1
      · replace H := if_yes c3333 H
        have c3333b0 : decide (t3329.1 ≤ a3205) = true := decide_eq_true c3333
        clear c3333
        have fl3332 : ∀ w, (Instr.field 30 (.agg #[.int .i64 t3329.1, .int .i64 t3329.2.1, .int .i64 t3329.2.2.1, .int .i64 t3329.2.2.2]) 0).run Tryd.prog w = .ok (.int .i64 t3329.1) w := fun _ => by kernel_rfl
        replace HS : Aside0 (Sep FF w [b7 g3190 g3192 a3200 a3201 a3202 a3203, b6 g3192 A3195 l3194.length n3197 a3199, r5 A3195 l3194.length n3197 l3194, b9 g3207 g3190, b10 g3209 a3210] w3331) := ⟨HS.out.sub (.cons_cons _ (.cons_cons _ (.cons_cons _ (.cons_cons _ (.cons_cons _ (.cons _ .slnil))))))⟩
        go_wp2_with fail
        clear fl3332
        go_ret
        rw [← some_eq H]
        exact ⟨(by first | rfl | (simp [IntKind.wrap_u32]; done)), HS.out⟩
      · replace H := if_no c3333 H
        have c3333b0 : decide (t3329.1 ≤ a3205) = false := decide_eq_false c3333
        clear c3333
        have fl3332 : ∀ w, (Instr.field 30 (.agg #[.int .i64 t3329.1, .int .i64 t3329.2.1, .int .i64 t3329.2.2.1, .int .i64 t3329.2.2.2]) 0).run Tryd.prog w = .ok (.int .i64 t3329.1) w := fun _ => by kernel_rfl
        have hc3334 : w3331.cell? ⟨g3317, 2, none⟩ = some (.int .i64 t3314.2.2.1) := blk_cellv (HS.out.at5) 2 rfl
        go_wp2_with fail
        clear fl3332 hc3334
        obtain ⟨t3335, HA3336, H⟩ := bind_some H
        refine (ground_Ground_Reg.calls l3194 a3199 a3200 a3201 a3202 a3203 t3314.2.2.1 g3190 g3192 A3195 l3194.length n3197 t3335 _ ⟨HGl0.out.pass HS.out⟩ ⟨HS.out.begin⟩ HA3336).mono ?_
        rintro e_ w3337 ⟨rfl, hS⟩
        replace HS : Aside0 (Sep FF w [b7 g3190 g3192 a3200 a3201 a3202 a3203, b6 g3192 A3195 l3194.length n3197 t3335.2, r5 A3195 l3194.length n3197 l3194, b9 g3207 g3190, b10 g3209 a3210, b8 g3317 t3314.1 t3314.2.1 t3314.2.2.1] w3337) := ⟨HS.out.call hS⟩
        clear hS
        have hc3338 : w3337.cell? ⟨g3317, 0, none⟩ = some (.int .i64 t3314.1) := blk_cellv (HS.out.at5) 0 rfl
        have hc3339 : w3337.cell? ⟨g3317, 1, none⟩ = some (.int .i64 t3314.2.1) := blk_cellv (HS.out.at5) 1 rfl
        have hc3340 : w3337.cell? ⟨g3317, 2, none⟩ = some (.int .i64 t3314.2.2.1) := blk_cellv (HS.out.at5) 2 rfl
        go_wp2_with fail
        clear hc3338 hc3339 hc3340
        replace HS : Aside0 (Sep FF w [b10 g3209 a3210, b7 g3190 g3192 a3200 a3201 a3202 a3203, b6 g3192 A3195 l3194.length n3197 t3335.2, r5 A3195 l3194.length n3197 l3194, b9 g3207 g3190, b8 g3317 t3314.1 t3314.2.1 t3314.2.2.1] w3337) := ⟨HS.out.front 4 (by simp)⟩
        replace HS : Aside0 (Sep FF w [r5 A3195 l3194.length n3197 l3194, b10 g3209 a3210, b7 g3190 g3192 a3200 a3201 a3202 a3203, b6 g3192 A3195 l3194.length n3197 t3335.2, b9 g3207 g3190, b8 g3317 t3314.1 t3314.2.1 t3314.2.2.1] w3337) := ⟨HS.out.front 3 (by simp)⟩
        replace HS : Aside0 (Sep FF w [b6 g3192 A3195 l3194.length n3197 t3335.2, r5 A3195 l3194.length n3197 l3194, b10 g3209 a3210, b7 g3190 g3192 a3200 a3201 a3202 a3203, b9 g3207 g3190, b8 g3317 t3314.1 t3314.2.1 t3314.2.2.1] w3337) := ⟨HS.out.front 3 (by simp)⟩
        replace HS : Aside0 (Sep FF w [b7 g3190 g3192 a3200 a3201 a3202 a3203, b6 g3192 A3195 l3194.length n3197 t3335.2, r5 A3195 l3194.length n3197 l3194, b10 g3209 a3210, b9 g3207 g3190, b8 g3317 t3314.1 t3314.2.1 t3314.2.2.1] w3337) := ⟨HS.out.front 3 (by simp)⟩
        replace HS : Aside0 (Sep FF w [b9 g3207 g3190, b7 g3190 g3192 a3200 a3201 a3202 a3203, b6 g3192 A3195 l3194.length n3197 t3335.2, r5 A3195 l3194.length n3197 l3194, b10 g3209 a3210, b8 g3317 t3314.1 t3314.2.1 t3314.2.2.1] w3337) := ⟨HS.out.front 4 (by simp)⟩
        obtain ⟨t3341, HA3342, H⟩ := bind_some H
        refine (chain_Push_1.calls t3314.1 t3314.2.1 t3314.2.2.1 (wrap64 (a3205 + 1)) t3335.1 l3194 t3335.2 a3200 a3201 a3202 a3203 a3210 g3207 g3190 g3192 A3195 l3194.length n3197 g3209 t3341 _ ⟨HGl0.out.pass HS.out⟩ ⟨HS.out.begin⟩ HA3342).mono ?_
        rintro e_ w3343 ⟨rfl, hS⟩
        replace HS : Aside0 (Sep FF w [b9 g3207 g3190, b7 g3190 g3192 a3200 a3201 a3202 a3203, b6 g3192 A3195 l3194.length n3197 t3341.1, r5 A3195 l3194.length n3197 t3341.2, b10 g3209 a3210, b8 g3317 t3314.1 t3314.2.1 t3314.2.2.1] w3343) := ⟨HS.out.call hS⟩
        clear hS
        have hc3344 : w3343.cell? ⟨g3317, 2, none⟩ = some (.int .i64 t3314.2.2.1) := blk_cellv (HS.out.at5) 2 rfl
        go_wp2_with fail
        clear hc3344
        replace HS : Aside0 (Sep FF w [r5 A3195 l3194.length n3197 t3341.2, b9 g3207 g3190, b7 g3190 g3192 a3200 a3201 a3202 a3203, b6 g3192 A3195 l3194.length n3197 t3341.1, b10 g3209 a3210, b8 g3317 t3314.1 t3314.2.1 t3314.2.2.1] w3343) := ⟨HS.out.front 3 (by simp)⟩
        replace HS : Aside0 (Sep FF w [b6 g3192 A3195 l3194.length n3197 t3341.1, r5 A3195 l3194.length n3197 t3341.2, b9 g3207 g3190, b7 g3190 g3192 a3200 a3201 a3202 a3203, b10 g3209 a3210, b8 g3317 t3314.1 t3314.2.1 t3314.2.2.1] w3343) := ⟨HS.out.front 3 (by simp)⟩
        replace HS : Aside0 (Sep FF w [b7 g3190 g3192 a3200 a3201 a3202 a3203, b6 g3192 A3195 l3194.length n3197 t3341.1, r5 A3195 l3194.length n3197 t3341.2, b9 g3207 g3190, b10 g3209 a3210, b8 g3317 t3314.1 t3314.2.1 t3314.2.2.1] w3343) := ⟨HS.out.front 3 (by simp)⟩
        obtain ⟨t3345, HA3346, H⟩ := bind_some H
        refine (ground_Ground_SetReg.calls t3341.2 t3341.1 a3200 a3201 a3202 a3203 t3314.2.2.1 (wrap64 (t3335.1 + 1)) g3190 g3192 A3195 l3194.length n3197 t3345 _ ⟨HGl0.out.pass HS.out⟩ ⟨HS.out.begin⟩ HA3346).mono ?_
        rintro e_ w3347 ⟨rfl, hS⟩
        replace HS : Aside0 (Sep FF w [b7 g3190 g3192 a3200 a3201 a3202 a3203, b6 g3192 A3195 l3194.length n3197 t3345.2.1, r5 A3195 l3194.length n3197 t3345.2.2, b9 g3207 g3190, b10 g3209 a3210, b8 g3317 t3314.1 t3314.2.1 t3314.2.2.1] w3347) := ⟨HS.out.call hS⟩
        clear hS
        replace HS : Aside0 (Sep FF w [b7 g3190 g3192 a3200 a3201 a3202 a3203, b6 g3192 A3195 l3194.length n3197 t3345.2.1, r5 A3195 l3194.length n3197 t3345.2.2, b9 g3207 g3190, b10 g3209 a3210] w3347) := ⟨HS.out.sub (.cons_cons _ (.cons_cons _ (.cons_cons _ (.cons_cons _ (.cons_cons _ (.cons _ .slnil))))))⟩
        go_wp2_with fail
        go_ret
        rw [← some_eq H]
        exact ⟨(by first | rfl | (simp [IntKind.wrap_u32]; done)), HS.out⟩
  · replace H := if_no c3327 H
    have c3327b0 : t3314.2.2.2 = false := by simpa using c3327
    have c3327b1 : (!t3314.2.2.2) = true := by rw [c3327b0]; rfl
    try rw [c3327b1]
    clear c3327
    go_wp2_with (first | ((with_reducible refine gate_dst (N := 9) rfl ?_); refine box_on ?hg (N := 9) ?hd (cs := #[.int .i64 0, .int .i64 0, .int .i64 0]) (t := 166) ?hr ?_; (case hd => rfl); (case hg => rfl); (case hr => first | (go_simp; done) | (go_simp; rfl)); intro g3317 hg w3318 hbox hb; replace HS : Aside0 (Sep FF w [b7 g3190 g3192 a3200 a3201 a3202 a3203, b6 g3192 A3195 l3194.length n3197 a3199, r5 A3195 l3194.length n3197 l3194, b9 g3207 g3190, b10 g3209 a3210, b8 g3317 0 0 0] w3318) := ⟨HS.out.box hg hbox hb⟩; clear hg hbox hb; have hc3320 : w3318.cell? ⟨g3317, 0, none⟩ = some (.int .i64 0) := blk_cellv (HS.out.at5) 0 rfl; have hz3321 : w3318.frozen? ⟨g3317, 0, none⟩ = false := blk_fz (HS.out.at5) 0; have hc3322 : w3318.cell? ⟨g3317, 1, none⟩ = some (.int .i64 0) := blk_cellv (HS.out.at5) 1 rfl; have hz3323 : w3318.frozen? ⟨g3317, 1, none⟩ = false := blk_fz (HS.out.at5) 1; have hc3324 : w3318.cell? ⟨g3317, 2, none⟩ = some (.int .i64 0) := blk_cellv (HS.out.at5) 2 rfl; have hz3325 : w3318.frozen? ⟨g3317, 2, none⟩ = false := blk_fz (HS.out.at5) 2) | ((with_reducible refine gate_store (t := 166) (p := 9) rfl ?_); refine store_event (w1 := (World.setCell (World.setCell (World.setCell w3318 ⟨g3317, 0, none⟩ (.int .i64 t3314.1)) ⟨g3317, 1, none⟩ (.int .i64 t3314.2.1)) ⟨g3317, 2, none⟩ (.int .i64 t3314.2.2.1))) rfl (t := 166) (p := 9) rfl rfl ?hr ?_; (case hr => first | (go_simp; done) | (go_simp; rfl)); intro w3326 hst; clear hc3320 hz3321 hc3322 hz3323 hc3324 hz3325; replace HS : Aside0 (Sep FF w [b7 g3190 g3192 a3200 a3201 a3202 a3203, b6 g3192 A3195 l3194.length n3197 a3199, r5 A3195 l3194.length n3197 l3194, b9 g3207 g3190, b10 g3209 a3210, b8 g3317 t3314.1 t3314.2.1 t3314.2.2.1] w3326) := ⟨by rw [hst]; exact HS.out.setAll (l1 := [b7 g3190 g3192 a3200 a3201 a3202 a3203, b6 g3192 A3195 l3194.length n3197 a3199, r5 A3195 l3194.length n3197 l3194, b9 g3207 g3190, b10 g3209 a3210]) (l2 := []) [.int .i64 t3314.1, .int .i64 t3314.2.1, .int .i64 t3314.2.2.1] rfl⟩; clear hst; replace HS : Aside0 (Sep FF w [b7 g3190 g3192 a3200 a3201 a3202 a3203, b6 g3192 A3195 l3194.length n3197 a3199, r5 A3195 l3194.length n3197 l3194, b9 g3207 g3190, b10 g3209 a3210] w3326) := ⟨HS.out.sub (.cons_cons _ (.cons_cons _ (.cons_cons _ (.cons_cons _ (.cons_cons _ (.cons _ .slnil))))))⟩))
    go_ret
    rw [← some_eq H]
    exact ⟨(by first | rfl | (simp [IntKind.wrap_u32]; done)), HS.out⟩

set_option maxHeartbeats 30000000 in
set_option maxRecDepth 100000 in
theorem chain_Push.calls (l3169 : List Int) (a3174 : Int) (a3175 : Int) (a3176 : Int) (a3177 : Int) (a3178 : Int) (a3179 : Int) (a3180 : Int) (g3165 : Nat) (g3167 : Nat) (A3170 : Option Addr) (m3171 : Nat) (n3172 : Nat) (r : Bool × Int × List Int) (w : World)  (HGl0 : Aside0 (Gl 0 #[.int .i64 0, .int .i64 0, .int .i64 0, .int .i64 0, .int .i64 0] (fps [b7 g3165 g3167 a3175 a3176 a3177 a3178, b6 g3167 A3170 m3171 n3172 a3174, r5 A3170 m3171 n3172 l3169]) w)) (HS : Aside0 (Sep (fps [b7 g3165 g3167 a3175 a3176 a3177 a3178, b6 g3167 A3170 m3171 n3172 a3174, r5 A3170 m3171 n3172 l3169]) w [b7 g3165 g3167 a3175 a3176 a3177 a3178, b6 g3167 A3170 m3171 n3172 a3174, r5 A3170 m3171 n3172 l3169] w)) (H : Aside0 (chain_Push.f l3169 a3174 a3175 a3176 a3177 a3178 a3179 a3180 = some r)) :
    Calls Tryd.prog 140 #[.pointer (some ⟨g3165, 0, none⟩), .int .i64 a3179, .int .i64 a3180] w fun e w' => e = .returned (.bool r.1) ∧ Sep (fps [b7 g3165 g3167 a3175 a3176 a3177 a3178, b6 g3167 A3170 m3171 n3172 a3174, r5 A3170 m3171 n3172 l3169]) w [b7 g3165 g3167 a3175 a3176 a3177 a3178, b6 g3167 A3170 m3171 n3172 r.2.1, r5 A3170 m3171 n3172 r.2.2] w' := by
  generalize (fps [b7 g3165 g3167 a3175 a3176 a3177 a3178, b6 g3167 A3170 m3171 n3172 a3174, r5 A3170 m3171 n3172 l3169]) = FF at HS HGl0 ⊢
  obtain rfl := (row_len (HS.out.at2)).symm
  unfold chain_Push.f at H
  go_enter Tryd.func140, Tryd.ntmps140
  go_wp2_with (first | ((with_reducible refine gate_dst (N := 3) rfl ?_); refine box_on ?hg (N := 3) ?hd (cs := #[.pointer (some ⟨g3165, 0, none⟩)]) (t := 25) ?hr ?_; (case hd => rfl); (case hg => rfl); (case hr => first | (go_simp; done) | (go_simp; rfl)); intro g3351 hg w3352 hbox hb; replace HS : Aside0 (Sep FF w [b7 g3165 g3167 a3175 a3176 a3177 a3178, b6 g3167 A3170 l3169.length n3172 a3174, r5 A3170 l3169.length n3172 l3169, b9 g3351 g3165] w3352) := ⟨HS.out.box hg hbox hb⟩; clear hg hbox hb) | ((with_reducible refine gate_dst (N := 5) rfl ?_); refine box_on ?hg (N := 5) ?hd (cs := #[.int .i64 a3180]) (t := 3) ?hr ?_; (case hd => rfl); (case hg => rfl); (case hr => first | (go_simp; done) | (go_simp; rfl)); intro g3354 hg w3355 hbox hb; replace HS : Aside0 (Sep FF w [b7 g3165 g3167 a3175 a3176 a3177 a3178, b6 g3167 A3170 l3169.length n3172 a3174, r5 A3170 l3169.length n3172 l3169, b9 g3351 g3165, b10 g3354 a3180] w3355) := ⟨HS.out.box hg hbox hb⟩; clear hg hbox hb; have hc3357 : w3355.cell? ⟨g3351, 0, none⟩ = some (.pointer (some ⟨g3165, 0, none⟩)) := blk_cellv (HS.out.at3) 0 rfl; have hc3358 : w3355.cell? ⟨g3354, 0, none⟩ = some (.int .i64 a3180) := blk_cellv (HS.out.at4) 0 rfl))
  clear hc3357 hc3358
  obtain ⟨t3359, HA3360, H⟩ := bind_some H
  refine (chain_put_F156.calls l3169 a3174 a3175 a3176 a3177 a3178 a3179 a3180 a3180 g3165 g3167 A3170 l3169.length n3172 g3351 g3354 t3359 _ ⟨HGl0.out.pass HS.out⟩ ⟨HS.out.begin⟩ HA3360).mono ?_
  rintro e_ w3361 ⟨rfl, hS⟩
  replace HS : Aside0 (Sep FF w [b7 g3165 g3167 a3175 a3176 a3177 a3178, b6 g3167 A3170 l3169.length n3172 t3359.2.1, r5 A3170 l3169.length n3172 t3359.2.2, b9 g3351 g3165, b10 g3354 a3180] w3361) := ⟨HS.out.call hS⟩
  clear hS
  replace HS : Aside0 (Sep FF w [b7 g3165 g3167 a3175 a3176 a3177 a3178, b6 g3167 A3170 l3169.length n3172 t3359.2.1, r5 A3170 l3169.length n3172 t3359.2.2] w3361) := ⟨HS.out.sub (.cons_cons _ (.cons_cons _ (.cons_cons _ (.cons _ (.cons _ .slnil)))))⟩
  go_wp2_with fail
  go_ret
  rw [← some_eq H]
  exact ⟨(by first | rfl | (simp [IntKind.wrap_u32]; done)), HS.out⟩

set_option maxHeartbeats 30000000 in
set_option maxRecDepth 100000 in
theorem pool_Give.calls (l3134 : List Int) (a3139 : Int) (a3140 : Int) (a3141 : Int) (a3142 : Int) (a3143 : Int) (a3144 : Int) (g3130 : Nat) (g3132 : Nat) (A3135 : Option Addr) (m3136 : Nat) (n3137 : Nat) (r : Bool × Int × List Int) (w : World)  (HGl0 : Aside0 (Gl 0 #[.int .i64 0, .int .i64 0, .int .i64 0, .int .i64 0, .int .i64 0] (fps [b7 g3130 g3132 a3140 a3141 a3142 a3143, b6 g3132 A3135 m3136 n3137 a3139, r5 A3135 m3136 n3137 l3134]) w)) (HS : Aside0 (Sep (fps [b7 g3130 g3132 a3140 a3141 a3142 a3143, b6 g3132 A3135 m3136 n3137 a3139, r5 A3135 m3136 n3137 l3134]) w [b7 g3130 g3132 a3140 a3141 a3142 a3143, b6 g3132 A3135 m3136 n3137 a3139, r5 A3135 m3136 n3137 l3134] w)) (H : Aside0 (pool_Give.f l3134 a3139 a3140 a3141 a3142 a3143 a3144 = some r)) :
    Calls Tryd.prog 106 #[.pointer (some ⟨g3130, 0, none⟩), .int .i64 a3144] w fun e w' => e = .returned (.bool r.1) ∧ Sep (fps [b7 g3130 g3132 a3140 a3141 a3142 a3143, b6 g3132 A3135 m3136 n3137 a3139, r5 A3135 m3136 n3137 l3134]) w [b7 g3130 g3132 a3140 a3141 a3142 a3143, b6 g3132 A3135 m3136 n3137 r.2.1, r5 A3135 m3136 n3137 r.2.2] w' := by
  generalize (fps [b7 g3130 g3132 a3140 a3141 a3142 a3143, b6 g3132 A3135 m3136 n3137 a3139, r5 A3135 m3136 n3137 l3134]) = FF at HS HGl0 ⊢
  obtain rfl := (row_len (HS.out.at2)).symm
  unfold pool_Give.f at H
  go_enter Tryd.func106, Tryd.ntmps106
  go_wp2_with fail
  obtain ⟨t3365, HA3366, H⟩ := bind_some H
  refine (ground_Ground_Word.calls l3134 a3139 a3140 a3141 a3142 a3143 a3144 0 g3130 g3132 A3135 l3134.length n3137 t3365 _ ⟨HGl0.out.pass HS.out⟩ ⟨HS.out.begin⟩ HA3366).mono ?_
  rintro e_ w3367 ⟨rfl, hS⟩
  replace HS : Aside0 (Sep FF w [b7 g3130 g3132 a3140 a3141 a3142 a3143, b6 g3132 A3135 l3134.length n3137 t3365.2, r5 A3135 l3134.length n3137 l3134] w3367) := ⟨HS.out.call hS⟩
  clear hS
  go_wp2_with fail
  obtain ⟨t3368, HA3369, H⟩ := bind_some H
  refine (tag_Unpack.calls t3365.1 t3368 _ ⟨HGl0.out.pass (l := []) HS.out⟩ ⟨Sep.start _⟩ HA3369).mono ?_
  rintro e_ w3370 ⟨rfl, hS⟩
  replace HS : Aside0 (Sep FF w [b7 g3130 g3132 a3140 a3141 a3142 a3143, b6 g3132 A3135 l3134.length n3137 t3365.2, r5 A3135 l3134.length n3137 l3134] w3370) := ⟨HS.out.call hS⟩
  clear hS
  by_cases c3372 : t3368.1 = 0
  · replace H := if_yes c3372 H
    have c3372b0 : (t3368.1 == 0) = true := beq_iff_eq.mpr c3372
    have c3372b1 : (t3368.1 != 0) = false := bne_eq_false_iff_eq.mpr c3372
    clear c3372
    have fl3371 : ∀ w, (Instr.field 32 (.agg #[.int .i64 t3368.1, .int .i64 t3368.2.1, .int .i64 t3368.2.2.1, .int .i64 t3368.2.2.2.1, .int .i64 t3368.2.2.2.2.1, .int .i64 t3368.2.2.2.2.2.1, .int .i64 t3368.2.2.2.2.2.2]) 0).run Tryd.prog w = .ok (.int .i64 t3368.1) w := fun _ => by kernel_rfl
    go_wp2_with fail
    clear fl3371
    go_ret
    rw [← some_eq H]
    exact ⟨(by first | rfl | (simp [IntKind.wrap_u32]; done)), HS.out⟩
  · replace H := if_no c3372 H
    have c3372b0 : (t3368.1 == 0) = false := beq_eq_false_iff_ne.mpr c3372
    have c3372b1 : (t3368.1 != 0) = true := bne_iff_ne.mpr c3372
    clear c3372
    have fl3371 : ∀ w, (Instr.field 32 (.agg #[.int .i64 t3368.1, .int .i64 t3368.2.1, .int .i64 t3368.2.2.1, .int .i64 t3368.2.2.2.1, .int .i64 t3368.2.2.2.2.1, .int .i64 t3368.2.2.2.2.2.1, .int .i64 t3368.2.2.2.2.2.2]) 0).run Tryd.prog w = .ok (.int .i64 t3368.1) w := fun _ => by kernel_rfl
    go_wp2_with fail
    clear fl3371
    obtain ⟨t3373, HA3374, H⟩ := bind_some H
    refine (ground_Ground_SetWord.calls l3134 t3365.2 a3140 a3141 a3142 a3143 a3144 0 0 g3130 g3132 A3135 l3134.length n3137 t3373 _ ⟨HGl0.out.pass HS.out⟩ ⟨HS.out.begin⟩ HA3374).mono ?_
    rintro e_ w3375 ⟨rfl, hS⟩
    replace HS : Aside0 (Sep FF w [b7 g3130 g3132 a3140 a3141 a3142 a3143, b6 g3132 A3135 l3134.length n3137 t3373.2.1, r5 A3135 l3134.length n3137 t3373.2.2] w3375) := ⟨HS.out.call hS⟩
    clear hS
    go_wp2_with fail
    obtain ⟨t3376, HA3377, H⟩ := bind_some H
    refine (chain_Push.calls t3373.2.2 t3373.2.1 a3140 a3141 a3142 a3143 0 a3144 g3130 g3132 A3135 l3134.length n3137 t3376 _ ⟨HGl0.out.pass HS.out⟩ ⟨HS.out.begin⟩ HA3377).mono ?_
    rintro e_ w3378 ⟨rfl, hS⟩
    replace HS : Aside0 (Sep FF w [b7 g3130 g3132 a3140 a3141 a3142 a3143, b6 g3132 A3135 l3134.length n3137 t3376.2.1, r5 A3135 l3134.length n3137 t3376.2.2] w3378) := ⟨HS.out.call hS⟩
    clear hS
    go_wp2_with fail
    go_ret
    rw [← some_eq H]
    exact ⟨(by first | rfl | (simp [IntKind.wrap_u32]; done)), HS.out⟩

set_option maxHeartbeats 30000000 in
set_option maxRecDepth 100000 in
theorem obj_Shed.calls (k : Nat) (l3100 : List Int) (a3105 : Int) (a3106 : Int) (a3107 : Int) (a3108 : Int) (a3109 : Int) (a3110 : Int) (a3111 : Int) (g3096 : Nat) (g3098 : Nat) (A3101 : Option Addr) (m3102 : Nat) (n3103 : Nat) (r : Bool × Int × List Int) (w : World)  (HGl0 : Aside0 (Gl 0 #[.int .i64 0, .int .i64 0, .int .i64 0, .int .i64 0, .int .i64 0] (fps [b7 g3096 g3098 a3106 a3107 a3108 a3109, b6 g3098 A3101 m3102 n3103 a3105, r5 A3101 m3102 n3103 l3100]) w)) (HS : Aside0 (Sep (fps [b7 g3096 g3098 a3106 a3107 a3108 a3109, b6 g3098 A3101 m3102 n3103 a3105, r5 A3101 m3102 n3103 l3100]) w [b7 g3096 g3098 a3106 a3107 a3108 a3109, b6 g3098 A3101 m3102 n3103 a3105, r5 A3101 m3102 n3103 l3100] w)) (H : Aside0 (obj_Shed.f k l3100 a3105 a3106 a3107 a3108 a3109 a3110 a3111 = some r)) :
    Calls Tryd.prog 46 #[.pointer (some ⟨g3096, 0, none⟩), .int .i64 a3110, .int .i64 a3111] w fun e w' => e = .returned (.bool r.1) ∧ Sep (fps [b7 g3096 g3098 a3106 a3107 a3108 a3109, b6 g3098 A3101 m3102 n3103 a3105, r5 A3101 m3102 n3103 l3100]) w [b7 g3096 g3098 a3106 a3107 a3108 a3109, b6 g3098 A3101 m3102 n3103 r.2.1, r5 A3101 m3102 n3103 r.2.2] w' := by
  generalize (fps [b7 g3096 g3098 a3106 a3107 a3108 a3109, b6 g3098 A3101 m3102 n3103 a3105, r5 A3101 m3102 n3103 l3100]) = FF at HS HGl0 ⊢
  obtain rfl := (row_len (HS.out.at2)).symm
  unfold obj_Shed.f at H
  go_enter Tryd.func46, Tryd.ntmps46
  by_cases c3382 : a3111 < 0
  · replace H := if_yes c3382 H
    have c3382b0 : decide (a3111 < 0) = true := decide_eq_true c3382
    clear c3382
    go_wp2_with fail
    go_ret
    rw [← some_eq H]
    exact ⟨(by first | rfl | (simp [IntKind.wrap_u32]; done)), HS.out⟩
  · replace H := if_no c3382 H
    have c3382b0 : decide (a3111 < 0) = false := decide_eq_false c3382
    clear c3382
    go_wp2_with fail
    obtain ⟨t3383, HA3384, H⟩ := bind_some H
    refine (obj_Blocks.calls _ l3100 a3105 a3106 a3107 a3108 a3109 a3110 g3096 g3098 A3101 l3100.length n3103 t3383 _ ⟨HGl0.out.pass HS.out⟩ ⟨HS.out.begin⟩ HA3384).mono ?_
    rintro e_ w3385 ⟨rfl, hS⟩
    replace HS : Aside0 (Sep FF w [b7 g3096 g3098 a3106 a3107 a3108 a3109, b6 g3098 A3101 l3100.length n3103 t3383.2, r5 A3101 l3100.length n3103 l3100] w3385) := ⟨HS.out.call hS⟩
    clear hS
    by_cases c3386 : a3111 ≥ (wrap64 (t3383.1 - 1))
    · replace H := if_yes c3386 H
      have c3386b0 : decide ((wrap64 (t3383.1 - 1)) ≤ a3111) = true := decide_eq_true c3386
      clear c3386
      go_wp2_with fail
      go_ret
      rw [← some_eq H]
      exact ⟨(by first | rfl | (simp [IntKind.wrap_u32]; done)), HS.out⟩
    · replace H := if_no c3386 H
      have c3386b0 : decide ((wrap64 (t3383.1 - 1)) ≤ a3111) = false := decide_eq_false c3386
      clear c3386
      go_wp2_with fail
      obtain ⟨t3387, HA3388, H⟩ := bind_some H
      refine (ground_Ground_Word.calls l3100 t3383.2 a3106 a3107 a3108 a3109 (wrap64 (a3110 - 1)) (wrap64 (8 + a3111)) g3096 g3098 A3101 l3100.length n3103 t3387 _ ⟨HGl0.out.pass HS.out⟩ ⟨HS.out.begin⟩ HA3388).mono ?_
      rintro e_ w3389 ⟨rfl, hS⟩
      replace HS : Aside0 (Sep FF w [b7 g3096 g3098 a3106 a3107 a3108 a3109, b6 g3098 A3101 l3100.length n3103 t3387.2, r5 A3101 l3100.length n3103 l3100] w3389) := ⟨HS.out.call hS⟩
      clear hS
      by_cases c3390 : (wrap64 (t3387.1)) = 0
      · replace H := if_yes c3390 H
        have c3390b0 : ((wrap64 (t3387.1)) == 0) = true := beq_iff_eq.mpr c3390
        have c3390b1 : ((wrap64 (t3387.1)) != 0) = false := bne_eq_false_iff_eq.mpr c3390
        clear c3390
        go_wp2_with fail
        go_ret
        rw [← some_eq H]
        exact ⟨(by first | rfl | (simp [IntKind.wrap_u32]; done)), HS.out⟩
      · replace H := if_no c3390 H
        have c3390b0 : ((wrap64 (t3387.1)) == 0) = false := beq_eq_false_iff_ne.mpr c3390
        have c3390b1 : ((wrap64 (t3387.1)) != 0) = true := bne_iff_ne.mpr c3390
        clear c3390
        go_wp2_with fail
        obtain ⟨t3391, HA3392, H⟩ := bind_some H
        refine (ground_Ground_SetWord.calls l3100 t3387.2 a3106 a3107 a3108 a3109 (wrap64 (a3110 - 1)) (wrap64 (8 + a3111)) 0 g3096 g3098 A3101 l3100.length n3103 t3391 _ ⟨HGl0.out.pass HS.out⟩ ⟨HS.out.begin⟩ HA3392).mono ?_
        rintro e_ w3393 ⟨rfl, hS⟩
        replace HS : Aside0 (Sep FF w [b7 g3096 g3098 a3106 a3107 a3108 a3109, b6 g3098 A3101 l3100.length n3103 t3391.2.1, r5 A3101 l3100.length n3103 t3391.2.2] w3393) := ⟨HS.out.call hS⟩
        clear hS
        go_wp2_with fail
        obtain ⟨t3394, HA3395, H⟩ := bind_some H
        refine (pool_Give.calls t3391.2.2 t3391.2.1 a3106 a3107 a3108 a3109 (wrap64 ((wrap64 (t3387.1)) - 1)) g3096 g3098 A3101 l3100.length n3103 t3394 _ ⟨HGl0.out.pass HS.out⟩ ⟨HS.out.begin⟩ HA3395).mono ?_
        rintro e_ w3396 ⟨rfl, hS⟩
        replace HS : Aside0 (Sep FF w [b7 g3096 g3098 a3106 a3107 a3108 a3109, b6 g3098 A3101 l3100.length n3103 t3394.2.1, r5 A3101 l3100.length n3103 t3394.2.2] w3396) := ⟨HS.out.call hS⟩
        clear hS
        go_wp2_with fail
        go_ret
        rw [← some_eq H]
        exact ⟨(by first | rfl | (simp [IntKind.wrap_u32]; done)), HS.out⟩

set_option maxHeartbeats 30000000 in
set_option maxRecDepth 100000 in
theorem store_Store_Peek.calls (l3476 : List Int) (a3481 : Int) (a3482 : Int) (g3474 : Nat) (A3477 : Option Addr) (m3478 : Nat) (n3479 : Nat) (r : Int) (w : World)  (HGl0 : Aside0 (Gl 0 #[.int .i64 0, .int .i64 0, .int .i64 0, .int .i64 0, .int .i64 0] (fps [b6 g3474 A3477 m3478 n3479 a3481, r5 A3477 m3478 n3479 l3476]) w)) (HS : Aside0 (Sep (fps [b6 g3474 A3477 m3478 n3479 a3481, r5 A3477 m3478 n3479 l3476]) w [b6 g3474 A3477 m3478 n3479 a3481, r5 A3477 m3478 n3479 l3476] w)) (H : Aside0 (store_Store_Peek.f l3476 a3481 a3482 = some r)) :
    Calls Tryd.prog 73 #[.pointer (some ⟨g3474, 0, none⟩), .int .i64 a3482] w fun e w' => e = .returned (.int .u32 r) ∧ Sep (fps [b6 g3474 A3477 m3478 n3479 a3481, r5 A3477 m3478 n3479 l3476]) w [b6 g3474 A3477 m3478 n3479 a3481, r5 A3477 m3478 n3479 l3476] w' := by
  generalize (fps [b6 g3474 A3477 m3478 n3479 a3481, r5 A3477 m3478 n3479 l3476]) = FF at HS HGl0 ⊢
  obtain rfl := (row_len (HS.out.at1)).symm
  unfold store_Store_Peek.f at H
  go_enter Tryd.func73, Tryd.ntmps73
  go_wp2_with fail
  obtain ⟨t3483, HA3484, H⟩ := bind_some H
  refine (store_Store_has.calls l3476 a3481 a3482 g3474 A3477 l3476.length n3479 t3483 _ ⟨HGl0.out.pass HS.out⟩ ⟨HS.out.begin⟩ HA3484).mono ?_
  rintro e_ w3485 ⟨rfl, hS⟩
  replace HS : Aside0 (Sep FF w [b6 g3474 A3477 l3476.length n3479 a3481, r5 A3477 l3476.length n3479 l3476] w3485) := ⟨HS.out.call hS⟩
  clear hS
  by_cases c3486 : t3483 = true
  · replace H := if_yes c3486 H
    have c3486b0 : t3483 = true := c3486
    have c3486b1 : (!t3483) = false := by rw [c3486b0]; rfl
    try rw [c3486b1]
    clear c3486
    by_cases c3488 : 0 ≤ a3482
    · replace H := if_yes c3488 H
      have c3488b0 : decide (0 ≤ a3482) = true := decide_eq_true c3488
      have c3488p : (0 ≤ a3482) = True := eq_true c3488
      clear c3488
      by_cases c3489 : a3482 < (l3476.length : Int)
      · replace H := if_yes c3489 H
        have c3489b0 : decide (a3482 < (l3476.length : Int)) = true := decide_eq_true c3489
        have c3489p : (a3482 < (l3476.length : Int)) = True := eq_true c3489
        clear c3489
        have hc3487 : w3485.cell? ⟨g3474, 0, none⟩ = some (.slice A3477 l3476.length n3479) := blk_cellv (HS.out.at0) 0 rfl
        obtain ⟨g3490, ea⟩ := row_at (HS.out.at1) (by have := (of_decide_eq_true c3488b0); have := (of_decide_eq_true c3489b0); omega); cases ea
        have hx3491 := C_at_int (row_Ci (HS.out.at1)) a3482 (of_decide_eq_true c3488b0) (of_decide_eq_true c3489b0)
        have hx3492 : w3485.cell? ⟨g3490, (a3482).toNat, none⟩ = some (.int .u32 (rd l3476 a3482)) := (row_get 0 (HS.out.at1) a3482 (of_decide_eq_true c3488b0) (of_decide_eq_true c3489b0)).1
        go_wp2_with fail
        clear hc3487 hx3491 hx3492
        go_ret
        rw [← some_eq H]
        exact ⟨(by first | rfl | (simp [IntKind.wrap_u32]; done)), HS.out⟩
      · replace H := if_no c3489 H
        have c3489b0 : decide (a3482 < (l3476.length : Int)) = false := decide_eq_false c3489
        clear c3489
        exact (none_no H).elim
    · replace H := if_no c3488 H
      have c3488b0 : decide (0 ≤ a3482) = false := decide_eq_false c3488
      clear c3488
      exact (none_no H).elim
  · replace H := if_no c3486 H
    have c3486b0 : t3483 = false := by simpa using c3486
    have c3486b1 : (!t3483) = true := by rw [c3486b0]; rfl
    try rw [c3486b1]
    clear c3486
    go_wp2_with fail
    go_ret
    rw [← some_eq H]
    exact ⟨(by first | rfl | (simp [IntKind.wrap_u32]; done)), HS.out⟩

set_option maxHeartbeats 30000000 in
set_option maxRecDepth 100000 in
theorem ground_Ground_SeeReg.calls (l3456 : List Int) (a3461 : Int) (a3462 : Int) (a3463 : Int) (a3464 : Int) (a3465 : Int) (a3466 : Int) (g3452 : Nat) (g3454 : Nat) (A3457 : Option Addr) (m3458 : Nat) (n3459 : Nat) (r : Int) (w : World)  (HGl0 : Aside0 (Gl 0 #[.int .i64 0, .int .i64 0, .int .i64 0, .int .i64 0, .int .i64 0] (fps [b7 g3452 g3454 a3462 a3463 a3464 a3465, b6 g3454 A3457 m3458 n3459 a3461, r5 A3457 m3458 n3459 l3456]) w)) (HS : Aside0 (Sep (fps [b7 g3452 g3454 a3462 a3463 a3464 a3465, b6 g3454 A3457 m3458 n3459 a3461, r5 A3457 m3458 n3459 l3456]) w [b7 g3452 g3454 a3462 a3463 a3464 a3465, b6 g3454 A3457 m3458 n3459 a3461, r5 A3457 m3458 n3459 l3456] w)) (H : Aside0 (ground_Ground_SeeReg.f l3456 a3461 a3462 a3463 a3464 a3465 a3466 = some r)) :
    Calls Tryd.prog 85 #[.pointer (some ⟨g3452, 0, none⟩), .int .i64 a3466] w fun e w' => e = .returned (.int .i64 r) ∧ Sep (fps [b7 g3452 g3454 a3462 a3463 a3464 a3465, b6 g3454 A3457 m3458 n3459 a3461, r5 A3457 m3458 n3459 l3456]) w [b7 g3452 g3454 a3462 a3463 a3464 a3465, b6 g3454 A3457 m3458 n3459 a3461, r5 A3457 m3458 n3459 l3456] w' := by
  generalize (fps [b7 g3452 g3454 a3462 a3463 a3464 a3465, b6 g3454 A3457 m3458 n3459 a3461, r5 A3457 m3458 n3459 l3456]) = FF at HS HGl0 ⊢
  obtain rfl := (row_len (HS.out.at2)).symm
  unfold ground_Ground_SeeReg.f at H
  go_enter Tryd.func85, Tryd.ntmps85
  go_wp2_with fail
  obtain ⟨t3467, HA3468, H⟩ := bind_some H
  refine (ground_Ground_all.calls l3456 a3461 a3462 a3463 a3464 a3465 g3452 g3454 A3457 l3456.length n3459 t3467 _ ⟨HGl0.out.pass HS.out⟩ ⟨HS.out.begin⟩ HA3468).mono ?_
  rintro e_ w3469 ⟨rfl, hS⟩
  replace HS : Aside0 (Sep FF w [b7 g3452 g3454 a3462 a3463 a3464 a3465, b6 g3454 A3457 l3456.length n3459 a3461, r5 A3457 l3456.length n3459 l3456] w3469) := ⟨HS.out.call hS⟩
  clear hS
  go_wp2_with fail
  obtain ⟨t3470, HA3471, H⟩ := bind_some H
  refine (ground_reg.calls a3466 t3470 _ ⟨HGl0.out.pass (l := []) HS.out⟩ ⟨Sep.start _⟩ HA3471).mono ?_
  rintro e_ w3472 ⟨rfl, hS⟩
  replace HS : Aside0 (Sep FF w [b7 g3452 g3454 a3462 a3463 a3464 a3465, b6 g3454 A3457 l3456.length n3459 a3461, r5 A3457 l3456.length n3459 l3456] w3472) := ⟨HS.out.call hS⟩
  clear hS
  go_wp2_with fail
  replace HS : Aside0 (Sep FF w [r5 A3457 l3456.length n3459 l3456, b7 g3452 g3454 a3462 a3463 a3464 a3465, b6 g3454 A3457 l3456.length n3459 a3461] w3472) := ⟨HS.out.front 2 (by simp)⟩
  replace HS : Aside0 (Sep FF w [b6 g3454 A3457 l3456.length n3459 a3461, r5 A3457 l3456.length n3459 l3456, b7 g3452 g3454 a3462 a3463 a3464 a3465] w3472) := ⟨HS.out.front 2 (by simp)⟩
  obtain ⟨t3493, HA3494, H⟩ := bind_some H
  refine (store_Store_Peek.calls l3456 a3461 t3470 g3454 A3457 l3456.length n3459 t3493 _ ⟨HGl0.out.pass HS.out⟩ ⟨HS.out.begin⟩ HA3494).mono ?_
  rintro e_ w3495 ⟨rfl, hS⟩
  replace HS : Aside0 (Sep FF w [b6 g3454 A3457 l3456.length n3459 a3461, r5 A3457 l3456.length n3459 l3456, b7 g3452 g3454 a3462 a3463 a3464 a3465] w3495) := ⟨HS.out.call hS⟩
  clear hS
  go_wp2_with fail
  go_ret
  rw [← some_eq H]
  exact ⟨(by first | rfl | (simp [IntKind.wrap_u32]; done)), ((((HS.out).front 1 (by simp)).front 1 (by simp)).front 2 (by simp)).keep (l := [b7 g3452 g3454 a3462 a3463 a3464 a3465, b6 g3454 A3457 l3456.length n3459 a3461, r5 A3457 l3456.length n3459 l3456]) (rest := [])⟩

set_option maxHeartbeats 30000000 in
set_option maxRecDepth 100000 in
theorem ground_Ground_SeeWord.calls (l3533 : List Int) (a3538 : Int) (a3539 : Int) (a3540 : Int) (a3541 : Int) (a3542 : Int) (a3543 : Int) (a3544 : Int) (g3529 : Nat) (g3531 : Nat) (A3534 : Option Addr) (m3535 : Nat) (n3536 : Nat) (r : Int) (w : World)  (HGl0 : Aside0 (Gl 0 #[.int .i64 0, .int .i64 0, .int .i64 0, .int .i64 0, .int .i64 0] (fps [b7 g3529 g3531 a3539 a3540 a3541 a3542, b6 g3531 A3534 m3535 n3536 a3538, r5 A3534 m3535 n3536 l3533]) w)) (HS : Aside0 (Sep (fps [b7 g3529 g3531 a3539 a3540 a3541 a3542, b6 g3531 A3534 m3535 n3536 a3538, r5 A3534 m3535 n3536 l3533]) w [b7 g3529 g3531 a3539 a3540 a3541 a3542, b6 g3531 A3534 m3535 n3536 a3538, r5 A3534 m3535 n3536 l3533] w)) (H : Aside0 (ground_Ground_SeeWord.f l3533 a3538 a3539 a3540 a3541 a3542 a3543 a3544 = some r)) :
    Calls Tryd.prog 18 #[.pointer (some ⟨g3529, 0, none⟩), .int .i64 a3543, .int .i64 a3544] w fun e w' => e = .returned (.int .u32 r) ∧ Sep (fps [b7 g3529 g3531 a3539 a3540 a3541 a3542, b6 g3531 A3534 m3535 n3536 a3538, r5 A3534 m3535 n3536 l3533]) w [b7 g3529 g3531 a3539 a3540 a3541 a3542, b6 g3531 A3534 m3535 n3536 a3538, r5 A3534 m3535 n3536 l3533] w' := by
  generalize (fps [b7 g3529 g3531 a3539 a3540 a3541 a3542, b6 g3531 A3534 m3535 n3536 a3538, r5 A3534 m3535 n3536 l3533]) = FF at HS HGl0 ⊢
  obtain rfl := (row_len (HS.out.at2)).symm
  unfold ground_Ground_SeeWord.f at H
  go_enter Tryd.func18, Tryd.ntmps18
  go_wp2_with fail
  obtain ⟨t3545, HA3546, H⟩ := bind_some H
  refine (ground_Ground_all.calls l3533 a3538 a3539 a3540 a3541 a3542 g3529 g3531 A3534 l3533.length n3536 t3545 _ ⟨HGl0.out.pass HS.out⟩ ⟨HS.out.begin⟩ HA3546).mono ?_
  rintro e_ w3547 ⟨rfl, hS⟩
  replace HS : Aside0 (Sep FF w [b7 g3529 g3531 a3539 a3540 a3541 a3542, b6 g3531 A3534 l3533.length n3536 a3538, r5 A3534 l3533.length n3536 l3533] w3547) := ⟨HS.out.call hS⟩
  clear hS
  go_wp2_with fail
  obtain ⟨t3548, HA3549, H⟩ := bind_some H
  refine (ground_Ground_word.calls l3533 a3538 a3539 a3540 a3541 a3542 a3543 a3544 g3529 g3531 A3534 l3533.length n3536 t3548 _ ⟨HGl0.out.pass HS.out⟩ ⟨HS.out.begin⟩ HA3549).mono ?_
  rintro e_ w3550 ⟨rfl, hS⟩
  replace HS : Aside0 (Sep FF w [b7 g3529 g3531 a3539 a3540 a3541 a3542, b6 g3531 A3534 l3533.length n3536 a3538, r5 A3534 l3533.length n3536 l3533] w3550) := ⟨HS.out.call hS⟩
  clear hS
  go_wp2_with fail
  replace HS : Aside0 (Sep FF w [r5 A3534 l3533.length n3536 l3533, b7 g3529 g3531 a3539 a3540 a3541 a3542, b6 g3531 A3534 l3533.length n3536 a3538] w3550) := ⟨HS.out.front 2 (by simp)⟩
  replace HS : Aside0 (Sep FF w [b6 g3531 A3534 l3533.length n3536 a3538, r5 A3534 l3533.length n3536 l3533, b7 g3529 g3531 a3539 a3540 a3541 a3542] w3550) := ⟨HS.out.front 2 (by simp)⟩
  obtain ⟨t3551, HA3552, H⟩ := bind_some H
  refine (store_Store_Peek.calls l3533 a3538 t3548 g3531 A3534 l3533.length n3536 t3551 _ ⟨HGl0.out.pass HS.out⟩ ⟨HS.out.begin⟩ HA3552).mono ?_
  rintro e_ w3553 ⟨rfl, hS⟩
  replace HS : Aside0 (Sep FF w [b6 g3531 A3534 l3533.length n3536 a3538, r5 A3534 l3533.length n3536 l3533, b7 g3529 g3531 a3539 a3540 a3541 a3542] w3553) := ⟨HS.out.call hS⟩
  clear hS
  go_wp2_with fail
  go_ret
  rw [← some_eq H]
  exact ⟨(by first | rfl | (simp [IntKind.wrap_u32]; done)), ((((HS.out).front 1 (by simp)).front 1 (by simp)).front 2 (by simp)).keep (l := [b7 g3529 g3531 a3539 a3540 a3541 a3542, b6 g3531 A3534 l3533.length n3536 a3538, r5 A3534 l3533.length n3536 l3533]) (rest := [])⟩

set_option maxHeartbeats 30000000 in
set_option maxRecDepth 100000 in
theorem chain_List.calls (k : Nat) (l3425 : List Int) (a3430 : Int) (a3431 : Int) (a3432 : Int) (a3433 : Int) (a3434 : Int) (a3435 : Int) (g3421 : Nat) (g3423 : Nat) (A3426 : Option Addr) (m3427 : Nat) (n3428 : Nat) (r : List Int) (w : World)  (HGl0 : Aside0 (Gl 0 #[.int .i64 0, .int .i64 0, .int .i64 0, .int .i64 0, .int .i64 0] (fps [b7 g3421 g3423 a3431 a3432 a3433 a3434, b6 g3423 A3426 m3427 n3428 a3430, r5 A3426 m3427 n3428 l3425]) w)) (HS : Aside0 (Sep (fps [b7 g3421 g3423 a3431 a3432 a3433 a3434, b6 g3423 A3426 m3427 n3428 a3430, r5 A3426 m3427 n3428 l3425]) w [b7 g3421 g3423 a3431 a3432 a3433 a3434, b6 g3423 A3426 m3427 n3428 a3430, r5 A3426 m3427 n3428 l3425] w)) (H : Aside0 (chain_List.f k l3425 a3430 a3431 a3432 a3433 a3434 a3435 = some r)) :
    Calls Tryd.prog 138 #[.pointer (some ⟨g3421, 0, none⟩), .int .i64 a3435] w fun e w' => ∃ (A3584 : Option Addr) (m3585 : Nat) (n3586 : Nat), e = .returned (.slice A3584 m3585 n3586) ∧ Sep (fps [b7 g3421 g3423 a3431 a3432 a3433 a3434, b6 g3423 A3426 m3427 n3428 a3430, r5 A3426 m3427 n3428 l3425]) w [b7 g3421 g3423 a3431 a3432 a3433 a3434, b6 g3423 A3426 m3427 n3428 a3430, r5 A3426 m3427 n3428 l3425, r17 A3584 m3585 n3586 r] w' := by
  generalize (fps [b7 g3421 g3423 a3431 a3432 a3433 a3434, b6 g3423 A3426 m3427 n3428 a3430, r5 A3426 m3427 n3428 l3425]) = FF at HS HGl0 ⊢
  obtain rfl := (row_len (HS.out.at2)).symm
  unfold chain_List.f at H
  go_enter Tryd.func138, Tryd.ntmps138
  go_wp2_with fail
  obtain ⟨t3436, HA3437, H⟩ := bind_some H
  refine (chain_of.calls l3425 a3430 a3431 a3432 a3433 a3434 a3435 g3421 g3423 A3426 l3425.length n3428 t3436 _ ⟨HGl0.out.pass HS.out⟩ ⟨HS.out.begin⟩ HA3437).mono ?_
  rintro e_ w3438 ⟨rfl, hS⟩
  replace HS : Aside0 (Sep FF w [b7 g3421 g3423 a3431 a3432 a3433 a3434, b6 g3423 A3426 l3425.length n3428 a3430, r5 A3426 l3425.length n3428 l3425] w3438) := ⟨HS.out.call hS⟩
  clear hS
  by_cases c3449 : t3436.2.2.2 = true
  · replace H := if_yes c3449 H
    have c3449b0 : t3436.2.2.2 = true := c3449
    have c3449b1 : (!t3436.2.2.2) = false := by rw [c3449b0]; rfl
    try rw [c3449b1]
    clear c3449
    go_wp2_with (first | ((with_reducible refine gate_dst (N := 5) rfl ?_); refine box_on ?hg (N := 5) ?hd (cs := #[.int .i64 0, .int .i64 0, .int .i64 0]) (t := 166) ?hr ?_; (case hd => rfl); (case hg => rfl); (case hr => first | (go_simp; done) | (go_simp; rfl)); intro g3439 hg w3440 hbox hb; replace HS : Aside0 (Sep FF w [b7 g3421 g3423 a3431 a3432 a3433 a3434, b6 g3423 A3426 l3425.length n3428 a3430, r5 A3426 l3425.length n3428 l3425, b8 g3439 0 0 0] w3440) := ⟨HS.out.box hg hbox hb⟩; clear hg hbox hb; have hc3442 : w3440.cell? ⟨g3439, 0, none⟩ = some (.int .i64 0) := blk_cellv (HS.out.at3) 0 rfl; have hz3443 : w3440.frozen? ⟨g3439, 0, none⟩ = false := blk_fz (HS.out.at3) 0; have hc3444 : w3440.cell? ⟨g3439, 1, none⟩ = some (.int .i64 0) := blk_cellv (HS.out.at3) 1 rfl; have hz3445 : w3440.frozen? ⟨g3439, 1, none⟩ = false := blk_fz (HS.out.at3) 1; have hc3446 : w3440.cell? ⟨g3439, 2, none⟩ = some (.int .i64 0) := blk_cellv (HS.out.at3) 2 rfl; have hz3447 : w3440.frozen? ⟨g3439, 2, none⟩ = false := blk_fz (HS.out.at3) 2) | ((with_reducible refine gate_store (t := 166) (p := 5) rfl ?_); refine store_event (w1 := (World.setCell (World.setCell (World.setCell w3440 ⟨g3439, 0, none⟩ (.int .i64 t3436.1)) ⟨g3439, 1, none⟩ (.int .i64 t3436.2.1)) ⟨g3439, 2, none⟩ (.int .i64 t3436.2.2.1))) rfl (t := 166) (p := 5) rfl rfl ?hr ?_; (case hr => first | (go_simp; done) | (go_simp; rfl)); intro w3448 hst; clear hc3442 hz3443 hc3444 hz3445 hc3446 hz3447; replace HS : Aside0 (Sep FF w [b7 g3421 g3423 a3431 a3432 a3433 a3434, b6 g3423 A3426 l3425.length n3428 a3430, r5 A3426 l3425.length n3428 l3425, b8 g3439 t3436.1 t3436.2.1 t3436.2.2.1] w3448) := ⟨by rw [hst]; exact HS.out.setAll (l1 := [b7 g3421 g3423 a3431 a3432 a3433 a3434, b6 g3423 A3426 l3425.length n3428 a3430, r5 A3426 l3425.length n3428 l3425]) (l2 := []) [.int .i64 t3436.1, .int .i64 t3436.2.1, .int .i64 t3436.2.2.1] rfl⟩; clear hst; have hc3450 : w3448.cell? ⟨g3439, 0, none⟩ = some (.int .i64 t3436.1) := blk_cellv (HS.out.at3) 0 rfl))
    clear hc3450
    obtain ⟨t3496, HA3497, H⟩ := bind_some H
    refine (ground_Ground_SeeReg.calls l3425 a3430 a3431 a3432 a3433 a3434 t3436.1 g3421 g3423 A3426 l3425.length n3428 t3496 _ ⟨HGl0.out.pass HS.out⟩ ⟨HS.out.begin⟩ HA3497).mono ?_
    rintro e_ w3498 ⟨rfl, hS⟩
    replace HS : Aside0 (Sep FF w [b7 g3421 g3423 a3431 a3432 a3433 a3434, b6 g3423 A3426 l3425.length n3428 a3430, r5 A3426 l3425.length n3428 l3425, b8 g3439 t3436.1 t3436.2.1 t3436.2.2.1] w3498) := ⟨HS.out.call hS⟩
    clear hS
    replace HS : Aside0 (Sep FF w [b7 g3421 g3423 a3431 a3432 a3433 a3434, b6 g3423 A3426 l3425.length n3428 a3430, r5 A3426 l3425.length n3428 l3425] w3498) := ⟨HS.out.sub (.cons_cons _ (.cons_cons _ (.cons_cons _ (.cons _ .slnil))))⟩
    go_wp2_with fail
    replace HS : Aside0 (Sep FF w [r17 none 0 0 [], b7 g3421 g3423 a3431 a3432 a3433 a3434, b6 g3423 A3426 l3425.length n3428 a3430, r5 A3426 l3425.length n3428 l3425] w3498) := ⟨HS.out.nilrow 3 (Value.int .i64)⟩
    obtain ⟨o3500, AL3501, H⟩ := bind_some H
    go_loopg [7, 8] k (fun kq v7 v8 wc => ∃ (x3506 : Int) (x3507 : List Int) (A3508 : Option Addr) (m3509 : Nat) (n3510 : Nat), v7 = .slice A3508 m3509 n3510 ∧ v8 = .int .i64 x3506 ∧ Aside0 (chain_List.lo0 kq l3425 a3430 a3431 a3432 a3433 a3434 x3506 x3507 = some o3500) ∧ Aside0 (Sep FF w [r17 A3508 m3509 n3510 x3507, b7 g3421 g3423 a3431 a3432 a3433 a3434, b6 g3423 A3426 l3425.length n3428 a3430, r5 A3426 l3425.length n3428 l3425] wc))
    case atStart => exact ⟨(t3496), (([] : List Int)), (none), (0), (0), (by first | rfl | (simp [IntKind.wrap_u32]; done)), (by first | rfl | (simp [IntKind.wrap_u32]; done)), AL3501, ⟨HS.out⟩⟩
    case round =>
      clear AL3501 HS
      obtain ⟨x3506, x3507, A3508, m3509, n3510, rfl, rfl, AL3501, HS⟩ := hrel
      obtain ⟨w3502, rfl⟩ : ∃ x : World, x = wr := ⟨_, rfl⟩
      obtain rfl := (row_len (HS.out.at0)).symm
      cases gk with
      | zero => exact absurd AL3501.out (by simp [chain_List.lo0])
      | succ k3503 =>
        have AL0 := AL3501.out
        rw [chain_List.lo0] at AL0
        clear AL3501
        have AL3501 := Aside0.mk AL0
        clear AL0
        by_cases c3512 : x3506 > 0
        · replace AL3501 := if_yes c3512 AL3501
          have c3512b0 : decide (0 < x3506) = true := decide_eq_true c3512
          clear c3512
          go_wp2_with fail
          replace HS : Aside0 (Sep FF w [r5 A3426 l3425.length n3428 l3425, r17 A3508 x3507.length n3510 x3507, b7 g3421 g3423 a3431 a3432 a3433 a3434, b6 g3423 A3426 l3425.length n3428 a3430] w3502) := ⟨HS.out.front 3 (by simp)⟩
          replace HS : Aside0 (Sep FF w [b6 g3423 A3426 l3425.length n3428 a3430, r5 A3426 l3425.length n3428 l3425, r17 A3508 x3507.length n3510 x3507, b7 g3421 g3423 a3431 a3432 a3433 a3434] w3502) := ⟨HS.out.front 3 (by simp)⟩
          replace HS : Aside0 (Sep FF w [b7 g3421 g3423 a3431 a3432 a3433 a3434, b6 g3423 A3426 l3425.length n3428 a3430, r5 A3426 l3425.length n3428 l3425, r17 A3508 x3507.length n3510 x3507] w3502) := ⟨HS.out.front 3 (by simp)⟩
          obtain ⟨t3513, HA3514, AL3501⟩ := bind_some AL3501
          refine (ground_Ground_Conf.calls l3425 a3430 a3431 a3432 a3433 a3434 g3421 g3423 A3426 l3425.length n3428 t3513 _ ⟨HGl0.out.pass HS.out⟩ ⟨HS.out.begin⟩ HA3514).mono ?_
          rintro e_ w3515 ⟨rfl, hS⟩
          replace HS : Aside0 (Sep FF w [b7 g3421 g3423 a3431 a3432 a3433 a3434, b6 g3423 A3426 l3425.length n3428 a3430, r5 A3426 l3425.length n3428 l3425, r17 A3508 x3507.length n3510 x3507] w3515) := ⟨HS.out.call hS⟩
          clear hS
          by_cases c3517 : (x3507.length : Int) < t3513.1
          · replace AL3501 := if_yes c3517 AL3501
            have c3517b0 : decide ((x3507.length : Int) < t3513.1) = true := decide_eq_true c3517
            clear c3517
            by_cases c3521 : x3507.length < 17592186044416
            · replace AL3501 := if_yes c3521 AL3501
              have c3521b0 : decide (x3507.length < 17592186044416) = true := decide_eq_true c3521
              clear c3521
              obtain ⟨y3525, HA3526, AL3501⟩ := bind_some AL3501
              have fl3516 : ∀ w, (Instr.field 30 (.agg #[.int .i64 t3513.1, .int .i64 t3513.2.1, .int .i64 t3513.2.2.1, .int .i64 t3513.2.2.2]) 0).run Tryd.prog w = .ok (.int .i64 t3513.1) w := fun _ => by kernel_rfl
              go_wp2_with (first | ((with_reducible refine gate_dst (N := 39) rfl ?_); refine slice_on (n := 1) ?hg (N := 39) ?hd (cs := #[.int .i64 (wrap64 (x3506 - 1))]) (t := 3) ?hr ?_; (case hd => rfl); (case hg => rfl); (case hr => first | (go_simp; done) | (go_simp; rfl)); intro g3518 hg w3519 hbox hb; clear fl3516; replace HS : Aside0 (Sep FF w [b7 g3421 g3423 a3431 a3432 a3433 a3434, b6 g3423 A3426 l3425.length n3428 a3430, r5 A3426 l3425.length n3428 l3425, r17 A3508 x3507.length n3510 x3507, b10 g3518 (wrap64 (x3506 - 1))] w3519) := ⟨HS.out.box hg hbox hb⟩; clear hg hbox hb) | ((with_reducible refine gate_dst (N := 40) rfl ?_); refine append_event (l1 := [b7 g3421 g3423 a3431 a3432 a3433 a3434, b6 g3423 A3426 l3425.length n3428 a3430, r5 A3426 l3425.length n3428 l3425]) (l2 := [b10 g3518 (wrap64 (x3506 - 1))]) rfl (.tmp 36) (.tmp 39) 49 3 (.int .i64 0) 8 rfl Tryd.underlying49 (by kernel_rfl) rfl (by decide) (Value.int .i64) (fun _ => rfl) (.slice A3508 x3507.length n3510) (x3507 : List Int) [wrap64 (x3506 - 1)] ⟨g3518, 0, none⟩ 1 rfl rfl (blk_news (xs := [wrap64 (x3506 - 1)]) (HS.out.at4)) HS.out (by have := of_decide_eq_true c3521b0; simp only [List.length_cons, List.length_nil]; omega) HA3526 ?_; intro A3522 n3523 w3524 HS1; replace HS : Aside0 (Sep FF w [b7 g3421 g3423 a3431 a3432 a3433 a3434, b6 g3423 A3426 l3425.length n3428 a3430, r5 A3426 l3425.length n3428 l3425, r17 A3522 y3525.length n3523 y3525, b10 g3518 (wrap64 (x3506 - 1))] w3524) := ⟨HS1⟩; clear HS1; replace HS : Aside0 (Sep FF w [b7 g3421 g3423 a3431 a3432 a3433 a3434, b6 g3423 A3426 l3425.length n3428 a3430, r5 A3426 l3425.length n3428 l3425, r17 A3522 y3525.length n3523 y3525] w3524) := ⟨HS.out.sub (.cons_cons _ (.cons_cons _ (.cons_cons _ (.cons_cons _ (.cons _ .slnil)))))⟩))
              obtain ⟨t3554, HA3555, AL3501⟩ := bind_some AL3501
              refine (ground_Ground_SeeWord.calls l3425 a3430 a3431 a3432 a3433 a3434 (wrap64 (x3506 - 1)) 5 g3421 g3423 A3426 l3425.length n3428 t3554 _ ⟨HGl0.out.pass HS.out⟩ ⟨HS.out.begin⟩ HA3555).mono ?_
              rintro e_ w3556 ⟨rfl, hS⟩
              replace HS : Aside0 (Sep FF w [b7 g3421 g3423 a3431 a3432 a3433 a3434, b6 g3423 A3426 l3425.length n3428 a3430, r5 A3426 l3425.length n3428 l3425, r17 A3522 y3525.length n3523 y3525] w3556) := ⟨HS.out.call hS⟩
              clear hS
              go_wp2_with fail
              go_roundg k3503
              case measure => exact Nat.lt_succ_self _
              case rel => exact ⟨(wrap64 (t3554)), (y3525), (A3522), (y3525.length), (n3523), (by first | rfl | (simp [IntKind.wrap_u32]; done)), (by first | rfl | (simp [IntKind.wrap_u32]; done)), Aside0.mk AL3501.out, ⟨(((((HS.out).front 2 (by simp)).front 2 (by simp)).front 2 (by simp)).front 3 (by simp)).keep (l := [r17 A3522 y3525.length n3523 y3525, b7 g3421 g3423 a3431 a3432 a3433 a3434, b6 g3423 A3426 l3425.length n3428 a3430, r5 A3426 l3425.length n3428 l3425]) (rest := [])⟩⟩
            · replace AL3501 := if_no c3521 AL3501
              have c3521b0 : decide (x3507.length < 17592186044416) = false := decide_eq_false c3521
              clear c3521
              exact (none_no AL3501).elim
          · replace AL3501 := if_no c3517 AL3501
            have c3517b0 : decide ((x3507.length : Int) < t3513.1) = false := decide_eq_false c3517
            clear c3517
            have ho := some_eq AL3501
            subst ho
            clear AL3501
            have fl3516 : ∀ w, (Instr.field 30 (.agg #[.int .i64 t3513.1, .int .i64 t3513.2.1, .int .i64 t3513.2.2.1, .int .i64 t3513.2.2.2]) 0).run Tryd.prog w = .ok (.int .i64 t3513.1) w := fun _ => by kernel_rfl
            go_wp2_with fail
            clear fl3516
            go_ret
            rw [← some_eq H]
            exact ⟨A3508, x3507.length, n3510, (by first | rfl | (simp [IntKind.wrap_u32]; done)), HS.out⟩
        · replace AL3501 := if_no c3512 AL3501
          have c3512b0 : decide (0 < x3506) = false := decide_eq_false c3512
          clear c3512
          have ho := some_eq AL3501
          subst ho
          clear AL3501
          go_wp2_with fail
          go_ret
          rw [← some_eq H]
          exact ⟨A3508, x3507.length, n3510, (by first | rfl | (simp [IntKind.wrap_u32]; done)), ((((HS.out).front 3 (by simp)).front 3 (by simp)).front 3 (by simp)).keep (l := [b7 g3421 g3423 a3431 a3432 a3433 a3434, b6 g3423 A3426 l3425.length n3428 a3430, r5 A3426 l3425.length n3428 l3425, r17 A3508 x3507.length n3510 x3507]) (rest := [])⟩
  · replace H := if_no c3449 H
    have c3449b0 : t3436.2.2.2 = false := by simpa using c3449
    have c3449b1 : (!t3436.2.2.2) = true := by rw [c3449b0]; rfl
    try rw [c3449b1]
    clear c3449
    go_wp2_with (first | ((with_reducible refine gate_dst (N := 5) rfl ?_); refine box_on ?hg (N := 5) ?hd (cs := #[.int .i64 0, .int .i64 0, .int .i64 0]) (t := 166) ?hr ?_; (case hd => rfl); (case hg => rfl); (case hr => first | (go_simp; done) | (go_simp; rfl)); intro g3439 hg w3440 hbox hb; replace HS : Aside0 (Sep FF w [b7 g3421 g3423 a3431 a3432 a3433 a3434, b6 g3423 A3426 l3425.length n3428 a3430, r5 A3426 l3425.length n3428 l3425, b8 g3439 0 0 0] w3440) := ⟨HS.out.box hg hbox hb⟩; clear hg hbox hb; have hc3442 : w3440.cell? ⟨g3439, 0, none⟩ = some (.int .i64 0) := blk_cellv (HS.out.at3) 0 rfl; have hz3443 : w3440.frozen? ⟨g3439, 0, none⟩ = false := blk_fz (HS.out.at3) 0; have hc3444 : w3440.cell? ⟨g3439, 1, none⟩ = some (.int .i64 0) := blk_cellv (HS.out.at3) 1 rfl; have hz3445 : w3440.frozen? ⟨g3439, 1, none⟩ = false := blk_fz (HS.out.at3) 1; have hc3446 : w3440.cell? ⟨g3439, 2, none⟩ = some (.int .i64 0) := blk_cellv (HS.out.at3) 2 rfl; have hz3447 : w3440.frozen? ⟨g3439, 2, none⟩ = false := blk_fz (HS.out.at3) 2) | ((with_reducible refine gate_store (t := 166) (p := 5) rfl ?_); refine store_event (w1 := (World.setCell (World.setCell (World.setCell w3440 ⟨g3439, 0, none⟩ (.int .i64 t3436.1)) ⟨g3439, 1, none⟩ (.int .i64 t3436.2.1)) ⟨g3439, 2, none⟩ (.int .i64 t3436.2.2.1))) rfl (t := 166) (p := 5) rfl rfl ?hr ?_; (case hr => first | (go_simp; done) | (go_simp; rfl)); intro w3448 hst; clear hc3442 hz3443 hc3444 hz3445 hc3446 hz3447; replace HS : Aside0 (Sep FF w [b7 g3421 g3423 a3431 a3432 a3433 a3434, b6 g3423 A3426 l3425.length n3428 a3430, r5 A3426 l3425.length n3428 l3425, b8 g3439 t3436.1 t3436.2.1 t3436.2.2.1] w3448) := ⟨by rw [hst]; exact HS.out.setAll (l1 := [b7 g3421 g3423 a3431 a3432 a3433 a3434, b6 g3423 A3426 l3425.length n3428 a3430, r5 A3426 l3425.length n3428 l3425]) (l2 := []) [.int .i64 t3436.1, .int .i64 t3436.2.1, .int .i64 t3436.2.2.1] rfl⟩; clear hst; replace HS : Aside0 (Sep FF w [b7 g3421 g3423 a3431 a3432 a3433 a3434, b6 g3423 A3426 l3425.length n3428 a3430, r5 A3426 l3425.length n3428 l3425] w3448) := ⟨HS.out.sub (.cons_cons _ (.cons_cons _ (.cons_cons _ (.cons _ .slnil))))⟩))
    replace HS : Aside0 (Sep FF w [r17 none 0 0 [], b7 g3421 g3423 a3431 a3432 a3433 a3434, b6 g3423 A3426 l3425.length n3428 a3430, r5 A3426 l3425.length n3428 l3425] w3448) := ⟨HS.out.nilrow 3 (Value.int .i64)⟩
    go_ret
    rw [← some_eq H]
    exact ⟨none, 0, 0, (by first | rfl | (simp [IntKind.wrap_u32]; done)), ((((HS.out).front 3 (by simp)).front 3 (by simp)).front 3 (by simp)).keep (l := [b7 g3421 g3423 a3431 a3432 a3433 a3434, b6 g3423 A3426 l3425.length n3428 a3430, r5 A3426 l3425.length n3428 l3425, r17 none 0 0 []]) (rest := [])⟩

set_option maxHeartbeats 30000000 in
set_option maxRecDepth 100000 in
theorem pool_List.calls (k : Nat) (l3410 : List Int) (a3415 : Int) (a3416 : Int) (a3417 : Int) (a3418 : Int) (a3419 : Int) (g3406 : Nat) (g3408 : Nat) (A3411 : Option Addr) (m3412 : Nat) (n3413 : Nat) (r : List Int) (w : World)  (HGl0 : Aside0 (Gl 0 #[.int .i64 0, .int .i64 0, .int .i64 0, .int .i64 0, .int .i64 0] (fps [b7 g3406 g3408 a3416 a3417 a3418 a3419, b6 g3408 A3411 m3412 n3413 a3415, r5 A3411 m3412 n3413 l3410]) w)) (HS : Aside0 (Sep (fps [b7 g3406 g3408 a3416 a3417 a3418 a3419, b6 g3408 A3411 m3412 n3413 a3415, r5 A3411 m3412 n3413 l3410]) w [b7 g3406 g3408 a3416 a3417 a3418 a3419, b6 g3408 A3411 m3412 n3413 a3415, r5 A3411 m3412 n3413 l3410] w)) (H : Aside0 (pool_List.f k l3410 a3415 a3416 a3417 a3418 a3419 = some r)) :
    Calls Tryd.prog 104 #[.pointer (some ⟨g3406, 0, none⟩)] w fun e w' => ∃ (A3602 : Option Addr) (m3603 : Nat) (n3604 : Nat), e = .returned (.slice A3602 m3603 n3604) ∧ Sep (fps [b7 g3406 g3408 a3416 a3417 a3418 a3419, b6 g3408 A3411 m3412 n3413 a3415, r5 A3411 m3412 n3413 l3410]) w [b7 g3406 g3408 a3416 a3417 a3418 a3419, b6 g3408 A3411 m3412 n3413 a3415, r5 A3411 m3412 n3413 l3410, r17 A3602 m3603 n3604 r] w' := by
  generalize (fps [b7 g3406 g3408 a3416 a3417 a3418 a3419, b6 g3408 A3411 m3412 n3413 a3415, r5 A3411 m3412 n3413 l3410]) = FF at HS HGl0 ⊢
  obtain rfl := (row_len (HS.out.at2)).symm
  unfold pool_List.f at H
  go_enter Tryd.func104, Tryd.ntmps104
  go_wp2_with fail
  obtain ⟨t3588, HA3589, H⟩ := bind_some H
  refine (chain_List.calls _ l3410 a3415 a3416 a3417 a3418 a3419 0 g3406 g3408 A3411 l3410.length n3413 t3588 _ ⟨HGl0.out.pass HS.out⟩ ⟨HS.out.begin⟩ HA3589).mono ?_
  rintro e_ w3590 ⟨A3592, m3593, n3594, rfl, hS⟩
  replace HS : Aside0 (Sep FF w [b7 g3406 g3408 a3416 a3417 a3418 a3419, b6 g3408 A3411 l3410.length n3413 a3415, r5 A3411 l3410.length n3413 l3410, r17 A3592 m3593 n3594 t3588] w3590) := ⟨HS.out.call hS⟩
  clear hS
  obtain rfl := (row_len (HS.out.at3)).symm
  go_wp2_with fail
  go_ret
  rw [← some_eq H]
  exact ⟨A3592, t3588.length, n3594, (by first | rfl | (simp [IntKind.wrap_u32]; done)), HS.out⟩

set_option maxHeartbeats 30000000 in
set_option maxRecDepth 100000 in
theorem quitrentref01_Ints.calls (k : Nat) (l3617 : List Int) (l3621 : List Int) (A3618 : Option Addr) (n3619 : Nat) (A3622 : Option Addr) (n3623 : Nat) (r : Bool) (w : World) (HR3620 : Aside0 (Rd (Kd.int .i64) (fps []) w A3618 l3617.length l3617)) (HR3624 : Aside0 (Rd (Kd.int .i64) (fps []) w A3622 l3621.length l3621)) (HGl0 : Aside0 (Gl 0 #[.int .i64 0, .int .i64 0, .int .i64 0, .int .i64 0, .int .i64 0] (fps []) w)) (HS : Aside0 (Sep (fps []) w [] w)) (H : Aside0 (quitrentref01_Ints.f k l3617 l3621 = some r)) :
    Calls Tryd.prog 32 #[.slice A3618 l3617.length n3619, .slice A3622 l3621.length n3623] w fun e w' => e = .returned (.bool r) ∧ Sep (fps []) w [] w' := by
  unfold quitrentref01_Ints.f at H
  go_enter Tryd.func32, Tryd.ntmps32
  by_cases c3625 : (l3617.length : Int) = (l3621.length : Int)
  · replace H := if_yes c3625 H
    have c3625b0 : ((l3617.length : Int) == (l3621.length : Int)) = true := beq_iff_eq.mpr c3625
    have c3625b1 : ((l3617.length : Int) != (l3621.length : Int)) = false := bne_eq_false_iff_eq.mpr c3625
    clear c3625
    go_wp2_with fail
    obtain ⟨o3641, AL3642, H⟩ := bind_some H
    go_loopg [5] k (fun kq v5 wc => ∃ (x3645 : Int), v5 = .int .i64 x3645 ∧ Aside0 (quitrentref01_Ints.lo0 kq l3617 l3621 x3645 = some o3641) ∧ Aside0 (Sep (fps []) w [] wc))
    case atStart => exact ⟨(0), (by first | rfl | (simp [IntKind.wrap_u32]; done)), AL3642, ⟨HS.out⟩⟩
    case round =>
      clear AL3642 HS
      obtain ⟨x3645, rfl, AL3642, HS⟩ := hrel
      obtain ⟨w3643, rfl⟩ : ∃ x : World, x = wr := ⟨_, rfl⟩
      cases gk with
      | zero => exact absurd AL3642.out (by simp [quitrentref01_Ints.lo0])
      | succ k3644 =>
        have AL0 := AL3642.out
        rw [quitrentref01_Ints.lo0] at AL0
        clear AL3642
        have AL3642 := Aside0.mk AL0
        clear AL0
        by_cases c3646 : x3645 < (l3617.length : Int)
        · replace AL3642 := if_yes c3646 AL3642
          have c3646b0 : decide (x3645 < (l3617.length : Int)) = true := decide_eq_true c3646
          clear c3646
          go_wp2_with fail
          refine start_ (n := 9) (S := (fun w' => Kd.C (Kd.int .i64) w' A3618 l3617.length l3617 ∧ Kd.C (Kd.int .i64) w' A3622 l3621.length l3621)) (ds := []) #[false, false, false, false, false, false, false, false, false] (by kernel_rfl) rfl rfl (⟨Rd.read (fun _ _ _ _ h => h) HR3620.out (HS.out.drew).fr, Rd.read (fun _ _ _ _ h => h) HR3624.out (HS.out.drew).fr⟩) (fun hHeld => ?_)
          have HS_ := Aside0.mk HS.out.drew
          clear HS
          generalize World.drew _ = w3648 at HS_ hHeld ⊢
          have HS := HS_
          clear HS_
          refine pure_ (i := 0) (N := some 17) (v := ?_) (a' := ?_) #[true, false, false, false, false, false, false, false, false] rfl rfl (by kernel_rfl) (fun _ _ _ h => h) (Or.inl ⟨by rfl, ?_⟩) ?_ ?_
          rotate_left
          · intro w'
            go_simp
            with_reducible rfl
          rotate_left
          · simp only [Act.put, List.setIfInBounds_toArray, List.set_cons_zero, List.set_cons_succ, i64_w, i32_w]
            rfl
          refine pure_ (i := 1) (N := some 18) (v := ?_) (a' := ?_) #[true, true, false, false, false, false, false, false, false] rfl rfl (by kernel_rfl) (fun _ _ _ h => h) (Or.inl ⟨by rfl, ?_⟩) ?_ ?_
          rotate_left
          · intro w'
            go_simp
            with_reducible rfl
          rotate_left
          · simp only [Act.put, List.setIfInBounds_toArray, List.set_cons_zero, List.set_cons_succ, i64_w, i32_w]
            rfl
          by_cases c3649 : 0 ≤ x3645
          · replace AL3642 := if_yes c3649 AL3642
            have c3649b0 : decide (0 ≤ x3645) = true := decide_eq_true c3649
            have c3649p : (0 ≤ x3645) = True := eq_true c3649
            clear c3649
            have ip3650 : (x3645 < (l3617.length : Int)) = True := eq_true (of_decide_eq_true c3646b0)
            obtain ⟨ad3651, ea, _⟩ := Kd.at_int (Rd.read (fun _ _ _ _ h => h) HR3620.out HS.out.fr) x3645 (of_decide_eq_true c3649b0) (of_decide_eq_true c3646b0)
            cases ea
            refine pure_ (i := 2) (N := some 19) (v := ?_) (a' := ?_) #[true, true, true, false, false, false, false, false, false] rfl rfl (by kernel_rfl) (fun _ _ _ h => h) (Or.inl ⟨by rfl, ?_⟩) ?_ ?_
            rotate_left
            · intro w'
              go_simp
              with_reducible rfl
            rotate_left
            · simp only [Act.put, List.setIfInBounds_toArray, List.set_cons_zero, List.set_cons_succ, i64_w, i32_w]
              rfl
            refine pure_ (i := 4) (N := some 21) (v := ?_) (a' := ?_) #[true, true, true, false, true, false, false, false, false] rfl rfl (by kernel_rfl) (fun _ _ _ h => h) (Or.inl ⟨by rfl, ?_⟩) ?_ ?_
            rotate_left
            · intro w'
              go_simp
              with_reducible rfl
            rotate_left
            · simp only [Act.put, List.setIfInBounds_toArray, List.set_cons_zero, List.set_cons_succ, i64_w, i32_w]
              rfl
            refine pure_ (i := 5) (N := some 22) (v := ?_) (a' := ?_) #[true, true, true, false, true, true, false, false, false] rfl rfl (by kernel_rfl) (fun _ _ _ h => h) (Or.inl ⟨by rfl, ?_⟩) ?_ ?_
            rotate_left
            · intro w'
              go_simp
              with_reducible rfl
            rotate_left
            · simp only [Act.put, List.setIfInBounds_toArray, List.set_cons_zero, List.set_cons_succ, i64_w, i32_w]
              rfl
            by_cases c3652 : x3645 < (l3621.length : Int)
            · replace AL3642 := if_yes c3652 AL3642
              have c3652b0 : decide (x3645 < (l3621.length : Int)) = true := decide_eq_true c3652
              have c3652p : (x3645 < (l3621.length : Int)) = True := eq_true c3652
              clear c3652
              obtain ⟨ad3653, ea, _⟩ := Kd.at_int (Rd.read (fun _ _ _ _ h => h) HR3624.out HS.out.fr) x3645 (of_decide_eq_true c3649b0) (of_decide_eq_true c3652b0)
              cases ea
              refine pure_ (i := 6) (N := some 23) (v := ?_) (a' := ?_) #[true, true, true, false, true, true, true, false, false] rfl rfl (by kernel_rfl) (fun _ _ _ h => h) (Or.inl ⟨by rfl, ?_⟩) ?_ ?_
              rotate_left
              · intro w'
                go_simp
                with_reducible rfl
              rotate_left
              · simp only [Act.put, List.setIfInBounds_toArray, List.set_cons_zero, List.set_cons_succ, i64_w, i32_w]
                rfl
              refine take_ (i := 3) (N := some 20) (v := ?_) (a' := ?_) #[true, true, true, true, true, true, true, false, false] rfl rfl (by kernel_rfl) (fun _ _ _ h => h) (Or.inl ⟨by rfl, ?_⟩) hHeld ?_ ?_
              rotate_left
              · rintro w' hS'
                obtain ⟨s0, s1⟩ := hS'
                have hx := C_at_int s0 x3645 (of_decide_eq_true c3649b0) (of_decide_eq_true c3646b0)
                go_simp
                with_reducible rfl
              rotate_left
              · simp only [Act.put, List.setIfInBounds_toArray, List.set_cons_zero, List.set_cons_succ, i64_w, i32_w]
                rfl
              refine take_ (i := 7) (N := some 24) (v := ?_) (a' := ?_) #[true, true, true, true, true, true, true, true, false] rfl rfl (by kernel_rfl) (fun _ _ _ h => h) (Or.inl ⟨by rfl, ?_⟩) hHeld ?_ ?_
              rotate_left
              · rintro w' hS'
                obtain ⟨s0, s1⟩ := hS'
                have hx := C_at_int s1 x3645 (of_decide_eq_true c3649b0) (of_decide_eq_true c3652b0)
                go_simp
                with_reducible rfl
              rotate_left
              · simp only [Act.put, List.setIfInBounds_toArray, List.set_cons_zero, List.set_cons_succ, i64_w, i32_w]
                rfl
              refine pure_ (i := 8) (N := some 25) (v := ?_) (a' := ?_) #[true, true, true, true, true, true, true, true, true] rfl rfl (by kernel_rfl) (fun _ _ _ h => h) (Or.inl ⟨by rfl, ?_⟩) ?_ ?_
              rotate_left
              · intro w'
                go_simp
                with_reducible rfl
              rotate_left
              · simp only [Act.put, List.setIfInBounds_toArray, List.set_cons_zero, List.set_cons_succ, i64_w, i32_w]
                rfl
              refine done_ (by kernel_rfl) ?_
              by_cases c3654 : (rd l3617 x3645) = (rd l3621 x3645)
              · replace AL3642 := if_yes c3654 AL3642
                have c3654b0 : ((rd l3617 x3645) == (rd l3621 x3645)) = true := beq_iff_eq.mpr c3654
                have c3654b1 : ((rd l3617 x3645) != (rd l3621 x3645)) = false := bne_eq_false_iff_eq.mpr c3654
                clear c3654
                go_wp2_with fail
                go_roundg k3644
                case measure => exact Nat.lt_succ_self _
                case rel => exact ⟨(wrap64 (x3645 + 1)), (by first | rfl | (simp [IntKind.wrap_u32]; done)), Aside0.mk AL3642.out, ⟨HS.out⟩⟩
              · replace AL3642 := if_no c3654 AL3642
                have c3654b0 : ((rd l3617 x3645) == (rd l3621 x3645)) = false := beq_eq_false_iff_ne.mpr c3654
                have c3654b1 : ((rd l3617 x3645) != (rd l3621 x3645)) = true := bne_iff_ne.mpr c3654
                clear c3654
                go_wp2_with fail
                have ho := some_eq AL3642
                subst ho
                have H := lp_ret H
                go_ret
                rw [← some_eq H]
                exact ⟨(by first | rfl | (simp [IntKind.wrap_u32]; done)), HS.out⟩
            · replace AL3642 := if_no c3652 AL3642
              have c3652b0 : decide (x3645 < (l3621.length : Int)) = false := decide_eq_false c3652
              clear c3652
              exact (none_no AL3642).elim
          · replace AL3642 := if_no c3649 AL3642
            have c3649b0 : decide (0 ≤ x3645) = false := decide_eq_false c3649
            clear c3649
            exact (none_no AL3642).elim
        · replace AL3642 := if_no c3646 AL3642
          have c3646b0 : decide (x3645 < (l3617.length : Int)) = false := decide_eq_false c3646
          clear c3646
          have ho := some_eq AL3642
          subst ho
          clear AL3642
          have H := lp_out H
          go_wp2_with fail
          go_ret
          rw [← some_eq H]
          exact ⟨(by first | rfl | (simp [IntKind.wrap_u32]; done)), HS.out⟩
  · replace H := if_no c3625 H
    have c3625b0 : ((l3617.length : Int) == (l3621.length : Int)) = false := beq_eq_false_iff_ne.mpr c3625
    have c3625b1 : ((l3617.length : Int) != (l3621.length : Int)) = true := bne_iff_ne.mpr c3625
    clear c3625
    go_wp2_with fail
    go_ret
    rw [← some_eq H]
    exact ⟨(by first | rfl | (simp [IntKind.wrap_u32]; done)), HS.out⟩

set_option maxHeartbeats 30000000 in
set_option maxRecDepth 100000 in
theorem quitrentlaw11_begun.calls (k : Nat)  (r : Bool) (w : World)  (HGl0 : Aside0 (Gl 0 #[.int .i64 0, .int .i64 0, .int .i64 0, .int .i64 0, .int .i64 0] (fps []) w)) (HS : Aside0 (Sep (fps []) w [] w)) (H : Aside0 (quitrentlaw11_begun.f k = some r)) :
    Calls Tryd.prog 42 #[] w fun e w' => e = .returned (.bool r) ∧ Sep (fps []) w [] w' := by
  unfold quitrentlaw11_begun.f at H
  go_enter Tryd.func42, Tryd.ntmps42
  go_wp2_with fail
  obtain ⟨t1602, HA1603, H⟩ := bind_some H
  rcases t1602 with t1604 | t1605
  · have H := sum_l H
    refine (quitrentlaw11_opened.calls _ 6 16 1 1 (.inl t1604) _ ⟨HGl0.out.pass (l := []) HS.out⟩ ⟨Sep.start _⟩ HA1603).mono ?_
    rintro e_ w1606 ⟨rfl, hS⟩
    replace HS : Aside0 (Sep (fps []) w [] w1606) := ⟨HS.out.call hS⟩
    clear hS
    by_cases c1607 : t1604 = true
    · replace H := if_yes c1607 H
      have c1607b0 : t1604 = true := c1607
      have c1607b1 : (!t1604) = false := by rw [c1607b0]; rfl
      try rw [c1607b1]
      clear c1607
      exact (none_no H).elim
    · replace H := if_no c1607 H
      have c1607b0 : t1604 = false := by simpa using c1607
      have c1607b1 : (!t1604) = true := by rw [c1607b0]; rfl
      try rw [c1607b1]
      clear c1607
      go_wp2_with fail
      go_ret
      rw [← some_eq H]
      exact ⟨(by first | rfl | (simp [IntKind.wrap_u32]; done)), HS.out⟩
  · have H := sum_r H
    refine (quitrentlaw11_opened.calls _ 6 16 1 1 (.inr t1605) _ ⟨HGl0.out.pass (l := []) HS.out⟩ ⟨Sep.start _⟩ HA1603).mono ?_
    rintro e_ w1608 ⟨g1612, rfl, g1613, A1614, m1615, n1616, hS⟩
    replace HS : Aside0 (Sep (fps []) w [b7 g1612 g1613 t1605.2.1 t1605.2.2.1 t1605.2.2.2.1 t1605.2.2.2.2.1, b6 g1613 A1614 m1615 n1616 t1605.2.2.2.2.2.1, r5 A1614 m1615 n1616 t1605.2.2.2.2.2.2] w1608) := ⟨HS.out.call hS⟩
    clear hS
    obtain rfl := (row_len (HS.out.at2)).symm
    by_cases c1618 : t1605.1 = true
    · replace H := if_yes c1618 H
      have c1618b0 : t1605.1 = true := c1618
      have c1618b1 : (!t1605.1) = false := by rw [c1618b0]; rfl
      try rw [c1618b1]
      clear c1618
      go_wp2_with fail
      obtain ⟨t2542, HA2543, H⟩ := bind_some H
      refine (obj_Make.calls _ t1605.2.2.2.2.2.2 t1605.2.2.2.2.2.1 t1605.2.1 t1605.2.2.1 t1605.2.2.2.1 t1605.2.2.2.2.1 2 1 g1612 g1613 A1614 ((t1605.2.2.2.2.2.2).length) n1616 t2542 _ ⟨HGl0.out.pass HS.out⟩ ⟨HS.out.begin⟩ HA2543).mono ?_
      rintro e_ w2544 ⟨rfl, hS⟩
      replace HS : Aside0 (Sep (fps []) w [b7 g1612 g1613 t1605.2.1 t1605.2.2.1 t1605.2.2.2.1 t1605.2.2.2.2.1, b6 g1613 A1614 ((t1605.2.2.2.2.2.2).length) n1616 t2542.2.2.1, r5 A1614 ((t1605.2.2.2.2.2.2).length) n1616 t2542.2.2.2] w2544) := ⟨HS.out.call hS⟩
      clear hS
      go_wp2_with fail
      obtain ⟨t2545, HA2546, H⟩ := bind_some H
      refine (obj_Make.calls _ t2542.2.2.2 t2542.2.2.1 t1605.2.1 t1605.2.2.1 t1605.2.2.2.1 t1605.2.2.2.2.1 0 20 g1612 g1613 A1614 ((t1605.2.2.2.2.2.2).length) n1616 t2545 _ ⟨HGl0.out.pass HS.out⟩ ⟨HS.out.begin⟩ HA2546).mono ?_
      rintro e_ w2547 ⟨rfl, hS⟩
      replace HS : Aside0 (Sep (fps []) w [b7 g1612 g1613 t1605.2.1 t1605.2.2.1 t1605.2.2.2.1 t1605.2.2.2.2.1, b6 g1613 A1614 ((t1605.2.2.2.2.2.2).length) n1616 t2545.2.2.1, r5 A1614 ((t1605.2.2.2.2.2.2).length) n1616 t2545.2.2.2] w2547) := ⟨HS.out.call hS⟩
      clear hS
      go_wp2_with fail
      obtain ⟨t2548, HA2549, H⟩ := bind_some H
      refine (obj_Make.calls _ t2545.2.2.2 t2545.2.2.1 t1605.2.1 t1605.2.2.1 t1605.2.2.2.1 t1605.2.2.2.2.1 0 0 g1612 g1613 A1614 ((t1605.2.2.2.2.2.2).length) n1616 t2548 _ ⟨HGl0.out.pass HS.out⟩ ⟨HS.out.begin⟩ HA2549).mono ?_
      rintro e_ w2550 ⟨rfl, hS⟩
      replace HS : Aside0 (Sep (fps []) w [b7 g1612 g1613 t1605.2.1 t1605.2.2.1 t1605.2.2.2.1 t1605.2.2.2.2.1, b6 g1613 A1614 ((t1605.2.2.2.2.2.2).length) n1616 t2548.2.2.1, r5 A1614 ((t1605.2.2.2.2.2.2).length) n1616 t2548.2.2.2] w2550) := ⟨HS.out.call hS⟩
      clear hS
      by_cases c2551 : t2542.1 = 1
      · replace H := if_yes c2551 H
        have c2551b0 : (t2542.1 == 1) = true := beq_iff_eq.mpr c2551
        have c2551b1 : (t2542.1 != 1) = false := bne_eq_false_iff_eq.mpr c2551
        clear c2551
        by_cases c2552 : t2545.1 = 2
        · replace H := if_yes c2552 H
          have c2552b0 : (t2545.1 == 2) = true := beq_iff_eq.mpr c2552
          have c2552b1 : (t2545.1 != 2) = false := bne_eq_false_iff_eq.mpr c2552
          clear c2552
          by_cases c2553 : t2548.1 = 5
          · replace H := if_yes c2553 H
            have c2553b0 : (t2548.1 == 5) = true := beq_iff_eq.mpr c2553
            have c2553b1 : (t2548.1 != 5) = false := bne_eq_false_iff_eq.mpr c2553
            clear c2553
            by_cases c2554 : t2542.2.1 = 0
            · replace H := if_yes c2554 H
              have c2554b0 : (t2542.2.1 == 0) = true := beq_iff_eq.mpr c2554
              have c2554b1 : (t2542.2.1 != 0) = false := bne_eq_false_iff_eq.mpr c2554
              clear c2554
              by_cases c2555 : t2545.2.1 = 0
              · replace H := if_yes c2555 H
                have c2555b0 : (t2545.2.1 == 0) = true := beq_iff_eq.mpr c2555
                have c2555b1 : (t2545.2.1 != 0) = false := bne_eq_false_iff_eq.mpr c2555
                clear c2555
                by_cases c2556 : t2548.2.1 = 0
                · replace H := if_yes c2556 H
                  have c2556b0 : (t2548.2.1 == 0) = true := beq_iff_eq.mpr c2556
                  have c2556b1 : (t2548.2.1 != 0) = false := bne_eq_false_iff_eq.mpr c2556
                  clear c2556
                  go_wp2_with fail
                  obtain ⟨t2768, HA2769, H⟩ := bind_some H
                  refine (obj_Blocks.calls _ t2548.2.2.2 t2548.2.2.1 t1605.2.1 t1605.2.2.1 t1605.2.2.2.1 t1605.2.2.2.2.1 2 g1612 g1613 A1614 ((t1605.2.2.2.2.2.2).length) n1616 t2768 _ ⟨HGl0.out.pass HS.out⟩ ⟨HS.out.begin⟩ HA2769).mono ?_
                  rintro e_ w2770 ⟨rfl, hS⟩
                  replace HS : Aside0 (Sep (fps []) w [b7 g1612 g1613 t1605.2.1 t1605.2.2.1 t1605.2.2.2.1 t1605.2.2.2.2.1, b6 g1613 A1614 ((t1605.2.2.2.2.2.2).length) n1616 t2768.2, r5 A1614 ((t1605.2.2.2.2.2.2).length) n1616 t2548.2.2.2] w2770) := ⟨HS.out.call hS⟩
                  clear hS
                  by_cases c2771 : t2768.1 = 3
                  · replace H := if_yes c2771 H
                    have c2771b0 : (t2768.1 == 3) = true := beq_iff_eq.mpr c2771
                    have c2771b1 : (t2768.1 != 3) = false := bne_eq_false_iff_eq.mpr c2771
                    clear c2771
                    go_wp2_with fail
                    obtain ⟨t3035, HA3036, H⟩ := bind_some H
                    refine (obj_SetPtr.calls _ t2548.2.2.2 t2768.2 t1605.2.1 t1605.2.2.1 t1605.2.2.2.1 t1605.2.2.2.2.1 1 1 5 g1612 g1613 A1614 ((t1605.2.2.2.2.2.2).length) n1616 t3035 _ ⟨HGl0.out.pass HS.out⟩ ⟨HS.out.begin⟩ HA3036).mono ?_
                    rintro e_ w3037 ⟨rfl, hS⟩
                    replace HS : Aside0 (Sep (fps []) w [b7 g1612 g1613 t1605.2.1 t1605.2.2.1 t1605.2.2.2.1 t1605.2.2.2.2.1, b6 g1613 A1614 ((t1605.2.2.2.2.2.2).length) n1616 t3035.2.1, r5 A1614 ((t1605.2.2.2.2.2.2).length) n1616 t3035.2.2] w3037) := ⟨HS.out.call hS⟩
                    clear hS
                    by_cases c3038 : t3035.1 = 0
                    · replace H := if_yes c3038 H
                      have c3038b0 : (t3035.1 == 0) = true := beq_iff_eq.mpr c3038
                      have c3038b1 : (t3035.1 != 0) = false := bne_eq_false_iff_eq.mpr c3038
                      clear c3038
                      go_wp2_with fail
                      obtain ⟨t3090, HA3091, H⟩ := bind_some H
                      refine (obj_Ptr.calls _ t3035.2.2 t3035.2.1 t1605.2.1 t1605.2.2.1 t1605.2.2.2.1 t1605.2.2.2.2.1 1 1 g1612 g1613 A1614 ((t1605.2.2.2.2.2.2).length) n1616 t3090 _ ⟨HGl0.out.pass HS.out⟩ ⟨HS.out.begin⟩ HA3091).mono ?_
                      rintro e_ w3092 ⟨rfl, hS⟩
                      replace HS : Aside0 (Sep (fps []) w [b7 g1612 g1613 t1605.2.1 t1605.2.2.1 t1605.2.2.2.1 t1605.2.2.2.2.1, b6 g1613 A1614 ((t1605.2.2.2.2.2.2).length) n1616 t3090.2.2, r5 A1614 ((t1605.2.2.2.2.2.2).length) n1616 t3035.2.2] w3092) := ⟨HS.out.call hS⟩
                      clear hS
                      by_cases c3093 : t3090.1 = 5
                      · replace H := if_yes c3093 H
                        have c3093b0 : (t3090.1 == 5) = true := beq_iff_eq.mpr c3093
                        have c3093b1 : (t3090.1 != 5) = false := bne_eq_false_iff_eq.mpr c3093
                        clear c3093
                        by_cases c3094 : t3090.2.1 = 0
                        · replace H := if_yes c3094 H
                          have c3094b0 : (t3090.2.1 == 0) = true := beq_iff_eq.mpr c3094
                          have c3094b1 : (t3090.2.1 != 0) = false := bne_eq_false_iff_eq.mpr c3094
                          clear c3094
                          go_wp2_with fail
                          obtain ⟨t3397, HA3398, H⟩ := bind_some H
                          refine (obj_Shed.calls _ t3035.2.2 t3090.2.2 t1605.2.1 t1605.2.2.1 t1605.2.2.2.1 t1605.2.2.2.2.1 2 1 g1612 g1613 A1614 ((t1605.2.2.2.2.2.2).length) n1616 t3397 _ ⟨HGl0.out.pass HS.out⟩ ⟨HS.out.begin⟩ HA3398).mono ?_
                          rintro e_ w3399 ⟨rfl, hS⟩
                          replace HS : Aside0 (Sep (fps []) w [b7 g1612 g1613 t1605.2.1 t1605.2.2.1 t1605.2.2.2.1 t1605.2.2.2.2.1, b6 g1613 A1614 ((t1605.2.2.2.2.2.2).length) n1616 t3397.2.1, r5 A1614 ((t1605.2.2.2.2.2.2).length) n1616 t3397.2.2] w3399) := ⟨HS.out.call hS⟩
                          clear hS
                          by_cases c3400 : t3397.1 = true
                          · replace H := if_yes c3400 H
                            have c3400b0 : t3397.1 = true := c3400
                            have c3400b1 : (!t3397.1) = false := by rw [c3400b0]; rfl
                            clear c3400
                            go_wp2_with fail
                            obtain ⟨t3401, HA3402, H⟩ := bind_some H
                            refine (obj_Shed.calls _ t3397.2.2 t3397.2.1 t1605.2.1 t1605.2.2.1 t1605.2.2.2.1 t1605.2.2.2.2.1 2 1 g1612 g1613 A1614 ((t1605.2.2.2.2.2.2).length) n1616 t3401 _ ⟨HGl0.out.pass HS.out⟩ ⟨HS.out.begin⟩ HA3402).mono ?_
                            rintro e_ w3403 ⟨rfl, hS⟩
                            replace HS : Aside0 (Sep (fps []) w [b7 g1612 g1613 t1605.2.1 t1605.2.2.1 t1605.2.2.2.1 t1605.2.2.2.2.1, b6 g1613 A1614 ((t1605.2.2.2.2.2.2).length) n1616 t3401.2.1, r5 A1614 ((t1605.2.2.2.2.2.2).length) n1616 t3401.2.2] w3403) := ⟨HS.out.call hS⟩
                            clear hS
                            by_cases c3404 : t3401.1 = true
                            · replace H := if_yes c3404 H
                              have c3404b0 : t3401.1 = true := c3404
                              have c3404b1 : (!t3401.1) = false := by rw [c3404b0]; rfl
                              try rw [c3404b1]
                              clear c3404
                              replace HS : Aside0 (Sep (fps []) w [] w3403) := ⟨HS.out.sub (.cons _ (.cons _ (.cons _ .slnil)))⟩
                              go_wp2_with fail
                              go_ret
                              rw [← some_eq H]
                              exact ⟨(by first | rfl | (simp [IntKind.wrap_u32]; done)), HS.out⟩
                            · replace H := if_no c3404 H
                              have c3404b0 : t3401.1 = false := by simpa using c3404
                              have c3404b1 : (!t3401.1) = true := by rw [c3404b0]; rfl
                              try rw [c3404b1]
                              clear c3404
                              go_wp2_with fail
                              obtain ⟨t3606, HA3607, H⟩ := bind_some H
                              refine (pool_List.calls _ t3401.2.2 t3401.2.1 t1605.2.1 t1605.2.2.1 t1605.2.2.2.1 t1605.2.2.2.2.1 g1612 g1613 A1614 ((t1605.2.2.2.2.2.2).length) n1616 t3606 _ ⟨HGl0.out.pass HS.out⟩ ⟨HS.out.begin⟩ HA3607).mono ?_
                              rintro e_ w3608 ⟨A3610, m3611, n3612, rfl, hS⟩
                              replace HS : Aside0 (Sep (fps []) w [b7 g1612 g1613 t1605.2.1 t1605.2.2.1 t1605.2.2.2.1 t1605.2.2.2.2.1, b6 g1613 A1614 ((t1605.2.2.2.2.2.2).length) n1616 t3401.2.1, r5 A1614 ((t1605.2.2.2.2.2.2).length) n1616 t3401.2.2, r17 A3610 m3611 n3612 t3606] w3608) := ⟨HS.out.call hS⟩
                              clear hS
                              obtain rfl := (row_len (HS.out.at3)).symm
                              go_wp2_with (first | ((with_reducible refine gate_dst (N := 87) rfl ?_); refine slice_on (n := 2) ?hg (N := 87) ?hd (cs := #[.int .i64 3, .int .i64 5]) (t := 3) ?hr ?_; (case hd => rfl); (case hg => rfl); (case hr => first | (go_simp; done) | (go_simp; rfl)); intro g3614 hg w3615 hbox hb; replace HS : Aside0 (Sep (fps []) w [b7 g1612 g1613 t1605.2.1 t1605.2.2.1 t1605.2.2.2.1 t1605.2.2.2.2.1, b6 g1613 A1614 ((t1605.2.2.2.2.2.2).length) n1616 t3401.2.1, r5 A1614 ((t1605.2.2.2.2.2.2).length) n1616 t3401.2.2, r17 A3610 t3606.length n3612 t3606, b3 g3614 3 5] w3615) := ⟨HS.out.box hg hbox hb⟩; clear hg hbox hb))
                              obtain ⟨t3656, HA3657, H⟩ := bind_some H
                              refine (quitrentref01_Ints.calls _ t3606 [3, 5] A3610 n3612 (some ⟨g3614, 0, none⟩) 2 t3656 _ ⟨Rd.ownI (l := []) HS.out 3 rfl⟩ ⟨Rd.lit (l := []) (xs := [3, 5]) HS.out 4 rfl (by simp)⟩ ⟨HGl0.out.pass (l := []) HS.out⟩ ⟨Sep.start _⟩ HA3657).mono ?_
                              rintro e_ w3658 ⟨rfl, hS⟩
                              replace HS : Aside0 (Sep (fps []) w [b7 g1612 g1613 t1605.2.1 t1605.2.2.1 t1605.2.2.2.1 t1605.2.2.2.2.1, b6 g1613 A1614 ((t1605.2.2.2.2.2.2).length) n1616 t3401.2.1, r5 A1614 ((t1605.2.2.2.2.2.2).length) n1616 t3401.2.2, r17 A3610 t3606.length n3612 t3606, b3 g3614 3 5] w3658) := ⟨HS.out.call hS⟩
                              clear hS
                              replace HS : Aside0 (Sep (fps []) w [] w3658) := ⟨HS.out.sub (.cons _ (.cons _ (.cons _ (.cons _ (.cons _ .slnil)))))⟩
                              go_wp2_with fail
                              go_ret
                              rw [← some_eq H]
                              exact ⟨(by first | rfl | (simp [IntKind.wrap_u32]; done)), HS.out⟩
                          · replace H := if_no c3400 H
                            have c3400b0 : t3397.1 = false := by simpa using c3400
                            have c3400b1 : (!t3397.1) = true := by rw [c3400b0]; rfl
                            clear c3400
                            replace HS : Aside0 (Sep (fps []) w [] w3399) := ⟨HS.out.sub (.cons _ (.cons _ (.cons _ .slnil)))⟩
                            go_wp2_with fail
                            go_ret
                            rw [← some_eq H]
                            exact ⟨(by first | rfl | (simp [IntKind.wrap_u32]; done)), HS.out⟩
                        · replace H := if_no c3094 H
                          have c3094b0 : (t3090.2.1 == 0) = false := beq_eq_false_iff_ne.mpr c3094
                          have c3094b1 : (t3090.2.1 != 0) = true := bne_iff_ne.mpr c3094
                          clear c3094
                          replace HS : Aside0 (Sep (fps []) w [] w3092) := ⟨HS.out.sub (.cons _ (.cons _ (.cons _ .slnil)))⟩
                          go_wp2_with fail
                          go_ret
                          rw [← some_eq H]
                          exact ⟨(by first | rfl | (simp [IntKind.wrap_u32]; done)), HS.out⟩
                      · replace H := if_no c3093 H
                        have c3093b0 : (t3090.1 == 5) = false := beq_eq_false_iff_ne.mpr c3093
                        have c3093b1 : (t3090.1 != 5) = true := bne_iff_ne.mpr c3093
                        clear c3093
                        replace HS : Aside0 (Sep (fps []) w [] w3092) := ⟨HS.out.sub (.cons _ (.cons _ (.cons _ .slnil)))⟩
                        go_wp2_with fail
                        go_ret
                        rw [← some_eq H]
                        exact ⟨(by first | rfl | (simp [IntKind.wrap_u32]; done)), HS.out⟩
                    · replace H := if_no c3038 H
                      have c3038b0 : (t3035.1 == 0) = false := beq_eq_false_iff_ne.mpr c3038
                      have c3038b1 : (t3035.1 != 0) = true := bne_iff_ne.mpr c3038
                      clear c3038
                      replace HS : Aside0 (Sep (fps []) w [] w3037) := ⟨HS.out.sub (.cons _ (.cons _ (.cons _ .slnil)))⟩
                      go_wp2_with fail
                      go_ret
                      rw [← some_eq H]
                      exact ⟨(by first | rfl | (simp [IntKind.wrap_u32]; done)), HS.out⟩
                  · replace H := if_no c2771 H
                    have c2771b0 : (t2768.1 == 3) = false := beq_eq_false_iff_ne.mpr c2771
                    have c2771b1 : (t2768.1 != 3) = true := bne_iff_ne.mpr c2771
                    clear c2771
                    replace HS : Aside0 (Sep (fps []) w [] w2770) := ⟨HS.out.sub (.cons _ (.cons _ (.cons _ .slnil)))⟩
                    go_wp2_with fail
                    go_ret
                    rw [← some_eq H]
                    exact ⟨(by first | rfl | (simp [IntKind.wrap_u32]; done)), HS.out⟩
                · replace H := if_no c2556 H
                  have c2556b0 : (t2548.2.1 == 0) = false := beq_eq_false_iff_ne.mpr c2556
                  have c2556b1 : (t2548.2.1 != 0) = true := bne_iff_ne.mpr c2556
                  clear c2556
                  replace HS : Aside0 (Sep (fps []) w [] w2550) := ⟨HS.out.sub (.cons _ (.cons _ (.cons _ .slnil)))⟩
                  go_wp2_with fail
                  go_ret
                  rw [← some_eq H]
                  exact ⟨(by first | rfl | (simp [IntKind.wrap_u32]; done)), HS.out⟩
              · replace H := if_no c2555 H
                have c2555b0 : (t2545.2.1 == 0) = false := beq_eq_false_iff_ne.mpr c2555
                have c2555b1 : (t2545.2.1 != 0) = true := bne_iff_ne.mpr c2555
                clear c2555
                replace HS : Aside0 (Sep (fps []) w [] w2550) := ⟨HS.out.sub (.cons _ (.cons _ (.cons _ .slnil)))⟩
                go_wp2_with fail
                go_ret
                rw [← some_eq H]
                exact ⟨(by first | rfl | (simp [IntKind.wrap_u32]; done)), HS.out⟩
            · replace H := if_no c2554 H
              have c2554b0 : (t2542.2.1 == 0) = false := beq_eq_false_iff_ne.mpr c2554
              have c2554b1 : (t2542.2.1 != 0) = true := bne_iff_ne.mpr c2554
              clear c2554
              replace HS : Aside0 (Sep (fps []) w [] w2550) := ⟨HS.out.sub (.cons _ (.cons _ (.cons _ .slnil)))⟩
              go_wp2_with fail
              go_ret
              rw [← some_eq H]
              exact ⟨(by first | rfl | (simp [IntKind.wrap_u32]; done)), HS.out⟩
          · replace H := if_no c2553 H
            have c2553b0 : (t2548.1 == 5) = false := beq_eq_false_iff_ne.mpr c2553
            have c2553b1 : (t2548.1 != 5) = true := bne_iff_ne.mpr c2553
            clear c2553
            replace HS : Aside0 (Sep (fps []) w [] w2550) := ⟨HS.out.sub (.cons _ (.cons _ (.cons _ .slnil)))⟩
            go_wp2_with fail
            go_ret
            rw [← some_eq H]
            exact ⟨(by first | rfl | (simp [IntKind.wrap_u32]; done)), HS.out⟩
        · replace H := if_no c2552 H
          have c2552b0 : (t2545.1 == 2) = false := beq_eq_false_iff_ne.mpr c2552
          have c2552b1 : (t2545.1 != 2) = true := bne_iff_ne.mpr c2552
          clear c2552
          replace HS : Aside0 (Sep (fps []) w [] w2550) := ⟨HS.out.sub (.cons _ (.cons _ (.cons _ .slnil)))⟩
          go_wp2_with fail
          go_ret
          rw [← some_eq H]
          exact ⟨(by first | rfl | (simp [IntKind.wrap_u32]; done)), HS.out⟩
      · replace H := if_no c2551 H
        have c2551b0 : (t2542.1 == 1) = false := beq_eq_false_iff_ne.mpr c2551
        have c2551b1 : (t2542.1 != 1) = true := bne_iff_ne.mpr c2551
        clear c2551
        replace HS : Aside0 (Sep (fps []) w [] w2550) := ⟨HS.out.sub (.cons _ (.cons _ (.cons _ .slnil)))⟩
        go_wp2_with fail
        go_ret
        rw [← some_eq H]
        exact ⟨(by first | rfl | (simp [IntKind.wrap_u32]; done)), HS.out⟩
    · replace H := if_no c1618 H
      have c1618b0 : t1605.1 = false := by simpa using c1618
      have c1618b1 : (!t1605.1) = true := by rw [c1618b0]; rfl
      try rw [c1618b1]
      clear c1618
      replace HS : Aside0 (Sep (fps []) w [] w1608) := ⟨HS.out.sub (.cons _ (.cons _ (.cons _ .slnil)))⟩
      go_wp2_with fail
      go_ret
      rw [← some_eq H]
      exact ⟨(by first | rfl | (simp [IntKind.wrap_u32]; done)), HS.out⟩

set_option maxHeartbeats 30000000 in
set_option maxRecDepth 100000 in
theorem obj_End.calls (l3933 : List Int) (a3938 : Int) (a3939 : Int) (a3940 : Int) (a3941 : Int) (a3942 : Int) (a3943 : Int) (g3929 : Nat) (g3931 : Nat) (A3934 : Option Addr) (m3935 : Nat) (n3936 : Nat) (r : Bool × Int × List Int) (w : World)  (HGl0 : Aside0 (Gl 0 #[.int .i64 0, .int .i64 0, .int .i64 0, .int .i64 0, .int .i64 0] (fps [b7 g3929 g3931 a3939 a3940 a3941 a3942, b6 g3931 A3934 m3935 n3936 a3938, r5 A3934 m3935 n3936 l3933]) w)) (HS : Aside0 (Sep (fps [b7 g3929 g3931 a3939 a3940 a3941 a3942, b6 g3931 A3934 m3935 n3936 a3938, r5 A3934 m3935 n3936 l3933]) w [b7 g3929 g3931 a3939 a3940 a3941 a3942, b6 g3931 A3934 m3935 n3936 a3938, r5 A3934 m3935 n3936 l3933] w)) (H : Aside0 (obj_End.f l3933 a3938 a3939 a3940 a3941 a3942 a3943 = some r)) :
    Calls Tryd.prog 47 #[.pointer (some ⟨g3929, 0, none⟩), .int .i64 a3943] w fun e w' => e = .returned (.bool r.1) ∧ Sep (fps [b7 g3929 g3931 a3939 a3940 a3941 a3942, b6 g3931 A3934 m3935 n3936 a3938, r5 A3934 m3935 n3936 l3933]) w [b7 g3929 g3931 a3939 a3940 a3941 a3942, b6 g3931 A3934 m3935 n3936 r.2.1, r5 A3934 m3935 n3936 r.2.2] w' := by
  generalize (fps [b7 g3929 g3931 a3939 a3940 a3941 a3942, b6 g3931 A3934 m3935 n3936 a3938, r5 A3934 m3935 n3936 l3933]) = FF at HS HGl0 ⊢
  obtain rfl := (row_len (HS.out.at2)).symm
  unfold obj_End.f at H
  go_enter Tryd.func47, Tryd.ntmps47
  go_wp2_with fail
  obtain ⟨t3951, HA3952, H⟩ := bind_some H
  refine (obj_Is.calls l3933 a3938 a3939 a3940 a3941 a3942 a3943 g3929 g3931 A3934 l3933.length n3936 t3951 _ ⟨HGl0.out.pass HS.out⟩ ⟨HS.out.begin⟩ HA3952).mono ?_
  rintro e_ w3953 ⟨rfl, hS⟩
  replace HS : Aside0 (Sep FF w [b7 g3929 g3931 a3939 a3940 a3941 a3942, b6 g3931 A3934 l3933.length n3936 t3951.2, r5 A3934 l3933.length n3936 l3933] w3953) := ⟨HS.out.call hS⟩
  clear hS
  by_cases c3954 : t3951.1 = true
  · replace H := if_yes c3954 H
    have c3954b0 : t3951.1 = true := c3954
    have c3954b1 : (!t3951.1) = false := by rw [c3954b0]; rfl
    clear c3954
    go_wp2_with fail
    obtain ⟨t3955, HA3956, H⟩ := bind_some H
    refine (pool_Give.calls l3933 t3951.2 a3939 a3940 a3941 a3942 (wrap64 (a3943 - 1)) g3929 g3931 A3934 l3933.length n3936 t3955 _ ⟨HGl0.out.pass HS.out⟩ ⟨HS.out.begin⟩ HA3956).mono ?_
    rintro e_ w3957 ⟨rfl, hS⟩
    replace HS : Aside0 (Sep FF w [b7 g3929 g3931 a3939 a3940 a3941 a3942, b6 g3931 A3934 l3933.length n3936 t3955.2.1, r5 A3934 l3933.length n3936 t3955.2.2] w3957) := ⟨HS.out.call hS⟩
    clear hS
    go_wp2_with fail
    go_ret
    rw [← some_eq H]
    exact ⟨(by first | rfl | (simp [IntKind.wrap_u32]; done)), HS.out⟩
  · replace H := if_no c3954 H
    have c3954b0 : t3951.1 = false := by simpa using c3954
    have c3954b1 : (!t3951.1) = true := by rw [c3954b0]; rfl
    clear c3954
    go_wp2_with fail
    go_ret
    rw [← some_eq H]
    exact ⟨(by first | rfl | (simp [IntKind.wrap_u32]; done)), HS.out⟩
end Go.Proofs.YtobeonkddamnoaaDoor.C

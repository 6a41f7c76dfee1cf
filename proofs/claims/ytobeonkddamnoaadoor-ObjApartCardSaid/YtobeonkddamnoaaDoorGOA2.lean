/- Each function of the group OA does what its plain function says, and changes nothing that was there; proved by walking its code. No condition. -/
import Derived.Test.YtobeonkddamnoaaDoorQw
import Derived.Test.YtobeonkddamnoaaDoorMOA
import Derived.Test.YtobeonkddamnoaaDoorGOA0
import Derived.Test.YtobeonkddamnoaaDoorGOA1
namespace Go.Proofs.YtobeonkddamnoaaDoor.C
open Go.RowKit Go.Proofs.YtobeonkddamnoaaDoorW.PrintWords Go.Proofs.YtobeonkddamnoaaDoorW.PrintLast Go.Proofs.YtobeonkddamnoaaDoor.Q Go.Proofs.YtobeonkddamnoaaDoor.M
set_option linter.unusedVariables false
set_option linter.unusedSimpArgs false
set_option maxHeartbeats 30000000 in
set_option maxRecDepth 100000 in
theorem obj_Make.calls (k : Nat) (l1634 : List Int) (a1639 : Int) (a1640 : Int) (a1641 : Int) (a1642 : Int) (a1643 : Int) (a1644 : Int) (a1645 : Int) (g1630 : Nat) (g1632 : Nat) (A1635 : Option Addr) (m1636 : Nat) (n1637 : Nat) (r : Int × Int × Int × List Int) (w : World)  (HGl0 : Aside0 (Gl 0 #[.int .i64 0, .int .i64 0, .int .i64 0, .int .i64 0, .int .i64 0] (fps [b8 g1630 g1632 a1640 a1641 a1642 a1643, b7 g1632 A1635 m1636 n1637 a1639, r6 A1635 m1636 n1637 l1634]) w)) (HS : Aside0 (Sep (fps [b8 g1630 g1632 a1640 a1641 a1642 a1643, b7 g1632 A1635 m1636 n1637 a1639, r6 A1635 m1636 n1637 l1634]) w [b8 g1630 g1632 a1640 a1641 a1642 a1643, b7 g1632 A1635 m1636 n1637 a1639, r6 A1635 m1636 n1637 l1634] w)) (H : Aside0 (obj_Make.f k l1634 a1639 a1640 a1641 a1642 a1643 a1644 a1645 = some r)) :
    Calls Tryd.prog 34 #[.pointer (some ⟨g1630, 0, none⟩), .int .i64 a1644, .int .i64 a1645] w fun e w' => e = .returned (.tuple #[.int .i64 r.1, .int .i64 r.2.1]) ∧ Sep (fps [b8 g1630 g1632 a1640 a1641 a1642 a1643, b7 g1632 A1635 m1636 n1637 a1639, r6 A1635 m1636 n1637 l1634]) w [b8 g1630 g1632 a1640 a1641 a1642 a1643, b7 g1632 A1635 m1636 n1637 r.2.2.1, r6 A1635 m1636 n1637 r.2.2.2] w' := by
  generalize (fps [b8 g1630 g1632 a1640 a1641 a1642 a1643, b7 g1632 A1635 m1636 n1637 a1639, r6 A1635 m1636 n1637 l1634]) = FF at HS HGl0 ⊢
  obtain rfl := (row_len (HS.out.at2)).symm
  unfold obj_Make.f at H
  go_enter Tryd.func34, Tryd.ntmps34
  go_wp2_with fail
  obtain ⟨t2462, HA2463, H⟩ := bind_some H
  refine (ground_Ground_Conf.calls l1634 a1639 a1640 a1641 a1642 a1643 g1630 g1632 A1635 l1634.length n1637 t2462 _ ⟨HGl0.out.pass HS.out⟩ ⟨HS.out.begin⟩ HA2463).mono ?_
  rintro e_ w2464 ⟨rfl, hS⟩
  replace HS : Aside0 (Sep FF w [b8 g1630 g1632 a1640 a1641 a1642 a1643, b7 g1632 A1635 l1634.length n1637 a1639, r6 A1635 l1634.length n1637 l1634] w2464) := ⟨HS.out.call hS⟩
  clear hS
  have fl2465 : ∀ w, (Instr.field 30 (.agg #[.int .i64 t2462.1, .int .i64 t2462.2.1, .int .i64 t2462.2.2.1, .int .i64 t2462.2.2.2]) 1).run Tryd.prog w = .ok (.int .i64 t2462.2.1) w := fun _ => by kernel_rfl
  go_wp2_with fail
  clear fl2465
  obtain ⟨t2466, HA2467, H⟩ := bind_some H
  refine (shape_Blocks.calls _ t2462.2.1 a1644 a1645 t2466 _ ⟨HGl0.out.pass (l := []) HS.out⟩ ⟨Sep.start _⟩ HA2467).mono ?_
  rintro e_ w2468 ⟨rfl, hS⟩
  replace HS : Aside0 (Sep FF w [b8 g1630 g1632 a1640 a1641 a1642 a1643, b7 g1632 A1635 l1634.length n1637 a1639, r6 A1635 l1634.length n1637 l1634] w2468) := ⟨HS.out.call hS⟩
  clear hS
  by_cases c2469 : t2466.2 = 0
  · replace H := if_yes c2469 H
    have c2469b0 : (t2466.2 == 0) = true := beq_iff_eq.mpr c2469
    have c2469b1 : (t2466.2 != 0) = false := bne_eq_false_iff_eq.mpr c2469
    clear c2469
    go_wp2_with fail
    obtain ⟨t2470, HA2471, H⟩ := bind_some H
    refine (pool_Len.calls l1634 a1639 a1640 a1641 a1642 a1643 g1630 g1632 A1635 l1634.length n1637 t2470 _ ⟨HGl0.out.pass HS.out⟩ ⟨HS.out.begin⟩ HA2471).mono ?_
    rintro e_ w2472 ⟨rfl, hS⟩
    replace HS : Aside0 (Sep FF w [b8 g1630 g1632 a1640 a1641 a1642 a1643, b7 g1632 A1635 l1634.length n1637 t2470.2, r6 A1635 l1634.length n1637 l1634] w2472) := ⟨HS.out.call hS⟩
    clear hS
    by_cases c2473 : t2470.1 < t2466.1
    · replace H := if_yes c2473 H
      have c2473b0 : decide (t2470.1 < t2466.1) = true := decide_eq_true c2473
      clear c2473
      go_wp2_with fail
      go_ret2
      rw [← some_eq H]
      exact ⟨(by first | rfl | (simp [IntKind.wrap_u32]; done)), HS.out⟩
    · replace H := if_no c2473 H
      have c2473b0 : decide (t2470.1 < t2466.1) = false := decide_eq_false c2473
      clear c2473
      go_wp2_with fail
      obtain ⟨t2474, HA2475, H⟩ := bind_some H
      refine (pool_Take.calls _ l1634 t2470.2 a1640 a1641 a1642 a1643 g1630 g1632 A1635 l1634.length n1637 t2474 _ ⟨HGl0.out.pass HS.out⟩ ⟨HS.out.begin⟩ HA2475).mono ?_
      rintro e_ w2476 ⟨rfl, hS⟩
      replace HS : Aside0 (Sep FF w [b8 g1630 g1632 a1640 a1641 a1642 a1643, b7 g1632 A1635 l1634.length n1637 t2474.2.2.1, r6 A1635 l1634.length n1637 t2474.2.2.2] w2476) := ⟨HS.out.call hS⟩
      clear hS
      by_cases c2477 : t2466.1 > 1
      · replace H := if_yes c2477 H
        have c2477b0 : decide (1 < t2466.1) = true := decide_eq_true c2477
        clear c2477
        go_wp2_with fail
        obtain ⟨t2478, HA2479, H⟩ := bind_some H
        refine (obj_mark.calls _ t2474.2.2.2 t2474.2.2.1 a1640 a1641 a1642 a1643 t2474.1 2 0 0 0 0 0 0 g1630 g1632 A1635 l1634.length n1637 t2478 _ ⟨HGl0.out.pass HS.out⟩ ⟨HS.out.begin⟩ HA2479).mono ?_
        rintro e_ w2480 ⟨rfl, hS⟩
        replace HS : Aside0 (Sep FF w [b8 g1630 g1632 a1640 a1641 a1642 a1643, b7 g1632 A1635 l1634.length n1637 t2478.1, r6 A1635 l1634.length n1637 t2478.2] w2480) := ⟨HS.out.call hS⟩
        clear hS
        go_wp2_with fail
        obtain ⟨t2481, HA2482, H⟩ := bind_some H
        refine (ground_Ground_SetWord.calls t2478.2 t2478.1 a1640 a1641 a1642 a1643 t2474.1 1 ((a1644) % 4294967296) g1630 g1632 A1635 l1634.length n1637 t2481 _ ⟨HGl0.out.pass HS.out⟩ ⟨HS.out.begin⟩ HA2482).mono ?_
        rintro e_ w2483 ⟨rfl, hS⟩
        replace HS : Aside0 (Sep FF w [b8 g1630 g1632 a1640 a1641 a1642 a1643, b7 g1632 A1635 l1634.length n1637 t2481.2.1, r6 A1635 l1634.length n1637 t2481.2.2] w2483) := ⟨HS.out.call hS⟩
        clear hS
        go_wp2_with fail
        obtain ⟨t2484, HA2485, H⟩ := bind_some H
        refine (ground_Ground_SetWord.calls t2481.2.2 t2481.2.1 a1640 a1641 a1642 a1643 t2474.1 2 ((a1645) % 4294967296) g1630 g1632 A1635 l1634.length n1637 t2484 _ ⟨HGl0.out.pass HS.out⟩ ⟨HS.out.begin⟩ HA2485).mono ?_
        rintro e_ w2486 ⟨rfl, hS⟩
        replace HS : Aside0 (Sep FF w [b8 g1630 g1632 a1640 a1641 a1642 a1643, b7 g1632 A1635 l1634.length n1637 t2484.2.1, r6 A1635 l1634.length n1637 t2484.2.2] w2486) := ⟨HS.out.call hS⟩
        clear hS
        go_wp2_with fail
        obtain ⟨o2503, AL2504, H⟩ := bind_some H
        go_loopg [56] k (fun kq v56 wc => ∃ (x2507 : Int) (x2508 : List Int) (x2509 : Int), v56 = .int .i64 x2507 ∧ Aside0 (obj_Make.lo0 kq a1640 a1641 a1642 a1643 t2466 t2474 x2507 x2508 x2509 = some o2503) ∧ Aside0 (Sep FF w [b8 g1630 g1632 a1640 a1641 a1642 a1643, b7 g1632 A1635 l1634.length n1637 x2509, r6 A1635 l1634.length n1637 x2508] wc))
        case atStart => exact ⟨(0), (t2484.2.2), (t2484.2.1), (by first | rfl | (simp [IntKind.wrap_u32]; done)), AL2504, ⟨HS.out⟩⟩
        case round =>
          clear AL2504 HS
          obtain ⟨x2507, x2508, x2509, rfl, AL2504, HS⟩ := hrel
          obtain ⟨w2505, rfl⟩ : ∃ x : World, x = wr := ⟨_, rfl⟩
          cases gk with
          | zero => exact absurd AL2504.out (by simp [obj_Make.lo0])
          | succ k2506 =>
            have AL0 := AL2504.out
            rw [obj_Make.lo0] at AL0
            clear AL2504
            have AL2504 := Aside0.mk AL0
            clear AL0
            by_cases c2510 : x2507 < (wrap64 (t2466.1 - 1))
            · replace AL2504 := if_yes c2510 AL2504
              have c2510b0 : decide (x2507 < (wrap64 (t2466.1 - 1))) = true := decide_eq_true c2510
              clear c2510
              go_wp2_with fail
              obtain ⟨t2494, HA2511, AL2504⟩ := bind_some AL2504
              refine (pool_Take.calls _ x2508 x2509 a1640 a1641 a1642 a1643 g1630 g1632 A1635 l1634.length n1637 t2494 _ ⟨HGl0.out.pass HS.out⟩ ⟨HS.out.begin⟩ HA2511).mono ?_
              rintro e_ w2512 ⟨rfl, hS⟩
              replace HS : Aside0 (Sep FF w [b8 g1630 g1632 a1640 a1641 a1642 a1643, b7 g1632 A1635 l1634.length n1637 t2494.2.2.1, r6 A1635 l1634.length n1637 t2494.2.2.2] w2512) := ⟨HS.out.call hS⟩
              clear hS
              go_wp2_with fail
              obtain ⟨t2497, HA2513, AL2504⟩ := bind_some AL2504
              refine (obj_mark.calls _ t2494.2.2.2 t2494.2.2.1 a1640 a1641 a1642 a1643 t2494.1 3 0 0 0 0 0 t2474.1 g1630 g1632 A1635 l1634.length n1637 t2497 _ ⟨HGl0.out.pass HS.out⟩ ⟨HS.out.begin⟩ HA2513).mono ?_
              rintro e_ w2514 ⟨rfl, hS⟩
              replace HS : Aside0 (Sep FF w [b8 g1630 g1632 a1640 a1641 a1642 a1643, b7 g1632 A1635 l1634.length n1637 t2497.1, r6 A1635 l1634.length n1637 t2497.2] w2514) := ⟨HS.out.call hS⟩
              clear hS
              go_wp2_with fail
              obtain ⟨t2500, HA2515, AL2504⟩ := bind_some AL2504
              refine (ground_Ground_SetWord.calls t2497.2 t2497.1 a1640 a1641 a1642 a1643 t2474.1 (wrap64 (8 + x2507)) ((wrap64 (t2494.1 + 1)) % 4294967296) g1630 g1632 A1635 l1634.length n1637 t2500 _ ⟨HGl0.out.pass HS.out⟩ ⟨HS.out.begin⟩ HA2515).mono ?_
              rintro e_ w2516 ⟨rfl, hS⟩
              replace HS : Aside0 (Sep FF w [b8 g1630 g1632 a1640 a1641 a1642 a1643, b7 g1632 A1635 l1634.length n1637 t2500.2.1, r6 A1635 l1634.length n1637 t2500.2.2] w2516) := ⟨HS.out.call hS⟩
              clear hS
              go_wp2_with fail
              go_roundg k2506
              case measure => exact Nat.lt_succ_self _
              case rel => exact ⟨(wrap64 (x2507 + 1)), (t2500.2.2), (t2500.2.1), (by first | rfl | (simp [IntKind.wrap_u32]; done)), Aside0.mk AL2504.out, ⟨HS.out⟩⟩
            · replace AL2504 := if_no c2510 AL2504
              have c2510b0 : decide (x2507 < (wrap64 (t2466.1 - 1))) = false := decide_eq_false c2510
              clear c2510
              have ho := some_eq AL2504
              subst ho
              clear AL2504
              go_wp2_with fail
              go_ret2
              rw [← some_eq H]
              exact ⟨(by first | rfl | (simp [IntKind.wrap_u32]; done)), HS.out⟩
      · replace H := if_no c2477 H
        have c2477b0 : decide (1 < t2466.1) = false := decide_eq_false c2477
        clear c2477
        go_wp2_with fail
        obtain ⟨t2478, HA2518, H⟩ := bind_some H
        refine (obj_mark.calls _ t2474.2.2.2 t2474.2.2.1 a1640 a1641 a1642 a1643 t2474.1 1 0 0 0 0 0 0 g1630 g1632 A1635 l1634.length n1637 t2478 _ ⟨HGl0.out.pass HS.out⟩ ⟨HS.out.begin⟩ HA2518).mono ?_
        rintro e_ w2519 ⟨rfl, hS⟩
        replace HS : Aside0 (Sep FF w [b8 g1630 g1632 a1640 a1641 a1642 a1643, b7 g1632 A1635 l1634.length n1637 t2478.1, r6 A1635 l1634.length n1637 t2478.2] w2519) := ⟨HS.out.call hS⟩
        clear hS
        go_wp2_with fail
        obtain ⟨t2481, HA2520, H⟩ := bind_some H
        refine (ground_Ground_SetWord.calls t2478.2 t2478.1 a1640 a1641 a1642 a1643 t2474.1 1 ((a1644) % 4294967296) g1630 g1632 A1635 l1634.length n1637 t2481 _ ⟨HGl0.out.pass HS.out⟩ ⟨HS.out.begin⟩ HA2520).mono ?_
        rintro e_ w2521 ⟨rfl, hS⟩
        replace HS : Aside0 (Sep FF w [b8 g1630 g1632 a1640 a1641 a1642 a1643, b7 g1632 A1635 l1634.length n1637 t2481.2.1, r6 A1635 l1634.length n1637 t2481.2.2] w2521) := ⟨HS.out.call hS⟩
        clear hS
        go_wp2_with fail
        obtain ⟨t2484, HA2522, H⟩ := bind_some H
        refine (ground_Ground_SetWord.calls t2481.2.2 t2481.2.1 a1640 a1641 a1642 a1643 t2474.1 2 ((a1645) % 4294967296) g1630 g1632 A1635 l1634.length n1637 t2484 _ ⟨HGl0.out.pass HS.out⟩ ⟨HS.out.begin⟩ HA2522).mono ?_
        rintro e_ w2523 ⟨rfl, hS⟩
        replace HS : Aside0 (Sep FF w [b8 g1630 g1632 a1640 a1641 a1642 a1643, b7 g1632 A1635 l1634.length n1637 t2484.2.1, r6 A1635 l1634.length n1637 t2484.2.2] w2523) := ⟨HS.out.call hS⟩
        clear hS
        go_wp2_with fail
        obtain ⟨o2537, AL2538, H⟩ := bind_some H
        go_loopg [56] k (fun kq v56 wc => ∃ (x2541 : Int) (x2542 : List Int) (x2543 : Int), v56 = .int .i64 x2541 ∧ Aside0 (obj_Make.lo1 kq a1640 a1641 a1642 a1643 t2466 t2474 x2541 x2542 x2543 = some o2537) ∧ Aside0 (Sep FF w [b8 g1630 g1632 a1640 a1641 a1642 a1643, b7 g1632 A1635 l1634.length n1637 x2543, r6 A1635 l1634.length n1637 x2542] wc))
        case atStart => exact ⟨(0), (t2484.2.2), (t2484.2.1), (by first | rfl | (simp [IntKind.wrap_u32]; done)), AL2538, ⟨HS.out⟩⟩
        case round =>
          clear AL2538 HS
          obtain ⟨x2541, x2542, x2543, rfl, AL2538, HS⟩ := hrel
          obtain ⟨w2539, rfl⟩ : ∃ x : World, x = wr := ⟨_, rfl⟩
          cases gk with
          | zero => exact absurd AL2538.out (by simp [obj_Make.lo1])
          | succ k2540 =>
            have AL0 := AL2538.out
            rw [obj_Make.lo1] at AL0
            clear AL2538
            have AL2538 := Aside0.mk AL0
            clear AL0
            by_cases c2544 : x2541 < (wrap64 (t2466.1 - 1))
            · replace AL2538 := if_yes c2544 AL2538
              have c2544b0 : decide (x2541 < (wrap64 (t2466.1 - 1))) = true := decide_eq_true c2544
              clear c2544
              go_wp2_with fail
              obtain ⟨t2494, HA2545, AL2538⟩ := bind_some AL2538
              refine (pool_Take.calls _ x2542 x2543 a1640 a1641 a1642 a1643 g1630 g1632 A1635 l1634.length n1637 t2494 _ ⟨HGl0.out.pass HS.out⟩ ⟨HS.out.begin⟩ HA2545).mono ?_
              rintro e_ w2546 ⟨rfl, hS⟩
              replace HS : Aside0 (Sep FF w [b8 g1630 g1632 a1640 a1641 a1642 a1643, b7 g1632 A1635 l1634.length n1637 t2494.2.2.1, r6 A1635 l1634.length n1637 t2494.2.2.2] w2546) := ⟨HS.out.call hS⟩
              clear hS
              go_wp2_with fail
              obtain ⟨t2497, HA2547, AL2538⟩ := bind_some AL2538
              refine (obj_mark.calls _ t2494.2.2.2 t2494.2.2.1 a1640 a1641 a1642 a1643 t2494.1 3 0 0 0 0 0 t2474.1 g1630 g1632 A1635 l1634.length n1637 t2497 _ ⟨HGl0.out.pass HS.out⟩ ⟨HS.out.begin⟩ HA2547).mono ?_
              rintro e_ w2548 ⟨rfl, hS⟩
              replace HS : Aside0 (Sep FF w [b8 g1630 g1632 a1640 a1641 a1642 a1643, b7 g1632 A1635 l1634.length n1637 t2497.1, r6 A1635 l1634.length n1637 t2497.2] w2548) := ⟨HS.out.call hS⟩
              clear hS
              go_wp2_with fail
              obtain ⟨t2500, HA2549, AL2538⟩ := bind_some AL2538
              refine (ground_Ground_SetWord.calls t2497.2 t2497.1 a1640 a1641 a1642 a1643 t2474.1 (wrap64 (8 + x2541)) ((wrap64 (t2494.1 + 1)) % 4294967296) g1630 g1632 A1635 l1634.length n1637 t2500 _ ⟨HGl0.out.pass HS.out⟩ ⟨HS.out.begin⟩ HA2549).mono ?_
              rintro e_ w2550 ⟨rfl, hS⟩
              replace HS : Aside0 (Sep FF w [b8 g1630 g1632 a1640 a1641 a1642 a1643, b7 g1632 A1635 l1634.length n1637 t2500.2.1, r6 A1635 l1634.length n1637 t2500.2.2] w2550) := ⟨HS.out.call hS⟩
              clear hS
              go_wp2_with fail
              go_roundg k2540
              case measure => exact Nat.lt_succ_self _
              case rel => exact ⟨(wrap64 (x2541 + 1)), (t2500.2.2), (t2500.2.1), (by first | rfl | (simp [IntKind.wrap_u32]; done)), Aside0.mk AL2538.out, ⟨HS.out⟩⟩
            · replace AL2538 := if_no c2544 AL2538
              have c2544b0 : decide (x2541 < (wrap64 (t2466.1 - 1))) = false := decide_eq_false c2544
              clear c2544
              have ho := some_eq AL2538
              subst ho
              clear AL2538
              go_wp2_with fail
              go_ret2
              rw [← some_eq H]
              exact ⟨(by first | rfl | (simp [IntKind.wrap_u32]; done)), HS.out⟩
  · replace H := if_no c2469 H
    have c2469b0 : (t2466.2 == 0) = false := beq_eq_false_iff_ne.mpr c2469
    have c2469b1 : (t2466.2 != 0) = true := bne_iff_ne.mpr c2469
    clear c2469
    go_wp2_with fail
    go_ret2
    rw [← some_eq H]
    exact ⟨(by first | rfl | (simp [IntKind.wrap_u32]; done)), HS.out⟩

set_option maxHeartbeats 30000000 in
set_option maxRecDepth 100000 in
theorem obj_in.calls (l2590 : List Int) (a2595 : Int) (a2596 : Int) (a2597 : Int) (a2598 : Int) (a2599 : Int) (a2600 : Int) (g2586 : Nat) (g2588 : Nat) (A2591 : Option Addr) (m2592 : Nat) (n2593 : Nat) (r : Bool) (w : World)  (HGl0 : Aside0 (Gl 0 #[.int .i64 0, .int .i64 0, .int .i64 0, .int .i64 0, .int .i64 0] (fps [b8 g2586 g2588 a2596 a2597 a2598 a2599, b7 g2588 A2591 m2592 n2593 a2595, r6 A2591 m2592 n2593 l2590]) w)) (HS : Aside0 (Sep (fps [b8 g2586 g2588 a2596 a2597 a2598 a2599, b7 g2588 A2591 m2592 n2593 a2595, r6 A2591 m2592 n2593 l2590]) w [b8 g2586 g2588 a2596 a2597 a2598 a2599, b7 g2588 A2591 m2592 n2593 a2595, r6 A2591 m2592 n2593 l2590] w)) (H : Aside0 (obj_in.f l2590 a2595 a2596 a2597 a2598 a2599 a2600 = some r)) :
    Calls Tryd.prog 100 #[.pointer (some ⟨g2586, 0, none⟩), .int .i64 a2600] w fun e w' => e = .returned (.bool r) ∧ Sep (fps [b8 g2586 g2588 a2596 a2597 a2598 a2599, b7 g2588 A2591 m2592 n2593 a2595, r6 A2591 m2592 n2593 l2590]) w [b8 g2586 g2588 a2596 a2597 a2598 a2599, b7 g2588 A2591 m2592 n2593 a2595, r6 A2591 m2592 n2593 l2590] w' := by
  generalize (fps [b8 g2586 g2588 a2596 a2597 a2598 a2599, b7 g2588 A2591 m2592 n2593 a2595, r6 A2591 m2592 n2593 l2590]) = FF at HS HGl0 ⊢
  obtain rfl := (row_len (HS.out.at2)).symm
  unfold obj_in.f at H
  go_enter Tryd.func100, Tryd.ntmps100
  by_cases c2601 : a2600 > 0
  · replace H := if_yes c2601 H
    have c2601b0 : decide (0 < a2600) = true := decide_eq_true c2601
    clear c2601
    go_wp2_with fail
    obtain ⟨t2602, HA2603, H⟩ := bind_some H
    refine (ground_Ground_Conf.calls l2590 a2595 a2596 a2597 a2598 a2599 g2586 g2588 A2591 l2590.length n2593 t2602 _ ⟨HGl0.out.pass HS.out⟩ ⟨HS.out.begin⟩ HA2603).mono ?_
    rintro e_ w2604 ⟨rfl, hS⟩
    replace HS : Aside0 (Sep FF w [b8 g2586 g2588 a2596 a2597 a2598 a2599, b7 g2588 A2591 l2590.length n2593 a2595, r6 A2591 l2590.length n2593 l2590] w2604) := ⟨HS.out.call hS⟩
    clear hS
    have fl2605 : ∀ w, (Instr.field 30 (.agg #[.int .i64 t2602.1, .int .i64 t2602.2.1, .int .i64 t2602.2.2.1, .int .i64 t2602.2.2.2]) 0).run Tryd.prog w = .ok (.int .i64 t2602.1) w := fun _ => by kernel_rfl
    go_wp2_with fail
    clear fl2605
    go_ret
    rw [← some_eq H]
    exact ⟨(by first | rfl | (simp [IntKind.wrap_u32]; done)), HS.out⟩
  · replace H := if_no c2601 H
    have c2601b0 : decide (0 < a2600) = false := decide_eq_false c2601
    clear c2601
    go_wp2_with fail
    go_ret
    rw [← some_eq H]
    exact ⟨(by first | rfl | (simp [IntKind.wrap_u32]; done)), HS.out⟩

set_option maxHeartbeats 30000000 in
set_option maxRecDepth 100000 in
theorem store_Store_Peek.calls (l2636 : List Int) (a2641 : Int) (a2642 : Int) (g2634 : Nat) (A2637 : Option Addr) (m2638 : Nat) (n2639 : Nat) (r : Int) (w : World)  (HGl0 : Aside0 (Gl 0 #[.int .i64 0, .int .i64 0, .int .i64 0, .int .i64 0, .int .i64 0] (fps [b7 g2634 A2637 m2638 n2639 a2641, r6 A2637 m2638 n2639 l2636]) w)) (HS : Aside0 (Sep (fps [b7 g2634 A2637 m2638 n2639 a2641, r6 A2637 m2638 n2639 l2636]) w [b7 g2634 A2637 m2638 n2639 a2641, r6 A2637 m2638 n2639 l2636] w)) (H : Aside0 (store_Store_Peek.f l2636 a2641 a2642 = some r)) :
    Calls Tryd.prog 73 #[.pointer (some ⟨g2634, 0, none⟩), .int .i64 a2642] w fun e w' => e = .returned (.int .u32 r) ∧ Sep (fps [b7 g2634 A2637 m2638 n2639 a2641, r6 A2637 m2638 n2639 l2636]) w [b7 g2634 A2637 m2638 n2639 a2641, r6 A2637 m2638 n2639 l2636] w' := by
  generalize (fps [b7 g2634 A2637 m2638 n2639 a2641, r6 A2637 m2638 n2639 l2636]) = FF at HS HGl0 ⊢
  obtain rfl := (row_len (HS.out.at1)).symm
  unfold store_Store_Peek.f at H
  go_enter Tryd.func73, Tryd.ntmps73
  go_wp2_with fail
  obtain ⟨t2643, HA2644, H⟩ := bind_some H
  refine (store_Store_has.calls l2636 a2641 a2642 g2634 A2637 l2636.length n2639 t2643 _ ⟨HGl0.out.pass HS.out⟩ ⟨HS.out.begin⟩ HA2644).mono ?_
  rintro e_ w2645 ⟨rfl, hS⟩
  replace HS : Aside0 (Sep FF w [b7 g2634 A2637 l2636.length n2639 a2641, r6 A2637 l2636.length n2639 l2636] w2645) := ⟨HS.out.call hS⟩
  clear hS
  by_cases c2646 : t2643 = true
  · replace H := if_yes c2646 H
    have c2646b0 : t2643 = true := c2646
    have c2646b1 : (!t2643) = false := by rw [c2646b0]; rfl
    try rw [c2646b1]
    clear c2646
    by_cases c2648 : 0 ≤ a2642
    · replace H := if_yes c2648 H
      have c2648b0 : decide (0 ≤ a2642) = true := decide_eq_true c2648
      have c2648p : (0 ≤ a2642) = True := eq_true c2648
      clear c2648
      by_cases c2649 : a2642 < (l2636.length : Int)
      · replace H := if_yes c2649 H
        have c2649b0 : decide (a2642 < (l2636.length : Int)) = true := decide_eq_true c2649
        have c2649p : (a2642 < (l2636.length : Int)) = True := eq_true c2649
        clear c2649
        have hc2647 : w2645.cell? ⟨g2634, 0, none⟩ = some (.slice A2637 l2636.length n2639) := blk_cellv (HS.out.at0) 0 rfl
        obtain ⟨g2650, ea⟩ := row_at (HS.out.at1) (by have := (of_decide_eq_true c2648b0); have := (of_decide_eq_true c2649b0); omega); cases ea
        have hx2651 := C_at_int (row_Ci (HS.out.at1)) a2642 (of_decide_eq_true c2648b0) (of_decide_eq_true c2649b0)
        have hx2652 : w2645.cell? ⟨g2650, (a2642).toNat, none⟩ = some (.int .u32 (rd l2636 a2642)) := (row_get 0 (HS.out.at1) a2642 (of_decide_eq_true c2648b0) (of_decide_eq_true c2649b0)).1
        go_wp2_with fail
        clear hc2647 hx2651 hx2652
        go_ret
        rw [← some_eq H]
        exact ⟨(by first | rfl | (simp [IntKind.wrap_u32]; done)), HS.out⟩
      · replace H := if_no c2649 H
        have c2649b0 : decide (a2642 < (l2636.length : Int)) = false := decide_eq_false c2649
        clear c2649
        exact (none_no H).elim
    · replace H := if_no c2648 H
      have c2648b0 : decide (0 ≤ a2642) = false := decide_eq_false c2648
      clear c2648
      exact (none_no H).elim
  · replace H := if_no c2646 H
    have c2646b0 : t2643 = false := by simpa using c2646
    have c2646b1 : (!t2643) = true := by rw [c2646b0]; rfl
    try rw [c2646b1]
    clear c2646
    go_wp2_with fail
    go_ret
    rw [← some_eq H]
    exact ⟨(by first | rfl | (simp [IntKind.wrap_u32]; done)), HS.out⟩

set_option maxHeartbeats 30000000 in
set_option maxRecDepth 100000 in
theorem ground_Ground_SeeWord.calls (l2615 : List Int) (a2620 : Int) (a2621 : Int) (a2622 : Int) (a2623 : Int) (a2624 : Int) (a2625 : Int) (a2626 : Int) (g2611 : Nat) (g2613 : Nat) (A2616 : Option Addr) (m2617 : Nat) (n2618 : Nat) (r : Int) (w : World)  (HGl0 : Aside0 (Gl 0 #[.int .i64 0, .int .i64 0, .int .i64 0, .int .i64 0, .int .i64 0] (fps [b8 g2611 g2613 a2621 a2622 a2623 a2624, b7 g2613 A2616 m2617 n2618 a2620, r6 A2616 m2617 n2618 l2615]) w)) (HS : Aside0 (Sep (fps [b8 g2611 g2613 a2621 a2622 a2623 a2624, b7 g2613 A2616 m2617 n2618 a2620, r6 A2616 m2617 n2618 l2615]) w [b8 g2611 g2613 a2621 a2622 a2623 a2624, b7 g2613 A2616 m2617 n2618 a2620, r6 A2616 m2617 n2618 l2615] w)) (H : Aside0 (ground_Ground_SeeWord.f l2615 a2620 a2621 a2622 a2623 a2624 a2625 a2626 = some r)) :
    Calls Tryd.prog 18 #[.pointer (some ⟨g2611, 0, none⟩), .int .i64 a2625, .int .i64 a2626] w fun e w' => e = .returned (.int .u32 r) ∧ Sep (fps [b8 g2611 g2613 a2621 a2622 a2623 a2624, b7 g2613 A2616 m2617 n2618 a2620, r6 A2616 m2617 n2618 l2615]) w [b8 g2611 g2613 a2621 a2622 a2623 a2624, b7 g2613 A2616 m2617 n2618 a2620, r6 A2616 m2617 n2618 l2615] w' := by
  generalize (fps [b8 g2611 g2613 a2621 a2622 a2623 a2624, b7 g2613 A2616 m2617 n2618 a2620, r6 A2616 m2617 n2618 l2615]) = FF at HS HGl0 ⊢
  obtain rfl := (row_len (HS.out.at2)).symm
  unfold ground_Ground_SeeWord.f at H
  go_enter Tryd.func18, Tryd.ntmps18
  go_wp2_with fail
  obtain ⟨t2627, HA2628, H⟩ := bind_some H
  refine (ground_Ground_all.calls l2615 a2620 a2621 a2622 a2623 a2624 g2611 g2613 A2616 l2615.length n2618 t2627 _ ⟨HGl0.out.pass HS.out⟩ ⟨HS.out.begin⟩ HA2628).mono ?_
  rintro e_ w2629 ⟨rfl, hS⟩
  replace HS : Aside0 (Sep FF w [b8 g2611 g2613 a2621 a2622 a2623 a2624, b7 g2613 A2616 l2615.length n2618 a2620, r6 A2616 l2615.length n2618 l2615] w2629) := ⟨HS.out.call hS⟩
  clear hS
  go_wp2_with fail
  obtain ⟨t2630, HA2631, H⟩ := bind_some H
  refine (ground_Ground_word.calls l2615 a2620 a2621 a2622 a2623 a2624 a2625 a2626 g2611 g2613 A2616 l2615.length n2618 t2630 _ ⟨HGl0.out.pass HS.out⟩ ⟨HS.out.begin⟩ HA2631).mono ?_
  rintro e_ w2632 ⟨rfl, hS⟩
  replace HS : Aside0 (Sep FF w [b8 g2611 g2613 a2621 a2622 a2623 a2624, b7 g2613 A2616 l2615.length n2618 a2620, r6 A2616 l2615.length n2618 l2615] w2632) := ⟨HS.out.call hS⟩
  clear hS
  go_wp2_with fail
  replace HS : Aside0 (Sep FF w [r6 A2616 l2615.length n2618 l2615, b8 g2611 g2613 a2621 a2622 a2623 a2624, b7 g2613 A2616 l2615.length n2618 a2620] w2632) := ⟨HS.out.front 2 (by simp)⟩
  replace HS : Aside0 (Sep FF w [b7 g2613 A2616 l2615.length n2618 a2620, r6 A2616 l2615.length n2618 l2615, b8 g2611 g2613 a2621 a2622 a2623 a2624] w2632) := ⟨HS.out.front 2 (by simp)⟩
  obtain ⟨t2653, HA2654, H⟩ := bind_some H
  refine (store_Store_Peek.calls l2615 a2620 t2630 g2613 A2616 l2615.length n2618 t2653 _ ⟨HGl0.out.pass HS.out⟩ ⟨HS.out.begin⟩ HA2654).mono ?_
  rintro e_ w2655 ⟨rfl, hS⟩
  replace HS : Aside0 (Sep FF w [b7 g2613 A2616 l2615.length n2618 a2620, r6 A2616 l2615.length n2618 l2615, b8 g2611 g2613 a2621 a2622 a2623 a2624] w2655) := ⟨HS.out.call hS⟩
  clear hS
  go_wp2_with fail
  go_ret
  rw [← some_eq H]
  exact ⟨(by first | rfl | (simp [IntKind.wrap_u32]; done)), ((((HS.out).front 1 (by simp)).front 1 (by simp)).front 2 (by simp)).keep (l := [b8 g2611 g2613 a2621 a2622 a2623 a2624, b7 g2613 A2616 l2615.length n2618 a2620, r6 A2616 l2615.length n2618 l2615]) (rest := [])⟩

set_option maxHeartbeats 30000000 in
set_option maxRecDepth 100000 in
theorem pack_Get.calls (a2672 : Int) (a2673 : Int) (a2674 : Int) (r : Int) (w : World)  (HGl0 : Aside0 (Gl 0 #[.int .i64 0, .int .i64 0, .int .i64 0, .int .i64 0, .int .i64 0] (fps []) w)) (HS : Aside0 (Sep (fps []) w [] w)) (H : Aside0 (pack_Get.f a2672 a2673 a2674 = some r)) :
    Calls Tryd.prog 20 #[.int .u32 a2672, .int .i64 a2673, .int .i64 a2674] w fun e w' => e = .returned (.int .u32 r) ∧ Sep (fps []) w [] w' := by
  unfold pack_Get.f at H
  go_enter Tryd.func20, Tryd.ntmps20
  go_wp2_with fail
  obtain ⟨t2675, HA2676, H⟩ := bind_some H
  refine (pack_isPiece.calls a2673 a2674 t2675 _ ⟨HGl0.out.pass (l := []) HS.out⟩ ⟨Sep.start _⟩ HA2676).mono ?_
  rintro e_ w2677 ⟨rfl, hS⟩
  replace HS : Aside0 (Sep (fps []) w [] w2677) := ⟨HS.out.call hS⟩
  clear hS
  by_cases c2678 : t2675 = true
  · replace H := if_yes c2678 H
    have c2678b0 : t2675 = true := c2678
    have c2678b1 : (!t2675) = false := by rw [c2678b0]; rfl
    try rw [c2678b1]
    clear c2678
    go_wp2_with fail
    obtain ⟨t2679, HA2680, H⟩ := bind_some H
    refine (pack_mask.calls a2673 a2674 t2679 _ ⟨HGl0.out.pass (l := []) HS.out⟩ ⟨Sep.start _⟩ HA2680).mono ?_
    rintro e_ w2681 ⟨rfl, hS⟩
    replace HS : Aside0 (Sep (fps []) w [] w2681) := ⟨HS.out.call hS⟩
    clear hS
    by_cases c2682 : 0 ≤ (IntKind.u64.wrap (a2673))
    · replace H := if_yes c2682 H
      have c2682b0 : decide (0 ≤ (IntKind.u64.wrap (a2673))) = true := decide_eq_true c2682
      skip
      go_wp2_with fail
      clear c2682
      go_ret
      rw [← some_eq H]
      exact ⟨(by first | rfl | (simp [IntKind.wrap_u32]; done)), HS.out⟩
    · replace H := if_no c2682 H
      have c2682b0 : decide (0 ≤ (IntKind.u64.wrap (a2673))) = false := decide_eq_false c2682
      exact (none_no H).elim
  · replace H := if_no c2678 H
    have c2678b0 : t2675 = false := by simpa using c2678
    have c2678b1 : (!t2675) = true := by rw [c2678b0]; rfl
    try rw [c2678b1]
    clear c2678
    go_wp2_with fail
    go_ret
    rw [← some_eq H]
    exact ⟨(by first | rfl | (simp [IntKind.wrap_u32]; done)), HS.out⟩

set_option maxHeartbeats 30000000 in
set_option maxRecDepth 100000 in
theorem tag_Unpack_1.calls (a2666 : Int) (a2667 : Int) (a2670 : Int) (g2669 : Nat) (r : Int) (w : World)  (HGl0 : Aside0 (Gl 0 #[.int .i64 0, .int .i64 0, .int .i64 0, .int .i64 0, .int .i64 0] (fps [b14 g2669 a2670]) w)) (HS : Aside0 (Sep (fps [b14 g2669 a2670]) w [b14 g2669 a2670] w)) (H : Aside0 (tag_Unpack_1.f a2666 a2667 a2670 = some r)) :
    Calls Tryd.prog 74 #[.int .i64 a2666, .int .i64 a2667, .pointer (some ⟨g2669, 0, none⟩)] w fun e w' => e = .returned (.int .i64 r) ∧ Sep (fps [b14 g2669 a2670]) w [b14 g2669 a2670] w' := by
  generalize (fps [b14 g2669 a2670]) = FF at HS HGl0 ⊢
  unfold tag_Unpack_1.f at H
  go_enter Tryd.func74, Tryd.ntmps74
  have hc2671 : w.cell? ⟨g2669, 0, none⟩ = some (.int .u32 a2670) := blk_cellv (HS.out.at0) 0 rfl
  go_wp2_with fail
  clear hc2671
  obtain ⟨t2683, HA2684, H⟩ := bind_some H
  refine (pack_Get.calls a2670 a2666 a2667 t2683 _ ⟨HGl0.out.pass (l := []) HS.out⟩ ⟨Sep.start _⟩ HA2684).mono ?_
  rintro e_ w2685 ⟨rfl, hS⟩
  replace HS : Aside0 (Sep FF w [b14 g2669 a2670] w2685) := ⟨HS.out.call hS⟩
  clear hS
  go_wp2_with fail
  go_ret
  rw [← some_eq H]
  exact ⟨(by first | rfl | (simp [IntKind.wrap_u32]; done)), HS.out⟩

set_option maxHeartbeats 30000000 in
set_option maxRecDepth 100000 in
theorem tag_Unpack.calls (a2659 : Int) (r : Int × Int × Int × Int × Int × Int × Int) (w : World)  (HGl0 : Aside0 (Gl 0 #[.int .i64 0, .int .i64 0, .int .i64 0, .int .i64 0, .int .i64 0] (fps []) w)) (HS : Aside0 (Sep (fps []) w [] w)) (H : Aside0 (tag_Unpack.f a2659 = some r)) :
    Calls Tryd.prog 19 #[.int .u32 a2659] w fun e w' => e = .returned (.agg #[.int .i64 r.1, .int .i64 r.2.1, .int .i64 r.2.2.1, .int .i64 r.2.2.2.1, .int .i64 r.2.2.2.2.1, .int .i64 r.2.2.2.2.2.1, .int .i64 r.2.2.2.2.2.2]) ∧ Sep (fps []) w [] w' := by
  unfold tag_Unpack.f at H
  go_enter Tryd.func19, Tryd.ntmps19
  go_wp2_with (first | ((with_reducible refine gate_dst (N := 1) rfl ?_); refine box_on ?hg (N := 1) ?hd (cs := #[.int .u32 a2659]) (t := 33) ?hr ?_; (case hd => rfl); (case hg => rfl); (case hr => first | (go_simp; done) | (go_simp; rfl)); intro g2660 hg w2661 hbox hb; replace HS : Aside0 (Sep (fps []) w [b14 g2660 a2659] w2661) := ⟨HS.out.box hg hbox hb⟩; clear hg hbox hb) | ((with_reducible refine gate_dst (N := 2) rfl ?_); refine box_on ?hg (N := 2) ?hd (cs := #[.int .i64 0, .int .i64 0, .int .i64 0, .int .i64 0, .int .i64 0, .int .i64 0, .int .i64 0]) (t := 32) ?hr ?_; (case hd => rfl); (case hg => rfl); (case hr => first | (go_simp; done) | (go_simp; rfl)); intro g2663 hg w2664 hbox hb; replace HS : Aside0 (Sep (fps []) w [b14 g2660 a2659, b12 g2663 0 0 0 0 0 0 0] w2664) := ⟨HS.out.box hg hbox hb⟩; clear hg hbox hb))
  obtain ⟨t2686, HA2687, H⟩ := bind_some H
  refine (tag_Unpack_1.calls 0 2 a2659 g2660 t2686 _ ⟨HGl0.out.pass HS.out⟩ ⟨HS.out.begin⟩ HA2687).mono ?_
  rintro e_ w2688 ⟨rfl, hS⟩
  replace HS : Aside0 (Sep (fps []) w [b14 g2660 a2659, b12 g2663 0 0 0 0 0 0 0] w2688) := ⟨HS.out.call hS⟩
  clear hS
  go_wp2_with fail
  obtain ⟨t2689, HA2690, H⟩ := bind_some H
  refine (tag_Unpack_1.calls 2 1 a2659 g2660 t2689 _ ⟨HGl0.out.pass HS.out⟩ ⟨HS.out.begin⟩ HA2690).mono ?_
  rintro e_ w2691 ⟨rfl, hS⟩
  replace HS : Aside0 (Sep (fps []) w [b14 g2660 a2659, b12 g2663 0 0 0 0 0 0 0] w2691) := ⟨HS.out.call hS⟩
  clear hS
  go_wp2_with fail
  obtain ⟨t2692, HA2693, H⟩ := bind_some H
  refine (tag_Unpack_1.calls 3 1 a2659 g2660 t2692 _ ⟨HGl0.out.pass HS.out⟩ ⟨HS.out.begin⟩ HA2693).mono ?_
  rintro e_ w2694 ⟨rfl, hS⟩
  replace HS : Aside0 (Sep (fps []) w [b14 g2660 a2659, b12 g2663 0 0 0 0 0 0 0] w2694) := ⟨HS.out.call hS⟩
  clear hS
  go_wp2_with fail
  obtain ⟨t2695, HA2696, H⟩ := bind_some H
  refine (tag_Unpack_1.calls 4 1 a2659 g2660 t2695 _ ⟨HGl0.out.pass HS.out⟩ ⟨HS.out.begin⟩ HA2696).mono ?_
  rintro e_ w2697 ⟨rfl, hS⟩
  replace HS : Aside0 (Sep (fps []) w [b14 g2660 a2659, b12 g2663 0 0 0 0 0 0 0] w2697) := ⟨HS.out.call hS⟩
  clear hS
  go_wp2_with fail
  obtain ⟨t2698, HA2699, H⟩ := bind_some H
  refine (tag_Unpack_1.calls 5 1 a2659 g2660 t2698 _ ⟨HGl0.out.pass HS.out⟩ ⟨HS.out.begin⟩ HA2699).mono ?_
  rintro e_ w2700 ⟨rfl, hS⟩
  replace HS : Aside0 (Sep (fps []) w [b14 g2660 a2659, b12 g2663 0 0 0 0 0 0 0] w2700) := ⟨HS.out.call hS⟩
  clear hS
  go_wp2_with fail
  obtain ⟨t2701, HA2702, H⟩ := bind_some H
  refine (tag_Unpack_1.calls 6 1 a2659 g2660 t2701 _ ⟨HGl0.out.pass HS.out⟩ ⟨HS.out.begin⟩ HA2702).mono ?_
  rintro e_ w2703 ⟨rfl, hS⟩
  replace HS : Aside0 (Sep (fps []) w [b14 g2660 a2659, b12 g2663 0 0 0 0 0 0 0] w2703) := ⟨HS.out.call hS⟩
  clear hS
  go_wp2_with fail
  obtain ⟨t2704, HA2705, H⟩ := bind_some H
  refine (tag_Unpack_1.calls 8 24 a2659 g2660 t2704 _ ⟨HGl0.out.pass HS.out⟩ ⟨HS.out.begin⟩ HA2705).mono ?_
  rintro e_ w2706 ⟨rfl, hS⟩
  replace HS : Aside0 (Sep (fps []) w [b14 g2660 a2659, b12 g2663 0 0 0 0 0 0 0] w2706) := ⟨HS.out.call hS⟩
  clear hS
  have hc2707 : w2706.cell? ⟨g2663, 0, none⟩ = some (.int .i64 0) := blk_cellv (HS.out.at1) 0 rfl
  have hz2708 : w2706.frozen? ⟨g2663, 0, none⟩ = false := blk_fz (HS.out.at1) 0
  have hc2709 : w2706.cell? ⟨g2663, 1, none⟩ = some (.int .i64 0) := blk_cellv (HS.out.at1) 1 rfl
  have hz2710 : w2706.frozen? ⟨g2663, 1, none⟩ = false := blk_fz (HS.out.at1) 1
  have hc2711 : w2706.cell? ⟨g2663, 2, none⟩ = some (.int .i64 0) := blk_cellv (HS.out.at1) 2 rfl
  have hz2712 : w2706.frozen? ⟨g2663, 2, none⟩ = false := blk_fz (HS.out.at1) 2
  have hc2713 : w2706.cell? ⟨g2663, 3, none⟩ = some (.int .i64 0) := blk_cellv (HS.out.at1) 3 rfl
  have hz2714 : w2706.frozen? ⟨g2663, 3, none⟩ = false := blk_fz (HS.out.at1) 3
  have hc2715 : w2706.cell? ⟨g2663, 4, none⟩ = some (.int .i64 0) := blk_cellv (HS.out.at1) 4 rfl
  have hz2716 : w2706.frozen? ⟨g2663, 4, none⟩ = false := blk_fz (HS.out.at1) 4
  have hc2717 : w2706.cell? ⟨g2663, 5, none⟩ = some (.int .i64 0) := blk_cellv (HS.out.at1) 5 rfl
  have hz2718 : w2706.frozen? ⟨g2663, 5, none⟩ = false := blk_fz (HS.out.at1) 5
  have hc2719 : w2706.cell? ⟨g2663, 6, none⟩ = some (.int .i64 0) := blk_cellv (HS.out.at1) 6 rfl
  have hz2720 : w2706.frozen? ⟨g2663, 6, none⟩ = false := blk_fz (HS.out.at1) 6
  go_wp2_with (first | ((with_reducible refine gate_store (t := 32) (p := 2) rfl ?_); refine store_event (w1 := (World.setCell (World.setCell (World.setCell (World.setCell (World.setCell (World.setCell (World.setCell w2706 ⟨g2663, 0, none⟩ (.int .i64 t2686)) ⟨g2663, 1, none⟩ (.int .i64 t2689)) ⟨g2663, 2, none⟩ (.int .i64 t2692)) ⟨g2663, 3, none⟩ (.int .i64 t2695)) ⟨g2663, 4, none⟩ (.int .i64 t2698)) ⟨g2663, 5, none⟩ (.int .i64 t2701)) ⟨g2663, 6, none⟩ (.int .i64 t2704))) rfl (t := 32) (p := 2) rfl rfl ?hr ?_; (case hr => first | (go_simp; done) | (go_simp; rfl)); intro w2721 hst; clear hc2707 hz2708 hc2709 hz2710 hc2711 hz2712 hc2713 hz2714 hc2715 hz2716 hc2717 hz2718 hc2719 hz2720; replace HS : Aside0 (Sep (fps []) w [b14 g2660 a2659, b12 g2663 t2686 t2689 t2692 t2695 t2698 t2701 t2704] w2721) := ⟨by rw [hst]; exact HS.out.setAll (l1 := [b14 g2660 a2659]) (l2 := []) [.int .i64 t2686, .int .i64 t2689, .int .i64 t2692, .int .i64 t2695, .int .i64 t2698, .int .i64 t2701, .int .i64 t2704] rfl⟩; clear hst; replace HS : Aside0 (Sep (fps []) w [b12 g2663 t2686 t2689 t2692 t2695 t2698 t2701 t2704] w2721) := ⟨HS.out.sub (.cons _ (.cons_cons _ .slnil))⟩))
  have hc2722 : w2721.cell? ⟨g2663, 0, none⟩ = some (.int .i64 t2686) := blk_cellv (HS.out.at0) 0 rfl
  have hc2723 : w2721.cell? ⟨g2663, 1, none⟩ = some (.int .i64 t2689) := blk_cellv (HS.out.at0) 1 rfl
  have hc2724 : w2721.cell? ⟨g2663, 2, none⟩ = some (.int .i64 t2692) := blk_cellv (HS.out.at0) 2 rfl
  have hc2725 : w2721.cell? ⟨g2663, 3, none⟩ = some (.int .i64 t2695) := blk_cellv (HS.out.at0) 3 rfl
  have hc2726 : w2721.cell? ⟨g2663, 4, none⟩ = some (.int .i64 t2698) := blk_cellv (HS.out.at0) 4 rfl
  have hc2727 : w2721.cell? ⟨g2663, 5, none⟩ = some (.int .i64 t2701) := blk_cellv (HS.out.at0) 5 rfl
  have hc2728 : w2721.cell? ⟨g2663, 6, none⟩ = some (.int .i64 t2704) := blk_cellv (HS.out.at0) 6 rfl
  refine bodyPost_ret (v := .agg #[.int .i64 t2686, .int .i64 t2689, .int .i64 t2692, .int .i64 t2695, .int .i64 t2698, .int .i64 t2701, .int .i64 t2704]) (by simp [results, Tryd.results19, go_sem, hc2722, hc2723, hc2724, hc2725, hc2726, hc2727, hc2728]) rfl ?_
  rw [← some_eq H]
  exact ⟨(by first | rfl | (simp [IntKind.wrap_u32]; done)), HS.out.sub (.cons _ .slnil)⟩

set_option maxHeartbeats 30000000 in
set_option maxRecDepth 100000 in
theorem obj_isHead.calls (a2733 : Int) (r : Bool) (w : World)  (HGl0 : Aside0 (Gl 0 #[.int .i64 0, .int .i64 0, .int .i64 0, .int .i64 0, .int .i64 0] (fps []) w)) (HS : Aside0 (Sep (fps []) w [] w)) (H : Aside0 (obj_isHead.f a2733 = some r)) :
    Calls Tryd.prog 101 #[.int .i64 a2733] w fun e w' => e = .returned (.bool r) ∧ Sep (fps []) w [] w' := by
  unfold obj_isHead.f at H
  go_enter Tryd.func101, Tryd.ntmps101
  by_cases c2734 : a2733 = 1
  · replace H := if_yes c2734 H
    have c2734b0 : (a2733 == 1) = true := beq_iff_eq.mpr c2734
    have c2734b1 : (a2733 != 1) = false := bne_eq_false_iff_eq.mpr c2734
    clear c2734
    go_wp2_with fail
    go_ret
    rw [← some_eq H]
    exact ⟨(by first | rfl | (simp [IntKind.wrap_u32]; done)), HS.out⟩
  · replace H := if_no c2734 H
    have c2734b0 : (a2733 == 1) = false := beq_eq_false_iff_ne.mpr c2734
    have c2734b1 : (a2733 != 1) = true := bne_iff_ne.mpr c2734
    clear c2734
    go_wp2_with fail
    go_ret
    rw [← some_eq H]
    exact ⟨(by first | rfl | (simp [IntKind.wrap_u32]; done)), HS.out⟩

set_option maxHeartbeats 30000000 in
set_option maxRecDepth 100000 in
theorem shape_Place.calls (k : Nat) (a2791 : Int) (a2792 : Int) (a2793 : Int) (r : Int × Int × Int) (w : World)  (HGl0 : Aside0 (Gl 0 #[.int .i64 0, .int .i64 0, .int .i64 0, .int .i64 0, .int .i64 0] (fps []) w)) (HS : Aside0 (Sep (fps []) w [] w)) (H : Aside0 (shape_Place.f k a2791 a2792 a2793 = some r)) :
    Calls Tryd.prog 137 #[.int .i64 a2791, .int .i64 a2792, .int .i64 a2793] w fun e w' => e = .returned (.tuple #[.int .i64 r.1, .int .i64 r.2.1, .int .i64 r.2.2]) ∧ Sep (fps []) w [] w' := by
  unfold shape_Place.f at H
  go_enter Tryd.func137, Tryd.ntmps137
  go_wp2_with (first | ((with_reducible refine gate_dst (N := 12) rfl ?_); refine slice_on (n := 1) ?hg (N := 12) ?hd (cs := #[.int .i64 a2792]) (t := 3) ?hr ?_; (case hd => rfl); (case hg => rfl); (case hr => first | (go_simp; done) | (go_simp; rfl)); intro g2794 hg w2795 hbox hb; replace HS : Aside0 (Sep (fps []) w [b11 g2794 a2792] w2795) := ⟨HS.out.box hg hbox hb⟩; clear hg hbox hb))
  obtain ⟨t2797, HA2798, H⟩ := bind_some H
  refine (shape_wrong.calls _ a2791 [a2792] (some ⟨g2794, 0, none⟩) 1 t2797 _ ⟨Rd.lit (l := []) (xs := [a2792]) HS.out 0 rfl (by simp)⟩ ⟨HGl0.out.pass (l := []) HS.out⟩ ⟨Sep.start _⟩ HA2798).mono ?_
  rintro e_ w2799 ⟨rfl, hS⟩
  replace HS : Aside0 (Sep (fps []) w [b11 g2794 a2792] w2799) := ⟨HS.out.call hS⟩
  clear hS
  by_cases c2800 : t2797 = 0
  · replace H := if_yes c2800 H
    have c2800b0 : (t2797 == 0) = true := beq_iff_eq.mpr c2800
    have c2800b1 : (t2797 != 0) = false := bne_eq_false_iff_eq.mpr c2800
    clear c2800
    by_cases c2801 : a2793 < 0
    · replace H := if_yes c2801 H
      have c2801b0 : decide (a2793 < 0) = true := decide_eq_true c2801
      clear c2801
      replace HS : Aside0 (Sep (fps []) w [] w2799) := ⟨HS.out.sub (.cons _ .slnil)⟩
      go_wp2_with fail
      go_ret3
      rw [← some_eq H]
      exact ⟨(by first | rfl | (simp [IntKind.wrap_u32]; done)), HS.out⟩
    · replace H := if_no c2801 H
      have c2801b0 : decide (a2793 < 0) = false := decide_eq_false c2801
      clear c2801
      by_cases c2802 : a2793 ≥ a2792
      · replace H := if_yes c2802 H
        have c2802b0 : decide (a2792 ≤ a2793) = true := decide_eq_true c2802
        clear c2802
        replace HS : Aside0 (Sep (fps []) w [] w2799) := ⟨HS.out.sub (.cons _ .slnil)⟩
        go_wp2_with fail
        go_ret3
        rw [← some_eq H]
        exact ⟨(by first | rfl | (simp [IntKind.wrap_u32]; done)), HS.out⟩
      · replace H := if_no c2802 H
        have c2802b0 : decide (a2792 ≤ a2793) = false := decide_eq_false c2802
        clear c2802
        replace HS : Aside0 (Sep (fps []) w [] w2799) := ⟨HS.out.sub (.cons _ .slnil)⟩
        go_wp2_with fail
        obtain ⟨t2803, HA2804, H⟩ := bind_some H
        refine (shape_leaves.calls a2791 a2792 t2803 _ ⟨HGl0.out.pass (l := []) HS.out⟩ ⟨Sep.start _⟩ HA2804).mono ?_
        rintro e_ w2805 ⟨rfl, hS⟩
        replace HS : Aside0 (Sep (fps []) w [] w2805) := ⟨HS.out.call hS⟩
        clear hS
        by_cases c2806 : t2803 = 0
        · replace H := if_yes c2806 H
          have c2806b0 : (t2803 == 0) = true := beq_iff_eq.mpr c2806
          have c2806b1 : (t2803 != 0) = false := bne_eq_false_iff_eq.mpr c2806
          clear c2806
          go_wp2_with fail
          go_ret3
          rw [← some_eq H]
          exact ⟨(by first | rfl | (simp [IntKind.wrap_u32]; done)), HS.out⟩
        · replace H := if_no c2806 H
          have c2806b0 : (t2803 == 0) = false := beq_eq_false_iff_ne.mpr c2806
          have c2806b1 : (t2803 != 0) = true := bne_iff_ne.mpr c2806
          clear c2806
          go_wp2_with fail
          refine start_ (n := 12) (S := (fun _ => True)) (ds := []) #[false, false, false, false, false, false, false, false, false, false, false, false] (by kernel_rfl) rfl rfl (trivial) (fun hHeld => ?_)
          have HS_ := Aside0.mk HS.out.drew
          clear HS
          generalize World.drew _ = w2808 at HS_ hHeld ⊢
          have HS := HS_
          clear HS_
          refine pure_ (i := 0) (N := some 32) (v := ?_) (a' := ?_) #[true, false, false, false, false, false, false, false, false, false, false, false] rfl rfl (by kernel_rfl) (fun _ _ _ h => h) (Or.inl ⟨by rfl, ?_⟩) ?_ ?_
          rotate_left
          · intro w'
            go_simp
            with_reducible rfl
          rotate_left
          · simp only [Act.put, List.setIfInBounds_toArray, List.set_cons_zero, List.set_cons_succ, i64_w, i32_w]
            rfl
          refine pure_ (i := 1) (N := some 33) (v := ?_) (a' := ?_) #[true, true, false, false, false, false, false, false, false, false, false, false] rfl rfl (by kernel_rfl) (fun _ _ _ h => h) (Or.inl ⟨by rfl, ?_⟩) ?_ ?_
          rotate_left
          · intro w'
            go_simp
            with_reducible rfl
          rotate_left
          · simp only [Act.put, List.setIfInBounds_toArray, List.set_cons_zero, List.set_cons_succ, i64_w, i32_w]
            rfl
          refine pure_ (i := 4) (N := some 36) (v := ?_) (a' := ?_) #[true, true, false, false, true, false, false, false, false, false, false, false] rfl rfl (by kernel_rfl) (fun _ _ _ h => h) (Or.inl ⟨by rfl, ?_⟩) ?_ ?_
          rotate_left
          · intro w'
            go_simp
            with_reducible rfl
          rotate_left
          · simp only [Act.put, List.setIfInBounds_toArray, List.set_cons_zero, List.set_cons_succ, i64_w, i32_w]
            rfl
          refine pure_ (i := 5) (N := some 37) (v := ?_) (a' := ?_) #[true, true, false, false, true, true, false, false, false, false, false, false] rfl rfl (by kernel_rfl) (fun _ _ _ h => h) (Or.inl ⟨by rfl, ?_⟩) ?_ ?_
          rotate_left
          · intro w'
            go_simp
            with_reducible rfl
          rotate_left
          · simp only [Act.put, List.setIfInBounds_toArray, List.set_cons_zero, List.set_cons_succ, i64_w, i32_w]
            rfl
          refine one_ (i := 2) (N := some 34) #[true, true, true, false, true, true, false, false, false, false, false, false] rfl rfl (by kernel_rfl) (by decide) (fun K hK => ?_)
          obtain ⟨t2809, HA2810, H⟩ := bind_some H
          refine goes_ Tryd.func120 (by kernel_rfl) rfl #[.int .i64 a2791] (by rfl) rfl rfl (by (try simp only [List.map_toArray, List.map_cons, List.map_nil]); first | done | rfl) ?_
          refine (shape_inLeaf.calls a2791 t2809 _ ⟨HGl0.out.pass (l := []) HS.out⟩ ⟨Sep.start _⟩ HA2810).mono ?_
          rintro e_ w2811 ⟨rfl, hS⟩
          replace HS : Aside0 (Sep (fps []) w [] w2811) := ⟨HS.out.call hS⟩
          clear hS
          refine ⟨_, rfl, ?_⟩
          refine hK.out _ _ (trivial) (fun hHeld => ?_)
          clear hK K
          refine norm_ (a' := ?_) ?_ ?_
          rotate_left
          · show Act.put _ (some 34) _ = _
            simp only [Act.put, List.setIfInBounds_toArray, List.set_cons_zero, List.set_cons_succ, i64_w, i32_w]
            rfl
          by_cases c2812 : t2809 = 0
          · replace H := if_yes c2812 H
            have c2812b0 : (t2809 == 0) = true := beq_iff_eq.mpr c2812
            have c2812b1 : (t2809 != 0) = false := bne_eq_false_iff_eq.mpr c2812
            exact (none_no H).elim
          · replace H := if_no c2812 H
            have c2812b0 : (t2809 == 0) = false := beq_eq_false_iff_ne.mpr c2812
            have c2812b1 : (t2809 != 0) = true := bne_iff_ne.mpr c2812
            refine pure_ (i := 3) (N := some 35) (v := ?_) (a' := ?_) #[true, true, true, true, true, true, false, false, false, false, false, false] rfl rfl (by kernel_rfl) (fun _ _ _ h => h) (Or.inl ⟨by rfl, ?_⟩) ?_ ?_
            rotate_left
            · intro w'
              go_simp
              with_reducible rfl
            rotate_left
            · simp only [Act.put, List.setIfInBounds_toArray, List.set_cons_zero, List.set_cons_succ, i64_w, i32_w]
              rfl
            refine one_ (i := 6) (N := some 38) #[true, true, true, true, true, true, true, false, false, false, false, false] rfl rfl (by kernel_rfl) (by decide) (fun K hK => ?_)
            obtain ⟨t2813, HA2814, H⟩ := bind_some H
            refine goes_ Tryd.func120 (by kernel_rfl) rfl #[.int .i64 a2791] (by rfl) rfl rfl (by (try simp only [List.map_toArray, List.map_cons, List.map_nil]); first | done | rfl) ?_
            refine (shape_inLeaf.calls a2791 t2813 _ ⟨HGl0.out.pass (l := []) HS.out⟩ ⟨Sep.start _⟩ HA2814).mono ?_
            rintro e_ w2815 ⟨rfl, hS⟩
            replace HS : Aside0 (Sep (fps []) w [] w2815) := ⟨HS.out.call hS⟩
            clear hS
            refine ⟨_, rfl, ?_⟩
            refine hK.out _ _ (trivial) (fun hHeld => ?_)
            clear hK K
            refine norm_ (a' := ?_) ?_ ?_
            rotate_left
            · show Act.put _ (some 38) _ = _
              simp only [Act.put, List.setIfInBounds_toArray, List.set_cons_zero, List.set_cons_succ, i64_w, i32_w]
              rfl
            by_cases c2816 : t2813 = 0
            · replace H := if_yes c2816 H
              have c2816b0 : (t2813 == 0) = true := beq_iff_eq.mpr c2816
              have c2816b1 : (t2813 != 0) = false := bne_eq_false_iff_eq.mpr c2816
              exact (none_no H).elim
            · replace H := if_no c2816 H
              have c2816b0 : (t2813 == 0) = false := beq_eq_false_iff_ne.mpr c2816
              have c2816b1 : (t2813 != 0) = true := bne_iff_ne.mpr c2816
              refine pure_ (i := 7) (N := some 39) (v := ?_) (a' := ?_) #[true, true, true, true, true, true, true, true, false, false, false, false] rfl rfl (by kernel_rfl) (fun _ _ _ h => h) (Or.inl ⟨by rfl, ?_⟩) ?_ ?_
              rotate_left
              · intro w'
                go_simp
                with_reducible rfl
              rotate_left
              · simp only [Act.put, List.setIfInBounds_toArray, List.set_cons_zero, List.set_cons_succ, i64_w, i32_w]
                rfl
              refine pure_ (i := 8) (N := some 40) (v := ?_) (a' := ?_) #[true, true, true, true, true, true, true, true, true, false, false, false] rfl rfl (by kernel_rfl) (fun _ _ _ h => h) (Or.inl ⟨by rfl, ?_⟩) ?_ ?_
              rotate_left
              · intro w'
                go_simp
                with_reducible rfl
              rotate_left
              · simp only [Act.put, List.setIfInBounds_toArray, List.set_cons_zero, List.set_cons_succ, i64_w, i32_w]
                rfl
              refine pure_ (i := 9) (N := some 6) (v := ?_) (a' := ?_) #[true, true, true, true, true, true, true, true, true, true, false, false] rfl rfl (by kernel_rfl) (fun _ _ _ h => h) (Or.inl ⟨by rfl, ?_⟩) ?_ ?_
              rotate_left
              · intro w'
                go_simp
                with_reducible rfl
              rotate_left
              · simp only [Act.put, List.setIfInBounds_toArray, List.set_cons_zero, List.set_cons_succ, i64_w, i32_w]
                rfl
              refine pure_ (i := 10) (N := some 7) (v := ?_) (a' := ?_) #[true, true, true, true, true, true, true, true, true, true, true, false] rfl rfl (by kernel_rfl) (fun _ _ _ h => h) (Or.inl ⟨by rfl, ?_⟩) ?_ ?_
              rotate_left
              · intro w'
                go_simp
                with_reducible rfl
              rotate_left
              · simp only [Act.put, List.setIfInBounds_toArray, List.set_cons_zero, List.set_cons_succ, i64_w, i32_w]
                rfl
              refine pure_ (i := 11) (N := some 8) (v := ?_) (a' := ?_) #[true, true, true, true, true, true, true, true, true, true, true, true] rfl rfl (by kernel_rfl) (fun _ _ _ h => h) (Or.inl ⟨by rfl, ?_⟩) ?_ ?_
              rotate_left
              · intro w'
                go_simp
                with_reducible rfl
              rotate_left
              · simp only [Act.put, List.setIfInBounds_toArray, List.set_cons_zero, List.set_cons_succ, i64_w, i32_w]
                rfl
              refine done_ (by kernel_rfl) ?_
              skip
              skip
              go_wp2_with fail
              clear c2812 c2816
              go_ret3
              rw [← some_eq H]
              exact ⟨(by first | rfl | (simp [IntKind.wrap_u32]; done)), HS.out⟩
  · replace H := if_no c2800 H
    have c2800b0 : (t2797 == 0) = false := beq_eq_false_iff_ne.mpr c2800
    have c2800b1 : (t2797 != 0) = true := bne_iff_ne.mpr c2800
    clear c2800
    replace HS : Aside0 (Sep (fps []) w [] w2799) := ⟨HS.out.sub (.cons _ .slnil)⟩
    go_wp2_with fail
    go_ret3
    rw [← some_eq H]
    exact ⟨(by first | rfl | (simp [IntKind.wrap_u32]; done)), HS.out⟩

set_option maxHeartbeats 30000000 in
set_option maxRecDepth 100000 in
theorem obj_look.calls (k : Nat) (l2774 : List Int) (a2779 : Int) (a2780 : Int) (a2781 : Int) (a2782 : Int) (a2783 : Int) (a2784 : Int) (a2785 : Int) (a2786 : Int) (g2770 : Nat) (g2772 : Nat) (A2775 : Option Addr) (m2776 : Nat) (n2777 : Nat) (r : Int) (w : World)  (HGl0 : Aside0 (Gl 0 #[.int .i64 0, .int .i64 0, .int .i64 0, .int .i64 0, .int .i64 0] (fps [b8 g2770 g2772 a2780 a2781 a2782 a2783, b7 g2772 A2775 m2776 n2777 a2779, r6 A2775 m2776 n2777 l2774]) w)) (HS : Aside0 (Sep (fps [b8 g2770 g2772 a2780 a2781 a2782 a2783, b7 g2772 A2775 m2776 n2777 a2779, r6 A2775 m2776 n2777 l2774]) w [b8 g2770 g2772 a2780 a2781 a2782 a2783, b7 g2772 A2775 m2776 n2777 a2779, r6 A2775 m2776 n2777 l2774] w)) (H : Aside0 (obj_look.f k l2774 a2779 a2780 a2781 a2782 a2783 a2784 a2785 a2786 = some r)) :
    Calls Tryd.prog 102 #[.pointer (some ⟨g2770, 0, none⟩), .int .i64 a2784, .int .i64 a2785, .int .i64 a2786] w fun e w' => e = .returned (.int .u32 r) ∧ Sep (fps [b8 g2770 g2772 a2780 a2781 a2782 a2783, b7 g2772 A2775 m2776 n2777 a2779, r6 A2775 m2776 n2777 l2774]) w [b8 g2770 g2772 a2780 a2781 a2782 a2783, b7 g2772 A2775 m2776 n2777 a2779, r6 A2775 m2776 n2777 l2774] w' := by
  generalize (fps [b8 g2770 g2772 a2780 a2781 a2782 a2783, b7 g2772 A2775 m2776 n2777 a2779, r6 A2775 m2776 n2777 l2774]) = FF at HS HGl0 ⊢
  obtain rfl := (row_len (HS.out.at2)).symm
  unfold obj_look.f at H
  go_enter Tryd.func102, Tryd.ntmps102
  go_wp2_with fail
  obtain ⟨t2787, HA2788, H⟩ := bind_some H
  refine (ground_Ground_Conf.calls l2774 a2779 a2780 a2781 a2782 a2783 g2770 g2772 A2775 l2774.length n2777 t2787 _ ⟨HGl0.out.pass HS.out⟩ ⟨HS.out.begin⟩ HA2788).mono ?_
  rintro e_ w2789 ⟨rfl, hS⟩
  replace HS : Aside0 (Sep FF w [b8 g2770 g2772 a2780 a2781 a2782 a2783, b7 g2772 A2775 l2774.length n2777 a2779, r6 A2775 l2774.length n2777 l2774] w2789) := ⟨HS.out.call hS⟩
  clear hS
  have fl2790 : ∀ w, (Instr.field 30 (.agg #[.int .i64 t2787.1, .int .i64 t2787.2.1, .int .i64 t2787.2.2.1, .int .i64 t2787.2.2.2]) 1).run Tryd.prog w = .ok (.int .i64 t2787.2.1) w := fun _ => by kernel_rfl
  go_wp2_with fail
  clear fl2790
  obtain ⟨t2817, HA2818, H⟩ := bind_some H
  refine (shape_Place.calls _ t2787.2.1 a2785 a2786 t2817 _ ⟨HGl0.out.pass (l := []) HS.out⟩ ⟨Sep.start _⟩ HA2818).mono ?_
  rintro e_ w2819 ⟨rfl, hS⟩
  replace HS : Aside0 (Sep FF w [b8 g2770 g2772 a2780 a2781 a2782 a2783, b7 g2772 A2775 l2774.length n2777 a2779, r6 A2775 l2774.length n2777 l2774] w2819) := ⟨HS.out.call hS⟩
  clear hS
  by_cases c2820 : t2817.2.2 = 0
  · replace H := if_yes c2820 H
    have c2820b0 : (t2817.2.2 == 0) = true := beq_iff_eq.mpr c2820
    have c2820b1 : (t2817.2.2 != 0) = false := bne_eq_false_iff_eq.mpr c2820
    clear c2820
    by_cases c2821 : t2817.1 < 0
    · replace H := if_yes c2821 H
      have c2821b0 : decide (t2817.1 < 0) = true := decide_eq_true c2821
      clear c2821
      go_wp2_with fail
      obtain ⟨t2822, HA2823, H⟩ := bind_some H
      refine (ground_Ground_SeeWord.calls l2774 a2779 a2780 a2781 a2782 a2783 (wrap64 (a2784 - 1)) t2817.2.1 g2770 g2772 A2775 l2774.length n2777 t2822 _ ⟨HGl0.out.pass HS.out⟩ ⟨HS.out.begin⟩ HA2823).mono ?_
      rintro e_ w2824 ⟨rfl, hS⟩
      replace HS : Aside0 (Sep FF w [b8 g2770 g2772 a2780 a2781 a2782 a2783, b7 g2772 A2775 l2774.length n2777 a2779, r6 A2775 l2774.length n2777 l2774] w2824) := ⟨HS.out.call hS⟩
      clear hS
      go_wp2_with fail
      go_ret
      rw [← some_eq H]
      exact ⟨(by first | rfl | (simp [IntKind.wrap_u32]; done)), HS.out⟩
    · replace H := if_no c2821 H
      have c2821b0 : decide (t2817.1 < 0) = false := decide_eq_false c2821
      clear c2821
      go_wp2_with fail
      obtain ⟨t2825, HA2826, H⟩ := bind_some H
      refine (ground_Ground_SeeWord.calls l2774 a2779 a2780 a2781 a2782 a2783 (wrap64 (a2784 - 1)) (wrap64 (8 + t2817.1)) g2770 g2772 A2775 l2774.length n2777 t2825 _ ⟨HGl0.out.pass HS.out⟩ ⟨HS.out.begin⟩ HA2826).mono ?_
      rintro e_ w2827 ⟨rfl, hS⟩
      replace HS : Aside0 (Sep FF w [b8 g2770 g2772 a2780 a2781 a2782 a2783, b7 g2772 A2775 l2774.length n2777 a2779, r6 A2775 l2774.length n2777 l2774] w2827) := ⟨HS.out.call hS⟩
      clear hS
      go_wp2_with fail
      obtain ⟨t2828, HA2829, H⟩ := bind_some H
      refine (ground_Ground_SeeWord.calls l2774 a2779 a2780 a2781 a2782 a2783 (wrap64 ((wrap64 (t2825)) - 1)) t2817.2.1 g2770 g2772 A2775 l2774.length n2777 t2828 _ ⟨HGl0.out.pass HS.out⟩ ⟨HS.out.begin⟩ HA2829).mono ?_
      rintro e_ w2830 ⟨rfl, hS⟩
      replace HS : Aside0 (Sep FF w [b8 g2770 g2772 a2780 a2781 a2782 a2783, b7 g2772 A2775 l2774.length n2777 a2779, r6 A2775 l2774.length n2777 l2774] w2830) := ⟨HS.out.call hS⟩
      clear hS
      go_wp2_with fail
      go_ret
      rw [← some_eq H]
      exact ⟨(by first | rfl | (simp [IntKind.wrap_u32]; done)), HS.out⟩
  · replace H := if_no c2820 H
    have c2820b0 : (t2817.2.2 == 0) = false := beq_eq_false_iff_ne.mpr c2820
    have c2820b1 : (t2817.2.2 != 0) = true := bne_iff_ne.mpr c2820
    clear c2820
    go_wp2_with fail
    go_ret
    rw [← some_eq H]
    exact ⟨(by first | rfl | (simp [IntKind.wrap_u32]; done)), HS.out⟩

set_option maxHeartbeats 30000000 in
set_option maxRecDepth 100000 in
theorem obj_See.calls (k : Nat) (l2567 : List Int) (a2572 : Int) (a2573 : Int) (a2574 : Int) (a2575 : Int) (a2576 : Int) (a2577 : Int) (g2563 : Nat) (g2565 : Nat) (A2568 : Option Addr) (m2569 : Nat) (n2570 : Nat) (r : Bool × List Int × List Int) (w : World)  (HGl0 : Aside0 (Gl 0 #[.int .i64 0, .int .i64 0, .int .i64 0, .int .i64 0, .int .i64 0] (fps [b8 g2563 g2565 a2573 a2574 a2575 a2576, b7 g2565 A2568 m2569 n2570 a2572, r6 A2568 m2569 n2570 l2567]) w)) (HS : Aside0 (Sep (fps [b8 g2563 g2565 a2573 a2574 a2575 a2576, b7 g2565 A2568 m2569 n2570 a2572, r6 A2568 m2569 n2570 l2567]) w [b8 g2563 g2565 a2573 a2574 a2575 a2576, b7 g2565 A2568 m2569 n2570 a2572, r6 A2568 m2569 n2570 l2567] w)) (H : Aside0 (obj_See.f k l2567 a2572 a2573 a2574 a2575 a2576 a2577 = some r)) :
    Calls Tryd.prog 36 #[.pointer (some ⟨g2563, 0, none⟩), .int .i64 a2577] w fun e w' => ∃ (A3104 : Option Addr) (m3105 : Nat) (n3106 : Nat) (A3108 : Option Addr) (m3109 : Nat) (n3110 : Nat), e = .returned (.tuple #[.agg #[.slice A3104 m3105 n3106, .slice A3108 m3109 n3110], .bool r.1]) ∧ Sep (fps [b8 g2563 g2565 a2573 a2574 a2575 a2576, b7 g2565 A2568 m2569 n2570 a2572, r6 A2568 m2569 n2570 l2567]) w [b8 g2563 g2565 a2573 a2574 a2575 a2576, b7 g2565 A2568 m2569 n2570 a2572, r6 A2568 m2569 n2570 l2567, r18 A3104 m3105 n3106 r.2.1, r6 A3108 m3109 n3110 r.2.2] w' := by
  generalize (fps [b8 g2563 g2565 a2573 a2574 a2575 a2576, b7 g2565 A2568 m2569 n2570 a2572, r6 A2568 m2569 n2570 l2567]) = FF at HS HGl0 ⊢
  obtain rfl := (row_len (HS.out.at2)).symm
  unfold obj_See.f at H
  go_enter Tryd.func36, Tryd.ntmps36
  go_wp2_with (first | ((with_reducible refine gate_dst (N := 4) rfl ?_); refine box_on ?hg (N := 4) ?hd (cs := #[.slice none 0 0, .slice none 0 0]) (t := 71) ?hr ?_; (case hd => rfl); (case hg => rfl); (case hr => first | (go_simp; done) | (go_simp; rfl)); intro g2578 hg w2579 hbox hb; replace HS : Aside0 (Sep FF w [b8 g2563 g2565 a2573 a2574 a2575 a2576, b7 g2565 A2568 l2567.length n2570 a2572, r6 A2568 l2567.length n2570 l2567, b17 g2578] w2579) := ⟨HS.out.box hg hbox hb⟩; clear hg hbox hb; replace HS : Aside0 (Sep FF w [r18 none 0 0 [], b8 g2563 g2565 a2573 a2574 a2575 a2576, b7 g2565 A2568 l2567.length n2570 a2572, r6 A2568 l2567.length n2570 l2567, b19 g2578 none 0 0] w2579) := ⟨HS.out.nilrow 3 (Value.int .i64)⟩; replace HS : Aside0 (Sep FF w [r6 none 0 0 [], r18 none 0 0 [], b8 g2563 g2565 a2573 a2574 a2575 a2576, b7 g2565 A2568 l2567.length n2570 a2572, r6 A2568 l2567.length n2570 l2567, b20 g2578 none 0 0 none 0 0] w2579) := ⟨HS.out.nilrow 33 (Value.int .u32)⟩))
  replace HS : Aside0 (Sep FF w [r6 A2568 l2567.length n2570 l2567, r6 none 0 0 [], r18 none 0 0 [], b8 g2563 g2565 a2573 a2574 a2575 a2576, b7 g2565 A2568 l2567.length n2570 a2572, b20 g2578 none 0 0 none 0 0] w2579) := ⟨HS.out.front 4 (by simp)⟩
  replace HS : Aside0 (Sep FF w [b7 g2565 A2568 l2567.length n2570 a2572, r6 A2568 l2567.length n2570 l2567, r6 none 0 0 [], r18 none 0 0 [], b8 g2563 g2565 a2573 a2574 a2575 a2576, b20 g2578 none 0 0 none 0 0] w2579) := ⟨HS.out.front 4 (by simp)⟩
  replace HS : Aside0 (Sep FF w [b8 g2563 g2565 a2573 a2574 a2575 a2576, b7 g2565 A2568 l2567.length n2570 a2572, r6 A2568 l2567.length n2570 l2567, r6 none 0 0 [], r18 none 0 0 [], b20 g2578 none 0 0 none 0 0] w2579) := ⟨HS.out.front 4 (by simp)⟩
  obtain ⟨t2606, HA2607, H⟩ := bind_some H
  refine (obj_in.calls l2567 a2572 a2573 a2574 a2575 a2576 a2577 g2563 g2565 A2568 l2567.length n2570 t2606 _ ⟨HGl0.out.pass HS.out⟩ ⟨HS.out.begin⟩ HA2607).mono ?_
  rintro e_ w2608 ⟨rfl, hS⟩
  replace HS : Aside0 (Sep FF w [b8 g2563 g2565 a2573 a2574 a2575 a2576, b7 g2565 A2568 l2567.length n2570 a2572, r6 A2568 l2567.length n2570 l2567, r6 none 0 0 [], r18 none 0 0 [], b20 g2578 none 0 0 none 0 0] w2608) := ⟨HS.out.call hS⟩
  clear hS
  by_cases c2609 : t2606 = true
  · replace H := if_yes c2609 H
    have c2609b0 : t2606 = true := c2609
    have c2609b1 : (!t2606) = false := by rw [c2609b0]; rfl
    try rw [c2609b1]
    clear c2609
    go_wp2_with fail
    obtain ⟨t2656, HA2657, H⟩ := bind_some H
    refine (ground_Ground_SeeWord.calls l2567 a2572 a2573 a2574 a2575 a2576 (wrap64 (a2577 - 1)) 0 g2563 g2565 A2568 l2567.length n2570 t2656 _ ⟨HGl0.out.pass HS.out⟩ ⟨HS.out.begin⟩ HA2657).mono ?_
    rintro e_ w2658 ⟨rfl, hS⟩
    replace HS : Aside0 (Sep FF w [b8 g2563 g2565 a2573 a2574 a2575 a2576, b7 g2565 A2568 l2567.length n2570 a2572, r6 A2568 l2567.length n2570 l2567, r6 none 0 0 [], r18 none 0 0 [], b20 g2578 none 0 0 none 0 0] w2658) := ⟨HS.out.call hS⟩
    clear hS
    go_wp2_with fail
    obtain ⟨t2729, HA2730, H⟩ := bind_some H
    refine (tag_Unpack.calls t2656 t2729 _ ⟨HGl0.out.pass (l := []) HS.out⟩ ⟨Sep.start _⟩ HA2730).mono ?_
    rintro e_ w2731 ⟨rfl, hS⟩
    replace HS : Aside0 (Sep FF w [b8 g2563 g2565 a2573 a2574 a2575 a2576, b7 g2565 A2568 l2567.length n2570 a2572, r6 A2568 l2567.length n2570 l2567, r6 none 0 0 [], r18 none 0 0 [], b20 g2578 none 0 0 none 0 0] w2731) := ⟨HS.out.call hS⟩
    clear hS
    have fl2732 : ∀ w, (Instr.field 32 (.agg #[.int .i64 t2729.1, .int .i64 t2729.2.1, .int .i64 t2729.2.2.1, .int .i64 t2729.2.2.2.1, .int .i64 t2729.2.2.2.2.1, .int .i64 t2729.2.2.2.2.2.1, .int .i64 t2729.2.2.2.2.2.2]) 0).run Tryd.prog w = .ok (.int .i64 t2729.1) w := fun _ => by kernel_rfl
    go_wp2_with fail
    clear fl2732
    obtain ⟨t2735, HA2736, H⟩ := bind_some H
    refine (obj_isHead.calls t2729.1 t2735 _ ⟨HGl0.out.pass (l := []) HS.out⟩ ⟨Sep.start _⟩ HA2736).mono ?_
    rintro e_ w2737 ⟨rfl, hS⟩
    replace HS : Aside0 (Sep FF w [b8 g2563 g2565 a2573 a2574 a2575 a2576, b7 g2565 A2568 l2567.length n2570 a2572, r6 A2568 l2567.length n2570 l2567, r6 none 0 0 [], r18 none 0 0 [], b20 g2578 none 0 0 none 0 0] w2737) := ⟨HS.out.call hS⟩
    clear hS
    by_cases c2738 : t2735 = true
    · replace H := if_yes c2738 H
      have c2738b0 : t2735 = true := c2738
      have c2738b1 : (!t2735) = false := by rw [c2738b0]; rfl
      try rw [c2738b1]
      clear c2738
      go_wp2_with fail
      obtain ⟨t2739, HA2740, H⟩ := bind_some H
      refine (ground_Ground_SeeWord.calls l2567 a2572 a2573 a2574 a2575 a2576 (wrap64 (a2577 - 1)) 1 g2563 g2565 A2568 l2567.length n2570 t2739 _ ⟨HGl0.out.pass HS.out⟩ ⟨HS.out.begin⟩ HA2740).mono ?_
      rintro e_ w2741 ⟨rfl, hS⟩
      replace HS : Aside0 (Sep FF w [b8 g2563 g2565 a2573 a2574 a2575 a2576, b7 g2565 A2568 l2567.length n2570 a2572, r6 A2568 l2567.length n2570 l2567, r6 none 0 0 [], r18 none 0 0 [], b20 g2578 none 0 0 none 0 0] w2741) := ⟨HS.out.call hS⟩
      clear hS
      go_wp2_with fail
      obtain ⟨t2742, HA2743, H⟩ := bind_some H
      refine (ground_Ground_SeeWord.calls l2567 a2572 a2573 a2574 a2575 a2576 (wrap64 (a2577 - 1)) 2 g2563 g2565 A2568 l2567.length n2570 t2742 _ ⟨HGl0.out.pass HS.out⟩ ⟨HS.out.begin⟩ HA2743).mono ?_
      rintro e_ w2744 ⟨rfl, hS⟩
      replace HS : Aside0 (Sep FF w [b8 g2563 g2565 a2573 a2574 a2575 a2576, b7 g2565 A2568 l2567.length n2570 a2572, r6 A2568 l2567.length n2570 l2567, r6 none 0 0 [], r18 none 0 0 [], b20 g2578 none 0 0 none 0 0] w2744) := ⟨HS.out.call hS⟩
      clear hS
      go_wp2_with fail
      obtain ⟨t2745, HA2746, H⟩ := bind_some H
      refine (ground_Ground_Conf.calls l2567 a2572 a2573 a2574 a2575 a2576 g2563 g2565 A2568 l2567.length n2570 t2745 _ ⟨HGl0.out.pass HS.out⟩ ⟨HS.out.begin⟩ HA2746).mono ?_
      rintro e_ w2747 ⟨rfl, hS⟩
      replace HS : Aside0 (Sep FF w [b8 g2563 g2565 a2573 a2574 a2575 a2576, b7 g2565 A2568 l2567.length n2570 a2572, r6 A2568 l2567.length n2570 l2567, r6 none 0 0 [], r18 none 0 0 [], b20 g2578 none 0 0 none 0 0] w2747) := ⟨HS.out.call hS⟩
      clear hS
      have fl2748 : ∀ w, (Instr.field 30 (.agg #[.int .i64 t2745.1, .int .i64 t2745.2.1, .int .i64 t2745.2.2.1, .int .i64 t2745.2.2.2]) 1).run Tryd.prog w = .ok (.int .i64 t2745.2.1) w := fun _ => by kernel_rfl
      go_wp2_with fail
      clear fl2748
      obtain ⟨t2749, HA2750, H⟩ := bind_some H
      refine (shape_Blocks.calls _ t2745.2.1 (wrap64 (t2739)) (wrap64 (t2742)) t2749 _ ⟨HGl0.out.pass (l := []) HS.out⟩ ⟨Sep.start _⟩ HA2750).mono ?_
      rintro e_ w2751 ⟨rfl, hS⟩
      replace HS : Aside0 (Sep FF w [b8 g2563 g2565 a2573 a2574 a2575 a2576, b7 g2565 A2568 l2567.length n2570 a2572, r6 A2568 l2567.length n2570 l2567, r6 none 0 0 [], r18 none 0 0 [], b20 g2578 none 0 0 none 0 0] w2751) := ⟨HS.out.call hS⟩
      clear hS
      by_cases c2752 : t2749.2 = 0
      · replace H := if_yes c2752 H
        have c2752b0 : (t2749.2 == 0) = true := beq_iff_eq.mpr c2752
        have c2752b1 : (t2749.2 != 0) = false := bne_eq_false_iff_eq.mpr c2752
        clear c2752
        go_wp2_with (first | ((with_reducible refine gate_dst (N := 10) rfl ?_); refine box_on ?hg (N := 10) ?hd (cs := #[.slice none 0 0, .slice none 0 0]) (t := 71) ?hr ?_; (case hd => rfl); (case hg => rfl); (case hr => first | (go_simp; done) | (go_simp; rfl)); intro g2753 hg w2754 hbox hb; replace HS : Aside0 (Sep FF w [b8 g2563 g2565 a2573 a2574 a2575 a2576, b7 g2565 A2568 l2567.length n2570 a2572, r6 A2568 l2567.length n2570 l2567, r6 none 0 0 [], r18 none 0 0 [], b20 g2578 none 0 0 none 0 0, b17 g2753] w2754) := ⟨HS.out.box hg hbox hb⟩; clear hg hbox hb; replace HS : Aside0 (Sep FF w [r18 none 0 0 [], b8 g2563 g2565 a2573 a2574 a2575 a2576, b7 g2565 A2568 l2567.length n2570 a2572, r6 A2568 l2567.length n2570 l2567, r6 none 0 0 [], r18 none 0 0 [], b20 g2578 none 0 0 none 0 0, b19 g2753 none 0 0] w2754) := ⟨HS.out.nilrow 3 (Value.int .i64)⟩; replace HS : Aside0 (Sep FF w [r6 none 0 0 [], r18 none 0 0 [], b8 g2563 g2565 a2573 a2574 a2575 a2576, b7 g2565 A2568 l2567.length n2570 a2572, r6 A2568 l2567.length n2570 l2567, r6 none 0 0 [], r18 none 0 0 [], b20 g2578 none 0 0 none 0 0, b20 g2753 none 0 0 none 0 0] w2754) := ⟨HS.out.nilrow 33 (Value.int .u32)⟩))
        obtain ⟨o2846, AL2847, H⟩ := bind_some H
        go_loopg [51] k (fun kq v51 wc => ∃ (x2850 : Int) (x2851 : List Int) (A2852 : Option Addr) (m2853 : Nat) (n2854 : Nat), v51 = .int .i64 x2850 ∧ Aside0 (obj_See.lo0 kq l2567 a2572 a2573 a2574 a2575 a2576 a2577 t2739 t2742 x2850 x2851 = some o2846) ∧ Aside0 (Sep FF w [r6 none 0 0 [], r18 A2852 m2853 n2854 x2851, b8 g2563 g2565 a2573 a2574 a2575 a2576, b7 g2565 A2568 l2567.length n2570 a2572, r6 A2568 l2567.length n2570 l2567, r6 none 0 0 [], r18 none 0 0 [], b20 g2578 none 0 0 none 0 0, b20 g2753 A2852 m2853 n2854 none 0 0] wc))
        case atStart => exact ⟨(0), (([] : List Int)), (none), (0), (0), (by first | rfl | (simp [IntKind.wrap_u32]; done)), AL2847, ⟨HS.out⟩⟩
        case round =>
          clear AL2847 HS
          obtain ⟨x2850, x2851, A2852, m2853, n2854, rfl, AL2847, HS⟩ := hrel
          obtain ⟨w2848, rfl⟩ : ∃ x : World, x = wr := ⟨_, rfl⟩
          obtain rfl := (row_len (HS.out.at1)).symm
          cases gk with
          | zero => exact absurd AL2847.out (by simp [obj_See.lo0])
          | succ k2849 =>
            have AL0 := AL2847.out
            rw [obj_See.lo0] at AL0
            clear AL2847
            have AL2847 := Aside0.mk AL0
            clear AL0
            by_cases c2856 : x2850 < (wrap64 (t2739))
            · replace AL2847 := if_yes c2856 AL2847
              have c2856b0 : decide (x2850 < (wrap64 (t2739))) = true := decide_eq_true c2856
              clear c2856
              go_wp2_with fail
              refine start_ (n := 14) (S := (fun w' => w'.cell? ⟨g2753, 0, none⟩ = some (.slice A2852 x2851.length n2854))) (ds := [13]) #[false, false, false, false, false, false, false, false, false, false, false, false, false, false] (by kernel_rfl) rfl rfl (blk_cellv ((HS.out.drew).at8) 0 rfl) (fun hHeld => ?_)
              have HS_ := Aside0.mk HS.out.drew
              clear HS
              generalize World.drew _ = w2858 at HS_ hHeld ⊢
              have HS := HS_
              clear HS_
              refine pure_ (i := 0) (N := some 54) (v := ?_) (a' := ?_) #[true, false, false, false, false, false, false, false, false, false, false, false, false, false] rfl rfl (by kernel_rfl) (fun _ _ _ h => h) (Or.inl ⟨by rfl, ?_⟩) ?_ ?_
              rotate_left
              · intro w'
                go_simp
                with_reducible rfl
              rotate_left
              · simp only [Act.put, List.setIfInBounds_toArray, List.set_cons_zero, List.set_cons_succ, i64_w, i32_w]
                rfl
              refine pure_ (i := 2) (N := some 56) (v := ?_) (a' := ?_) #[true, false, true, false, false, false, false, false, false, false, false, false, false, false] rfl rfl (by kernel_rfl) (fun _ _ _ h => h) (Or.inl ⟨by rfl, ?_⟩) ?_ ?_
              rotate_left
              · intro w'
                go_simp
                with_reducible rfl
              rotate_left
              · simp only [Act.put, List.setIfInBounds_toArray, List.set_cons_zero, List.set_cons_succ, i64_w, i32_w]
                rfl
              refine pure_ (i := 3) (N := some 57) (v := ?_) (a' := ?_) #[true, false, true, true, false, false, false, false, false, false, false, false, false, false] rfl rfl (by kernel_rfl) (fun _ _ _ h => h) (Or.inl ⟨by rfl, ?_⟩) ?_ ?_
              rotate_left
              · intro w'
                go_simp
                with_reducible rfl
              rotate_left
              · simp only [Act.put, List.setIfInBounds_toArray, List.set_cons_zero, List.set_cons_succ, i64_w, i32_w]
                rfl
              refine pure_ (i := 4) (N := some 58) (v := ?_) (a' := ?_) #[true, false, true, true, true, false, false, false, false, false, false, false, false, false] rfl rfl (by kernel_rfl) (fun _ _ _ h => h) (Or.inl ⟨by rfl, ?_⟩) ?_ ?_
              rotate_left
              · intro w'
                go_simp
                with_reducible rfl
              rotate_left
              · simp only [Act.put, List.setIfInBounds_toArray, List.set_cons_zero, List.set_cons_succ, i64_w, i32_w]
                rfl
              refine pure_ (i := 5) (N := some 59) (v := ?_) (a' := ?_) #[true, false, true, true, true, true, false, false, false, false, false, false, false, false] rfl rfl (by kernel_rfl) (fun _ _ _ h => h) (Or.inl ⟨by rfl, ?_⟩) ?_ ?_
              rotate_left
              · intro w'
                go_simp
                with_reducible rfl
              rotate_left
              · simp only [Act.put, List.setIfInBounds_toArray, List.set_cons_zero, List.set_cons_succ, i64_w, i32_w]
                rfl
              refine pure_ (i := 6) (N := some 60) (v := ?_) (a' := ?_) #[true, false, true, true, true, true, true, false, false, false, false, false, false, false] rfl rfl (by kernel_rfl) (fun _ _ _ h => h) (Or.inl ⟨by rfl, ?_⟩) ?_ ?_
              rotate_left
              · intro w'
                go_simp
                with_reducible rfl
              rotate_left
              · simp only [Act.put, List.setIfInBounds_toArray, List.set_cons_zero, List.set_cons_succ, i64_w, i32_w]
                rfl
              refine pure_ (i := 7) (N := some 61) (v := ?_) (a' := ?_) #[true, false, true, true, true, true, true, true, false, false, false, false, false, false] rfl rfl (by kernel_rfl) (fun _ _ _ h => h) (Or.inl ⟨by rfl, ?_⟩) ?_ ?_
              rotate_left
              · intro w'
                go_simp
                with_reducible rfl
              rotate_left
              · simp only [Act.put, List.setIfInBounds_toArray, List.set_cons_zero, List.set_cons_succ, i64_w, i32_w]
                rfl
              refine take_ (i := 1) (N := some 55) (v := ?_) (a' := ?_) #[true, true, true, true, true, true, true, true, false, false, false, false, false, false] rfl rfl (by kernel_rfl) (fun _ _ _ h => h) (Or.inl ⟨by rfl, ?_⟩) hHeld ?_ ?_
              rotate_left
              · rintro w' hS'
                have s0 := hS'
                go_simp
                with_reducible rfl
              rotate_left
              · simp only [Act.put, List.setIfInBounds_toArray, List.set_cons_zero, List.set_cons_succ, i64_w, i32_w]
                rfl
              refine one_ (i := 8) (N := some 62) #[true, true, true, true, true, true, true, true, true, false, false, false, false, false] rfl rfl (by kernel_rfl) (by decide) (fun K hK => ?_)
              replace HS : Aside0 (Sep FF w [r6 A2568 l2567.length n2570 l2567, r6 none 0 0 [], r18 A2852 x2851.length n2854 x2851, b8 g2563 g2565 a2573 a2574 a2575 a2576, b7 g2565 A2568 l2567.length n2570 a2572, r6 none 0 0 [], r18 none 0 0 [], b20 g2578 none 0 0 none 0 0, b20 g2753 A2852 x2851.length n2854 none 0 0] w2858) := ⟨HS.out.front 4 (by simp)⟩
              replace HS : Aside0 (Sep FF w [b7 g2565 A2568 l2567.length n2570 a2572, r6 A2568 l2567.length n2570 l2567, r6 none 0 0 [], r18 A2852 x2851.length n2854 x2851, b8 g2563 g2565 a2573 a2574 a2575 a2576, r6 none 0 0 [], r18 none 0 0 [], b20 g2578 none 0 0 none 0 0, b20 g2753 A2852 x2851.length n2854 none 0 0] w2858) := ⟨HS.out.front 4 (by simp)⟩
              replace HS : Aside0 (Sep FF w [b8 g2563 g2565 a2573 a2574 a2575 a2576, b7 g2565 A2568 l2567.length n2570 a2572, r6 A2568 l2567.length n2570 l2567, r6 none 0 0 [], r18 A2852 x2851.length n2854 x2851, r6 none 0 0 [], r18 none 0 0 [], b20 g2578 none 0 0 none 0 0, b20 g2753 A2852 x2851.length n2854 none 0 0] w2858) := ⟨HS.out.front 4 (by simp)⟩
              obtain ⟨t2831, HA2859, AL2847⟩ := bind_some AL2847
              refine goes_ Tryd.func102 (by kernel_rfl) rfl #[.pointer (some ⟨g2563, 0, none⟩), .int .i64 a2577, .int .i64 (wrap64 ((wrap64 (t2739)) + (wrap64 (t2742)))), .int .i64 x2850] (by rfl) rfl rfl (by (try simp only [List.map_toArray, List.map_cons, List.map_nil]); first | done | rfl) ?_
              refine (obj_look.calls _ l2567 a2572 a2573 a2574 a2575 a2576 a2577 (wrap64 ((wrap64 (t2739)) + (wrap64 (t2742)))) x2850 g2563 g2565 A2568 l2567.length n2570 t2831 _ ⟨HGl0.out.pass HS.out⟩ ⟨HS.out.begin⟩ HA2859).mono ?_
              rintro e_ w2860 ⟨rfl, hS⟩
              replace HS : Aside0 (Sep FF w [b8 g2563 g2565 a2573 a2574 a2575 a2576, b7 g2565 A2568 l2567.length n2570 a2572, r6 A2568 l2567.length n2570 l2567, r6 none 0 0 [], r18 A2852 x2851.length n2854 x2851, r6 none 0 0 [], r18 none 0 0 [], b20 g2578 none 0 0 none 0 0, b20 g2753 A2852 x2851.length n2854 none 0 0] w2860) := ⟨HS.out.call hS⟩
              clear hS
              refine ⟨_, rfl, ?_⟩
              refine hK.out _ _ (blk_cellv (HS.out.at8) 0 rfl) (fun hHeld => ?_)
              clear hK K
              refine norm_ (a' := ?_) ?_ ?_
              rotate_left
              · show Act.put _ (some 62) _ = _
                simp only [Act.put, List.setIfInBounds_toArray, List.set_cons_zero, List.set_cons_succ, i64_w, i32_w]
                rfl
              refine pure_ (i := 9) (N := some 63) (v := ?_) (a' := ?_) #[true, true, true, true, true, true, true, true, true, true, false, false, false, false] rfl rfl (by kernel_rfl) (fun _ _ _ h => h) (Or.inl ⟨by rfl, ?_⟩) ?_ ?_
              rotate_left
              · intro w'
                go_simp
                with_reducible rfl
              rotate_left
              · simp only [Act.put, List.setIfInBounds_toArray, List.set_cons_zero, List.set_cons_succ, i64_w, i32_w]
                rfl
              refine one_ (i := 10) (N := some 64) #[true, true, true, true, true, true, true, true, true, true, true, false, false, false] rfl rfl (by kernel_rfl) (by decide) (fun K hK => ?_)
              refine slice_step (n := 1) (by rfl) (N := 64) rfl (cs := #[.int .i64 (wrap64 (t2831))]) (t := 3) ?hr ?_
              case hr => first | (go_simp; done) | (go_simp; rfl)
              intro g2861 hg w2862 hbox hb
              replace HS : Aside0 (Sep FF w [b8 g2563 g2565 a2573 a2574 a2575 a2576, b7 g2565 A2568 l2567.length n2570 a2572, r6 A2568 l2567.length n2570 l2567, r6 none 0 0 [], r18 A2852 x2851.length n2854 x2851, r6 none 0 0 [], r18 none 0 0 [], b20 g2578 none 0 0 none 0 0, b20 g2753 A2852 x2851.length n2854 none 0 0, b11 g2861 (wrap64 (t2831))] w2862) := ⟨HS.out.box hg hbox hb⟩
              clear hg hbox hb
              refine hK.out _ _ (blk_cellv (HS.out.at8) 0 rfl) (fun hHeld => ?_)
              clear hK K
              refine norm_ (a' := ?_) ?_ ?_
              rotate_left
              · show Act.put _ (some 64) _ = _
                simp only [Act.put, List.setIfInBounds_toArray, List.set_cons_zero, List.set_cons_succ, i64_w, i32_w]
                rfl
              refine one_ (i := 11) (N := some 65) #[true, true, true, true, true, true, true, true, true, true, true, true, false, false] rfl rfl (by kernel_rfl) (by decide) (fun K hK => ?_)
              by_cases c2864 : x2851.length < 17592186044416
              · replace AL2847 := if_yes c2864 AL2847
                have c2864b0 : decide (x2851.length < 17592186044416) = true := decide_eq_true c2864
                clear c2864
                obtain ⟨y2840, HA2868, AL2847⟩ := bind_some AL2847
                refine append_step (l1 := [b8 g2563 g2565 a2573 a2574 a2575 a2576, b7 g2565 A2568 l2567.length n2570 a2572, r6 A2568 l2567.length n2570 l2567, r6 none 0 0 []]) (l2 := [r6 none 0 0 [], r18 none 0 0 [], b20 g2578 none 0 0 none 0 0, b20 g2753 A2852 x2851.length n2854 none 0 0, b11 g2861 (wrap64 (t2831))]) (by rfl) (.tmp 55) (.tmp 64) 49 3 (.int .i64 0) 8 rfl Tryd.underlying49 (by kernel_rfl) rfl (by decide) (Value.int .i64) (fun _ => rfl) (.slice A2852 x2851.length n2854) (x2851 : List Int) [wrap64 (t2831)] ⟨g2861, 0, none⟩ 1 rfl rfl (blk_news (xs := [wrap64 (t2831)]) (HS.out.nth 9 rfl)) HS.out (by have := of_decide_eq_true c2864b0; simp only [List.length_cons, List.length_nil]; omega) HA2868 ?_
                intro A2865 n2866 w2867 HS1
                replace HS : Aside0 (Sep FF w [b8 g2563 g2565 a2573 a2574 a2575 a2576, b7 g2565 A2568 l2567.length n2570 a2572, r6 A2568 l2567.length n2570 l2567, r6 none 0 0 [], r18 A2865 y2840.length n2866 y2840, r6 none 0 0 [], r18 none 0 0 [], b20 g2578 none 0 0 none 0 0, b20 g2753 A2852 x2851.length n2854 none 0 0, b11 g2861 (wrap64 (t2831))] w2867) := ⟨HS1⟩
                clear HS1
                refine hK.out _ _ (blk_cellv (HS.out.at8) 0 rfl) (fun hHeld => ?_)
                clear hK K
                refine norm_ (a' := ?_) ?_ ?_
                rotate_left
                · show Act.put _ (some 65) _ = _
                  simp only [Act.put, List.setIfInBounds_toArray, List.set_cons_zero, List.set_cons_succ, i64_w, i32_w]
                  rfl
                refine pure_ (i := 12) (N := some 66) (v := ?_) (a' := ?_) #[true, true, true, true, true, true, true, true, true, true, true, true, true, false] rfl rfl (by kernel_rfl) (fun _ _ _ h => h) (Or.inl ⟨by rfl, ?_⟩) ?_ ?_
                rotate_left
                · intro w'
                  go_simp
                  with_reducible rfl
                rotate_left
                · simp only [Act.put, List.setIfInBounds_toArray, List.set_cons_zero, List.set_cons_succ, i64_w, i32_w]
                  rfl
                refine last_ (i := 13) (N := none) #[true, true, true, true, true, true, true, true, true, true, true, true, true, true] rfl rfl (by kernel_rfl) (by decide) (fun K hK => ?_)
                have hc2871 := blk_cellv (v := .slice A2852 x2851.length n2854) (HS.out.at8) 0 rfl
                have hz2872 := blk_fz (HS.out.at8) 0
                refine store_step (w1 := (World.setCell w2867 ⟨g2753, 0, none⟩ (.slice A2865 y2840.length n2866))) (by rfl) rfl ?hr ?_
                case hr => first | (go_simp; done) | (go_simp; rfl)
                clear hc2871 hz2872
                intro w2870 hst
                have hq0 : Sep FF w [b8 g2563 g2565 a2573 a2574 a2575 a2576, b7 g2565 A2568 l2567.length n2570 a2572, r6 A2568 l2567.length n2570 l2567, r6 none 0 0 [], r18 A2865 y2840.length n2866 y2840, r6 none 0 0 [], r18 none 0 0 [], b20 g2578 none 0 0 none 0 0, b20 g2753 A2865 y2840.length n2866 none 0 0, b11 g2861 (wrap64 (t2831))] (World.setCell w2867 ⟨g2753, 0, none⟩ (.slice A2865 y2840.length n2866)) := (HS.out).set1 (l1 := [b8 g2563 g2565 a2573 a2574 a2575 a2576, b7 g2565 A2568 l2567.length n2570 a2572, r6 A2568 l2567.length n2570 l2567, r6 none 0 0 [], r18 A2865 y2840.length n2866 y2840, r6 none 0 0 [], r18 none 0 0 [], b20 g2578 none 0 0 none 0 0]) (l2 := [b11 g2861 (wrap64 (t2831))]) 0 (.slice A2865 y2840.length n2866)
                have HS_ : Aside0 (Sep FF w [b8 g2563 g2565 a2573 a2574 a2575 a2576, b7 g2565 A2568 l2567.length n2570 a2572, r6 A2568 l2567.length n2570 l2567, r6 none 0 0 [], r18 A2865 y2840.length n2866 y2840, r6 none 0 0 [], r18 none 0 0 [], b20 g2578 none 0 0 none 0 0, b20 g2753 A2865 y2840.length n2866 none 0 0, b11 g2861 (wrap64 (t2831))] w2870) := ⟨by rw [hst]; exact hq0⟩
                clear hq0
                clear HS hst
                have HS := HS_
                clear HS_
                refine hK.out _ _ ?_
                clear hK K
                refine done_ (by kernel_rfl) ?_
                replace HS : Aside0 (Sep FF w [b8 g2563 g2565 a2573 a2574 a2575 a2576, b7 g2565 A2568 l2567.length n2570 a2572, r6 A2568 l2567.length n2570 l2567, r6 none 0 0 [], r18 A2865 y2840.length n2866 y2840, r6 none 0 0 [], r18 none 0 0 [], b20 g2578 none 0 0 none 0 0, b20 g2753 A2865 y2840.length n2866 none 0 0] w2870) := ⟨HS.out.sub (.cons_cons _ (.cons_cons _ (.cons_cons _ (.cons_cons _ (.cons_cons _ (.cons_cons _ (.cons_cons _ (.cons_cons _ (.cons_cons _ (.cons _ .slnil))))))))))⟩
                go_wp2_with fail
                go_roundg k2849
                case measure => exact Nat.lt_succ_self _
                case rel => exact ⟨(wrap64 (x2850 + 1)), (y2840), (A2865), (y2840.length), (n2866), (by first | rfl | (simp [IntKind.wrap_u32]; done)), Aside0.mk AL2847.out, ⟨((((((((((HS.out).front 8 (by simp)).front 8 (by simp)).front 8 (by simp)).front 8 (by simp)).front 6 (by simp)).front 6 (by simp)).front 6 (by simp)).front 8 (by simp)).front 8 (by simp)).keep (l := [r6 none 0 0 [], r18 A2865 y2840.length n2866 y2840, b8 g2563 g2565 a2573 a2574 a2575 a2576, b7 g2565 A2568 l2567.length n2570 a2572, r6 A2568 l2567.length n2570 l2567, r6 none 0 0 [], r18 none 0 0 [], b20 g2578 none 0 0 none 0 0, b20 g2753 A2865 y2840.length n2866 none 0 0]) (rest := [])⟩⟩
              · replace AL2847 := if_no c2864 AL2847
                have c2864b0 : decide (x2851.length < 17592186044416) = false := decide_eq_false c2864
                clear c2864
                exact (none_no AL2847).elim
            · replace AL2847 := if_no c2856 AL2847
              have c2856b0 : decide (x2850 < (wrap64 (t2739))) = false := decide_eq_false c2856
              clear c2856
              have ho := some_eq AL2847
              subst ho
              clear AL2847
              go_wp2_with fail
              obtain ⟨o2897, AL2898, H⟩ := bind_some H
              go_loopg [69] k (fun kq v69 wc => ∃ (x2901 : Int) (x2902 : List Int) (A2903 : Option Addr) (m2904 : Nat) (n2905 : Nat), v69 = .int .i64 x2901 ∧ Aside0 (obj_See.lo1 kq l2567 a2572 a2573 a2574 a2575 a2576 a2577 t2739 t2742 x2901 x2902 = some o2897) ∧ Aside0 (Sep FF w [r6 A2903 m2904 n2905 x2902, r18 A2852 x2851.length n2854 x2851, b8 g2563 g2565 a2573 a2574 a2575 a2576, b7 g2565 A2568 l2567.length n2570 a2572, r6 A2568 l2567.length n2570 l2567, r6 none 0 0 [], r18 none 0 0 [], b20 g2578 none 0 0 none 0 0, b20 g2753 A2852 x2851.length n2854 A2903 m2904 n2905] wc))
              case atStart => exact ⟨(0), (([] : List Int)), (none), (0), (0), (by first | rfl | (simp [IntKind.wrap_u32]; done)), AL2898, ⟨HS.out⟩⟩
              case round =>
                clear AL2898 HS
                obtain ⟨x2901, x2902, A2903, m2904, n2905, rfl, AL2898, HS⟩ := hrel
                obtain ⟨w2899, rfl⟩ : ∃ x : World, x = wr := ⟨_, rfl⟩
                obtain rfl := (row_len (HS.out.at0)).symm
                cases gk with
                | zero => exact absurd AL2898.out (by simp [obj_See.lo1])
                | succ k2900 =>
                  have AL0 := AL2898.out
                  rw [obj_See.lo1] at AL0
                  clear AL2898
                  have AL2898 := Aside0.mk AL0
                  clear AL0
                  by_cases c2907 : x2901 < (wrap64 (t2742))
                  · replace AL2898 := if_yes c2907 AL2898
                    have c2907b0 : decide (x2901 < (wrap64 (t2742))) = true := decide_eq_true c2907
                    clear c2907
                    go_wp2_with fail
                    refine start_ (n := 15) (S := (fun w' => w'.cell? ⟨g2753, 1, none⟩ = some (.slice A2903 x2902.length n2905))) (ds := [14]) #[false, false, false, false, false, false, false, false, false, false, false, false, false, false, false] (by kernel_rfl) rfl rfl (blk_cellv ((HS.out.drew).at8) 1 rfl) (fun hHeld => ?_)
                    have HS_ := Aside0.mk HS.out.drew
                    clear HS
                    generalize World.drew _ = w2909 at HS_ hHeld ⊢
                    have HS := HS_
                    clear HS_
                    refine pure_ (i := 0) (N := some 72) (v := ?_) (a' := ?_) #[true, false, false, false, false, false, false, false, false, false, false, false, false, false, false] rfl rfl (by kernel_rfl) (fun _ _ _ h => h) (Or.inl ⟨by rfl, ?_⟩) ?_ ?_
                    rotate_left
                    · intro w'
                      go_simp
                      with_reducible rfl
                    rotate_left
                    · simp only [Act.put, List.setIfInBounds_toArray, List.set_cons_zero, List.set_cons_succ, i64_w, i32_w]
                      rfl
                    refine pure_ (i := 2) (N := some 74) (v := ?_) (a' := ?_) #[true, false, true, false, false, false, false, false, false, false, false, false, false, false, false] rfl rfl (by kernel_rfl) (fun _ _ _ h => h) (Or.inl ⟨by rfl, ?_⟩) ?_ ?_
                    rotate_left
                    · intro w'
                      go_simp
                      with_reducible rfl
                    rotate_left
                    · simp only [Act.put, List.setIfInBounds_toArray, List.set_cons_zero, List.set_cons_succ, i64_w, i32_w]
                      rfl
                    refine pure_ (i := 3) (N := some 75) (v := ?_) (a' := ?_) #[true, false, true, true, false, false, false, false, false, false, false, false, false, false, false] rfl rfl (by kernel_rfl) (fun _ _ _ h => h) (Or.inl ⟨by rfl, ?_⟩) ?_ ?_
                    rotate_left
                    · intro w'
                      go_simp
                      with_reducible rfl
                    rotate_left
                    · simp only [Act.put, List.setIfInBounds_toArray, List.set_cons_zero, List.set_cons_succ, i64_w, i32_w]
                      rfl
                    refine pure_ (i := 4) (N := some 76) (v := ?_) (a' := ?_) #[true, false, true, true, true, false, false, false, false, false, false, false, false, false, false] rfl rfl (by kernel_rfl) (fun _ _ _ h => h) (Or.inl ⟨by rfl, ?_⟩) ?_ ?_
                    rotate_left
                    · intro w'
                      go_simp
                      with_reducible rfl
                    rotate_left
                    · simp only [Act.put, List.setIfInBounds_toArray, List.set_cons_zero, List.set_cons_succ, i64_w, i32_w]
                      rfl
                    refine pure_ (i := 5) (N := some 77) (v := ?_) (a' := ?_) #[true, false, true, true, true, true, false, false, false, false, false, false, false, false, false] rfl rfl (by kernel_rfl) (fun _ _ _ h => h) (Or.inl ⟨by rfl, ?_⟩) ?_ ?_
                    rotate_left
                    · intro w'
                      go_simp
                      with_reducible rfl
                    rotate_left
                    · simp only [Act.put, List.setIfInBounds_toArray, List.set_cons_zero, List.set_cons_succ, i64_w, i32_w]
                      rfl
                    refine pure_ (i := 6) (N := some 78) (v := ?_) (a' := ?_) #[true, false, true, true, true, true, true, false, false, false, false, false, false, false, false] rfl rfl (by kernel_rfl) (fun _ _ _ h => h) (Or.inl ⟨by rfl, ?_⟩) ?_ ?_
                    rotate_left
                    · intro w'
                      go_simp
                      with_reducible rfl
                    rotate_left
                    · simp only [Act.put, List.setIfInBounds_toArray, List.set_cons_zero, List.set_cons_succ, i64_w, i32_w]
                      rfl
                    refine pure_ (i := 7) (N := some 79) (v := ?_) (a' := ?_) #[true, false, true, true, true, true, true, true, false, false, false, false, false, false, false] rfl rfl (by kernel_rfl) (fun _ _ _ h => h) (Or.inl ⟨by rfl, ?_⟩) ?_ ?_
                    rotate_left
                    · intro w'
                      go_simp
                      with_reducible rfl
                    rotate_left
                    · simp only [Act.put, List.setIfInBounds_toArray, List.set_cons_zero, List.set_cons_succ, i64_w, i32_w]
                      rfl
                    refine pure_ (i := 8) (N := some 80) (v := ?_) (a' := ?_) #[true, false, true, true, true, true, true, true, true, false, false, false, false, false, false] rfl rfl (by kernel_rfl) (fun _ _ _ h => h) (Or.inl ⟨by rfl, ?_⟩) ?_ ?_
                    rotate_left
                    · intro w'
                      go_simp
                      with_reducible rfl
                    rotate_left
                    · simp only [Act.put, List.setIfInBounds_toArray, List.set_cons_zero, List.set_cons_succ, i64_w, i32_w]
                      rfl
                    refine pure_ (i := 9) (N := some 81) (v := ?_) (a' := ?_) #[true, false, true, true, true, true, true, true, true, true, false, false, false, false, false] rfl rfl (by kernel_rfl) (fun _ _ _ h => h) (Or.inl ⟨by rfl, ?_⟩) ?_ ?_
                    rotate_left
                    · intro w'
                      go_simp
                      with_reducible rfl
                    rotate_left
                    · simp only [Act.put, List.setIfInBounds_toArray, List.set_cons_zero, List.set_cons_succ, i64_w, i32_w]
                      rfl
                    refine take_ (i := 1) (N := some 73) (v := ?_) (a' := ?_) #[true, true, true, true, true, true, true, true, true, true, false, false, false, false, false] rfl rfl (by kernel_rfl) (fun _ _ _ h => h) (Or.inl ⟨by rfl, ?_⟩) hHeld ?_ ?_
                    rotate_left
                    · rintro w' hS'
                      have s0 := hS'
                      go_simp
                      with_reducible rfl
                    rotate_left
                    · simp only [Act.put, List.setIfInBounds_toArray, List.set_cons_zero, List.set_cons_succ, i64_w, i32_w]
                      rfl
                    refine one_ (i := 10) (N := some 82) #[true, true, true, true, true, true, true, true, true, true, true, false, false, false, false] rfl rfl (by kernel_rfl) (by decide) (fun K hK => ?_)
                    replace HS : Aside0 (Sep FF w [r6 A2568 l2567.length n2570 l2567, r6 A2903 x2902.length n2905 x2902, r18 A2852 x2851.length n2854 x2851, b8 g2563 g2565 a2573 a2574 a2575 a2576, b7 g2565 A2568 l2567.length n2570 a2572, r6 none 0 0 [], r18 none 0 0 [], b20 g2578 none 0 0 none 0 0, b20 g2753 A2852 x2851.length n2854 A2903 x2902.length n2905] w2909) := ⟨HS.out.front 4 (by simp)⟩
                    replace HS : Aside0 (Sep FF w [b7 g2565 A2568 l2567.length n2570 a2572, r6 A2568 l2567.length n2570 l2567, r6 A2903 x2902.length n2905 x2902, r18 A2852 x2851.length n2854 x2851, b8 g2563 g2565 a2573 a2574 a2575 a2576, r6 none 0 0 [], r18 none 0 0 [], b20 g2578 none 0 0 none 0 0, b20 g2753 A2852 x2851.length n2854 A2903 x2902.length n2905] w2909) := ⟨HS.out.front 4 (by simp)⟩
                    replace HS : Aside0 (Sep FF w [b8 g2563 g2565 a2573 a2574 a2575 a2576, b7 g2565 A2568 l2567.length n2570 a2572, r6 A2568 l2567.length n2570 l2567, r6 A2903 x2902.length n2905 x2902, r18 A2852 x2851.length n2854 x2851, r6 none 0 0 [], r18 none 0 0 [], b20 g2578 none 0 0 none 0 0, b20 g2753 A2852 x2851.length n2854 A2903 x2902.length n2905] w2909) := ⟨HS.out.front 4 (by simp)⟩
                    obtain ⟨t2882, HA2910, AL2898⟩ := bind_some AL2898
                    refine goes_ Tryd.func102 (by kernel_rfl) rfl #[.pointer (some ⟨g2563, 0, none⟩), .int .i64 a2577, .int .i64 (wrap64 ((wrap64 (t2739)) + (wrap64 (t2742)))), .int .i64 (wrap64 ((wrap64 (t2739)) + x2901))] (by rfl) rfl rfl (by (try simp only [List.map_toArray, List.map_cons, List.map_nil]); first | done | rfl) ?_
                    refine (obj_look.calls _ l2567 a2572 a2573 a2574 a2575 a2576 a2577 (wrap64 ((wrap64 (t2739)) + (wrap64 (t2742)))) (wrap64 ((wrap64 (t2739)) + x2901)) g2563 g2565 A2568 l2567.length n2570 t2882 _ ⟨HGl0.out.pass HS.out⟩ ⟨HS.out.begin⟩ HA2910).mono ?_
                    rintro e_ w2911 ⟨rfl, hS⟩
                    replace HS : Aside0 (Sep FF w [b8 g2563 g2565 a2573 a2574 a2575 a2576, b7 g2565 A2568 l2567.length n2570 a2572, r6 A2568 l2567.length n2570 l2567, r6 A2903 x2902.length n2905 x2902, r18 A2852 x2851.length n2854 x2851, r6 none 0 0 [], r18 none 0 0 [], b20 g2578 none 0 0 none 0 0, b20 g2753 A2852 x2851.length n2854 A2903 x2902.length n2905] w2911) := ⟨HS.out.call hS⟩
                    clear hS
                    refine ⟨_, rfl, ?_⟩
                    refine hK.out _ _ (blk_cellv (HS.out.at8) 1 rfl) (fun hHeld => ?_)
                    clear hK K
                    refine norm_ (a' := ?_) ?_ ?_
                    rotate_left
                    · show Act.put _ (some 82) _ = _
                      simp only [Act.put, List.setIfInBounds_toArray, List.set_cons_zero, List.set_cons_succ, i64_w, i32_w]
                      rfl
                    refine one_ (i := 11) (N := some 83) #[true, true, true, true, true, true, true, true, true, true, true, true, false, false, false] rfl rfl (by kernel_rfl) (by decide) (fun K hK => ?_)
                    refine slice_step (n := 1) (by rfl) (N := 83) rfl (cs := #[.int .u32 t2882]) (t := 33) ?hr ?_
                    case hr => first | (go_simp; done) | (go_simp; rfl)
                    intro g2912 hg w2913 hbox hb
                    replace HS : Aside0 (Sep FF w [b8 g2563 g2565 a2573 a2574 a2575 a2576, b7 g2565 A2568 l2567.length n2570 a2572, r6 A2568 l2567.length n2570 l2567, r6 A2903 x2902.length n2905 x2902, r18 A2852 x2851.length n2854 x2851, r6 none 0 0 [], r18 none 0 0 [], b20 g2578 none 0 0 none 0 0, b20 g2753 A2852 x2851.length n2854 A2903 x2902.length n2905, b14 g2912 t2882] w2913) := ⟨HS.out.box hg hbox hb⟩
                    clear hg hbox hb
                    refine hK.out _ _ (blk_cellv (HS.out.at8) 1 rfl) (fun hHeld => ?_)
                    clear hK K
                    refine norm_ (a' := ?_) ?_ ?_
                    rotate_left
                    · show Act.put _ (some 83) _ = _
                      simp only [Act.put, List.setIfInBounds_toArray, List.set_cons_zero, List.set_cons_succ, i64_w, i32_w]
                      rfl
                    refine one_ (i := 12) (N := some 84) #[true, true, true, true, true, true, true, true, true, true, true, true, true, false, false] rfl rfl (by kernel_rfl) (by decide) (fun K hK => ?_)
                    by_cases c2915 : x2902.length < 35184372088832
                    · replace AL2898 := if_yes c2915 AL2898
                      have c2915b0 : decide (x2902.length < 35184372088832) = true := decide_eq_true c2915
                      clear c2915
                      obtain ⟨y2891, HA2919, AL2898⟩ := bind_some AL2898
                      refine append_step (l1 := [b8 g2563 g2565 a2573 a2574 a2575 a2576, b7 g2565 A2568 l2567.length n2570 a2572, r6 A2568 l2567.length n2570 l2567]) (l2 := [r18 A2852 x2851.length n2854 x2851, r6 none 0 0 [], r18 none 0 0 [], b20 g2578 none 0 0 none 0 0, b20 g2753 A2852 x2851.length n2854 A2903 x2902.length n2905, b14 g2912 t2882]) (by rfl) (.tmp 73) (.tmp 83) 69 33 (.int .u32 0) 4 rfl Tryd.underlying69 (by kernel_rfl) rfl (by decide) (Value.int .u32) (fun _ => rfl) (.slice A2903 x2902.length n2905) (x2902 : List Int) [t2882] ⟨g2912, 0, none⟩ 1 rfl rfl (blk_news (xs := [t2882]) (HS.out.nth 9 rfl)) HS.out (by have := of_decide_eq_true c2915b0; simp only [List.length_cons, List.length_nil]; omega) HA2919 ?_
                      intro A2916 n2917 w2918 HS1
                      replace HS : Aside0 (Sep FF w [b8 g2563 g2565 a2573 a2574 a2575 a2576, b7 g2565 A2568 l2567.length n2570 a2572, r6 A2568 l2567.length n2570 l2567, r6 A2916 y2891.length n2917 y2891, r18 A2852 x2851.length n2854 x2851, r6 none 0 0 [], r18 none 0 0 [], b20 g2578 none 0 0 none 0 0, b20 g2753 A2852 x2851.length n2854 A2903 x2902.length n2905, b14 g2912 t2882] w2918) := ⟨HS1⟩
                      clear HS1
                      refine hK.out _ _ (blk_cellv (HS.out.at8) 1 rfl) (fun hHeld => ?_)
                      clear hK K
                      refine norm_ (a' := ?_) ?_ ?_
                      rotate_left
                      · show Act.put _ (some 84) _ = _
                        simp only [Act.put, List.setIfInBounds_toArray, List.set_cons_zero, List.set_cons_succ, i64_w, i32_w]
                        rfl
                      refine pure_ (i := 13) (N := some 85) (v := ?_) (a' := ?_) #[true, true, true, true, true, true, true, true, true, true, true, true, true, true, false] rfl rfl (by kernel_rfl) (fun _ _ _ h => h) (Or.inl ⟨by rfl, ?_⟩) ?_ ?_
                      rotate_left
                      · intro w'
                        go_simp
                        with_reducible rfl
                      rotate_left
                      · simp only [Act.put, List.setIfInBounds_toArray, List.set_cons_zero, List.set_cons_succ, i64_w, i32_w]
                        rfl
                      refine last_ (i := 14) (N := none) #[true, true, true, true, true, true, true, true, true, true, true, true, true, true, true] rfl rfl (by kernel_rfl) (by decide) (fun K hK => ?_)
                      have hc2922 := blk_cellv (v := .slice A2903 x2902.length n2905) (HS.out.at8) 1 rfl
                      have hz2923 := blk_fz (HS.out.at8) 1
                      refine store_step (w1 := (World.setCell w2918 ⟨g2753, 1, none⟩ (.slice A2916 y2891.length n2917))) (by rfl) rfl ?hr ?_
                      case hr => first | (go_simp; done) | (go_simp; rfl)
                      clear hc2922 hz2923
                      intro w2921 hst
                      have hq0 : Sep FF w [b8 g2563 g2565 a2573 a2574 a2575 a2576, b7 g2565 A2568 l2567.length n2570 a2572, r6 A2568 l2567.length n2570 l2567, r6 A2916 y2891.length n2917 y2891, r18 A2852 x2851.length n2854 x2851, r6 none 0 0 [], r18 none 0 0 [], b20 g2578 none 0 0 none 0 0, b20 g2753 A2852 x2851.length n2854 A2916 y2891.length n2917, b14 g2912 t2882] (World.setCell w2918 ⟨g2753, 1, none⟩ (.slice A2916 y2891.length n2917)) := (HS.out).set1 (l1 := [b8 g2563 g2565 a2573 a2574 a2575 a2576, b7 g2565 A2568 l2567.length n2570 a2572, r6 A2568 l2567.length n2570 l2567, r6 A2916 y2891.length n2917 y2891, r18 A2852 x2851.length n2854 x2851, r6 none 0 0 [], r18 none 0 0 [], b20 g2578 none 0 0 none 0 0]) (l2 := [b14 g2912 t2882]) 1 (.slice A2916 y2891.length n2917)
                      have HS_ : Aside0 (Sep FF w [b8 g2563 g2565 a2573 a2574 a2575 a2576, b7 g2565 A2568 l2567.length n2570 a2572, r6 A2568 l2567.length n2570 l2567, r6 A2916 y2891.length n2917 y2891, r18 A2852 x2851.length n2854 x2851, r6 none 0 0 [], r18 none 0 0 [], b20 g2578 none 0 0 none 0 0, b20 g2753 A2852 x2851.length n2854 A2916 y2891.length n2917, b14 g2912 t2882] w2921) := ⟨by rw [hst]; exact hq0⟩
                      clear hq0
                      clear HS hst
                      have HS := HS_
                      clear HS_
                      refine hK.out _ _ ?_
                      clear hK K
                      refine done_ (by kernel_rfl) ?_
                      replace HS : Aside0 (Sep FF w [b8 g2563 g2565 a2573 a2574 a2575 a2576, b7 g2565 A2568 l2567.length n2570 a2572, r6 A2568 l2567.length n2570 l2567, r6 A2916 y2891.length n2917 y2891, r18 A2852 x2851.length n2854 x2851, r6 none 0 0 [], r18 none 0 0 [], b20 g2578 none 0 0 none 0 0, b20 g2753 A2852 x2851.length n2854 A2916 y2891.length n2917] w2921) := ⟨HS.out.sub (.cons_cons _ (.cons_cons _ (.cons_cons _ (.cons_cons _ (.cons_cons _ (.cons_cons _ (.cons_cons _ (.cons_cons _ (.cons_cons _ (.cons _ .slnil))))))))))⟩
                      go_wp2_with fail
                      go_roundg k2900
                      case measure => exact Nat.lt_succ_self _
                      case rel => exact ⟨(wrap64 (x2901 + 1)), (y2891), (A2916), (y2891.length), (n2917), (by first | rfl | (simp [IntKind.wrap_u32]; done)), Aside0.mk AL2898.out, ⟨((((((((((HS.out).front 8 (by simp)).front 8 (by simp)).front 8 (by simp)).front 8 (by simp)).front 6 (by simp)).front 6 (by simp)).front 6 (by simp)).front 8 (by simp)).front 8 (by simp)).keep (l := [r6 A2916 y2891.length n2917 y2891, r18 A2852 x2851.length n2854 x2851, b8 g2563 g2565 a2573 a2574 a2575 a2576, b7 g2565 A2568 l2567.length n2570 a2572, r6 A2568 l2567.length n2570 l2567, r6 none 0 0 [], r18 none 0 0 [], b20 g2578 none 0 0 none 0 0, b20 g2753 A2852 x2851.length n2854 A2916 y2891.length n2917]) (rest := [])⟩⟩
                    · replace AL2898 := if_no c2915 AL2898
                      have c2915b0 : decide (x2902.length < 35184372088832) = false := decide_eq_false c2915
                      clear c2915
                      exact (none_no AL2898).elim
                  · replace AL2898 := if_no c2907 AL2898
                    have c2907b0 : decide (x2901 < (wrap64 (t2742))) = false := decide_eq_false c2907
                    clear c2907
                    have ho := some_eq AL2898
                    subst ho
                    clear AL2898
                    have hc2924 : w2899.cell? ⟨g2753, 0, none⟩ = some (.slice A2852 x2851.length n2854) := blk_cellv (HS.out.at8) 0 rfl
                    have hc2925 : w2899.cell? ⟨g2753, 1, none⟩ = some (.slice A2903 x2902.length n2905) := blk_cellv (HS.out.at8) 1 rfl
                    have hc2926 : w2899.cell? ⟨g2578, 0, none⟩ = some (.slice none 0 0) := blk_cellv (HS.out.at7) 0 rfl
                    have hz2927 : w2899.frozen? ⟨g2578, 0, none⟩ = false := blk_fz (HS.out.at7) 0
                    have hc2928 : w2899.cell? ⟨g2578, 1, none⟩ = some (.slice none 0 0) := blk_cellv (HS.out.at7) 1 rfl
                    have hz2929 : w2899.frozen? ⟨g2578, 1, none⟩ = false := blk_fz (HS.out.at7) 1
                    go_wp2_with (first | ((with_reducible refine gate_store (t := 71) (p := 4) rfl ?_); refine store_event (w1 := (World.setCell (World.setCell w2899 ⟨g2578, 0, none⟩ (.slice A2852 x2851.length n2854)) ⟨g2578, 1, none⟩ (.slice A2903 x2902.length n2905))) rfl (t := 71) (p := 4) rfl rfl ?hr ?_; (case hr => first | (go_simp; done) | (go_simp; rfl)); intro w2930 hst; clear hc2924 hc2925 hc2926 hz2927 hc2928 hz2929; have hq0 : Sep FF w [r6 A2903 x2902.length n2905 x2902, r18 A2852 x2851.length n2854 x2851, b8 g2563 g2565 a2573 a2574 a2575 a2576, b7 g2565 A2568 l2567.length n2570 a2572, r6 A2568 l2567.length n2570 l2567, r6 none 0 0 [], r18 none 0 0 [], b20 g2578 A2852 x2851.length n2854 none 0 0, b20 g2753 A2852 x2851.length n2854 A2903 x2902.length n2905] (World.setCell w2899 ⟨g2578, 0, none⟩ (.slice A2852 x2851.length n2854)) := (HS.out).set1 (l1 := [r6 A2903 x2902.length n2905 x2902, r18 A2852 x2851.length n2854 x2851, b8 g2563 g2565 a2573 a2574 a2575 a2576, b7 g2565 A2568 l2567.length n2570 a2572, r6 A2568 l2567.length n2570 l2567, r6 none 0 0 [], r18 none 0 0 []]) (l2 := [b20 g2753 A2852 x2851.length n2854 A2903 x2902.length n2905]) 0 (.slice A2852 x2851.length n2854); have hq1 : Sep FF w [r6 A2903 x2902.length n2905 x2902, r18 A2852 x2851.length n2854 x2851, b8 g2563 g2565 a2573 a2574 a2575 a2576, b7 g2565 A2568 l2567.length n2570 a2572, r6 A2568 l2567.length n2570 l2567, r6 none 0 0 [], r18 none 0 0 [], b20 g2578 A2852 x2851.length n2854 A2903 x2902.length n2905, b20 g2753 A2852 x2851.length n2854 A2903 x2902.length n2905] (World.setCell (World.setCell w2899 ⟨g2578, 0, none⟩ (.slice A2852 x2851.length n2854)) ⟨g2578, 1, none⟩ (.slice A2903 x2902.length n2905)) := (hq0).set1 (l1 := [r6 A2903 x2902.length n2905 x2902, r18 A2852 x2851.length n2854 x2851, b8 g2563 g2565 a2573 a2574 a2575 a2576, b7 g2565 A2568 l2567.length n2570 a2572, r6 A2568 l2567.length n2570 l2567, r6 none 0 0 [], r18 none 0 0 []]) (l2 := [b20 g2753 A2852 x2851.length n2854 A2903 x2902.length n2905]) 1 (.slice A2903 x2902.length n2905); replace HS : Aside0 (Sep FF w [r6 A2903 x2902.length n2905 x2902, r18 A2852 x2851.length n2854 x2851, b8 g2563 g2565 a2573 a2574 a2575 a2576, b7 g2565 A2568 l2567.length n2570 a2572, r6 A2568 l2567.length n2570 l2567, r6 none 0 0 [], r18 none 0 0 [], b20 g2578 A2852 x2851.length n2854 A2903 x2902.length n2905, b20 g2753 A2852 x2851.length n2854 A2903 x2902.length n2905] w2930) := ⟨by rw [hst]; exact hq1⟩; clear hq0 hq1; clear hst; replace HS : Aside0 (Sep FF w [r6 A2903 x2902.length n2905 x2902, r18 A2852 x2851.length n2854 x2851, b8 g2563 g2565 a2573 a2574 a2575 a2576, b7 g2565 A2568 l2567.length n2570 a2572, r6 A2568 l2567.length n2570 l2567, b20 g2578 A2852 x2851.length n2854 A2903 x2902.length n2905] w2930) := ⟨HS.out.sub (.cons_cons _ (.cons_cons _ (.cons_cons _ (.cons_cons _ (.cons_cons _ (.cons _ (.cons _ (.cons_cons _ (.cons _ .slnil)))))))))⟩))
                    have hc2931 : w2930.cell? ⟨g2578, 0, none⟩ = some (.slice A2852 x2851.length n2854) := blk_cellv (HS.out.at5) 0 rfl
                    have hc2932 : w2930.cell? ⟨g2578, 1, none⟩ = some (.slice A2903 x2902.length n2905) := blk_cellv (HS.out.at5) 1 rfl
                    refine bodyPost_ret (v := .tuple #[.agg #[.slice A2852 x2851.length n2854, .slice A2903 x2902.length n2905], .bool true]) (by simp [results, Tryd.results36, go_sem, hc2931, hc2932]) rfl ?_
                    rw [← some_eq H]
                    exact ⟨A2852, x2851.length, n2854, A2903, x2902.length, n2905, (by first | rfl | (simp [IntKind.wrap_u32]; done)), (((((HS.out).front 1 (by simp)).front 4 (by simp)).front 4 (by simp)).front 4 (by simp)).keep (l := [b8 g2563 g2565 a2573 a2574 a2575 a2576, b7 g2565 A2568 l2567.length n2570 a2572, r6 A2568 l2567.length n2570 l2567, r18 A2852 x2851.length n2854 x2851, r6 A2903 x2902.length n2905 x2902]) (rest := [b20 g2578 A2852 x2851.length n2854 A2903 x2902.length n2905])⟩
      · replace H := if_no c2752 H
        have c2752b0 : (t2749.2 == 0) = false := beq_eq_false_iff_ne.mpr c2752
        have c2752b1 : (t2749.2 != 0) = true := bne_iff_ne.mpr c2752
        clear c2752
        have hc3039 : w2751.cell? ⟨g2578, 0, none⟩ = some (.slice none 0 0) := blk_cellv (HS.out.at5) 0 rfl
        have hz3040 : w2751.frozen? ⟨g2578, 0, none⟩ = false := blk_fz (HS.out.at5) 0
        have hc3041 : w2751.cell? ⟨g2578, 1, none⟩ = some (.slice none 0 0) := blk_cellv (HS.out.at5) 1 rfl
        have hz3042 : w2751.frozen? ⟨g2578, 1, none⟩ = false := blk_fz (HS.out.at5) 1
        go_wp2_with (first | ((with_reducible refine gate_store (t := 71) (p := 4) rfl ?_); refine store_event (w1 := (World.setCell (World.setCell w2751 ⟨g2578, 0, none⟩ (.slice none 0 0)) ⟨g2578, 1, none⟩ (.slice none 0 0))) rfl (t := 71) (p := 4) rfl rfl ?hr ?_; (case hr => first | (go_simp; done) | (go_simp; rfl)); intro w3043 hst; clear hc3039 hz3040 hc3041 hz3042; have hq0 : Sep FF w [b8 g2563 g2565 a2573 a2574 a2575 a2576, b7 g2565 A2568 l2567.length n2570 a2572, r6 A2568 l2567.length n2570 l2567, r6 none 0 0 [], r18 none 0 0 [], b21 g2578 none 0 0] (World.setCell w2751 ⟨g2578, 0, none⟩ (.slice none 0 0)) := (HS.out).set1 (l1 := [b8 g2563 g2565 a2573 a2574 a2575 a2576, b7 g2565 A2568 l2567.length n2570 a2572, r6 A2568 l2567.length n2570 l2567, r6 none 0 0 [], r18 none 0 0 []]) (l2 := []) 0 (.slice none 0 0); have hq1 : Sep FF w [b8 g2563 g2565 a2573 a2574 a2575 a2576, b7 g2565 A2568 l2567.length n2570 a2572, r6 A2568 l2567.length n2570 l2567, r6 none 0 0 [], r18 none 0 0 [], b17 g2578] (World.setCell (World.setCell w2751 ⟨g2578, 0, none⟩ (.slice none 0 0)) ⟨g2578, 1, none⟩ (.slice none 0 0)) := (hq0).set1 (l1 := [b8 g2563 g2565 a2573 a2574 a2575 a2576, b7 g2565 A2568 l2567.length n2570 a2572, r6 A2568 l2567.length n2570 l2567, r6 none 0 0 [], r18 none 0 0 []]) (l2 := []) 1 (.slice none 0 0); replace HS : Aside0 (Sep FF w [b8 g2563 g2565 a2573 a2574 a2575 a2576, b7 g2565 A2568 l2567.length n2570 a2572, r6 A2568 l2567.length n2570 l2567, r6 none 0 0 [], r18 none 0 0 [], b17 g2578] w3043) := ⟨by rw [hst]; exact hq1⟩; clear hq0 hq1; clear hst; replace HS : Aside0 (Sep FF w [r18 none 0 0 [], b8 g2563 g2565 a2573 a2574 a2575 a2576, b7 g2565 A2568 l2567.length n2570 a2572, r6 A2568 l2567.length n2570 l2567, r6 none 0 0 [], r18 none 0 0 [], b19 g2578 none 0 0] w3043) := ⟨HS.out.nilrow 3 (Value.int .i64)⟩; replace HS : Aside0 (Sep FF w [r6 none 0 0 [], r18 none 0 0 [], b8 g2563 g2565 a2573 a2574 a2575 a2576, b7 g2565 A2568 l2567.length n2570 a2572, r6 A2568 l2567.length n2570 l2567, r6 none 0 0 [], r18 none 0 0 [], b20 g2578 none 0 0 none 0 0] w3043) := ⟨HS.out.nilrow 33 (Value.int .u32)⟩; replace HS : Aside0 (Sep FF w [r6 none 0 0 [], r18 none 0 0 [], b8 g2563 g2565 a2573 a2574 a2575 a2576, b7 g2565 A2568 l2567.length n2570 a2572, r6 A2568 l2567.length n2570 l2567, b20 g2578 none 0 0 none 0 0] w3043) := ⟨HS.out.sub (.cons_cons _ (.cons_cons _ (.cons_cons _ (.cons_cons _ (.cons_cons _ (.cons _ (.cons _ (.cons_cons _ .slnil))))))))⟩))
        have hc3048 : w3043.cell? ⟨g2578, 0, none⟩ = some (.slice none 0 0) := blk_cellv (HS.out.at5) 0 rfl
        have hc3049 : w3043.cell? ⟨g2578, 1, none⟩ = some (.slice none 0 0) := blk_cellv (HS.out.at5) 1 rfl
        refine bodyPost_ret (v := .tuple #[.agg #[.slice none 0 0, .slice none 0 0], .bool false]) (by simp [results, Tryd.results36, go_sem, hc3048, hc3049]) rfl ?_
        rw [← some_eq H]
        exact ⟨none, 0, 0, none, 0, 0, (by first | rfl | (simp [IntKind.wrap_u32]; done)), (((((HS.out).front 1 (by simp)).front 4 (by simp)).front 4 (by simp)).front 4 (by simp)).keep (l := [b8 g2563 g2565 a2573 a2574 a2575 a2576, b7 g2565 A2568 l2567.length n2570 a2572, r6 A2568 l2567.length n2570 l2567, r18 none 0 0 [], r6 none 0 0 []]) (rest := [b20 g2578 none 0 0 none 0 0])⟩
    · replace H := if_no c2738 H
      have c2738b0 : t2735 = false := by simpa using c2738
      have c2738b1 : (!t2735) = true := by rw [c2738b0]; rfl
      try rw [c2738b1]
      clear c2738
      have hc3060 : w2737.cell? ⟨g2578, 0, none⟩ = some (.slice none 0 0) := blk_cellv (HS.out.at5) 0 rfl
      have hz3061 : w2737.frozen? ⟨g2578, 0, none⟩ = false := blk_fz (HS.out.at5) 0
      have hc3062 : w2737.cell? ⟨g2578, 1, none⟩ = some (.slice none 0 0) := blk_cellv (HS.out.at5) 1 rfl
      have hz3063 : w2737.frozen? ⟨g2578, 1, none⟩ = false := blk_fz (HS.out.at5) 1
      go_wp2_with (first | ((with_reducible refine gate_store (t := 71) (p := 4) rfl ?_); refine store_event (w1 := (World.setCell (World.setCell w2737 ⟨g2578, 0, none⟩ (.slice none 0 0)) ⟨g2578, 1, none⟩ (.slice none 0 0))) rfl (t := 71) (p := 4) rfl rfl ?hr ?_; (case hr => first | (go_simp; done) | (go_simp; rfl)); intro w3064 hst; clear hc3060 hz3061 hc3062 hz3063; have hq0 : Sep FF w [b8 g2563 g2565 a2573 a2574 a2575 a2576, b7 g2565 A2568 l2567.length n2570 a2572, r6 A2568 l2567.length n2570 l2567, r6 none 0 0 [], r18 none 0 0 [], b21 g2578 none 0 0] (World.setCell w2737 ⟨g2578, 0, none⟩ (.slice none 0 0)) := (HS.out).set1 (l1 := [b8 g2563 g2565 a2573 a2574 a2575 a2576, b7 g2565 A2568 l2567.length n2570 a2572, r6 A2568 l2567.length n2570 l2567, r6 none 0 0 [], r18 none 0 0 []]) (l2 := []) 0 (.slice none 0 0); have hq1 : Sep FF w [b8 g2563 g2565 a2573 a2574 a2575 a2576, b7 g2565 A2568 l2567.length n2570 a2572, r6 A2568 l2567.length n2570 l2567, r6 none 0 0 [], r18 none 0 0 [], b17 g2578] (World.setCell (World.setCell w2737 ⟨g2578, 0, none⟩ (.slice none 0 0)) ⟨g2578, 1, none⟩ (.slice none 0 0)) := (hq0).set1 (l1 := [b8 g2563 g2565 a2573 a2574 a2575 a2576, b7 g2565 A2568 l2567.length n2570 a2572, r6 A2568 l2567.length n2570 l2567, r6 none 0 0 [], r18 none 0 0 []]) (l2 := []) 1 (.slice none 0 0); replace HS : Aside0 (Sep FF w [b8 g2563 g2565 a2573 a2574 a2575 a2576, b7 g2565 A2568 l2567.length n2570 a2572, r6 A2568 l2567.length n2570 l2567, r6 none 0 0 [], r18 none 0 0 [], b17 g2578] w3064) := ⟨by rw [hst]; exact hq1⟩; clear hq0 hq1; clear hst; replace HS : Aside0 (Sep FF w [r18 none 0 0 [], b8 g2563 g2565 a2573 a2574 a2575 a2576, b7 g2565 A2568 l2567.length n2570 a2572, r6 A2568 l2567.length n2570 l2567, r6 none 0 0 [], r18 none 0 0 [], b19 g2578 none 0 0] w3064) := ⟨HS.out.nilrow 3 (Value.int .i64)⟩; replace HS : Aside0 (Sep FF w [r6 none 0 0 [], r18 none 0 0 [], b8 g2563 g2565 a2573 a2574 a2575 a2576, b7 g2565 A2568 l2567.length n2570 a2572, r6 A2568 l2567.length n2570 l2567, r6 none 0 0 [], r18 none 0 0 [], b20 g2578 none 0 0 none 0 0] w3064) := ⟨HS.out.nilrow 33 (Value.int .u32)⟩; replace HS : Aside0 (Sep FF w [r6 none 0 0 [], r18 none 0 0 [], b8 g2563 g2565 a2573 a2574 a2575 a2576, b7 g2565 A2568 l2567.length n2570 a2572, r6 A2568 l2567.length n2570 l2567, b20 g2578 none 0 0 none 0 0] w3064) := ⟨HS.out.sub (.cons_cons _ (.cons_cons _ (.cons_cons _ (.cons_cons _ (.cons_cons _ (.cons _ (.cons _ (.cons_cons _ .slnil))))))))⟩))
      have hc3069 : w3064.cell? ⟨g2578, 0, none⟩ = some (.slice none 0 0) := blk_cellv (HS.out.at5) 0 rfl
      have hc3070 : w3064.cell? ⟨g2578, 1, none⟩ = some (.slice none 0 0) := blk_cellv (HS.out.at5) 1 rfl
      refine bodyPost_ret (v := .tuple #[.agg #[.slice none 0 0, .slice none 0 0], .bool false]) (by simp [results, Tryd.results36, go_sem, hc3069, hc3070]) rfl ?_
      rw [← some_eq H]
      exact ⟨none, 0, 0, none, 0, 0, (by first | rfl | (simp [IntKind.wrap_u32]; done)), (((((HS.out).front 1 (by simp)).front 4 (by simp)).front 4 (by simp)).front 4 (by simp)).keep (l := [b8 g2563 g2565 a2573 a2574 a2575 a2576, b7 g2565 A2568 l2567.length n2570 a2572, r6 A2568 l2567.length n2570 l2567, r18 none 0 0 [], r6 none 0 0 []]) (rest := [b20 g2578 none 0 0 none 0 0])⟩
  · replace H := if_no c2609 H
    have c2609b0 : t2606 = false := by simpa using c2609
    have c2609b1 : (!t2606) = true := by rw [c2609b0]; rfl
    try rw [c2609b1]
    clear c2609
    have hc3081 : w2608.cell? ⟨g2578, 0, none⟩ = some (.slice none 0 0) := blk_cellv (HS.out.at5) 0 rfl
    have hz3082 : w2608.frozen? ⟨g2578, 0, none⟩ = false := blk_fz (HS.out.at5) 0
    have hc3083 : w2608.cell? ⟨g2578, 1, none⟩ = some (.slice none 0 0) := blk_cellv (HS.out.at5) 1 rfl
    have hz3084 : w2608.frozen? ⟨g2578, 1, none⟩ = false := blk_fz (HS.out.at5) 1
    go_wp2_with (first | ((with_reducible refine gate_store (t := 71) (p := 4) rfl ?_); refine store_event (w1 := (World.setCell (World.setCell w2608 ⟨g2578, 0, none⟩ (.slice none 0 0)) ⟨g2578, 1, none⟩ (.slice none 0 0))) rfl (t := 71) (p := 4) rfl rfl ?hr ?_; (case hr => first | (go_simp; done) | (go_simp; rfl)); intro w3085 hst; clear hc3081 hz3082 hc3083 hz3084; have hq0 : Sep FF w [b8 g2563 g2565 a2573 a2574 a2575 a2576, b7 g2565 A2568 l2567.length n2570 a2572, r6 A2568 l2567.length n2570 l2567, r6 none 0 0 [], r18 none 0 0 [], b21 g2578 none 0 0] (World.setCell w2608 ⟨g2578, 0, none⟩ (.slice none 0 0)) := (HS.out).set1 (l1 := [b8 g2563 g2565 a2573 a2574 a2575 a2576, b7 g2565 A2568 l2567.length n2570 a2572, r6 A2568 l2567.length n2570 l2567, r6 none 0 0 [], r18 none 0 0 []]) (l2 := []) 0 (.slice none 0 0); have hq1 : Sep FF w [b8 g2563 g2565 a2573 a2574 a2575 a2576, b7 g2565 A2568 l2567.length n2570 a2572, r6 A2568 l2567.length n2570 l2567, r6 none 0 0 [], r18 none 0 0 [], b17 g2578] (World.setCell (World.setCell w2608 ⟨g2578, 0, none⟩ (.slice none 0 0)) ⟨g2578, 1, none⟩ (.slice none 0 0)) := (hq0).set1 (l1 := [b8 g2563 g2565 a2573 a2574 a2575 a2576, b7 g2565 A2568 l2567.length n2570 a2572, r6 A2568 l2567.length n2570 l2567, r6 none 0 0 [], r18 none 0 0 []]) (l2 := []) 1 (.slice none 0 0); replace HS : Aside0 (Sep FF w [b8 g2563 g2565 a2573 a2574 a2575 a2576, b7 g2565 A2568 l2567.length n2570 a2572, r6 A2568 l2567.length n2570 l2567, r6 none 0 0 [], r18 none 0 0 [], b17 g2578] w3085) := ⟨by rw [hst]; exact hq1⟩; clear hq0 hq1; clear hst; replace HS : Aside0 (Sep FF w [r18 none 0 0 [], b8 g2563 g2565 a2573 a2574 a2575 a2576, b7 g2565 A2568 l2567.length n2570 a2572, r6 A2568 l2567.length n2570 l2567, r6 none 0 0 [], r18 none 0 0 [], b19 g2578 none 0 0] w3085) := ⟨HS.out.nilrow 3 (Value.int .i64)⟩; replace HS : Aside0 (Sep FF w [r6 none 0 0 [], r18 none 0 0 [], b8 g2563 g2565 a2573 a2574 a2575 a2576, b7 g2565 A2568 l2567.length n2570 a2572, r6 A2568 l2567.length n2570 l2567, r6 none 0 0 [], r18 none 0 0 [], b20 g2578 none 0 0 none 0 0] w3085) := ⟨HS.out.nilrow 33 (Value.int .u32)⟩; replace HS : Aside0 (Sep FF w [r6 none 0 0 [], r18 none 0 0 [], b8 g2563 g2565 a2573 a2574 a2575 a2576, b7 g2565 A2568 l2567.length n2570 a2572, r6 A2568 l2567.length n2570 l2567, b20 g2578 none 0 0 none 0 0] w3085) := ⟨HS.out.sub (.cons_cons _ (.cons_cons _ (.cons_cons _ (.cons_cons _ (.cons_cons _ (.cons _ (.cons _ (.cons_cons _ .slnil))))))))⟩))
    have hc3090 : w3085.cell? ⟨g2578, 0, none⟩ = some (.slice none 0 0) := blk_cellv (HS.out.at5) 0 rfl
    have hc3091 : w3085.cell? ⟨g2578, 1, none⟩ = some (.slice none 0 0) := blk_cellv (HS.out.at5) 1 rfl
    refine bodyPost_ret (v := .tuple #[.agg #[.slice none 0 0, .slice none 0 0], .bool false]) (by simp [results, Tryd.results36, go_sem, hc3090, hc3091]) rfl ?_
    rw [← some_eq H]
    exact ⟨none, 0, 0, none, 0, 0, (by first | rfl | (simp [IntKind.wrap_u32]; done)), (((((HS.out).front 1 (by simp)).front 4 (by simp)).front 4 (by simp)).front 4 (by simp)).keep (l := [b8 g2563 g2565 a2573 a2574 a2575 a2576, b7 g2565 A2568 l2567.length n2570 a2572, r6 A2568 l2567.length n2570 l2567, r18 none 0 0 [], r6 none 0 0 []]) (rest := [b20 g2578 none 0 0 none 0 0])⟩

set_option maxHeartbeats 30000000 in
set_option maxRecDepth 100000 in
theorem obj_Is.calls (l3222 : List Int) (a3227 : Int) (a3228 : Int) (a3229 : Int) (a3230 : Int) (a3231 : Int) (a3232 : Int) (g3218 : Nat) (g3220 : Nat) (A3223 : Option Addr) (m3224 : Nat) (n3225 : Nat) (r : Bool × Int) (w : World)  (HGl0 : Aside0 (Gl 0 #[.int .i64 0, .int .i64 0, .int .i64 0, .int .i64 0, .int .i64 0] (fps [b8 g3218 g3220 a3228 a3229 a3230 a3231, b7 g3220 A3223 m3224 n3225 a3227, r6 A3223 m3224 n3225 l3222]) w)) (HS : Aside0 (Sep (fps [b8 g3218 g3220 a3228 a3229 a3230 a3231, b7 g3220 A3223 m3224 n3225 a3227, r6 A3223 m3224 n3225 l3222]) w [b8 g3218 g3220 a3228 a3229 a3230 a3231, b7 g3220 A3223 m3224 n3225 a3227, r6 A3223 m3224 n3225 l3222] w)) (H : Aside0 (obj_Is.f l3222 a3227 a3228 a3229 a3230 a3231 a3232 = some r)) :
    Calls Tryd.prog 48 #[.pointer (some ⟨g3218, 0, none⟩), .int .i64 a3232] w fun e w' => e = .returned (.bool r.1) ∧ Sep (fps [b8 g3218 g3220 a3228 a3229 a3230 a3231, b7 g3220 A3223 m3224 n3225 a3227, r6 A3223 m3224 n3225 l3222]) w [b8 g3218 g3220 a3228 a3229 a3230 a3231, b7 g3220 A3223 m3224 n3225 r.2, r6 A3223 m3224 n3225 l3222] w' := by
  generalize (fps [b8 g3218 g3220 a3228 a3229 a3230 a3231, b7 g3220 A3223 m3224 n3225 a3227, r6 A3223 m3224 n3225 l3222]) = FF at HS HGl0 ⊢
  obtain rfl := (row_len (HS.out.at2)).symm
  unfold obj_Is.f at H
  go_enter Tryd.func48, Tryd.ntmps48
  go_wp2_with fail
  obtain ⟨t3247, HA3248, H⟩ := bind_some H
  refine (obj_in.calls l3222 a3227 a3228 a3229 a3230 a3231 a3232 g3218 g3220 A3223 l3222.length n3225 t3247 _ ⟨HGl0.out.pass HS.out⟩ ⟨HS.out.begin⟩ HA3248).mono ?_
  rintro e_ w3249 ⟨rfl, hS⟩
  replace HS : Aside0 (Sep FF w [b8 g3218 g3220 a3228 a3229 a3230 a3231, b7 g3220 A3223 l3222.length n3225 a3227, r6 A3223 l3222.length n3225 l3222] w3249) := ⟨HS.out.call hS⟩
  clear hS
  by_cases c3250 : t3247 = true
  · replace H := if_yes c3250 H
    have c3250b0 : t3247 = true := c3250
    have c3250b1 : (!t3247) = false := by rw [c3250b0]; rfl
    clear c3250
    go_wp2_with fail
    obtain ⟨t3251, HA3252, H⟩ := bind_some H
    refine (ground_Ground_Word.calls l3222 a3227 a3228 a3229 a3230 a3231 (wrap64 (a3232 - 1)) 0 g3218 g3220 A3223 l3222.length n3225 t3251 _ ⟨HGl0.out.pass HS.out⟩ ⟨HS.out.begin⟩ HA3252).mono ?_
    rintro e_ w3253 ⟨rfl, hS⟩
    replace HS : Aside0 (Sep FF w [b8 g3218 g3220 a3228 a3229 a3230 a3231, b7 g3220 A3223 l3222.length n3225 t3251.2, r6 A3223 l3222.length n3225 l3222] w3253) := ⟨HS.out.call hS⟩
    clear hS
    go_wp2_with fail
    obtain ⟨t3254, HA3255, H⟩ := bind_some H
    refine (tag_Unpack.calls t3251.1 t3254 _ ⟨HGl0.out.pass (l := []) HS.out⟩ ⟨Sep.start _⟩ HA3255).mono ?_
    rintro e_ w3256 ⟨rfl, hS⟩
    replace HS : Aside0 (Sep FF w [b8 g3218 g3220 a3228 a3229 a3230 a3231, b7 g3220 A3223 l3222.length n3225 t3251.2, r6 A3223 l3222.length n3225 l3222] w3256) := ⟨HS.out.call hS⟩
    clear hS
    have fl3257 : ∀ w, (Instr.field 32 (.agg #[.int .i64 t3254.1, .int .i64 t3254.2.1, .int .i64 t3254.2.2.1, .int .i64 t3254.2.2.2.1, .int .i64 t3254.2.2.2.2.1, .int .i64 t3254.2.2.2.2.2.1, .int .i64 t3254.2.2.2.2.2.2]) 0).run Tryd.prog w = .ok (.int .i64 t3254.1) w := fun _ => by kernel_rfl
    go_wp2_with fail
    clear fl3257
    obtain ⟨t3258, HA3259, H⟩ := bind_some H
    refine (obj_isHead.calls t3254.1 t3258 _ ⟨HGl0.out.pass (l := []) HS.out⟩ ⟨Sep.start _⟩ HA3259).mono ?_
    rintro e_ w3260 ⟨rfl, hS⟩
    replace HS : Aside0 (Sep FF w [b8 g3218 g3220 a3228 a3229 a3230 a3231, b7 g3220 A3223 l3222.length n3225 t3251.2, r6 A3223 l3222.length n3225 l3222] w3260) := ⟨HS.out.call hS⟩
    clear hS
    go_wp2_with fail
    go_ret
    rw [← some_eq H]
    exact ⟨(by first | rfl | (simp [IntKind.wrap_u32]; done)), HS.out⟩
  · replace H := if_no c3250 H
    have c3250b0 : t3247 = false := by simpa using c3250
    have c3250b1 : (!t3247) = true := by rw [c3250b0]; rfl
    clear c3250
    go_wp2_with fail
    go_ret
    rw [← some_eq H]
    exact ⟨(by first | rfl | (simp [IntKind.wrap_u32]; done)), HS.out⟩

set_option maxHeartbeats 30000000 in
set_option maxRecDepth 100000 in
theorem obj_Lens.calls (l3206 : List Int) (a3211 : Int) (a3212 : Int) (a3213 : Int) (a3214 : Int) (a3215 : Int) (a3216 : Int) (g3202 : Nat) (g3204 : Nat) (A3207 : Option Addr) (m3208 : Nat) (n3209 : Nat) (r : Int × Int × Int × Int) (w : World)  (HGl0 : Aside0 (Gl 0 #[.int .i64 0, .int .i64 0, .int .i64 0, .int .i64 0, .int .i64 0] (fps [b8 g3202 g3204 a3212 a3213 a3214 a3215, b7 g3204 A3207 m3208 n3209 a3211, r6 A3207 m3208 n3209 l3206]) w)) (HS : Aside0 (Sep (fps [b8 g3202 g3204 a3212 a3213 a3214 a3215, b7 g3204 A3207 m3208 n3209 a3211, r6 A3207 m3208 n3209 l3206]) w [b8 g3202 g3204 a3212 a3213 a3214 a3215, b7 g3204 A3207 m3208 n3209 a3211, r6 A3207 m3208 n3209 l3206] w)) (H : Aside0 (obj_Lens.f l3206 a3211 a3212 a3213 a3214 a3215 a3216 = some r)) :
    Calls Tryd.prog 60 #[.pointer (some ⟨g3202, 0, none⟩), .int .i64 a3216] w fun e w' => e = .returned (.tuple #[.int .i64 r.1, .int .i64 r.2.1, .int .i64 r.2.2.1]) ∧ Sep (fps [b8 g3202 g3204 a3212 a3213 a3214 a3215, b7 g3204 A3207 m3208 n3209 a3211, r6 A3207 m3208 n3209 l3206]) w [b8 g3202 g3204 a3212 a3213 a3214 a3215, b7 g3204 A3207 m3208 n3209 r.2.2.2, r6 A3207 m3208 n3209 l3206] w' := by
  generalize (fps [b8 g3202 g3204 a3212 a3213 a3214 a3215, b7 g3204 A3207 m3208 n3209 a3211, r6 A3207 m3208 n3209 l3206]) = FF at HS HGl0 ⊢
  obtain rfl := (row_len (HS.out.at2)).symm
  unfold obj_Lens.f at H
  go_enter Tryd.func60, Tryd.ntmps60
  go_wp2_with fail
  obtain ⟨t3271, HA3272, H⟩ := bind_some H
  refine (obj_Is.calls l3206 a3211 a3212 a3213 a3214 a3215 a3216 g3202 g3204 A3207 l3206.length n3209 t3271 _ ⟨HGl0.out.pass HS.out⟩ ⟨HS.out.begin⟩ HA3272).mono ?_
  rintro e_ w3273 ⟨rfl, hS⟩
  replace HS : Aside0 (Sep FF w [b8 g3202 g3204 a3212 a3213 a3214 a3215, b7 g3204 A3207 l3206.length n3209 t3271.2, r6 A3207 l3206.length n3209 l3206] w3273) := ⟨HS.out.call hS⟩
  clear hS
  by_cases c3274 : t3271.1 = true
  · replace H := if_yes c3274 H
    have c3274b0 : t3271.1 = true := c3274
    have c3274b1 : (!t3271.1) = false := by rw [c3274b0]; rfl
    try rw [c3274b1]
    clear c3274
    go_wp2_with fail
    obtain ⟨t3275, HA3276, H⟩ := bind_some H
    refine (ground_Ground_Word.calls l3206 t3271.2 a3212 a3213 a3214 a3215 (wrap64 (a3216 - 1)) 1 g3202 g3204 A3207 l3206.length n3209 t3275 _ ⟨HGl0.out.pass HS.out⟩ ⟨HS.out.begin⟩ HA3276).mono ?_
    rintro e_ w3277 ⟨rfl, hS⟩
    replace HS : Aside0 (Sep FF w [b8 g3202 g3204 a3212 a3213 a3214 a3215, b7 g3204 A3207 l3206.length n3209 t3275.2, r6 A3207 l3206.length n3209 l3206] w3277) := ⟨HS.out.call hS⟩
    clear hS
    go_wp2_with fail
    obtain ⟨t3278, HA3279, H⟩ := bind_some H
    refine (ground_Ground_Word.calls l3206 t3275.2 a3212 a3213 a3214 a3215 (wrap64 (a3216 - 1)) 2 g3202 g3204 A3207 l3206.length n3209 t3278 _ ⟨HGl0.out.pass HS.out⟩ ⟨HS.out.begin⟩ HA3279).mono ?_
    rintro e_ w3280 ⟨rfl, hS⟩
    replace HS : Aside0 (Sep FF w [b8 g3202 g3204 a3212 a3213 a3214 a3215, b7 g3204 A3207 l3206.length n3209 t3278.2, r6 A3207 l3206.length n3209 l3206] w3280) := ⟨HS.out.call hS⟩
    clear hS
    go_wp2_with fail
    go_ret3
    rw [← some_eq H]
    exact ⟨(by first | rfl | (simp [IntKind.wrap_u32]; done)), HS.out⟩
  · replace H := if_no c3274 H
    have c3274b0 : t3271.1 = false := by simpa using c3274
    have c3274b1 : (!t3271.1) = true := by rw [c3274b0]; rfl
    try rw [c3274b1]
    clear c3274
    go_wp2_with fail
    go_ret3
    rw [← some_eq H]
    exact ⟨(by first | rfl | (simp [IntKind.wrap_u32]; done)), HS.out⟩

set_option maxHeartbeats 30000000 in
set_option maxRecDepth 100000 in
theorem obj_field.calls (k : Nat) (l3185 : List Int) (a3190 : Int) (a3191 : Int) (a3192 : Int) (a3193 : Int) (a3194 : Int) (a3195 : Int) (a3196 : Int) (a3197 : Bool) (g3181 : Nat) (g3183 : Nat) (A3186 : Option Addr) (m3187 : Nat) (n3188 : Nat) (r : Int × Int × Int × Int) (w : World)  (HGl0 : Aside0 (Gl 0 #[.int .i64 0, .int .i64 0, .int .i64 0, .int .i64 0, .int .i64 0] (fps [b8 g3181 g3183 a3191 a3192 a3193 a3194, b7 g3183 A3186 m3187 n3188 a3190, r6 A3186 m3187 n3188 l3185]) w)) (HS : Aside0 (Sep (fps [b8 g3181 g3183 a3191 a3192 a3193 a3194, b7 g3183 A3186 m3187 n3188 a3190, r6 A3186 m3187 n3188 l3185]) w [b8 g3181 g3183 a3191 a3192 a3193 a3194, b7 g3183 A3186 m3187 n3188 a3190, r6 A3186 m3187 n3188 l3185] w)) (H : Aside0 (obj_field.f k l3185 a3190 a3191 a3192 a3193 a3194 a3195 a3196 a3197 = some r)) :
    Calls Tryd.prog 116 #[.pointer (some ⟨g3181, 0, none⟩), .int .i64 a3195, .int .i64 a3196, .bool a3197] w fun e w' => e = .returned (.tuple #[.agg #[.int .i64 r.1, .int .i64 r.2.1], .int .i64 r.2.2.1]) ∧ Sep (fps [b8 g3181 g3183 a3191 a3192 a3193 a3194, b7 g3183 A3186 m3187 n3188 a3190, r6 A3186 m3187 n3188 l3185]) w [b8 g3181 g3183 a3191 a3192 a3193 a3194, b7 g3183 A3186 m3187 n3188 r.2.2.2, r6 A3186 m3187 n3188 l3185] w' := by
  generalize (fps [b8 g3181 g3183 a3191 a3192 a3193 a3194, b7 g3183 A3186 m3187 n3188 a3190, r6 A3186 m3187 n3188 l3185]) = FF at HS HGl0 ⊢
  obtain rfl := (row_len (HS.out.at2)).symm
  unfold obj_field.f at H
  go_enter Tryd.func116, Tryd.ntmps116
  go_wp2_with (first | ((with_reducible refine gate_dst (N := 8) rfl ?_); refine box_on ?hg (N := 8) ?hd (cs := #[.int .i64 0, .int .i64 0]) (t := 142) ?hr ?_; (case hd => rfl); (case hg => rfl); (case hr => first | (go_simp; done) | (go_simp; rfl)); intro g3294 hg w3295 hbox hb; replace HS : Aside0 (Sep FF w [b8 g3181 g3183 a3191 a3192 a3193 a3194, b7 g3183 A3186 l3185.length n3188 a3190, r6 A3186 l3185.length n3188 l3185, b22 g3294 0 0] w3295) := ⟨HS.out.box hg hbox hb⟩; clear hg hbox hb))
  obtain ⟨t3297, HA3298, H⟩ := bind_some H
  refine (obj_Lens.calls l3185 a3190 a3191 a3192 a3193 a3194 a3195 g3181 g3183 A3186 l3185.length n3188 t3297 _ ⟨HGl0.out.pass HS.out⟩ ⟨HS.out.begin⟩ HA3298).mono ?_
  rintro e_ w3299 ⟨rfl, hS⟩
  replace HS : Aside0 (Sep FF w [b8 g3181 g3183 a3191 a3192 a3193 a3194, b7 g3183 A3186 l3185.length n3188 t3297.2.2.2, r6 A3186 l3185.length n3188 l3185, b22 g3294 0 0] w3299) := ⟨HS.out.call hS⟩
  clear hS
  by_cases c3300 : t3297.2.2.1 = 0
  · replace H := if_yes c3300 H
    have c3300b0 : (t3297.2.2.1 == 0) = true := beq_iff_eq.mpr c3300
    have c3300b1 : (t3297.2.2.1 != 0) = false := bne_eq_false_iff_eq.mpr c3300
    clear c3300
    by_cases c3301 : a3197 = true
    · replace H := if_yes c3301 H
      have c3301b0 : a3197 = true := c3301
      have c3301b1 : (!a3197) = false := by rw [c3301b0]; rfl
      clear c3301
      by_cases c3302 : a3196 < 0
      · replace H := if_yes c3302 H
        have c3302b0 : decide (a3196 < 0) = true := decide_eq_true c3302
        clear c3302
        have hc3303 : w3299.cell? ⟨g3294, 0, none⟩ = some (.int .i64 0) := blk_cellv (HS.out.at3) 0 rfl
        have hz3304 : w3299.frozen? ⟨g3294, 0, none⟩ = false := blk_fz (HS.out.at3) 0
        have hc3305 : w3299.cell? ⟨g3294, 1, none⟩ = some (.int .i64 0) := blk_cellv (HS.out.at3) 1 rfl
        have hz3306 : w3299.frozen? ⟨g3294, 1, none⟩ = false := blk_fz (HS.out.at3) 1
        go_wp2_with (first | ((with_reducible refine gate_store (t := 142) (p := 8) rfl ?_); refine store_event (w1 := (World.setCell (World.setCell w3299 ⟨g3294, 0, none⟩ (.int .i64 0)) ⟨g3294, 1, none⟩ (.int .i64 0))) rfl (t := 142) (p := 8) rfl rfl ?hr ?_; (case hr => first | (go_simp; done) | (go_simp; rfl)); intro w3307 hst; clear hc3303 hz3304 hc3305 hz3306; have hq0 : Sep FF w [b8 g3181 g3183 a3191 a3192 a3193 a3194, b7 g3183 A3186 l3185.length n3188 t3297.2.2.2, r6 A3186 l3185.length n3188 l3185, b22 g3294 0 0] (World.setCell w3299 ⟨g3294, 0, none⟩ (.int .i64 0)) := (HS.out).set1 (l1 := [b8 g3181 g3183 a3191 a3192 a3193 a3194, b7 g3183 A3186 l3185.length n3188 t3297.2.2.2, r6 A3186 l3185.length n3188 l3185]) (l2 := []) 0 (.int .i64 0); have hq1 : Sep FF w [b8 g3181 g3183 a3191 a3192 a3193 a3194, b7 g3183 A3186 l3185.length n3188 t3297.2.2.2, r6 A3186 l3185.length n3188 l3185, b22 g3294 0 0] (World.setCell (World.setCell w3299 ⟨g3294, 0, none⟩ (.int .i64 0)) ⟨g3294, 1, none⟩ (.int .i64 0)) := (hq0).set1 (l1 := [b8 g3181 g3183 a3191 a3192 a3193 a3194, b7 g3183 A3186 l3185.length n3188 t3297.2.2.2, r6 A3186 l3185.length n3188 l3185]) (l2 := []) 1 (.int .i64 0); replace HS : Aside0 (Sep FF w [b8 g3181 g3183 a3191 a3192 a3193 a3194, b7 g3183 A3186 l3185.length n3188 t3297.2.2.2, r6 A3186 l3185.length n3188 l3185, b22 g3294 0 0] w3307) := ⟨by rw [hst]; exact hq1⟩; clear hq0 hq1; clear hst))
        have hc3308 : w3307.cell? ⟨g3294, 0, none⟩ = some (.int .i64 0) := blk_cellv (HS.out.at3) 0 rfl
        have hc3309 : w3307.cell? ⟨g3294, 1, none⟩ = some (.int .i64 0) := blk_cellv (HS.out.at3) 1 rfl
        refine bodyPost_ret (v := .tuple #[.agg #[.int .i64 0, .int .i64 0], .int .i64 7]) (by simp [results, Tryd.results116, go_sem, hc3308, hc3309]) rfl ?_
        rw [← some_eq H]
        exact ⟨(by first | rfl | (simp [IntKind.wrap_u32]; done)), HS.out.sub (.cons_cons _ (.cons_cons _ (.cons_cons _ (.cons _ .slnil))))⟩
      · replace H := if_no c3302 H
        have c3302b0 : decide (a3196 < 0) = false := decide_eq_false c3302
        clear c3302
        by_cases c3310 : a3196 ≥ t3297.2.1
        · replace H := if_yes c3310 H
          have c3310b0 : decide (t3297.2.1 ≤ a3196) = true := decide_eq_true c3310
          clear c3310
          have hc3311 : w3299.cell? ⟨g3294, 0, none⟩ = some (.int .i64 0) := blk_cellv (HS.out.at3) 0 rfl
          have hz3312 : w3299.frozen? ⟨g3294, 0, none⟩ = false := blk_fz (HS.out.at3) 0
          have hc3313 : w3299.cell? ⟨g3294, 1, none⟩ = some (.int .i64 0) := blk_cellv (HS.out.at3) 1 rfl
          have hz3314 : w3299.frozen? ⟨g3294, 1, none⟩ = false := blk_fz (HS.out.at3) 1
          go_wp2_with (first | ((with_reducible refine gate_store (t := 142) (p := 8) rfl ?_); refine store_event (w1 := (World.setCell (World.setCell w3299 ⟨g3294, 0, none⟩ (.int .i64 0)) ⟨g3294, 1, none⟩ (.int .i64 0))) rfl (t := 142) (p := 8) rfl rfl ?hr ?_; (case hr => first | (go_simp; done) | (go_simp; rfl)); intro w3315 hst; clear hc3311 hz3312 hc3313 hz3314; have hq0 : Sep FF w [b8 g3181 g3183 a3191 a3192 a3193 a3194, b7 g3183 A3186 l3185.length n3188 t3297.2.2.2, r6 A3186 l3185.length n3188 l3185, b22 g3294 0 0] (World.setCell w3299 ⟨g3294, 0, none⟩ (.int .i64 0)) := (HS.out).set1 (l1 := [b8 g3181 g3183 a3191 a3192 a3193 a3194, b7 g3183 A3186 l3185.length n3188 t3297.2.2.2, r6 A3186 l3185.length n3188 l3185]) (l2 := []) 0 (.int .i64 0); have hq1 : Sep FF w [b8 g3181 g3183 a3191 a3192 a3193 a3194, b7 g3183 A3186 l3185.length n3188 t3297.2.2.2, r6 A3186 l3185.length n3188 l3185, b22 g3294 0 0] (World.setCell (World.setCell w3299 ⟨g3294, 0, none⟩ (.int .i64 0)) ⟨g3294, 1, none⟩ (.int .i64 0)) := (hq0).set1 (l1 := [b8 g3181 g3183 a3191 a3192 a3193 a3194, b7 g3183 A3186 l3185.length n3188 t3297.2.2.2, r6 A3186 l3185.length n3188 l3185]) (l2 := []) 1 (.int .i64 0); replace HS : Aside0 (Sep FF w [b8 g3181 g3183 a3191 a3192 a3193 a3194, b7 g3183 A3186 l3185.length n3188 t3297.2.2.2, r6 A3186 l3185.length n3188 l3185, b22 g3294 0 0] w3315) := ⟨by rw [hst]; exact hq1⟩; clear hq0 hq1; clear hst))
          have hc3316 : w3315.cell? ⟨g3294, 0, none⟩ = some (.int .i64 0) := blk_cellv (HS.out.at3) 0 rfl
          have hc3317 : w3315.cell? ⟨g3294, 1, none⟩ = some (.int .i64 0) := blk_cellv (HS.out.at3) 1 rfl
          refine bodyPost_ret (v := .tuple #[.agg #[.int .i64 0, .int .i64 0], .int .i64 7]) (by simp [results, Tryd.results116, go_sem, hc3316, hc3317]) rfl ?_
          rw [← some_eq H]
          exact ⟨(by first | rfl | (simp [IntKind.wrap_u32]; done)), HS.out.sub (.cons_cons _ (.cons_cons _ (.cons_cons _ (.cons _ .slnil))))⟩
        · replace H := if_no c3310 H
          have c3310b0 : decide (t3297.2.1 ≤ a3196) = false := decide_eq_false c3310
          clear c3310
          go_wp2_with fail
          obtain ⟨t3318, HA3319, H⟩ := bind_some H
          refine (ground_Ground_Conf.calls l3185 t3297.2.2.2 a3191 a3192 a3193 a3194 g3181 g3183 A3186 l3185.length n3188 t3318 _ ⟨HGl0.out.pass HS.out⟩ ⟨HS.out.begin⟩ HA3319).mono ?_
          rintro e_ w3320 ⟨rfl, hS⟩
          replace HS : Aside0 (Sep FF w [b8 g3181 g3183 a3191 a3192 a3193 a3194, b7 g3183 A3186 l3185.length n3188 t3297.2.2.2, r6 A3186 l3185.length n3188 l3185, b22 g3294 0 0] w3320) := ⟨HS.out.call hS⟩
          clear hS
          have fl3321 : ∀ w, (Instr.field 30 (.agg #[.int .i64 t3318.1, .int .i64 t3318.2.1, .int .i64 t3318.2.2.1, .int .i64 t3318.2.2.2]) 1).run Tryd.prog w = .ok (.int .i64 t3318.2.1) w := fun _ => by kernel_rfl
          go_wp2_with fail
          clear fl3321
          obtain ⟨t3322, HA3323, H⟩ := bind_some H
          refine (shape_Place.calls _ t3318.2.1 (wrap64 (t3297.1 + t3297.2.1)) (wrap64 (t3297.1 + a3196)) t3322 _ ⟨HGl0.out.pass (l := []) HS.out⟩ ⟨Sep.start _⟩ HA3323).mono ?_
          rintro e_ w3324 ⟨rfl, hS⟩
          replace HS : Aside0 (Sep FF w [b8 g3181 g3183 a3191 a3192 a3193 a3194, b7 g3183 A3186 l3185.length n3188 t3297.2.2.2, r6 A3186 l3185.length n3188 l3185, b22 g3294 0 0] w3324) := ⟨HS.out.call hS⟩
          clear hS
          by_cases c3325 : t3322.2.2 = 0
          · replace H := if_yes c3325 H
            have c3325b0 : (t3322.2.2 == 0) = true := beq_iff_eq.mpr c3325
            have c3325b1 : (t3322.2.2 != 0) = false := bne_eq_false_iff_eq.mpr c3325
            clear c3325
            by_cases c3326 : t3322.1 < 0
            · replace H := if_yes c3326 H
              have c3326b0 : decide (t3322.1 < 0) = true := decide_eq_true c3326
              clear c3326
              have hc3327 : w3324.cell? ⟨g3294, 0, none⟩ = some (.int .i64 0) := blk_cellv (HS.out.at3) 0 rfl
              have hz3328 : w3324.frozen? ⟨g3294, 0, none⟩ = false := blk_fz (HS.out.at3) 0
              have hc3329 : w3324.cell? ⟨g3294, 1, none⟩ = some (.int .i64 0) := blk_cellv (HS.out.at3) 1 rfl
              have hz3330 : w3324.frozen? ⟨g3294, 1, none⟩ = false := blk_fz (HS.out.at3) 1
              go_wp2_with (first | ((with_reducible refine gate_store (t := 142) (p := 8) rfl ?_); refine store_event (w1 := (World.setCell (World.setCell w3324 ⟨g3294, 0, none⟩ (.int .i64 (wrap64 (a3195 - 1)))) ⟨g3294, 1, none⟩ (.int .i64 t3322.2.1))) rfl (t := 142) (p := 8) rfl rfl ?hr ?_; (case hr => first | (go_simp; done) | (go_simp; rfl)); intro w3331 hst; clear hc3327 hz3328 hc3329 hz3330; have hq0 : Sep FF w [b8 g3181 g3183 a3191 a3192 a3193 a3194, b7 g3183 A3186 l3185.length n3188 t3297.2.2.2, r6 A3186 l3185.length n3188 l3185, b22 g3294 (wrap64 (a3195 - 1)) 0] (World.setCell w3324 ⟨g3294, 0, none⟩ (.int .i64 (wrap64 (a3195 - 1)))) := (HS.out).set1 (l1 := [b8 g3181 g3183 a3191 a3192 a3193 a3194, b7 g3183 A3186 l3185.length n3188 t3297.2.2.2, r6 A3186 l3185.length n3188 l3185]) (l2 := []) 0 (.int .i64 (wrap64 (a3195 - 1))); have hq1 : Sep FF w [b8 g3181 g3183 a3191 a3192 a3193 a3194, b7 g3183 A3186 l3185.length n3188 t3297.2.2.2, r6 A3186 l3185.length n3188 l3185, b22 g3294 (wrap64 (a3195 - 1)) t3322.2.1] (World.setCell (World.setCell w3324 ⟨g3294, 0, none⟩ (.int .i64 (wrap64 (a3195 - 1)))) ⟨g3294, 1, none⟩ (.int .i64 t3322.2.1)) := (hq0).set1 (l1 := [b8 g3181 g3183 a3191 a3192 a3193 a3194, b7 g3183 A3186 l3185.length n3188 t3297.2.2.2, r6 A3186 l3185.length n3188 l3185]) (l2 := []) 1 (.int .i64 t3322.2.1); replace HS : Aside0 (Sep FF w [b8 g3181 g3183 a3191 a3192 a3193 a3194, b7 g3183 A3186 l3185.length n3188 t3297.2.2.2, r6 A3186 l3185.length n3188 l3185, b22 g3294 (wrap64 (a3195 - 1)) t3322.2.1] w3331) := ⟨by rw [hst]; exact hq1⟩; clear hq0 hq1; clear hst))
              have hc3332 : w3331.cell? ⟨g3294, 0, none⟩ = some (.int .i64 (wrap64 (a3195 - 1))) := blk_cellv (HS.out.at3) 0 rfl
              have hc3333 : w3331.cell? ⟨g3294, 1, none⟩ = some (.int .i64 t3322.2.1) := blk_cellv (HS.out.at3) 1 rfl
              refine bodyPost_ret (v := .tuple #[.agg #[.int .i64 (wrap64 (a3195 - 1)), .int .i64 t3322.2.1], .int .i64 0]) (by simp [results, Tryd.results116, go_sem, hc3332, hc3333]) rfl ?_
              rw [← some_eq H]
              exact ⟨(by first | rfl | (simp [IntKind.wrap_u32]; done)), HS.out.sub (.cons_cons _ (.cons_cons _ (.cons_cons _ (.cons _ .slnil))))⟩
            · replace H := if_no c3326 H
              have c3326b0 : decide (t3322.1 < 0) = false := decide_eq_false c3326
              clear c3326
              go_wp2_with fail
              obtain ⟨t3334, HA3335, H⟩ := bind_some H
              refine (ground_Ground_Word.calls l3185 t3297.2.2.2 a3191 a3192 a3193 a3194 (wrap64 (a3195 - 1)) (wrap64 (8 + t3322.1)) g3181 g3183 A3186 l3185.length n3188 t3334 _ ⟨HGl0.out.pass HS.out⟩ ⟨HS.out.begin⟩ HA3335).mono ?_
              rintro e_ w3336 ⟨rfl, hS⟩
              replace HS : Aside0 (Sep FF w [b8 g3181 g3183 a3191 a3192 a3193 a3194, b7 g3183 A3186 l3185.length n3188 t3334.2, r6 A3186 l3185.length n3188 l3185, b22 g3294 0 0] w3336) := ⟨HS.out.call hS⟩
              clear hS
              by_cases c3337 : (wrap64 (t3334.1)) = 0
              · replace H := if_yes c3337 H
                have c3337b0 : ((wrap64 (t3334.1)) == 0) = true := beq_iff_eq.mpr c3337
                have c3337b1 : ((wrap64 (t3334.1)) != 0) = false := bne_eq_false_iff_eq.mpr c3337
                clear c3337
                have hc3338 : w3336.cell? ⟨g3294, 0, none⟩ = some (.int .i64 0) := blk_cellv (HS.out.at3) 0 rfl
                have hz3339 : w3336.frozen? ⟨g3294, 0, none⟩ = false := blk_fz (HS.out.at3) 0
                have hc3340 : w3336.cell? ⟨g3294, 1, none⟩ = some (.int .i64 0) := blk_cellv (HS.out.at3) 1 rfl
                have hz3341 : w3336.frozen? ⟨g3294, 1, none⟩ = false := blk_fz (HS.out.at3) 1
                go_wp2_with (first | ((with_reducible refine gate_store (t := 142) (p := 8) rfl ?_); refine store_event (w1 := (World.setCell (World.setCell w3336 ⟨g3294, 0, none⟩ (.int .i64 0)) ⟨g3294, 1, none⟩ (.int .i64 0))) rfl (t := 142) (p := 8) rfl rfl ?hr ?_; (case hr => first | (go_simp; done) | (go_simp; rfl)); intro w3342 hst; clear hc3338 hz3339 hc3340 hz3341; have hq0 : Sep FF w [b8 g3181 g3183 a3191 a3192 a3193 a3194, b7 g3183 A3186 l3185.length n3188 t3334.2, r6 A3186 l3185.length n3188 l3185, b22 g3294 0 0] (World.setCell w3336 ⟨g3294, 0, none⟩ (.int .i64 0)) := (HS.out).set1 (l1 := [b8 g3181 g3183 a3191 a3192 a3193 a3194, b7 g3183 A3186 l3185.length n3188 t3334.2, r6 A3186 l3185.length n3188 l3185]) (l2 := []) 0 (.int .i64 0); have hq1 : Sep FF w [b8 g3181 g3183 a3191 a3192 a3193 a3194, b7 g3183 A3186 l3185.length n3188 t3334.2, r6 A3186 l3185.length n3188 l3185, b22 g3294 0 0] (World.setCell (World.setCell w3336 ⟨g3294, 0, none⟩ (.int .i64 0)) ⟨g3294, 1, none⟩ (.int .i64 0)) := (hq0).set1 (l1 := [b8 g3181 g3183 a3191 a3192 a3193 a3194, b7 g3183 A3186 l3185.length n3188 t3334.2, r6 A3186 l3185.length n3188 l3185]) (l2 := []) 1 (.int .i64 0); replace HS : Aside0 (Sep FF w [b8 g3181 g3183 a3191 a3192 a3193 a3194, b7 g3183 A3186 l3185.length n3188 t3334.2, r6 A3186 l3185.length n3188 l3185, b22 g3294 0 0] w3342) := ⟨by rw [hst]; exact hq1⟩; clear hq0 hq1; clear hst))
                have hc3343 : w3342.cell? ⟨g3294, 0, none⟩ = some (.int .i64 0) := blk_cellv (HS.out.at3) 0 rfl
                have hc3344 : w3342.cell? ⟨g3294, 1, none⟩ = some (.int .i64 0) := blk_cellv (HS.out.at3) 1 rfl
                refine bodyPost_ret (v := .tuple #[.agg #[.int .i64 0, .int .i64 0], .int .i64 7]) (by simp [results, Tryd.results116, go_sem, hc3343, hc3344]) rfl ?_
                rw [← some_eq H]
                exact ⟨(by first | rfl | (simp [IntKind.wrap_u32]; done)), HS.out.sub (.cons_cons _ (.cons_cons _ (.cons_cons _ (.cons _ .slnil))))⟩
              · replace H := if_no c3337 H
                have c3337b0 : ((wrap64 (t3334.1)) == 0) = false := beq_eq_false_iff_ne.mpr c3337
                have c3337b1 : ((wrap64 (t3334.1)) != 0) = true := bne_iff_ne.mpr c3337
                clear c3337
                have hc3345 : w3336.cell? ⟨g3294, 0, none⟩ = some (.int .i64 0) := blk_cellv (HS.out.at3) 0 rfl
                have hz3346 : w3336.frozen? ⟨g3294, 0, none⟩ = false := blk_fz (HS.out.at3) 0
                have hc3347 : w3336.cell? ⟨g3294, 1, none⟩ = some (.int .i64 0) := blk_cellv (HS.out.at3) 1 rfl
                have hz3348 : w3336.frozen? ⟨g3294, 1, none⟩ = false := blk_fz (HS.out.at3) 1
                go_wp2_with (first | ((with_reducible refine gate_store (t := 142) (p := 8) rfl ?_); refine store_event (w1 := (World.setCell (World.setCell w3336 ⟨g3294, 0, none⟩ (.int .i64 (wrap64 ((wrap64 (t3334.1)) - 1)))) ⟨g3294, 1, none⟩ (.int .i64 t3322.2.1))) rfl (t := 142) (p := 8) rfl rfl ?hr ?_; (case hr => first | (go_simp; done) | (go_simp; rfl)); intro w3349 hst; clear hc3345 hz3346 hc3347 hz3348; have hq0 : Sep FF w [b8 g3181 g3183 a3191 a3192 a3193 a3194, b7 g3183 A3186 l3185.length n3188 t3334.2, r6 A3186 l3185.length n3188 l3185, b22 g3294 (wrap64 ((wrap64 (t3334.1)) - 1)) 0] (World.setCell w3336 ⟨g3294, 0, none⟩ (.int .i64 (wrap64 ((wrap64 (t3334.1)) - 1)))) := (HS.out).set1 (l1 := [b8 g3181 g3183 a3191 a3192 a3193 a3194, b7 g3183 A3186 l3185.length n3188 t3334.2, r6 A3186 l3185.length n3188 l3185]) (l2 := []) 0 (.int .i64 (wrap64 ((wrap64 (t3334.1)) - 1))); have hq1 : Sep FF w [b8 g3181 g3183 a3191 a3192 a3193 a3194, b7 g3183 A3186 l3185.length n3188 t3334.2, r6 A3186 l3185.length n3188 l3185, b22 g3294 (wrap64 ((wrap64 (t3334.1)) - 1)) t3322.2.1] (World.setCell (World.setCell w3336 ⟨g3294, 0, none⟩ (.int .i64 (wrap64 ((wrap64 (t3334.1)) - 1)))) ⟨g3294, 1, none⟩ (.int .i64 t3322.2.1)) := (hq0).set1 (l1 := [b8 g3181 g3183 a3191 a3192 a3193 a3194, b7 g3183 A3186 l3185.length n3188 t3334.2, r6 A3186 l3185.length n3188 l3185]) (l2 := []) 1 (.int .i64 t3322.2.1); replace HS : Aside0 (Sep FF w [b8 g3181 g3183 a3191 a3192 a3193 a3194, b7 g3183 A3186 l3185.length n3188 t3334.2, r6 A3186 l3185.length n3188 l3185, b22 g3294 (wrap64 ((wrap64 (t3334.1)) - 1)) t3322.2.1] w3349) := ⟨by rw [hst]; exact hq1⟩; clear hq0 hq1; clear hst))
                have hc3350 : w3349.cell? ⟨g3294, 0, none⟩ = some (.int .i64 (wrap64 ((wrap64 (t3334.1)) - 1))) := blk_cellv (HS.out.at3) 0 rfl
                have hc3351 : w3349.cell? ⟨g3294, 1, none⟩ = some (.int .i64 t3322.2.1) := blk_cellv (HS.out.at3) 1 rfl
                refine bodyPost_ret (v := .tuple #[.agg #[.int .i64 (wrap64 ((wrap64 (t3334.1)) - 1)), .int .i64 t3322.2.1], .int .i64 0]) (by simp [results, Tryd.results116, go_sem, hc3350, hc3351]) rfl ?_
                rw [← some_eq H]
                exact ⟨(by first | rfl | (simp [IntKind.wrap_u32]; done)), HS.out.sub (.cons_cons _ (.cons_cons _ (.cons_cons _ (.cons _ .slnil))))⟩
          · replace H := if_no c3325 H
            have c3325b0 : (t3322.2.2 == 0) = false := beq_eq_false_iff_ne.mpr c3325
            have c3325b1 : (t3322.2.2 != 0) = true := bne_iff_ne.mpr c3325
            clear c3325
            have hc3352 : w3324.cell? ⟨g3294, 0, none⟩ = some (.int .i64 0) := blk_cellv (HS.out.at3) 0 rfl
            have hz3353 : w3324.frozen? ⟨g3294, 0, none⟩ = false := blk_fz (HS.out.at3) 0
            have hc3354 : w3324.cell? ⟨g3294, 1, none⟩ = some (.int .i64 0) := blk_cellv (HS.out.at3) 1 rfl
            have hz3355 : w3324.frozen? ⟨g3294, 1, none⟩ = false := blk_fz (HS.out.at3) 1
            go_wp2_with (first | ((with_reducible refine gate_store (t := 142) (p := 8) rfl ?_); refine store_event (w1 := (World.setCell (World.setCell w3324 ⟨g3294, 0, none⟩ (.int .i64 0)) ⟨g3294, 1, none⟩ (.int .i64 0))) rfl (t := 142) (p := 8) rfl rfl ?hr ?_; (case hr => first | (go_simp; done) | (go_simp; rfl)); intro w3356 hst; clear hc3352 hz3353 hc3354 hz3355; have hq0 : Sep FF w [b8 g3181 g3183 a3191 a3192 a3193 a3194, b7 g3183 A3186 l3185.length n3188 t3297.2.2.2, r6 A3186 l3185.length n3188 l3185, b22 g3294 0 0] (World.setCell w3324 ⟨g3294, 0, none⟩ (.int .i64 0)) := (HS.out).set1 (l1 := [b8 g3181 g3183 a3191 a3192 a3193 a3194, b7 g3183 A3186 l3185.length n3188 t3297.2.2.2, r6 A3186 l3185.length n3188 l3185]) (l2 := []) 0 (.int .i64 0); have hq1 : Sep FF w [b8 g3181 g3183 a3191 a3192 a3193 a3194, b7 g3183 A3186 l3185.length n3188 t3297.2.2.2, r6 A3186 l3185.length n3188 l3185, b22 g3294 0 0] (World.setCell (World.setCell w3324 ⟨g3294, 0, none⟩ (.int .i64 0)) ⟨g3294, 1, none⟩ (.int .i64 0)) := (hq0).set1 (l1 := [b8 g3181 g3183 a3191 a3192 a3193 a3194, b7 g3183 A3186 l3185.length n3188 t3297.2.2.2, r6 A3186 l3185.length n3188 l3185]) (l2 := []) 1 (.int .i64 0); replace HS : Aside0 (Sep FF w [b8 g3181 g3183 a3191 a3192 a3193 a3194, b7 g3183 A3186 l3185.length n3188 t3297.2.2.2, r6 A3186 l3185.length n3188 l3185, b22 g3294 0 0] w3356) := ⟨by rw [hst]; exact hq1⟩; clear hq0 hq1; clear hst))
            have hc3357 : w3356.cell? ⟨g3294, 0, none⟩ = some (.int .i64 0) := blk_cellv (HS.out.at3) 0 rfl
            have hc3358 : w3356.cell? ⟨g3294, 1, none⟩ = some (.int .i64 0) := blk_cellv (HS.out.at3) 1 rfl
            refine bodyPost_ret (v := .tuple #[.agg #[.int .i64 0, .int .i64 0], .int .i64 t3322.2.2]) (by simp [results, Tryd.results116, go_sem, hc3357, hc3358]) rfl ?_
            rw [← some_eq H]
            exact ⟨(by first | rfl | (simp [IntKind.wrap_u32]; done)), HS.out.sub (.cons_cons _ (.cons_cons _ (.cons_cons _ (.cons _ .slnil))))⟩
    · replace H := if_no c3301 H
      have c3301b0 : a3197 = false := by simpa using c3301
      have c3301b1 : (!a3197) = true := by rw [c3301b0]; rfl
      clear c3301
      by_cases c3359 : a3196 < 0
      · replace H := if_yes c3359 H
        have c3359b0 : decide (a3196 < 0) = true := decide_eq_true c3359
        clear c3359
        have hc3360 : w3299.cell? ⟨g3294, 0, none⟩ = some (.int .i64 0) := blk_cellv (HS.out.at3) 0 rfl
        have hz3361 : w3299.frozen? ⟨g3294, 0, none⟩ = false := blk_fz (HS.out.at3) 0
        have hc3362 : w3299.cell? ⟨g3294, 1, none⟩ = some (.int .i64 0) := blk_cellv (HS.out.at3) 1 rfl
        have hz3363 : w3299.frozen? ⟨g3294, 1, none⟩ = false := blk_fz (HS.out.at3) 1
        go_wp2_with (first | ((with_reducible refine gate_store (t := 142) (p := 8) rfl ?_); refine store_event (w1 := (World.setCell (World.setCell w3299 ⟨g3294, 0, none⟩ (.int .i64 0)) ⟨g3294, 1, none⟩ (.int .i64 0))) rfl (t := 142) (p := 8) rfl rfl ?hr ?_; (case hr => first | (go_simp; done) | (go_simp; rfl)); intro w3364 hst; clear hc3360 hz3361 hc3362 hz3363; have hq0 : Sep FF w [b8 g3181 g3183 a3191 a3192 a3193 a3194, b7 g3183 A3186 l3185.length n3188 t3297.2.2.2, r6 A3186 l3185.length n3188 l3185, b22 g3294 0 0] (World.setCell w3299 ⟨g3294, 0, none⟩ (.int .i64 0)) := (HS.out).set1 (l1 := [b8 g3181 g3183 a3191 a3192 a3193 a3194, b7 g3183 A3186 l3185.length n3188 t3297.2.2.2, r6 A3186 l3185.length n3188 l3185]) (l2 := []) 0 (.int .i64 0); have hq1 : Sep FF w [b8 g3181 g3183 a3191 a3192 a3193 a3194, b7 g3183 A3186 l3185.length n3188 t3297.2.2.2, r6 A3186 l3185.length n3188 l3185, b22 g3294 0 0] (World.setCell (World.setCell w3299 ⟨g3294, 0, none⟩ (.int .i64 0)) ⟨g3294, 1, none⟩ (.int .i64 0)) := (hq0).set1 (l1 := [b8 g3181 g3183 a3191 a3192 a3193 a3194, b7 g3183 A3186 l3185.length n3188 t3297.2.2.2, r6 A3186 l3185.length n3188 l3185]) (l2 := []) 1 (.int .i64 0); replace HS : Aside0 (Sep FF w [b8 g3181 g3183 a3191 a3192 a3193 a3194, b7 g3183 A3186 l3185.length n3188 t3297.2.2.2, r6 A3186 l3185.length n3188 l3185, b22 g3294 0 0] w3364) := ⟨by rw [hst]; exact hq1⟩; clear hq0 hq1; clear hst))
        have hc3365 : w3364.cell? ⟨g3294, 0, none⟩ = some (.int .i64 0) := blk_cellv (HS.out.at3) 0 rfl
        have hc3366 : w3364.cell? ⟨g3294, 1, none⟩ = some (.int .i64 0) := blk_cellv (HS.out.at3) 1 rfl
        refine bodyPost_ret (v := .tuple #[.agg #[.int .i64 0, .int .i64 0], .int .i64 7]) (by simp [results, Tryd.results116, go_sem, hc3365, hc3366]) rfl ?_
        rw [← some_eq H]
        exact ⟨(by first | rfl | (simp [IntKind.wrap_u32]; done)), HS.out.sub (.cons_cons _ (.cons_cons _ (.cons_cons _ (.cons _ .slnil))))⟩
      · replace H := if_no c3359 H
        have c3359b0 : decide (a3196 < 0) = false := decide_eq_false c3359
        clear c3359
        by_cases c3367 : a3196 ≥ t3297.1
        · replace H := if_yes c3367 H
          have c3367b0 : decide (t3297.1 ≤ a3196) = true := decide_eq_true c3367
          clear c3367
          have hc3368 : w3299.cell? ⟨g3294, 0, none⟩ = some (.int .i64 0) := blk_cellv (HS.out.at3) 0 rfl
          have hz3369 : w3299.frozen? ⟨g3294, 0, none⟩ = false := blk_fz (HS.out.at3) 0
          have hc3370 : w3299.cell? ⟨g3294, 1, none⟩ = some (.int .i64 0) := blk_cellv (HS.out.at3) 1 rfl
          have hz3371 : w3299.frozen? ⟨g3294, 1, none⟩ = false := blk_fz (HS.out.at3) 1
          go_wp2_with (first | ((with_reducible refine gate_store (t := 142) (p := 8) rfl ?_); refine store_event (w1 := (World.setCell (World.setCell w3299 ⟨g3294, 0, none⟩ (.int .i64 0)) ⟨g3294, 1, none⟩ (.int .i64 0))) rfl (t := 142) (p := 8) rfl rfl ?hr ?_; (case hr => first | (go_simp; done) | (go_simp; rfl)); intro w3372 hst; clear hc3368 hz3369 hc3370 hz3371; have hq0 : Sep FF w [b8 g3181 g3183 a3191 a3192 a3193 a3194, b7 g3183 A3186 l3185.length n3188 t3297.2.2.2, r6 A3186 l3185.length n3188 l3185, b22 g3294 0 0] (World.setCell w3299 ⟨g3294, 0, none⟩ (.int .i64 0)) := (HS.out).set1 (l1 := [b8 g3181 g3183 a3191 a3192 a3193 a3194, b7 g3183 A3186 l3185.length n3188 t3297.2.2.2, r6 A3186 l3185.length n3188 l3185]) (l2 := []) 0 (.int .i64 0); have hq1 : Sep FF w [b8 g3181 g3183 a3191 a3192 a3193 a3194, b7 g3183 A3186 l3185.length n3188 t3297.2.2.2, r6 A3186 l3185.length n3188 l3185, b22 g3294 0 0] (World.setCell (World.setCell w3299 ⟨g3294, 0, none⟩ (.int .i64 0)) ⟨g3294, 1, none⟩ (.int .i64 0)) := (hq0).set1 (l1 := [b8 g3181 g3183 a3191 a3192 a3193 a3194, b7 g3183 A3186 l3185.length n3188 t3297.2.2.2, r6 A3186 l3185.length n3188 l3185]) (l2 := []) 1 (.int .i64 0); replace HS : Aside0 (Sep FF w [b8 g3181 g3183 a3191 a3192 a3193 a3194, b7 g3183 A3186 l3185.length n3188 t3297.2.2.2, r6 A3186 l3185.length n3188 l3185, b22 g3294 0 0] w3372) := ⟨by rw [hst]; exact hq1⟩; clear hq0 hq1; clear hst))
          have hc3373 : w3372.cell? ⟨g3294, 0, none⟩ = some (.int .i64 0) := blk_cellv (HS.out.at3) 0 rfl
          have hc3374 : w3372.cell? ⟨g3294, 1, none⟩ = some (.int .i64 0) := blk_cellv (HS.out.at3) 1 rfl
          refine bodyPost_ret (v := .tuple #[.agg #[.int .i64 0, .int .i64 0], .int .i64 7]) (by simp [results, Tryd.results116, go_sem, hc3373, hc3374]) rfl ?_
          rw [← some_eq H]
          exact ⟨(by first | rfl | (simp [IntKind.wrap_u32]; done)), HS.out.sub (.cons_cons _ (.cons_cons _ (.cons_cons _ (.cons _ .slnil))))⟩
        · replace H := if_no c3367 H
          have c3367b0 : decide (t3297.1 ≤ a3196) = false := decide_eq_false c3367
          clear c3367
          go_wp2_with fail
          obtain ⟨t3318, HA3375, H⟩ := bind_some H
          refine (ground_Ground_Conf.calls l3185 t3297.2.2.2 a3191 a3192 a3193 a3194 g3181 g3183 A3186 l3185.length n3188 t3318 _ ⟨HGl0.out.pass HS.out⟩ ⟨HS.out.begin⟩ HA3375).mono ?_
          rintro e_ w3376 ⟨rfl, hS⟩
          replace HS : Aside0 (Sep FF w [b8 g3181 g3183 a3191 a3192 a3193 a3194, b7 g3183 A3186 l3185.length n3188 t3297.2.2.2, r6 A3186 l3185.length n3188 l3185, b22 g3294 0 0] w3376) := ⟨HS.out.call hS⟩
          clear hS
          have fl3377 : ∀ w, (Instr.field 30 (.agg #[.int .i64 t3318.1, .int .i64 t3318.2.1, .int .i64 t3318.2.2.1, .int .i64 t3318.2.2.2]) 1).run Tryd.prog w = .ok (.int .i64 t3318.2.1) w := fun _ => by kernel_rfl
          go_wp2_with fail
          clear fl3377
          obtain ⟨t3322, HA3378, H⟩ := bind_some H
          refine (shape_Place.calls _ t3318.2.1 (wrap64 (t3297.1 + t3297.2.1)) (wrap64 (a3196)) t3322 _ ⟨HGl0.out.pass (l := []) HS.out⟩ ⟨Sep.start _⟩ HA3378).mono ?_
          rintro e_ w3379 ⟨rfl, hS⟩
          replace HS : Aside0 (Sep FF w [b8 g3181 g3183 a3191 a3192 a3193 a3194, b7 g3183 A3186 l3185.length n3188 t3297.2.2.2, r6 A3186 l3185.length n3188 l3185, b22 g3294 0 0] w3379) := ⟨HS.out.call hS⟩
          clear hS
          by_cases c3380 : t3322.2.2 = 0
          · replace H := if_yes c3380 H
            have c3380b0 : (t3322.2.2 == 0) = true := beq_iff_eq.mpr c3380
            have c3380b1 : (t3322.2.2 != 0) = false := bne_eq_false_iff_eq.mpr c3380
            clear c3380
            by_cases c3381 : t3322.1 < 0
            · replace H := if_yes c3381 H
              have c3381b0 : decide (t3322.1 < 0) = true := decide_eq_true c3381
              clear c3381
              have hc3382 : w3379.cell? ⟨g3294, 0, none⟩ = some (.int .i64 0) := blk_cellv (HS.out.at3) 0 rfl
              have hz3383 : w3379.frozen? ⟨g3294, 0, none⟩ = false := blk_fz (HS.out.at3) 0
              have hc3384 : w3379.cell? ⟨g3294, 1, none⟩ = some (.int .i64 0) := blk_cellv (HS.out.at3) 1 rfl
              have hz3385 : w3379.frozen? ⟨g3294, 1, none⟩ = false := blk_fz (HS.out.at3) 1
              go_wp2_with (first | ((with_reducible refine gate_store (t := 142) (p := 8) rfl ?_); refine store_event (w1 := (World.setCell (World.setCell w3379 ⟨g3294, 0, none⟩ (.int .i64 (wrap64 (a3195 - 1)))) ⟨g3294, 1, none⟩ (.int .i64 t3322.2.1))) rfl (t := 142) (p := 8) rfl rfl ?hr ?_; (case hr => first | (go_simp; done) | (go_simp; rfl)); intro w3386 hst; clear hc3382 hz3383 hc3384 hz3385; have hq0 : Sep FF w [b8 g3181 g3183 a3191 a3192 a3193 a3194, b7 g3183 A3186 l3185.length n3188 t3297.2.2.2, r6 A3186 l3185.length n3188 l3185, b22 g3294 (wrap64 (a3195 - 1)) 0] (World.setCell w3379 ⟨g3294, 0, none⟩ (.int .i64 (wrap64 (a3195 - 1)))) := (HS.out).set1 (l1 := [b8 g3181 g3183 a3191 a3192 a3193 a3194, b7 g3183 A3186 l3185.length n3188 t3297.2.2.2, r6 A3186 l3185.length n3188 l3185]) (l2 := []) 0 (.int .i64 (wrap64 (a3195 - 1))); have hq1 : Sep FF w [b8 g3181 g3183 a3191 a3192 a3193 a3194, b7 g3183 A3186 l3185.length n3188 t3297.2.2.2, r6 A3186 l3185.length n3188 l3185, b22 g3294 (wrap64 (a3195 - 1)) t3322.2.1] (World.setCell (World.setCell w3379 ⟨g3294, 0, none⟩ (.int .i64 (wrap64 (a3195 - 1)))) ⟨g3294, 1, none⟩ (.int .i64 t3322.2.1)) := (hq0).set1 (l1 := [b8 g3181 g3183 a3191 a3192 a3193 a3194, b7 g3183 A3186 l3185.length n3188 t3297.2.2.2, r6 A3186 l3185.length n3188 l3185]) (l2 := []) 1 (.int .i64 t3322.2.1); replace HS : Aside0 (Sep FF w [b8 g3181 g3183 a3191 a3192 a3193 a3194, b7 g3183 A3186 l3185.length n3188 t3297.2.2.2, r6 A3186 l3185.length n3188 l3185, b22 g3294 (wrap64 (a3195 - 1)) t3322.2.1] w3386) := ⟨by rw [hst]; exact hq1⟩; clear hq0 hq1; clear hst))
              have hc3387 : w3386.cell? ⟨g3294, 0, none⟩ = some (.int .i64 (wrap64 (a3195 - 1))) := blk_cellv (HS.out.at3) 0 rfl
              have hc3388 : w3386.cell? ⟨g3294, 1, none⟩ = some (.int .i64 t3322.2.1) := blk_cellv (HS.out.at3) 1 rfl
              refine bodyPost_ret (v := .tuple #[.agg #[.int .i64 (wrap64 (a3195 - 1)), .int .i64 t3322.2.1], .int .i64 0]) (by simp [results, Tryd.results116, go_sem, hc3387, hc3388]) rfl ?_
              rw [← some_eq H]
              exact ⟨(by first | rfl | (simp [IntKind.wrap_u32]; done)), HS.out.sub (.cons_cons _ (.cons_cons _ (.cons_cons _ (.cons _ .slnil))))⟩
            · replace H := if_no c3381 H
              have c3381b0 : decide (t3322.1 < 0) = false := decide_eq_false c3381
              clear c3381
              go_wp2_with fail
              obtain ⟨t3334, HA3389, H⟩ := bind_some H
              refine (ground_Ground_Word.calls l3185 t3297.2.2.2 a3191 a3192 a3193 a3194 (wrap64 (a3195 - 1)) (wrap64 (8 + t3322.1)) g3181 g3183 A3186 l3185.length n3188 t3334 _ ⟨HGl0.out.pass HS.out⟩ ⟨HS.out.begin⟩ HA3389).mono ?_
              rintro e_ w3390 ⟨rfl, hS⟩
              replace HS : Aside0 (Sep FF w [b8 g3181 g3183 a3191 a3192 a3193 a3194, b7 g3183 A3186 l3185.length n3188 t3334.2, r6 A3186 l3185.length n3188 l3185, b22 g3294 0 0] w3390) := ⟨HS.out.call hS⟩
              clear hS
              by_cases c3391 : (wrap64 (t3334.1)) = 0
              · replace H := if_yes c3391 H
                have c3391b0 : ((wrap64 (t3334.1)) == 0) = true := beq_iff_eq.mpr c3391
                have c3391b1 : ((wrap64 (t3334.1)) != 0) = false := bne_eq_false_iff_eq.mpr c3391
                clear c3391
                have hc3392 : w3390.cell? ⟨g3294, 0, none⟩ = some (.int .i64 0) := blk_cellv (HS.out.at3) 0 rfl
                have hz3393 : w3390.frozen? ⟨g3294, 0, none⟩ = false := blk_fz (HS.out.at3) 0
                have hc3394 : w3390.cell? ⟨g3294, 1, none⟩ = some (.int .i64 0) := blk_cellv (HS.out.at3) 1 rfl
                have hz3395 : w3390.frozen? ⟨g3294, 1, none⟩ = false := blk_fz (HS.out.at3) 1
                go_wp2_with (first | ((with_reducible refine gate_store (t := 142) (p := 8) rfl ?_); refine store_event (w1 := (World.setCell (World.setCell w3390 ⟨g3294, 0, none⟩ (.int .i64 0)) ⟨g3294, 1, none⟩ (.int .i64 0))) rfl (t := 142) (p := 8) rfl rfl ?hr ?_; (case hr => first | (go_simp; done) | (go_simp; rfl)); intro w3396 hst; clear hc3392 hz3393 hc3394 hz3395; have hq0 : Sep FF w [b8 g3181 g3183 a3191 a3192 a3193 a3194, b7 g3183 A3186 l3185.length n3188 t3334.2, r6 A3186 l3185.length n3188 l3185, b22 g3294 0 0] (World.setCell w3390 ⟨g3294, 0, none⟩ (.int .i64 0)) := (HS.out).set1 (l1 := [b8 g3181 g3183 a3191 a3192 a3193 a3194, b7 g3183 A3186 l3185.length n3188 t3334.2, r6 A3186 l3185.length n3188 l3185]) (l2 := []) 0 (.int .i64 0); have hq1 : Sep FF w [b8 g3181 g3183 a3191 a3192 a3193 a3194, b7 g3183 A3186 l3185.length n3188 t3334.2, r6 A3186 l3185.length n3188 l3185, b22 g3294 0 0] (World.setCell (World.setCell w3390 ⟨g3294, 0, none⟩ (.int .i64 0)) ⟨g3294, 1, none⟩ (.int .i64 0)) := (hq0).set1 (l1 := [b8 g3181 g3183 a3191 a3192 a3193 a3194, b7 g3183 A3186 l3185.length n3188 t3334.2, r6 A3186 l3185.length n3188 l3185]) (l2 := []) 1 (.int .i64 0); replace HS : Aside0 (Sep FF w [b8 g3181 g3183 a3191 a3192 a3193 a3194, b7 g3183 A3186 l3185.length n3188 t3334.2, r6 A3186 l3185.length n3188 l3185, b22 g3294 0 0] w3396) := ⟨by rw [hst]; exact hq1⟩; clear hq0 hq1; clear hst))
                have hc3397 : w3396.cell? ⟨g3294, 0, none⟩ = some (.int .i64 0) := blk_cellv (HS.out.at3) 0 rfl
                have hc3398 : w3396.cell? ⟨g3294, 1, none⟩ = some (.int .i64 0) := blk_cellv (HS.out.at3) 1 rfl
                refine bodyPost_ret (v := .tuple #[.agg #[.int .i64 0, .int .i64 0], .int .i64 7]) (by simp [results, Tryd.results116, go_sem, hc3397, hc3398]) rfl ?_
                rw [← some_eq H]
                exact ⟨(by first | rfl | (simp [IntKind.wrap_u32]; done)), HS.out.sub (.cons_cons _ (.cons_cons _ (.cons_cons _ (.cons _ .slnil))))⟩
              · replace H := if_no c3391 H
                have c3391b0 : ((wrap64 (t3334.1)) == 0) = false := beq_eq_false_iff_ne.mpr c3391
                have c3391b1 : ((wrap64 (t3334.1)) != 0) = true := bne_iff_ne.mpr c3391
                clear c3391
                have hc3399 : w3390.cell? ⟨g3294, 0, none⟩ = some (.int .i64 0) := blk_cellv (HS.out.at3) 0 rfl
                have hz3400 : w3390.frozen? ⟨g3294, 0, none⟩ = false := blk_fz (HS.out.at3) 0
                have hc3401 : w3390.cell? ⟨g3294, 1, none⟩ = some (.int .i64 0) := blk_cellv (HS.out.at3) 1 rfl
                have hz3402 : w3390.frozen? ⟨g3294, 1, none⟩ = false := blk_fz (HS.out.at3) 1
                go_wp2_with (first | ((with_reducible refine gate_store (t := 142) (p := 8) rfl ?_); refine store_event (w1 := (World.setCell (World.setCell w3390 ⟨g3294, 0, none⟩ (.int .i64 (wrap64 ((wrap64 (t3334.1)) - 1)))) ⟨g3294, 1, none⟩ (.int .i64 t3322.2.1))) rfl (t := 142) (p := 8) rfl rfl ?hr ?_; (case hr => first | (go_simp; done) | (go_simp; rfl)); intro w3403 hst; clear hc3399 hz3400 hc3401 hz3402; have hq0 : Sep FF w [b8 g3181 g3183 a3191 a3192 a3193 a3194, b7 g3183 A3186 l3185.length n3188 t3334.2, r6 A3186 l3185.length n3188 l3185, b22 g3294 (wrap64 ((wrap64 (t3334.1)) - 1)) 0] (World.setCell w3390 ⟨g3294, 0, none⟩ (.int .i64 (wrap64 ((wrap64 (t3334.1)) - 1)))) := (HS.out).set1 (l1 := [b8 g3181 g3183 a3191 a3192 a3193 a3194, b7 g3183 A3186 l3185.length n3188 t3334.2, r6 A3186 l3185.length n3188 l3185]) (l2 := []) 0 (.int .i64 (wrap64 ((wrap64 (t3334.1)) - 1))); have hq1 : Sep FF w [b8 g3181 g3183 a3191 a3192 a3193 a3194, b7 g3183 A3186 l3185.length n3188 t3334.2, r6 A3186 l3185.length n3188 l3185, b22 g3294 (wrap64 ((wrap64 (t3334.1)) - 1)) t3322.2.1] (World.setCell (World.setCell w3390 ⟨g3294, 0, none⟩ (.int .i64 (wrap64 ((wrap64 (t3334.1)) - 1)))) ⟨g3294, 1, none⟩ (.int .i64 t3322.2.1)) := (hq0).set1 (l1 := [b8 g3181 g3183 a3191 a3192 a3193 a3194, b7 g3183 A3186 l3185.length n3188 t3334.2, r6 A3186 l3185.length n3188 l3185]) (l2 := []) 1 (.int .i64 t3322.2.1); replace HS : Aside0 (Sep FF w [b8 g3181 g3183 a3191 a3192 a3193 a3194, b7 g3183 A3186 l3185.length n3188 t3334.2, r6 A3186 l3185.length n3188 l3185, b22 g3294 (wrap64 ((wrap64 (t3334.1)) - 1)) t3322.2.1] w3403) := ⟨by rw [hst]; exact hq1⟩; clear hq0 hq1; clear hst))
                have hc3404 : w3403.cell? ⟨g3294, 0, none⟩ = some (.int .i64 (wrap64 ((wrap64 (t3334.1)) - 1))) := blk_cellv (HS.out.at3) 0 rfl
                have hc3405 : w3403.cell? ⟨g3294, 1, none⟩ = some (.int .i64 t3322.2.1) := blk_cellv (HS.out.at3) 1 rfl
                refine bodyPost_ret (v := .tuple #[.agg #[.int .i64 (wrap64 ((wrap64 (t3334.1)) - 1)), .int .i64 t3322.2.1], .int .i64 0]) (by simp [results, Tryd.results116, go_sem, hc3404, hc3405]) rfl ?_
                rw [← some_eq H]
                exact ⟨(by first | rfl | (simp [IntKind.wrap_u32]; done)), HS.out.sub (.cons_cons _ (.cons_cons _ (.cons_cons _ (.cons _ .slnil))))⟩
          · replace H := if_no c3380 H
            have c3380b0 : (t3322.2.2 == 0) = false := beq_eq_false_iff_ne.mpr c3380
            have c3380b1 : (t3322.2.2 != 0) = true := bne_iff_ne.mpr c3380
            clear c3380
            have hc3406 : w3379.cell? ⟨g3294, 0, none⟩ = some (.int .i64 0) := blk_cellv (HS.out.at3) 0 rfl
            have hz3407 : w3379.frozen? ⟨g3294, 0, none⟩ = false := blk_fz (HS.out.at3) 0
            have hc3408 : w3379.cell? ⟨g3294, 1, none⟩ = some (.int .i64 0) := blk_cellv (HS.out.at3) 1 rfl
            have hz3409 : w3379.frozen? ⟨g3294, 1, none⟩ = false := blk_fz (HS.out.at3) 1
            go_wp2_with (first | ((with_reducible refine gate_store (t := 142) (p := 8) rfl ?_); refine store_event (w1 := (World.setCell (World.setCell w3379 ⟨g3294, 0, none⟩ (.int .i64 0)) ⟨g3294, 1, none⟩ (.int .i64 0))) rfl (t := 142) (p := 8) rfl rfl ?hr ?_; (case hr => first | (go_simp; done) | (go_simp; rfl)); intro w3410 hst; clear hc3406 hz3407 hc3408 hz3409; have hq0 : Sep FF w [b8 g3181 g3183 a3191 a3192 a3193 a3194, b7 g3183 A3186 l3185.length n3188 t3297.2.2.2, r6 A3186 l3185.length n3188 l3185, b22 g3294 0 0] (World.setCell w3379 ⟨g3294, 0, none⟩ (.int .i64 0)) := (HS.out).set1 (l1 := [b8 g3181 g3183 a3191 a3192 a3193 a3194, b7 g3183 A3186 l3185.length n3188 t3297.2.2.2, r6 A3186 l3185.length n3188 l3185]) (l2 := []) 0 (.int .i64 0); have hq1 : Sep FF w [b8 g3181 g3183 a3191 a3192 a3193 a3194, b7 g3183 A3186 l3185.length n3188 t3297.2.2.2, r6 A3186 l3185.length n3188 l3185, b22 g3294 0 0] (World.setCell (World.setCell w3379 ⟨g3294, 0, none⟩ (.int .i64 0)) ⟨g3294, 1, none⟩ (.int .i64 0)) := (hq0).set1 (l1 := [b8 g3181 g3183 a3191 a3192 a3193 a3194, b7 g3183 A3186 l3185.length n3188 t3297.2.2.2, r6 A3186 l3185.length n3188 l3185]) (l2 := []) 1 (.int .i64 0); replace HS : Aside0 (Sep FF w [b8 g3181 g3183 a3191 a3192 a3193 a3194, b7 g3183 A3186 l3185.length n3188 t3297.2.2.2, r6 A3186 l3185.length n3188 l3185, b22 g3294 0 0] w3410) := ⟨by rw [hst]; exact hq1⟩; clear hq0 hq1; clear hst))
            have hc3411 : w3410.cell? ⟨g3294, 0, none⟩ = some (.int .i64 0) := blk_cellv (HS.out.at3) 0 rfl
            have hc3412 : w3410.cell? ⟨g3294, 1, none⟩ = some (.int .i64 0) := blk_cellv (HS.out.at3) 1 rfl
            refine bodyPost_ret (v := .tuple #[.agg #[.int .i64 0, .int .i64 0], .int .i64 t3322.2.2]) (by simp [results, Tryd.results116, go_sem, hc3411, hc3412]) rfl ?_
            rw [← some_eq H]
            exact ⟨(by first | rfl | (simp [IntKind.wrap_u32]; done)), HS.out.sub (.cons_cons _ (.cons_cons _ (.cons_cons _ (.cons _ .slnil))))⟩
  · replace H := if_no c3300 H
    have c3300b0 : (t3297.2.2.1 == 0) = false := beq_eq_false_iff_ne.mpr c3300
    have c3300b1 : (t3297.2.2.1 != 0) = true := bne_iff_ne.mpr c3300
    clear c3300
    have hc3413 : w3299.cell? ⟨g3294, 0, none⟩ = some (.int .i64 0) := blk_cellv (HS.out.at3) 0 rfl
    have hz3414 : w3299.frozen? ⟨g3294, 0, none⟩ = false := blk_fz (HS.out.at3) 0
    have hc3415 : w3299.cell? ⟨g3294, 1, none⟩ = some (.int .i64 0) := blk_cellv (HS.out.at3) 1 rfl
    have hz3416 : w3299.frozen? ⟨g3294, 1, none⟩ = false := blk_fz (HS.out.at3) 1
    go_wp2_with (first | ((with_reducible refine gate_store (t := 142) (p := 8) rfl ?_); refine store_event (w1 := (World.setCell (World.setCell w3299 ⟨g3294, 0, none⟩ (.int .i64 0)) ⟨g3294, 1, none⟩ (.int .i64 0))) rfl (t := 142) (p := 8) rfl rfl ?hr ?_; (case hr => first | (go_simp; done) | (go_simp; rfl)); intro w3417 hst; clear hc3413 hz3414 hc3415 hz3416; have hq0 : Sep FF w [b8 g3181 g3183 a3191 a3192 a3193 a3194, b7 g3183 A3186 l3185.length n3188 t3297.2.2.2, r6 A3186 l3185.length n3188 l3185, b22 g3294 0 0] (World.setCell w3299 ⟨g3294, 0, none⟩ (.int .i64 0)) := (HS.out).set1 (l1 := [b8 g3181 g3183 a3191 a3192 a3193 a3194, b7 g3183 A3186 l3185.length n3188 t3297.2.2.2, r6 A3186 l3185.length n3188 l3185]) (l2 := []) 0 (.int .i64 0); have hq1 : Sep FF w [b8 g3181 g3183 a3191 a3192 a3193 a3194, b7 g3183 A3186 l3185.length n3188 t3297.2.2.2, r6 A3186 l3185.length n3188 l3185, b22 g3294 0 0] (World.setCell (World.setCell w3299 ⟨g3294, 0, none⟩ (.int .i64 0)) ⟨g3294, 1, none⟩ (.int .i64 0)) := (hq0).set1 (l1 := [b8 g3181 g3183 a3191 a3192 a3193 a3194, b7 g3183 A3186 l3185.length n3188 t3297.2.2.2, r6 A3186 l3185.length n3188 l3185]) (l2 := []) 1 (.int .i64 0); replace HS : Aside0 (Sep FF w [b8 g3181 g3183 a3191 a3192 a3193 a3194, b7 g3183 A3186 l3185.length n3188 t3297.2.2.2, r6 A3186 l3185.length n3188 l3185, b22 g3294 0 0] w3417) := ⟨by rw [hst]; exact hq1⟩; clear hq0 hq1; clear hst))
    have hc3418 : w3417.cell? ⟨g3294, 0, none⟩ = some (.int .i64 0) := blk_cellv (HS.out.at3) 0 rfl
    have hc3419 : w3417.cell? ⟨g3294, 1, none⟩ = some (.int .i64 0) := blk_cellv (HS.out.at3) 1 rfl
    refine bodyPost_ret (v := .tuple #[.agg #[.int .i64 0, .int .i64 0], .int .i64 t3297.2.2.1]) (by simp [results, Tryd.results116, go_sem, hc3418, hc3419]) rfl ?_
    rw [← some_eq H]
    exact ⟨(by first | rfl | (simp [IntKind.wrap_u32]; done)), HS.out.sub (.cons_cons _ (.cons_cons _ (.cons_cons _ (.cons _ .slnil))))⟩

set_option maxHeartbeats 30000000 in
set_option maxRecDepth 100000 in
theorem obj_SetData.calls (k : Nat) (l3167 : List Int) (a3172 : Int) (a3173 : Int) (a3174 : Int) (a3175 : Int) (a3176 : Int) (a3177 : Int) (a3178 : Int) (a3179 : Int) (g3163 : Nat) (g3165 : Nat) (A3168 : Option Addr) (m3169 : Nat) (n3170 : Nat) (r : Int × Int × List Int) (w : World)  (HGl0 : Aside0 (Gl 0 #[.int .i64 0, .int .i64 0, .int .i64 0, .int .i64 0, .int .i64 0] (fps [b8 g3163 g3165 a3173 a3174 a3175 a3176, b7 g3165 A3168 m3169 n3170 a3172, r6 A3168 m3169 n3170 l3167]) w)) (HS : Aside0 (Sep (fps [b8 g3163 g3165 a3173 a3174 a3175 a3176, b7 g3165 A3168 m3169 n3170 a3172, r6 A3168 m3169 n3170 l3167]) w [b8 g3163 g3165 a3173 a3174 a3175 a3176, b7 g3165 A3168 m3169 n3170 a3172, r6 A3168 m3169 n3170 l3167] w)) (H : Aside0 (obj_SetData.f k l3167 a3172 a3173 a3174 a3175 a3176 a3177 a3178 a3179 = some r)) :
    Calls Tryd.prog 56 #[.pointer (some ⟨g3163, 0, none⟩), .int .i64 a3177, .int .i64 a3178, .int .u32 a3179] w fun e w' => e = .returned (.int .i64 r.1) ∧ Sep (fps [b8 g3163 g3165 a3173 a3174 a3175 a3176, b7 g3165 A3168 m3169 n3170 a3172, r6 A3168 m3169 n3170 l3167]) w [b8 g3163 g3165 a3173 a3174 a3175 a3176, b7 g3165 A3168 m3169 n3170 r.2.1, r6 A3168 m3169 n3170 r.2.2] w' := by
  generalize (fps [b8 g3163 g3165 a3173 a3174 a3175 a3176, b7 g3165 A3168 m3169 n3170 a3172, r6 A3168 m3169 n3170 l3167]) = FF at HS HGl0 ⊢
  obtain rfl := (row_len (HS.out.at2)).symm
  unfold obj_SetData.f at H
  go_enter Tryd.func56, Tryd.ntmps56
  go_wp2_with fail
  obtain ⟨t3437, HA3438, H⟩ := bind_some H
  refine (obj_field.calls _ l3167 a3172 a3173 a3174 a3175 a3176 a3177 a3178 true g3163 g3165 A3168 l3167.length n3170 t3437 _ ⟨HGl0.out.pass HS.out⟩ ⟨HS.out.begin⟩ HA3438).mono ?_
  rintro e_ w3439 ⟨rfl, hS⟩
  replace HS : Aside0 (Sep FF w [b8 g3163 g3165 a3173 a3174 a3175 a3176, b7 g3165 A3168 l3167.length n3170 t3437.2.2.2, r6 A3168 l3167.length n3170 l3167] w3439) := ⟨HS.out.call hS⟩
  clear hS
  by_cases c3448 : t3437.2.2.1 = 0
  · replace H := if_yes c3448 H
    have c3448b0 : (t3437.2.2.1 == 0) = true := beq_iff_eq.mpr c3448
    have c3448b1 : (t3437.2.2.1 != 0) = false := bne_eq_false_iff_eq.mpr c3448
    clear c3448
    go_wp2_with (first | ((with_reducible refine gate_dst (N := 9) rfl ?_); refine box_on ?hg (N := 9) ?hd (cs := #[.int .i64 0, .int .i64 0]) (t := 142) ?hr ?_; (case hd => rfl); (case hg => rfl); (case hr => first | (go_simp; done) | (go_simp; rfl)); intro g3440 hg w3441 hbox hb; replace HS : Aside0 (Sep FF w [b8 g3163 g3165 a3173 a3174 a3175 a3176, b7 g3165 A3168 l3167.length n3170 t3437.2.2.2, r6 A3168 l3167.length n3170 l3167, b22 g3440 0 0] w3441) := ⟨HS.out.box hg hbox hb⟩; clear hg hbox hb; have hc3443 : w3441.cell? ⟨g3440, 0, none⟩ = some (.int .i64 0) := blk_cellv (HS.out.at3) 0 rfl; have hz3444 : w3441.frozen? ⟨g3440, 0, none⟩ = false := blk_fz (HS.out.at3) 0; have hc3445 : w3441.cell? ⟨g3440, 1, none⟩ = some (.int .i64 0) := blk_cellv (HS.out.at3) 1 rfl; have hz3446 : w3441.frozen? ⟨g3440, 1, none⟩ = false := blk_fz (HS.out.at3) 1) | ((with_reducible refine gate_store (t := 142) (p := 9) rfl ?_); refine store_event (w1 := (World.setCell (World.setCell w3441 ⟨g3440, 0, none⟩ (.int .i64 t3437.1)) ⟨g3440, 1, none⟩ (.int .i64 t3437.2.1))) rfl (t := 142) (p := 9) rfl rfl ?hr ?_; (case hr => first | (go_simp; done) | (go_simp; rfl)); intro w3447 hst; clear hc3443 hz3444 hc3445 hz3446; have hq0 : Sep FF w [b8 g3163 g3165 a3173 a3174 a3175 a3176, b7 g3165 A3168 l3167.length n3170 t3437.2.2.2, r6 A3168 l3167.length n3170 l3167, b22 g3440 t3437.1 0] (World.setCell w3441 ⟨g3440, 0, none⟩ (.int .i64 t3437.1)) := (HS.out).set1 (l1 := [b8 g3163 g3165 a3173 a3174 a3175 a3176, b7 g3165 A3168 l3167.length n3170 t3437.2.2.2, r6 A3168 l3167.length n3170 l3167]) (l2 := []) 0 (.int .i64 t3437.1); have hq1 : Sep FF w [b8 g3163 g3165 a3173 a3174 a3175 a3176, b7 g3165 A3168 l3167.length n3170 t3437.2.2.2, r6 A3168 l3167.length n3170 l3167, b22 g3440 t3437.1 t3437.2.1] (World.setCell (World.setCell w3441 ⟨g3440, 0, none⟩ (.int .i64 t3437.1)) ⟨g3440, 1, none⟩ (.int .i64 t3437.2.1)) := (hq0).set1 (l1 := [b8 g3163 g3165 a3173 a3174 a3175 a3176, b7 g3165 A3168 l3167.length n3170 t3437.2.2.2, r6 A3168 l3167.length n3170 l3167]) (l2 := []) 1 (.int .i64 t3437.2.1); replace HS : Aside0 (Sep FF w [b8 g3163 g3165 a3173 a3174 a3175 a3176, b7 g3165 A3168 l3167.length n3170 t3437.2.2.2, r6 A3168 l3167.length n3170 l3167, b22 g3440 t3437.1 t3437.2.1] w3447) := ⟨by rw [hst]; exact hq1⟩; clear hq0 hq1; clear hst; have hc3449 : w3447.cell? ⟨g3440, 0, none⟩ = some (.int .i64 t3437.1) := blk_cellv (HS.out.at3) 0 rfl; have hc3450 : w3447.cell? ⟨g3440, 1, none⟩ = some (.int .i64 t3437.2.1) := blk_cellv (HS.out.at3) 1 rfl))
    clear hc3449 hc3450
    obtain ⟨t3451, HA3452, H⟩ := bind_some H
    refine (ground_Ground_SetWord.calls l3167 t3437.2.2.2 a3173 a3174 a3175 a3176 t3437.1 t3437.2.1 a3179 g3163 g3165 A3168 l3167.length n3170 t3451 _ ⟨HGl0.out.pass HS.out⟩ ⟨HS.out.begin⟩ HA3452).mono ?_
    rintro e_ w3453 ⟨rfl, hS⟩
    replace HS : Aside0 (Sep FF w [b8 g3163 g3165 a3173 a3174 a3175 a3176, b7 g3165 A3168 l3167.length n3170 t3451.2.1, r6 A3168 l3167.length n3170 t3451.2.2, b22 g3440 t3437.1 t3437.2.1] w3453) := ⟨HS.out.call hS⟩
    clear hS
    replace HS : Aside0 (Sep FF w [b8 g3163 g3165 a3173 a3174 a3175 a3176, b7 g3165 A3168 l3167.length n3170 t3451.2.1, r6 A3168 l3167.length n3170 t3451.2.2] w3453) := ⟨HS.out.sub (.cons_cons _ (.cons_cons _ (.cons_cons _ (.cons _ .slnil))))⟩
    go_wp2_with fail
    go_ret
    rw [← some_eq H]
    exact ⟨(by first | rfl | (simp [IntKind.wrap_u32]; done)), HS.out⟩
  · replace H := if_no c3448 H
    have c3448b0 : (t3437.2.2.1 == 0) = false := beq_eq_false_iff_ne.mpr c3448
    have c3448b1 : (t3437.2.2.1 != 0) = true := bne_iff_ne.mpr c3448
    clear c3448
    go_wp2_with (first | ((with_reducible refine gate_dst (N := 9) rfl ?_); refine box_on ?hg (N := 9) ?hd (cs := #[.int .i64 0, .int .i64 0]) (t := 142) ?hr ?_; (case hd => rfl); (case hg => rfl); (case hr => first | (go_simp; done) | (go_simp; rfl)); intro g3440 hg w3441 hbox hb; replace HS : Aside0 (Sep FF w [b8 g3163 g3165 a3173 a3174 a3175 a3176, b7 g3165 A3168 l3167.length n3170 t3437.2.2.2, r6 A3168 l3167.length n3170 l3167, b22 g3440 0 0] w3441) := ⟨HS.out.box hg hbox hb⟩; clear hg hbox hb; have hc3443 : w3441.cell? ⟨g3440, 0, none⟩ = some (.int .i64 0) := blk_cellv (HS.out.at3) 0 rfl; have hz3444 : w3441.frozen? ⟨g3440, 0, none⟩ = false := blk_fz (HS.out.at3) 0; have hc3445 : w3441.cell? ⟨g3440, 1, none⟩ = some (.int .i64 0) := blk_cellv (HS.out.at3) 1 rfl; have hz3446 : w3441.frozen? ⟨g3440, 1, none⟩ = false := blk_fz (HS.out.at3) 1) | ((with_reducible refine gate_store (t := 142) (p := 9) rfl ?_); refine store_event (w1 := (World.setCell (World.setCell w3441 ⟨g3440, 0, none⟩ (.int .i64 t3437.1)) ⟨g3440, 1, none⟩ (.int .i64 t3437.2.1))) rfl (t := 142) (p := 9) rfl rfl ?hr ?_; (case hr => first | (go_simp; done) | (go_simp; rfl)); intro w3447 hst; clear hc3443 hz3444 hc3445 hz3446; have hq0 : Sep FF w [b8 g3163 g3165 a3173 a3174 a3175 a3176, b7 g3165 A3168 l3167.length n3170 t3437.2.2.2, r6 A3168 l3167.length n3170 l3167, b22 g3440 t3437.1 0] (World.setCell w3441 ⟨g3440, 0, none⟩ (.int .i64 t3437.1)) := (HS.out).set1 (l1 := [b8 g3163 g3165 a3173 a3174 a3175 a3176, b7 g3165 A3168 l3167.length n3170 t3437.2.2.2, r6 A3168 l3167.length n3170 l3167]) (l2 := []) 0 (.int .i64 t3437.1); have hq1 : Sep FF w [b8 g3163 g3165 a3173 a3174 a3175 a3176, b7 g3165 A3168 l3167.length n3170 t3437.2.2.2, r6 A3168 l3167.length n3170 l3167, b22 g3440 t3437.1 t3437.2.1] (World.setCell (World.setCell w3441 ⟨g3440, 0, none⟩ (.int .i64 t3437.1)) ⟨g3440, 1, none⟩ (.int .i64 t3437.2.1)) := (hq0).set1 (l1 := [b8 g3163 g3165 a3173 a3174 a3175 a3176, b7 g3165 A3168 l3167.length n3170 t3437.2.2.2, r6 A3168 l3167.length n3170 l3167]) (l2 := []) 1 (.int .i64 t3437.2.1); replace HS : Aside0 (Sep FF w [b8 g3163 g3165 a3173 a3174 a3175 a3176, b7 g3165 A3168 l3167.length n3170 t3437.2.2.2, r6 A3168 l3167.length n3170 l3167, b22 g3440 t3437.1 t3437.2.1] w3447) := ⟨by rw [hst]; exact hq1⟩; clear hq0 hq1; clear hst; replace HS : Aside0 (Sep FF w [b8 g3163 g3165 a3173 a3174 a3175 a3176, b7 g3165 A3168 l3167.length n3170 t3437.2.2.2, r6 A3168 l3167.length n3170 l3167] w3447) := ⟨HS.out.sub (.cons_cons _ (.cons_cons _ (.cons_cons _ (.cons _ .slnil))))⟩))
    go_ret
    rw [← some_eq H]
    exact ⟨(by first | rfl | (simp [IntKind.wrap_u32]; done)), HS.out⟩

set_option maxHeartbeats 30000000 in
set_option maxRecDepth 100000 in
theorem obj_Data.calls (k : Nat) (l3472 : List Int) (a3477 : Int) (a3478 : Int) (a3479 : Int) (a3480 : Int) (a3481 : Int) (a3482 : Int) (a3483 : Int) (g3468 : Nat) (g3470 : Nat) (A3473 : Option Addr) (m3474 : Nat) (n3475 : Nat) (r : Int × Int × Int) (w : World)  (HGl0 : Aside0 (Gl 0 #[.int .i64 0, .int .i64 0, .int .i64 0, .int .i64 0, .int .i64 0] (fps [b8 g3468 g3470 a3478 a3479 a3480 a3481, b7 g3470 A3473 m3474 n3475 a3477, r6 A3473 m3474 n3475 l3472]) w)) (HS : Aside0 (Sep (fps [b8 g3468 g3470 a3478 a3479 a3480 a3481, b7 g3470 A3473 m3474 n3475 a3477, r6 A3473 m3474 n3475 l3472]) w [b8 g3468 g3470 a3478 a3479 a3480 a3481, b7 g3470 A3473 m3474 n3475 a3477, r6 A3473 m3474 n3475 l3472] w)) (H : Aside0 (obj_Data.f k l3472 a3477 a3478 a3479 a3480 a3481 a3482 a3483 = some r)) :
    Calls Tryd.prog 57 #[.pointer (some ⟨g3468, 0, none⟩), .int .i64 a3482, .int .i64 a3483] w fun e w' => e = .returned (.tuple #[.int .u32 r.1, .int .i64 r.2.1]) ∧ Sep (fps [b8 g3468 g3470 a3478 a3479 a3480 a3481, b7 g3470 A3473 m3474 n3475 a3477, r6 A3473 m3474 n3475 l3472]) w [b8 g3468 g3470 a3478 a3479 a3480 a3481, b7 g3470 A3473 m3474 n3475 r.2.2, r6 A3473 m3474 n3475 l3472] w' := by
  generalize (fps [b8 g3468 g3470 a3478 a3479 a3480 a3481, b7 g3470 A3473 m3474 n3475 a3477, r6 A3473 m3474 n3475 l3472]) = FF at HS HGl0 ⊢
  obtain rfl := (row_len (HS.out.at2)).symm
  unfold obj_Data.f at H
  go_enter Tryd.func57, Tryd.ntmps57
  go_wp2_with fail
  obtain ⟨t3501, HA3502, H⟩ := bind_some H
  refine (obj_field.calls _ l3472 a3477 a3478 a3479 a3480 a3481 a3482 a3483 true g3468 g3470 A3473 l3472.length n3475 t3501 _ ⟨HGl0.out.pass HS.out⟩ ⟨HS.out.begin⟩ HA3502).mono ?_
  rintro e_ w3503 ⟨rfl, hS⟩
  replace HS : Aside0 (Sep FF w [b8 g3468 g3470 a3478 a3479 a3480 a3481, b7 g3470 A3473 l3472.length n3475 t3501.2.2.2, r6 A3473 l3472.length n3475 l3472] w3503) := ⟨HS.out.call hS⟩
  clear hS
  by_cases c3512 : t3501.2.2.1 = 0
  · replace H := if_yes c3512 H
    have c3512b0 : (t3501.2.2.1 == 0) = true := beq_iff_eq.mpr c3512
    have c3512b1 : (t3501.2.2.1 != 0) = false := bne_eq_false_iff_eq.mpr c3512
    clear c3512
    go_wp2_with (first | ((with_reducible refine gate_dst (N := 8) rfl ?_); refine box_on ?hg (N := 8) ?hd (cs := #[.int .i64 0, .int .i64 0]) (t := 142) ?hr ?_; (case hd => rfl); (case hg => rfl); (case hr => first | (go_simp; done) | (go_simp; rfl)); intro g3504 hg w3505 hbox hb; replace HS : Aside0 (Sep FF w [b8 g3468 g3470 a3478 a3479 a3480 a3481, b7 g3470 A3473 l3472.length n3475 t3501.2.2.2, r6 A3473 l3472.length n3475 l3472, b22 g3504 0 0] w3505) := ⟨HS.out.box hg hbox hb⟩; clear hg hbox hb; have hc3507 : w3505.cell? ⟨g3504, 0, none⟩ = some (.int .i64 0) := blk_cellv (HS.out.at3) 0 rfl; have hz3508 : w3505.frozen? ⟨g3504, 0, none⟩ = false := blk_fz (HS.out.at3) 0; have hc3509 : w3505.cell? ⟨g3504, 1, none⟩ = some (.int .i64 0) := blk_cellv (HS.out.at3) 1 rfl; have hz3510 : w3505.frozen? ⟨g3504, 1, none⟩ = false := blk_fz (HS.out.at3) 1) | ((with_reducible refine gate_store (t := 142) (p := 8) rfl ?_); refine store_event (w1 := (World.setCell (World.setCell w3505 ⟨g3504, 0, none⟩ (.int .i64 t3501.1)) ⟨g3504, 1, none⟩ (.int .i64 t3501.2.1))) rfl (t := 142) (p := 8) rfl rfl ?hr ?_; (case hr => first | (go_simp; done) | (go_simp; rfl)); intro w3511 hst; clear hc3507 hz3508 hc3509 hz3510; have hq0 : Sep FF w [b8 g3468 g3470 a3478 a3479 a3480 a3481, b7 g3470 A3473 l3472.length n3475 t3501.2.2.2, r6 A3473 l3472.length n3475 l3472, b22 g3504 t3501.1 0] (World.setCell w3505 ⟨g3504, 0, none⟩ (.int .i64 t3501.1)) := (HS.out).set1 (l1 := [b8 g3468 g3470 a3478 a3479 a3480 a3481, b7 g3470 A3473 l3472.length n3475 t3501.2.2.2, r6 A3473 l3472.length n3475 l3472]) (l2 := []) 0 (.int .i64 t3501.1); have hq1 : Sep FF w [b8 g3468 g3470 a3478 a3479 a3480 a3481, b7 g3470 A3473 l3472.length n3475 t3501.2.2.2, r6 A3473 l3472.length n3475 l3472, b22 g3504 t3501.1 t3501.2.1] (World.setCell (World.setCell w3505 ⟨g3504, 0, none⟩ (.int .i64 t3501.1)) ⟨g3504, 1, none⟩ (.int .i64 t3501.2.1)) := (hq0).set1 (l1 := [b8 g3468 g3470 a3478 a3479 a3480 a3481, b7 g3470 A3473 l3472.length n3475 t3501.2.2.2, r6 A3473 l3472.length n3475 l3472]) (l2 := []) 1 (.int .i64 t3501.2.1); replace HS : Aside0 (Sep FF w [b8 g3468 g3470 a3478 a3479 a3480 a3481, b7 g3470 A3473 l3472.length n3475 t3501.2.2.2, r6 A3473 l3472.length n3475 l3472, b22 g3504 t3501.1 t3501.2.1] w3511) := ⟨by rw [hst]; exact hq1⟩; clear hq0 hq1; clear hst; have hc3513 : w3511.cell? ⟨g3504, 0, none⟩ = some (.int .i64 t3501.1) := blk_cellv (HS.out.at3) 0 rfl; have hc3514 : w3511.cell? ⟨g3504, 1, none⟩ = some (.int .i64 t3501.2.1) := blk_cellv (HS.out.at3) 1 rfl))
    clear hc3513 hc3514
    obtain ⟨t3515, HA3516, H⟩ := bind_some H
    refine (ground_Ground_Word.calls l3472 t3501.2.2.2 a3478 a3479 a3480 a3481 t3501.1 t3501.2.1 g3468 g3470 A3473 l3472.length n3475 t3515 _ ⟨HGl0.out.pass HS.out⟩ ⟨HS.out.begin⟩ HA3516).mono ?_
    rintro e_ w3517 ⟨rfl, hS⟩
    replace HS : Aside0 (Sep FF w [b8 g3468 g3470 a3478 a3479 a3480 a3481, b7 g3470 A3473 l3472.length n3475 t3515.2, r6 A3473 l3472.length n3475 l3472, b22 g3504 t3501.1 t3501.2.1] w3517) := ⟨HS.out.call hS⟩
    clear hS
    replace HS : Aside0 (Sep FF w [b8 g3468 g3470 a3478 a3479 a3480 a3481, b7 g3470 A3473 l3472.length n3475 t3515.2, r6 A3473 l3472.length n3475 l3472] w3517) := ⟨HS.out.sub (.cons_cons _ (.cons_cons _ (.cons_cons _ (.cons _ .slnil))))⟩
    go_wp2_with fail
    go_ret2
    rw [← some_eq H]
    exact ⟨(by first | rfl | (simp [IntKind.wrap_u32]; done)), HS.out⟩
  · replace H := if_no c3512 H
    have c3512b0 : (t3501.2.2.1 == 0) = false := beq_eq_false_iff_ne.mpr c3512
    have c3512b1 : (t3501.2.2.1 != 0) = true := bne_iff_ne.mpr c3512
    clear c3512
    go_wp2_with (first | ((with_reducible refine gate_dst (N := 8) rfl ?_); refine box_on ?hg (N := 8) ?hd (cs := #[.int .i64 0, .int .i64 0]) (t := 142) ?hr ?_; (case hd => rfl); (case hg => rfl); (case hr => first | (go_simp; done) | (go_simp; rfl)); intro g3504 hg w3505 hbox hb; replace HS : Aside0 (Sep FF w [b8 g3468 g3470 a3478 a3479 a3480 a3481, b7 g3470 A3473 l3472.length n3475 t3501.2.2.2, r6 A3473 l3472.length n3475 l3472, b22 g3504 0 0] w3505) := ⟨HS.out.box hg hbox hb⟩; clear hg hbox hb; have hc3507 : w3505.cell? ⟨g3504, 0, none⟩ = some (.int .i64 0) := blk_cellv (HS.out.at3) 0 rfl; have hz3508 : w3505.frozen? ⟨g3504, 0, none⟩ = false := blk_fz (HS.out.at3) 0; have hc3509 : w3505.cell? ⟨g3504, 1, none⟩ = some (.int .i64 0) := blk_cellv (HS.out.at3) 1 rfl; have hz3510 : w3505.frozen? ⟨g3504, 1, none⟩ = false := blk_fz (HS.out.at3) 1) | ((with_reducible refine gate_store (t := 142) (p := 8) rfl ?_); refine store_event (w1 := (World.setCell (World.setCell w3505 ⟨g3504, 0, none⟩ (.int .i64 t3501.1)) ⟨g3504, 1, none⟩ (.int .i64 t3501.2.1))) rfl (t := 142) (p := 8) rfl rfl ?hr ?_; (case hr => first | (go_simp; done) | (go_simp; rfl)); intro w3511 hst; clear hc3507 hz3508 hc3509 hz3510; have hq0 : Sep FF w [b8 g3468 g3470 a3478 a3479 a3480 a3481, b7 g3470 A3473 l3472.length n3475 t3501.2.2.2, r6 A3473 l3472.length n3475 l3472, b22 g3504 t3501.1 0] (World.setCell w3505 ⟨g3504, 0, none⟩ (.int .i64 t3501.1)) := (HS.out).set1 (l1 := [b8 g3468 g3470 a3478 a3479 a3480 a3481, b7 g3470 A3473 l3472.length n3475 t3501.2.2.2, r6 A3473 l3472.length n3475 l3472]) (l2 := []) 0 (.int .i64 t3501.1); have hq1 : Sep FF w [b8 g3468 g3470 a3478 a3479 a3480 a3481, b7 g3470 A3473 l3472.length n3475 t3501.2.2.2, r6 A3473 l3472.length n3475 l3472, b22 g3504 t3501.1 t3501.2.1] (World.setCell (World.setCell w3505 ⟨g3504, 0, none⟩ (.int .i64 t3501.1)) ⟨g3504, 1, none⟩ (.int .i64 t3501.2.1)) := (hq0).set1 (l1 := [b8 g3468 g3470 a3478 a3479 a3480 a3481, b7 g3470 A3473 l3472.length n3475 t3501.2.2.2, r6 A3473 l3472.length n3475 l3472]) (l2 := []) 1 (.int .i64 t3501.2.1); replace HS : Aside0 (Sep FF w [b8 g3468 g3470 a3478 a3479 a3480 a3481, b7 g3470 A3473 l3472.length n3475 t3501.2.2.2, r6 A3473 l3472.length n3475 l3472, b22 g3504 t3501.1 t3501.2.1] w3511) := ⟨by rw [hst]; exact hq1⟩; clear hq0 hq1; clear hst; replace HS : Aside0 (Sep FF w [b8 g3468 g3470 a3478 a3479 a3480 a3481, b7 g3470 A3473 l3472.length n3475 t3501.2.2.2, r6 A3473 l3472.length n3475 l3472] w3511) := ⟨HS.out.sub (.cons_cons _ (.cons_cons _ (.cons_cons _ (.cons _ .slnil))))⟩))
    go_ret2
    rw [← some_eq H]
    exact ⟨(by first | rfl | (simp [IntKind.wrap_u32]; done)), HS.out⟩

set_option maxHeartbeats 30000000 in
set_option maxRecDepth 100000 in
theorem obj_SetPtr.calls (k : Nat) (l3528 : List Int) (a3533 : Int) (a3534 : Int) (a3535 : Int) (a3536 : Int) (a3537 : Int) (a3538 : Int) (a3539 : Int) (a3540 : Int) (g3524 : Nat) (g3526 : Nat) (A3529 : Option Addr) (m3530 : Nat) (n3531 : Nat) (r : Int × Int × List Int) (w : World)  (HGl0 : Aside0 (Gl 0 #[.int .i64 0, .int .i64 0, .int .i64 0, .int .i64 0, .int .i64 0] (fps [b8 g3524 g3526 a3534 a3535 a3536 a3537, b7 g3526 A3529 m3530 n3531 a3533, r6 A3529 m3530 n3531 l3528]) w)) (HS : Aside0 (Sep (fps [b8 g3524 g3526 a3534 a3535 a3536 a3537, b7 g3526 A3529 m3530 n3531 a3533, r6 A3529 m3530 n3531 l3528]) w [b8 g3524 g3526 a3534 a3535 a3536 a3537, b7 g3526 A3529 m3530 n3531 a3533, r6 A3529 m3530 n3531 l3528] w)) (H : Aside0 (obj_SetPtr.f k l3528 a3533 a3534 a3535 a3536 a3537 a3538 a3539 a3540 = some r)) :
    Calls Tryd.prog 58 #[.pointer (some ⟨g3524, 0, none⟩), .int .i64 a3538, .int .i64 a3539, .int .i64 a3540] w fun e w' => e = .returned (.int .i64 r.1) ∧ Sep (fps [b8 g3524 g3526 a3534 a3535 a3536 a3537, b7 g3526 A3529 m3530 n3531 a3533, r6 A3529 m3530 n3531 l3528]) w [b8 g3524 g3526 a3534 a3535 a3536 a3537, b7 g3526 A3529 m3530 n3531 r.2.1, r6 A3529 m3530 n3531 r.2.2] w' := by
  generalize (fps [b8 g3524 g3526 a3534 a3535 a3536 a3537, b7 g3526 A3529 m3530 n3531 a3533, r6 A3529 m3530 n3531 l3528]) = FF at HS HGl0 ⊢
  obtain rfl := (row_len (HS.out.at2)).symm
  unfold obj_SetPtr.f at H
  go_enter Tryd.func58, Tryd.ntmps58
  go_wp2_with fail
  obtain ⟨t3577, HA3578, H⟩ := bind_some H
  refine (obj_field.calls _ l3528 a3533 a3534 a3535 a3536 a3537 a3538 a3539 false g3524 g3526 A3529 l3528.length n3531 t3577 _ ⟨HGl0.out.pass HS.out⟩ ⟨HS.out.begin⟩ HA3578).mono ?_
  rintro e_ w3579 ⟨rfl, hS⟩
  replace HS : Aside0 (Sep FF w [b8 g3524 g3526 a3534 a3535 a3536 a3537, b7 g3526 A3529 l3528.length n3531 t3577.2.2.2, r6 A3529 l3528.length n3531 l3528] w3579) := ⟨HS.out.call hS⟩
  clear hS
  by_cases c3588 : t3577.2.2.1 = 0
  · replace H := if_yes c3588 H
    have c3588b0 : (t3577.2.2.1 == 0) = true := beq_iff_eq.mpr c3588
    have c3588b1 : (t3577.2.2.1 != 0) = false := bne_eq_false_iff_eq.mpr c3588
    clear c3588
    by_cases c3589 : a3540 < 0
    · replace H := if_yes c3589 H
      have c3589b0 : decide (a3540 < 0) = true := decide_eq_true c3589
      clear c3589
      go_wp2_with (first | ((with_reducible refine gate_dst (N := 9) rfl ?_); refine box_on ?hg (N := 9) ?hd (cs := #[.int .i64 0, .int .i64 0]) (t := 142) ?hr ?_; (case hd => rfl); (case hg => rfl); (case hr => first | (go_simp; done) | (go_simp; rfl)); intro g3580 hg w3581 hbox hb; replace HS : Aside0 (Sep FF w [b8 g3524 g3526 a3534 a3535 a3536 a3537, b7 g3526 A3529 l3528.length n3531 t3577.2.2.2, r6 A3529 l3528.length n3531 l3528, b22 g3580 0 0] w3581) := ⟨HS.out.box hg hbox hb⟩; clear hg hbox hb; have hc3583 : w3581.cell? ⟨g3580, 0, none⟩ = some (.int .i64 0) := blk_cellv (HS.out.at3) 0 rfl; have hz3584 : w3581.frozen? ⟨g3580, 0, none⟩ = false := blk_fz (HS.out.at3) 0; have hc3585 : w3581.cell? ⟨g3580, 1, none⟩ = some (.int .i64 0) := blk_cellv (HS.out.at3) 1 rfl; have hz3586 : w3581.frozen? ⟨g3580, 1, none⟩ = false := blk_fz (HS.out.at3) 1) | ((with_reducible refine gate_store (t := 142) (p := 9) rfl ?_); refine store_event (w1 := (World.setCell (World.setCell w3581 ⟨g3580, 0, none⟩ (.int .i64 t3577.1)) ⟨g3580, 1, none⟩ (.int .i64 t3577.2.1))) rfl (t := 142) (p := 9) rfl rfl ?hr ?_; (case hr => first | (go_simp; done) | (go_simp; rfl)); intro w3587 hst; clear hc3583 hz3584 hc3585 hz3586; have hq0 : Sep FF w [b8 g3524 g3526 a3534 a3535 a3536 a3537, b7 g3526 A3529 l3528.length n3531 t3577.2.2.2, r6 A3529 l3528.length n3531 l3528, b22 g3580 t3577.1 0] (World.setCell w3581 ⟨g3580, 0, none⟩ (.int .i64 t3577.1)) := (HS.out).set1 (l1 := [b8 g3524 g3526 a3534 a3535 a3536 a3537, b7 g3526 A3529 l3528.length n3531 t3577.2.2.2, r6 A3529 l3528.length n3531 l3528]) (l2 := []) 0 (.int .i64 t3577.1); have hq1 : Sep FF w [b8 g3524 g3526 a3534 a3535 a3536 a3537, b7 g3526 A3529 l3528.length n3531 t3577.2.2.2, r6 A3529 l3528.length n3531 l3528, b22 g3580 t3577.1 t3577.2.1] (World.setCell (World.setCell w3581 ⟨g3580, 0, none⟩ (.int .i64 t3577.1)) ⟨g3580, 1, none⟩ (.int .i64 t3577.2.1)) := (hq0).set1 (l1 := [b8 g3524 g3526 a3534 a3535 a3536 a3537, b7 g3526 A3529 l3528.length n3531 t3577.2.2.2, r6 A3529 l3528.length n3531 l3528]) (l2 := []) 1 (.int .i64 t3577.2.1); replace HS : Aside0 (Sep FF w [b8 g3524 g3526 a3534 a3535 a3536 a3537, b7 g3526 A3529 l3528.length n3531 t3577.2.2.2, r6 A3529 l3528.length n3531 l3528, b22 g3580 t3577.1 t3577.2.1] w3587) := ⟨by rw [hst]; exact hq1⟩; clear hq0 hq1; clear hst; replace HS : Aside0 (Sep FF w [b8 g3524 g3526 a3534 a3535 a3536 a3537, b7 g3526 A3529 l3528.length n3531 t3577.2.2.2, r6 A3529 l3528.length n3531 l3528] w3587) := ⟨HS.out.sub (.cons_cons _ (.cons_cons _ (.cons_cons _ (.cons _ .slnil))))⟩))
      go_ret
      rw [← some_eq H]
      exact ⟨(by first | rfl | (simp [IntKind.wrap_u32]; done)), HS.out⟩
    · replace H := if_no c3589 H
      have c3589b0 : decide (a3540 < 0) = false := decide_eq_false c3589
      clear c3589
      go_wp2_with (first | ((with_reducible refine gate_dst (N := 9) rfl ?_); refine box_on ?hg (N := 9) ?hd (cs := #[.int .i64 0, .int .i64 0]) (t := 142) ?hr ?_; (case hd => rfl); (case hg => rfl); (case hr => first | (go_simp; done) | (go_simp; rfl)); intro g3580 hg w3581 hbox hb; replace HS : Aside0 (Sep FF w [b8 g3524 g3526 a3534 a3535 a3536 a3537, b7 g3526 A3529 l3528.length n3531 t3577.2.2.2, r6 A3529 l3528.length n3531 l3528, b22 g3580 0 0] w3581) := ⟨HS.out.box hg hbox hb⟩; clear hg hbox hb; have hc3583 : w3581.cell? ⟨g3580, 0, none⟩ = some (.int .i64 0) := blk_cellv (HS.out.at3) 0 rfl; have hz3584 : w3581.frozen? ⟨g3580, 0, none⟩ = false := blk_fz (HS.out.at3) 0; have hc3585 : w3581.cell? ⟨g3580, 1, none⟩ = some (.int .i64 0) := blk_cellv (HS.out.at3) 1 rfl; have hz3586 : w3581.frozen? ⟨g3580, 1, none⟩ = false := blk_fz (HS.out.at3) 1) | ((with_reducible refine gate_store (t := 142) (p := 9) rfl ?_); refine store_event (w1 := (World.setCell (World.setCell w3581 ⟨g3580, 0, none⟩ (.int .i64 t3577.1)) ⟨g3580, 1, none⟩ (.int .i64 t3577.2.1))) rfl (t := 142) (p := 9) rfl rfl ?hr ?_; (case hr => first | (go_simp; done) | (go_simp; rfl)); intro w3587 hst; clear hc3583 hz3584 hc3585 hz3586; have hq0 : Sep FF w [b8 g3524 g3526 a3534 a3535 a3536 a3537, b7 g3526 A3529 l3528.length n3531 t3577.2.2.2, r6 A3529 l3528.length n3531 l3528, b22 g3580 t3577.1 0] (World.setCell w3581 ⟨g3580, 0, none⟩ (.int .i64 t3577.1)) := (HS.out).set1 (l1 := [b8 g3524 g3526 a3534 a3535 a3536 a3537, b7 g3526 A3529 l3528.length n3531 t3577.2.2.2, r6 A3529 l3528.length n3531 l3528]) (l2 := []) 0 (.int .i64 t3577.1); have hq1 : Sep FF w [b8 g3524 g3526 a3534 a3535 a3536 a3537, b7 g3526 A3529 l3528.length n3531 t3577.2.2.2, r6 A3529 l3528.length n3531 l3528, b22 g3580 t3577.1 t3577.2.1] (World.setCell (World.setCell w3581 ⟨g3580, 0, none⟩ (.int .i64 t3577.1)) ⟨g3580, 1, none⟩ (.int .i64 t3577.2.1)) := (hq0).set1 (l1 := [b8 g3524 g3526 a3534 a3535 a3536 a3537, b7 g3526 A3529 l3528.length n3531 t3577.2.2.2, r6 A3529 l3528.length n3531 l3528]) (l2 := []) 1 (.int .i64 t3577.2.1); replace HS : Aside0 (Sep FF w [b8 g3524 g3526 a3534 a3535 a3536 a3537, b7 g3526 A3529 l3528.length n3531 t3577.2.2.2, r6 A3529 l3528.length n3531 l3528, b22 g3580 t3577.1 t3577.2.1] w3587) := ⟨by rw [hst]; exact hq1⟩; clear hq0 hq1; clear hst))
      obtain ⟨t3590, HA3591, H⟩ := bind_some H
      refine (ground_Ground_Conf.calls l3528 t3577.2.2.2 a3534 a3535 a3536 a3537 g3524 g3526 A3529 l3528.length n3531 t3590 _ ⟨HGl0.out.pass HS.out⟩ ⟨HS.out.begin⟩ HA3591).mono ?_
      rintro e_ w3592 ⟨rfl, hS⟩
      replace HS : Aside0 (Sep FF w [b8 g3524 g3526 a3534 a3535 a3536 a3537, b7 g3526 A3529 l3528.length n3531 t3577.2.2.2, r6 A3529 l3528.length n3531 l3528, b22 g3580 t3577.1 t3577.2.1] w3592) := ⟨HS.out.call hS⟩
      clear hS
      by_cases c3594 : a3540 > t3590.1
      · replace H := if_yes c3594 H
        have c3594b0 : decide (t3590.1 < a3540) = true := decide_eq_true c3594
        clear c3594
        have fl3593 : ∀ w, (Instr.field 30 (.agg #[.int .i64 t3590.1, .int .i64 t3590.2.1, .int .i64 t3590.2.2.1, .int .i64 t3590.2.2.2]) 0).run Tryd.prog w = .ok (.int .i64 t3590.1) w := fun _ => by kernel_rfl
        replace HS : Aside0 (Sep FF w [b8 g3524 g3526 a3534 a3535 a3536 a3537, b7 g3526 A3529 l3528.length n3531 t3577.2.2.2, r6 A3529 l3528.length n3531 l3528] w3592) := ⟨HS.out.sub (.cons_cons _ (.cons_cons _ (.cons_cons _ (.cons _ .slnil))))⟩
        go_wp2_with fail
        clear fl3593
        go_ret
        rw [← some_eq H]
        exact ⟨(by first | rfl | (simp [IntKind.wrap_u32]; done)), HS.out⟩
      · replace H := if_no c3594 H
        have c3594b0 : decide (t3590.1 < a3540) = false := decide_eq_false c3594
        clear c3594
        have fl3593 : ∀ w, (Instr.field 30 (.agg #[.int .i64 t3590.1, .int .i64 t3590.2.1, .int .i64 t3590.2.2.1, .int .i64 t3590.2.2.2]) 0).run Tryd.prog w = .ok (.int .i64 t3590.1) w := fun _ => by kernel_rfl
        have hc3595 : w3592.cell? ⟨g3580, 0, none⟩ = some (.int .i64 t3577.1) := blk_cellv (HS.out.at3) 0 rfl
        have hc3596 : w3592.cell? ⟨g3580, 1, none⟩ = some (.int .i64 t3577.2.1) := blk_cellv (HS.out.at3) 1 rfl
        go_wp2_with fail
        clear fl3593 hc3595 hc3596
        obtain ⟨t3597, HA3598, H⟩ := bind_some H
        refine (ground_Ground_SetWord.calls l3528 t3577.2.2.2 a3534 a3535 a3536 a3537 t3577.1 t3577.2.1 ((a3540) % 4294967296) g3524 g3526 A3529 l3528.length n3531 t3597 _ ⟨HGl0.out.pass HS.out⟩ ⟨HS.out.begin⟩ HA3598).mono ?_
        rintro e_ w3599 ⟨rfl, hS⟩
        replace HS : Aside0 (Sep FF w [b8 g3524 g3526 a3534 a3535 a3536 a3537, b7 g3526 A3529 l3528.length n3531 t3597.2.1, r6 A3529 l3528.length n3531 t3597.2.2, b22 g3580 t3577.1 t3577.2.1] w3599) := ⟨HS.out.call hS⟩
        clear hS
        replace HS : Aside0 (Sep FF w [b8 g3524 g3526 a3534 a3535 a3536 a3537, b7 g3526 A3529 l3528.length n3531 t3597.2.1, r6 A3529 l3528.length n3531 t3597.2.2] w3599) := ⟨HS.out.sub (.cons_cons _ (.cons_cons _ (.cons_cons _ (.cons _ .slnil))))⟩
        go_wp2_with fail
        go_ret
        rw [← some_eq H]
        exact ⟨(by first | rfl | (simp [IntKind.wrap_u32]; done)), HS.out⟩
  · replace H := if_no c3588 H
    have c3588b0 : (t3577.2.2.1 == 0) = false := beq_eq_false_iff_ne.mpr c3588
    have c3588b1 : (t3577.2.2.1 != 0) = true := bne_iff_ne.mpr c3588
    clear c3588
    go_wp2_with (first | ((with_reducible refine gate_dst (N := 9) rfl ?_); refine box_on ?hg (N := 9) ?hd (cs := #[.int .i64 0, .int .i64 0]) (t := 142) ?hr ?_; (case hd => rfl); (case hg => rfl); (case hr => first | (go_simp; done) | (go_simp; rfl)); intro g3580 hg w3581 hbox hb; replace HS : Aside0 (Sep FF w [b8 g3524 g3526 a3534 a3535 a3536 a3537, b7 g3526 A3529 l3528.length n3531 t3577.2.2.2, r6 A3529 l3528.length n3531 l3528, b22 g3580 0 0] w3581) := ⟨HS.out.box hg hbox hb⟩; clear hg hbox hb; have hc3583 : w3581.cell? ⟨g3580, 0, none⟩ = some (.int .i64 0) := blk_cellv (HS.out.at3) 0 rfl; have hz3584 : w3581.frozen? ⟨g3580, 0, none⟩ = false := blk_fz (HS.out.at3) 0; have hc3585 : w3581.cell? ⟨g3580, 1, none⟩ = some (.int .i64 0) := blk_cellv (HS.out.at3) 1 rfl; have hz3586 : w3581.frozen? ⟨g3580, 1, none⟩ = false := blk_fz (HS.out.at3) 1) | ((with_reducible refine gate_store (t := 142) (p := 9) rfl ?_); refine store_event (w1 := (World.setCell (World.setCell w3581 ⟨g3580, 0, none⟩ (.int .i64 t3577.1)) ⟨g3580, 1, none⟩ (.int .i64 t3577.2.1))) rfl (t := 142) (p := 9) rfl rfl ?hr ?_; (case hr => first | (go_simp; done) | (go_simp; rfl)); intro w3587 hst; clear hc3583 hz3584 hc3585 hz3586; have hq0 : Sep FF w [b8 g3524 g3526 a3534 a3535 a3536 a3537, b7 g3526 A3529 l3528.length n3531 t3577.2.2.2, r6 A3529 l3528.length n3531 l3528, b22 g3580 t3577.1 0] (World.setCell w3581 ⟨g3580, 0, none⟩ (.int .i64 t3577.1)) := (HS.out).set1 (l1 := [b8 g3524 g3526 a3534 a3535 a3536 a3537, b7 g3526 A3529 l3528.length n3531 t3577.2.2.2, r6 A3529 l3528.length n3531 l3528]) (l2 := []) 0 (.int .i64 t3577.1); have hq1 : Sep FF w [b8 g3524 g3526 a3534 a3535 a3536 a3537, b7 g3526 A3529 l3528.length n3531 t3577.2.2.2, r6 A3529 l3528.length n3531 l3528, b22 g3580 t3577.1 t3577.2.1] (World.setCell (World.setCell w3581 ⟨g3580, 0, none⟩ (.int .i64 t3577.1)) ⟨g3580, 1, none⟩ (.int .i64 t3577.2.1)) := (hq0).set1 (l1 := [b8 g3524 g3526 a3534 a3535 a3536 a3537, b7 g3526 A3529 l3528.length n3531 t3577.2.2.2, r6 A3529 l3528.length n3531 l3528]) (l2 := []) 1 (.int .i64 t3577.2.1); replace HS : Aside0 (Sep FF w [b8 g3524 g3526 a3534 a3535 a3536 a3537, b7 g3526 A3529 l3528.length n3531 t3577.2.2.2, r6 A3529 l3528.length n3531 l3528, b22 g3580 t3577.1 t3577.2.1] w3587) := ⟨by rw [hst]; exact hq1⟩; clear hq0 hq1; clear hst; replace HS : Aside0 (Sep FF w [b8 g3524 g3526 a3534 a3535 a3536 a3537, b7 g3526 A3529 l3528.length n3531 t3577.2.2.2, r6 A3529 l3528.length n3531 l3528] w3587) := ⟨HS.out.sub (.cons_cons _ (.cons_cons _ (.cons_cons _ (.cons _ .slnil))))⟩))
    go_ret
    rw [← some_eq H]
    exact ⟨(by first | rfl | (simp [IntKind.wrap_u32]; done)), HS.out⟩

set_option maxHeartbeats 30000000 in
set_option maxRecDepth 100000 in
theorem obj_Ptr.calls (k : Nat) (l3618 : List Int) (a3623 : Int) (a3624 : Int) (a3625 : Int) (a3626 : Int) (a3627 : Int) (a3628 : Int) (a3629 : Int) (g3614 : Nat) (g3616 : Nat) (A3619 : Option Addr) (m3620 : Nat) (n3621 : Nat) (r : Int × Int × Int) (w : World)  (HGl0 : Aside0 (Gl 0 #[.int .i64 0, .int .i64 0, .int .i64 0, .int .i64 0, .int .i64 0] (fps [b8 g3614 g3616 a3624 a3625 a3626 a3627, b7 g3616 A3619 m3620 n3621 a3623, r6 A3619 m3620 n3621 l3618]) w)) (HS : Aside0 (Sep (fps [b8 g3614 g3616 a3624 a3625 a3626 a3627, b7 g3616 A3619 m3620 n3621 a3623, r6 A3619 m3620 n3621 l3618]) w [b8 g3614 g3616 a3624 a3625 a3626 a3627, b7 g3616 A3619 m3620 n3621 a3623, r6 A3619 m3620 n3621 l3618] w)) (H : Aside0 (obj_Ptr.f k l3618 a3623 a3624 a3625 a3626 a3627 a3628 a3629 = some r)) :
    Calls Tryd.prog 59 #[.pointer (some ⟨g3614, 0, none⟩), .int .i64 a3628, .int .i64 a3629] w fun e w' => e = .returned (.tuple #[.int .i64 r.1, .int .i64 r.2.1]) ∧ Sep (fps [b8 g3614 g3616 a3624 a3625 a3626 a3627, b7 g3616 A3619 m3620 n3621 a3623, r6 A3619 m3620 n3621 l3618]) w [b8 g3614 g3616 a3624 a3625 a3626 a3627, b7 g3616 A3619 m3620 n3621 r.2.2, r6 A3619 m3620 n3621 l3618] w' := by
  generalize (fps [b8 g3614 g3616 a3624 a3625 a3626 a3627, b7 g3616 A3619 m3620 n3621 a3623, r6 A3619 m3620 n3621 l3618]) = FF at HS HGl0 ⊢
  obtain rfl := (row_len (HS.out.at2)).symm
  unfold obj_Ptr.f at H
  go_enter Tryd.func59, Tryd.ntmps59
  go_wp2_with fail
  obtain ⟨t3647, HA3648, H⟩ := bind_some H
  refine (obj_field.calls _ l3618 a3623 a3624 a3625 a3626 a3627 a3628 a3629 false g3614 g3616 A3619 l3618.length n3621 t3647 _ ⟨HGl0.out.pass HS.out⟩ ⟨HS.out.begin⟩ HA3648).mono ?_
  rintro e_ w3649 ⟨rfl, hS⟩
  replace HS : Aside0 (Sep FF w [b8 g3614 g3616 a3624 a3625 a3626 a3627, b7 g3616 A3619 l3618.length n3621 t3647.2.2.2, r6 A3619 l3618.length n3621 l3618] w3649) := ⟨HS.out.call hS⟩
  clear hS
  by_cases c3658 : t3647.2.2.1 = 0
  · replace H := if_yes c3658 H
    have c3658b0 : (t3647.2.2.1 == 0) = true := beq_iff_eq.mpr c3658
    have c3658b1 : (t3647.2.2.1 != 0) = false := bne_eq_false_iff_eq.mpr c3658
    clear c3658
    go_wp2_with (first | ((with_reducible refine gate_dst (N := 8) rfl ?_); refine box_on ?hg (N := 8) ?hd (cs := #[.int .i64 0, .int .i64 0]) (t := 142) ?hr ?_; (case hd => rfl); (case hg => rfl); (case hr => first | (go_simp; done) | (go_simp; rfl)); intro g3650 hg w3651 hbox hb; replace HS : Aside0 (Sep FF w [b8 g3614 g3616 a3624 a3625 a3626 a3627, b7 g3616 A3619 l3618.length n3621 t3647.2.2.2, r6 A3619 l3618.length n3621 l3618, b22 g3650 0 0] w3651) := ⟨HS.out.box hg hbox hb⟩; clear hg hbox hb; have hc3653 : w3651.cell? ⟨g3650, 0, none⟩ = some (.int .i64 0) := blk_cellv (HS.out.at3) 0 rfl; have hz3654 : w3651.frozen? ⟨g3650, 0, none⟩ = false := blk_fz (HS.out.at3) 0; have hc3655 : w3651.cell? ⟨g3650, 1, none⟩ = some (.int .i64 0) := blk_cellv (HS.out.at3) 1 rfl; have hz3656 : w3651.frozen? ⟨g3650, 1, none⟩ = false := blk_fz (HS.out.at3) 1) | ((with_reducible refine gate_store (t := 142) (p := 8) rfl ?_); refine store_event (w1 := (World.setCell (World.setCell w3651 ⟨g3650, 0, none⟩ (.int .i64 t3647.1)) ⟨g3650, 1, none⟩ (.int .i64 t3647.2.1))) rfl (t := 142) (p := 8) rfl rfl ?hr ?_; (case hr => first | (go_simp; done) | (go_simp; rfl)); intro w3657 hst; clear hc3653 hz3654 hc3655 hz3656; have hq0 : Sep FF w [b8 g3614 g3616 a3624 a3625 a3626 a3627, b7 g3616 A3619 l3618.length n3621 t3647.2.2.2, r6 A3619 l3618.length n3621 l3618, b22 g3650 t3647.1 0] (World.setCell w3651 ⟨g3650, 0, none⟩ (.int .i64 t3647.1)) := (HS.out).set1 (l1 := [b8 g3614 g3616 a3624 a3625 a3626 a3627, b7 g3616 A3619 l3618.length n3621 t3647.2.2.2, r6 A3619 l3618.length n3621 l3618]) (l2 := []) 0 (.int .i64 t3647.1); have hq1 : Sep FF w [b8 g3614 g3616 a3624 a3625 a3626 a3627, b7 g3616 A3619 l3618.length n3621 t3647.2.2.2, r6 A3619 l3618.length n3621 l3618, b22 g3650 t3647.1 t3647.2.1] (World.setCell (World.setCell w3651 ⟨g3650, 0, none⟩ (.int .i64 t3647.1)) ⟨g3650, 1, none⟩ (.int .i64 t3647.2.1)) := (hq0).set1 (l1 := [b8 g3614 g3616 a3624 a3625 a3626 a3627, b7 g3616 A3619 l3618.length n3621 t3647.2.2.2, r6 A3619 l3618.length n3621 l3618]) (l2 := []) 1 (.int .i64 t3647.2.1); replace HS : Aside0 (Sep FF w [b8 g3614 g3616 a3624 a3625 a3626 a3627, b7 g3616 A3619 l3618.length n3621 t3647.2.2.2, r6 A3619 l3618.length n3621 l3618, b22 g3650 t3647.1 t3647.2.1] w3657) := ⟨by rw [hst]; exact hq1⟩; clear hq0 hq1; clear hst; have hc3659 : w3657.cell? ⟨g3650, 0, none⟩ = some (.int .i64 t3647.1) := blk_cellv (HS.out.at3) 0 rfl; have hc3660 : w3657.cell? ⟨g3650, 1, none⟩ = some (.int .i64 t3647.2.1) := blk_cellv (HS.out.at3) 1 rfl))
    clear hc3659 hc3660
    obtain ⟨t3661, HA3662, H⟩ := bind_some H
    refine (ground_Ground_Word.calls l3618 t3647.2.2.2 a3624 a3625 a3626 a3627 t3647.1 t3647.2.1 g3614 g3616 A3619 l3618.length n3621 t3661 _ ⟨HGl0.out.pass HS.out⟩ ⟨HS.out.begin⟩ HA3662).mono ?_
    rintro e_ w3663 ⟨rfl, hS⟩
    replace HS : Aside0 (Sep FF w [b8 g3614 g3616 a3624 a3625 a3626 a3627, b7 g3616 A3619 l3618.length n3621 t3661.2, r6 A3619 l3618.length n3621 l3618, b22 g3650 t3647.1 t3647.2.1] w3663) := ⟨HS.out.call hS⟩
    clear hS
    replace HS : Aside0 (Sep FF w [b8 g3614 g3616 a3624 a3625 a3626 a3627, b7 g3616 A3619 l3618.length n3621 t3661.2, r6 A3619 l3618.length n3621 l3618] w3663) := ⟨HS.out.sub (.cons_cons _ (.cons_cons _ (.cons_cons _ (.cons _ .slnil))))⟩
    go_wp2_with fail
    go_ret2
    rw [← some_eq H]
    exact ⟨(by first | rfl | (simp [IntKind.wrap_u32]; done)), HS.out⟩
  · replace H := if_no c3658 H
    have c3658b0 : (t3647.2.2.1 == 0) = false := beq_eq_false_iff_ne.mpr c3658
    have c3658b1 : (t3647.2.2.1 != 0) = true := bne_iff_ne.mpr c3658
    clear c3658
    go_wp2_with (first | ((with_reducible refine gate_dst (N := 8) rfl ?_); refine box_on ?hg (N := 8) ?hd (cs := #[.int .i64 0, .int .i64 0]) (t := 142) ?hr ?_; (case hd => rfl); (case hg => rfl); (case hr => first | (go_simp; done) | (go_simp; rfl)); intro g3650 hg w3651 hbox hb; replace HS : Aside0 (Sep FF w [b8 g3614 g3616 a3624 a3625 a3626 a3627, b7 g3616 A3619 l3618.length n3621 t3647.2.2.2, r6 A3619 l3618.length n3621 l3618, b22 g3650 0 0] w3651) := ⟨HS.out.box hg hbox hb⟩; clear hg hbox hb; have hc3653 : w3651.cell? ⟨g3650, 0, none⟩ = some (.int .i64 0) := blk_cellv (HS.out.at3) 0 rfl; have hz3654 : w3651.frozen? ⟨g3650, 0, none⟩ = false := blk_fz (HS.out.at3) 0; have hc3655 : w3651.cell? ⟨g3650, 1, none⟩ = some (.int .i64 0) := blk_cellv (HS.out.at3) 1 rfl; have hz3656 : w3651.frozen? ⟨g3650, 1, none⟩ = false := blk_fz (HS.out.at3) 1) | ((with_reducible refine gate_store (t := 142) (p := 8) rfl ?_); refine store_event (w1 := (World.setCell (World.setCell w3651 ⟨g3650, 0, none⟩ (.int .i64 t3647.1)) ⟨g3650, 1, none⟩ (.int .i64 t3647.2.1))) rfl (t := 142) (p := 8) rfl rfl ?hr ?_; (case hr => first | (go_simp; done) | (go_simp; rfl)); intro w3657 hst; clear hc3653 hz3654 hc3655 hz3656; have hq0 : Sep FF w [b8 g3614 g3616 a3624 a3625 a3626 a3627, b7 g3616 A3619 l3618.length n3621 t3647.2.2.2, r6 A3619 l3618.length n3621 l3618, b22 g3650 t3647.1 0] (World.setCell w3651 ⟨g3650, 0, none⟩ (.int .i64 t3647.1)) := (HS.out).set1 (l1 := [b8 g3614 g3616 a3624 a3625 a3626 a3627, b7 g3616 A3619 l3618.length n3621 t3647.2.2.2, r6 A3619 l3618.length n3621 l3618]) (l2 := []) 0 (.int .i64 t3647.1); have hq1 : Sep FF w [b8 g3614 g3616 a3624 a3625 a3626 a3627, b7 g3616 A3619 l3618.length n3621 t3647.2.2.2, r6 A3619 l3618.length n3621 l3618, b22 g3650 t3647.1 t3647.2.1] (World.setCell (World.setCell w3651 ⟨g3650, 0, none⟩ (.int .i64 t3647.1)) ⟨g3650, 1, none⟩ (.int .i64 t3647.2.1)) := (hq0).set1 (l1 := [b8 g3614 g3616 a3624 a3625 a3626 a3627, b7 g3616 A3619 l3618.length n3621 t3647.2.2.2, r6 A3619 l3618.length n3621 l3618]) (l2 := []) 1 (.int .i64 t3647.2.1); replace HS : Aside0 (Sep FF w [b8 g3614 g3616 a3624 a3625 a3626 a3627, b7 g3616 A3619 l3618.length n3621 t3647.2.2.2, r6 A3619 l3618.length n3621 l3618, b22 g3650 t3647.1 t3647.2.1] w3657) := ⟨by rw [hst]; exact hq1⟩; clear hq0 hq1; clear hst; replace HS : Aside0 (Sep FF w [b8 g3614 g3616 a3624 a3625 a3626 a3627, b7 g3616 A3619 l3618.length n3621 t3647.2.2.2, r6 A3619 l3618.length n3621 l3618] w3657) := ⟨HS.out.sub (.cons_cons _ (.cons_cons _ (.cons_cons _ (.cons _ .slnil))))⟩))
    go_ret2
    rw [← some_eq H]
    exact ⟨(by first | rfl | (simp [IntKind.wrap_u32]; done)), HS.out⟩

set_option maxHeartbeats 30000000 in
set_option maxRecDepth 100000 in
theorem obj_Blocks.calls (k : Nat) (l3756 : List Int) (a3761 : Int) (a3762 : Int) (a3763 : Int) (a3764 : Int) (a3765 : Int) (a3766 : Int) (g3752 : Nat) (g3754 : Nat) (A3757 : Option Addr) (m3758 : Nat) (n3759 : Nat) (r : Int × Int) (w : World)  (HGl0 : Aside0 (Gl 0 #[.int .i64 0, .int .i64 0, .int .i64 0, .int .i64 0, .int .i64 0] (fps [b8 g3752 g3754 a3762 a3763 a3764 a3765, b7 g3754 A3757 m3758 n3759 a3761, r6 A3757 m3758 n3759 l3756]) w)) (HS : Aside0 (Sep (fps [b8 g3752 g3754 a3762 a3763 a3764 a3765, b7 g3754 A3757 m3758 n3759 a3761, r6 A3757 m3758 n3759 l3756]) w [b8 g3752 g3754 a3762 a3763 a3764 a3765, b7 g3754 A3757 m3758 n3759 a3761, r6 A3757 m3758 n3759 l3756] w)) (H : Aside0 (obj_Blocks.f k l3756 a3761 a3762 a3763 a3764 a3765 a3766 = some r)) :
    Calls Tryd.prog 45 #[.pointer (some ⟨g3752, 0, none⟩), .int .i64 a3766] w fun e w' => e = .returned (.int .i64 r.1) ∧ Sep (fps [b8 g3752 g3754 a3762 a3763 a3764 a3765, b7 g3754 A3757 m3758 n3759 a3761, r6 A3757 m3758 n3759 l3756]) w [b8 g3752 g3754 a3762 a3763 a3764 a3765, b7 g3754 A3757 m3758 n3759 r.2, r6 A3757 m3758 n3759 l3756] w' := by
  generalize (fps [b8 g3752 g3754 a3762 a3763 a3764 a3765, b7 g3754 A3757 m3758 n3759 a3761, r6 A3757 m3758 n3759 l3756]) = FF at HS HGl0 ⊢
  obtain rfl := (row_len (HS.out.at2)).symm
  unfold obj_Blocks.f at H
  go_enter Tryd.func45, Tryd.ntmps45
  go_wp2_with fail
  obtain ⟨t3778, HA3779, H⟩ := bind_some H
  refine (obj_Lens.calls l3756 a3761 a3762 a3763 a3764 a3765 a3766 g3752 g3754 A3757 l3756.length n3759 t3778 _ ⟨HGl0.out.pass HS.out⟩ ⟨HS.out.begin⟩ HA3779).mono ?_
  rintro e_ w3780 ⟨rfl, hS⟩
  replace HS : Aside0 (Sep FF w [b8 g3752 g3754 a3762 a3763 a3764 a3765, b7 g3754 A3757 l3756.length n3759 t3778.2.2.2, r6 A3757 l3756.length n3759 l3756] w3780) := ⟨HS.out.call hS⟩
  clear hS
  by_cases c3781 : t3778.2.2.1 = 0
  · replace H := if_yes c3781 H
    have c3781b0 : (t3778.2.2.1 == 0) = true := beq_iff_eq.mpr c3781
    have c3781b1 : (t3778.2.2.1 != 0) = false := bne_eq_false_iff_eq.mpr c3781
    clear c3781
    go_wp2_with fail
    obtain ⟨t3782, HA3783, H⟩ := bind_some H
    refine (ground_Ground_Conf.calls l3756 t3778.2.2.2 a3762 a3763 a3764 a3765 g3752 g3754 A3757 l3756.length n3759 t3782 _ ⟨HGl0.out.pass HS.out⟩ ⟨HS.out.begin⟩ HA3783).mono ?_
    rintro e_ w3784 ⟨rfl, hS⟩
    replace HS : Aside0 (Sep FF w [b8 g3752 g3754 a3762 a3763 a3764 a3765, b7 g3754 A3757 l3756.length n3759 t3778.2.2.2, r6 A3757 l3756.length n3759 l3756] w3784) := ⟨HS.out.call hS⟩
    clear hS
    have fl3785 : ∀ w, (Instr.field 30 (.agg #[.int .i64 t3782.1, .int .i64 t3782.2.1, .int .i64 t3782.2.2.1, .int .i64 t3782.2.2.2]) 1).run Tryd.prog w = .ok (.int .i64 t3782.2.1) w := fun _ => by kernel_rfl
    go_wp2_with fail
    clear fl3785
    obtain ⟨t3786, HA3787, H⟩ := bind_some H
    refine (shape_Blocks.calls _ t3782.2.1 t3778.1 t3778.2.1 t3786 _ ⟨HGl0.out.pass (l := []) HS.out⟩ ⟨Sep.start _⟩ HA3787).mono ?_
    rintro e_ w3788 ⟨rfl, hS⟩
    replace HS : Aside0 (Sep FF w [b8 g3752 g3754 a3762 a3763 a3764 a3765, b7 g3754 A3757 l3756.length n3759 t3778.2.2.2, r6 A3757 l3756.length n3759 l3756] w3788) := ⟨HS.out.call hS⟩
    clear hS
    go_wp2_with fail
    go_ret
    rw [← some_eq H]
    exact ⟨(by first | rfl | (simp [IntKind.wrap_u32]; done)), HS.out⟩
  · replace H := if_no c3781 H
    have c3781b0 : (t3778.2.2.1 == 0) = false := beq_eq_false_iff_ne.mpr c3781
    have c3781b1 : (t3778.2.2.1 != 0) = true := bne_iff_ne.mpr c3781
    clear c3781
    go_wp2_with fail
    go_ret
    rw [← some_eq H]
    exact ⟨(by first | rfl | (simp [IntKind.wrap_u32]; done)), HS.out⟩

set_option maxHeartbeats 30000000 in
set_option maxRecDepth 100000 in
theorem chain_Push_1.calls (a3945 : Int) (a3946 : Int) (a3947 : Int) (a3948 : Int) (a3949 : Int) (l3957 : List Int) (a3962 : Int) (a3963 : Int) (a3964 : Int) (a3965 : Int) (a3966 : Int) (a3969 : Int) (g3951 : Nat) (g3953 : Nat) (g3955 : Nat) (A3958 : Option Addr) (m3959 : Nat) (n3960 : Nat) (g3968 : Nat) (r : Int × List Int) (w : World)  (HGl0 : Aside0 (Gl 0 #[.int .i64 0, .int .i64 0, .int .i64 0, .int .i64 0, .int .i64 0] (fps [b10 g3951 g3953, b8 g3953 g3955 a3963 a3964 a3965 a3966, b7 g3955 A3958 m3959 n3960 a3962, r6 A3958 m3959 n3960 l3957, b11 g3968 a3969]) w)) (HS : Aside0 (Sep (fps [b10 g3951 g3953, b8 g3953 g3955 a3963 a3964 a3965 a3966, b7 g3955 A3958 m3959 n3960 a3962, r6 A3958 m3959 n3960 l3957, b11 g3968 a3969]) w [b10 g3951 g3953, b8 g3953 g3955 a3963 a3964 a3965 a3966, b7 g3955 A3958 m3959 n3960 a3962, r6 A3958 m3959 n3960 l3957, b11 g3968 a3969] w)) (H : Aside0 (chain_Push_1.f a3945 a3946 a3947 a3948 a3949 l3957 a3962 a3963 a3964 a3965 a3966 a3969 = some r)) :
    Calls Tryd.prog 156 #[.agg #[.int .i64 a3945, .int .i64 a3946, .int .i64 a3947], .int .i64 a3948, .int .i64 a3949, .pointer (some ⟨g3951, 0, none⟩), .pointer (some ⟨g3968, 0, none⟩)] w fun e w' => e = .returned (.tuple #[]) ∧ Sep (fps [b10 g3951 g3953, b8 g3953 g3955 a3963 a3964 a3965 a3966, b7 g3955 A3958 m3959 n3960 a3962, r6 A3958 m3959 n3960 l3957, b11 g3968 a3969]) w [b10 g3951 g3953, b8 g3953 g3955 a3963 a3964 a3965 a3966, b7 g3955 A3958 m3959 n3960 r.1, r6 A3958 m3959 n3960 r.2, b11 g3968 a3969] w' := by
  generalize (fps [b10 g3951 g3953, b8 g3953 g3955 a3963 a3964 a3965 a3966, b7 g3955 A3958 m3959 n3960 a3962, r6 A3958 m3959 n3960 l3957, b11 g3968 a3969]) = FF at HS HGl0 ⊢
  obtain rfl := (row_len (HS.out.at3)).symm
  unfold chain_Push_1.f at H
  go_enter Tryd.func156, Tryd.ntmps156
  go_wp2_with (first | ((with_reducible refine gate_dst (N := 5) rfl ?_); refine box_on ?hg (N := 5) ?hd (cs := #[.int .i64 a3945, .int .i64 a3946, .int .i64 a3947]) (t := 166) ?hr ?_; (case hd => rfl); (case hg => rfl); (case hr => first | (go_simp; done) | (go_simp; rfl)); intro g3992 hg w3993 hbox hb; replace HS : Aside0 (Sep FF w [b10 g3951 g3953, b8 g3953 g3955 a3963 a3964 a3965 a3966, b7 g3955 A3958 l3957.length n3960 a3962, r6 A3958 l3957.length n3960 l3957, b11 g3968 a3969, b9 g3992 a3945 a3946 a3947] w3993) := ⟨HS.out.box hg hbox hb⟩; clear hg hbox hb))
  refine start_ (n := 8) (S := (fun w' => w'.cell? ⟨g3951, 0, none⟩ = some (.pointer (some ⟨g3953, 0, none⟩)) ∧ w'.cell? ⟨g3968, 0, none⟩ = some (.int .i64 a3969) ∧ w'.cell? ⟨g3992, 0, none⟩ = some (.int .i64 a3945))) (ds := []) #[false, false, false, false, false, false, false, false] (by kernel_rfl) rfl rfl (⟨blk_cellv ((HS.out.drew).at0) 0 rfl, blk_cellv ((HS.out.drew).at4) 0 rfl, blk_cellv ((HS.out.drew).at5) 0 rfl⟩) (fun hHeld => ?_)
  have HS_ := Aside0.mk HS.out.drew
  clear HS
  generalize World.drew _ = w3996 at HS_ hHeld ⊢
  have HS := HS_
  clear HS_
  refine pure_ (i := 3) (N := some 11) (v := ?_) (a' := ?_) #[false, false, false, true, false, false, false, false] rfl rfl (by kernel_rfl) (fun _ _ _ h => h) (Or.inl ⟨by rfl, ?_⟩) ?_ ?_
  rotate_left
  · intro w'
    go_simp
    with_reducible rfl
  rotate_left
  · simp only [Act.put, List.setIfInBounds_toArray, List.set_cons_zero, List.set_cons_succ, i64_w, i32_w]
    rfl
  refine take_ (i := 0) (N := some 8) (v := ?_) (a' := ?_) #[true, false, false, true, false, false, false, false] rfl rfl (by kernel_rfl) (fun _ _ _ h => h) (Or.inl ⟨by rfl, ?_⟩) hHeld ?_ ?_
  rotate_left
  · rintro w' hS'
    obtain ⟨s0, s1, s2⟩ := hS'
    go_simp
    with_reducible rfl
  rotate_left
  · simp only [Act.put, List.setIfInBounds_toArray, List.set_cons_zero, List.set_cons_succ, i64_w, i32_w]
    rfl
  refine take_ (i := 1) (N := some 9) (v := ?_) (a' := ?_) #[true, true, false, true, false, false, false, false] rfl rfl (by kernel_rfl) (fun _ _ _ h => h) (Or.inl ⟨by rfl, ?_⟩) hHeld ?_ ?_
  rotate_left
  · rintro w' hS'
    obtain ⟨s0, s1, s2⟩ := hS'
    go_simp
    with_reducible rfl
  rotate_left
  · simp only [Act.put, List.setIfInBounds_toArray, List.set_cons_zero, List.set_cons_succ, i64_w, i32_w]
    rfl
  refine take_ (i := 2) (N := some 10) (v := ?_) (a' := ?_) #[true, true, true, true, false, false, false, false] rfl rfl (by kernel_rfl) (fun _ _ _ h => h) (Or.inl ⟨by rfl, ?_⟩) hHeld ?_ ?_
  rotate_left
  · rintro w' hS'
    obtain ⟨s0, s1, s2⟩ := hS'
    go_simp
    with_reducible rfl
  rotate_left
  · simp only [Act.put, List.setIfInBounds_toArray, List.set_cons_zero, List.set_cons_succ, i64_w, i32_w]
    rfl
  refine take_ (i := 4) (N := some 12) (v := ?_) (a' := ?_) #[true, true, true, true, true, false, false, false] rfl rfl (by kernel_rfl) (fun _ _ _ h => h) (Or.inl ⟨by rfl, ?_⟩) hHeld ?_ ?_
  rotate_left
  · rintro w' hS'
    obtain ⟨s0, s1, s2⟩ := hS'
    go_simp
    with_reducible rfl
  rotate_left
  · simp only [Act.put, List.setIfInBounds_toArray, List.set_cons_zero, List.set_cons_succ, i64_w, i32_w]
    rfl
  refine one_ (i := 5) (N := some 13) #[true, true, true, true, true, true, false, false] rfl rfl (by kernel_rfl) (by decide) (fun K hK => ?_)
  replace HS : Aside0 (Sep FF w [r6 A3958 l3957.length n3960 l3957, b10 g3951 g3953, b8 g3953 g3955 a3963 a3964 a3965 a3966, b7 g3955 A3958 l3957.length n3960 a3962, b11 g3968 a3969, b9 g3992 a3945 a3946 a3947] w3996) := ⟨HS.out.front 3 (by simp)⟩
  replace HS : Aside0 (Sep FF w [b7 g3955 A3958 l3957.length n3960 a3962, r6 A3958 l3957.length n3960 l3957, b10 g3951 g3953, b8 g3953 g3955 a3963 a3964 a3965 a3966, b11 g3968 a3969, b9 g3992 a3945 a3946 a3947] w3996) := ⟨HS.out.front 3 (by simp)⟩
  replace HS : Aside0 (Sep FF w [b8 g3953 g3955 a3963 a3964 a3965 a3966, b7 g3955 A3958 l3957.length n3960 a3962, r6 A3958 l3957.length n3960 l3957, b10 g3951 g3953, b11 g3968 a3969, b9 g3992 a3945 a3946 a3947] w3996) := ⟨HS.out.front 3 (by simp)⟩
  obtain ⟨t3997, HA3998, H⟩ := bind_some H
  refine goes_ Tryd.func81 (by kernel_rfl) rfl #[.pointer (some ⟨g3953, 0, none⟩), .int .i64 a3945] (by rfl) rfl rfl (by (try simp only [List.map_toArray, List.map_cons, List.map_nil]); first | done | rfl) ?_
  refine (ground_Ground_Reg.calls l3957 a3962 a3963 a3964 a3965 a3966 a3945 g3953 g3955 A3958 l3957.length n3960 t3997 _ ⟨HGl0.out.pass HS.out⟩ ⟨HS.out.begin⟩ HA3998).mono ?_
  rintro e_ w3999 ⟨rfl, hS⟩
  replace HS : Aside0 (Sep FF w [b8 g3953 g3955 a3963 a3964 a3965 a3966, b7 g3955 A3958 l3957.length n3960 t3997.2, r6 A3958 l3957.length n3960 l3957, b10 g3951 g3953, b11 g3968 a3969, b9 g3992 a3945 a3946 a3947] w3999) := ⟨HS.out.call hS⟩
  clear hS
  refine ⟨_, rfl, ?_⟩
  refine hK.out _ _ (⟨blk_cellv (HS.out.at3) 0 rfl, blk_cellv (HS.out.at4) 0 rfl, blk_cellv (HS.out.at5) 0 rfl⟩) (fun hHeld => ?_)
  clear hK K
  refine norm_ (a' := ?_) ?_ ?_
  rotate_left
  · show Act.put _ (some 13) _ = _
    simp only [Act.put, List.setIfInBounds_toArray, List.set_cons_zero, List.set_cons_succ, i64_w, i32_w]
    rfl
  refine pure_ (i := 6) (N := some 14) (v := ?_) (a' := ?_) #[true, true, true, true, true, true, true, false] rfl rfl (by kernel_rfl) (fun _ _ _ h => h) (Or.inl ⟨by rfl, ?_⟩) ?_ ?_
  rotate_left
  · intro w'
    go_simp
    with_reducible rfl
  rotate_left
  · simp only [Act.put, List.setIfInBounds_toArray, List.set_cons_zero, List.set_cons_succ, i64_w, i32_w, IntKind.wrap_u32]
    rfl
  refine one_ (i := 7) (N := some 15) #[true, true, true, true, true, true, true, true] rfl rfl (by kernel_rfl) (by decide) (fun K hK => ?_)
  obtain ⟨t4000, HA4001, H⟩ := bind_some H
  refine goes_ Tryd.func17 (by kernel_rfl) rfl #[.pointer (some ⟨g3953, 0, none⟩), .int .i64 a3969, .int .i64 5, .int .u32 ((t3997.1) % 4294967296)] (by rfl) rfl rfl (by (try simp only [List.map_toArray, List.map_cons, List.map_nil]); first | done | rfl) ?_
  refine (ground_Ground_SetWord.calls l3957 t3997.2 a3963 a3964 a3965 a3966 a3969 5 ((t3997.1) % 4294967296) g3953 g3955 A3958 l3957.length n3960 t4000 _ ⟨HGl0.out.pass HS.out⟩ ⟨HS.out.begin⟩ HA4001).mono ?_
  rintro e_ w4002 ⟨rfl, hS⟩
  replace HS : Aside0 (Sep FF w [b8 g3953 g3955 a3963 a3964 a3965 a3966, b7 g3955 A3958 l3957.length n3960 t4000.2.1, r6 A3958 l3957.length n3960 t4000.2.2, b10 g3951 g3953, b11 g3968 a3969, b9 g3992 a3945 a3946 a3947] w4002) := ⟨HS.out.call hS⟩
  clear hS
  refine ⟨_, rfl, ?_⟩
  refine hK.out _ _ (⟨blk_cellv (HS.out.at3) 0 rfl, blk_cellv (HS.out.at4) 0 rfl, blk_cellv (HS.out.at5) 0 rfl⟩) (fun hHeld => ?_)
  clear hK K
  refine norm_ (a' := ?_) ?_ ?_
  rotate_left
  · show Act.put _ (some 15) _ = _
    simp only [Act.put, List.setIfInBounds_toArray, List.set_cons_zero, List.set_cons_succ, i64_w, i32_w]
    rfl
  refine done_ (by kernel_rfl) ?_
  have hc4003 : w4002.cell? ⟨g3951, 0, none⟩ = some (.pointer (some ⟨g3953, 0, none⟩)) := blk_cellv (HS.out.at3) 0 rfl
  have hc4004 : w4002.cell? ⟨g3992, 0, none⟩ = some (.int .i64 a3945) := blk_cellv (HS.out.at5) 0 rfl
  go_wp2_with fail
  clear hc4003 hc4004
  obtain ⟨t4005, HA4006, H⟩ := bind_some H
  refine (ground_Ground_SetReg.calls t4000.2.2 t4000.2.1 a3963 a3964 a3965 a3966 a3945 a3948 g3953 g3955 A3958 l3957.length n3960 t4005 _ ⟨HGl0.out.pass HS.out⟩ ⟨HS.out.begin⟩ HA4006).mono ?_
  rintro e_ w4007 ⟨rfl, hS⟩
  replace HS : Aside0 (Sep FF w [b8 g3953 g3955 a3963 a3964 a3965 a3966, b7 g3955 A3958 l3957.length n3960 t4005.2.1, r6 A3958 l3957.length n3960 t4005.2.2, b10 g3951 g3953, b11 g3968 a3969, b9 g3992 a3945 a3946 a3947] w4007) := ⟨HS.out.call hS⟩
  clear hS
  by_cases c4008 : a3949 = 0
  · replace H := if_yes c4008 H
    have c4008b0 : (a3949 == 0) = true := beq_iff_eq.mpr c4008
    have c4008b1 : (a3949 != 0) = false := bne_eq_false_iff_eq.mpr c4008
    clear c4008
    have hc4009 : w4007.cell? ⟨g3951, 0, none⟩ = some (.pointer (some ⟨g3953, 0, none⟩)) := blk_cellv (HS.out.at3) 0 rfl
    have hc4010 : w4007.cell? ⟨g3992, 1, none⟩ = some (.int .i64 a3946) := blk_cellv (HS.out.at5) 1 rfl
    go_wp2_with fail
    clear hc4009 hc4010
    obtain ⟨t4011, HA4012, H⟩ := bind_some H
    refine (ground_Ground_SetReg.calls t4005.2.2 t4005.2.1 a3963 a3964 a3965 a3966 a3946 a3948 g3953 g3955 A3958 l3957.length n3960 t4011 _ ⟨HGl0.out.pass HS.out⟩ ⟨HS.out.begin⟩ HA4012).mono ?_
    rintro e_ w4013 ⟨rfl, hS⟩
    replace HS : Aside0 (Sep FF w [b8 g3953 g3955 a3963 a3964 a3965 a3966, b7 g3955 A3958 l3957.length n3960 t4011.2.1, r6 A3958 l3957.length n3960 t4011.2.2, b10 g3951 g3953, b11 g3968 a3969, b9 g3992 a3945 a3946 a3947] w4013) := ⟨HS.out.call hS⟩
    clear hS
    replace HS : Aside0 (Sep FF w [b8 g3953 g3955 a3963 a3964 a3965 a3966, b7 g3955 A3958 l3957.length n3960 t4011.2.1, r6 A3958 l3957.length n3960 t4011.2.2, b10 g3951 g3953, b11 g3968 a3969] w4013) := ⟨HS.out.sub (.cons_cons _ (.cons_cons _ (.cons_cons _ (.cons_cons _ (.cons_cons _ (.cons _ .slnil))))))⟩
    go_wp2_with fail
    first | go_end0 | refine bodyPost_ret (results_none rfl _ _ _) rfl ?_
    rw [← some_eq H]
    exact ⟨rfl, ((((((HS.out).front 4 (by simp)).front 3 (by simp)).front 3 (by simp)).front 3 (by simp)).front 4 (by simp)).keep (l := [b10 g3951 g3953, b8 g3953 g3955 a3963 a3964 a3965 a3966, b7 g3955 A3958 l3957.length n3960 t4011.2.1, r6 A3958 l3957.length n3960 t4011.2.2, b11 g3968 a3969]) (rest := [])⟩
  · replace H := if_no c4008 H
    have c4008b0 : (a3949 == 0) = false := beq_eq_false_iff_ne.mpr c4008
    have c4008b1 : (a3949 != 0) = true := bne_iff_ne.mpr c4008
    clear c4008
    go_wp2_with fail
    first | go_end0 | refine bodyPost_ret (results_none rfl _ _ _) rfl ?_
    rw [← some_eq H]
    exact ⟨rfl, ((((((HS.out).front 4 (by simp)).front 3 (by simp)).front 3 (by simp)).front 3 (by simp)).front 4 (by simp)).keep (l := [b10 g3951 g3953, b8 g3953 g3955 a3963 a3964 a3965 a3966, b7 g3955 A3958 l3957.length n3960 t4005.2.1, r6 A3958 l3957.length n3960 t4005.2.2, b11 g3968 a3969]) (rest := [b9 g3992 a3945 a3946 a3947])⟩

set_option maxHeartbeats 30000000 in
set_option maxRecDepth 100000 in
theorem chain_put_F156.calls (l3901 : List Int) (a3906 : Int) (a3907 : Int) (a3908 : Int) (a3909 : Int) (a3910 : Int) (a3911 : Int) (a3912 : Int) (a3917 : Int) (g3897 : Nat) (g3899 : Nat) (A3902 : Option Addr) (m3903 : Nat) (n3904 : Nat) (g3914 : Nat) (g3916 : Nat) (r : Bool × Int × List Int) (w : World)  (HGl0 : Aside0 (Gl 0 #[.int .i64 0, .int .i64 0, .int .i64 0, .int .i64 0, .int .i64 0] (fps [b8 g3897 g3899 a3907 a3908 a3909 a3910, b7 g3899 A3902 m3903 n3904 a3906, r6 A3902 m3903 n3904 l3901, b10 g3914 g3897, b11 g3916 a3917]) w)) (HS : Aside0 (Sep (fps [b8 g3897 g3899 a3907 a3908 a3909 a3910, b7 g3899 A3902 m3903 n3904 a3906, r6 A3902 m3903 n3904 l3901, b10 g3914 g3897, b11 g3916 a3917]) w [b8 g3897 g3899 a3907 a3908 a3909 a3910, b7 g3899 A3902 m3903 n3904 a3906, r6 A3902 m3903 n3904 l3901, b10 g3914 g3897, b11 g3916 a3917] w)) (H : Aside0 (chain_put_F156.f l3901 a3906 a3907 a3908 a3909 a3910 a3911 a3912 a3917 = some r)) :
    Calls Tryd.prog 142 #[.pointer (some ⟨g3897, 0, none⟩), .int .i64 a3911, .int .i64 a3912, .func (.func 156) #[] #[.pointer (some ⟨g3914, 0, none⟩), .pointer (some ⟨g3916, 0, none⟩)]] w fun e w' => e = .returned (.bool r.1) ∧ Sep (fps [b8 g3897 g3899 a3907 a3908 a3909 a3910, b7 g3899 A3902 m3903 n3904 a3906, r6 A3902 m3903 n3904 l3901, b10 g3914 g3897, b11 g3916 a3917]) w [b8 g3897 g3899 a3907 a3908 a3909 a3910, b7 g3899 A3902 m3903 n3904 r.2.1, r6 A3902 m3903 n3904 r.2.2, b10 g3914 g3897, b11 g3916 a3917] w' := by
  generalize (fps [b8 g3897 g3899 a3907 a3908 a3909 a3910, b7 g3899 A3902 m3903 n3904 a3906, r6 A3902 m3903 n3904 l3901, b10 g3914 g3897, b11 g3916 a3917]) = FF at HS HGl0 ⊢
  obtain rfl := (row_len (HS.out.at2)).symm
  unfold chain_put_F156.f at H
  go_enter Tryd.func142, Tryd.ntmps142
  go_wp2_with fail
  obtain ⟨t4021, HA4022, H⟩ := bind_some H
  refine (chain_of.calls l3901 a3906 a3907 a3908 a3909 a3910 a3911 g3897 g3899 A3902 l3901.length n3904 t4021 _ ⟨HGl0.out.pass HS.out⟩ ⟨HS.out.begin⟩ HA4022).mono ?_
  rintro e_ w4023 ⟨rfl, hS⟩
  replace HS : Aside0 (Sep FF w [b8 g3897 g3899 a3907 a3908 a3909 a3910, b7 g3899 A3902 l3901.length n3904 a3906, r6 A3902 l3901.length n3904 l3901, b10 g3914 g3897, b11 g3916 a3917] w4023) := ⟨HS.out.call hS⟩
  clear hS
  by_cases c4034 : t4021.2.2.2 = true
  · replace H := if_yes c4034 H
    have c4034b0 : t4021.2.2.2 = true := c4034
    have c4034b1 : (!t4021.2.2.2) = false := by rw [c4034b0]; rfl
    try rw [c4034b1]
    clear c4034
    by_cases c4035 : a3912 < 0
    · replace H := if_yes c4035 H
      have c4035b0 : decide (a3912 < 0) = true := decide_eq_true c4035
      clear c4035
      go_wp2_with (first | ((with_reducible refine gate_dst (N := 9) rfl ?_); refine box_on ?hg (N := 9) ?hd (cs := #[.int .i64 0, .int .i64 0, .int .i64 0]) (t := 166) ?hr ?_; (case hd => rfl); (case hg => rfl); (case hr => first | (go_simp; done) | (go_simp; rfl)); intro g4024 hg w4025 hbox hb; replace HS : Aside0 (Sep FF w [b8 g3897 g3899 a3907 a3908 a3909 a3910, b7 g3899 A3902 l3901.length n3904 a3906, r6 A3902 l3901.length n3904 l3901, b10 g3914 g3897, b11 g3916 a3917, b9 g4024 0 0 0] w4025) := ⟨HS.out.box hg hbox hb⟩; clear hg hbox hb; have hc4027 : w4025.cell? ⟨g4024, 0, none⟩ = some (.int .i64 0) := blk_cellv (HS.out.at5) 0 rfl; have hz4028 : w4025.frozen? ⟨g4024, 0, none⟩ = false := blk_fz (HS.out.at5) 0; have hc4029 : w4025.cell? ⟨g4024, 1, none⟩ = some (.int .i64 0) := blk_cellv (HS.out.at5) 1 rfl; have hz4030 : w4025.frozen? ⟨g4024, 1, none⟩ = false := blk_fz (HS.out.at5) 1; have hc4031 : w4025.cell? ⟨g4024, 2, none⟩ = some (.int .i64 0) := blk_cellv (HS.out.at5) 2 rfl; have hz4032 : w4025.frozen? ⟨g4024, 2, none⟩ = false := blk_fz (HS.out.at5) 2) | ((with_reducible refine gate_store (t := 166) (p := 9) rfl ?_); refine store_event (w1 := (World.setCell (World.setCell (World.setCell w4025 ⟨g4024, 0, none⟩ (.int .i64 t4021.1)) ⟨g4024, 1, none⟩ (.int .i64 t4021.2.1)) ⟨g4024, 2, none⟩ (.int .i64 t4021.2.2.1))) rfl (t := 166) (p := 9) rfl rfl ?hr ?_; (case hr => first | (go_simp; done) | (go_simp; rfl)); intro w4033 hst; clear hc4027 hz4028 hc4029 hz4030 hc4031 hz4032; replace HS : Aside0 (Sep FF w [b8 g3897 g3899 a3907 a3908 a3909 a3910, b7 g3899 A3902 l3901.length n3904 a3906, r6 A3902 l3901.length n3904 l3901, b10 g3914 g3897, b11 g3916 a3917, b9 g4024 t4021.1 t4021.2.1 t4021.2.2.1] w4033) := ⟨by rw [hst]; exact HS.out.setAll (l1 := [b8 g3897 g3899 a3907 a3908 a3909 a3910, b7 g3899 A3902 l3901.length n3904 a3906, r6 A3902 l3901.length n3904 l3901, b10 g3914 g3897, b11 g3916 a3917]) (l2 := []) [.int .i64 t4021.1, .int .i64 t4021.2.1, .int .i64 t4021.2.2.1] rfl⟩; clear hst; replace HS : Aside0 (Sep FF w [b8 g3897 g3899 a3907 a3908 a3909 a3910, b7 g3899 A3902 l3901.length n3904 a3906, r6 A3902 l3901.length n3904 l3901, b10 g3914 g3897, b11 g3916 a3917] w4033) := ⟨HS.out.sub (.cons_cons _ (.cons_cons _ (.cons_cons _ (.cons_cons _ (.cons_cons _ (.cons _ .slnil))))))⟩))
      go_ret
      rw [← some_eq H]
      exact ⟨(by first | rfl | (simp [IntKind.wrap_u32]; done)), HS.out⟩
    · replace H := if_no c4035 H
      have c4035b0 : decide (a3912 < 0) = false := decide_eq_false c4035
      clear c4035
      go_wp2_with (first | ((with_reducible refine gate_dst (N := 9) rfl ?_); refine box_on ?hg (N := 9) ?hd (cs := #[.int .i64 0, .int .i64 0, .int .i64 0]) (t := 166) ?hr ?_; (case hd => rfl); (case hg => rfl); (case hr => first | (go_simp; done) | (go_simp; rfl)); intro g4024 hg w4025 hbox hb; replace HS : Aside0 (Sep FF w [b8 g3897 g3899 a3907 a3908 a3909 a3910, b7 g3899 A3902 l3901.length n3904 a3906, r6 A3902 l3901.length n3904 l3901, b10 g3914 g3897, b11 g3916 a3917, b9 g4024 0 0 0] w4025) := ⟨HS.out.box hg hbox hb⟩; clear hg hbox hb; have hc4027 : w4025.cell? ⟨g4024, 0, none⟩ = some (.int .i64 0) := blk_cellv (HS.out.at5) 0 rfl; have hz4028 : w4025.frozen? ⟨g4024, 0, none⟩ = false := blk_fz (HS.out.at5) 0; have hc4029 : w4025.cell? ⟨g4024, 1, none⟩ = some (.int .i64 0) := blk_cellv (HS.out.at5) 1 rfl; have hz4030 : w4025.frozen? ⟨g4024, 1, none⟩ = false := blk_fz (HS.out.at5) 1; have hc4031 : w4025.cell? ⟨g4024, 2, none⟩ = some (.int .i64 0) := blk_cellv (HS.out.at5) 2 rfl; have hz4032 : w4025.frozen? ⟨g4024, 2, none⟩ = false := blk_fz (HS.out.at5) 2) | ((with_reducible refine gate_store (t := 166) (p := 9) rfl ?_); refine store_event (w1 := (World.setCell (World.setCell (World.setCell w4025 ⟨g4024, 0, none⟩ (.int .i64 t4021.1)) ⟨g4024, 1, none⟩ (.int .i64 t4021.2.1)) ⟨g4024, 2, none⟩ (.int .i64 t4021.2.2.1))) rfl (t := 166) (p := 9) rfl rfl ?hr ?_; (case hr => first | (go_simp; done) | (go_simp; rfl)); intro w4033 hst; clear hc4027 hz4028 hc4029 hz4030 hc4031 hz4032; replace HS : Aside0 (Sep FF w [b8 g3897 g3899 a3907 a3908 a3909 a3910, b7 g3899 A3902 l3901.length n3904 a3906, r6 A3902 l3901.length n3904 l3901, b10 g3914 g3897, b11 g3916 a3917, b9 g4024 t4021.1 t4021.2.1 t4021.2.2.1] w4033) := ⟨by rw [hst]; exact HS.out.setAll (l1 := [b8 g3897 g3899 a3907 a3908 a3909 a3910, b7 g3899 A3902 l3901.length n3904 a3906, r6 A3902 l3901.length n3904 l3901, b10 g3914 g3897, b11 g3916 a3917]) (l2 := []) [.int .i64 t4021.1, .int .i64 t4021.2.1, .int .i64 t4021.2.2.1] rfl⟩; clear hst))
      obtain ⟨t4036, HA4037, H⟩ := bind_some H
      refine (ground_Ground_Conf.calls l3901 a3906 a3907 a3908 a3909 a3910 g3897 g3899 A3902 l3901.length n3904 t4036 _ ⟨HGl0.out.pass HS.out⟩ ⟨HS.out.begin⟩ HA4037).mono ?_
      rintro e_ w4038 ⟨rfl, hS⟩
      replace HS : Aside0 (Sep FF w [b8 g3897 g3899 a3907 a3908 a3909 a3910, b7 g3899 A3902 l3901.length n3904 a3906, r6 A3902 l3901.length n3904 l3901, b10 g3914 g3897, b11 g3916 a3917, b9 g4024 t4021.1 t4021.2.1 t4021.2.2.1] w4038) := ⟨HS.out.call hS⟩
      clear hS
      by_cases c4040 : a3912 ≥ t4036.1
      · replace H := if_yes c4040 H
        have c4040b0 : decide (t4036.1 ≤ a3912) = true := decide_eq_true c4040
        clear c4040
        have fl4039 : ∀ w, (Instr.field 30 (.agg #[.int .i64 t4036.1, .int .i64 t4036.2.1, .int .i64 t4036.2.2.1, .int .i64 t4036.2.2.2]) 0).run Tryd.prog w = .ok (.int .i64 t4036.1) w := fun _ => by kernel_rfl
        replace HS : Aside0 (Sep FF w [b8 g3897 g3899 a3907 a3908 a3909 a3910, b7 g3899 A3902 l3901.length n3904 a3906, r6 A3902 l3901.length n3904 l3901, b10 g3914 g3897, b11 g3916 a3917] w4038) := ⟨HS.out.sub (.cons_cons _ (.cons_cons _ (.cons_cons _ (.cons_cons _ (.cons_cons _ (.cons _ .slnil))))))⟩
        go_wp2_with fail
        clear fl4039
        go_ret
        rw [← some_eq H]
        exact ⟨(by first | rfl | (simp [IntKind.wrap_u32]; done)), HS.out⟩
      · replace H := if_no c4040 H
        have c4040b0 : decide (t4036.1 ≤ a3912) = false := decide_eq_false c4040
        clear c4040
        have fl4039 : ∀ w, (Instr.field 30 (.agg #[.int .i64 t4036.1, .int .i64 t4036.2.1, .int .i64 t4036.2.2.1, .int .i64 t4036.2.2.2]) 0).run Tryd.prog w = .ok (.int .i64 t4036.1) w := fun _ => by kernel_rfl
        have hc4041 : w4038.cell? ⟨g4024, 2, none⟩ = some (.int .i64 t4021.2.2.1) := blk_cellv (HS.out.at5) 2 rfl
        go_wp2_with fail
        clear fl4039 hc4041
        obtain ⟨t4042, HA4043, H⟩ := bind_some H
        refine (ground_Ground_Reg.calls l3901 a3906 a3907 a3908 a3909 a3910 t4021.2.2.1 g3897 g3899 A3902 l3901.length n3904 t4042 _ ⟨HGl0.out.pass HS.out⟩ ⟨HS.out.begin⟩ HA4043).mono ?_
        rintro e_ w4044 ⟨rfl, hS⟩
        replace HS : Aside0 (Sep FF w [b8 g3897 g3899 a3907 a3908 a3909 a3910, b7 g3899 A3902 l3901.length n3904 t4042.2, r6 A3902 l3901.length n3904 l3901, b10 g3914 g3897, b11 g3916 a3917, b9 g4024 t4021.1 t4021.2.1 t4021.2.2.1] w4044) := ⟨HS.out.call hS⟩
        clear hS
        have hc4045 : w4044.cell? ⟨g4024, 0, none⟩ = some (.int .i64 t4021.1) := blk_cellv (HS.out.at5) 0 rfl
        have hc4046 : w4044.cell? ⟨g4024, 1, none⟩ = some (.int .i64 t4021.2.1) := blk_cellv (HS.out.at5) 1 rfl
        have hc4047 : w4044.cell? ⟨g4024, 2, none⟩ = some (.int .i64 t4021.2.2.1) := blk_cellv (HS.out.at5) 2 rfl
        go_wp2_with fail
        clear hc4045 hc4046 hc4047
        replace HS : Aside0 (Sep FF w [b11 g3916 a3917, b8 g3897 g3899 a3907 a3908 a3909 a3910, b7 g3899 A3902 l3901.length n3904 t4042.2, r6 A3902 l3901.length n3904 l3901, b10 g3914 g3897, b9 g4024 t4021.1 t4021.2.1 t4021.2.2.1] w4044) := ⟨HS.out.front 4 (by simp)⟩
        replace HS : Aside0 (Sep FF w [r6 A3902 l3901.length n3904 l3901, b11 g3916 a3917, b8 g3897 g3899 a3907 a3908 a3909 a3910, b7 g3899 A3902 l3901.length n3904 t4042.2, b10 g3914 g3897, b9 g4024 t4021.1 t4021.2.1 t4021.2.2.1] w4044) := ⟨HS.out.front 3 (by simp)⟩
        replace HS : Aside0 (Sep FF w [b7 g3899 A3902 l3901.length n3904 t4042.2, r6 A3902 l3901.length n3904 l3901, b11 g3916 a3917, b8 g3897 g3899 a3907 a3908 a3909 a3910, b10 g3914 g3897, b9 g4024 t4021.1 t4021.2.1 t4021.2.2.1] w4044) := ⟨HS.out.front 3 (by simp)⟩
        replace HS : Aside0 (Sep FF w [b8 g3897 g3899 a3907 a3908 a3909 a3910, b7 g3899 A3902 l3901.length n3904 t4042.2, r6 A3902 l3901.length n3904 l3901, b11 g3916 a3917, b10 g3914 g3897, b9 g4024 t4021.1 t4021.2.1 t4021.2.2.1] w4044) := ⟨HS.out.front 3 (by simp)⟩
        replace HS : Aside0 (Sep FF w [b10 g3914 g3897, b8 g3897 g3899 a3907 a3908 a3909 a3910, b7 g3899 A3902 l3901.length n3904 t4042.2, r6 A3902 l3901.length n3904 l3901, b11 g3916 a3917, b9 g4024 t4021.1 t4021.2.1 t4021.2.2.1] w4044) := ⟨HS.out.front 4 (by simp)⟩
        obtain ⟨t4048, HA4049, H⟩ := bind_some H
        refine (chain_Push_1.calls t4021.1 t4021.2.1 t4021.2.2.1 (wrap64 (a3912 + 1)) t4042.1 l3901 t4042.2 a3907 a3908 a3909 a3910 a3917 g3914 g3897 g3899 A3902 l3901.length n3904 g3916 t4048 _ ⟨HGl0.out.pass HS.out⟩ ⟨HS.out.begin⟩ HA4049).mono ?_
        rintro e_ w4050 ⟨rfl, hS⟩
        replace HS : Aside0 (Sep FF w [b10 g3914 g3897, b8 g3897 g3899 a3907 a3908 a3909 a3910, b7 g3899 A3902 l3901.length n3904 t4048.1, r6 A3902 l3901.length n3904 t4048.2, b11 g3916 a3917, b9 g4024 t4021.1 t4021.2.1 t4021.2.2.1] w4050) := ⟨HS.out.call hS⟩
        clear hS
        have hc4051 : w4050.cell? ⟨g4024, 2, none⟩ = some (.int .i64 t4021.2.2.1) := blk_cellv (HS.out.at5) 2 rfl
        go_wp2_with fail
        clear hc4051
        replace HS : Aside0 (Sep FF w [r6 A3902 l3901.length n3904 t4048.2, b10 g3914 g3897, b8 g3897 g3899 a3907 a3908 a3909 a3910, b7 g3899 A3902 l3901.length n3904 t4048.1, b11 g3916 a3917, b9 g4024 t4021.1 t4021.2.1 t4021.2.2.1] w4050) := ⟨HS.out.front 3 (by simp)⟩
        replace HS : Aside0 (Sep FF w [b7 g3899 A3902 l3901.length n3904 t4048.1, r6 A3902 l3901.length n3904 t4048.2, b10 g3914 g3897, b8 g3897 g3899 a3907 a3908 a3909 a3910, b11 g3916 a3917, b9 g4024 t4021.1 t4021.2.1 t4021.2.2.1] w4050) := ⟨HS.out.front 3 (by simp)⟩
        replace HS : Aside0 (Sep FF w [b8 g3897 g3899 a3907 a3908 a3909 a3910, b7 g3899 A3902 l3901.length n3904 t4048.1, r6 A3902 l3901.length n3904 t4048.2, b10 g3914 g3897, b11 g3916 a3917, b9 g4024 t4021.1 t4021.2.1 t4021.2.2.1] w4050) := ⟨HS.out.front 3 (by simp)⟩
        obtain ⟨t4052, HA4053, H⟩ := bind_some H
        refine (ground_Ground_SetReg.calls t4048.2 t4048.1 a3907 a3908 a3909 a3910 t4021.2.2.1 (wrap64 (t4042.1 + 1)) g3897 g3899 A3902 l3901.length n3904 t4052 _ ⟨HGl0.out.pass HS.out⟩ ⟨HS.out.begin⟩ HA4053).mono ?_
        rintro e_ w4054 ⟨rfl, hS⟩
        replace HS : Aside0 (Sep FF w [b8 g3897 g3899 a3907 a3908 a3909 a3910, b7 g3899 A3902 l3901.length n3904 t4052.2.1, r6 A3902 l3901.length n3904 t4052.2.2, b10 g3914 g3897, b11 g3916 a3917, b9 g4024 t4021.1 t4021.2.1 t4021.2.2.1] w4054) := ⟨HS.out.call hS⟩
        clear hS
        replace HS : Aside0 (Sep FF w [b8 g3897 g3899 a3907 a3908 a3909 a3910, b7 g3899 A3902 l3901.length n3904 t4052.2.1, r6 A3902 l3901.length n3904 t4052.2.2, b10 g3914 g3897, b11 g3916 a3917] w4054) := ⟨HS.out.sub (.cons_cons _ (.cons_cons _ (.cons_cons _ (.cons_cons _ (.cons_cons _ (.cons _ .slnil))))))⟩
        go_wp2_with fail
        go_ret
        rw [← some_eq H]
        exact ⟨(by first | rfl | (simp [IntKind.wrap_u32]; done)), HS.out⟩
  · replace H := if_no c4034 H
    have c4034b0 : t4021.2.2.2 = false := by simpa using c4034
    have c4034b1 : (!t4021.2.2.2) = true := by rw [c4034b0]; rfl
    try rw [c4034b1]
    clear c4034
    go_wp2_with (first | ((with_reducible refine gate_dst (N := 9) rfl ?_); refine box_on ?hg (N := 9) ?hd (cs := #[.int .i64 0, .int .i64 0, .int .i64 0]) (t := 166) ?hr ?_; (case hd => rfl); (case hg => rfl); (case hr => first | (go_simp; done) | (go_simp; rfl)); intro g4024 hg w4025 hbox hb; replace HS : Aside0 (Sep FF w [b8 g3897 g3899 a3907 a3908 a3909 a3910, b7 g3899 A3902 l3901.length n3904 a3906, r6 A3902 l3901.length n3904 l3901, b10 g3914 g3897, b11 g3916 a3917, b9 g4024 0 0 0] w4025) := ⟨HS.out.box hg hbox hb⟩; clear hg hbox hb; have hc4027 : w4025.cell? ⟨g4024, 0, none⟩ = some (.int .i64 0) := blk_cellv (HS.out.at5) 0 rfl; have hz4028 : w4025.frozen? ⟨g4024, 0, none⟩ = false := blk_fz (HS.out.at5) 0; have hc4029 : w4025.cell? ⟨g4024, 1, none⟩ = some (.int .i64 0) := blk_cellv (HS.out.at5) 1 rfl; have hz4030 : w4025.frozen? ⟨g4024, 1, none⟩ = false := blk_fz (HS.out.at5) 1; have hc4031 : w4025.cell? ⟨g4024, 2, none⟩ = some (.int .i64 0) := blk_cellv (HS.out.at5) 2 rfl; have hz4032 : w4025.frozen? ⟨g4024, 2, none⟩ = false := blk_fz (HS.out.at5) 2) | ((with_reducible refine gate_store (t := 166) (p := 9) rfl ?_); refine store_event (w1 := (World.setCell (World.setCell (World.setCell w4025 ⟨g4024, 0, none⟩ (.int .i64 t4021.1)) ⟨g4024, 1, none⟩ (.int .i64 t4021.2.1)) ⟨g4024, 2, none⟩ (.int .i64 t4021.2.2.1))) rfl (t := 166) (p := 9) rfl rfl ?hr ?_; (case hr => first | (go_simp; done) | (go_simp; rfl)); intro w4033 hst; clear hc4027 hz4028 hc4029 hz4030 hc4031 hz4032; replace HS : Aside0 (Sep FF w [b8 g3897 g3899 a3907 a3908 a3909 a3910, b7 g3899 A3902 l3901.length n3904 a3906, r6 A3902 l3901.length n3904 l3901, b10 g3914 g3897, b11 g3916 a3917, b9 g4024 t4021.1 t4021.2.1 t4021.2.2.1] w4033) := ⟨by rw [hst]; exact HS.out.setAll (l1 := [b8 g3897 g3899 a3907 a3908 a3909 a3910, b7 g3899 A3902 l3901.length n3904 a3906, r6 A3902 l3901.length n3904 l3901, b10 g3914 g3897, b11 g3916 a3917]) (l2 := []) [.int .i64 t4021.1, .int .i64 t4021.2.1, .int .i64 t4021.2.2.1] rfl⟩; clear hst; replace HS : Aside0 (Sep FF w [b8 g3897 g3899 a3907 a3908 a3909 a3910, b7 g3899 A3902 l3901.length n3904 a3906, r6 A3902 l3901.length n3904 l3901, b10 g3914 g3897, b11 g3916 a3917] w4033) := ⟨HS.out.sub (.cons_cons _ (.cons_cons _ (.cons_cons _ (.cons_cons _ (.cons_cons _ (.cons _ .slnil))))))⟩))
    go_ret
    rw [← some_eq H]
    exact ⟨(by first | rfl | (simp [IntKind.wrap_u32]; done)), HS.out⟩

set_option maxHeartbeats 30000000 in
set_option maxRecDepth 100000 in
theorem chain_Push.calls (l3876 : List Int) (a3881 : Int) (a3882 : Int) (a3883 : Int) (a3884 : Int) (a3885 : Int) (a3886 : Int) (a3887 : Int) (g3872 : Nat) (g3874 : Nat) (A3877 : Option Addr) (m3878 : Nat) (n3879 : Nat) (r : Bool × Int × List Int) (w : World)  (HGl0 : Aside0 (Gl 0 #[.int .i64 0, .int .i64 0, .int .i64 0, .int .i64 0, .int .i64 0] (fps [b8 g3872 g3874 a3882 a3883 a3884 a3885, b7 g3874 A3877 m3878 n3879 a3881, r6 A3877 m3878 n3879 l3876]) w)) (HS : Aside0 (Sep (fps [b8 g3872 g3874 a3882 a3883 a3884 a3885, b7 g3874 A3877 m3878 n3879 a3881, r6 A3877 m3878 n3879 l3876]) w [b8 g3872 g3874 a3882 a3883 a3884 a3885, b7 g3874 A3877 m3878 n3879 a3881, r6 A3877 m3878 n3879 l3876] w)) (H : Aside0 (chain_Push.f l3876 a3881 a3882 a3883 a3884 a3885 a3886 a3887 = some r)) :
    Calls Tryd.prog 140 #[.pointer (some ⟨g3872, 0, none⟩), .int .i64 a3886, .int .i64 a3887] w fun e w' => e = .returned (.bool r.1) ∧ Sep (fps [b8 g3872 g3874 a3882 a3883 a3884 a3885, b7 g3874 A3877 m3878 n3879 a3881, r6 A3877 m3878 n3879 l3876]) w [b8 g3872 g3874 a3882 a3883 a3884 a3885, b7 g3874 A3877 m3878 n3879 r.2.1, r6 A3877 m3878 n3879 r.2.2] w' := by
  generalize (fps [b8 g3872 g3874 a3882 a3883 a3884 a3885, b7 g3874 A3877 m3878 n3879 a3881, r6 A3877 m3878 n3879 l3876]) = FF at HS HGl0 ⊢
  obtain rfl := (row_len (HS.out.at2)).symm
  unfold chain_Push.f at H
  go_enter Tryd.func140, Tryd.ntmps140
  go_wp2_with (first | ((with_reducible refine gate_dst (N := 3) rfl ?_); refine box_on ?hg (N := 3) ?hd (cs := #[.pointer (some ⟨g3872, 0, none⟩)]) (t := 25) ?hr ?_; (case hd => rfl); (case hg => rfl); (case hr => first | (go_simp; done) | (go_simp; rfl)); intro g4058 hg w4059 hbox hb; replace HS : Aside0 (Sep FF w [b8 g3872 g3874 a3882 a3883 a3884 a3885, b7 g3874 A3877 l3876.length n3879 a3881, r6 A3877 l3876.length n3879 l3876, b10 g4058 g3872] w4059) := ⟨HS.out.box hg hbox hb⟩; clear hg hbox hb) | ((with_reducible refine gate_dst (N := 5) rfl ?_); refine box_on ?hg (N := 5) ?hd (cs := #[.int .i64 a3887]) (t := 3) ?hr ?_; (case hd => rfl); (case hg => rfl); (case hr => first | (go_simp; done) | (go_simp; rfl)); intro g4061 hg w4062 hbox hb; replace HS : Aside0 (Sep FF w [b8 g3872 g3874 a3882 a3883 a3884 a3885, b7 g3874 A3877 l3876.length n3879 a3881, r6 A3877 l3876.length n3879 l3876, b10 g4058 g3872, b11 g4061 a3887] w4062) := ⟨HS.out.box hg hbox hb⟩; clear hg hbox hb; have hc4064 : w4062.cell? ⟨g4058, 0, none⟩ = some (.pointer (some ⟨g3872, 0, none⟩)) := blk_cellv (HS.out.at3) 0 rfl; have hc4065 : w4062.cell? ⟨g4061, 0, none⟩ = some (.int .i64 a3887) := blk_cellv (HS.out.at4) 0 rfl))
  clear hc4064 hc4065
  obtain ⟨t4066, HA4067, H⟩ := bind_some H
  refine (chain_put_F156.calls l3876 a3881 a3882 a3883 a3884 a3885 a3886 a3887 a3887 g3872 g3874 A3877 l3876.length n3879 g4058 g4061 t4066 _ ⟨HGl0.out.pass HS.out⟩ ⟨HS.out.begin⟩ HA4067).mono ?_
  rintro e_ w4068 ⟨rfl, hS⟩
  replace HS : Aside0 (Sep FF w [b8 g3872 g3874 a3882 a3883 a3884 a3885, b7 g3874 A3877 l3876.length n3879 t4066.2.1, r6 A3877 l3876.length n3879 t4066.2.2, b10 g4058 g3872, b11 g4061 a3887] w4068) := ⟨HS.out.call hS⟩
  clear hS
  replace HS : Aside0 (Sep FF w [b8 g3872 g3874 a3882 a3883 a3884 a3885, b7 g3874 A3877 l3876.length n3879 t4066.2.1, r6 A3877 l3876.length n3879 t4066.2.2] w4068) := ⟨HS.out.sub (.cons_cons _ (.cons_cons _ (.cons_cons _ (.cons _ (.cons _ .slnil)))))⟩
  go_wp2_with fail
  go_ret
  rw [← some_eq H]
  exact ⟨(by first | rfl | (simp [IntKind.wrap_u32]; done)), HS.out⟩

set_option maxHeartbeats 30000000 in
set_option maxRecDepth 100000 in
theorem pool_Give.calls (l3841 : List Int) (a3846 : Int) (a3847 : Int) (a3848 : Int) (a3849 : Int) (a3850 : Int) (a3851 : Int) (g3837 : Nat) (g3839 : Nat) (A3842 : Option Addr) (m3843 : Nat) (n3844 : Nat) (r : Bool × Int × List Int) (w : World)  (HGl0 : Aside0 (Gl 0 #[.int .i64 0, .int .i64 0, .int .i64 0, .int .i64 0, .int .i64 0] (fps [b8 g3837 g3839 a3847 a3848 a3849 a3850, b7 g3839 A3842 m3843 n3844 a3846, r6 A3842 m3843 n3844 l3841]) w)) (HS : Aside0 (Sep (fps [b8 g3837 g3839 a3847 a3848 a3849 a3850, b7 g3839 A3842 m3843 n3844 a3846, r6 A3842 m3843 n3844 l3841]) w [b8 g3837 g3839 a3847 a3848 a3849 a3850, b7 g3839 A3842 m3843 n3844 a3846, r6 A3842 m3843 n3844 l3841] w)) (H : Aside0 (pool_Give.f l3841 a3846 a3847 a3848 a3849 a3850 a3851 = some r)) :
    Calls Tryd.prog 106 #[.pointer (some ⟨g3837, 0, none⟩), .int .i64 a3851] w fun e w' => e = .returned (.bool r.1) ∧ Sep (fps [b8 g3837 g3839 a3847 a3848 a3849 a3850, b7 g3839 A3842 m3843 n3844 a3846, r6 A3842 m3843 n3844 l3841]) w [b8 g3837 g3839 a3847 a3848 a3849 a3850, b7 g3839 A3842 m3843 n3844 r.2.1, r6 A3842 m3843 n3844 r.2.2] w' := by
  generalize (fps [b8 g3837 g3839 a3847 a3848 a3849 a3850, b7 g3839 A3842 m3843 n3844 a3846, r6 A3842 m3843 n3844 l3841]) = FF at HS HGl0 ⊢
  obtain rfl := (row_len (HS.out.at2)).symm
  unfold pool_Give.f at H
  go_enter Tryd.func106, Tryd.ntmps106
  go_wp2_with fail
  obtain ⟨t4072, HA4073, H⟩ := bind_some H
  refine (ground_Ground_Word.calls l3841 a3846 a3847 a3848 a3849 a3850 a3851 0 g3837 g3839 A3842 l3841.length n3844 t4072 _ ⟨HGl0.out.pass HS.out⟩ ⟨HS.out.begin⟩ HA4073).mono ?_
  rintro e_ w4074 ⟨rfl, hS⟩
  replace HS : Aside0 (Sep FF w [b8 g3837 g3839 a3847 a3848 a3849 a3850, b7 g3839 A3842 l3841.length n3844 t4072.2, r6 A3842 l3841.length n3844 l3841] w4074) := ⟨HS.out.call hS⟩
  clear hS
  go_wp2_with fail
  obtain ⟨t4075, HA4076, H⟩ := bind_some H
  refine (tag_Unpack.calls t4072.1 t4075 _ ⟨HGl0.out.pass (l := []) HS.out⟩ ⟨Sep.start _⟩ HA4076).mono ?_
  rintro e_ w4077 ⟨rfl, hS⟩
  replace HS : Aside0 (Sep FF w [b8 g3837 g3839 a3847 a3848 a3849 a3850, b7 g3839 A3842 l3841.length n3844 t4072.2, r6 A3842 l3841.length n3844 l3841] w4077) := ⟨HS.out.call hS⟩
  clear hS
  by_cases c4079 : t4075.1 = 0
  · replace H := if_yes c4079 H
    have c4079b0 : (t4075.1 == 0) = true := beq_iff_eq.mpr c4079
    have c4079b1 : (t4075.1 != 0) = false := bne_eq_false_iff_eq.mpr c4079
    clear c4079
    have fl4078 : ∀ w, (Instr.field 32 (.agg #[.int .i64 t4075.1, .int .i64 t4075.2.1, .int .i64 t4075.2.2.1, .int .i64 t4075.2.2.2.1, .int .i64 t4075.2.2.2.2.1, .int .i64 t4075.2.2.2.2.2.1, .int .i64 t4075.2.2.2.2.2.2]) 0).run Tryd.prog w = .ok (.int .i64 t4075.1) w := fun _ => by kernel_rfl
    go_wp2_with fail
    clear fl4078
    go_ret
    rw [← some_eq H]
    exact ⟨(by first | rfl | (simp [IntKind.wrap_u32]; done)), HS.out⟩
  · replace H := if_no c4079 H
    have c4079b0 : (t4075.1 == 0) = false := beq_eq_false_iff_ne.mpr c4079
    have c4079b1 : (t4075.1 != 0) = true := bne_iff_ne.mpr c4079
    clear c4079
    have fl4078 : ∀ w, (Instr.field 32 (.agg #[.int .i64 t4075.1, .int .i64 t4075.2.1, .int .i64 t4075.2.2.1, .int .i64 t4075.2.2.2.1, .int .i64 t4075.2.2.2.2.1, .int .i64 t4075.2.2.2.2.2.1, .int .i64 t4075.2.2.2.2.2.2]) 0).run Tryd.prog w = .ok (.int .i64 t4075.1) w := fun _ => by kernel_rfl
    go_wp2_with fail
    clear fl4078
    obtain ⟨t4080, HA4081, H⟩ := bind_some H
    refine (ground_Ground_SetWord.calls l3841 t4072.2 a3847 a3848 a3849 a3850 a3851 0 0 g3837 g3839 A3842 l3841.length n3844 t4080 _ ⟨HGl0.out.pass HS.out⟩ ⟨HS.out.begin⟩ HA4081).mono ?_
    rintro e_ w4082 ⟨rfl, hS⟩
    replace HS : Aside0 (Sep FF w [b8 g3837 g3839 a3847 a3848 a3849 a3850, b7 g3839 A3842 l3841.length n3844 t4080.2.1, r6 A3842 l3841.length n3844 t4080.2.2] w4082) := ⟨HS.out.call hS⟩
    clear hS
    go_wp2_with fail
    obtain ⟨t4083, HA4084, H⟩ := bind_some H
    refine (chain_Push.calls t4080.2.2 t4080.2.1 a3847 a3848 a3849 a3850 0 a3851 g3837 g3839 A3842 l3841.length n3844 t4083 _ ⟨HGl0.out.pass HS.out⟩ ⟨HS.out.begin⟩ HA4084).mono ?_
    rintro e_ w4085 ⟨rfl, hS⟩
    replace HS : Aside0 (Sep FF w [b8 g3837 g3839 a3847 a3848 a3849 a3850, b7 g3839 A3842 l3841.length n3844 t4083.2.1, r6 A3842 l3841.length n3844 t4083.2.2] w4085) := ⟨HS.out.call hS⟩
    clear hS
    go_wp2_with fail
    go_ret
    rw [← some_eq H]
    exact ⟨(by first | rfl | (simp [IntKind.wrap_u32]; done)), HS.out⟩
end Go.Proofs.YtobeonkddamnoaaDoor.C

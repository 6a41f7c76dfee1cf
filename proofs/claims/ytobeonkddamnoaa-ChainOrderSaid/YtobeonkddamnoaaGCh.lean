/- Each function of the group Ch does what its plain function says, and changes nothing that was there; proved by walking its code. No condition. -/
import Derived.Test.YtobeonkddamnoaaQw
import Derived.Test.YtobeonkddamnoaaMCh
import Derived.Test.YtobeonkddamnoaaGCh0
import Derived.Test.YtobeonkddamnoaaGCh1
namespace Go.Proofs.Ytobeonkddamnoaa.C
open Go.RowKit Go.Proofs.YtobeonkddamnoaaW.PrintWords Go.Proofs.YtobeonkddamnoaaW.PrintLast Go.Proofs.Ytobeonkddamnoaa.Q Go.Proofs.Ytobeonkddamnoaa.M
set_option linter.unusedVariables false
set_option linter.unusedSimpArgs false
set_option maxHeartbeats 30000000 in
set_option maxRecDepth 100000 in
theorem quitrentlaw08_ChainOrder.calls (k : Nat) (a1 : Int) (a2 : Int) (a3 : Bool) (r : Bool) (w : World)   (HS : Aside0 (Sep (fps []) w [] w)) (H : Aside0 (quitrentlaw08_ChainOrder.f k a1 a2 a3 = some r)) :
    Calls Try.prog 11 #[.int .u8 a1, .int .u8 a2, .bool a3] w fun e w' => e = .returned (.bool r) ∧ Sep (fps []) w [] w' := by
  unfold quitrentlaw08_ChainOrder.f at H
  go_enter Try.func11, Try.ntmps11
  by_cases c4 : a1 < 1
  · have H := if_yes c4 H
    have c4b0 : decide (a1 < 1) = true := decide_eq_true c4
    clear c4
    go_wp2_with fail
    obtain ⟨t2284, HA2285, H⟩ := bind_some H
    refine (quitrentlaw08_begun.calls _ t2284 _ ⟨Sep.start _⟩ HA2285).mono ?_
    rintro e_ w2286 ⟨rfl, hS⟩
    replace HS : Aside0 (Sep (fps []) w [] w2286) := ⟨HS.out.call hS⟩
    clear hS
    go_wp2_with fail
    go_ret
    rw [← some_eq H]
    exact ⟨(by first | rfl | (simp [IntKind.wrap_u32]; done)), HS.out⟩
  · have H := if_no c4 H
    have c4b0 : decide (a1 < 1) = false := decide_eq_false c4
    clear c4
    by_cases c2287 : a1 > 100
    · have H := if_yes c2287 H
      have c2287b0 : decide (100 < a1) = true := decide_eq_true c2287
      clear c2287
      go_wp2_with fail
      obtain ⟨t2284, HA2288, H⟩ := bind_some H
      refine (quitrentlaw08_begun.calls _ t2284 _ ⟨Sep.start _⟩ HA2288).mono ?_
      rintro e_ w2289 ⟨rfl, hS⟩
      replace HS : Aside0 (Sep (fps []) w [] w2289) := ⟨HS.out.call hS⟩
      clear hS
      go_wp2_with fail
      go_ret
      rw [← some_eq H]
      exact ⟨(by first | rfl | (simp [IntKind.wrap_u32]; done)), HS.out⟩
    · have H := if_no c2287 H
      have c2287b0 : decide (100 < a1) = false := decide_eq_false c2287
      clear c2287
      go_wp2_with fail
      obtain ⟨t2290, HA2291, H⟩ := bind_some H
      rcases t2290 with t2292 | (t2293 | t2294)
      · have H := sum_l H
        refine (ground_New.calls _ (wrap64 (a1)) 16 1 1 (.inl t2292) _ ⟨Sep.start _⟩ HA2291).mono ?_
        rintro e_ w2295 ⟨rfl, hS⟩
        replace HS : Aside0 (Sep (fps []) w [] w2295) := ⟨HS.out.call hS⟩
        clear hS
        go_wp2_with fail
        go_ret
        rw [← some_eq H]
        exact ⟨(by first | rfl | (simp [IntKind.wrap_u32]; done)), HS.out⟩
      · have H := sum_r H
        have H := sum_l H
        refine (ground_New.calls _ (wrap64 (a1)) 16 1 1 (.inr (.inl t2293)) _ ⟨Sep.start _⟩ HA2291).mono ?_
        rintro e_ w2296 ⟨g2300, rfl, g2301, A2302, m2303, n2304, hS⟩
        replace HS : Aside0 (Sep (fps []) w [b7 g2300 g2301 t2293.1 t2293.2.1 t2293.2.2.1 t2293.2.2.2.1, b6 g2301 A2302 m2303 n2304 0, r5 A2302 m2303 n2304 t2293.2.2.2.2] w2296) := ⟨HS.out.call hS⟩
        clear hS
        obtain rfl := (row_len (HS.out.at2)).symm
        by_cases c2306 : a3 = true
        · have H := if_yes c2306 H
          have c2306b0 : a3 = true := c2306
          have c2306b1 : (!a3) = false := by rw [c2306b0]; rfl
          clear c2306
          by_cases c2307 : (wrap64 (a1)) = 0
          · have H := if_yes c2307 H
            have c2307b0 : ((wrap64 (a1)) == 0) = true := beq_iff_eq.mpr c2307
            have c2307b1 : ((wrap64 (a1)) != 0) = false := bne_eq_false_iff_eq.mpr c2307
            exact (none_no H).elim
          · have H := if_no c2307 H
            have c2307b0 : ((wrap64 (a1)) == 0) = false := beq_eq_false_iff_ne.mpr c2307
            have c2307b1 : ((wrap64 (a1)) != 0) = true := bne_iff_ne.mpr c2307
            skip
            go_wp2_with fail
            clear c2307
            obtain ⟨o2330, AL2331, H⟩ := bind_some H
            go_loopg [12] k (fun kq v12 wc => ∃ (x2334 : Int) (x2335 : List Int) (x2336 : Int), v12 = .int .i64 x2334 ∧ Aside0 (quitrentlaw08_ChainOrder.lo0 kq a1 t2293 x2334 x2335 x2336 = some o2330) ∧ Aside0 (Sep (fps []) w [b7 g2300 g2301 t2293.1 t2293.2.1 t2293.2.2.1 t2293.2.2.2.1, b6 g2301 A2302 ((t2293.2.2.2.2).length) n2304 x2336, r5 A2302 ((t2293.2.2.2.2).length) n2304 x2335] wc))
            case atStart => exact ⟨(Int.tmod (wrap64 (a2)) (wrap64 (a1))), (t2293.2.2.2.2), (0), (by first | rfl | (simp [IntKind.wrap_u32]; done)), AL2331, ⟨HS.out⟩⟩
            case round =>
              clear AL2331 HS
              obtain ⟨x2334, x2335, x2336, rfl, AL2331, HS⟩ := hrel
              obtain ⟨w2332, rfl⟩ : ∃ x : World, x = wr := ⟨_, rfl⟩
              cases gk with
              | zero => exact absurd AL2331.out (by simp [quitrentlaw08_ChainOrder.lo0])
              | succ k2333 =>
                have AL0 := AL2331.out
                rw [quitrentlaw08_ChainOrder.lo0] at AL0
                clear AL2331
                have AL2331 := Aside0.mk AL0
                clear AL0
                by_cases c2337 : x2334 < (wrap64 (a1))
                · have AL2331 := if_yes c2337 AL2331
                  have c2337b0 : decide (x2334 < (wrap64 (a1))) = true := decide_eq_true c2337
                  clear c2337
                  go_wp2_with fail
                  obtain ⟨t2315, HA2338, AL2331⟩ := bind_some AL2331
                  refine (chain_Add.calls x2335 x2336 t2293.1 t2293.2.1 t2293.2.2.1 t2293.2.2.2.1 1 x2334 g2300 g2301 A2302 ((t2293.2.2.2.2).length) n2304 t2315 _ ⟨HS.out.begin⟩ HA2338).mono ?_
                  rintro e_ w2339 ⟨rfl, hS⟩
                  replace HS : Aside0 (Sep (fps []) w [b7 g2300 g2301 t2293.1 t2293.2.1 t2293.2.2.1 t2293.2.2.2.1, b6 g2301 A2302 ((t2293.2.2.2.2).length) n2304 t2315.2.1, r5 A2302 ((t2293.2.2.2.2).length) n2304 t2315.2.2] w2339) := ⟨HS.out.call hS⟩
                  clear hS
                  by_cases c2340 : t2315.1 = true
                  · have AL2331 := if_yes c2340 AL2331
                    have c2340b0 : t2315.1 = true := c2340
                    have c2340b1 : (!t2315.1) = false := by rw [c2340b0]; rfl
                    try rw [c2340b1]
                    clear c2340
                    go_wp2_with fail
                    go_roundg k2333
                    case measure => exact Nat.lt_succ_self _
                    case rel => exact ⟨(wrap64 (x2334 + 1)), (t2315.2.2), (t2315.2.1), (by first | rfl | (simp [IntKind.wrap_u32]; done)), Aside0.mk AL2331.out, ⟨HS.out⟩⟩
                  · have AL2331 := if_no c2340 AL2331
                    have c2340b0 : t2315.1 = false := by simpa using c2340
                    have c2340b1 : (!t2315.1) = true := by rw [c2340b0]; rfl
                    try rw [c2340b1]
                    clear c2340
                    go_wp2_with fail
                    have ho := some_eq AL2331
                    subst ho
                    have H := lp_ret H
                    go_ret
                    rw [← some_eq H]
                    exact ⟨(by first | rfl | (simp [IntKind.wrap_u32]; done)), HS.out.sub (.cons _ (.cons _ (.cons _ .slnil)))⟩
                · have AL2331 := if_no c2337 AL2331
                  have c2337b0 : decide (x2334 < (wrap64 (a1))) = false := decide_eq_false c2337
                  clear c2337
                  have ho := some_eq AL2331
                  subst ho
                  clear AL2331
                  have H := lp_out H
                  go_wp2_with fail
                  obtain ⟨o2363, AL2364, H⟩ := bind_some H
                  go_loopg [13] k (fun kq v13 wc => ∃ (x2367 : Int) (x2368 : List Int) (x2369 : Int), v13 = .int .i64 x2367 ∧ Aside0 (quitrentlaw08_ChainOrder.lo1 kq t2293 x2367 x2368 x2369 = some o2363) ∧ Aside0 (Sep (fps []) w [b7 g2300 g2301 t2293.1 t2293.2.1 t2293.2.2.1 t2293.2.2.2.1, b6 g2301 A2302 ((t2293.2.2.2.2).length) n2304 x2369, r5 A2302 ((t2293.2.2.2.2).length) n2304 x2368] wc))
                  case atStart => exact ⟨(wrap64 ((Int.tmod (wrap64 (a2)) (wrap64 (a1))) - 1)), (x2335), (x2336), (by first | rfl | (simp [IntKind.wrap_u32]; done)), AL2364, ⟨HS.out⟩⟩
                  case round =>
                    clear AL2364 HS
                    obtain ⟨x2367, x2368, x2369, rfl, AL2364, HS⟩ := hrel
                    obtain ⟨w2365, rfl⟩ : ∃ x : World, x = wr := ⟨_, rfl⟩
                    cases gk with
                    | zero => exact absurd AL2364.out (by simp [quitrentlaw08_ChainOrder.lo1])
                    | succ k2366 =>
                      have AL0 := AL2364.out
                      rw [quitrentlaw08_ChainOrder.lo1] at AL0
                      clear AL2364
                      have AL2364 := Aside0.mk AL0
                      clear AL0
                      by_cases c2370 : x2367 ≥ 0
                      · have AL2364 := if_yes c2370 AL2364
                        have c2370b0 : decide (0 ≤ x2367) = true := decide_eq_true c2370
                        clear c2370
                        go_wp2_with fail
                        obtain ⟨t2348, HA2371, AL2364⟩ := bind_some AL2364
                        refine (chain_Push.calls x2368 x2369 t2293.1 t2293.2.1 t2293.2.2.1 t2293.2.2.2.1 1 x2367 g2300 g2301 A2302 ((t2293.2.2.2.2).length) n2304 t2348 _ ⟨HS.out.begin⟩ HA2371).mono ?_
                        rintro e_ w2372 ⟨rfl, hS⟩
                        replace HS : Aside0 (Sep (fps []) w [b7 g2300 g2301 t2293.1 t2293.2.1 t2293.2.2.1 t2293.2.2.2.1, b6 g2301 A2302 ((t2293.2.2.2.2).length) n2304 t2348.2.1, r5 A2302 ((t2293.2.2.2.2).length) n2304 t2348.2.2] w2372) := ⟨HS.out.call hS⟩
                        clear hS
                        by_cases c2373 : t2348.1 = true
                        · have AL2364 := if_yes c2373 AL2364
                          have c2373b0 : t2348.1 = true := c2373
                          have c2373b1 : (!t2348.1) = false := by rw [c2373b0]; rfl
                          try rw [c2373b1]
                          clear c2373
                          go_wp2_with fail
                          go_roundg k2366
                          case measure => exact Nat.lt_succ_self _
                          case rel => exact ⟨(wrap64 (x2367 - 1)), (t2348.2.2), (t2348.2.1), (by first | rfl | (simp [IntKind.wrap_u32]; done)), Aside0.mk AL2364.out, ⟨HS.out⟩⟩
                        · have AL2364 := if_no c2373 AL2364
                          have c2373b0 : t2348.1 = false := by simpa using c2373
                          have c2373b1 : (!t2348.1) = true := by rw [c2373b0]; rfl
                          try rw [c2373b1]
                          clear c2373
                          go_wp2_with fail
                          have ho := some_eq AL2364
                          subst ho
                          have H := lp_ret H
                          go_ret
                          rw [← some_eq H]
                          exact ⟨(by first | rfl | (simp [IntKind.wrap_u32]; done)), HS.out.sub (.cons _ (.cons _ (.cons _ .slnil)))⟩
                      · have AL2364 := if_no c2370 AL2364
                        have c2370b0 : decide (0 ≤ x2367) = false := decide_eq_false c2370
                        clear c2370
                        have ho := some_eq AL2364
                        subst ho
                        clear AL2364
                        have H := lp_out H
                        go_wp2_with fail
                        obtain ⟨o2629, AL2630, H⟩ := bind_some H
                        go_loopg [14] k (fun kq v14 wc => ∃ (x2633 : Int) (x2634 : List Int) (x2635 : Int), v14 = .int .i64 x2633 ∧ Aside0 (quitrentlaw08_ChainOrder.lo2 kq a1 t2293 x2633 x2634 x2635 = some o2629) ∧ Aside0 (Sep (fps []) w [b7 g2300 g2301 t2293.1 t2293.2.1 t2293.2.2.1 t2293.2.2.2.1, b6 g2301 A2302 ((t2293.2.2.2.2).length) n2304 x2635, r5 A2302 ((t2293.2.2.2.2).length) n2304 x2634] wc))
                        case atStart => exact ⟨(0), (x2368), (x2369), (by first | rfl | (simp [IntKind.wrap_u32]; done)), AL2630, ⟨HS.out⟩⟩
                        case round =>
                          clear AL2630 HS
                          obtain ⟨x2633, x2634, x2635, rfl, AL2630, HS⟩ := hrel
                          obtain ⟨w2631, rfl⟩ : ∃ x : World, x = wr := ⟨_, rfl⟩
                          cases gk with
                          | zero => exact absurd AL2630.out (by simp [quitrentlaw08_ChainOrder.lo2])
                          | succ k2632 =>
                            have AL0 := AL2630.out
                            rw [quitrentlaw08_ChainOrder.lo2] at AL0
                            clear AL2630
                            have AL2630 := Aside0.mk AL0
                            clear AL0
                            by_cases c2636 : x2633 < (wrap64 (a1))
                            · have AL2630 := if_yes c2636 AL2630
                              have c2636b0 : decide (x2633 < (wrap64 (a1))) = true := decide_eq_true c2636
                              clear c2636
                              go_wp2_with fail
                              obtain ⟨t2541, HA2637, AL2630⟩ := bind_some AL2630
                              refine (chain_Take.calls x2634 x2635 t2293.1 t2293.2.1 t2293.2.2.1 t2293.2.2.2.1 1 g2300 g2301 A2302 ((t2293.2.2.2.2).length) n2304 t2541 _ ⟨HS.out.begin⟩ HA2637).mono ?_
                              rintro e_ w2638 ⟨rfl, hS⟩
                              replace HS : Aside0 (Sep (fps []) w [b7 g2300 g2301 t2293.1 t2293.2.1 t2293.2.2.1 t2293.2.2.2.1, b6 g2301 A2302 ((t2293.2.2.2.2).length) n2304 t2541.2.2.1, r5 A2302 ((t2293.2.2.2.2).length) n2304 t2541.2.2.2] w2638) := ⟨HS.out.call hS⟩
                              clear hS
                              by_cases c2639 : t2541.1 = x2633
                              · have AL2630 := if_yes c2639 AL2630
                                have c2639b0 : (t2541.1 == x2633) = true := beq_iff_eq.mpr c2639
                                have c2639b1 : (t2541.1 != x2633) = false := bne_eq_false_iff_eq.mpr c2639
                                clear c2639
                                by_cases c2640 : t2541.2.1 = true
                                · have AL2630 := if_yes c2640 AL2630
                                  have c2640b0 : t2541.2.1 = true := c2640
                                  have c2640b1 : (!t2541.2.1) = false := by rw [c2640b0]; rfl
                                  try rw [c2640b1]
                                  clear c2640
                                  go_wp2_with fail
                                  obtain ⟨t2546, HA2641, AL2630⟩ := bind_some AL2630
                                  refine (chain_Add.calls t2541.2.2.2 t2541.2.2.1 t2293.1 t2293.2.1 t2293.2.2.1 t2293.2.2.2.1 0 t2541.1 g2300 g2301 A2302 ((t2293.2.2.2.2).length) n2304 t2546 _ ⟨HS.out.begin⟩ HA2641).mono ?_
                                  rintro e_ w2642 ⟨rfl, hS⟩
                                  replace HS : Aside0 (Sep (fps []) w [b7 g2300 g2301 t2293.1 t2293.2.1 t2293.2.2.1 t2293.2.2.2.1, b6 g2301 A2302 ((t2293.2.2.2.2).length) n2304 t2546.2.1, r5 A2302 ((t2293.2.2.2.2).length) n2304 t2546.2.2] w2642) := ⟨HS.out.call hS⟩
                                  clear hS
                                  by_cases c2643 : t2546.1 = true
                                  · have AL2630 := if_yes c2643 AL2630
                                    have c2643b0 : t2546.1 = true := c2643
                                    have c2643b1 : (!t2546.1) = false := by rw [c2643b0]; rfl
                                    try rw [c2643b1]
                                    clear c2643
                                    go_wp2_with fail
                                    obtain ⟨t2602, HA2644, AL2630⟩ := bind_some AL2630
                                    refine (chain_Len.calls t2546.2.2 t2546.2.1 t2293.1 t2293.2.1 t2293.2.2.1 t2293.2.2.2.1 1 g2300 g2301 A2302 ((t2293.2.2.2.2).length) n2304 t2602 _ ⟨HS.out.begin⟩ HA2644).mono ?_
                                    rintro e_ w2645 ⟨rfl, hS⟩
                                    replace HS : Aside0 (Sep (fps []) w [b7 g2300 g2301 t2293.1 t2293.2.1 t2293.2.2.1 t2293.2.2.2.1, b6 g2301 A2302 ((t2293.2.2.2.2).length) n2304 t2602.2, r5 A2302 ((t2293.2.2.2.2).length) n2304 t2546.2.2] w2645) := ⟨HS.out.call hS⟩
                                    clear hS
                                    go_wp2_with fail
                                    obtain ⟨t2605, HA2646, AL2630⟩ := bind_some AL2630
                                    refine (chain_Len.calls t2546.2.2 t2602.2 t2293.1 t2293.2.1 t2293.2.2.1 t2293.2.2.2.1 0 g2300 g2301 A2302 ((t2293.2.2.2.2).length) n2304 t2605 _ ⟨HS.out.begin⟩ HA2646).mono ?_
                                    rintro e_ w2647 ⟨rfl, hS⟩
                                    replace HS : Aside0 (Sep (fps []) w [b7 g2300 g2301 t2293.1 t2293.2.1 t2293.2.2.1 t2293.2.2.2.1, b6 g2301 A2302 ((t2293.2.2.2.2).length) n2304 t2605.2, r5 A2302 ((t2293.2.2.2.2).length) n2304 t2546.2.2] w2647) := ⟨HS.out.call hS⟩
                                    clear hS
                                    by_cases c2648 : (wrap64 (t2602.1 + t2605.1)) = (wrap64 (a1))
                                    · have AL2630 := if_yes c2648 AL2630
                                      have c2648b0 : ((wrap64 (t2602.1 + t2605.1)) == (wrap64 (a1))) = true := beq_iff_eq.mpr c2648
                                      have c2648b1 : ((wrap64 (t2602.1 + t2605.1)) != (wrap64 (a1))) = false := bne_eq_false_iff_eq.mpr c2648
                                      clear c2648
                                      go_wp2_with fail
                                      go_roundg k2632
                                      case measure => exact Nat.lt_succ_self _
                                      case rel => exact ⟨(wrap64 (x2633 + 1)), (t2546.2.2), (t2605.2), (by first | rfl | (simp [IntKind.wrap_u32]; done)), Aside0.mk AL2630.out, ⟨HS.out⟩⟩
                                    · have AL2630 := if_no c2648 AL2630
                                      have c2648b0 : ((wrap64 (t2602.1 + t2605.1)) == (wrap64 (a1))) = false := beq_eq_false_iff_ne.mpr c2648
                                      have c2648b1 : ((wrap64 (t2602.1 + t2605.1)) != (wrap64 (a1))) = true := bne_iff_ne.mpr c2648
                                      clear c2648
                                      go_wp2_with fail
                                      have ho := some_eq AL2630
                                      subst ho
                                      have H := lp_ret H
                                      go_ret
                                      rw [← some_eq H]
                                      exact ⟨(by first | rfl | (simp [IntKind.wrap_u32]; done)), HS.out.sub (.cons _ (.cons _ (.cons _ .slnil)))⟩
                                  · have AL2630 := if_no c2643 AL2630
                                    have c2643b0 : t2546.1 = false := by simpa using c2643
                                    have c2643b1 : (!t2546.1) = true := by rw [c2643b0]; rfl
                                    try rw [c2643b1]
                                    clear c2643
                                    go_wp2_with fail
                                    have ho := some_eq AL2630
                                    subst ho
                                    have H := lp_ret H
                                    go_ret
                                    rw [← some_eq H]
                                    exact ⟨(by first | rfl | (simp [IntKind.wrap_u32]; done)), HS.out.sub (.cons _ (.cons _ (.cons _ .slnil)))⟩
                                · have AL2630 := if_no c2640 AL2630
                                  have c2640b0 : t2541.2.1 = false := by simpa using c2640
                                  have c2640b1 : (!t2541.2.1) = true := by rw [c2640b0]; rfl
                                  try rw [c2640b1]
                                  clear c2640
                                  go_wp2_with fail
                                  have ho := some_eq AL2630
                                  subst ho
                                  have H := lp_ret H
                                  go_ret
                                  rw [← some_eq H]
                                  exact ⟨(by first | rfl | (simp [IntKind.wrap_u32]; done)), HS.out.sub (.cons _ (.cons _ (.cons _ .slnil)))⟩
                              · have AL2630 := if_no c2639 AL2630
                                have c2639b0 : (t2541.1 == x2633) = false := beq_eq_false_iff_ne.mpr c2639
                                have c2639b1 : (t2541.1 != x2633) = true := bne_iff_ne.mpr c2639
                                clear c2639
                                go_wp2_with fail
                                have ho := some_eq AL2630
                                subst ho
                                have H := lp_ret H
                                go_ret
                                rw [← some_eq H]
                                exact ⟨(by first | rfl | (simp [IntKind.wrap_u32]; done)), HS.out.sub (.cons _ (.cons _ (.cons _ .slnil)))⟩
                            · have AL2630 := if_no c2636 AL2630
                              have c2636b0 : decide (x2633 < (wrap64 (a1))) = false := decide_eq_false c2636
                              clear c2636
                              have ho := some_eq AL2630
                              subst ho
                              clear AL2630
                              have H := lp_out H
                              go_wp2_with fail
                              obtain ⟨t2649, HA2650, H⟩ := bind_some H
                              refine (chain_Take.calls x2634 x2635 t2293.1 t2293.2.1 t2293.2.2.1 t2293.2.2.2.1 1 g2300 g2301 A2302 ((t2293.2.2.2.2).length) n2304 t2649 _ ⟨HS.out.begin⟩ HA2650).mono ?_
                              rintro e_ w2651 ⟨rfl, hS⟩
                              replace HS : Aside0 (Sep (fps []) w [b7 g2300 g2301 t2293.1 t2293.2.1 t2293.2.2.1 t2293.2.2.2.1, b6 g2301 A2302 ((t2293.2.2.2.2).length) n2304 t2649.2.2.1, r5 A2302 ((t2293.2.2.2.2).length) n2304 t2649.2.2.2] w2651) := ⟨HS.out.call hS⟩
                              clear hS
                              by_cases c2652 : t2649.2.1 = true
                              · have H := if_yes c2652 H
                                have c2652b0 : t2649.2.1 = true := c2652
                                have c2652b1 : (!t2649.2.1) = false := by rw [c2652b0]; rfl
                                try rw [c2652b1]
                                clear c2652
                                replace HS : Aside0 (Sep (fps []) w [] w2651) := ⟨HS.out.sub (.cons _ (.cons _ (.cons _ .slnil)))⟩
                                go_wp2_with fail
                                go_ret
                                rw [← some_eq H]
                                exact ⟨(by first | rfl | (simp [IntKind.wrap_u32]; done)), HS.out⟩
                              · have H := if_no c2652 H
                                have c2652b0 : t2649.2.1 = false := by simpa using c2652
                                have c2652b1 : (!t2649.2.1) = true := by rw [c2652b0]; rfl
                                try rw [c2652b1]
                                clear c2652
                                go_wp2_with fail
                                obtain ⟨t2653, HA2654, H⟩ := bind_some H
                                refine (chain_List.calls _ t2649.2.2.2 t2649.2.2.1 t2293.1 t2293.2.1 t2293.2.2.1 t2293.2.2.2.1 0 g2300 g2301 A2302 ((t2293.2.2.2.2).length) n2304 t2653 _ ⟨HS.out.begin⟩ HA2654).mono ?_
                                rintro e_ w2655 ⟨A2657, m2658, n2659, rfl, hS⟩
                                replace HS : Aside0 (Sep (fps []) w [b7 g2300 g2301 t2293.1 t2293.2.1 t2293.2.2.1 t2293.2.2.2.1, b6 g2301 A2302 ((t2293.2.2.2.2).length) n2304 t2649.2.2.1, r5 A2302 ((t2293.2.2.2.2).length) n2304 t2649.2.2.2, r11 A2657 m2658 n2659 t2653] w2655) := ⟨HS.out.call hS⟩
                                clear hS
                                obtain rfl := (row_len (HS.out.at3)).symm
                                by_cases c2661 : (t2653.length : Int) = (wrap64 (a1))
                                · have H := if_yes c2661 H
                                  have c2661b0 : ((t2653.length : Int) == (wrap64 (a1))) = true := beq_iff_eq.mpr c2661
                                  have c2661b1 : ((t2653.length : Int) != (wrap64 (a1))) = false := bne_eq_false_iff_eq.mpr c2661
                                  clear c2661
                                  go_wp2_with fail
                                  obtain ⟨t2662, HA2663, H⟩ := bind_some H
                                  refine (quitrentlaw08_begun.calls _ t2662 _ ⟨Sep.start _⟩ HA2663).mono ?_
                                  rintro e_ w2664 ⟨rfl, hS⟩
                                  replace HS : Aside0 (Sep (fps []) w [b7 g2300 g2301 t2293.1 t2293.2.1 t2293.2.2.1 t2293.2.2.2.1, b6 g2301 A2302 ((t2293.2.2.2.2).length) n2304 t2649.2.2.1, r5 A2302 ((t2293.2.2.2.2).length) n2304 t2649.2.2.2, r11 A2657 t2653.length n2659 t2653] w2664) := ⟨HS.out.call hS⟩
                                  clear hS
                                  replace HS : Aside0 (Sep (fps []) w [] w2664) := ⟨HS.out.sub (.cons _ (.cons _ (.cons _ (.cons _ .slnil))))⟩
                                  go_wp2_with fail
                                  go_ret
                                  rw [← some_eq H]
                                  exact ⟨(by first | rfl | (simp [IntKind.wrap_u32]; done)), HS.out⟩
                                · have H := if_no c2661 H
                                  have c2661b0 : ((t2653.length : Int) == (wrap64 (a1))) = false := beq_eq_false_iff_ne.mpr c2661
                                  have c2661b1 : ((t2653.length : Int) != (wrap64 (a1))) = true := bne_iff_ne.mpr c2661
                                  clear c2661
                                  replace HS : Aside0 (Sep (fps []) w [] w2655) := ⟨HS.out.sub (.cons _ (.cons _ (.cons _ (.cons _ .slnil))))⟩
                                  go_wp2_with fail
                                  go_ret
                                  rw [← some_eq H]
                                  exact ⟨(by first | rfl | (simp [IntKind.wrap_u32]; done)), HS.out⟩
        · have H := if_no c2306 H
          have c2306b0 : a3 = false := by simpa using c2306
          have c2306b1 : (!a3) = true := by rw [c2306b0]; rfl
          clear c2306
          by_cases c2834 : (wrap64 (a1)) = 0
          · have H := if_yes c2834 H
            have c2834b0 : ((wrap64 (a1)) == 0) = true := beq_iff_eq.mpr c2834
            have c2834b1 : ((wrap64 (a1)) != 0) = false := bne_eq_false_iff_eq.mpr c2834
            exact (none_no H).elim
          · have H := if_no c2834 H
            have c2834b0 : ((wrap64 (a1)) == 0) = false := beq_eq_false_iff_ne.mpr c2834
            have c2834b1 : ((wrap64 (a1)) != 0) = true := bne_iff_ne.mpr c2834
            skip
            go_wp2_with fail
            clear c2834
            obtain ⟨o2856, AL2857, H⟩ := bind_some H
            go_loopg [12] k (fun kq v12 wc => ∃ (x2860 : Int) (x2861 : List Int) (x2862 : Int), v12 = .int .i64 x2860 ∧ Aside0 (quitrentlaw08_ChainOrder.lo3 kq a1 t2293 x2860 x2861 x2862 = some o2856) ∧ Aside0 (Sep (fps []) w [b7 g2300 g2301 t2293.1 t2293.2.1 t2293.2.2.1 t2293.2.2.2.1, b6 g2301 A2302 ((t2293.2.2.2.2).length) n2304 x2862, r5 A2302 ((t2293.2.2.2.2).length) n2304 x2861] wc))
            case atStart => exact ⟨(Int.tmod (wrap64 (a2)) (wrap64 (a1))), (t2293.2.2.2.2), (0), (by first | rfl | (simp [IntKind.wrap_u32]; done)), AL2857, ⟨HS.out⟩⟩
            case round =>
              clear AL2857 HS
              obtain ⟨x2860, x2861, x2862, rfl, AL2857, HS⟩ := hrel
              obtain ⟨w2858, rfl⟩ : ∃ x : World, x = wr := ⟨_, rfl⟩
              cases gk with
              | zero => exact absurd AL2857.out (by simp [quitrentlaw08_ChainOrder.lo3])
              | succ k2859 =>
                have AL0 := AL2857.out
                rw [quitrentlaw08_ChainOrder.lo3] at AL0
                clear AL2857
                have AL2857 := Aside0.mk AL0
                clear AL0
                by_cases c2863 : x2860 < (wrap64 (a1))
                · have AL2857 := if_yes c2863 AL2857
                  have c2863b0 : decide (x2860 < (wrap64 (a1))) = true := decide_eq_true c2863
                  clear c2863
                  go_wp2_with fail
                  obtain ⟨t2315, HA2864, AL2857⟩ := bind_some AL2857
                  refine (chain_Add.calls x2861 x2862 t2293.1 t2293.2.1 t2293.2.2.1 t2293.2.2.2.1 0 x2860 g2300 g2301 A2302 ((t2293.2.2.2.2).length) n2304 t2315 _ ⟨HS.out.begin⟩ HA2864).mono ?_
                  rintro e_ w2865 ⟨rfl, hS⟩
                  replace HS : Aside0 (Sep (fps []) w [b7 g2300 g2301 t2293.1 t2293.2.1 t2293.2.2.1 t2293.2.2.2.1, b6 g2301 A2302 ((t2293.2.2.2.2).length) n2304 t2315.2.1, r5 A2302 ((t2293.2.2.2.2).length) n2304 t2315.2.2] w2865) := ⟨HS.out.call hS⟩
                  clear hS
                  by_cases c2866 : t2315.1 = true
                  · have AL2857 := if_yes c2866 AL2857
                    have c2866b0 : t2315.1 = true := c2866
                    have c2866b1 : (!t2315.1) = false := by rw [c2866b0]; rfl
                    try rw [c2866b1]
                    clear c2866
                    go_wp2_with fail
                    go_roundg k2859
                    case measure => exact Nat.lt_succ_self _
                    case rel => exact ⟨(wrap64 (x2860 + 1)), (t2315.2.2), (t2315.2.1), (by first | rfl | (simp [IntKind.wrap_u32]; done)), Aside0.mk AL2857.out, ⟨HS.out⟩⟩
                  · have AL2857 := if_no c2866 AL2857
                    have c2866b0 : t2315.1 = false := by simpa using c2866
                    have c2866b1 : (!t2315.1) = true := by rw [c2866b0]; rfl
                    try rw [c2866b1]
                    clear c2866
                    go_wp2_with fail
                    have ho := some_eq AL2857
                    subst ho
                    have H := lp_ret H
                    go_ret
                    rw [← some_eq H]
                    exact ⟨(by first | rfl | (simp [IntKind.wrap_u32]; done)), HS.out.sub (.cons _ (.cons _ (.cons _ .slnil)))⟩
                · have AL2857 := if_no c2863 AL2857
                  have c2863b0 : decide (x2860 < (wrap64 (a1))) = false := decide_eq_false c2863
                  clear c2863
                  have ho := some_eq AL2857
                  subst ho
                  clear AL2857
                  have H := lp_out H
                  go_wp2_with fail
                  obtain ⟨o2888, AL2889, H⟩ := bind_some H
                  go_loopg [13] k (fun kq v13 wc => ∃ (x2892 : Int) (x2893 : List Int) (x2894 : Int), v13 = .int .i64 x2892 ∧ Aside0 (quitrentlaw08_ChainOrder.lo4 kq t2293 x2892 x2893 x2894 = some o2888) ∧ Aside0 (Sep (fps []) w [b7 g2300 g2301 t2293.1 t2293.2.1 t2293.2.2.1 t2293.2.2.2.1, b6 g2301 A2302 ((t2293.2.2.2.2).length) n2304 x2894, r5 A2302 ((t2293.2.2.2.2).length) n2304 x2893] wc))
                  case atStart => exact ⟨(wrap64 ((Int.tmod (wrap64 (a2)) (wrap64 (a1))) - 1)), (x2861), (x2862), (by first | rfl | (simp [IntKind.wrap_u32]; done)), AL2889, ⟨HS.out⟩⟩
                  case round =>
                    clear AL2889 HS
                    obtain ⟨x2892, x2893, x2894, rfl, AL2889, HS⟩ := hrel
                    obtain ⟨w2890, rfl⟩ : ∃ x : World, x = wr := ⟨_, rfl⟩
                    cases gk with
                    | zero => exact absurd AL2889.out (by simp [quitrentlaw08_ChainOrder.lo4])
                    | succ k2891 =>
                      have AL0 := AL2889.out
                      rw [quitrentlaw08_ChainOrder.lo4] at AL0
                      clear AL2889
                      have AL2889 := Aside0.mk AL0
                      clear AL0
                      by_cases c2895 : x2892 ≥ 0
                      · have AL2889 := if_yes c2895 AL2889
                        have c2895b0 : decide (0 ≤ x2892) = true := decide_eq_true c2895
                        clear c2895
                        go_wp2_with fail
                        obtain ⟨t2348, HA2896, AL2889⟩ := bind_some AL2889
                        refine (chain_Push.calls x2893 x2894 t2293.1 t2293.2.1 t2293.2.2.1 t2293.2.2.2.1 0 x2892 g2300 g2301 A2302 ((t2293.2.2.2.2).length) n2304 t2348 _ ⟨HS.out.begin⟩ HA2896).mono ?_
                        rintro e_ w2897 ⟨rfl, hS⟩
                        replace HS : Aside0 (Sep (fps []) w [b7 g2300 g2301 t2293.1 t2293.2.1 t2293.2.2.1 t2293.2.2.2.1, b6 g2301 A2302 ((t2293.2.2.2.2).length) n2304 t2348.2.1, r5 A2302 ((t2293.2.2.2.2).length) n2304 t2348.2.2] w2897) := ⟨HS.out.call hS⟩
                        clear hS
                        by_cases c2898 : t2348.1 = true
                        · have AL2889 := if_yes c2898 AL2889
                          have c2898b0 : t2348.1 = true := c2898
                          have c2898b1 : (!t2348.1) = false := by rw [c2898b0]; rfl
                          try rw [c2898b1]
                          clear c2898
                          go_wp2_with fail
                          go_roundg k2891
                          case measure => exact Nat.lt_succ_self _
                          case rel => exact ⟨(wrap64 (x2892 - 1)), (t2348.2.2), (t2348.2.1), (by first | rfl | (simp [IntKind.wrap_u32]; done)), Aside0.mk AL2889.out, ⟨HS.out⟩⟩
                        · have AL2889 := if_no c2898 AL2889
                          have c2898b0 : t2348.1 = false := by simpa using c2898
                          have c2898b1 : (!t2348.1) = true := by rw [c2898b0]; rfl
                          try rw [c2898b1]
                          clear c2898
                          go_wp2_with fail
                          have ho := some_eq AL2889
                          subst ho
                          have H := lp_ret H
                          go_ret
                          rw [← some_eq H]
                          exact ⟨(by first | rfl | (simp [IntKind.wrap_u32]; done)), HS.out.sub (.cons _ (.cons _ (.cons _ .slnil)))⟩
                      · have AL2889 := if_no c2895 AL2889
                        have c2895b0 : decide (0 ≤ x2892) = false := decide_eq_false c2895
                        clear c2895
                        have ho := some_eq AL2889
                        subst ho
                        clear AL2889
                        have H := lp_out H
                        go_wp2_with fail
                        obtain ⟨o2938, AL2939, H⟩ := bind_some H
                        go_loopg [14] k (fun kq v14 wc => ∃ (x2942 : Int) (x2943 : List Int) (x2944 : Int), v14 = .int .i64 x2942 ∧ Aside0 (quitrentlaw08_ChainOrder.lo5 kq a1 t2293 x2942 x2943 x2944 = some o2938) ∧ Aside0 (Sep (fps []) w [b7 g2300 g2301 t2293.1 t2293.2.1 t2293.2.2.1 t2293.2.2.2.1, b6 g2301 A2302 ((t2293.2.2.2.2).length) n2304 x2944, r5 A2302 ((t2293.2.2.2.2).length) n2304 x2943] wc))
                        case atStart => exact ⟨(0), (x2893), (x2894), (by first | rfl | (simp [IntKind.wrap_u32]; done)), AL2939, ⟨HS.out⟩⟩
                        case round =>
                          clear AL2939 HS
                          obtain ⟨x2942, x2943, x2944, rfl, AL2939, HS⟩ := hrel
                          obtain ⟨w2940, rfl⟩ : ∃ x : World, x = wr := ⟨_, rfl⟩
                          cases gk with
                          | zero => exact absurd AL2939.out (by simp [quitrentlaw08_ChainOrder.lo5])
                          | succ k2941 =>
                            have AL0 := AL2939.out
                            rw [quitrentlaw08_ChainOrder.lo5] at AL0
                            clear AL2939
                            have AL2939 := Aside0.mk AL0
                            clear AL0
                            by_cases c2945 : x2942 < (wrap64 (a1))
                            · have AL2939 := if_yes c2945 AL2939
                              have c2945b0 : decide (x2942 < (wrap64 (a1))) = true := decide_eq_true c2945
                              clear c2945
                              go_wp2_with fail
                              obtain ⟨t2541, HA2946, AL2939⟩ := bind_some AL2939
                              refine (chain_Take.calls x2943 x2944 t2293.1 t2293.2.1 t2293.2.2.1 t2293.2.2.2.1 0 g2300 g2301 A2302 ((t2293.2.2.2.2).length) n2304 t2541 _ ⟨HS.out.begin⟩ HA2946).mono ?_
                              rintro e_ w2947 ⟨rfl, hS⟩
                              replace HS : Aside0 (Sep (fps []) w [b7 g2300 g2301 t2293.1 t2293.2.1 t2293.2.2.1 t2293.2.2.2.1, b6 g2301 A2302 ((t2293.2.2.2.2).length) n2304 t2541.2.2.1, r5 A2302 ((t2293.2.2.2.2).length) n2304 t2541.2.2.2] w2947) := ⟨HS.out.call hS⟩
                              clear hS
                              by_cases c2948 : t2541.1 = x2942
                              · have AL2939 := if_yes c2948 AL2939
                                have c2948b0 : (t2541.1 == x2942) = true := beq_iff_eq.mpr c2948
                                have c2948b1 : (t2541.1 != x2942) = false := bne_eq_false_iff_eq.mpr c2948
                                clear c2948
                                by_cases c2949 : t2541.2.1 = true
                                · have AL2939 := if_yes c2949 AL2939
                                  have c2949b0 : t2541.2.1 = true := c2949
                                  have c2949b1 : (!t2541.2.1) = false := by rw [c2949b0]; rfl
                                  try rw [c2949b1]
                                  clear c2949
                                  go_wp2_with fail
                                  obtain ⟨t2546, HA2950, AL2939⟩ := bind_some AL2939
                                  refine (chain_Add.calls t2541.2.2.2 t2541.2.2.1 t2293.1 t2293.2.1 t2293.2.2.1 t2293.2.2.2.1 1 t2541.1 g2300 g2301 A2302 ((t2293.2.2.2.2).length) n2304 t2546 _ ⟨HS.out.begin⟩ HA2950).mono ?_
                                  rintro e_ w2951 ⟨rfl, hS⟩
                                  replace HS : Aside0 (Sep (fps []) w [b7 g2300 g2301 t2293.1 t2293.2.1 t2293.2.2.1 t2293.2.2.2.1, b6 g2301 A2302 ((t2293.2.2.2.2).length) n2304 t2546.2.1, r5 A2302 ((t2293.2.2.2.2).length) n2304 t2546.2.2] w2951) := ⟨HS.out.call hS⟩
                                  clear hS
                                  by_cases c2952 : t2546.1 = true
                                  · have AL2939 := if_yes c2952 AL2939
                                    have c2952b0 : t2546.1 = true := c2952
                                    have c2952b1 : (!t2546.1) = false := by rw [c2952b0]; rfl
                                    try rw [c2952b1]
                                    clear c2952
                                    go_wp2_with fail
                                    obtain ⟨t2602, HA2953, AL2939⟩ := bind_some AL2939
                                    refine (chain_Len.calls t2546.2.2 t2546.2.1 t2293.1 t2293.2.1 t2293.2.2.1 t2293.2.2.2.1 0 g2300 g2301 A2302 ((t2293.2.2.2.2).length) n2304 t2602 _ ⟨HS.out.begin⟩ HA2953).mono ?_
                                    rintro e_ w2954 ⟨rfl, hS⟩
                                    replace HS : Aside0 (Sep (fps []) w [b7 g2300 g2301 t2293.1 t2293.2.1 t2293.2.2.1 t2293.2.2.2.1, b6 g2301 A2302 ((t2293.2.2.2.2).length) n2304 t2602.2, r5 A2302 ((t2293.2.2.2.2).length) n2304 t2546.2.2] w2954) := ⟨HS.out.call hS⟩
                                    clear hS
                                    go_wp2_with fail
                                    obtain ⟨t2605, HA2955, AL2939⟩ := bind_some AL2939
                                    refine (chain_Len.calls t2546.2.2 t2602.2 t2293.1 t2293.2.1 t2293.2.2.1 t2293.2.2.2.1 1 g2300 g2301 A2302 ((t2293.2.2.2.2).length) n2304 t2605 _ ⟨HS.out.begin⟩ HA2955).mono ?_
                                    rintro e_ w2956 ⟨rfl, hS⟩
                                    replace HS : Aside0 (Sep (fps []) w [b7 g2300 g2301 t2293.1 t2293.2.1 t2293.2.2.1 t2293.2.2.2.1, b6 g2301 A2302 ((t2293.2.2.2.2).length) n2304 t2605.2, r5 A2302 ((t2293.2.2.2.2).length) n2304 t2546.2.2] w2956) := ⟨HS.out.call hS⟩
                                    clear hS
                                    by_cases c2957 : (wrap64 (t2602.1 + t2605.1)) = (wrap64 (a1))
                                    · have AL2939 := if_yes c2957 AL2939
                                      have c2957b0 : ((wrap64 (t2602.1 + t2605.1)) == (wrap64 (a1))) = true := beq_iff_eq.mpr c2957
                                      have c2957b1 : ((wrap64 (t2602.1 + t2605.1)) != (wrap64 (a1))) = false := bne_eq_false_iff_eq.mpr c2957
                                      clear c2957
                                      go_wp2_with fail
                                      go_roundg k2941
                                      case measure => exact Nat.lt_succ_self _
                                      case rel => exact ⟨(wrap64 (x2942 + 1)), (t2546.2.2), (t2605.2), (by first | rfl | (simp [IntKind.wrap_u32]; done)), Aside0.mk AL2939.out, ⟨HS.out⟩⟩
                                    · have AL2939 := if_no c2957 AL2939
                                      have c2957b0 : ((wrap64 (t2602.1 + t2605.1)) == (wrap64 (a1))) = false := beq_eq_false_iff_ne.mpr c2957
                                      have c2957b1 : ((wrap64 (t2602.1 + t2605.1)) != (wrap64 (a1))) = true := bne_iff_ne.mpr c2957
                                      clear c2957
                                      go_wp2_with fail
                                      have ho := some_eq AL2939
                                      subst ho
                                      have H := lp_ret H
                                      go_ret
                                      rw [← some_eq H]
                                      exact ⟨(by first | rfl | (simp [IntKind.wrap_u32]; done)), HS.out.sub (.cons _ (.cons _ (.cons _ .slnil)))⟩
                                  · have AL2939 := if_no c2952 AL2939
                                    have c2952b0 : t2546.1 = false := by simpa using c2952
                                    have c2952b1 : (!t2546.1) = true := by rw [c2952b0]; rfl
                                    try rw [c2952b1]
                                    clear c2952
                                    go_wp2_with fail
                                    have ho := some_eq AL2939
                                    subst ho
                                    have H := lp_ret H
                                    go_ret
                                    rw [← some_eq H]
                                    exact ⟨(by first | rfl | (simp [IntKind.wrap_u32]; done)), HS.out.sub (.cons _ (.cons _ (.cons _ .slnil)))⟩
                                · have AL2939 := if_no c2949 AL2939
                                  have c2949b0 : t2541.2.1 = false := by simpa using c2949
                                  have c2949b1 : (!t2541.2.1) = true := by rw [c2949b0]; rfl
                                  try rw [c2949b1]
                                  clear c2949
                                  go_wp2_with fail
                                  have ho := some_eq AL2939
                                  subst ho
                                  have H := lp_ret H
                                  go_ret
                                  rw [← some_eq H]
                                  exact ⟨(by first | rfl | (simp [IntKind.wrap_u32]; done)), HS.out.sub (.cons _ (.cons _ (.cons _ .slnil)))⟩
                              · have AL2939 := if_no c2948 AL2939
                                have c2948b0 : (t2541.1 == x2942) = false := beq_eq_false_iff_ne.mpr c2948
                                have c2948b1 : (t2541.1 != x2942) = true := bne_iff_ne.mpr c2948
                                clear c2948
                                go_wp2_with fail
                                have ho := some_eq AL2939
                                subst ho
                                have H := lp_ret H
                                go_ret
                                rw [← some_eq H]
                                exact ⟨(by first | rfl | (simp [IntKind.wrap_u32]; done)), HS.out.sub (.cons _ (.cons _ (.cons _ .slnil)))⟩
                            · have AL2939 := if_no c2945 AL2939
                              have c2945b0 : decide (x2942 < (wrap64 (a1))) = false := decide_eq_false c2945
                              clear c2945
                              have ho := some_eq AL2939
                              subst ho
                              clear AL2939
                              have H := lp_out H
                              go_wp2_with fail
                              obtain ⟨t2649, HA2958, H⟩ := bind_some H
                              refine (chain_Take.calls x2943 x2944 t2293.1 t2293.2.1 t2293.2.2.1 t2293.2.2.2.1 0 g2300 g2301 A2302 ((t2293.2.2.2.2).length) n2304 t2649 _ ⟨HS.out.begin⟩ HA2958).mono ?_
                              rintro e_ w2959 ⟨rfl, hS⟩
                              replace HS : Aside0 (Sep (fps []) w [b7 g2300 g2301 t2293.1 t2293.2.1 t2293.2.2.1 t2293.2.2.2.1, b6 g2301 A2302 ((t2293.2.2.2.2).length) n2304 t2649.2.2.1, r5 A2302 ((t2293.2.2.2.2).length) n2304 t2649.2.2.2] w2959) := ⟨HS.out.call hS⟩
                              clear hS
                              by_cases c2960 : t2649.2.1 = true
                              · have H := if_yes c2960 H
                                have c2960b0 : t2649.2.1 = true := c2960
                                have c2960b1 : (!t2649.2.1) = false := by rw [c2960b0]; rfl
                                try rw [c2960b1]
                                clear c2960
                                replace HS : Aside0 (Sep (fps []) w [] w2959) := ⟨HS.out.sub (.cons _ (.cons _ (.cons _ .slnil)))⟩
                                go_wp2_with fail
                                go_ret
                                rw [← some_eq H]
                                exact ⟨(by first | rfl | (simp [IntKind.wrap_u32]; done)), HS.out⟩
                              · have H := if_no c2960 H
                                have c2960b0 : t2649.2.1 = false := by simpa using c2960
                                have c2960b1 : (!t2649.2.1) = true := by rw [c2960b0]; rfl
                                try rw [c2960b1]
                                clear c2960
                                go_wp2_with fail
                                obtain ⟨t2653, HA2961, H⟩ := bind_some H
                                refine (chain_List.calls _ t2649.2.2.2 t2649.2.2.1 t2293.1 t2293.2.1 t2293.2.2.1 t2293.2.2.2.1 1 g2300 g2301 A2302 ((t2293.2.2.2.2).length) n2304 t2653 _ ⟨HS.out.begin⟩ HA2961).mono ?_
                                rintro e_ w2962 ⟨A2964, m2965, n2966, rfl, hS⟩
                                replace HS : Aside0 (Sep (fps []) w [b7 g2300 g2301 t2293.1 t2293.2.1 t2293.2.2.1 t2293.2.2.2.1, b6 g2301 A2302 ((t2293.2.2.2.2).length) n2304 t2649.2.2.1, r5 A2302 ((t2293.2.2.2.2).length) n2304 t2649.2.2.2, r11 A2964 m2965 n2966 t2653] w2962) := ⟨HS.out.call hS⟩
                                clear hS
                                obtain rfl := (row_len (HS.out.at3)).symm
                                by_cases c2968 : (t2653.length : Int) = (wrap64 (a1))
                                · have H := if_yes c2968 H
                                  have c2968b0 : ((t2653.length : Int) == (wrap64 (a1))) = true := beq_iff_eq.mpr c2968
                                  have c2968b1 : ((t2653.length : Int) != (wrap64 (a1))) = false := bne_eq_false_iff_eq.mpr c2968
                                  clear c2968
                                  go_wp2_with fail
                                  obtain ⟨t2662, HA2969, H⟩ := bind_some H
                                  refine (quitrentlaw08_begun.calls _ t2662 _ ⟨Sep.start _⟩ HA2969).mono ?_
                                  rintro e_ w2970 ⟨rfl, hS⟩
                                  replace HS : Aside0 (Sep (fps []) w [b7 g2300 g2301 t2293.1 t2293.2.1 t2293.2.2.1 t2293.2.2.2.1, b6 g2301 A2302 ((t2293.2.2.2.2).length) n2304 t2649.2.2.1, r5 A2302 ((t2293.2.2.2.2).length) n2304 t2649.2.2.2, r11 A2964 t2653.length n2966 t2653] w2970) := ⟨HS.out.call hS⟩
                                  clear hS
                                  replace HS : Aside0 (Sep (fps []) w [] w2970) := ⟨HS.out.sub (.cons _ (.cons _ (.cons _ (.cons _ .slnil))))⟩
                                  go_wp2_with fail
                                  go_ret
                                  rw [← some_eq H]
                                  exact ⟨(by first | rfl | (simp [IntKind.wrap_u32]; done)), HS.out⟩
                                · have H := if_no c2968 H
                                  have c2968b0 : ((t2653.length : Int) == (wrap64 (a1))) = false := beq_eq_false_iff_ne.mpr c2968
                                  have c2968b1 : ((t2653.length : Int) != (wrap64 (a1))) = true := bne_iff_ne.mpr c2968
                                  clear c2968
                                  replace HS : Aside0 (Sep (fps []) w [] w2962) := ⟨HS.out.sub (.cons _ (.cons _ (.cons _ (.cons _ .slnil))))⟩
                                  go_wp2_with fail
                                  go_ret
                                  rw [← some_eq H]
                                  exact ⟨(by first | rfl | (simp [IntKind.wrap_u32]; done)), HS.out⟩
      · have H := sum_r H
        have H := sum_r H
        refine (ground_New.calls _ (wrap64 (a1)) 16 1 1 (.inr (.inr t2294)) _ ⟨Sep.start _⟩ HA2291).mono ?_
        rintro e_ w3140 ⟨rfl, hS⟩
        replace HS : Aside0 (Sep (fps []) w [] w3140) := ⟨HS.out.call hS⟩
        clear hS
        by_cases c3141 : t2294 = 0
        · have H := if_yes c3141 H
          have c3141b0 : (t2294 == 0) = true := beq_iff_eq.mpr c3141
          have c3141b1 : (t2294 != 0) = false := bne_eq_false_iff_eq.mpr c3141
          clear c3141
          by_cases c3142 : a3 = true
          · have H := if_yes c3142 H
            have c3142b0 : a3 = true := c3142
            have c3142b1 : (!a3) = false := by rw [c3142b0]; rfl
            clear c3142
            by_cases c3143 : (wrap64 (a1)) = 0
            · have H := if_yes c3143 H
              have c3143b0 : ((wrap64 (a1)) == 0) = true := beq_iff_eq.mpr c3143
              have c3143b1 : ((wrap64 (a1)) != 0) = false := bne_eq_false_iff_eq.mpr c3143
              exact (none_no H).elim
            · have H := if_no c3143 H
              have c3143b0 : ((wrap64 (a1)) == 0) = false := beq_eq_false_iff_ne.mpr c3143
              have c3143b1 : ((wrap64 (a1)) != 0) = true := bne_iff_ne.mpr c3143
              skip
              go_wp2_with fail
              clear c3143
              obtain ⟨o3154, AL3155, H⟩ := bind_some H
              go_loopg [12] k (fun kq v12 wc => ∃ (x3158 : Int), v12 = .int .i64 x3158 ∧ Aside0 (quitrentlaw08_ChainOrder.lo6 kq a1 x3158 = some o3154) ∧ Aside0 (Sep (fps []) w [] wc))
              case atStart => exact ⟨(Int.tmod (wrap64 (a2)) (wrap64 (a1))), (by first | rfl | (simp [IntKind.wrap_u32]; done)), AL3155, ⟨HS.out⟩⟩
              case round =>
                clear AL3155 HS
                obtain ⟨x3158, rfl, AL3155, HS⟩ := hrel
                obtain ⟨w3156, rfl⟩ : ∃ x : World, x = wr := ⟨_, rfl⟩
                cases gk with
                | zero => exact absurd AL3155.out (by simp [quitrentlaw08_ChainOrder.lo6])
                | succ k3157 =>
                  have AL0 := AL3155.out
                  rw [quitrentlaw08_ChainOrder.lo6] at AL0
                  clear AL3155
                  have AL3155 := Aside0.mk AL0
                  clear AL0
                  by_cases c3159 : x3158 < (wrap64 (a1))
                  · have AL3155 := if_yes c3159 AL3155
                    have c3159b0 : decide (x3158 < (wrap64 (a1))) = true := decide_eq_true c3159
                    clear c3159
                    go_wp2_with fail
                    obtain ⟨t2315, HA3160, AL3155⟩ := bind_some AL3155
                    refine (chain_Add_nil.calls 1 x3158 t2315 _ ⟨Sep.start _⟩ HA3160).mono ?_
                    rintro e_ w3161 ⟨rfl, hS⟩
                    replace HS : Aside0 (Sep (fps []) w [] w3161) := ⟨HS.out.call hS⟩
                    clear hS
                    by_cases c3162 : t2315 = true
                    · have AL3155 := if_yes c3162 AL3155
                      have c3162b0 : t2315 = true := c3162
                      have c3162b1 : (!t2315) = false := by rw [c3162b0]; rfl
                      try rw [c3162b1]
                      clear c3162
                      go_wp2_with fail
                      go_roundg k3157
                      case measure => exact Nat.lt_succ_self _
                      case rel => exact ⟨(wrap64 (x3158 + 1)), (by first | rfl | (simp [IntKind.wrap_u32]; done)), Aside0.mk AL3155.out, ⟨HS.out⟩⟩
                    · have AL3155 := if_no c3162 AL3155
                      have c3162b0 : t2315 = false := by simpa using c3162
                      have c3162b1 : (!t2315) = true := by rw [c3162b0]; rfl
                      try rw [c3162b1]
                      clear c3162
                      go_wp2_with fail
                      have ho := some_eq AL3155
                      subst ho
                      have H := lp_ret H
                      go_ret
                      rw [← some_eq H]
                      exact ⟨(by first | rfl | (simp [IntKind.wrap_u32]; done)), HS.out⟩
                  · have AL3155 := if_no c3159 AL3155
                    have c3159b0 : decide (x3158 < (wrap64 (a1))) = false := decide_eq_false c3159
                    clear c3159
                    have ho := some_eq AL3155
                    subst ho
                    clear AL3155
                    have H := lp_out H
                    go_wp2_with fail
                    obtain ⟨o3173, AL3174, H⟩ := bind_some H
                    go_loopg [13] k (fun kq v13 wc => ∃ (x3177 : Int), v13 = .int .i64 x3177 ∧ Aside0 (quitrentlaw08_ChainOrder.lo7 kq  x3177 = some o3173) ∧ Aside0 (Sep (fps []) w [] wc))
                    case atStart => exact ⟨(wrap64 ((Int.tmod (wrap64 (a2)) (wrap64 (a1))) - 1)), (by first | rfl | (simp [IntKind.wrap_u32]; done)), AL3174, ⟨HS.out⟩⟩
                    case round =>
                      clear AL3174 HS
                      obtain ⟨x3177, rfl, AL3174, HS⟩ := hrel
                      obtain ⟨w3175, rfl⟩ : ∃ x : World, x = wr := ⟨_, rfl⟩
                      cases gk with
                      | zero => exact absurd AL3174.out (by simp [quitrentlaw08_ChainOrder.lo7])
                      | succ k3176 =>
                        have AL0 := AL3174.out
                        rw [quitrentlaw08_ChainOrder.lo7] at AL0
                        clear AL3174
                        have AL3174 := Aside0.mk AL0
                        clear AL0
                        by_cases c3178 : x3177 ≥ 0
                        · have AL3174 := if_yes c3178 AL3174
                          have c3178b0 : decide (0 ≤ x3177) = true := decide_eq_true c3178
                          clear c3178
                          go_wp2_with fail
                          obtain ⟨t2348, HA3179, AL3174⟩ := bind_some AL3174
                          refine (chain_Push_nil.calls 1 x3177 t2348 _ ⟨Sep.start _⟩ HA3179).mono ?_
                          rintro e_ w3180 ⟨rfl, hS⟩
                          replace HS : Aside0 (Sep (fps []) w [] w3180) := ⟨HS.out.call hS⟩
                          clear hS
                          by_cases c3181 : t2348 = true
                          · have AL3174 := if_yes c3181 AL3174
                            have c3181b0 : t2348 = true := c3181
                            have c3181b1 : (!t2348) = false := by rw [c3181b0]; rfl
                            try rw [c3181b1]
                            clear c3181
                            go_wp2_with fail
                            go_roundg k3176
                            case measure => exact Nat.lt_succ_self _
                            case rel => exact ⟨(wrap64 (x3177 - 1)), (by first | rfl | (simp [IntKind.wrap_u32]; done)), Aside0.mk AL3174.out, ⟨HS.out⟩⟩
                          · have AL3174 := if_no c3181 AL3174
                            have c3181b0 : t2348 = false := by simpa using c3181
                            have c3181b1 : (!t2348) = true := by rw [c3181b0]; rfl
                            try rw [c3181b1]
                            clear c3181
                            go_wp2_with fail
                            have ho := some_eq AL3174
                            subst ho
                            have H := lp_ret H
                            go_ret
                            rw [← some_eq H]
                            exact ⟨(by first | rfl | (simp [IntKind.wrap_u32]; done)), HS.out⟩
                        · have AL3174 := if_no c3178 AL3174
                          have c3178b0 : decide (0 ≤ x3177) = false := decide_eq_false c3178
                          clear c3178
                          have ho := some_eq AL3174
                          subst ho
                          clear AL3174
                          have H := lp_out H
                          go_wp2_with fail
                          obtain ⟨o3280, AL3281, H⟩ := bind_some H
                          go_loopg [14] k (fun kq v14 wc => ∃ (x3284 : Int), v14 = .int .i64 x3284 ∧ Aside0 (quitrentlaw08_ChainOrder.lo8 kq a1 x3284 = some o3280) ∧ Aside0 (Sep (fps []) w [] wc))
                          case atStart => exact ⟨(0), (by first | rfl | (simp [IntKind.wrap_u32]; done)), AL3281, ⟨HS.out⟩⟩
                          case round =>
                            clear AL3281 HS
                            obtain ⟨x3284, rfl, AL3281, HS⟩ := hrel
                            obtain ⟨w3282, rfl⟩ : ∃ x : World, x = wr := ⟨_, rfl⟩
                            cases gk with
                            | zero => exact absurd AL3281.out (by simp [quitrentlaw08_ChainOrder.lo8])
                            | succ k3283 =>
                              have AL0 := AL3281.out
                              rw [quitrentlaw08_ChainOrder.lo8] at AL0
                              clear AL3281
                              have AL3281 := Aside0.mk AL0
                              clear AL0
                              by_cases c3285 : x3284 < (wrap64 (a1))
                              · have AL3281 := if_yes c3285 AL3281
                                have c3285b0 : decide (x3284 < (wrap64 (a1))) = true := decide_eq_true c3285
                                clear c3285
                                go_wp2_with fail
                                obtain ⟨t2541, HA3286, AL3281⟩ := bind_some AL3281
                                refine (chain_Take_nil.calls 1 t2541 _ ⟨Sep.start _⟩ HA3286).mono ?_
                                rintro e_ w3287 ⟨rfl, hS⟩
                                replace HS : Aside0 (Sep (fps []) w [] w3287) := ⟨HS.out.call hS⟩
                                clear hS
                                by_cases c3288 : t2541.1 = x3284
                                · have AL3281 := if_yes c3288 AL3281
                                  have c3288b0 : (t2541.1 == x3284) = true := beq_iff_eq.mpr c3288
                                  have c3288b1 : (t2541.1 != x3284) = false := bne_eq_false_iff_eq.mpr c3288
                                  clear c3288
                                  by_cases c3289 : t2541.2 = true
                                  · have AL3281 := if_yes c3289 AL3281
                                    have c3289b0 : t2541.2 = true := c3289
                                    have c3289b1 : (!t2541.2) = false := by rw [c3289b0]; rfl
                                    try rw [c3289b1]
                                    clear c3289
                                    go_wp2_with fail
                                    obtain ⟨t2546, HA3290, AL3281⟩ := bind_some AL3281
                                    refine (chain_Add_nil.calls 0 t2541.1 t2546 _ ⟨Sep.start _⟩ HA3290).mono ?_
                                    rintro e_ w3291 ⟨rfl, hS⟩
                                    replace HS : Aside0 (Sep (fps []) w [] w3291) := ⟨HS.out.call hS⟩
                                    clear hS
                                    by_cases c3292 : t2546 = true
                                    · have AL3281 := if_yes c3292 AL3281
                                      have c3292b0 : t2546 = true := c3292
                                      have c3292b1 : (!t2546) = false := by rw [c3292b0]; rfl
                                      try rw [c3292b1]
                                      clear c3292
                                      go_wp2_with fail
                                      obtain ⟨t2602, HA3293, AL3281⟩ := bind_some AL3281
                                      refine (chain_Len_nil.calls 1 t2602 _ ⟨Sep.start _⟩ HA3293).mono ?_
                                      rintro e_ w3294 ⟨rfl, hS⟩
                                      replace HS : Aside0 (Sep (fps []) w [] w3294) := ⟨HS.out.call hS⟩
                                      clear hS
                                      go_wp2_with fail
                                      obtain ⟨t2605, HA3295, AL3281⟩ := bind_some AL3281
                                      refine (chain_Len_nil.calls 0 t2605 _ ⟨Sep.start _⟩ HA3295).mono ?_
                                      rintro e_ w3296 ⟨rfl, hS⟩
                                      replace HS : Aside0 (Sep (fps []) w [] w3296) := ⟨HS.out.call hS⟩
                                      clear hS
                                      by_cases c3297 : (wrap64 (t2602 + t2605)) = (wrap64 (a1))
                                      · have AL3281 := if_yes c3297 AL3281
                                        have c3297b0 : ((wrap64 (t2602 + t2605)) == (wrap64 (a1))) = true := beq_iff_eq.mpr c3297
                                        have c3297b1 : ((wrap64 (t2602 + t2605)) != (wrap64 (a1))) = false := bne_eq_false_iff_eq.mpr c3297
                                        clear c3297
                                        go_wp2_with fail
                                        go_roundg k3283
                                        case measure => exact Nat.lt_succ_self _
                                        case rel => exact ⟨(wrap64 (x3284 + 1)), (by first | rfl | (simp [IntKind.wrap_u32]; done)), Aside0.mk AL3281.out, ⟨HS.out⟩⟩
                                      · have AL3281 := if_no c3297 AL3281
                                        have c3297b0 : ((wrap64 (t2602 + t2605)) == (wrap64 (a1))) = false := beq_eq_false_iff_ne.mpr c3297
                                        have c3297b1 : ((wrap64 (t2602 + t2605)) != (wrap64 (a1))) = true := bne_iff_ne.mpr c3297
                                        clear c3297
                                        go_wp2_with fail
                                        have ho := some_eq AL3281
                                        subst ho
                                        have H := lp_ret H
                                        go_ret
                                        rw [← some_eq H]
                                        exact ⟨(by first | rfl | (simp [IntKind.wrap_u32]; done)), HS.out⟩
                                    · have AL3281 := if_no c3292 AL3281
                                      have c3292b0 : t2546 = false := by simpa using c3292
                                      have c3292b1 : (!t2546) = true := by rw [c3292b0]; rfl
                                      try rw [c3292b1]
                                      clear c3292
                                      go_wp2_with fail
                                      have ho := some_eq AL3281
                                      subst ho
                                      have H := lp_ret H
                                      go_ret
                                      rw [← some_eq H]
                                      exact ⟨(by first | rfl | (simp [IntKind.wrap_u32]; done)), HS.out⟩
                                  · have AL3281 := if_no c3289 AL3281
                                    have c3289b0 : t2541.2 = false := by simpa using c3289
                                    have c3289b1 : (!t2541.2) = true := by rw [c3289b0]; rfl
                                    try rw [c3289b1]
                                    clear c3289
                                    go_wp2_with fail
                                    have ho := some_eq AL3281
                                    subst ho
                                    have H := lp_ret H
                                    go_ret
                                    rw [← some_eq H]
                                    exact ⟨(by first | rfl | (simp [IntKind.wrap_u32]; done)), HS.out⟩
                                · have AL3281 := if_no c3288 AL3281
                                  have c3288b0 : (t2541.1 == x3284) = false := beq_eq_false_iff_ne.mpr c3288
                                  have c3288b1 : (t2541.1 != x3284) = true := bne_iff_ne.mpr c3288
                                  clear c3288
                                  go_wp2_with fail
                                  have ho := some_eq AL3281
                                  subst ho
                                  have H := lp_ret H
                                  go_ret
                                  rw [← some_eq H]
                                  exact ⟨(by first | rfl | (simp [IntKind.wrap_u32]; done)), HS.out⟩
                              · have AL3281 := if_no c3285 AL3281
                                have c3285b0 : decide (x3284 < (wrap64 (a1))) = false := decide_eq_false c3285
                                clear c3285
                                have ho := some_eq AL3281
                                subst ho
                                clear AL3281
                                have H := lp_out H
                                go_wp2_with fail
                                obtain ⟨t2649, HA3298, H⟩ := bind_some H
                                refine (chain_Take_nil.calls 1 t2649 _ ⟨Sep.start _⟩ HA3298).mono ?_
                                rintro e_ w3299 ⟨rfl, hS⟩
                                replace HS : Aside0 (Sep (fps []) w [] w3299) := ⟨HS.out.call hS⟩
                                clear hS
                                by_cases c3300 : t2649.2 = true
                                · have H := if_yes c3300 H
                                  have c3300b0 : t2649.2 = true := c3300
                                  have c3300b1 : (!t2649.2) = false := by rw [c3300b0]; rfl
                                  try rw [c3300b1]
                                  clear c3300
                                  go_wp2_with fail
                                  go_ret
                                  rw [← some_eq H]
                                  exact ⟨(by first | rfl | (simp [IntKind.wrap_u32]; done)), HS.out⟩
                                · have H := if_no c3300 H
                                  have c3300b0 : t2649.2 = false := by simpa using c3300
                                  have c3300b1 : (!t2649.2) = true := by rw [c3300b0]; rfl
                                  try rw [c3300b1]
                                  clear c3300
                                  go_wp2_with fail
                                  obtain ⟨t2653, HA3301, H⟩ := bind_some H
                                  refine (chain_List_nil.calls _ 0 t2653 _ ⟨Sep.start _⟩ HA3301).mono ?_
                                  rintro e_ w3302 ⟨A3304, m3305, n3306, rfl, hS⟩
                                  replace HS : Aside0 (Sep (fps []) w [r11 A3304 m3305 n3306 t2653] w3302) := ⟨HS.out.call hS⟩
                                  clear hS
                                  obtain rfl := (row_len (HS.out.at0)).symm
                                  by_cases c3308 : (t2653.length : Int) = (wrap64 (a1))
                                  · have H := if_yes c3308 H
                                    have c3308b0 : ((t2653.length : Int) == (wrap64 (a1))) = true := beq_iff_eq.mpr c3308
                                    have c3308b1 : ((t2653.length : Int) != (wrap64 (a1))) = false := bne_eq_false_iff_eq.mpr c3308
                                    clear c3308
                                    go_wp2_with fail
                                    obtain ⟨t2662, HA3309, H⟩ := bind_some H
                                    refine (quitrentlaw08_begun.calls _ t2662 _ ⟨Sep.start _⟩ HA3309).mono ?_
                                    rintro e_ w3310 ⟨rfl, hS⟩
                                    replace HS : Aside0 (Sep (fps []) w [r11 A3304 t2653.length n3306 t2653] w3310) := ⟨HS.out.call hS⟩
                                    clear hS
                                    replace HS : Aside0 (Sep (fps []) w [] w3310) := ⟨HS.out.sub (.cons _ .slnil)⟩
                                    go_wp2_with fail
                                    go_ret
                                    rw [← some_eq H]
                                    exact ⟨(by first | rfl | (simp [IntKind.wrap_u32]; done)), HS.out⟩
                                  · have H := if_no c3308 H
                                    have c3308b0 : ((t2653.length : Int) == (wrap64 (a1))) = false := beq_eq_false_iff_ne.mpr c3308
                                    have c3308b1 : ((t2653.length : Int) != (wrap64 (a1))) = true := bne_iff_ne.mpr c3308
                                    clear c3308
                                    replace HS : Aside0 (Sep (fps []) w [] w3302) := ⟨HS.out.sub (.cons _ .slnil)⟩
                                    go_wp2_with fail
                                    go_ret
                                    rw [← some_eq H]
                                    exact ⟨(by first | rfl | (simp [IntKind.wrap_u32]; done)), HS.out⟩
          · have H := if_no c3142 H
            have c3142b0 : a3 = false := by simpa using c3142
            have c3142b1 : (!a3) = true := by rw [c3142b0]; rfl
            clear c3142
            by_cases c3472 : (wrap64 (a1)) = 0
            · have H := if_yes c3472 H
              have c3472b0 : ((wrap64 (a1)) == 0) = true := beq_iff_eq.mpr c3472
              have c3472b1 : ((wrap64 (a1)) != 0) = false := bne_eq_false_iff_eq.mpr c3472
              exact (none_no H).elim
            · have H := if_no c3472 H
              have c3472b0 : ((wrap64 (a1)) == 0) = false := beq_eq_false_iff_ne.mpr c3472
              have c3472b1 : ((wrap64 (a1)) != 0) = true := bne_iff_ne.mpr c3472
              skip
              go_wp2_with fail
              clear c3472
              obtain ⟨o3483, AL3484, H⟩ := bind_some H
              go_loopg [12] k (fun kq v12 wc => ∃ (x3487 : Int), v12 = .int .i64 x3487 ∧ Aside0 (quitrentlaw08_ChainOrder.lo9 kq a1 x3487 = some o3483) ∧ Aside0 (Sep (fps []) w [] wc))
              case atStart => exact ⟨(Int.tmod (wrap64 (a2)) (wrap64 (a1))), (by first | rfl | (simp [IntKind.wrap_u32]; done)), AL3484, ⟨HS.out⟩⟩
              case round =>
                clear AL3484 HS
                obtain ⟨x3487, rfl, AL3484, HS⟩ := hrel
                obtain ⟨w3485, rfl⟩ : ∃ x : World, x = wr := ⟨_, rfl⟩
                cases gk with
                | zero => exact absurd AL3484.out (by simp [quitrentlaw08_ChainOrder.lo9])
                | succ k3486 =>
                  have AL0 := AL3484.out
                  rw [quitrentlaw08_ChainOrder.lo9] at AL0
                  clear AL3484
                  have AL3484 := Aside0.mk AL0
                  clear AL0
                  by_cases c3488 : x3487 < (wrap64 (a1))
                  · have AL3484 := if_yes c3488 AL3484
                    have c3488b0 : decide (x3487 < (wrap64 (a1))) = true := decide_eq_true c3488
                    clear c3488
                    go_wp2_with fail
                    obtain ⟨t2315, HA3489, AL3484⟩ := bind_some AL3484
                    refine (chain_Add_nil.calls 0 x3487 t2315 _ ⟨Sep.start _⟩ HA3489).mono ?_
                    rintro e_ w3490 ⟨rfl, hS⟩
                    replace HS : Aside0 (Sep (fps []) w [] w3490) := ⟨HS.out.call hS⟩
                    clear hS
                    by_cases c3491 : t2315 = true
                    · have AL3484 := if_yes c3491 AL3484
                      have c3491b0 : t2315 = true := c3491
                      have c3491b1 : (!t2315) = false := by rw [c3491b0]; rfl
                      try rw [c3491b1]
                      clear c3491
                      go_wp2_with fail
                      go_roundg k3486
                      case measure => exact Nat.lt_succ_self _
                      case rel => exact ⟨(wrap64 (x3487 + 1)), (by first | rfl | (simp [IntKind.wrap_u32]; done)), Aside0.mk AL3484.out, ⟨HS.out⟩⟩
                    · have AL3484 := if_no c3491 AL3484
                      have c3491b0 : t2315 = false := by simpa using c3491
                      have c3491b1 : (!t2315) = true := by rw [c3491b0]; rfl
                      try rw [c3491b1]
                      clear c3491
                      go_wp2_with fail
                      have ho := some_eq AL3484
                      subst ho
                      have H := lp_ret H
                      go_ret
                      rw [← some_eq H]
                      exact ⟨(by first | rfl | (simp [IntKind.wrap_u32]; done)), HS.out⟩
                  · have AL3484 := if_no c3488 AL3484
                    have c3488b0 : decide (x3487 < (wrap64 (a1))) = false := decide_eq_false c3488
                    clear c3488
                    have ho := some_eq AL3484
                    subst ho
                    clear AL3484
                    have H := lp_out H
                    go_wp2_with fail
                    obtain ⟨o3502, AL3503, H⟩ := bind_some H
                    go_loopg [13] k (fun kq v13 wc => ∃ (x3506 : Int), v13 = .int .i64 x3506 ∧ Aside0 (quitrentlaw08_ChainOrder.lo10 kq  x3506 = some o3502) ∧ Aside0 (Sep (fps []) w [] wc))
                    case atStart => exact ⟨(wrap64 ((Int.tmod (wrap64 (a2)) (wrap64 (a1))) - 1)), (by first | rfl | (simp [IntKind.wrap_u32]; done)), AL3503, ⟨HS.out⟩⟩
                    case round =>
                      clear AL3503 HS
                      obtain ⟨x3506, rfl, AL3503, HS⟩ := hrel
                      obtain ⟨w3504, rfl⟩ : ∃ x : World, x = wr := ⟨_, rfl⟩
                      cases gk with
                      | zero => exact absurd AL3503.out (by simp [quitrentlaw08_ChainOrder.lo10])
                      | succ k3505 =>
                        have AL0 := AL3503.out
                        rw [quitrentlaw08_ChainOrder.lo10] at AL0
                        clear AL3503
                        have AL3503 := Aside0.mk AL0
                        clear AL0
                        by_cases c3507 : x3506 ≥ 0
                        · have AL3503 := if_yes c3507 AL3503
                          have c3507b0 : decide (0 ≤ x3506) = true := decide_eq_true c3507
                          clear c3507
                          go_wp2_with fail
                          obtain ⟨t2348, HA3508, AL3503⟩ := bind_some AL3503
                          refine (chain_Push_nil.calls 0 x3506 t2348 _ ⟨Sep.start _⟩ HA3508).mono ?_
                          rintro e_ w3509 ⟨rfl, hS⟩
                          replace HS : Aside0 (Sep (fps []) w [] w3509) := ⟨HS.out.call hS⟩
                          clear hS
                          by_cases c3510 : t2348 = true
                          · have AL3503 := if_yes c3510 AL3503
                            have c3510b0 : t2348 = true := c3510
                            have c3510b1 : (!t2348) = false := by rw [c3510b0]; rfl
                            try rw [c3510b1]
                            clear c3510
                            go_wp2_with fail
                            go_roundg k3505
                            case measure => exact Nat.lt_succ_self _
                            case rel => exact ⟨(wrap64 (x3506 - 1)), (by first | rfl | (simp [IntKind.wrap_u32]; done)), Aside0.mk AL3503.out, ⟨HS.out⟩⟩
                          · have AL3503 := if_no c3510 AL3503
                            have c3510b0 : t2348 = false := by simpa using c3510
                            have c3510b1 : (!t2348) = true := by rw [c3510b0]; rfl
                            try rw [c3510b1]
                            clear c3510
                            go_wp2_with fail
                            have ho := some_eq AL3503
                            subst ho
                            have H := lp_ret H
                            go_ret
                            rw [← some_eq H]
                            exact ⟨(by first | rfl | (simp [IntKind.wrap_u32]; done)), HS.out⟩
                        · have AL3503 := if_no c3507 AL3503
                          have c3507b0 : decide (0 ≤ x3506) = false := decide_eq_false c3507
                          clear c3507
                          have ho := some_eq AL3503
                          subst ho
                          clear AL3503
                          have H := lp_out H
                          go_wp2_with fail
                          obtain ⟨o3530, AL3531, H⟩ := bind_some H
                          go_loopg [14] k (fun kq v14 wc => ∃ (x3534 : Int), v14 = .int .i64 x3534 ∧ Aside0 (quitrentlaw08_ChainOrder.lo11 kq a1 x3534 = some o3530) ∧ Aside0 (Sep (fps []) w [] wc))
                          case atStart => exact ⟨(0), (by first | rfl | (simp [IntKind.wrap_u32]; done)), AL3531, ⟨HS.out⟩⟩
                          case round =>
                            clear AL3531 HS
                            obtain ⟨x3534, rfl, AL3531, HS⟩ := hrel
                            obtain ⟨w3532, rfl⟩ : ∃ x : World, x = wr := ⟨_, rfl⟩
                            cases gk with
                            | zero => exact absurd AL3531.out (by simp [quitrentlaw08_ChainOrder.lo11])
                            | succ k3533 =>
                              have AL0 := AL3531.out
                              rw [quitrentlaw08_ChainOrder.lo11] at AL0
                              clear AL3531
                              have AL3531 := Aside0.mk AL0
                              clear AL0
                              by_cases c3535 : x3534 < (wrap64 (a1))
                              · have AL3531 := if_yes c3535 AL3531
                                have c3535b0 : decide (x3534 < (wrap64 (a1))) = true := decide_eq_true c3535
                                clear c3535
                                go_wp2_with fail
                                obtain ⟨t2541, HA3536, AL3531⟩ := bind_some AL3531
                                refine (chain_Take_nil.calls 0 t2541 _ ⟨Sep.start _⟩ HA3536).mono ?_
                                rintro e_ w3537 ⟨rfl, hS⟩
                                replace HS : Aside0 (Sep (fps []) w [] w3537) := ⟨HS.out.call hS⟩
                                clear hS
                                by_cases c3538 : t2541.1 = x3534
                                · have AL3531 := if_yes c3538 AL3531
                                  have c3538b0 : (t2541.1 == x3534) = true := beq_iff_eq.mpr c3538
                                  have c3538b1 : (t2541.1 != x3534) = false := bne_eq_false_iff_eq.mpr c3538
                                  clear c3538
                                  by_cases c3539 : t2541.2 = true
                                  · have AL3531 := if_yes c3539 AL3531
                                    have c3539b0 : t2541.2 = true := c3539
                                    have c3539b1 : (!t2541.2) = false := by rw [c3539b0]; rfl
                                    try rw [c3539b1]
                                    clear c3539
                                    go_wp2_with fail
                                    obtain ⟨t2546, HA3540, AL3531⟩ := bind_some AL3531
                                    refine (chain_Add_nil.calls 1 t2541.1 t2546 _ ⟨Sep.start _⟩ HA3540).mono ?_
                                    rintro e_ w3541 ⟨rfl, hS⟩
                                    replace HS : Aside0 (Sep (fps []) w [] w3541) := ⟨HS.out.call hS⟩
                                    clear hS
                                    by_cases c3542 : t2546 = true
                                    · have AL3531 := if_yes c3542 AL3531
                                      have c3542b0 : t2546 = true := c3542
                                      have c3542b1 : (!t2546) = false := by rw [c3542b0]; rfl
                                      try rw [c3542b1]
                                      clear c3542
                                      go_wp2_with fail
                                      obtain ⟨t2602, HA3543, AL3531⟩ := bind_some AL3531
                                      refine (chain_Len_nil.calls 0 t2602 _ ⟨Sep.start _⟩ HA3543).mono ?_
                                      rintro e_ w3544 ⟨rfl, hS⟩
                                      replace HS : Aside0 (Sep (fps []) w [] w3544) := ⟨HS.out.call hS⟩
                                      clear hS
                                      go_wp2_with fail
                                      obtain ⟨t2605, HA3545, AL3531⟩ := bind_some AL3531
                                      refine (chain_Len_nil.calls 1 t2605 _ ⟨Sep.start _⟩ HA3545).mono ?_
                                      rintro e_ w3546 ⟨rfl, hS⟩
                                      replace HS : Aside0 (Sep (fps []) w [] w3546) := ⟨HS.out.call hS⟩
                                      clear hS
                                      by_cases c3547 : (wrap64 (t2602 + t2605)) = (wrap64 (a1))
                                      · have AL3531 := if_yes c3547 AL3531
                                        have c3547b0 : ((wrap64 (t2602 + t2605)) == (wrap64 (a1))) = true := beq_iff_eq.mpr c3547
                                        have c3547b1 : ((wrap64 (t2602 + t2605)) != (wrap64 (a1))) = false := bne_eq_false_iff_eq.mpr c3547
                                        clear c3547
                                        go_wp2_with fail
                                        go_roundg k3533
                                        case measure => exact Nat.lt_succ_self _
                                        case rel => exact ⟨(wrap64 (x3534 + 1)), (by first | rfl | (simp [IntKind.wrap_u32]; done)), Aside0.mk AL3531.out, ⟨HS.out⟩⟩
                                      · have AL3531 := if_no c3547 AL3531
                                        have c3547b0 : ((wrap64 (t2602 + t2605)) == (wrap64 (a1))) = false := beq_eq_false_iff_ne.mpr c3547
                                        have c3547b1 : ((wrap64 (t2602 + t2605)) != (wrap64 (a1))) = true := bne_iff_ne.mpr c3547
                                        clear c3547
                                        go_wp2_with fail
                                        have ho := some_eq AL3531
                                        subst ho
                                        have H := lp_ret H
                                        go_ret
                                        rw [← some_eq H]
                                        exact ⟨(by first | rfl | (simp [IntKind.wrap_u32]; done)), HS.out⟩
                                    · have AL3531 := if_no c3542 AL3531
                                      have c3542b0 : t2546 = false := by simpa using c3542
                                      have c3542b1 : (!t2546) = true := by rw [c3542b0]; rfl
                                      try rw [c3542b1]
                                      clear c3542
                                      go_wp2_with fail
                                      have ho := some_eq AL3531
                                      subst ho
                                      have H := lp_ret H
                                      go_ret
                                      rw [← some_eq H]
                                      exact ⟨(by first | rfl | (simp [IntKind.wrap_u32]; done)), HS.out⟩
                                  · have AL3531 := if_no c3539 AL3531
                                    have c3539b0 : t2541.2 = false := by simpa using c3539
                                    have c3539b1 : (!t2541.2) = true := by rw [c3539b0]; rfl
                                    try rw [c3539b1]
                                    clear c3539
                                    go_wp2_with fail
                                    have ho := some_eq AL3531
                                    subst ho
                                    have H := lp_ret H
                                    go_ret
                                    rw [← some_eq H]
                                    exact ⟨(by first | rfl | (simp [IntKind.wrap_u32]; done)), HS.out⟩
                                · have AL3531 := if_no c3538 AL3531
                                  have c3538b0 : (t2541.1 == x3534) = false := beq_eq_false_iff_ne.mpr c3538
                                  have c3538b1 : (t2541.1 != x3534) = true := bne_iff_ne.mpr c3538
                                  clear c3538
                                  go_wp2_with fail
                                  have ho := some_eq AL3531
                                  subst ho
                                  have H := lp_ret H
                                  go_ret
                                  rw [← some_eq H]
                                  exact ⟨(by first | rfl | (simp [IntKind.wrap_u32]; done)), HS.out⟩
                              · have AL3531 := if_no c3535 AL3531
                                have c3535b0 : decide (x3534 < (wrap64 (a1))) = false := decide_eq_false c3535
                                clear c3535
                                have ho := some_eq AL3531
                                subst ho
                                clear AL3531
                                have H := lp_out H
                                go_wp2_with fail
                                obtain ⟨t2649, HA3548, H⟩ := bind_some H
                                refine (chain_Take_nil.calls 0 t2649 _ ⟨Sep.start _⟩ HA3548).mono ?_
                                rintro e_ w3549 ⟨rfl, hS⟩
                                replace HS : Aside0 (Sep (fps []) w [] w3549) := ⟨HS.out.call hS⟩
                                clear hS
                                by_cases c3550 : t2649.2 = true
                                · have H := if_yes c3550 H
                                  have c3550b0 : t2649.2 = true := c3550
                                  have c3550b1 : (!t2649.2) = false := by rw [c3550b0]; rfl
                                  try rw [c3550b1]
                                  clear c3550
                                  go_wp2_with fail
                                  go_ret
                                  rw [← some_eq H]
                                  exact ⟨(by first | rfl | (simp [IntKind.wrap_u32]; done)), HS.out⟩
                                · have H := if_no c3550 H
                                  have c3550b0 : t2649.2 = false := by simpa using c3550
                                  have c3550b1 : (!t2649.2) = true := by rw [c3550b0]; rfl
                                  try rw [c3550b1]
                                  clear c3550
                                  go_wp2_with fail
                                  obtain ⟨t2653, HA3551, H⟩ := bind_some H
                                  refine (chain_List_nil.calls _ 1 t2653 _ ⟨Sep.start _⟩ HA3551).mono ?_
                                  rintro e_ w3552 ⟨A3554, m3555, n3556, rfl, hS⟩
                                  replace HS : Aside0 (Sep (fps []) w [r11 A3554 m3555 n3556 t2653] w3552) := ⟨HS.out.call hS⟩
                                  clear hS
                                  obtain rfl := (row_len (HS.out.at0)).symm
                                  by_cases c3558 : (t2653.length : Int) = (wrap64 (a1))
                                  · have H := if_yes c3558 H
                                    have c3558b0 : ((t2653.length : Int) == (wrap64 (a1))) = true := beq_iff_eq.mpr c3558
                                    have c3558b1 : ((t2653.length : Int) != (wrap64 (a1))) = false := bne_eq_false_iff_eq.mpr c3558
                                    clear c3558
                                    go_wp2_with fail
                                    obtain ⟨t2662, HA3559, H⟩ := bind_some H
                                    refine (quitrentlaw08_begun.calls _ t2662 _ ⟨Sep.start _⟩ HA3559).mono ?_
                                    rintro e_ w3560 ⟨rfl, hS⟩
                                    replace HS : Aside0 (Sep (fps []) w [r11 A3554 t2653.length n3556 t2653] w3560) := ⟨HS.out.call hS⟩
                                    clear hS
                                    replace HS : Aside0 (Sep (fps []) w [] w3560) := ⟨HS.out.sub (.cons _ .slnil)⟩
                                    go_wp2_with fail
                                    go_ret
                                    rw [← some_eq H]
                                    exact ⟨(by first | rfl | (simp [IntKind.wrap_u32]; done)), HS.out⟩
                                  · have H := if_no c3558 H
                                    have c3558b0 : ((t2653.length : Int) == (wrap64 (a1))) = false := beq_eq_false_iff_ne.mpr c3558
                                    have c3558b1 : ((t2653.length : Int) != (wrap64 (a1))) = true := bne_iff_ne.mpr c3558
                                    clear c3558
                                    replace HS : Aside0 (Sep (fps []) w [] w3552) := ⟨HS.out.sub (.cons _ .slnil)⟩
                                    go_wp2_with fail
                                    go_ret
                                    rw [← some_eq H]
                                    exact ⟨(by first | rfl | (simp [IntKind.wrap_u32]; done)), HS.out⟩
        · have H := if_no c3141 H
          have c3141b0 : (t2294 == 0) = false := beq_eq_false_iff_ne.mpr c3141
          have c3141b1 : (t2294 != 0) = true := bne_iff_ne.mpr c3141
          clear c3141
          go_wp2_with fail
          go_ret
          rw [← some_eq H]
          exact ⟨(by first | rfl | (simp [IntKind.wrap_u32]; done)), HS.out⟩
end Go.Proofs.Ytobeonkddamnoaa.C

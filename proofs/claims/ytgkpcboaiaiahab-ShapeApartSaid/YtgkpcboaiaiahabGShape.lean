/- Each function of the group Shape does what its plain function says, and changes nothing that was there; proved by walking its code. No condition. -/
import Derived.Test.YtgkpcboaiaiahabQw
import Derived.Test.YtgkpcboaiaiahabMShape
namespace Go.Proofs.Ytgkpcboaiaiahab.C
open Go.RowKit Go.Proofs.YtgkpcboaiaiahabW.PrintWords Go.Proofs.YtgkpcboaiaiahabW.PrintLast Go.Proofs.YtgkpcboaiaiahabW.PrintMore Go.Proofs.Ytgkpcboaiaiahab.Q Go.Proofs.Ytgkpcboaiaiahab.M
set_option linter.unusedVariables false
set_option linter.unusedSimpArgs false
set_option maxHeartbeats 4000000 in
set_option maxRecDepth 100000 in
theorem quitrentlaw07_wide.calls (a5 : Int) (r : Bool) (w : World)  (HS : Aside0 (Sep (fps []) w [] w)) (H : Aside0 (quitrentlaw07_wide.f a5 = some r)) :
    Calls Try.prog 10 #[.int .i64 a5] w fun e w' => e = .returned (.bool r) ∧ Sep (fps []) w [] w' := by
  unfold quitrentlaw07_wide.f at H
  go_enter Try.func10, Try.ntmps10
  by_cases c6 : a5 > 40
  · have H := if_yes c6 H
    have c6b0 : decide (40 < a5) = true := decide_eq_true c6
    clear c6
    go_wp2_with fail
    go_ret
    rw [← some_eq H]
    exact ⟨(by first | rfl | (simp [IntKind.wrap_u32]; done)), (HS.out).keep (l := []) (rest := [])⟩
  · have H := if_no c6 H
    have c6b0 : decide (40 < a5) = false := decide_eq_false c6
    clear c6
    go_wp2_with fail
    go_ret
    rw [← some_eq H]
    exact ⟨(by first | rfl | (simp [IntKind.wrap_u32]; done)), (HS.out).keep (l := []) (rest := [])⟩

set_option maxHeartbeats 4000000 in
set_option maxRecDepth 100000 in
theorem shape_isWidth.calls (a22 : Int) (r : Bool) (w : World)  (HS : Aside0 (Sep (fps []) w [] w)) (H : Aside0 (shape_isWidth.f a22 = some r)) :
    Calls Try.prog 35 #[.int .i64 a22] w fun e w' => e = .returned (.bool r) ∧ Sep (fps []) w [] w' := by
  unfold shape_isWidth.f at H
  go_enter Try.func35, Try.ntmps35
  by_cases c23 : a22 ≥ 16
  · have H := if_yes c23 H
    have c23b0 : decide (16 ≤ a22) = true := decide_eq_true c23
    clear c23
    go_wp2_with fail
    go_ret
    rw [← some_eq H]
    exact ⟨(by first | rfl | (simp [IntKind.wrap_u32]; done)), (HS.out).keep (l := []) (rest := [])⟩
  · have H := if_no c23 H
    have c23b0 : decide (16 ≤ a22) = false := decide_eq_false c23
    clear c23
    go_wp2_with fail
    go_ret
    rw [← some_eq H]
    exact ⟨(by first | rfl | (simp [IntKind.wrap_u32]; done)), (HS.out).keep (l := []) (rest := [])⟩

set_option maxHeartbeats 4000000 in
set_option maxRecDepth 100000 in
theorem shape_inHead.calls (a29 : Int) (r : Int) (w : World)  (HS : Aside0 (Sep (fps []) w [] w)) (H : Aside0 (shape_inHead.f a29 = some r)) :
    Calls Try.prog 36 #[.int .i64 a29] w fun e w' => e = .returned (.int .i64 r) ∧ Sep (fps []) w [] w' := by
  unfold shape_inHead.f at H
  go_enter Try.func36, Try.ntmps36
  go_wp2_with fail
  go_ret
  rw [← some_eq H]
  exact ⟨(by first | rfl | (simp [IntKind.wrap_u32]; done)), (HS.out).keep (l := []) (rest := [])⟩

set_option maxHeartbeats 4000000 in
set_option maxRecDepth 100000 in
theorem shape_inLeaf.calls (a33 : Int) (r : Int) (w : World)  (HS : Aside0 (Sep (fps []) w [] w)) (H : Aside0 (shape_inLeaf.f a33 = some r)) :
    Calls Try.prog 33 #[.int .i64 a33] w fun e w' => e = .returned (.int .i64 r) ∧ Sep (fps []) w [] w' := by
  unfold shape_inLeaf.f at H
  go_enter Try.func33, Try.ntmps33
  go_wp2_with fail
  go_ret
  rw [← some_eq H]
  exact ⟨(by first | rfl | (simp [IntKind.wrap_u32]; done)), (HS.out).keep (l := []) (rest := [])⟩

set_option maxHeartbeats 4000000 in
set_option maxRecDepth 100000 in
theorem shape_most.calls (a28 : Int) (r : Int) (w : World)  (HS : Aside0 (Sep (fps []) w [] w)) (H : Aside0 (shape_most.f a28 = some r)) :
    Calls Try.prog 53 #[.int .i64 a28] w fun e w' => e = .returned (.int .i64 r) ∧ Sep (fps []) w [] w' := by
  unfold shape_most.f at H
  go_enter Try.func53, Try.ntmps53
  go_wp2_with fail
  obtain ⟨t30, HA31, H⟩ := bind_some H
  refine (shape_inHead.calls a28 t30 _ ⟨HS.out.begin (l := []) (rest := [])⟩ HA31).mono ?_
  rintro e_ w32 ⟨rfl, hS⟩
  have HS_ : Aside0 (Sep (fps []) w [] w32) := ⟨HS.out.call (l := []) (rest := []) hS⟩
  clear HS hS
  have HS := HS_
  clear HS_
  go_wp2_with fail
  obtain ⟨t34, HA35, H⟩ := bind_some H
  refine (shape_inLeaf.calls a28 t34 _ ⟨HS.out.begin (l := []) (rest := [])⟩ HA35).mono ?_
  rintro e_ w36 ⟨rfl, hS⟩
  have HS_ : Aside0 (Sep (fps []) w [] w36) := ⟨HS.out.call (l := []) (rest := []) hS⟩
  clear HS hS
  have HS := HS_
  clear HS_
  go_wp2_with fail
  go_ret
  rw [← some_eq H]
  exact ⟨(by first | rfl | (simp [IntKind.wrap_u32]; done)), (HS.out).keep (l := []) (rest := [])⟩

set_option maxHeartbeats 4000000 in
set_option maxRecDepth 100000 in
theorem shape_wrong.calls (k : Nat) (a17 : Int) (l18 : List Int) (A19 : Option Addr) (n20 : Nat) (r : Int) (w : World) (HR21 : Aside0 (Kd.C (Kd.int .i64) w A19 l18.length l18)) (HS : Aside0 (Sep (fps []) w [] w)) (H : Aside0 (shape_wrong.f k a17 l18 = some r)) :
    Calls Try.prog 31 #[.int .i64 a17, .slice A19 l18.length n20] w fun e w' => e = .returned (.int .i64 r) ∧ Sep (fps []) w [] w' := by
  unfold shape_wrong.f at H
  go_enter Try.func31, Try.ntmps31
  go_wp2_with fail
  obtain ⟨t24, HA25, H⟩ := bind_some H
  refine (shape_isWidth.calls a17 t24 _ ⟨HS.out.begin (l := []) (rest := [])⟩ HA25).mono ?_
  rintro e_ w26 ⟨rfl, hS⟩
  have HS_ : Aside0 (Sep (fps []) w [] w26) := ⟨HS.out.call (l := []) (rest := []) hS⟩
  clear HS hS
  have HS := HS_
  clear HS_
  by_cases c27 : t24 = true
  · have H := if_yes c27 H
    have c27b0 : t24 = true := c27
    clear c27
    go_wp2_with fail
    obtain ⟨t37, HA38, H⟩ := bind_some H
    refine (shape_most.calls a17 t37 _ ⟨HS.out.begin (l := []) (rest := [])⟩ HA38).mono ?_
    rintro e_ w39 ⟨rfl, hS⟩
    have HS_ : Aside0 (Sep (fps []) w [] w39) := ⟨HS.out.call (l := []) (rest := []) hS⟩
    clear HS hS
    have HS := HS_
    clear HS_
    go_wp2_with fail
    obtain ⟨o52, AL53, H⟩ := bind_some H
    go_loopg [5, 15] k (fun kq v5 v15 wc => ∃ (x56 : Int) (x57 : Int), v5 = .int .i64 x56 ∧ v15 = .int .i64 x57 ∧ Aside0 (shape_wrong.lo0 kq l18 x56 x57 = some o52) ∧ Aside0 (Sep (fps []) w [] wc))
    case atStart => exact ⟨(t37), (0), (by first | rfl | (simp [IntKind.wrap_u32]; done)), (by first | rfl | (simp [IntKind.wrap_u32]; done)), AL53, ⟨HS.out⟩⟩
    case round =>
      clear AL53 HS
      obtain ⟨x56, x57, rfl, rfl, AL53, HS⟩ := hrel
      obtain ⟨w54, rfl⟩ : ∃ x : World, x = wr := ⟨_, rfl⟩
      cases gk with
      | zero => exact absurd AL53.out (by simp [shape_wrong.lo0])
      | succ k55 =>
        have AL0 := AL53.out
        rw [shape_wrong.lo0] at AL0
        clear AL53
        have AL53 := Aside0.mk AL0
        clear AL0
        by_cases c58 : x57 < (l18.length : Int)
        · have AL53 := if_yes c58 AL53
          have c58b0 : decide (x57 < (l18.length : Int)) = true := decide_eq_true c58
          clear c58
          by_cases c59 : 0 ≤ x57
          · have AL53 := if_yes c59 AL53
            have c59b0 : decide (0 ≤ x57) = true := decide_eq_true c59
            have c59p : (0 ≤ x57) = True := eq_true c59
            clear c59
            have ip60 : (x57 < (l18.length : Int)) = True := eq_true (of_decide_eq_true c58b0)
            by_cases c62 : (rd l18 x57) < 0
            · have AL53 := if_yes c62 AL53
              have c62b0 : decide ((rd l18 x57) < 0) = true := decide_eq_true c62
              clear c62
              obtain ⟨hx61a, hx61e, hx61⟩ := Kd.at_int (Kd.C_below HR21.out HS.out.fr.below) x57 (of_decide_eq_true c59b0) (of_decide_eq_true c58b0); cases hx61e
              go_wp2_with fail
              clear hx61
              have ho := some_eq AL53
              subst ho
              have H := lp_ret H
              go_ret
              rw [← some_eq H]
              exact ⟨(by first | rfl | (simp [IntKind.wrap_u32]; done)), (HS.out).keep (l := []) (rest := [])⟩
            · have AL53 := if_no c62 AL53
              have c62b0 : decide ((rd l18 x57) < 0) = false := decide_eq_false c62
              clear c62
              by_cases c63 : (rd l18 x57) > x56
              · have AL53 := if_yes c63 AL53
                have c63b0 : decide (x56 < (rd l18 x57)) = true := decide_eq_true c63
                clear c63
                obtain ⟨hx61a, hx61e, hx61⟩ := Kd.at_int (Kd.C_below HR21.out HS.out.fr.below) x57 (of_decide_eq_true c59b0) (of_decide_eq_true c58b0); cases hx61e
                go_wp2_with fail
                clear hx61
                have ho := some_eq AL53
                subst ho
                have H := lp_ret H
                go_ret
                rw [← some_eq H]
                exact ⟨(by first | rfl | (simp [IntKind.wrap_u32]; done)), (HS.out).keep (l := []) (rest := [])⟩
              · have AL53 := if_no c63 AL53
                have c63b0 : decide (x56 < (rd l18 x57)) = false := decide_eq_false c63
                clear c63
                obtain ⟨hx61a, hx61e, hx61⟩ := Kd.at_int (Kd.C_below HR21.out HS.out.fr.below) x57 (of_decide_eq_true c59b0) (of_decide_eq_true c58b0); cases hx61e
                go_wp2_with fail
                clear hx61
                go_roundg k55
                case measure => exact Nat.lt_succ_self _
                case rel => exact ⟨(wrap64 (x56 - (rd l18 x57))), (wrap64 (x57 + 1)), (by first | rfl | (simp [IntKind.wrap_u32]; done)), (by first | rfl | (simp [IntKind.wrap_u32]; done)), Aside0.mk AL53.out, ⟨(HS.out).keep (l := []) (rest := [])⟩⟩
          · have AL53 := if_no c59 AL53
            have c59b0 : decide (0 ≤ x57) = false := decide_eq_false c59
            clear c59
            exact (none_no AL53).elim
        · have AL53 := if_no c58 AL53
          have c58b0 : decide (x57 < (l18.length : Int)) = false := decide_eq_false c58
          clear c58
          have ho := some_eq AL53
          subst ho
          clear AL53
          have H := lp_out H
          go_wp2_with fail
          go_ret
          rw [← some_eq H]
          exact ⟨(by first | rfl | (simp [IntKind.wrap_u32]; done)), (HS.out).keep (l := []) (rest := [])⟩
  · have H := if_no c27 H
    have c27b0 : t24 = false := by simpa using c27
    clear c27
    go_wp2_with fail
    go_ret
    rw [← some_eq H]
    exact ⟨(by first | rfl | (simp [IntKind.wrap_u32]; done)), (HS.out).keep (l := []) (rest := [])⟩

set_option maxHeartbeats 4000000 in
set_option maxRecDepth 100000 in
theorem ratio_Clamp.calls (a81 : Int) (a82 : Int) (a83 : Int) (r : Int) (w : World)  (HS : Aside0 (Sep (fps []) w [] w)) (H : Aside0 (ratio_Clamp.f a81 a82 a83 = some r)) :
    Calls Try.prog 43 #[.int .i64 a81, .int .i64 a82, .int .i64 a83] w fun e w' => e = .returned (.int .i64 r) ∧ Sep (fps []) w [] w' := by
  unfold ratio_Clamp.f at H
  go_enter Try.func43, Try.ntmps43
  by_cases c84 : a81 > a83
  · have H := if_yes c84 H
    have c84b0 : decide (a83 < a81) = true := decide_eq_true c84
    clear c84
    go_wp2_with fail
    go_ret
    rw [← some_eq H]
    exact ⟨(by first | rfl | (simp [IntKind.wrap_u32]; done)), (HS.out).keep (l := []) (rest := [])⟩
  · have H := if_no c84 H
    have c84b0 : decide (a83 < a81) = false := decide_eq_false c84
    clear c84
    by_cases c85 : a81 < a82
    · have H := if_yes c85 H
      have c85b0 : decide (a81 < a82) = true := decide_eq_true c85
      skip
      go_wp2_with fail
      clear c85
      go_ret
      rw [← some_eq H]
      exact ⟨(by first | rfl | (simp [IntKind.wrap_u32]; done)), (HS.out).keep (l := []) (rest := [])⟩
    · have H := if_no c85 H
      have c85b0 : decide (a81 < a82) = false := decide_eq_false c85
      skip
      go_wp2_with fail
      clear c85
      go_ret
      rw [← some_eq H]
      exact ⟨(by first | rfl | (simp [IntKind.wrap_u32]; done)), (HS.out).keep (l := []) (rest := [])⟩

set_option maxHeartbeats 4000000 in
set_option maxRecDepth 100000 in
theorem ratio_counts.calls (a80 : Int) (r : Int) (w : World)  (HS : Aside0 (Sep (fps []) w [] w)) (H : Aside0 (ratio_counts.f a80 = some r)) :
    Calls Try.prog 55 #[.int .i64 a80] w fun e w' => e = .returned (.int .i64 r) ∧ Sep (fps []) w [] w' := by
  unfold ratio_counts.f at H
  go_enter Try.func55, Try.ntmps55
  go_wp2_with fail
  obtain ⟨t86, HA87, H⟩ := bind_some H
  refine (ratio_Clamp.calls a80 0 1125899906842624 t86 _ ⟨HS.out.begin (l := []) (rest := [])⟩ HA87).mono ?_
  rintro e_ w88 ⟨rfl, hS⟩
  have HS_ : Aside0 (Sep (fps []) w [] w88) := ⟨HS.out.call (l := []) (rest := []) hS⟩
  clear HS hS
  have HS := HS_
  clear HS_
  go_wp2_with fail
  go_ret
  rw [← some_eq H]
  exact ⟨(by first | rfl | (simp [IntKind.wrap_u32]; done)), (HS.out).keep (l := []) (rest := [])⟩

set_option maxHeartbeats 4000000 in
set_option maxRecDepth 100000 in
theorem ratio_by.calls (a92 : Int) (r : Int) (w : World)  (HS : Aside0 (Sep (fps []) w [] w)) (H : Aside0 (ratio_by.f a92 = some r)) :
    Calls Try.prog 58 #[.int .i64 a92] w fun e w' => e = .returned (.int .i64 r) ∧ Sep (fps []) w [] w' := by
  unfold ratio_by.f at H
  go_enter Try.func58, Try.ntmps58
  go_wp2_with fail
  obtain ⟨t93, HA94, H⟩ := bind_some H
  refine (ratio_counts.calls a92 t93 _ ⟨HS.out.begin (l := []) (rest := [])⟩ HA94).mono ?_
  rintro e_ w95 ⟨rfl, hS⟩
  have HS_ : Aside0 (Sep (fps []) w [] w95) := ⟨HS.out.call (l := []) (rest := []) hS⟩
  clear HS hS
  have HS := HS_
  clear HS_
  by_cases c96 : t93 < 1
  · have H := if_yes c96 H
    have c96b0 : decide (t93 < 1) = true := decide_eq_true c96
    skip
    go_wp2_with fail
    clear c96
    go_ret
    rw [← some_eq H]
    exact ⟨(by first | rfl | (simp [IntKind.wrap_u32]; done)), (HS.out).keep (l := []) (rest := [])⟩
  · have H := if_no c96 H
    have c96b0 : decide (t93 < 1) = false := decide_eq_false c96
    skip
    go_wp2_with fail
    clear c96
    go_ret
    rw [← some_eq H]
    exact ⟨(by first | rfl | (simp [IntKind.wrap_u32]; done)), (HS.out).keep (l := []) (rest := [])⟩

set_option maxHeartbeats 4000000 in
set_option maxRecDepth 100000 in
theorem ratio_Up.calls (a78 : Int) (a79 : Int) (r : Int) (w : World)  (HS : Aside0 (Sep (fps []) w [] w)) (H : Aside0 (ratio_Up.f a78 a79 = some r)) :
    Calls Try.prog 45 #[.int .i64 a78, .int .i64 a79] w fun e w' => e = .returned (.int .i64 r) ∧ Sep (fps []) w [] w' := by
  unfold ratio_Up.f at H
  go_enter Try.func45, Try.ntmps45
  go_wp2_with fail
  obtain ⟨t89, HA90, H⟩ := bind_some H
  refine (ratio_counts.calls a78 t89 _ ⟨HS.out.begin (l := []) (rest := [])⟩ HA90).mono ?_
  rintro e_ w91 ⟨rfl, hS⟩
  have HS_ : Aside0 (Sep (fps []) w [] w91) := ⟨HS.out.call (l := []) (rest := []) hS⟩
  clear HS hS
  have HS := HS_
  clear HS_
  go_wp2_with fail
  obtain ⟨t97, HA98, H⟩ := bind_some H
  refine (ratio_by.calls a79 t97 _ ⟨HS.out.begin (l := []) (rest := [])⟩ HA98).mono ?_
  rintro e_ w99 ⟨rfl, hS⟩
  have HS_ : Aside0 (Sep (fps []) w [] w99) := ⟨HS.out.call (l := []) (rest := []) hS⟩
  clear HS hS
  have HS := HS_
  clear HS_
  go_wp2_with fail
  obtain ⟨t100, HA101, H⟩ := bind_some H
  refine (ratio_by.calls a79 t100 _ ⟨HS.out.begin (l := []) (rest := [])⟩ HA101).mono ?_
  rintro e_ w102 ⟨rfl, hS⟩
  have HS_ : Aside0 (Sep (fps []) w [] w102) := ⟨HS.out.call (l := []) (rest := []) hS⟩
  clear HS hS
  have HS := HS_
  clear HS_
  by_cases c103 : t100 = 0
  · have H := if_yes c103 H
    have c103b0 : (t100 == 0) = true := beq_iff_eq.mpr c103
    have c103b1 : (t100 != 0) = false := bne_eq_false_iff_eq.mpr c103
    exact (none_no H).elim
  · have H := if_no c103 H
    have c103b0 : (t100 == 0) = false := beq_eq_false_iff_ne.mpr c103
    have c103b1 : (t100 != 0) = true := bne_iff_ne.mpr c103
    skip
    go_wp2_with fail
    clear c103
    go_ret
    rw [← some_eq H]
    exact ⟨(by first | rfl | (simp [IntKind.wrap_u32]; done)), (HS.out).keep (l := []) (rest := [])⟩

set_option maxHeartbeats 4000000 in
set_option maxRecDepth 100000 in
theorem shape_leaves.calls (a69 : Int) (a70 : Int) (r : Int) (w : World)  (HS : Aside0 (Sep (fps []) w [] w)) (H : Aside0 (shape_leaves.f a69 a70 = some r)) :
    Calls Try.prog 32 #[.int .i64 a69, .int .i64 a70] w fun e w' => e = .returned (.int .i64 r) ∧ Sep (fps []) w [] w' := by
  unfold shape_leaves.f at H
  go_enter Try.func32, Try.ntmps32
  go_wp2_with fail
  obtain ⟨t71, HA72, H⟩ := bind_some H
  refine (shape_inHead.calls a69 t71 _ ⟨HS.out.begin (l := []) (rest := [])⟩ HA72).mono ?_
  rintro e_ w73 ⟨rfl, hS⟩
  have HS_ : Aside0 (Sep (fps []) w [] w73) := ⟨HS.out.call (l := []) (rest := []) hS⟩
  clear HS hS
  have HS := HS_
  clear HS_
  by_cases c74 : a70 ≤ t71
  · have H := if_yes c74 H
    have c74b0 : decide (a70 ≤ t71) = true := decide_eq_true c74
    clear c74
    go_wp2_with fail
    go_ret
    rw [← some_eq H]
    exact ⟨(by first | rfl | (simp [IntKind.wrap_u32]; done)), (HS.out).keep (l := []) (rest := [])⟩
  · have H := if_no c74 H
    have c74b0 : decide (a70 ≤ t71) = false := decide_eq_false c74
    clear c74
    go_wp2_with fail
    obtain ⟨t75, HA76, H⟩ := bind_some H
    refine (shape_inLeaf.calls a69 t75 _ ⟨HS.out.begin (l := []) (rest := [])⟩ HA76).mono ?_
    rintro e_ w77 ⟨rfl, hS⟩
    have HS_ : Aside0 (Sep (fps []) w [] w77) := ⟨HS.out.call (l := []) (rest := []) hS⟩
    clear HS hS
    have HS := HS_
    clear HS_
    go_wp2_with fail
    obtain ⟨t104, HA105, H⟩ := bind_some H
    refine (ratio_Up.calls a70 t75 t104 _ ⟨HS.out.begin (l := []) (rest := [])⟩ HA105).mono ?_
    rintro e_ w106 ⟨rfl, hS⟩
    have HS_ : Aside0 (Sep (fps []) w [] w106) := ⟨HS.out.call (l := []) (rest := []) hS⟩
    clear HS hS
    have HS := HS_
    clear HS_
    go_wp2_with fail
    go_ret
    rw [← some_eq H]
    exact ⟨(by first | rfl | (simp [IntKind.wrap_u32]; done)), (HS.out).keep (l := []) (rest := [])⟩

set_option maxHeartbeats 4000000 in
set_option maxRecDepth 100000 in
theorem shape_Blocks.calls (k : Nat) (a11 : Int) (a12 : Int) (a13 : Int) (r : Int × Int) (w : World)  (HS : Aside0 (Sep (fps []) w [] w)) (H : Aside0 (shape_Blocks.f k a11 a12 a13 = some r)) :
    Calls Try.prog 16 #[.int .i64 a11, .int .i64 a12, .int .i64 a13] w fun e w' => e = .returned (.tuple #[.int .i64 r.1, .int .i64 r.2]) ∧ Sep (fps []) w [] w' := by
  unfold shape_Blocks.f at H
  go_enter Try.func16, Try.ntmps16
  go_wp2_with (first | ((with_reducible refine gate_dst (N := 12) rfl ?_); refine slice_on (n := 2) ?hg (N := 12) ?hd (cs := #[.int .i64 a12, .int .i64 a13]) (t := 3) ?hr ?_; (case hd => rfl); (case hg => rfl); (case hr => first | (go_simp; done) | (go_simp; rfl)); intro g14 hg w15 hbox hb; have HS_ : Aside0 (Sep (fps []) w [blk g14 #[.int .i64 a12, .int .i64 a13] 3] w15) := ⟨HS.out.box hg hbox hb⟩; clear HS hg hbox hb; have HS := HS_; clear HS_))
  obtain ⟨t65, HA66, H⟩ := bind_some H
  refine (shape_wrong.calls _ a11 [a12, a13] (some ⟨g14, 0, none⟩) 2 t65 _ ⟨C_of_blk (xs := [a12, a13]) (HS.out.at0) (by simp)⟩ ⟨HS.out.begin (l := []) (rest := [blk g14 #[.int .i64 a12, .int .i64 a13] 3])⟩ HA66).mono ?_
  rintro e_ w67 ⟨rfl, hS⟩
  have HS_ : Aside0 (Sep (fps []) w [blk g14 #[.int .i64 a12, .int .i64 a13] 3] w67) := ⟨HS.out.call (l := []) (rest := [blk g14 #[.int .i64 a12, .int .i64 a13] 3]) hS⟩
  clear HS hS
  have HS := HS_
  clear HS_
  by_cases c68 : t65 = 0
  · have H := if_yes c68 H
    have c68b0 : (t65 == 0) = true := beq_iff_eq.mpr c68
    have c68b1 : (t65 != 0) = false := bne_eq_false_iff_eq.mpr c68
    clear c68
    go_wp2_with fail
    obtain ⟨t107, HA108, H⟩ := bind_some H
    refine (shape_leaves.calls a11 (wrap64 (a12 + a13)) t107 _ ⟨HS.out.begin (l := []) (rest := [blk g14 #[.int .i64 a12, .int .i64 a13] 3])⟩ HA108).mono ?_
    rintro e_ w109 ⟨rfl, hS⟩
    have HS_ : Aside0 (Sep (fps []) w [blk g14 #[.int .i64 a12, .int .i64 a13] 3] w109) := ⟨HS.out.call (l := []) (rest := [blk g14 #[.int .i64 a12, .int .i64 a13] 3]) hS⟩
    clear HS hS
    have HS := HS_
    clear HS_
    go_wp2_with fail
    go_ret2
    rw [← some_eq H]
    exact ⟨(by first | rfl | (simp [IntKind.wrap_u32]; done)), (HS.out).keep (l := []) (rest := [blk g14 #[.int .i64 a12, .int .i64 a13] 3])⟩
  · have H := if_no c68 H
    have c68b0 : (t65 == 0) = false := beq_eq_false_iff_ne.mpr c68
    have c68b1 : (t65 != 0) = true := bne_iff_ne.mpr c68
    clear c68
    go_wp2_with fail
    go_ret2
    rw [← some_eq H]
    exact ⟨(by first | rfl | (simp [IntKind.wrap_u32]; done)), (HS.out).keep (l := []) (rest := [blk g14 #[.int .i64 a12, .int .i64 a13] 3])⟩

set_option maxHeartbeats 4000000 in
set_option maxRecDepth 100000 in
theorem shape_Place.calls (k : Nat) (a119 : Int) (a120 : Int) (a121 : Int) (r : Int × Int × Int) (w : World)  (HS : Aside0 (Sep (fps []) w [] w)) (H : Aside0 (shape_Place.f k a119 a120 a121 = some r)) :
    Calls Try.prog 22 #[.int .i64 a119, .int .i64 a120, .int .i64 a121] w fun e w' => e = .returned (.tuple #[.int .i64 r.1, .int .i64 r.2.1, .int .i64 r.2.2]) ∧ Sep (fps []) w [] w' := by
  unfold shape_Place.f at H
  go_enter Try.func22, Try.ntmps22
  go_wp2_with (first | ((with_reducible refine gate_dst (N := 12) rfl ?_); refine slice_on (n := 1) ?hg (N := 12) ?hd (cs := #[.int .i64 a120]) (t := 3) ?hr ?_; (case hd => rfl); (case hg => rfl); (case hr => first | (go_simp; done) | (go_simp; rfl)); intro g122 hg w123 hbox hb; have HS_ : Aside0 (Sep (fps []) w [blk g122 #[.int .i64 a120] 3] w123) := ⟨HS.out.box hg hbox hb⟩; clear HS hg hbox hb; have HS := HS_; clear HS_))
  obtain ⟨t125, HA126, H⟩ := bind_some H
  refine (shape_wrong.calls _ a119 [a120] (some ⟨g122, 0, none⟩) 1 t125 _ ⟨C_of_blk (xs := [a120]) (HS.out.at0) (by simp)⟩ ⟨HS.out.begin (l := []) (rest := [blk g122 #[.int .i64 a120] 3])⟩ HA126).mono ?_
  rintro e_ w127 ⟨rfl, hS⟩
  have HS_ : Aside0 (Sep (fps []) w [blk g122 #[.int .i64 a120] 3] w127) := ⟨HS.out.call (l := []) (rest := [blk g122 #[.int .i64 a120] 3]) hS⟩
  clear HS hS
  have HS := HS_
  clear HS_
  by_cases c128 : t125 = 0
  · have H := if_yes c128 H
    have c128b0 : (t125 == 0) = true := beq_iff_eq.mpr c128
    have c128b1 : (t125 != 0) = false := bne_eq_false_iff_eq.mpr c128
    clear c128
    by_cases c129 : a121 < 0
    · have H := if_yes c129 H
      have c129b0 : decide (a121 < 0) = true := decide_eq_true c129
      clear c129
      go_wp2_with fail
      go_ret3
      rw [← some_eq H]
      exact ⟨(by first | rfl | (simp [IntKind.wrap_u32]; done)), (HS.out).keep (l := []) (rest := [blk g122 #[.int .i64 a120] 3])⟩
    · have H := if_no c129 H
      have c129b0 : decide (a121 < 0) = false := decide_eq_false c129
      clear c129
      by_cases c130 : a121 ≥ a120
      · have H := if_yes c130 H
        have c130b0 : decide (a120 ≤ a121) = true := decide_eq_true c130
        clear c130
        go_wp2_with fail
        go_ret3
        rw [← some_eq H]
        exact ⟨(by first | rfl | (simp [IntKind.wrap_u32]; done)), (HS.out).keep (l := []) (rest := [blk g122 #[.int .i64 a120] 3])⟩
      · have H := if_no c130 H
        have c130b0 : decide (a120 ≤ a121) = false := decide_eq_false c130
        clear c130
        go_wp2_with fail
        obtain ⟨t131, HA132, H⟩ := bind_some H
        refine (shape_leaves.calls a119 a120 t131 _ ⟨HS.out.begin (l := []) (rest := [blk g122 #[.int .i64 a120] 3])⟩ HA132).mono ?_
        rintro e_ w133 ⟨rfl, hS⟩
        have HS_ : Aside0 (Sep (fps []) w [blk g122 #[.int .i64 a120] 3] w133) := ⟨HS.out.call (l := []) (rest := [blk g122 #[.int .i64 a120] 3]) hS⟩
        clear HS hS
        have HS := HS_
        clear HS_
        by_cases c134 : t131 = 0
        · have H := if_yes c134 H
          have c134b0 : (t131 == 0) = true := beq_iff_eq.mpr c134
          have c134b1 : (t131 != 0) = false := bne_eq_false_iff_eq.mpr c134
          clear c134
          go_wp2_with fail
          go_ret3
          rw [← some_eq H]
          exact ⟨(by first | rfl | (simp [IntKind.wrap_u32]; done)), (HS.out).keep (l := []) (rest := [blk g122 #[.int .i64 a120] 3])⟩
        · have H := if_no c134 H
          have c134b0 : (t131 == 0) = false := beq_eq_false_iff_ne.mpr c134
          have c134b1 : (t131 != 0) = true := bne_iff_ne.mpr c134
          clear c134
          go_wp2_with fail
          refine start_ (n := 12) (S := (fun _ => True)) (ds := []) #[false, false, false, false, false, false, false, false, false, false, false, false] (by kernel_rfl) rfl rfl (trivial) (fun hHeld => ?_)
          have HS_ := Aside0.mk HS.out.drew
          clear HS
          generalize World.drew _ = w136 at HS_ hHeld ⊢
          have HS := HS_
          clear HS_
          refine pure_ (i := 0) (N := some 32) (v := ?_) (a' := ?_) #[true, false, false, false, false, false, false, false, false, false, false, false] rfl rfl (by kernel_rfl) (fun _ _ _ h => h) (Or.inl ⟨by rfl, ?_⟩) ?_ ?_
          rotate_left
          · intro w'
            go_simp
            with_reducible rfl
          rotate_left
          · simp only [Act.put, List.setIfInBounds_toArray, List.set_cons_zero, List.set_cons_succ, i64_w, i32_w]
            rfl
          refine pure_ (i := 1) (N := some 33) (v := ?_) (a' := ?_) #[true, true, false, false, false, false, false, false, false, false, false, false] rfl rfl (by kernel_rfl) (fun _ _ _ h => h) (Or.inl ⟨by rfl, ?_⟩) ?_ ?_
          rotate_left
          · intro w'
            go_simp
            with_reducible rfl
          rotate_left
          · simp only [Act.put, List.setIfInBounds_toArray, List.set_cons_zero, List.set_cons_succ, i64_w, i32_w]
            rfl
          refine pure_ (i := 4) (N := some 36) (v := ?_) (a' := ?_) #[true, true, false, false, true, false, false, false, false, false, false, false] rfl rfl (by kernel_rfl) (fun _ _ _ h => h) (Or.inl ⟨by rfl, ?_⟩) ?_ ?_
          rotate_left
          · intro w'
            go_simp
            with_reducible rfl
          rotate_left
          · simp only [Act.put, List.setIfInBounds_toArray, List.set_cons_zero, List.set_cons_succ, i64_w, i32_w]
            rfl
          refine pure_ (i := 5) (N := some 37) (v := ?_) (a' := ?_) #[true, true, false, false, true, true, false, false, false, false, false, false] rfl rfl (by kernel_rfl) (fun _ _ _ h => h) (Or.inl ⟨by rfl, ?_⟩) ?_ ?_
          rotate_left
          · intro w'
            go_simp
            with_reducible rfl
          rotate_left
          · simp only [Act.put, List.setIfInBounds_toArray, List.set_cons_zero, List.set_cons_succ, i64_w, i32_w]
            rfl
          refine one_ (i := 2) (N := some 34) #[true, true, true, false, true, true, false, false, false, false, false, false] rfl rfl (by kernel_rfl) (by decide) (fun K hK => ?_)
          obtain ⟨t137, HA138, H⟩ := bind_some H
          refine goes_ Try.func33 (by kernel_rfl) rfl #[.int .i64 a119] (by rfl) rfl rfl (by (try simp only [List.map_toArray, List.map_cons, List.map_nil]); first | done | rfl) ?_
          refine (shape_inLeaf.calls a119 t137 _ ⟨HS.out.begin (l := []) (rest := [blk g122 #[.int .i64 a120] 3])⟩ HA138).mono ?_
          rintro e_ w139 ⟨rfl, hS⟩
          have HS_ : Aside0 (Sep (fps []) w [blk g122 #[.int .i64 a120] 3] w139) := ⟨HS.out.call (l := []) (rest := [blk g122 #[.int .i64 a120] 3]) hS⟩
          clear HS hS
          have HS := HS_
          clear HS_
          refine ⟨_, rfl, ?_⟩
          refine hK.out _ _ (trivial) (fun hHeld => ?_)
          clear hK K
          refine norm_ (a' := ?_) ?_ ?_
          rotate_left
          · show Act.put _ (some 34) _ = _
            simp only [Act.put, List.setIfInBounds_toArray, List.set_cons_zero, List.set_cons_succ, i64_w, i32_w]
            rfl
          by_cases c140 : t137 = 0
          · have H := if_yes c140 H
            have c140b0 : (t137 == 0) = true := beq_iff_eq.mpr c140
            have c140b1 : (t137 != 0) = false := bne_eq_false_iff_eq.mpr c140
            exact (none_no H).elim
          · have H := if_no c140 H
            have c140b0 : (t137 == 0) = false := beq_eq_false_iff_ne.mpr c140
            have c140b1 : (t137 != 0) = true := bne_iff_ne.mpr c140
            refine pure_ (i := 3) (N := some 35) (v := ?_) (a' := ?_) #[true, true, true, true, true, true, false, false, false, false, false, false] rfl rfl (by kernel_rfl) (fun _ _ _ h => h) (Or.inl ⟨by rfl, ?_⟩) ?_ ?_
            rotate_left
            · intro w'
              go_simp
              with_reducible rfl
            rotate_left
            · simp only [Act.put, List.setIfInBounds_toArray, List.set_cons_zero, List.set_cons_succ, i64_w, i32_w]
              rfl
            refine one_ (i := 6) (N := some 38) #[true, true, true, true, true, true, true, false, false, false, false, false] rfl rfl (by kernel_rfl) (by decide) (fun K hK => ?_)
            obtain ⟨t141, HA142, H⟩ := bind_some H
            refine goes_ Try.func33 (by kernel_rfl) rfl #[.int .i64 a119] (by rfl) rfl rfl (by (try simp only [List.map_toArray, List.map_cons, List.map_nil]); first | done | rfl) ?_
            refine (shape_inLeaf.calls a119 t141 _ ⟨HS.out.begin (l := []) (rest := [blk g122 #[.int .i64 a120] 3])⟩ HA142).mono ?_
            rintro e_ w143 ⟨rfl, hS⟩
            have HS_ : Aside0 (Sep (fps []) w [blk g122 #[.int .i64 a120] 3] w143) := ⟨HS.out.call (l := []) (rest := [blk g122 #[.int .i64 a120] 3]) hS⟩
            clear HS hS
            have HS := HS_
            clear HS_
            refine ⟨_, rfl, ?_⟩
            refine hK.out _ _ (trivial) (fun hHeld => ?_)
            clear hK K
            refine norm_ (a' := ?_) ?_ ?_
            rotate_left
            · show Act.put _ (some 38) _ = _
              simp only [Act.put, List.setIfInBounds_toArray, List.set_cons_zero, List.set_cons_succ, i64_w, i32_w]
              rfl
            by_cases c144 : t141 = 0
            · have H := if_yes c144 H
              have c144b0 : (t141 == 0) = true := beq_iff_eq.mpr c144
              have c144b1 : (t141 != 0) = false := bne_eq_false_iff_eq.mpr c144
              exact (none_no H).elim
            · have H := if_no c144 H
              have c144b0 : (t141 == 0) = false := beq_eq_false_iff_ne.mpr c144
              have c144b1 : (t141 != 0) = true := bne_iff_ne.mpr c144
              refine pure_ (i := 7) (N := some 39) (v := ?_) (a' := ?_) #[true, true, true, true, true, true, true, true, false, false, false, false] rfl rfl (by kernel_rfl) (fun _ _ _ h => h) (Or.inl ⟨by rfl, ?_⟩) ?_ ?_
              rotate_left
              · intro w'
                go_simp
                with_reducible rfl
              rotate_left
              · simp only [Act.put, List.setIfInBounds_toArray, List.set_cons_zero, List.set_cons_succ, i64_w, i32_w]
                rfl
              refine pure_ (i := 8) (N := some 40) (v := ?_) (a' := ?_) #[true, true, true, true, true, true, true, true, true, false, false, false] rfl rfl (by kernel_rfl) (fun _ _ _ h => h) (Or.inl ⟨by rfl, ?_⟩) ?_ ?_
              rotate_left
              · intro w'
                go_simp
                with_reducible rfl
              rotate_left
              · simp only [Act.put, List.setIfInBounds_toArray, List.set_cons_zero, List.set_cons_succ, i64_w, i32_w]
                rfl
              refine pure_ (i := 9) (N := some 6) (v := ?_) (a' := ?_) #[true, true, true, true, true, true, true, true, true, true, false, false] rfl rfl (by kernel_rfl) (fun _ _ _ h => h) (Or.inl ⟨by rfl, ?_⟩) ?_ ?_
              rotate_left
              · intro w'
                go_simp
                with_reducible rfl
              rotate_left
              · simp only [Act.put, List.setIfInBounds_toArray, List.set_cons_zero, List.set_cons_succ, i64_w, i32_w]
                rfl
              refine pure_ (i := 10) (N := some 7) (v := ?_) (a' := ?_) #[true, true, true, true, true, true, true, true, true, true, true, false] rfl rfl (by kernel_rfl) (fun _ _ _ h => h) (Or.inl ⟨by rfl, ?_⟩) ?_ ?_
              rotate_left
              · intro w'
                go_simp
                with_reducible rfl
              rotate_left
              · simp only [Act.put, List.setIfInBounds_toArray, List.set_cons_zero, List.set_cons_succ, i64_w, i32_w]
                rfl
              refine pure_ (i := 11) (N := some 8) (v := ?_) (a' := ?_) #[true, true, true, true, true, true, true, true, true, true, true, true] rfl rfl (by kernel_rfl) (fun _ _ _ h => h) (Or.inl ⟨by rfl, ?_⟩) ?_ ?_
              rotate_left
              · intro w'
                go_simp
                with_reducible rfl
              rotate_left
              · simp only [Act.put, List.setIfInBounds_toArray, List.set_cons_zero, List.set_cons_succ, i64_w, i32_w]
                rfl
              refine done_ (by kernel_rfl) ?_
              skip
              skip
              go_wp2_with fail
              clear c140 c144
              go_ret3
              rw [← some_eq H]
              exact ⟨(by first | rfl | (simp [IntKind.wrap_u32]; done)), (HS.out).keep (l := []) (rest := [blk g122 #[.int .i64 a120] 3])⟩
  · have H := if_no c128 H
    have c128b0 : (t125 == 0) = false := beq_eq_false_iff_ne.mpr c128
    have c128b1 : (t125 != 0) = true := bne_iff_ne.mpr c128
    clear c128
    go_wp2_with fail
    go_ret3
    rw [← some_eq H]
    exact ⟨(by first | rfl | (simp [IntKind.wrap_u32]; done)), (HS.out).keep (l := []) (rest := [blk g122 #[.int .i64 a120] 3])⟩

set_option maxHeartbeats 4000000 in
set_option maxRecDepth 100000 in
theorem shape_Largest.calls (a155 : Int) (a156 : Int) (r : Int) (w : World)  (HS : Aside0 (Sep (fps []) w [] w)) (H : Aside0 (shape_Largest.f a155 a156 = some r)) :
    Calls Try.prog 14 #[.int .i64 a155, .int .i64 a156] w fun e w' => e = .returned (.int .i64 r) ∧ Sep (fps []) w [] w' := by
  unfold shape_Largest.f at H
  go_enter Try.func14, Try.ntmps14
  go_wp2_with fail
  obtain ⟨t157, HA158, H⟩ := bind_some H
  refine (shape_isWidth.calls a155 t157 _ ⟨HS.out.begin (l := []) (rest := [])⟩ HA158).mono ?_
  rintro e_ w159 ⟨rfl, hS⟩
  have HS_ : Aside0 (Sep (fps []) w [] w159) := ⟨HS.out.call (l := []) (rest := []) hS⟩
  clear HS hS
  have HS := HS_
  clear HS_
  by_cases c160 : t157 = true
  · have H := if_yes c160 H
    have c160b0 : t157 = true := c160
    clear c160
    by_cases c161 : a156 < 1
    · have H := if_yes c161 H
      have c161b0 : decide (a156 < 1) = true := decide_eq_true c161
      clear c161
      go_wp2_with fail
      go_ret
      rw [← some_eq H]
      exact ⟨(by first | rfl | (simp [IntKind.wrap_u32]; done)), (HS.out).keep (l := []) (rest := [])⟩
    · have H := if_no c161 H
      have c161b0 : decide (a156 < 1) = false := decide_eq_false c161
      clear c161
      go_wp2_with fail
      obtain ⟨t162, HA163, H⟩ := bind_some H
      refine (shape_inHead.calls a155 t162 _ ⟨HS.out.begin (l := []) (rest := [])⟩ HA163).mono ?_
      rintro e_ w164 ⟨rfl, hS⟩
      have HS_ : Aside0 (Sep (fps []) w [] w164) := ⟨HS.out.call (l := []) (rest := []) hS⟩
      clear HS hS
      have HS := HS_
      clear HS_
      by_cases c165 : a156 > (wrap64 (t162 + 1))
      · have H := if_yes c165 H
        have c165b0 : decide ((wrap64 (t162 + 1)) < a156) = true := decide_eq_true c165
        clear c165
        go_wp2_with fail
        go_ret
        rw [← some_eq H]
        exact ⟨(by first | rfl | (simp [IntKind.wrap_u32]; done)), (HS.out).keep (l := []) (rest := [])⟩
      · have H := if_no c165 H
        have c165b0 : decide ((wrap64 (t162 + 1)) < a156) = false := decide_eq_false c165
        clear c165
        by_cases c166 : a156 = 1
        · have H := if_yes c166 H
          have c166b0 : (a156 == 1) = true := beq_iff_eq.mpr c166
          have c166b1 : (a156 != 1) = false := bne_eq_false_iff_eq.mpr c166
          clear c166
          go_wp2_with fail
          obtain ⟨t167, HA168, H⟩ := bind_some H
          refine (shape_inHead.calls a155 t167 _ ⟨HS.out.begin (l := []) (rest := [])⟩ HA168).mono ?_
          rintro e_ w169 ⟨rfl, hS⟩
          have HS_ : Aside0 (Sep (fps []) w [] w169) := ⟨HS.out.call (l := []) (rest := []) hS⟩
          clear HS hS
          have HS := HS_
          clear HS_
          go_wp2_with fail
          go_ret
          rw [← some_eq H]
          exact ⟨(by first | rfl | (simp [IntKind.wrap_u32]; done)), (HS.out).keep (l := []) (rest := [])⟩
        · have H := if_no c166 H
          have c166b0 : (a156 == 1) = false := beq_eq_false_iff_ne.mpr c166
          have c166b1 : (a156 != 1) = true := bne_iff_ne.mpr c166
          clear c166
          go_wp2_with fail
          obtain ⟨t170, HA171, H⟩ := bind_some H
          refine (shape_inLeaf.calls a155 t170 _ ⟨HS.out.begin (l := []) (rest := [])⟩ HA171).mono ?_
          rintro e_ w172 ⟨rfl, hS⟩
          have HS_ : Aside0 (Sep (fps []) w [] w172) := ⟨HS.out.call (l := []) (rest := []) hS⟩
          clear HS hS
          have HS := HS_
          clear HS_
          go_wp2_with fail
          go_ret
          rw [← some_eq H]
          exact ⟨(by first | rfl | (simp [IntKind.wrap_u32]; done)), (HS.out).keep (l := []) (rest := [])⟩
  · have H := if_no c160 H
    have c160b0 : t157 = false := by simpa using c160
    clear c160
    go_wp2_with fail
    go_ret
    rw [← some_eq H]
    exact ⟨(by first | rfl | (simp [IntKind.wrap_u32]; done)), (HS.out).keep (l := []) (rest := [])⟩

set_option maxHeartbeats 4000000 in
set_option maxRecDepth 100000 in
theorem quitrentlaw07_begun.calls (k : Nat)  (r : Bool) (w : World)  (HS : Aside0 (Sep (fps []) w [] w)) (H : Aside0 (quitrentlaw07_begun.f k = some r)) :
    Calls Try.prog 11 #[] w fun e w' => e = .returned (.bool r) ∧ Sep (fps []) w [] w' := by
  unfold quitrentlaw07_begun.f at H
  go_enter Try.func11, Try.ntmps11
  go_wp2_with fail
  obtain ⟨t110, HA111, H⟩ := bind_some H
  refine (shape_Blocks.calls _ 16 4 4 t110 _ ⟨HS.out.begin (l := []) (rest := [])⟩ HA111).mono ?_
  rintro e_ w112 ⟨rfl, hS⟩
  have HS_ : Aside0 (Sep (fps []) w [] w112) := ⟨HS.out.call (l := []) (rest := []) hS⟩
  clear HS hS
  have HS := HS_
  clear HS_
  go_wp2_with fail
  obtain ⟨t113, HA114, H⟩ := bind_some H
  refine (shape_Blocks.calls _ 16 9 0 t113 _ ⟨HS.out.begin (l := []) (rest := [])⟩ HA114).mono ?_
  rintro e_ w115 ⟨rfl, hS⟩
  have HS_ : Aside0 (Sep (fps []) w [] w115) := ⟨HS.out.call (l := []) (rest := []) hS⟩
  clear HS hS
  have HS := HS_
  clear HS_
  go_wp2_with fail
  obtain ⟨t116, HA117, H⟩ := bind_some H
  refine (shape_Blocks.calls _ 16 8 8 t116 _ ⟨HS.out.begin (l := []) (rest := [])⟩ HA117).mono ?_
  rintro e_ w118 ⟨rfl, hS⟩
  have HS_ : Aside0 (Sep (fps []) w [] w118) := ⟨HS.out.call (l := []) (rest := []) hS⟩
  clear HS hS
  have HS := HS_
  clear HS_
  go_wp2_with fail
  obtain ⟨t145, HA146, H⟩ := bind_some H
  refine (shape_Place.calls _ 16 16 15 t145 _ ⟨HS.out.begin (l := []) (rest := [])⟩ HA146).mono ?_
  rintro e_ w147 ⟨rfl, hS⟩
  have HS_ : Aside0 (Sep (fps []) w [] w147) := ⟨HS.out.call (l := []) (rest := []) hS⟩
  clear HS hS
  have HS := HS_
  clear HS_
  by_cases c148 : t110.1 = 1
  · have H := if_yes c148 H
    have c148b0 : (t110.1 == 1) = true := beq_iff_eq.mpr c148
    have c148b1 : (t110.1 != 1) = false := bne_eq_false_iff_eq.mpr c148
    clear c148
    by_cases c149 : t113.1 = 2
    · have H := if_yes c149 H
      have c149b0 : (t113.1 == 2) = true := beq_iff_eq.mpr c149
      have c149b1 : (t113.1 != 2) = false := bne_eq_false_iff_eq.mpr c149
      clear c149
      by_cases c150 : t116.1 = 3
      · have H := if_yes c150 H
        have c150b0 : (t116.1 == 3) = true := beq_iff_eq.mpr c150
        have c150b1 : (t116.1 != 3) = false := bne_eq_false_iff_eq.mpr c150
        clear c150
        by_cases c151 : t116.2 = 0
        · have H := if_yes c151 H
          have c151b0 : (t116.2 == 0) = true := beq_iff_eq.mpr c151
          have c151b1 : (t116.2 != 0) = false := bne_eq_false_iff_eq.mpr c151
          clear c151
          by_cases c152 : t145.1 = 1
          · have H := if_yes c152 H
            have c152b0 : (t145.1 == 1) = true := beq_iff_eq.mpr c152
            have c152b1 : (t145.1 != 1) = false := bne_eq_false_iff_eq.mpr c152
            clear c152
            by_cases c153 : t145.2.1 = 1
            · have H := if_yes c153 H
              have c153b0 : (t145.2.1 == 1) = true := beq_iff_eq.mpr c153
              have c153b1 : (t145.2.1 != 1) = false := bne_eq_false_iff_eq.mpr c153
              clear c153
              by_cases c154 : t145.2.2 = 0
              · have H := if_yes c154 H
                have c154b0 : (t145.2.2 == 0) = true := beq_iff_eq.mpr c154
                have c154b1 : (t145.2.2 != 0) = false := bne_eq_false_iff_eq.mpr c154
                clear c154
                go_wp2_with fail
                obtain ⟨t173, HA174, H⟩ := bind_some H
                refine (shape_Largest.calls 16 2 t173 _ ⟨HS.out.begin (l := []) (rest := [])⟩ HA174).mono ?_
                rintro e_ w175 ⟨rfl, hS⟩
                have HS_ : Aside0 (Sep (fps []) w [] w175) := ⟨HS.out.call (l := []) (rest := []) hS⟩
                clear HS hS
                have HS := HS_
                clear HS_
                go_wp2_with fail
                go_ret
                rw [← some_eq H]
                exact ⟨(by first | rfl | (simp [IntKind.wrap_u32]; done)), (HS.out).keep (l := []) (rest := [])⟩
              · have H := if_no c154 H
                have c154b0 : (t145.2.2 == 0) = false := beq_eq_false_iff_ne.mpr c154
                have c154b1 : (t145.2.2 != 0) = true := bne_iff_ne.mpr c154
                clear c154
                go_wp2_with fail
                go_ret
                rw [← some_eq H]
                exact ⟨(by first | rfl | (simp [IntKind.wrap_u32]; done)), (HS.out).keep (l := []) (rest := [])⟩
            · have H := if_no c153 H
              have c153b0 : (t145.2.1 == 1) = false := beq_eq_false_iff_ne.mpr c153
              have c153b1 : (t145.2.1 != 1) = true := bne_iff_ne.mpr c153
              clear c153
              go_wp2_with fail
              go_ret
              rw [← some_eq H]
              exact ⟨(by first | rfl | (simp [IntKind.wrap_u32]; done)), (HS.out).keep (l := []) (rest := [])⟩
          · have H := if_no c152 H
            have c152b0 : (t145.1 == 1) = false := beq_eq_false_iff_ne.mpr c152
            have c152b1 : (t145.1 != 1) = true := bne_iff_ne.mpr c152
            clear c152
            go_wp2_with fail
            go_ret
            rw [← some_eq H]
            exact ⟨(by first | rfl | (simp [IntKind.wrap_u32]; done)), (HS.out).keep (l := []) (rest := [])⟩
        · have H := if_no c151 H
          have c151b0 : (t116.2 == 0) = false := beq_eq_false_iff_ne.mpr c151
          have c151b1 : (t116.2 != 0) = true := bne_iff_ne.mpr c151
          clear c151
          go_wp2_with fail
          go_ret
          rw [← some_eq H]
          exact ⟨(by first | rfl | (simp [IntKind.wrap_u32]; done)), (HS.out).keep (l := []) (rest := [])⟩
      · have H := if_no c150 H
        have c150b0 : (t116.1 == 3) = false := beq_eq_false_iff_ne.mpr c150
        have c150b1 : (t116.1 != 3) = true := bne_iff_ne.mpr c150
        clear c150
        go_wp2_with fail
        go_ret
        rw [← some_eq H]
        exact ⟨(by first | rfl | (simp [IntKind.wrap_u32]; done)), (HS.out).keep (l := []) (rest := [])⟩
    · have H := if_no c149 H
      have c149b0 : (t113.1 == 2) = false := beq_eq_false_iff_ne.mpr c149
      have c149b1 : (t113.1 != 2) = true := bne_iff_ne.mpr c149
      clear c149
      go_wp2_with fail
      go_ret
      rw [← some_eq H]
      exact ⟨(by first | rfl | (simp [IntKind.wrap_u32]; done)), (HS.out).keep (l := []) (rest := [])⟩
  · have H := if_no c148 H
    have c148b0 : (t110.1 == 1) = false := beq_eq_false_iff_ne.mpr c148
    have c148b1 : (t110.1 != 1) = true := bne_iff_ne.mpr c148
    clear c148
    go_wp2_with fail
    go_ret
    rw [← some_eq H]
    exact ⟨(by first | rfl | (simp [IntKind.wrap_u32]; done)), (HS.out).keep (l := []) (rest := [])⟩

set_option maxHeartbeats 4000000 in
set_option maxRecDepth 100000 in
theorem shape_Full.calls (k : Nat) (a183 : Int) (a184 : Int) (a185 : Int) (r : Int) (w : World)  (HS : Aside0 (Sep (fps []) w [] w)) (H : Aside0 (shape_Full.f k a183 a184 a185 = some r)) :
    Calls Try.prog 12 #[.int .i64 a183, .int .i64 a184, .int .i64 a185] w fun e w' => e = .returned (.int .i64 r) ∧ Sep (fps []) w [] w' := by
  unfold shape_Full.f at H
  go_enter Try.func12, Try.ntmps12
  go_wp2_with (first | ((with_reducible refine gate_dst (N := 10) rfl ?_); refine slice_on (n := 1) ?hg (N := 10) ?hd (cs := #[.int .i64 a184]) (t := 3) ?hr ?_; (case hd => rfl); (case hg => rfl); (case hr => first | (go_simp; done) | (go_simp; rfl)); intro g186 hg w187 hbox hb; have HS_ : Aside0 (Sep (fps []) w [blk g186 #[.int .i64 a184] 3] w187) := ⟨HS.out.box hg hbox hb⟩; clear HS hg hbox hb; have HS := HS_; clear HS_))
  obtain ⟨t189, HA190, H⟩ := bind_some H
  refine (shape_wrong.calls _ a183 [a184] (some ⟨g186, 0, none⟩) 1 t189 _ ⟨C_of_blk (xs := [a184]) (HS.out.at0) (by simp)⟩ ⟨HS.out.begin (l := []) (rest := [blk g186 #[.int .i64 a184] 3])⟩ HA190).mono ?_
  rintro e_ w191 ⟨rfl, hS⟩
  have HS_ : Aside0 (Sep (fps []) w [blk g186 #[.int .i64 a184] 3] w191) := ⟨HS.out.call (l := []) (rest := [blk g186 #[.int .i64 a184] 3]) hS⟩
  clear HS hS
  have HS := HS_
  clear HS_
  by_cases c192 : t189 = 0
  · have H := if_yes c192 H
    have c192b0 : (t189 == 0) = true := beq_iff_eq.mpr c192
    have c192b1 : (t189 != 0) = false := bne_eq_false_iff_eq.mpr c192
    clear c192
    by_cases c193 : a185 < (-1)
    · have H := if_yes c193 H
      have c193b0 : decide (a185 < (-1)) = true := decide_eq_true c193
      clear c193
      go_wp2_with fail
      go_ret
      rw [← some_eq H]
      exact ⟨(by first | rfl | (simp [IntKind.wrap_u32]; done)), (HS.out).keep (l := []) (rest := [blk g186 #[.int .i64 a184] 3])⟩
    · have H := if_no c193 H
      have c193b0 : decide (a185 < (-1)) = false := decide_eq_false c193
      clear c193
      go_wp2_with fail
      obtain ⟨t194, HA195, H⟩ := bind_some H
      refine (shape_leaves.calls a183 a184 t194 _ ⟨HS.out.begin (l := []) (rest := [blk g186 #[.int .i64 a184] 3])⟩ HA195).mono ?_
      rintro e_ w196 ⟨rfl, hS⟩
      have HS_ : Aside0 (Sep (fps []) w [blk g186 #[.int .i64 a184] 3] w196) := ⟨HS.out.call (l := []) (rest := [blk g186 #[.int .i64 a184] 3]) hS⟩
      clear HS hS
      have HS := HS_
      clear HS_
      by_cases c197 : a185 = (-1)
      · have H := if_yes c197 H
        have c197b0 : (a185 == (-1)) = true := beq_iff_eq.mpr c197
        have c197b1 : (a185 != (-1)) = false := bne_eq_false_iff_eq.mpr c197
        clear c197
        by_cases c198 : t194 = 0
        · have H := if_yes c198 H
          have c198b0 : (t194 == 0) = true := beq_iff_eq.mpr c198
          have c198b1 : (t194 != 0) = false := bne_eq_false_iff_eq.mpr c198
          clear c198
          go_wp2_with fail
          go_ret
          rw [← some_eq H]
          exact ⟨(by first | rfl | (simp [IntKind.wrap_u32]; done)), (HS.out).keep (l := []) (rest := [blk g186 #[.int .i64 a184] 3])⟩
        · have H := if_no c198 H
          have c198b0 : (t194 == 0) = false := beq_eq_false_iff_ne.mpr c198
          have c198b1 : (t194 != 0) = true := bne_iff_ne.mpr c198
          clear c198
          go_wp2_with fail
          go_ret
          rw [← some_eq H]
          exact ⟨(by first | rfl | (simp [IntKind.wrap_u32]; done)), (HS.out).keep (l := []) (rest := [blk g186 #[.int .i64 a184] 3])⟩
      · have H := if_no c197 H
        have c197b0 : (a185 == (-1)) = false := beq_eq_false_iff_ne.mpr c197
        have c197b1 : (a185 != (-1)) = true := bne_iff_ne.mpr c197
        clear c197
        by_cases c199 : a185 ≥ t194
        · have H := if_yes c199 H
          have c199b0 : decide (t194 ≤ a185) = true := decide_eq_true c199
          clear c199
          go_wp2_with fail
          go_ret
          rw [← some_eq H]
          exact ⟨(by first | rfl | (simp [IntKind.wrap_u32]; done)), (HS.out).keep (l := []) (rest := [blk g186 #[.int .i64 a184] 3])⟩
        · have H := if_no c199 H
          have c199b0 : decide (t194 ≤ a185) = false := decide_eq_false c199
          clear c199
          go_wp2_with fail
          obtain ⟨t200, HA201, H⟩ := bind_some H
          refine (shape_inLeaf.calls a183 t200 _ ⟨HS.out.begin (l := []) (rest := [blk g186 #[.int .i64 a184] 3])⟩ HA201).mono ?_
          rintro e_ w202 ⟨rfl, hS⟩
          have HS_ : Aside0 (Sep (fps []) w [blk g186 #[.int .i64 a184] 3] w202) := ⟨HS.out.call (l := []) (rest := [blk g186 #[.int .i64 a184] 3]) hS⟩
          clear HS hS
          have HS := HS_
          clear HS_
          go_wp2_with fail
          obtain ⟨t203, HA204, H⟩ := bind_some H
          refine (shape_inLeaf.calls a183 t203 _ ⟨HS.out.begin (l := []) (rest := [blk g186 #[.int .i64 a184] 3])⟩ HA204).mono ?_
          rintro e_ w205 ⟨rfl, hS⟩
          have HS_ : Aside0 (Sep (fps []) w [blk g186 #[.int .i64 a184] 3] w205) := ⟨HS.out.call (l := []) (rest := [blk g186 #[.int .i64 a184] 3]) hS⟩
          clear HS hS
          have HS := HS_
          clear HS_
          by_cases c206 : (wrap64 (a184 - (wrap64 (a185 * t203)))) < t200
          · have H := if_yes c206 H
            have c206b0 : decide ((wrap64 (a184 - (wrap64 (a185 * t203)))) < t200) = true := decide_eq_true c206
            skip
            go_wp2_with fail
            clear c206
            go_ret
            rw [← some_eq H]
            exact ⟨(by first | rfl | (simp [IntKind.wrap_u32]; done)), (HS.out).keep (l := []) (rest := [blk g186 #[.int .i64 a184] 3])⟩
          · have H := if_no c206 H
            have c206b0 : decide ((wrap64 (a184 - (wrap64 (a185 * t203)))) < t200) = false := decide_eq_false c206
            skip
            go_wp2_with fail
            clear c206
            go_ret
            rw [← some_eq H]
            exact ⟨(by first | rfl | (simp [IntKind.wrap_u32]; done)), (HS.out).keep (l := []) (rest := [blk g186 #[.int .i64 a184] 3])⟩
  · have H := if_no c192 H
    have c192b0 : (t189 == 0) = false := beq_eq_false_iff_ne.mpr c192
    have c192b1 : (t189 != 0) = true := bne_iff_ne.mpr c192
    clear c192
    go_wp2_with fail
    go_ret
    rw [← some_eq H]
    exact ⟨(by first | rfl | (simp [IntKind.wrap_u32]; done)), (HS.out).keep (l := []) (rest := [blk g186 #[.int .i64 a184] 3])⟩

set_option maxHeartbeats 4000000 in
set_option maxRecDepth 100000 in
theorem quitrentref07_Width.calls (a215 : Int) (r : Bool) (w : World)  (HS : Aside0 (Sep (fps []) w [] w)) (H : Aside0 (quitrentref07_Width.f a215 = some r)) :
    Calls Try.prog 37 #[.int .i64 a215] w fun e w' => e = .returned (.bool r) ∧ Sep (fps []) w [] w' := by
  unfold quitrentref07_Width.f at H
  go_enter Try.func37, Try.ntmps37
  by_cases c216 : a215 ≥ 16
  · have H := if_yes c216 H
    have c216b0 : decide (16 ≤ a215) = true := decide_eq_true c216
    clear c216
    go_wp2_with fail
    go_ret
    rw [← some_eq H]
    exact ⟨(by first | rfl | (simp [IntKind.wrap_u32]; done)), (HS.out).keep (l := []) (rest := [])⟩
  · have H := if_no c216 H
    have c216b0 : decide (16 ≤ a215) = false := decide_eq_false c216
    clear c216
    go_wp2_with fail
    go_ret
    rw [← some_eq H]
    exact ⟨(by first | rfl | (simp [IntKind.wrap_u32]; done)), (HS.out).keep (l := []) (rest := [])⟩

set_option maxHeartbeats 4000000 in
set_option maxRecDepth 100000 in
theorem quitrentref07_Fields.calls (a226 : Int) (r : Int) (w : World)  (HS : Aside0 (Sep (fps []) w [] w)) (H : Aside0 (quitrentref07_Fields.f a226 = some r)) :
    Calls Try.prog 38 #[.int .i64 a226] w fun e w' => e = .returned (.int .i64 r) ∧ Sep (fps []) w [] w' := by
  unfold quitrentref07_Fields.f at H
  go_enter Try.func38, Try.ntmps38
  go_wp2_with fail
  go_ret
  rw [← some_eq H]
  exact ⟨(by first | rfl | (simp [IntKind.wrap_u32]; done)), (HS.out).keep (l := []) (rest := [])⟩

set_option maxHeartbeats 4000000 in
set_option maxRecDepth 100000 in
theorem quitrentref07_Size.calls (a221 : Int) (a222 : Int) (a223 : Int) (r : Bool) (w : World)  (HS : Aside0 (Sep (fps []) w [] w)) (H : Aside0 (quitrentref07_Size.f a221 a222 a223 = some r)) :
    Calls Try.prog 54 #[.int .i64 a221, .int .i64 a222, .int .i64 a223] w fun e w' => e = .returned (.bool r) ∧ Sep (fps []) w [] w' := by
  unfold quitrentref07_Size.f at H
  go_enter Try.func54, Try.ntmps54
  by_cases c224 : a222 ≥ 0
  · have H := if_yes c224 H
    have c224b0 : decide (0 ≤ a222) = true := decide_eq_true c224
    clear c224
    by_cases c225 : a223 ≥ 0
    · have H := if_yes c225 H
      have c225b0 : decide (0 ≤ a223) = true := decide_eq_true c225
      clear c225
      go_wp2_with fail
      obtain ⟨t227, HA228, H⟩ := bind_some H
      refine (quitrentref07_Fields.calls a221 t227 _ ⟨HS.out.begin (l := []) (rest := [])⟩ HA228).mono ?_
      rintro e_ w229 ⟨rfl, hS⟩
      have HS_ : Aside0 (Sep (fps []) w [] w229) := ⟨HS.out.call (l := []) (rest := []) hS⟩
      clear HS hS
      have HS := HS_
      clear HS_
      by_cases c230 : a222 ≤ t227
      · have H := if_yes c230 H
        have c230b0 : decide (a222 ≤ t227) = true := decide_eq_true c230
        clear c230
        go_wp2_with fail
        obtain ⟨t231, HA232, H⟩ := bind_some H
        refine (quitrentref07_Fields.calls a221 t231 _ ⟨HS.out.begin (l := []) (rest := [])⟩ HA232).mono ?_
        rintro e_ w233 ⟨rfl, hS⟩
        have HS_ : Aside0 (Sep (fps []) w [] w233) := ⟨HS.out.call (l := []) (rest := []) hS⟩
        clear HS hS
        have HS := HS_
        clear HS_
        by_cases c234 : a223 ≤ t231
        · have H := if_yes c234 H
          have c234b0 : decide (a223 ≤ t231) = true := decide_eq_true c234
          clear c234
          go_wp2_with fail
          obtain ⟨t235, HA236, H⟩ := bind_some H
          refine (quitrentref07_Fields.calls a221 t235 _ ⟨HS.out.begin (l := []) (rest := [])⟩ HA236).mono ?_
          rintro e_ w237 ⟨rfl, hS⟩
          have HS_ : Aside0 (Sep (fps []) w [] w237) := ⟨HS.out.call (l := []) (rest := []) hS⟩
          clear HS hS
          have HS := HS_
          clear HS_
          go_wp2_with fail
          go_ret
          rw [← some_eq H]
          exact ⟨(by first | rfl | (simp [IntKind.wrap_u32]; done)), (HS.out).keep (l := []) (rest := [])⟩
        · have H := if_no c234 H
          have c234b0 : decide (a223 ≤ t231) = false := decide_eq_false c234
          clear c234
          go_wp2_with fail
          go_ret
          rw [← some_eq H]
          exact ⟨(by first | rfl | (simp [IntKind.wrap_u32]; done)), (HS.out).keep (l := []) (rest := [])⟩
      · have H := if_no c230 H
        have c230b0 : decide (a222 ≤ t227) = false := decide_eq_false c230
        clear c230
        go_wp2_with fail
        go_ret
        rw [← some_eq H]
        exact ⟨(by first | rfl | (simp [IntKind.wrap_u32]; done)), (HS.out).keep (l := []) (rest := [])⟩
    · have H := if_no c225 H
      have c225b0 : decide (0 ≤ a223) = false := decide_eq_false c225
      clear c225
      go_wp2_with fail
      go_ret
      rw [← some_eq H]
      exact ⟨(by first | rfl | (simp [IntKind.wrap_u32]; done)), (HS.out).keep (l := []) (rest := [])⟩
  · have H := if_no c224 H
    have c224b0 : decide (0 ≤ a222) = false := decide_eq_false c224
    clear c224
    go_wp2_with fail
    go_ret
    rw [← some_eq H]
    exact ⟨(by first | rfl | (simp [IntKind.wrap_u32]; done)), (HS.out).keep (l := []) (rest := [])⟩

set_option maxHeartbeats 4000000 in
set_option maxRecDepth 100000 in
theorem quitrentref07_wrong.calls (a213 : Int) (a214 : Int) (r : Int) (w : World)  (HS : Aside0 (Sep (fps []) w [] w)) (H : Aside0 (quitrentref07_wrong.f a213 a214 = some r)) :
    Calls Try.prog 34 #[.int .i64 a213, .int .i64 a214] w fun e w' => e = .returned (.int .i64 r) ∧ Sep (fps []) w [] w' := by
  unfold quitrentref07_wrong.f at H
  go_enter Try.func34, Try.ntmps34
  go_wp2_with fail
  obtain ⟨t217, HA218, H⟩ := bind_some H
  refine (quitrentref07_Width.calls a213 t217 _ ⟨HS.out.begin (l := []) (rest := [])⟩ HA218).mono ?_
  rintro e_ w219 ⟨rfl, hS⟩
  have HS_ : Aside0 (Sep (fps []) w [] w219) := ⟨HS.out.call (l := []) (rest := []) hS⟩
  clear HS hS
  have HS := HS_
  clear HS_
  by_cases c220 : t217 = true
  · have H := if_yes c220 H
    have c220b0 : t217 = true := c220
    clear c220
    go_wp2_with fail
    obtain ⟨t238, HA239, H⟩ := bind_some H
    refine (quitrentref07_Size.calls a213 a214 0 t238 _ ⟨HS.out.begin (l := []) (rest := [])⟩ HA239).mono ?_
    rintro e_ w240 ⟨rfl, hS⟩
    have HS_ : Aside0 (Sep (fps []) w [] w240) := ⟨HS.out.call (l := []) (rest := []) hS⟩
    clear HS hS
    have HS := HS_
    clear HS_
    by_cases c241 : t238 = true
    · have H := if_yes c241 H
      have c241b0 : t238 = true := c241
      clear c241
      go_wp2_with fail
      go_ret
      rw [← some_eq H]
      exact ⟨(by first | rfl | (simp [IntKind.wrap_u32]; done)), (HS.out).keep (l := []) (rest := [])⟩
    · have H := if_no c241 H
      have c241b0 : t238 = false := by simpa using c241
      clear c241
      go_wp2_with fail
      go_ret
      rw [← some_eq H]
      exact ⟨(by first | rfl | (simp [IntKind.wrap_u32]; done)), (HS.out).keep (l := []) (rest := [])⟩
  · have H := if_no c220 H
    have c220b0 : t217 = false := by simpa using c220
    clear c220
    go_wp2_with fail
    go_ret
    rw [← some_eq H]
    exact ⟨(by first | rfl | (simp [IntKind.wrap_u32]; done)), (HS.out).keep (l := []) (rest := [])⟩

set_option maxHeartbeats 4000000 in
set_option maxRecDepth 100000 in
theorem quitrentref07_Leaves.calls (k : Nat) (a263 : Int) (a264 : Int) (r : Int) (w : World)  (HS : Aside0 (Sep (fps []) w [] w)) (H : Aside0 (quitrentref07_Leaves.f k a263 a264 = some r)) :
    Calls Try.prog 39 #[.int .i64 a263, .int .i64 a264] w fun e w' => e = .returned (.int .i64 r) ∧ Sep (fps []) w [] w' := by
  unfold quitrentref07_Leaves.f at H
  go_enter Try.func39, Try.ntmps39
  by_cases c265 : a264 ≤ (wrap64 (a263 - 8))
  · have H := if_yes c265 H
    have c265b0 : decide (a264 ≤ (wrap64 (a263 - 8))) = true := decide_eq_true c265
    clear c265
    go_wp2_with fail
    go_ret
    rw [← some_eq H]
    exact ⟨(by first | rfl | (simp [IntKind.wrap_u32]; done)), (HS.out).keep (l := []) (rest := [])⟩
  · have H := if_no c265 H
    have c265b0 : decide (a264 ≤ (wrap64 (a263 - 8))) = false := decide_eq_false c265
    clear c265
    go_wp2_with fail
    obtain ⟨o267, AL268, H⟩ := bind_some H
    go_loopg [5] k (fun kq v5 wc => ∃ (x271 : Int), v5 = .int .i64 x271 ∧ Aside0 (quitrentref07_Leaves.lo0 kq a263 a264 x271 = some o267) ∧ Aside0 (Sep (fps []) w [] wc))
    case atStart => exact ⟨(0), (by first | rfl | (simp [IntKind.wrap_u32]; done)), AL268, ⟨HS.out⟩⟩
    case round =>
      clear AL268 HS
      obtain ⟨x271, rfl, AL268, HS⟩ := hrel
      obtain ⟨w269, rfl⟩ : ∃ x : World, x = wr := ⟨_, rfl⟩
      cases gk with
      | zero => exact absurd AL268.out (by simp [quitrentref07_Leaves.lo0])
      | succ k270 =>
        have AL0 := AL268.out
        rw [quitrentref07_Leaves.lo0] at AL0
        clear AL268
        have AL268 := Aside0.mk AL0
        clear AL0
        by_cases c272 : (wrap64 (x271 * (wrap64 (a263 - 1)))) < a264
        · have AL268 := if_yes c272 AL268
          have c272b0 : decide ((wrap64 (x271 * (wrap64 (a263 - 1)))) < a264) = true := decide_eq_true c272
          clear c272
          go_wp2_with fail
          go_roundg k270
          case measure => exact Nat.lt_succ_self _
          case rel => exact ⟨(wrap64 (x271 + 1)), (by first | rfl | (simp [IntKind.wrap_u32]; done)), Aside0.mk AL268.out, ⟨(HS.out).keep (l := []) (rest := [])⟩⟩
        · have AL268 := if_no c272 AL268
          have c272b0 : decide ((wrap64 (x271 * (wrap64 (a263 - 1)))) < a264) = false := decide_eq_false c272
          clear c272
          have ho := some_eq AL268
          subst ho
          clear AL268
          go_wp2_with fail
          go_ret
          rw [← some_eq H]
          exact ⟨(by first | rfl | (simp [IntKind.wrap_u32]; done)), (HS.out).keep (l := []) (rest := [])⟩

set_option maxHeartbeats 4000000 in
set_option maxRecDepth 100000 in
theorem quitrentref07_Place.calls (k : Nat) (a254 : Int) (a255 : Int) (a256 : Int) (r : Int × Int × Int) (w : World)  (HS : Aside0 (Sep (fps []) w [] w)) (H : Aside0 (quitrentref07_Place.f k a254 a255 a256 = some r)) :
    Calls Try.prog 23 #[.int .i64 a254, .int .i64 a255, .int .i64 a256] w fun e w' => e = .returned (.tuple #[.int .i64 r.1, .int .i64 r.2.1, .int .i64 r.2.2]) ∧ Sep (fps []) w [] w' := by
  unfold quitrentref07_Place.f at H
  go_enter Try.func23, Try.ntmps23
  go_wp2_with fail
  obtain ⟨t257, HA258, H⟩ := bind_some H
  refine (quitrentref07_wrong.calls a254 a255 t257 _ ⟨HS.out.begin (l := []) (rest := [])⟩ HA258).mono ?_
  rintro e_ w259 ⟨rfl, hS⟩
  have HS_ : Aside0 (Sep (fps []) w [] w259) := ⟨HS.out.call (l := []) (rest := []) hS⟩
  clear HS hS
  have HS := HS_
  clear HS_
  by_cases c260 : t257 = 0
  · have H := if_yes c260 H
    have c260b0 : (t257 == 0) = true := beq_iff_eq.mpr c260
    have c260b1 : (t257 != 0) = false := bne_eq_false_iff_eq.mpr c260
    clear c260
    by_cases c261 : a256 < 0
    · have H := if_yes c261 H
      have c261b0 : decide (a256 < 0) = true := decide_eq_true c261
      clear c261
      go_wp2_with fail
      go_ret3
      rw [← some_eq H]
      exact ⟨(by first | rfl | (simp [IntKind.wrap_u32]; done)), (HS.out).keep (l := []) (rest := [])⟩
    · have H := if_no c261 H
      have c261b0 : decide (a256 < 0) = false := decide_eq_false c261
      clear c261
      by_cases c262 : a256 ≥ a255
      · have H := if_yes c262 H
        have c262b0 : decide (a255 ≤ a256) = true := decide_eq_true c262
        clear c262
        go_wp2_with fail
        go_ret3
        rw [← some_eq H]
        exact ⟨(by first | rfl | (simp [IntKind.wrap_u32]; done)), (HS.out).keep (l := []) (rest := [])⟩
      · have H := if_no c262 H
        have c262b0 : decide (a255 ≤ a256) = false := decide_eq_false c262
        clear c262
        go_wp2_with fail
        obtain ⟨t274, HA275, H⟩ := bind_some H
        refine (quitrentref07_Leaves.calls _ a254 a255 t274 _ ⟨HS.out.begin (l := []) (rest := [])⟩ HA275).mono ?_
        rintro e_ w276 ⟨rfl, hS⟩
        have HS_ : Aside0 (Sep (fps []) w [] w276) := ⟨HS.out.call (l := []) (rest := []) hS⟩
        clear HS hS
        have HS := HS_
        clear HS_
        by_cases c277 : t274 = 0
        · have H := if_yes c277 H
          have c277b0 : (t274 == 0) = true := beq_iff_eq.mpr c277
          have c277b1 : (t274 != 0) = false := bne_eq_false_iff_eq.mpr c277
          clear c277
          go_wp2_with fail
          go_ret3
          rw [← some_eq H]
          exact ⟨(by first | rfl | (simp [IntKind.wrap_u32]; done)), (HS.out).keep (l := []) (rest := [])⟩
        · have H := if_no c277 H
          have c277b0 : (t274 == 0) = false := beq_eq_false_iff_ne.mpr c277
          have c277b1 : (t274 != 0) = true := bne_iff_ne.mpr c277
          clear c277
          go_wp2_with fail
          refine start_ (n := 12) (S := (fun _ => True)) (ds := []) #[false, false, false, false, false, false, false, false, false, false, false, false] (by kernel_rfl) rfl rfl (trivial) (fun hHeld => ?_)
          have HS_ := Aside0.mk HS.out.drew
          clear HS
          generalize World.drew _ = w279 at HS_ hHeld ⊢
          have HS := HS_
          clear HS_
          refine pure_ (i := 0) (N := some 29) (v := ?_) (a' := ?_) #[true, false, false, false, false, false, false, false, false, false, false, false] rfl rfl (by kernel_rfl) (fun _ _ _ h => h) (Or.inl ⟨by rfl, ?_⟩) ?_ ?_
          rotate_left
          · intro w'
            go_simp
            with_reducible rfl
          rotate_left
          · simp only [Act.put, List.setIfInBounds_toArray, List.set_cons_zero, List.set_cons_succ, i64_w, i32_w]
            rfl
          refine pure_ (i := 1) (N := some 30) (v := ?_) (a' := ?_) #[true, true, false, false, false, false, false, false, false, false, false, false] rfl rfl (by kernel_rfl) (fun _ _ _ h => h) (Or.inl ⟨by rfl, ?_⟩) ?_ ?_
          rotate_left
          · intro w'
            go_simp
            with_reducible rfl
          rotate_left
          · simp only [Act.put, List.setIfInBounds_toArray, List.set_cons_zero, List.set_cons_succ, i64_w, i32_w]
            rfl
          refine pure_ (i := 2) (N := some 31) (v := ?_) (a' := ?_) #[true, true, true, false, false, false, false, false, false, false, false, false] rfl rfl (by kernel_rfl) (fun _ _ _ h => h) (Or.inl ⟨by rfl, ?_⟩) ?_ ?_
          rotate_left
          · intro w'
            go_simp
            with_reducible rfl
          rotate_left
          · simp only [Act.put, List.setIfInBounds_toArray, List.set_cons_zero, List.set_cons_succ, i64_w, i32_w]
            rfl
          by_cases c280 : (wrap64 (a254 - 1)) = 0
          · have H := if_yes c280 H
            have c280b0 : ((wrap64 (a254 - 1)) == 0) = true := beq_iff_eq.mpr c280
            have c280b1 : ((wrap64 (a254 - 1)) != 0) = false := bne_eq_false_iff_eq.mpr c280
            exact (none_no H).elim
          · have H := if_no c280 H
            have c280b0 : ((wrap64 (a254 - 1)) == 0) = false := beq_eq_false_iff_ne.mpr c280
            have c280b1 : ((wrap64 (a254 - 1)) != 0) = true := bne_iff_ne.mpr c280
            refine pure_ (i := 3) (N := some 32) (v := ?_) (a' := ?_) #[true, true, true, true, false, false, false, false, false, false, false, false] rfl rfl (by kernel_rfl) (fun _ _ _ h => h) (Or.inl ⟨by rfl, ?_⟩) ?_ ?_
            rotate_left
            · intro w'
              go_simp
              with_reducible rfl
            rotate_left
            · simp only [Act.put, List.setIfInBounds_toArray, List.set_cons_zero, List.set_cons_succ, i64_w, i32_w]
              rfl
            refine pure_ (i := 4) (N := some 33) (v := ?_) (a' := ?_) #[true, true, true, true, true, false, false, false, false, false, false, false] rfl rfl (by kernel_rfl) (fun _ _ _ h => h) (Or.inl ⟨by rfl, ?_⟩) ?_ ?_
            rotate_left
            · intro w'
              go_simp
              with_reducible rfl
            rotate_left
            · simp only [Act.put, List.setIfInBounds_toArray, List.set_cons_zero, List.set_cons_succ, i64_w, i32_w]
              rfl
            refine pure_ (i := 5) (N := some 34) (v := ?_) (a' := ?_) #[true, true, true, true, true, true, false, false, false, false, false, false] rfl rfl (by kernel_rfl) (fun _ _ _ h => h) (Or.inl ⟨by rfl, ?_⟩) ?_ ?_
            rotate_left
            · intro w'
              go_simp
              with_reducible rfl
            rotate_left
            · simp only [Act.put, List.setIfInBounds_toArray, List.set_cons_zero, List.set_cons_succ, i64_w, i32_w]
              rfl
            refine pure_ (i := 6) (N := some 35) (v := ?_) (a' := ?_) #[true, true, true, true, true, true, true, false, false, false, false, false] rfl rfl (by kernel_rfl) (fun _ _ _ h => h) (Or.inl ⟨by rfl, ?_⟩) ?_ ?_
            rotate_left
            · intro w'
              go_simp
              with_reducible rfl
            rotate_left
            · simp only [Act.put, List.setIfInBounds_toArray, List.set_cons_zero, List.set_cons_succ, i64_w, i32_w]
              rfl
            refine pure_ (i := 7) (N := some 36) (v := ?_) (a' := ?_) #[true, true, true, true, true, true, true, true, false, false, false, false] rfl rfl (by kernel_rfl) (fun _ _ _ h => h) (Or.inl ⟨by rfl, ?_⟩) ?_ ?_
            rotate_left
            · intro w'
              go_simp
              with_reducible rfl
            rotate_left
            · simp only [Act.put, List.setIfInBounds_toArray, List.set_cons_zero, List.set_cons_succ, i64_w, i32_w]
              rfl
            refine pure_ (i := 8) (N := some 37) (v := ?_) (a' := ?_) #[true, true, true, true, true, true, true, true, true, false, false, false] rfl rfl (by kernel_rfl) (fun _ _ _ h => h) (Or.inl ⟨by rfl, ?_⟩) ?_ ?_
            rotate_left
            · intro w'
              go_simp
              with_reducible rfl
            rotate_left
            · simp only [Act.put, List.setIfInBounds_toArray, List.set_cons_zero, List.set_cons_succ, i64_w, i32_w]
              rfl
            refine pure_ (i := 9) (N := some 6) (v := ?_) (a' := ?_) #[true, true, true, true, true, true, true, true, true, true, false, false] rfl rfl (by kernel_rfl) (fun _ _ _ h => h) (Or.inl ⟨by rfl, ?_⟩) ?_ ?_
            rotate_left
            · intro w'
              go_simp
              with_reducible rfl
            rotate_left
            · simp only [Act.put, List.setIfInBounds_toArray, List.set_cons_zero, List.set_cons_succ, i64_w, i32_w]
              rfl
            refine pure_ (i := 10) (N := some 7) (v := ?_) (a' := ?_) #[true, true, true, true, true, true, true, true, true, true, true, false] rfl rfl (by kernel_rfl) (fun _ _ _ h => h) (Or.inl ⟨by rfl, ?_⟩) ?_ ?_
            rotate_left
            · intro w'
              go_simp
              with_reducible rfl
            rotate_left
            · simp only [Act.put, List.setIfInBounds_toArray, List.set_cons_zero, List.set_cons_succ, i64_w, i32_w]
              rfl
            refine pure_ (i := 11) (N := some 8) (v := ?_) (a' := ?_) #[true, true, true, true, true, true, true, true, true, true, true, true] rfl rfl (by kernel_rfl) (fun _ _ _ h => h) (Or.inl ⟨by rfl, ?_⟩) ?_ ?_
            rotate_left
            · intro w'
              go_simp
              with_reducible rfl
            rotate_left
            · simp only [Act.put, List.setIfInBounds_toArray, List.set_cons_zero, List.set_cons_succ, i64_w, i32_w]
              rfl
            refine done_ (by kernel_rfl) ?_
            skip
            go_wp2_with fail
            clear c280
            go_ret3
            rw [← some_eq H]
            exact ⟨(by first | rfl | (simp [IntKind.wrap_u32]; done)), (HS.out).keep (l := []) (rest := [])⟩
  · have H := if_no c260 H
    have c260b0 : (t257 == 0) = false := beq_eq_false_iff_ne.mpr c260
    have c260b1 : (t257 != 0) = true := bne_iff_ne.mpr c260
    clear c260
    go_wp2_with fail
    go_ret3
    rw [← some_eq H]
    exact ⟨(by first | rfl | (simp [IntKind.wrap_u32]; done)), (HS.out).keep (l := []) (rest := [])⟩

set_option maxHeartbeats 4000000 in
set_option maxRecDepth 100000 in
theorem quitrentref07_Full.calls (k : Nat) (a210 : Int) (a211 : Int) (a212 : Int) (r : Int) (w : World)  (HS : Aside0 (Sep (fps []) w [] w)) (H : Aside0 (quitrentref07_Full.f k a210 a211 a212 = some r)) :
    Calls Try.prog 13 #[.int .i64 a210, .int .i64 a211, .int .i64 a212] w fun e w' => e = .returned (.int .i64 r) ∧ Sep (fps []) w [] w' := by
  unfold quitrentref07_Full.f at H
  go_enter Try.func13, Try.ntmps13
  go_wp2_with fail
  obtain ⟨t242, HA243, H⟩ := bind_some H
  refine (quitrentref07_wrong.calls a210 a211 t242 _ ⟨HS.out.begin (l := []) (rest := [])⟩ HA243).mono ?_
  rintro e_ w244 ⟨rfl, hS⟩
  have HS_ : Aside0 (Sep (fps []) w [] w244) := ⟨HS.out.call (l := []) (rest := []) hS⟩
  clear HS hS
  have HS := HS_
  clear HS_
  by_cases c245 : t242 = 0
  · have H := if_yes c245 H
    have c245b0 : (t242 == 0) = true := beq_iff_eq.mpr c245
    have c245b1 : (t242 != 0) = false := bne_eq_false_iff_eq.mpr c245
    clear c245
    go_wp2_with fail
    obtain ⟨o247, AL248, H⟩ := bind_some H
    go_loopg [7, 8] k (fun kq v7 v8 wc => ∃ (x251 : Int) (x252 : Int), v7 = .int .i64 x251 ∧ v8 = .int .i64 x252 ∧ Aside0 (quitrentref07_Full.lo0 kq a210 a211 a212 x251 x252 = some o247) ∧ Aside0 (Sep (fps []) w [] wc))
    case atStart => exact ⟨(0), (0), (by first | rfl | (simp [IntKind.wrap_u32]; done)), (by first | rfl | (simp [IntKind.wrap_u32]; done)), AL248, ⟨HS.out⟩⟩
    case round =>
      clear AL248 HS
      obtain ⟨x251, x252, rfl, rfl, AL248, HS⟩ := hrel
      obtain ⟨w249, rfl⟩ : ∃ x : World, x = wr := ⟨_, rfl⟩
      cases gk with
      | zero => exact absurd AL248.out (by simp [quitrentref07_Full.lo0])
      | succ k250 =>
        have AL0 := AL248.out
        rw [quitrentref07_Full.lo0] at AL0
        clear AL248
        have AL248 := Aside0.mk AL0
        clear AL0
        by_cases c253 : x252 < a211
        · have AL248 := if_yes c253 AL248
          have c253b0 : decide (x252 < a211) = true := decide_eq_true c253
          clear c253
          go_wp2_with fail
          obtain ⟨t281, HA282, AL248⟩ := bind_some AL248
          refine (quitrentref07_Place.calls _ a210 a211 x252 t281 _ ⟨HS.out.begin (l := []) (rest := [])⟩ HA282).mono ?_
          rintro e_ w283 ⟨rfl, hS⟩
          have HS_ : Aside0 (Sep (fps []) w [] w283) := ⟨HS.out.call (l := []) (rest := []) hS⟩
          clear HS hS
          have HS := HS_
          clear HS_
          by_cases c284 : t281.1 = a212
          · have AL248 := if_yes c284 AL248
            have c284b0 : (t281.1 == a212) = true := beq_iff_eq.mpr c284
            have c284b1 : (t281.1 != a212) = false := bne_eq_false_iff_eq.mpr c284
            clear c284
            go_wp2_with fail
            go_roundg k250
            case measure => exact Nat.lt_succ_self _
            case rel => exact ⟨(wrap64 (x251 + 1)), (wrap64 (x252 + 1)), (by first | rfl | (simp [IntKind.wrap_u32]; done)), (by first | rfl | (simp [IntKind.wrap_u32]; done)), Aside0.mk AL248.out, ⟨(HS.out).keep (l := []) (rest := [])⟩⟩
          · have AL248 := if_no c284 AL248
            have c284b0 : (t281.1 == a212) = false := beq_eq_false_iff_ne.mpr c284
            have c284b1 : (t281.1 != a212) = true := bne_iff_ne.mpr c284
            clear c284
            go_wp2_with fail
            go_roundg k250
            case measure => exact Nat.lt_succ_self _
            case rel => exact ⟨(x251), (wrap64 (x252 + 1)), (by first | rfl | (simp [IntKind.wrap_u32]; done)), (by first | rfl | (simp [IntKind.wrap_u32]; done)), Aside0.mk AL248.out, ⟨(HS.out).keep (l := []) (rest := [])⟩⟩
        · have AL248 := if_no c253 AL248
          have c253b0 : decide (x252 < a211) = false := decide_eq_false c253
          clear c253
          have ho := some_eq AL248
          subst ho
          clear AL248
          go_wp2_with fail
          go_ret
          rw [← some_eq H]
          exact ⟨(by first | rfl | (simp [IntKind.wrap_u32]; done)), (HS.out).keep (l := []) (rest := [])⟩
  · have H := if_no c245 H
    have c245b0 : (t242 == 0) = false := beq_eq_false_iff_ne.mpr c245
    have c245b1 : (t242 != 0) = true := bne_iff_ne.mpr c245
    clear c245
    go_wp2_with fail
    go_ret
    rw [← some_eq H]
    exact ⟨(by first | rfl | (simp [IntKind.wrap_u32]; done)), (HS.out).keep (l := []) (rest := [])⟩

set_option maxHeartbeats 4000000 in
set_option maxRecDepth 100000 in
theorem quitrentref07_Largest.calls (k : Nat) (a293 : Int) (a294 : Int) (r : Int) (w : World)  (HS : Aside0 (Sep (fps []) w [] w)) (H : Aside0 (quitrentref07_Largest.f k a293 a294 = some r)) :
    Calls Try.prog 15 #[.int .i64 a293, .int .i64 a294] w fun e w' => e = .returned (.int .i64 r) ∧ Sep (fps []) w [] w' := by
  unfold quitrentref07_Largest.f at H
  go_enter Try.func15, Try.ntmps15
  go_wp2_with fail
  obtain ⟨t295, HA296, H⟩ := bind_some H
  refine (quitrentref07_Width.calls a293 t295 _ ⟨HS.out.begin (l := []) (rest := [])⟩ HA296).mono ?_
  rintro e_ w297 ⟨rfl, hS⟩
  have HS_ : Aside0 (Sep (fps []) w [] w297) := ⟨HS.out.call (l := []) (rest := []) hS⟩
  clear HS hS
  have HS := HS_
  clear HS_
  by_cases c298 : t295 = true
  · have H := if_yes c298 H
    have c298b0 : t295 = true := c298
    clear c298
    by_cases c299 : a294 < 1
    · have H := if_yes c299 H
      have c299b0 : decide (a294 < 1) = true := decide_eq_true c299
      clear c299
      go_wp2_with fail
      go_ret
      rw [← some_eq H]
      exact ⟨(by first | rfl | (simp [IntKind.wrap_u32]; done)), (HS.out).keep (l := []) (rest := [])⟩
    · have H := if_no c299 H
      have c299b0 : decide (a294 < 1) = false := decide_eq_false c299
      clear c299
      by_cases c300 : a294 > (wrap64 (a293 - 7))
      · have H := if_yes c300 H
        have c300b0 : decide ((wrap64 (a293 - 7)) < a294) = true := decide_eq_true c300
        clear c300
        go_wp2_with fail
        go_ret
        rw [← some_eq H]
        exact ⟨(by first | rfl | (simp [IntKind.wrap_u32]; done)), (HS.out).keep (l := []) (rest := [])⟩
      · have H := if_no c300 H
        have c300b0 : decide ((wrap64 (a293 - 7)) < a294) = false := decide_eq_false c300
        clear c300
        go_wp2_with fail
        obtain ⟨o302, AL303, H⟩ := bind_some H
        go_loopg [5, 6] k (fun kq v5 v6 wc => ∃ (x306 : Int) (x307 : Int), v5 = .int .i64 x306 ∧ v6 = .int .i64 x307 ∧ Aside0 (quitrentref07_Largest.lo0 kq a293 a294 x306 x307 = some o302) ∧ Aside0 (Sep (fps []) w [] wc))
        case atStart => exact ⟨(0), (0), (by first | rfl | (simp [IntKind.wrap_u32]; done)), (by first | rfl | (simp [IntKind.wrap_u32]; done)), AL303, ⟨HS.out⟩⟩
        case round =>
          clear AL303 HS
          obtain ⟨x306, x307, rfl, rfl, AL303, HS⟩ := hrel
          obtain ⟨w304, rfl⟩ : ∃ x : World, x = wr := ⟨_, rfl⟩
          cases gk with
          | zero => exact absurd AL303.out (by simp [quitrentref07_Largest.lo0])
          | succ k305 =>
            have AL0 := AL303.out
            rw [quitrentref07_Largest.lo0] at AL0
            clear AL303
            have AL303 := Aside0.mk AL0
            clear AL0
            go_wp2_with fail
            obtain ⟨t308, HA309, AL303⟩ := bind_some AL303
            refine (quitrentref07_Fields.calls a293 t308 _ ⟨HS.out.begin (l := []) (rest := [])⟩ HA309).mono ?_
            rintro e_ w310 ⟨rfl, hS⟩
            have HS_ : Aside0 (Sep (fps []) w [] w310) := ⟨HS.out.call (l := []) (rest := []) hS⟩
            clear HS hS
            have HS := HS_
            clear HS_
            by_cases c311 : x307 ≤ t308
            · have AL303 := if_yes c311 AL303
              have c311b0 : decide (x307 ≤ t308) = true := decide_eq_true c311
              clear c311
              go_wp2_with fail
              obtain ⟨t312, HA313, AL303⟩ := bind_some AL303
              refine (quitrentref07_Leaves.calls _ a293 x307 t312 _ ⟨HS.out.begin (l := []) (rest := [])⟩ HA313).mono ?_
              rintro e_ w314 ⟨rfl, hS⟩
              have HS_ : Aside0 (Sep (fps []) w [] w314) := ⟨HS.out.call (l := []) (rest := []) hS⟩
              clear HS hS
              have HS := HS_
              clear HS_
              by_cases c315 : (wrap64 (1 + t312)) = a294
              · have AL303 := if_yes c315 AL303
                have c315b0 : ((wrap64 (1 + t312)) == a294) = true := beq_iff_eq.mpr c315
                have c315b1 : ((wrap64 (1 + t312)) != a294) = false := bne_eq_false_iff_eq.mpr c315
                clear c315
                go_wp2_with fail
                go_roundg k305
                case measure => exact Nat.lt_succ_self _
                case rel => exact ⟨(x307), (wrap64 (x307 + 1)), (by first | rfl | (simp [IntKind.wrap_u32]; done)), (by first | rfl | (simp [IntKind.wrap_u32]; done)), Aside0.mk AL303.out, ⟨(HS.out).keep (l := []) (rest := [])⟩⟩
              · have AL303 := if_no c315 AL303
                have c315b0 : ((wrap64 (1 + t312)) == a294) = false := beq_eq_false_iff_ne.mpr c315
                have c315b1 : ((wrap64 (1 + t312)) != a294) = true := bne_iff_ne.mpr c315
                clear c315
                go_wp2_with fail
                go_roundg k305
                case measure => exact Nat.lt_succ_self _
                case rel => exact ⟨(x306), (wrap64 (x307 + 1)), (by first | rfl | (simp [IntKind.wrap_u32]; done)), (by first | rfl | (simp [IntKind.wrap_u32]; done)), Aside0.mk AL303.out, ⟨(HS.out).keep (l := []) (rest := [])⟩⟩
            · have AL303 := if_no c311 AL303
              have c311b0 : decide (x307 ≤ t308) = false := decide_eq_false c311
              clear c311
              have ho := some_eq AL303
              subst ho
              clear AL303
              go_wp2_with fail
              go_ret
              rw [← some_eq H]
              exact ⟨(by first | rfl | (simp [IntKind.wrap_u32]; done)), (HS.out).keep (l := []) (rest := [])⟩
  · have H := if_no c298 H
    have c298b0 : t295 = false := by simpa using c298
    clear c298
    go_wp2_with fail
    go_ret
    rw [← some_eq H]
    exact ⟨(by first | rfl | (simp [IntKind.wrap_u32]; done)), (HS.out).keep (l := []) (rest := [])⟩

set_option maxHeartbeats 4000000 in
set_option maxRecDepth 100000 in
theorem quitrentlaw07_ShapeFull.calls (k : Nat) (a1 : Int) (a2 : Int) (a3 : Int) (a4 : Int) (r : Bool) (w : World)  (HS : Aside0 (Sep (fps []) w [] w)) (H : Aside0 (quitrentlaw07_ShapeFull.f k a1 a2 a3 a4 = some r)) :
    Calls Try.prog 3 #[.int .i64 a1, .int .i64 a2, .int .i64 a3, .int .i64 a4] w fun e w' => e = .returned (.bool r) ∧ Sep (fps []) w [] w' := by
  unfold quitrentlaw07_ShapeFull.f at H
  go_enter Try.func3, Try.ntmps3
  go_wp2_with fail
  obtain ⟨t7, HA8, H⟩ := bind_some H
  refine (quitrentlaw07_wide.calls a1 t7 _ ⟨HS.out.begin (l := []) (rest := [])⟩ HA8).mono ?_
  rintro e_ w9 ⟨rfl, hS⟩
  have HS_ : Aside0 (Sep (fps []) w [] w9) := ⟨HS.out.call (l := []) (rest := []) hS⟩
  clear HS hS
  have HS := HS_
  clear HS_
  by_cases c10 : t7 = true
  · have H := if_yes c10 H
    have c10b0 : t7 = true := c10
    clear c10
    go_wp2_with fail
    obtain ⟨t176, HA177, H⟩ := bind_some H
    refine (quitrentlaw07_begun.calls _ t176 _ ⟨HS.out.begin (l := []) (rest := [])⟩ HA177).mono ?_
    rintro e_ w178 ⟨rfl, hS⟩
    have HS_ : Aside0 (Sep (fps []) w [] w178) := ⟨HS.out.call (l := []) (rest := []) hS⟩
    clear HS hS
    have HS := HS_
    clear HS_
    go_wp2_with fail
    go_ret
    rw [← some_eq H]
    exact ⟨(by first | rfl | (simp [IntKind.wrap_u32]; done)), (HS.out).keep (l := []) (rest := [])⟩
  · have H := if_no c10 H
    have c10b0 : t7 = false := by simpa using c10
    clear c10
    go_wp2_with fail
    obtain ⟨t179, HA180, H⟩ := bind_some H
    refine (quitrentlaw07_begun.calls _ t179 _ ⟨HS.out.begin (l := []) (rest := [])⟩ HA180).mono ?_
    rintro e_ w181 ⟨rfl, hS⟩
    have HS_ : Aside0 (Sep (fps []) w [] w181) := ⟨HS.out.call (l := []) (rest := []) hS⟩
    clear HS hS
    have HS := HS_
    clear HS_
    by_cases c182 : t179 = true
    · have H := if_yes c182 H
      have c182b0 : t179 = true := c182
      clear c182
      go_wp2_with fail
      obtain ⟨t207, HA208, H⟩ := bind_some H
      refine (shape_Full.calls _ a1 a2 a3 t207 _ ⟨HS.out.begin (l := []) (rest := [])⟩ HA208).mono ?_
      rintro e_ w209 ⟨rfl, hS⟩
      have HS_ : Aside0 (Sep (fps []) w [] w209) := ⟨HS.out.call (l := []) (rest := []) hS⟩
      clear HS hS
      have HS := HS_
      clear HS_
      go_wp2_with fail
      obtain ⟨t286, HA287, H⟩ := bind_some H
      refine (quitrentref07_Full.calls _ a1 a2 a3 t286 _ ⟨HS.out.begin (l := []) (rest := [])⟩ HA287).mono ?_
      rintro e_ w288 ⟨rfl, hS⟩
      have HS_ : Aside0 (Sep (fps []) w [] w288) := ⟨HS.out.call (l := []) (rest := []) hS⟩
      clear HS hS
      have HS := HS_
      clear HS_
      by_cases c289 : t207 = t286
      · have H := if_yes c289 H
        have c289b0 : (t207 == t286) = true := beq_iff_eq.mpr c289
        have c289b1 : (t207 != t286) = false := bne_eq_false_iff_eq.mpr c289
        clear c289
        go_wp2_with fail
        obtain ⟨t290, HA291, H⟩ := bind_some H
        refine (shape_Largest.calls a1 a4 t290 _ ⟨HS.out.begin (l := []) (rest := [])⟩ HA291).mono ?_
        rintro e_ w292 ⟨rfl, hS⟩
        have HS_ : Aside0 (Sep (fps []) w [] w292) := ⟨HS.out.call (l := []) (rest := []) hS⟩
        clear HS hS
        have HS := HS_
        clear HS_
        go_wp2_with fail
        obtain ⟨t317, HA318, H⟩ := bind_some H
        refine (quitrentref07_Largest.calls _ a1 a4 t317 _ ⟨HS.out.begin (l := []) (rest := [])⟩ HA318).mono ?_
        rintro e_ w319 ⟨rfl, hS⟩
        have HS_ : Aside0 (Sep (fps []) w [] w319) := ⟨HS.out.call (l := []) (rest := []) hS⟩
        clear HS hS
        have HS := HS_
        clear HS_
        go_wp2_with fail
        go_ret
        rw [← some_eq H]
        exact ⟨(by first | rfl | (simp [IntKind.wrap_u32]; done)), (HS.out).keep (l := []) (rest := [])⟩
      · have H := if_no c289 H
        have c289b0 : (t207 == t286) = false := beq_eq_false_iff_ne.mpr c289
        have c289b1 : (t207 != t286) = true := bne_iff_ne.mpr c289
        clear c289
        go_wp2_with fail
        go_ret
        rw [← some_eq H]
        exact ⟨(by first | rfl | (simp [IntKind.wrap_u32]; done)), (HS.out).keep (l := []) (rest := [])⟩
    · have H := if_no c182 H
      have c182b0 : t179 = false := by simpa using c182
      clear c182
      go_wp2_with fail
      go_ret
      rw [← some_eq H]
      exact ⟨(by first | rfl | (simp [IntKind.wrap_u32]; done)), (HS.out).keep (l := []) (rest := [])⟩

set_option maxHeartbeats 4000000 in
set_option maxRecDepth 100000 in
theorem quitrentlaw07_ShapeAll.calls (k : Nat) (a320 : Int) (a321 : Int) (r : Bool) (w : World)  (HS : Aside0 (Sep (fps []) w [] w)) (H : Aside0 (quitrentlaw07_ShapeAll.f k a320 a321 = some r)) :
    Calls Try.prog 4 #[.int .i64 a320, .int .i64 a321] w fun e w' => e = .returned (.bool r) ∧ Sep (fps []) w [] w' := by
  unfold quitrentlaw07_ShapeAll.f at H
  go_enter Try.func4, Try.ntmps4
  go_wp2_with fail
  obtain ⟨t322, HA323, H⟩ := bind_some H
  refine (quitrentlaw07_wide.calls a320 t322 _ ⟨HS.out.begin (l := []) (rest := [])⟩ HA323).mono ?_
  rintro e_ w324 ⟨rfl, hS⟩
  have HS_ : Aside0 (Sep (fps []) w [] w324) := ⟨HS.out.call (l := []) (rest := []) hS⟩
  clear HS hS
  have HS := HS_
  clear HS_
  by_cases c325 : t322 = true
  · have H := if_yes c325 H
    have c325b0 : t322 = true := c325
    clear c325
    go_wp2_with fail
    obtain ⟨t326, HA327, H⟩ := bind_some H
    refine (quitrentlaw07_begun.calls _ t326 _ ⟨HS.out.begin (l := []) (rest := [])⟩ HA327).mono ?_
    rintro e_ w328 ⟨rfl, hS⟩
    have HS_ : Aside0 (Sep (fps []) w [] w328) := ⟨HS.out.call (l := []) (rest := []) hS⟩
    clear HS hS
    have HS := HS_
    clear HS_
    go_wp2_with fail
    go_ret
    rw [← some_eq H]
    exact ⟨(by first | rfl | (simp [IntKind.wrap_u32]; done)), (HS.out).keep (l := []) (rest := [])⟩
  · have H := if_no c325 H
    have c325b0 : t322 = false := by simpa using c325
    clear c325
    go_wp2_with fail
    obtain ⟨t329, HA330, H⟩ := bind_some H
    refine (shape_Blocks.calls _ a320 a321 0 t329 _ ⟨HS.out.begin (l := []) (rest := [])⟩ HA330).mono ?_
    rintro e_ w331 ⟨rfl, hS⟩
    have HS_ : Aside0 (Sep (fps []) w [] w331) := ⟨HS.out.call (l := []) (rest := []) hS⟩
    clear HS hS
    have HS := HS_
    clear HS_
    by_cases c332 : t329.2 = 0
    · have H := if_yes c332 H
      have c332b0 : (t329.2 == 0) = true := beq_iff_eq.mpr c332
      have c332b1 : (t329.2 != 0) = false := bne_eq_false_iff_eq.mpr c332
      clear c332
      go_wp2_with fail
      obtain ⟨t333, HA334, H⟩ := bind_some H
      refine (shape_Full.calls _ a320 a321 (-1) t333 _ ⟨HS.out.begin (l := []) (rest := [])⟩ HA334).mono ?_
      rintro e_ w335 ⟨rfl, hS⟩
      have HS_ : Aside0 (Sep (fps []) w [] w335) := ⟨HS.out.call (l := []) (rest := []) hS⟩
      clear HS hS
      have HS := HS_
      clear HS_
      go_wp2_with fail
      obtain ⟨o348, AL349, H⟩ := bind_some H
      go_loopg [7, 8] k (fun kq v7 v8 wc => ∃ (x352 : Int) (x353 : Int), v7 = .int .i64 x352 ∧ v8 = .int .i64 x353 ∧ Aside0 (quitrentlaw07_ShapeAll.lo0 kq a320 a321 t329 x352 x353 = some o348) ∧ Aside0 (Sep (fps []) w [] wc))
      case atStart => exact ⟨(t333), (0), (by first | rfl | (simp [IntKind.wrap_u32]; done)), (by first | rfl | (simp [IntKind.wrap_u32]; done)), AL349, ⟨HS.out⟩⟩
      case round =>
        clear AL349 HS
        obtain ⟨x352, x353, rfl, rfl, AL349, HS⟩ := hrel
        obtain ⟨w350, rfl⟩ : ∃ x : World, x = wr := ⟨_, rfl⟩
        cases gk with
        | zero => exact absurd AL349.out (by simp [quitrentlaw07_ShapeAll.lo0])
        | succ k351 =>
          have AL0 := AL349.out
          rw [quitrentlaw07_ShapeAll.lo0] at AL0
          clear AL349
          have AL349 := Aside0.mk AL0
          clear AL0
          by_cases c354 : x353 < (wrap64 (t329.1 - 1))
          · have AL349 := if_yes c354 AL349
            have c354b0 : decide (x353 < (wrap64 (t329.1 - 1))) = true := decide_eq_true c354
            clear c354
            go_wp2_with fail
            obtain ⟨t344, HA355, AL349⟩ := bind_some AL349
            refine (shape_Full.calls _ a320 a321 x353 t344 _ ⟨HS.out.begin (l := []) (rest := [])⟩ HA355).mono ?_
            rintro e_ w356 ⟨rfl, hS⟩
            have HS_ : Aside0 (Sep (fps []) w [] w356) := ⟨HS.out.call (l := []) (rest := []) hS⟩
            clear HS hS
            have HS := HS_
            clear HS_
            by_cases c357 : t344 < 1
            · have AL349 := if_yes c357 AL349
              have c357b0 : decide (t344 < 1) = true := decide_eq_true c357
              clear c357
              go_wp2_with fail
              have ho := some_eq AL349
              subst ho
              have H := lp_ret H
              go_ret
              rw [← some_eq H]
              exact ⟨(by first | rfl | (simp [IntKind.wrap_u32]; done)), (HS.out).keep (l := []) (rest := [])⟩
            · have AL349 := if_no c357 AL349
              have c357b0 : decide (t344 < 1) = false := decide_eq_false c357
              clear c357
              by_cases c358 : x353 < (wrap64 (t329.1 - 2))
              · have AL349 := if_yes c358 AL349
                have c358b0 : decide (x353 < (wrap64 (t329.1 - 2))) = true := decide_eq_true c358
                clear c358
                by_cases c359 : t344 = (wrap64 (a320 - 1))
                · have AL349 := if_yes c359 AL349
                  have c359b0 : (t344 == (wrap64 (a320 - 1))) = true := beq_iff_eq.mpr c359
                  have c359b1 : (t344 != (wrap64 (a320 - 1))) = false := bne_eq_false_iff_eq.mpr c359
                  clear c359
                  go_wp2_with fail
                  go_roundg k351
                  case measure => exact Nat.lt_succ_self _
                  case rel => exact ⟨(wrap64 (x352 + t344)), (wrap64 (x353 + 1)), (by first | rfl | (simp [IntKind.wrap_u32]; done)), (by first | rfl | (simp [IntKind.wrap_u32]; done)), Aside0.mk AL349.out, ⟨(HS.out).keep (l := []) (rest := [])⟩⟩
                · have AL349 := if_no c359 AL349
                  have c359b0 : (t344 == (wrap64 (a320 - 1))) = false := beq_eq_false_iff_ne.mpr c359
                  have c359b1 : (t344 != (wrap64 (a320 - 1))) = true := bne_iff_ne.mpr c359
                  clear c359
                  go_wp2_with fail
                  have ho := some_eq AL349
                  subst ho
                  have H := lp_ret H
                  go_ret
                  rw [← some_eq H]
                  exact ⟨(by first | rfl | (simp [IntKind.wrap_u32]; done)), (HS.out).keep (l := []) (rest := [])⟩
              · have AL349 := if_no c358 AL349
                have c358b0 : decide (x353 < (wrap64 (t329.1 - 2))) = false := decide_eq_false c358
                clear c358
                go_wp2_with fail
                go_roundg k351
                case measure => exact Nat.lt_succ_self _
                case rel => exact ⟨(wrap64 (x352 + t344)), (wrap64 (x353 + 1)), (by first | rfl | (simp [IntKind.wrap_u32]; done)), (by first | rfl | (simp [IntKind.wrap_u32]; done)), Aside0.mk AL349.out, ⟨(HS.out).keep (l := []) (rest := [])⟩⟩
          · have AL349 := if_no c354 AL349
            have c354b0 : decide (x353 < (wrap64 (t329.1 - 1))) = false := decide_eq_false c354
            clear c354
            have ho := some_eq AL349
            subst ho
            clear AL349
            have H := lp_out H
            go_wp2_with fail
            obtain ⟨t360, HA361, H⟩ := bind_some H
            refine (shape_Blocks.calls _ a320 (wrap64 (a321 + 1)) 0 t360 _ ⟨HS.out.begin (l := []) (rest := [])⟩ HA361).mono ?_
            rintro e_ w362 ⟨rfl, hS⟩
            have HS_ : Aside0 (Sep (fps []) w [] w362) := ⟨HS.out.call (l := []) (rest := []) hS⟩
            clear HS hS
            have HS := HS_
            clear HS_
            go_wp2_with fail
            obtain ⟨t363, HA364, H⟩ := bind_some H
            refine (shape_Largest.calls a320 t329.1 t363 _ ⟨HS.out.begin (l := []) (rest := [])⟩ HA364).mono ?_
            rintro e_ w365 ⟨rfl, hS⟩
            have HS_ : Aside0 (Sep (fps []) w [] w365) := ⟨HS.out.call (l := []) (rest := []) hS⟩
            clear HS hS
            have HS := HS_
            clear HS_
            by_cases c366 : t360.2 = 0
            · have H := if_yes c366 H
              have c366b0 : (t360.2 == 0) = true := beq_iff_eq.mpr c366
              have c366b1 : (t360.2 != 0) = false := bne_eq_false_iff_eq.mpr c366
              clear c366
              by_cases c367 : x352 = a321
              · have H := if_yes c367 H
                have c367b0 : (x352 == a321) = true := beq_iff_eq.mpr c367
                have c367b1 : (x352 != a321) = false := bne_eq_false_iff_eq.mpr c367
                clear c367
                by_cases c368 : t363 ≥ a321
                · have H := if_yes c368 H
                  have c368b0 : decide (a321 ≤ t363) = true := decide_eq_true c368
                  clear c368
                  by_cases c369 : t360.1 ≥ t329.1
                  · have H := if_yes c369 H
                    have c369b0 : decide (t329.1 ≤ t360.1) = true := decide_eq_true c369
                    clear c369
                    by_cases c370 : t360.1 > t329.1
                    · have H := if_yes c370 H
                      have c370b0 : decide (t329.1 < t360.1) = true := decide_eq_true c370
                      clear c370
                      by_cases c371 : t363 = a321
                      · have H := if_yes c371 H
                        have c371b0 : (t363 == a321) = true := beq_iff_eq.mpr c371
                        have c371b1 : (t363 != a321) = false := bne_eq_false_iff_eq.mpr c371
                        clear c371
                        go_wp2_with fail
                        obtain ⟨t372, HA373, H⟩ := bind_some H
                        refine (quitrentlaw07_begun.calls _ t372 _ ⟨HS.out.begin (l := []) (rest := [])⟩ HA373).mono ?_
                        rintro e_ w374 ⟨rfl, hS⟩
                        have HS_ : Aside0 (Sep (fps []) w [] w374) := ⟨HS.out.call (l := []) (rest := []) hS⟩
                        clear HS hS
                        have HS := HS_
                        clear HS_
                        go_wp2_with fail
                        go_ret
                        rw [← some_eq H]
                        exact ⟨(by first | rfl | (simp [IntKind.wrap_u32]; done)), (HS.out).keep (l := []) (rest := [])⟩
                      · have H := if_no c371 H
                        have c371b0 : (t363 == a321) = false := beq_eq_false_iff_ne.mpr c371
                        have c371b1 : (t363 != a321) = true := bne_iff_ne.mpr c371
                        clear c371
                        go_wp2_with fail
                        go_ret
                        rw [← some_eq H]
                        exact ⟨(by first | rfl | (simp [IntKind.wrap_u32]; done)), (HS.out).keep (l := []) (rest := [])⟩
                    · have H := if_no c370 H
                      have c370b0 : decide (t329.1 < t360.1) = false := decide_eq_false c370
                      clear c370
                      by_cases c375 : t363 = a321
                      · have H := if_yes c375 H
                        have c375b0 : (t363 == a321) = true := beq_iff_eq.mpr c375
                        have c375b1 : (t363 != a321) = false := bne_eq_false_iff_eq.mpr c375
                        clear c375
                        go_wp2_with fail
                        go_ret
                        rw [← some_eq H]
                        exact ⟨(by first | rfl | (simp [IntKind.wrap_u32]; done)), (HS.out).keep (l := []) (rest := [])⟩
                      · have H := if_no c375 H
                        have c375b0 : (t363 == a321) = false := beq_eq_false_iff_ne.mpr c375
                        have c375b1 : (t363 != a321) = true := bne_iff_ne.mpr c375
                        clear c375
                        go_wp2_with fail
                        obtain ⟨t372, HA376, H⟩ := bind_some H
                        refine (quitrentlaw07_begun.calls _ t372 _ ⟨HS.out.begin (l := []) (rest := [])⟩ HA376).mono ?_
                        rintro e_ w377 ⟨rfl, hS⟩
                        have HS_ : Aside0 (Sep (fps []) w [] w377) := ⟨HS.out.call (l := []) (rest := []) hS⟩
                        clear HS hS
                        have HS := HS_
                        clear HS_
                        go_wp2_with fail
                        go_ret
                        rw [← some_eq H]
                        exact ⟨(by first | rfl | (simp [IntKind.wrap_u32]; done)), (HS.out).keep (l := []) (rest := [])⟩
                  · have H := if_no c369 H
                    have c369b0 : decide (t329.1 ≤ t360.1) = false := decide_eq_false c369
                    clear c369
                    go_wp2_with fail
                    go_ret
                    rw [← some_eq H]
                    exact ⟨(by first | rfl | (simp [IntKind.wrap_u32]; done)), (HS.out).keep (l := []) (rest := [])⟩
                · have H := if_no c368 H
                  have c368b0 : decide (a321 ≤ t363) = false := decide_eq_false c368
                  clear c368
                  go_wp2_with fail
                  go_ret
                  rw [← some_eq H]
                  exact ⟨(by first | rfl | (simp [IntKind.wrap_u32]; done)), (HS.out).keep (l := []) (rest := [])⟩
              · have H := if_no c367 H
                have c367b0 : (x352 == a321) = false := beq_eq_false_iff_ne.mpr c367
                have c367b1 : (x352 != a321) = true := bne_iff_ne.mpr c367
                clear c367
                go_wp2_with fail
                go_ret
                rw [← some_eq H]
                exact ⟨(by first | rfl | (simp [IntKind.wrap_u32]; done)), (HS.out).keep (l := []) (rest := [])⟩
            · have H := if_no c366 H
              have c366b0 : (t360.2 == 0) = false := beq_eq_false_iff_ne.mpr c366
              have c366b1 : (t360.2 != 0) = true := bne_iff_ne.mpr c366
              clear c366
              by_cases c378 : x352 = a321
              · have H := if_yes c378 H
                have c378b0 : (x352 == a321) = true := beq_iff_eq.mpr c378
                have c378b1 : (x352 != a321) = false := bne_eq_false_iff_eq.mpr c378
                clear c378
                by_cases c379 : t363 = a321
                · have H := if_yes c379 H
                  have c379b0 : (t363 == a321) = true := beq_iff_eq.mpr c379
                  have c379b1 : (t363 != a321) = false := bne_eq_false_iff_eq.mpr c379
                  clear c379
                  go_wp2_with fail
                  obtain ⟨t380, HA381, H⟩ := bind_some H
                  refine (quitrentlaw07_begun.calls _ t380 _ ⟨HS.out.begin (l := []) (rest := [])⟩ HA381).mono ?_
                  rintro e_ w382 ⟨rfl, hS⟩
                  have HS_ : Aside0 (Sep (fps []) w [] w382) := ⟨HS.out.call (l := []) (rest := []) hS⟩
                  clear HS hS
                  have HS := HS_
                  clear HS_
                  go_wp2_with fail
                  go_ret
                  rw [← some_eq H]
                  exact ⟨(by first | rfl | (simp [IntKind.wrap_u32]; done)), (HS.out).keep (l := []) (rest := [])⟩
                · have H := if_no c379 H
                  have c379b0 : (t363 == a321) = false := beq_eq_false_iff_ne.mpr c379
                  have c379b1 : (t363 != a321) = true := bne_iff_ne.mpr c379
                  clear c379
                  go_wp2_with fail
                  go_ret
                  rw [← some_eq H]
                  exact ⟨(by first | rfl | (simp [IntKind.wrap_u32]; done)), (HS.out).keep (l := []) (rest := [])⟩
              · have H := if_no c378 H
                have c378b0 : (x352 == a321) = false := beq_eq_false_iff_ne.mpr c378
                have c378b1 : (x352 != a321) = true := bne_iff_ne.mpr c378
                clear c378
                go_wp2_with fail
                go_ret
                rw [← some_eq H]
                exact ⟨(by first | rfl | (simp [IntKind.wrap_u32]; done)), (HS.out).keep (l := []) (rest := [])⟩
    · have H := if_no c332 H
      have c332b0 : (t329.2 == 0) = false := beq_eq_false_iff_ne.mpr c332
      have c332b1 : (t329.2 != 0) = true := bne_iff_ne.mpr c332
      clear c332
      by_cases c403 : t329.1 = 0
      · have H := if_yes c403 H
        have c403b0 : (t329.1 == 0) = true := beq_iff_eq.mpr c403
        have c403b1 : (t329.1 != 0) = false := bne_eq_false_iff_eq.mpr c403
        clear c403
        go_wp2_with fail
        obtain ⟨t404, HA405, H⟩ := bind_some H
        refine (quitrentlaw07_begun.calls _ t404 _ ⟨HS.out.begin (l := []) (rest := [])⟩ HA405).mono ?_
        rintro e_ w406 ⟨rfl, hS⟩
        have HS_ : Aside0 (Sep (fps []) w [] w406) := ⟨HS.out.call (l := []) (rest := []) hS⟩
        clear HS hS
        have HS := HS_
        clear HS_
        go_wp2_with fail
        go_ret
        rw [← some_eq H]
        exact ⟨(by first | rfl | (simp [IntKind.wrap_u32]; done)), (HS.out).keep (l := []) (rest := [])⟩
      · have H := if_no c403 H
        have c403b0 : (t329.1 == 0) = false := beq_eq_false_iff_ne.mpr c403
        have c403b1 : (t329.1 != 0) = true := bne_iff_ne.mpr c403
        clear c403
        go_wp2_with fail
        go_ret
        rw [← some_eq H]
        exact ⟨(by first | rfl | (simp [IntKind.wrap_u32]; done)), (HS.out).keep (l := []) (rest := [])⟩

set_option maxHeartbeats 4000000 in
set_option maxRecDepth 100000 in
theorem shape_Back.calls (k : Nat) (a425 : Int) (a426 : Int) (a427 : Int) (a428 : Int) (r : Int × Int) (w : World)  (HS : Aside0 (Sep (fps []) w [] w)) (H : Aside0 (shape_Back.f k a425 a426 a427 a428 = some r)) :
    Calls Try.prog 24 #[.int .i64 a425, .int .i64 a426, .int .i64 a427, .int .i64 a428] w fun e w' => e = .returned (.tuple #[.int .i64 r.1, .int .i64 r.2]) ∧ Sep (fps []) w [] w' := by
  unfold shape_Back.f at H
  go_enter Try.func24, Try.ntmps24
  go_wp2_with (first | ((with_reducible refine gate_dst (N := 16) rfl ?_); refine slice_on (n := 1) ?hg (N := 16) ?hd (cs := #[.int .i64 a426]) (t := 3) ?hr ?_; (case hd => rfl); (case hg => rfl); (case hr => first | (go_simp; done) | (go_simp; rfl)); intro g429 hg w430 hbox hb; have HS_ : Aside0 (Sep (fps []) w [blk g429 #[.int .i64 a426] 3] w430) := ⟨HS.out.box hg hbox hb⟩; clear HS hg hbox hb; have HS := HS_; clear HS_))
  obtain ⟨t432, HA433, H⟩ := bind_some H
  refine (shape_wrong.calls _ a425 [a426] (some ⟨g429, 0, none⟩) 1 t432 _ ⟨C_of_blk (xs := [a426]) (HS.out.at0) (by simp)⟩ ⟨HS.out.begin (l := []) (rest := [blk g429 #[.int .i64 a426] 3])⟩ HA433).mono ?_
  rintro e_ w434 ⟨rfl, hS⟩
  have HS_ : Aside0 (Sep (fps []) w [blk g429 #[.int .i64 a426] 3] w434) := ⟨HS.out.call (l := []) (rest := [blk g429 #[.int .i64 a426] 3]) hS⟩
  clear HS hS
  have HS := HS_
  clear HS_
  by_cases c435 : t432 = 0
  · have H := if_yes c435 H
    have c435b0 : (t432 == 0) = true := beq_iff_eq.mpr c435
    have c435b1 : (t432 != 0) = false := bne_eq_false_iff_eq.mpr c435
    clear c435
    go_wp2_with fail
    obtain ⟨t436, HA437, H⟩ := bind_some H
    refine (shape_Full.calls _ a425 a426 a427 t436 _ ⟨HS.out.begin (l := []) (rest := [blk g429 #[.int .i64 a426] 3])⟩ HA437).mono ?_
    rintro e_ w438 ⟨rfl, hS⟩
    have HS_ : Aside0 (Sep (fps []) w [blk g429 #[.int .i64 a426] 3] w438) := ⟨HS.out.call (l := []) (rest := [blk g429 #[.int .i64 a426] 3]) hS⟩
    clear HS hS
    have HS := HS_
    clear HS_
    by_cases c439 : a427 ≥ 0
    · have H := if_yes c439 H
      have c439b0 : decide (0 ≤ a427) = true := decide_eq_true c439
      clear c439
      go_wp2_with fail
      obtain ⟨t440, HA441, H⟩ := bind_some H
      refine (shape_inLeaf.calls a425 t440 _ ⟨HS.out.begin (l := []) (rest := [blk g429 #[.int .i64 a426] 3])⟩ HA441).mono ?_
      rintro e_ w442 ⟨rfl, hS⟩
      have HS_ : Aside0 (Sep (fps []) w [blk g429 #[.int .i64 a426] 3] w442) := ⟨HS.out.call (l := []) (rest := [blk g429 #[.int .i64 a426] 3]) hS⟩
      clear HS hS
      have HS := HS_
      clear HS_
      by_cases c443 : t436 = 0
      · have H := if_yes c443 H
        have c443b0 : (t436 == 0) = true := beq_iff_eq.mpr c443
        have c443b1 : (t436 != 0) = false := bne_eq_false_iff_eq.mpr c443
        clear c443
        go_wp2_with fail
        go_ret2
        rw [← some_eq H]
        exact ⟨(by first | rfl | (simp [IntKind.wrap_u32]; done)), (HS.out).keep (l := []) (rest := [blk g429 #[.int .i64 a426] 3])⟩
      · have H := if_no c443 H
        have c443b0 : (t436 == 0) = false := beq_eq_false_iff_ne.mpr c443
        have c443b1 : (t436 != 0) = true := bne_iff_ne.mpr c443
        clear c443
        by_cases c444 : a428 < 1
        · have H := if_yes c444 H
          have c444b0 : decide (a428 < 1) = true := decide_eq_true c444
          clear c444
          go_wp2_with fail
          go_ret2
          rw [← some_eq H]
          exact ⟨(by first | rfl | (simp [IntKind.wrap_u32]; done)), (HS.out).keep (l := []) (rest := [blk g429 #[.int .i64 a426] 3])⟩
        · have H := if_no c444 H
          have c444b0 : decide (a428 < 1) = false := decide_eq_false c444
          clear c444
          by_cases c445 : (wrap64 (a428 - 1)) ≥ t436
          · have H := if_yes c445 H
            have c445b0 : decide (t436 ≤ (wrap64 (a428 - 1))) = true := decide_eq_true c445
            clear c445
            go_wp2_with fail
            go_ret2
            rw [← some_eq H]
            exact ⟨(by first | rfl | (simp [IntKind.wrap_u32]; done)), (HS.out).keep (l := []) (rest := [blk g429 #[.int .i64 a426] 3])⟩
          · have H := if_no c445 H
            have c445b0 : decide (t436 ≤ (wrap64 (a428 - 1))) = false := decide_eq_false c445
            clear c445
            go_wp2_with fail
            go_ret2
            rw [← some_eq H]
            exact ⟨(by first | rfl | (simp [IntKind.wrap_u32]; done)), (HS.out).keep (l := []) (rest := [blk g429 #[.int .i64 a426] 3])⟩
    · have H := if_no c439 H
      have c439b0 : decide (0 ≤ a427) = false := decide_eq_false c439
      clear c439
      by_cases c446 : t436 = 0
      · have H := if_yes c446 H
        have c446b0 : (t436 == 0) = true := beq_iff_eq.mpr c446
        have c446b1 : (t436 != 0) = false := bne_eq_false_iff_eq.mpr c446
        clear c446
        go_wp2_with fail
        go_ret2
        rw [← some_eq H]
        exact ⟨(by first | rfl | (simp [IntKind.wrap_u32]; done)), (HS.out).keep (l := []) (rest := [blk g429 #[.int .i64 a426] 3])⟩
      · have H := if_no c446 H
        have c446b0 : (t436 == 0) = false := beq_eq_false_iff_ne.mpr c446
        have c446b1 : (t436 != 0) = true := bne_iff_ne.mpr c446
        clear c446
        by_cases c447 : a428 < 8
        · have H := if_yes c447 H
          have c447b0 : decide (a428 < 8) = true := decide_eq_true c447
          clear c447
          go_wp2_with fail
          go_ret2
          rw [← some_eq H]
          exact ⟨(by first | rfl | (simp [IntKind.wrap_u32]; done)), (HS.out).keep (l := []) (rest := [blk g429 #[.int .i64 a426] 3])⟩
        · have H := if_no c447 H
          have c447b0 : decide (a428 < 8) = false := decide_eq_false c447
          clear c447
          by_cases c448 : (wrap64 (a428 - 8)) ≥ t436
          · have H := if_yes c448 H
            have c448b0 : decide (t436 ≤ (wrap64 (a428 - 8))) = true := decide_eq_true c448
            clear c448
            go_wp2_with fail
            go_ret2
            rw [← some_eq H]
            exact ⟨(by first | rfl | (simp [IntKind.wrap_u32]; done)), (HS.out).keep (l := []) (rest := [blk g429 #[.int .i64 a426] 3])⟩
          · have H := if_no c448 H
            have c448b0 : decide (t436 ≤ (wrap64 (a428 - 8))) = false := decide_eq_false c448
            clear c448
            go_wp2_with fail
            go_ret2
            rw [← some_eq H]
            exact ⟨(by first | rfl | (simp [IntKind.wrap_u32]; done)), (HS.out).keep (l := []) (rest := [blk g429 #[.int .i64 a426] 3])⟩
  · have H := if_no c435 H
    have c435b0 : (t432 == 0) = false := beq_eq_false_iff_ne.mpr c435
    have c435b1 : (t432 != 0) = true := bne_iff_ne.mpr c435
    clear c435
    go_wp2_with fail
    go_ret2
    rw [← some_eq H]
    exact ⟨(by first | rfl | (simp [IntKind.wrap_u32]; done)), (HS.out).keep (l := []) (rest := [blk g429 #[.int .i64 a426] 3])⟩

set_option maxHeartbeats 4000000 in
set_option maxRecDepth 100000 in
theorem quitrentref07_Back.calls (k : Nat) (a452 : Int) (a453 : Int) (a454 : Int) (a455 : Int) (r : Int × Int) (w : World)  (HS : Aside0 (Sep (fps []) w [] w)) (H : Aside0 (quitrentref07_Back.f k a452 a453 a454 a455 = some r)) :
    Calls Try.prog 25 #[.int .i64 a452, .int .i64 a453, .int .i64 a454, .int .i64 a455] w fun e w' => e = .returned (.tuple #[.int .i64 r.1, .int .i64 r.2]) ∧ Sep (fps []) w [] w' := by
  unfold quitrentref07_Back.f at H
  go_enter Try.func25, Try.ntmps25
  go_wp2_with fail
  obtain ⟨t456, HA457, H⟩ := bind_some H
  refine (quitrentref07_wrong.calls a452 a453 t456 _ ⟨HS.out.begin (l := []) (rest := [])⟩ HA457).mono ?_
  rintro e_ w458 ⟨rfl, hS⟩
  have HS_ : Aside0 (Sep (fps []) w [] w458) := ⟨HS.out.call (l := []) (rest := []) hS⟩
  clear HS hS
  have HS := HS_
  clear HS_
  by_cases c459 : t456 = 0
  · have H := if_yes c459 H
    have c459b0 : (t456 == 0) = true := beq_iff_eq.mpr c459
    have c459b1 : (t456 != 0) = false := bne_eq_false_iff_eq.mpr c459
    clear c459
    go_wp2_with fail
    obtain ⟨o472, AL473, H⟩ := bind_some H
    go_loopg [11] k (fun kq v11 wc => ∃ (x476 : Int), v11 = .int .i64 x476 ∧ Aside0 (quitrentref07_Back.lo0 kq a452 a453 a454 a455 x476 = some o472) ∧ Aside0 (Sep (fps []) w [] wc))
    case atStart => exact ⟨(0), (by first | rfl | (simp [IntKind.wrap_u32]; done)), AL473, ⟨HS.out⟩⟩
    case round =>
      clear AL473 HS
      obtain ⟨x476, rfl, AL473, HS⟩ := hrel
      obtain ⟨w474, rfl⟩ : ∃ x : World, x = wr := ⟨_, rfl⟩
      cases gk with
      | zero => exact absurd AL473.out (by simp [quitrentref07_Back.lo0])
      | succ k475 =>
        have AL0 := AL473.out
        rw [quitrentref07_Back.lo0] at AL0
        clear AL473
        have AL473 := Aside0.mk AL0
        clear AL0
        by_cases c477 : x476 < a453
        · have AL473 := if_yes c477 AL473
          have c477b0 : decide (x476 < a453) = true := decide_eq_true c477
          clear c477
          go_wp2_with fail
          obtain ⟨t467, HA478, AL473⟩ := bind_some AL473
          refine (quitrentref07_Place.calls _ a452 a453 x476 t467 _ ⟨HS.out.begin (l := []) (rest := [])⟩ HA478).mono ?_
          rintro e_ w479 ⟨rfl, hS⟩
          have HS_ : Aside0 (Sep (fps []) w [] w479) := ⟨HS.out.call (l := []) (rest := []) hS⟩
          clear HS hS
          have HS := HS_
          clear HS_
          by_cases c480 : t467.1 = a454
          · have AL473 := if_yes c480 AL473
            have c480b0 : (t467.1 == a454) = true := beq_iff_eq.mpr c480
            have c480b1 : (t467.1 != a454) = false := bne_eq_false_iff_eq.mpr c480
            clear c480
            by_cases c481 : t467.2.1 = a455
            · have AL473 := if_yes c481 AL473
              have c481b0 : (t467.2.1 == a455) = true := beq_iff_eq.mpr c481
              have c481b1 : (t467.2.1 != a455) = false := bne_eq_false_iff_eq.mpr c481
              clear c481
              go_wp2_with fail
              have ho := some_eq AL473
              subst ho
              have H := lp_ret H
              go_ret2
              rw [← some_eq H]
              exact ⟨(by first | rfl | (simp [IntKind.wrap_u32]; done)), (HS.out).keep (l := []) (rest := [])⟩
            · have AL473 := if_no c481 AL473
              have c481b0 : (t467.2.1 == a455) = false := beq_eq_false_iff_ne.mpr c481
              have c481b1 : (t467.2.1 != a455) = true := bne_iff_ne.mpr c481
              clear c481
              go_wp2_with fail
              go_roundg k475
              case measure => exact Nat.lt_succ_self _
              case rel => exact ⟨(wrap64 (x476 + 1)), (by first | rfl | (simp [IntKind.wrap_u32]; done)), Aside0.mk AL473.out, ⟨(HS.out).keep (l := []) (rest := [])⟩⟩
          · have AL473 := if_no c480 AL473
            have c480b0 : (t467.1 == a454) = false := beq_eq_false_iff_ne.mpr c480
            have c480b1 : (t467.1 != a454) = true := bne_iff_ne.mpr c480
            clear c480
            go_wp2_with fail
            go_roundg k475
            case measure => exact Nat.lt_succ_self _
            case rel => exact ⟨(wrap64 (x476 + 1)), (by first | rfl | (simp [IntKind.wrap_u32]; done)), Aside0.mk AL473.out, ⟨(HS.out).keep (l := []) (rest := [])⟩⟩
        · have AL473 := if_no c477 AL473
          have c477b0 : decide (x476 < a453) = false := decide_eq_false c477
          clear c477
          have ho := some_eq AL473
          subst ho
          clear AL473
          have H := lp_out H
          go_wp2_with fail
          go_ret2
          rw [← some_eq H]
          exact ⟨(by first | rfl | (simp [IntKind.wrap_u32]; done)), (HS.out).keep (l := []) (rest := [])⟩
  · have H := if_no c459 H
    have c459b0 : (t456 == 0) = false := beq_eq_false_iff_ne.mpr c459
    have c459b1 : (t456 != 0) = true := bne_iff_ne.mpr c459
    clear c459
    go_wp2_with fail
    go_ret2
    rw [← some_eq H]
    exact ⟨(by first | rfl | (simp [IntKind.wrap_u32]; done)), (HS.out).keep (l := []) (rest := [])⟩

set_option maxHeartbeats 4000000 in
set_option maxRecDepth 100000 in
theorem quitrentlaw07_ShapePlaces.calls (k : Nat) (a407 : Int) (a408 : Int) (a409 : Int) (a410 : Int) (a411 : Int) (r : Bool) (w : World)  (HS : Aside0 (Sep (fps []) w [] w)) (H : Aside0 (quitrentlaw07_ShapePlaces.f k a407 a408 a409 a410 a411 = some r)) :
    Calls Try.prog 7 #[.int .i64 a407, .int .i64 a408, .int .i64 a409, .int .i64 a410, .int .i64 a411] w fun e w' => e = .returned (.bool r) ∧ Sep (fps []) w [] w' := by
  unfold quitrentlaw07_ShapePlaces.f at H
  go_enter Try.func7, Try.ntmps7
  go_wp2_with fail
  obtain ⟨t412, HA413, H⟩ := bind_some H
  refine (quitrentlaw07_wide.calls a407 t412 _ ⟨HS.out.begin (l := []) (rest := [])⟩ HA413).mono ?_
  rintro e_ w414 ⟨rfl, hS⟩
  have HS_ : Aside0 (Sep (fps []) w [] w414) := ⟨HS.out.call (l := []) (rest := []) hS⟩
  clear HS hS
  have HS := HS_
  clear HS_
  by_cases c415 : t412 = true
  · have H := if_yes c415 H
    have c415b0 : t412 = true := c415
    clear c415
    go_wp2_with fail
    obtain ⟨t416, HA417, H⟩ := bind_some H
    refine (quitrentlaw07_begun.calls _ t416 _ ⟨HS.out.begin (l := []) (rest := [])⟩ HA417).mono ?_
    rintro e_ w418 ⟨rfl, hS⟩
    have HS_ : Aside0 (Sep (fps []) w [] w418) := ⟨HS.out.call (l := []) (rest := []) hS⟩
    clear HS hS
    have HS := HS_
    clear HS_
    go_wp2_with fail
    go_ret
    rw [← some_eq H]
    exact ⟨(by first | rfl | (simp [IntKind.wrap_u32]; done)), (HS.out).keep (l := []) (rest := [])⟩
  · have H := if_no c415 H
    have c415b0 : t412 = false := by simpa using c415
    clear c415
    go_wp2_with fail
    obtain ⟨t419, HA420, H⟩ := bind_some H
    refine (shape_Place.calls _ a407 a408 a409 t419 _ ⟨HS.out.begin (l := []) (rest := [])⟩ HA420).mono ?_
    rintro e_ w421 ⟨rfl, hS⟩
    have HS_ : Aside0 (Sep (fps []) w [] w421) := ⟨HS.out.call (l := []) (rest := []) hS⟩
    clear HS hS
    have HS := HS_
    clear HS_
    go_wp2_with fail
    obtain ⟨t422, HA423, H⟩ := bind_some H
    refine (quitrentref07_Place.calls _ a407 a408 a409 t422 _ ⟨HS.out.begin (l := []) (rest := [])⟩ HA423).mono ?_
    rintro e_ w424 ⟨rfl, hS⟩
    have HS_ : Aside0 (Sep (fps []) w [] w424) := ⟨HS.out.call (l := []) (rest := []) hS⟩
    clear HS hS
    have HS := HS_
    clear HS_
    go_wp2_with fail
    obtain ⟨t449, HA450, H⟩ := bind_some H
    refine (shape_Back.calls _ a407 a408 a410 a411 t449 _ ⟨HS.out.begin (l := []) (rest := [])⟩ HA450).mono ?_
    rintro e_ w451 ⟨rfl, hS⟩
    have HS_ : Aside0 (Sep (fps []) w [] w451) := ⟨HS.out.call (l := []) (rest := []) hS⟩
    clear HS hS
    have HS := HS_
    clear HS_
    go_wp2_with fail
    obtain ⟨t483, HA484, H⟩ := bind_some H
    refine (quitrentref07_Back.calls _ a407 a408 a410 a411 t483 _ ⟨HS.out.begin (l := []) (rest := [])⟩ HA484).mono ?_
    rintro e_ w485 ⟨rfl, hS⟩
    have HS_ : Aside0 (Sep (fps []) w [] w485) := ⟨HS.out.call (l := []) (rest := []) hS⟩
    clear HS hS
    have HS := HS_
    clear HS_
    go_wp2_with fail
    obtain ⟨t486, HA487, H⟩ := bind_some H
    refine (quitrentlaw07_begun.calls _ t486 _ ⟨HS.out.begin (l := []) (rest := [])⟩ HA487).mono ?_
    rintro e_ w488 ⟨rfl, hS⟩
    have HS_ : Aside0 (Sep (fps []) w [] w488) := ⟨HS.out.call (l := []) (rest := []) hS⟩
    clear HS hS
    have HS := HS_
    clear HS_
    by_cases c489 : t486 = true
    · have H := if_yes c489 H
      have c489b0 : t486 = true := c489
      clear c489
      by_cases c490 : t419.1 = t422.1
      · have H := if_yes c490 H
        have c490b0 : (t419.1 == t422.1) = true := beq_iff_eq.mpr c490
        have c490b1 : (t419.1 != t422.1) = false := bne_eq_false_iff_eq.mpr c490
        clear c490
        by_cases c491 : t419.2.1 = t422.2.1
        · have H := if_yes c491 H
          have c491b0 : (t419.2.1 == t422.2.1) = true := beq_iff_eq.mpr c491
          have c491b1 : (t419.2.1 != t422.2.1) = false := bne_eq_false_iff_eq.mpr c491
          clear c491
          by_cases c492 : t419.2.2 = t422.2.2
          · have H := if_yes c492 H
            have c492b0 : (t419.2.2 == t422.2.2) = true := beq_iff_eq.mpr c492
            have c492b1 : (t419.2.2 != t422.2.2) = false := bne_eq_false_iff_eq.mpr c492
            clear c492
            by_cases c493 : t449.1 = t483.1
            · have H := if_yes c493 H
              have c493b0 : (t449.1 == t483.1) = true := beq_iff_eq.mpr c493
              have c493b1 : (t449.1 != t483.1) = false := bne_eq_false_iff_eq.mpr c493
              clear c493
              go_wp2_with fail
              go_ret
              rw [← some_eq H]
              exact ⟨(by first | rfl | (simp [IntKind.wrap_u32]; done)), (HS.out).keep (l := []) (rest := [])⟩
            · have H := if_no c493 H
              have c493b0 : (t449.1 == t483.1) = false := beq_eq_false_iff_ne.mpr c493
              have c493b1 : (t449.1 != t483.1) = true := bne_iff_ne.mpr c493
              clear c493
              go_wp2_with fail
              go_ret
              rw [← some_eq H]
              exact ⟨(by first | rfl | (simp [IntKind.wrap_u32]; done)), (HS.out).keep (l := []) (rest := [])⟩
          · have H := if_no c492 H
            have c492b0 : (t419.2.2 == t422.2.2) = false := beq_eq_false_iff_ne.mpr c492
            have c492b1 : (t419.2.2 != t422.2.2) = true := bne_iff_ne.mpr c492
            clear c492
            go_wp2_with fail
            go_ret
            rw [← some_eq H]
            exact ⟨(by first | rfl | (simp [IntKind.wrap_u32]; done)), (HS.out).keep (l := []) (rest := [])⟩
        · have H := if_no c491 H
          have c491b0 : (t419.2.1 == t422.2.1) = false := beq_eq_false_iff_ne.mpr c491
          have c491b1 : (t419.2.1 != t422.2.1) = true := bne_iff_ne.mpr c491
          clear c491
          go_wp2_with fail
          go_ret
          rw [← some_eq H]
          exact ⟨(by first | rfl | (simp [IntKind.wrap_u32]; done)), (HS.out).keep (l := []) (rest := [])⟩
      · have H := if_no c490 H
        have c490b0 : (t419.1 == t422.1) = false := beq_eq_false_iff_ne.mpr c490
        have c490b1 : (t419.1 != t422.1) = true := bne_iff_ne.mpr c490
        clear c490
        go_wp2_with fail
        go_ret
        rw [← some_eq H]
        exact ⟨(by first | rfl | (simp [IntKind.wrap_u32]; done)), (HS.out).keep (l := []) (rest := [])⟩
    · have H := if_no c489 H
      have c489b0 : t486 = false := by simpa using c489
      clear c489
      go_wp2_with fail
      go_ret
      rw [← some_eq H]
      exact ⟨(by first | rfl | (simp [IntKind.wrap_u32]; done)), (HS.out).keep (l := []) (rest := [])⟩

set_option maxHeartbeats 4000000 in
set_option maxRecDepth 100000 in
theorem quitrentlaw07_ShapeApart.calls (k : Nat) (a494 : Int) (a495 : Int) (a496 : Int) (a497 : Int) (r : Bool) (w : World)  (HS : Aside0 (Sep (fps []) w [] w)) (H : Aside0 (quitrentlaw07_ShapeApart.f k a494 a495 a496 a497 = some r)) :
    Calls Try.prog 8 #[.int .i64 a494, .int .i64 a495, .int .i64 a496, .int .i64 a497] w fun e w' => e = .returned (.bool r) ∧ Sep (fps []) w [] w' := by
  unfold quitrentlaw07_ShapeApart.f at H
  go_enter Try.func8, Try.ntmps8
  go_wp2_with fail
  obtain ⟨t498, HA499, H⟩ := bind_some H
  refine (shape_Place.calls _ a494 a495 a496 t498 _ ⟨HS.out.begin (l := []) (rest := [])⟩ HA499).mono ?_
  rintro e_ w500 ⟨rfl, hS⟩
  have HS_ : Aside0 (Sep (fps []) w [] w500) := ⟨HS.out.call (l := []) (rest := []) hS⟩
  clear HS hS
  have HS := HS_
  clear HS_
  go_wp2_with fail
  obtain ⟨t501, HA502, H⟩ := bind_some H
  refine (shape_Place.calls _ a494 a495 a497 t501 _ ⟨HS.out.begin (l := []) (rest := [])⟩ HA502).mono ?_
  rintro e_ w503 ⟨rfl, hS⟩
  have HS_ : Aside0 (Sep (fps []) w [] w503) := ⟨HS.out.call (l := []) (rest := []) hS⟩
  clear HS hS
  have HS := HS_
  clear HS_
  by_cases c504 : t498.2.2 = 0
  · have H := if_yes c504 H
    have c504b0 : (t498.2.2 == 0) = true := beq_iff_eq.mpr c504
    have c504b1 : (t498.2.2 != 0) = false := bne_eq_false_iff_eq.mpr c504
    clear c504
    go_wp2_with fail
    obtain ⟨t505, HA506, H⟩ := bind_some H
    refine (shape_Back.calls _ a494 a495 t498.1 t498.2.1 t505 _ ⟨HS.out.begin (l := []) (rest := [])⟩ HA506).mono ?_
    rintro e_ w507 ⟨rfl, hS⟩
    have HS_ : Aside0 (Sep (fps []) w [] w507) := ⟨HS.out.call (l := []) (rest := []) hS⟩
    clear HS hS
    have HS := HS_
    clear HS_
    by_cases c508 : t505.1 = a496
    · have H := if_yes c508 H
      have c508b0 : (t505.1 == a496) = true := beq_iff_eq.mpr c508
      have c508b1 : (t505.1 != a496) = false := bne_eq_false_iff_eq.mpr c508
      clear c508
      by_cases c509 : t505.2 = 0
      · have H := if_yes c509 H
        have c509b0 : (t505.2 == 0) = true := beq_iff_eq.mpr c509
        have c509b1 : (t505.2 != 0) = false := bne_eq_false_iff_eq.mpr c509
        clear c509
        by_cases c510 : t498.2.1 ≥ a494
        · have H := if_yes c510 H
          have c510b0 : decide (a494 ≤ t498.2.1) = true := decide_eq_true c510
          clear c510
          go_wp2_with fail
          go_ret
          rw [← some_eq H]
          exact ⟨(by first | rfl | (simp [IntKind.wrap_u32]; done)), (HS.out).keep (l := []) (rest := [])⟩
        · have H := if_no c510 H
          have c510b0 : decide (a494 ≤ t498.2.1) = false := decide_eq_false c510
          clear c510
          by_cases c511 : t498.2.1 < 1
          · have H := if_yes c511 H
            have c511b0 : decide (t498.2.1 < 1) = true := decide_eq_true c511
            clear c511
            go_wp2_with fail
            go_ret
            rw [← some_eq H]
            exact ⟨(by first | rfl | (simp [IntKind.wrap_u32]; done)), (HS.out).keep (l := []) (rest := [])⟩
          · have H := if_no c511 H
            have c511b0 : decide (t498.2.1 < 1) = false := decide_eq_false c511
            clear c511
            by_cases c512 : t498.1 < 0
            · have H := if_yes c512 H
              have c512b0 : decide (t498.1 < 0) = true := decide_eq_true c512
              clear c512
              by_cases c513 : t498.2.1 < 8
              · have H := if_yes c513 H
                have c513b0 : decide (t498.2.1 < 8) = true := decide_eq_true c513
                clear c513
                go_wp2_with fail
                go_ret
                rw [← some_eq H]
                exact ⟨(by first | rfl | (simp [IntKind.wrap_u32]; done)), (HS.out).keep (l := []) (rest := [])⟩
              · have H := if_no c513 H
                have c513b0 : decide (t498.2.1 < 8) = false := decide_eq_false c513
                clear c513
                go_wp2_with fail
                obtain ⟨t514, HA515, H⟩ := bind_some H
                refine (quitrentlaw07_begun.calls _ t514 _ ⟨HS.out.begin (l := []) (rest := [])⟩ HA515).mono ?_
                rintro e_ w516 ⟨rfl, hS⟩
                have HS_ : Aside0 (Sep (fps []) w [] w516) := ⟨HS.out.call (l := []) (rest := []) hS⟩
                clear HS hS
                have HS := HS_
                clear HS_
                by_cases c517 : t514 = true
                · have H := if_yes c517 H
                  have c517b0 : t514 = true := c517
                  clear c517
                  by_cases c518 : t501.2.2 = 0
                  · have H := if_yes c518 H
                    have c518b0 : (t501.2.2 == 0) = true := beq_iff_eq.mpr c518
                    have c518b1 : (t501.2.2 != 0) = false := bne_eq_false_iff_eq.mpr c518
                    clear c518
                    by_cases c519 : a496 = a497
                    · have H := if_yes c519 H
                      have c519b0 : (a496 == a497) = true := beq_iff_eq.mpr c519
                      have c519b1 : (a496 != a497) = false := bne_eq_false_iff_eq.mpr c519
                      clear c519
                      go_wp2_with fail
                      go_ret
                      rw [← some_eq H]
                      exact ⟨(by first | rfl | (simp [IntKind.wrap_u32]; done)), (HS.out).keep (l := []) (rest := [])⟩
                    · have H := if_no c519 H
                      have c519b0 : (a496 == a497) = false := beq_eq_false_iff_ne.mpr c519
                      have c519b1 : (a496 != a497) = true := bne_iff_ne.mpr c519
                      clear c519
                      by_cases c520 : t498.1 = t501.1
                      · have H := if_yes c520 H
                        have c520b0 : (t498.1 == t501.1) = true := beq_iff_eq.mpr c520
                        have c520b1 : (t498.1 != t501.1) = false := bne_eq_false_iff_eq.mpr c520
                        clear c520
                        go_wp2_with fail
                        go_ret
                        rw [← some_eq H]
                        exact ⟨(by first | rfl | (simp [IntKind.wrap_u32]; done)), (HS.out).keep (l := []) (rest := [])⟩
                      · have H := if_no c520 H
                        have c520b0 : (t498.1 == t501.1) = false := beq_eq_false_iff_ne.mpr c520
                        have c520b1 : (t498.1 != t501.1) = true := bne_iff_ne.mpr c520
                        clear c520
                        go_wp2_with fail
                        go_ret
                        rw [← some_eq H]
                        exact ⟨(by first | rfl | (simp [IntKind.wrap_u32]; done)), (HS.out).keep (l := []) (rest := [])⟩
                  · have H := if_no c518 H
                    have c518b0 : (t501.2.2 == 0) = false := beq_eq_false_iff_ne.mpr c518
                    have c518b1 : (t501.2.2 != 0) = true := bne_iff_ne.mpr c518
                    clear c518
                    go_wp2_with fail
                    go_ret
                    rw [← some_eq H]
                    exact ⟨(by first | rfl | (simp [IntKind.wrap_u32]; done)), (HS.out).keep (l := []) (rest := [])⟩
                · have H := if_no c517 H
                  have c517b0 : t514 = false := by simpa using c517
                  clear c517
                  go_wp2_with fail
                  go_ret
                  rw [← some_eq H]
                  exact ⟨(by first | rfl | (simp [IntKind.wrap_u32]; done)), (HS.out).keep (l := []) (rest := [])⟩
            · have H := if_no c512 H
              have c512b0 : decide (t498.1 < 0) = false := decide_eq_false c512
              clear c512
              go_wp2_with fail
              obtain ⟨t514, HA521, H⟩ := bind_some H
              refine (quitrentlaw07_begun.calls _ t514 _ ⟨HS.out.begin (l := []) (rest := [])⟩ HA521).mono ?_
              rintro e_ w522 ⟨rfl, hS⟩
              have HS_ : Aside0 (Sep (fps []) w [] w522) := ⟨HS.out.call (l := []) (rest := []) hS⟩
              clear HS hS
              have HS := HS_
              clear HS_
              by_cases c523 : t514 = true
              · have H := if_yes c523 H
                have c523b0 : t514 = true := c523
                clear c523
                by_cases c524 : t501.2.2 = 0
                · have H := if_yes c524 H
                  have c524b0 : (t501.2.2 == 0) = true := beq_iff_eq.mpr c524
                  have c524b1 : (t501.2.2 != 0) = false := bne_eq_false_iff_eq.mpr c524
                  clear c524
                  by_cases c525 : a496 = a497
                  · have H := if_yes c525 H
                    have c525b0 : (a496 == a497) = true := beq_iff_eq.mpr c525
                    have c525b1 : (a496 != a497) = false := bne_eq_false_iff_eq.mpr c525
                    clear c525
                    go_wp2_with fail
                    go_ret
                    rw [← some_eq H]
                    exact ⟨(by first | rfl | (simp [IntKind.wrap_u32]; done)), (HS.out).keep (l := []) (rest := [])⟩
                  · have H := if_no c525 H
                    have c525b0 : (a496 == a497) = false := beq_eq_false_iff_ne.mpr c525
                    have c525b1 : (a496 != a497) = true := bne_iff_ne.mpr c525
                    clear c525
                    by_cases c526 : t498.1 = t501.1
                    · have H := if_yes c526 H
                      have c526b0 : (t498.1 == t501.1) = true := beq_iff_eq.mpr c526
                      have c526b1 : (t498.1 != t501.1) = false := bne_eq_false_iff_eq.mpr c526
                      clear c526
                      go_wp2_with fail
                      go_ret
                      rw [← some_eq H]
                      exact ⟨(by first | rfl | (simp [IntKind.wrap_u32]; done)), (HS.out).keep (l := []) (rest := [])⟩
                    · have H := if_no c526 H
                      have c526b0 : (t498.1 == t501.1) = false := beq_eq_false_iff_ne.mpr c526
                      have c526b1 : (t498.1 != t501.1) = true := bne_iff_ne.mpr c526
                      clear c526
                      go_wp2_with fail
                      go_ret
                      rw [← some_eq H]
                      exact ⟨(by first | rfl | (simp [IntKind.wrap_u32]; done)), (HS.out).keep (l := []) (rest := [])⟩
                · have H := if_no c524 H
                  have c524b0 : (t501.2.2 == 0) = false := beq_eq_false_iff_ne.mpr c524
                  have c524b1 : (t501.2.2 != 0) = true := bne_iff_ne.mpr c524
                  clear c524
                  go_wp2_with fail
                  go_ret
                  rw [← some_eq H]
                  exact ⟨(by first | rfl | (simp [IntKind.wrap_u32]; done)), (HS.out).keep (l := []) (rest := [])⟩
              · have H := if_no c523 H
                have c523b0 : t514 = false := by simpa using c523
                clear c523
                go_wp2_with fail
                go_ret
                rw [← some_eq H]
                exact ⟨(by first | rfl | (simp [IntKind.wrap_u32]; done)), (HS.out).keep (l := []) (rest := [])⟩
      · have H := if_no c509 H
        have c509b0 : (t505.2 == 0) = false := beq_eq_false_iff_ne.mpr c509
        have c509b1 : (t505.2 != 0) = true := bne_iff_ne.mpr c509
        clear c509
        go_wp2_with fail
        go_ret
        rw [← some_eq H]
        exact ⟨(by first | rfl | (simp [IntKind.wrap_u32]; done)), (HS.out).keep (l := []) (rest := [])⟩
    · have H := if_no c508 H
      have c508b0 : (t505.1 == a496) = false := beq_eq_false_iff_ne.mpr c508
      have c508b1 : (t505.1 != a496) = true := bne_iff_ne.mpr c508
      clear c508
      go_wp2_with fail
      go_ret
      rw [← some_eq H]
      exact ⟨(by first | rfl | (simp [IntKind.wrap_u32]; done)), (HS.out).keep (l := []) (rest := [])⟩
  · have H := if_no c504 H
    have c504b0 : (t498.2.2 == 0) = false := beq_eq_false_iff_ne.mpr c504
    have c504b1 : (t498.2.2 != 0) = true := bne_iff_ne.mpr c504
    clear c504
    by_cases c527 : t498.1 = 0
    · have H := if_yes c527 H
      have c527b0 : (t498.1 == 0) = true := beq_iff_eq.mpr c527
      have c527b1 : (t498.1 != 0) = false := bne_eq_false_iff_eq.mpr c527
      clear c527
      by_cases c528 : t498.2.1 = 0
      · have H := if_yes c528 H
        have c528b0 : (t498.2.1 == 0) = true := beq_iff_eq.mpr c528
        have c528b1 : (t498.2.1 != 0) = false := bne_eq_false_iff_eq.mpr c528
        clear c528
        go_wp2_with fail
        obtain ⟨t529, HA530, H⟩ := bind_some H
        refine (quitrentlaw07_begun.calls _ t529 _ ⟨HS.out.begin (l := []) (rest := [])⟩ HA530).mono ?_
        rintro e_ w531 ⟨rfl, hS⟩
        have HS_ : Aside0 (Sep (fps []) w [] w531) := ⟨HS.out.call (l := []) (rest := []) hS⟩
        clear HS hS
        have HS := HS_
        clear HS_
        go_wp2_with fail
        go_ret
        rw [← some_eq H]
        exact ⟨(by first | rfl | (simp [IntKind.wrap_u32]; done)), (HS.out).keep (l := []) (rest := [])⟩
      · have H := if_no c528 H
        have c528b0 : (t498.2.1 == 0) = false := beq_eq_false_iff_ne.mpr c528
        have c528b1 : (t498.2.1 != 0) = true := bne_iff_ne.mpr c528
        clear c528
        go_wp2_with fail
        go_ret
        rw [← some_eq H]
        exact ⟨(by first | rfl | (simp [IntKind.wrap_u32]; done)), (HS.out).keep (l := []) (rest := [])⟩
    · have H := if_no c527 H
      have c527b0 : (t498.1 == 0) = false := beq_eq_false_iff_ne.mpr c527
      have c527b1 : (t498.1 != 0) = true := bne_iff_ne.mpr c527
      clear c527
      go_wp2_with fail
      go_ret
      rw [← some_eq H]
      exact ⟨(by first | rfl | (simp [IntKind.wrap_u32]; done)), (HS.out).keep (l := []) (rest := [])⟩
end Go.Proofs.Ytgkpcboaiaiahab.C

/- Each function of the group ShapeB does what its plain function says, and changes nothing that was there; proved by walking its code. No condition. -/
import Derived.Test.YtgkpcboaiaiahaaQw
import Derived.Test.YtgkpcboaiaiahaaMShapeB
namespace Go.Proofs.Ytgkpcboaiaiahaa.C
open Go.RowKit Go.Proofs.YtgkpcboaiaiahaaW.PrintWords Go.Proofs.YtgkpcboaiaiahaaW.PrintLast Go.Proofs.YtgkpcboaiaiahaaW.PrintMore Go.Proofs.Ytgkpcboaiaiahaa.Q Go.Proofs.Ytgkpcboaiaiahaa.M
set_option linter.unusedVariables false
set_option linter.unusedSimpArgs false
set_option maxHeartbeats 4000000 in
set_option maxRecDepth 100000 in
theorem shape_isWidth.calls (a15 : Int) (r : Bool) (w : World)  (HS : Aside0 (Sep (fps []) w [] w)) (H : Aside0 (shape_isWidth.f a15 = some r)) :
    Calls Try.prog 73 #[.int .i64 a15] w fun e w' => e = .returned (.bool r) ∧ Sep (fps []) w [] w' := by
  unfold shape_isWidth.f at H
  go_enter Try.func73, Try.ntmps73
  by_cases c16 : a15 ≥ 16
  · have H := if_yes c16 H
    have c16b0 : decide (16 ≤ a15) = true := decide_eq_true c16
    clear c16
    go_wp2_with fail
    go_ret
    rw [← some_eq H]
    exact ⟨(by first | rfl | (simp [IntKind.wrap_u32]; done)), (HS.out).keep (l := []) (rest := [])⟩
  · have H := if_no c16 H
    have c16b0 : decide (16 ≤ a15) = false := decide_eq_false c16
    clear c16
    go_wp2_with fail
    go_ret
    rw [← some_eq H]
    exact ⟨(by first | rfl | (simp [IntKind.wrap_u32]; done)), (HS.out).keep (l := []) (rest := [])⟩

set_option maxHeartbeats 4000000 in
set_option maxRecDepth 100000 in
theorem shape_inHead.calls (a22 : Int) (r : Int) (w : World)  (HS : Aside0 (Sep (fps []) w [] w)) (H : Aside0 (shape_inHead.f a22 = some r)) :
    Calls Try.prog 75 #[.int .i64 a22] w fun e w' => e = .returned (.int .i64 r) ∧ Sep (fps []) w [] w' := by
  unfold shape_inHead.f at H
  go_enter Try.func75, Try.ntmps75
  go_wp2_with fail
  go_ret
  rw [← some_eq H]
  exact ⟨(by first | rfl | (simp [IntKind.wrap_u32]; done)), (HS.out).keep (l := []) (rest := [])⟩

set_option maxHeartbeats 4000000 in
set_option maxRecDepth 100000 in
theorem shape_inLeaf.calls (a26 : Int) (r : Int) (w : World)  (HS : Aside0 (Sep (fps []) w [] w)) (H : Aside0 (shape_inLeaf.f a26 = some r)) :
    Calls Try.prog 76 #[.int .i64 a26] w fun e w' => e = .returned (.int .i64 r) ∧ Sep (fps []) w [] w' := by
  unfold shape_inLeaf.f at H
  go_enter Try.func76, Try.ntmps76
  go_wp2_with fail
  go_ret
  rw [← some_eq H]
  exact ⟨(by first | rfl | (simp [IntKind.wrap_u32]; done)), (HS.out).keep (l := []) (rest := [])⟩

set_option maxHeartbeats 4000000 in
set_option maxRecDepth 100000 in
theorem shape_most.calls (a21 : Int) (r : Int) (w : World)  (HS : Aside0 (Sep (fps []) w [] w)) (H : Aside0 (shape_most.f a21 = some r)) :
    Calls Try.prog 74 #[.int .i64 a21] w fun e w' => e = .returned (.int .i64 r) ∧ Sep (fps []) w [] w' := by
  unfold shape_most.f at H
  go_enter Try.func74, Try.ntmps74
  go_wp2_with fail
  obtain ⟨t23, HA24, H⟩ := bind_some H
  refine (shape_inHead.calls a21 t23 _ ⟨HS.out.begin (l := []) (rest := [])⟩ HA24).mono ?_
  rintro e_ w25 ⟨rfl, hS⟩
  have HS_ : Aside0 (Sep (fps []) w [] w25) := ⟨HS.out.call (l := []) (rest := []) hS⟩
  clear HS hS
  have HS := HS_
  clear HS_
  go_wp2_with fail
  obtain ⟨t27, HA28, H⟩ := bind_some H
  refine (shape_inLeaf.calls a21 t27 _ ⟨HS.out.begin (l := []) (rest := [])⟩ HA28).mono ?_
  rintro e_ w29 ⟨rfl, hS⟩
  have HS_ : Aside0 (Sep (fps []) w [] w29) := ⟨HS.out.call (l := []) (rest := []) hS⟩
  clear HS hS
  have HS := HS_
  clear HS_
  go_wp2_with fail
  go_ret
  rw [← some_eq H]
  exact ⟨(by first | rfl | (simp [IntKind.wrap_u32]; done)), (HS.out).keep (l := []) (rest := [])⟩

set_option maxHeartbeats 4000000 in
set_option maxRecDepth 100000 in
theorem shape_wrong.calls (k : Nat) (a10 : Int) (l11 : List Int) (A12 : Option Addr) (n13 : Nat) (r : Int) (w : World) (HR14 : Aside0 (Kd.C (Kd.int .i64) w A12 l11.length l11)) (HS : Aside0 (Sep (fps []) w [] w)) (H : Aside0 (shape_wrong.f k a10 l11 = some r)) :
    Calls Try.prog 56 #[.int .i64 a10, .slice A12 l11.length n13] w fun e w' => e = .returned (.int .i64 r) ∧ Sep (fps []) w [] w' := by
  unfold shape_wrong.f at H
  go_enter Try.func56, Try.ntmps56
  go_wp2_with fail
  obtain ⟨t17, HA18, H⟩ := bind_some H
  refine (shape_isWidth.calls a10 t17 _ ⟨HS.out.begin (l := []) (rest := [])⟩ HA18).mono ?_
  rintro e_ w19 ⟨rfl, hS⟩
  have HS_ : Aside0 (Sep (fps []) w [] w19) := ⟨HS.out.call (l := []) (rest := []) hS⟩
  clear HS hS
  have HS := HS_
  clear HS_
  by_cases c20 : t17 = true
  · have H := if_yes c20 H
    have c20b0 : t17 = true := c20
    clear c20
    go_wp2_with fail
    obtain ⟨t30, HA31, H⟩ := bind_some H
    refine (shape_most.calls a10 t30 _ ⟨HS.out.begin (l := []) (rest := [])⟩ HA31).mono ?_
    rintro e_ w32 ⟨rfl, hS⟩
    have HS_ : Aside0 (Sep (fps []) w [] w32) := ⟨HS.out.call (l := []) (rest := []) hS⟩
    clear HS hS
    have HS := HS_
    clear HS_
    go_wp2_with fail
    obtain ⟨o45, AL46, H⟩ := bind_some H
    go_loopg [5, 15] k (fun kq v5 v15 wc => ∃ (x49 : Int) (x50 : Int), v5 = .int .i64 x49 ∧ v15 = .int .i64 x50 ∧ Aside0 (shape_wrong.lo0 kq l11 x49 x50 = some o45) ∧ Aside0 (Sep (fps []) w [] wc))
    case atStart => exact ⟨(t30), (0), (by first | rfl | (simp [IntKind.wrap_u32]; done)), (by first | rfl | (simp [IntKind.wrap_u32]; done)), AL46, ⟨HS.out⟩⟩
    case round =>
      clear AL46 HS
      obtain ⟨x49, x50, rfl, rfl, AL46, HS⟩ := hrel
      obtain ⟨w47, rfl⟩ : ∃ x : World, x = wr := ⟨_, rfl⟩
      cases gk with
      | zero => exact absurd AL46.out (by simp [shape_wrong.lo0])
      | succ k48 =>
        have AL0 := AL46.out
        rw [shape_wrong.lo0] at AL0
        clear AL46
        have AL46 := Aside0.mk AL0
        clear AL0
        by_cases c51 : x50 < (l11.length : Int)
        · have AL46 := if_yes c51 AL46
          have c51b0 : decide (x50 < (l11.length : Int)) = true := decide_eq_true c51
          clear c51
          by_cases c52 : 0 ≤ x50
          · have AL46 := if_yes c52 AL46
            have c52b0 : decide (0 ≤ x50) = true := decide_eq_true c52
            have c52p : (0 ≤ x50) = True := eq_true c52
            clear c52
            have ip53 : (x50 < (l11.length : Int)) = True := eq_true (of_decide_eq_true c51b0)
            by_cases c55 : (rd l11 x50) < 0
            · have AL46 := if_yes c55 AL46
              have c55b0 : decide ((rd l11 x50) < 0) = true := decide_eq_true c55
              clear c55
              obtain ⟨hx54a, hx54e, hx54⟩ := Kd.at_int (Kd.C_below HR14.out HS.out.fr.below) x50 (of_decide_eq_true c52b0) (of_decide_eq_true c51b0); cases hx54e
              go_wp2_with fail
              clear hx54
              have ho := some_eq AL46
              subst ho
              have H := lp_ret H
              go_ret
              rw [← some_eq H]
              exact ⟨(by first | rfl | (simp [IntKind.wrap_u32]; done)), (HS.out).keep (l := []) (rest := [])⟩
            · have AL46 := if_no c55 AL46
              have c55b0 : decide ((rd l11 x50) < 0) = false := decide_eq_false c55
              clear c55
              by_cases c56 : (rd l11 x50) > x49
              · have AL46 := if_yes c56 AL46
                have c56b0 : decide (x49 < (rd l11 x50)) = true := decide_eq_true c56
                clear c56
                obtain ⟨hx54a, hx54e, hx54⟩ := Kd.at_int (Kd.C_below HR14.out HS.out.fr.below) x50 (of_decide_eq_true c52b0) (of_decide_eq_true c51b0); cases hx54e
                go_wp2_with fail
                clear hx54
                have ho := some_eq AL46
                subst ho
                have H := lp_ret H
                go_ret
                rw [← some_eq H]
                exact ⟨(by first | rfl | (simp [IntKind.wrap_u32]; done)), (HS.out).keep (l := []) (rest := [])⟩
              · have AL46 := if_no c56 AL46
                have c56b0 : decide (x49 < (rd l11 x50)) = false := decide_eq_false c56
                clear c56
                obtain ⟨hx54a, hx54e, hx54⟩ := Kd.at_int (Kd.C_below HR14.out HS.out.fr.below) x50 (of_decide_eq_true c52b0) (of_decide_eq_true c51b0); cases hx54e
                go_wp2_with fail
                clear hx54
                go_roundg k48
                case measure => exact Nat.lt_succ_self _
                case rel => exact ⟨(wrap64 (x49 - (rd l11 x50))), (wrap64 (x50 + 1)), (by first | rfl | (simp [IntKind.wrap_u32]; done)), (by first | rfl | (simp [IntKind.wrap_u32]; done)), Aside0.mk AL46.out, ⟨(HS.out).keep (l := []) (rest := [])⟩⟩
          · have AL46 := if_no c52 AL46
            have c52b0 : decide (0 ≤ x50) = false := decide_eq_false c52
            clear c52
            exact (none_no AL46).elim
        · have AL46 := if_no c51 AL46
          have c51b0 : decide (x50 < (l11.length : Int)) = false := decide_eq_false c51
          clear c51
          have ho := some_eq AL46
          subst ho
          clear AL46
          have H := lp_out H
          go_wp2_with fail
          go_ret
          rw [← some_eq H]
          exact ⟨(by first | rfl | (simp [IntKind.wrap_u32]; done)), (HS.out).keep (l := []) (rest := [])⟩
  · have H := if_no c20 H
    have c20b0 : t17 = false := by simpa using c20
    clear c20
    go_wp2_with fail
    go_ret
    rw [← some_eq H]
    exact ⟨(by first | rfl | (simp [IntKind.wrap_u32]; done)), (HS.out).keep (l := []) (rest := [])⟩

set_option maxHeartbeats 4000000 in
set_option maxRecDepth 100000 in
theorem ratio_Clamp.calls (a74 : Int) (a75 : Int) (a76 : Int) (r : Int) (w : World)  (HS : Aside0 (Sep (fps []) w [] w)) (H : Aside0 (ratio_Clamp.f a74 a75 a76 = some r)) :
    Calls Try.prog 17 #[.int .i64 a74, .int .i64 a75, .int .i64 a76] w fun e w' => e = .returned (.int .i64 r) ∧ Sep (fps []) w [] w' := by
  unfold ratio_Clamp.f at H
  go_enter Try.func17, Try.ntmps17
  by_cases c77 : a74 > a76
  · have H := if_yes c77 H
    have c77b0 : decide (a76 < a74) = true := decide_eq_true c77
    clear c77
    go_wp2_with fail
    go_ret
    rw [← some_eq H]
    exact ⟨(by first | rfl | (simp [IntKind.wrap_u32]; done)), (HS.out).keep (l := []) (rest := [])⟩
  · have H := if_no c77 H
    have c77b0 : decide (a76 < a74) = false := decide_eq_false c77
    clear c77
    by_cases c78 : a74 < a75
    · have H := if_yes c78 H
      have c78b0 : decide (a74 < a75) = true := decide_eq_true c78
      skip
      go_wp2_with fail
      clear c78
      go_ret
      rw [← some_eq H]
      exact ⟨(by first | rfl | (simp [IntKind.wrap_u32]; done)), (HS.out).keep (l := []) (rest := [])⟩
    · have H := if_no c78 H
      have c78b0 : decide (a74 < a75) = false := decide_eq_false c78
      skip
      go_wp2_with fail
      clear c78
      go_ret
      rw [← some_eq H]
      exact ⟨(by first | rfl | (simp [IntKind.wrap_u32]; done)), (HS.out).keep (l := []) (rest := [])⟩

set_option maxHeartbeats 4000000 in
set_option maxRecDepth 100000 in
theorem ratio_counts.calls (a73 : Int) (r : Int) (w : World)  (HS : Aside0 (Sep (fps []) w [] w)) (H : Aside0 (ratio_counts.f a73 = some r)) :
    Calls Try.prog 51 #[.int .i64 a73] w fun e w' => e = .returned (.int .i64 r) ∧ Sep (fps []) w [] w' := by
  unfold ratio_counts.f at H
  go_enter Try.func51, Try.ntmps51
  go_wp2_with fail
  obtain ⟨t79, HA80, H⟩ := bind_some H
  refine (ratio_Clamp.calls a73 0 1125899906842624 t79 _ ⟨HS.out.begin (l := []) (rest := [])⟩ HA80).mono ?_
  rintro e_ w81 ⟨rfl, hS⟩
  have HS_ : Aside0 (Sep (fps []) w [] w81) := ⟨HS.out.call (l := []) (rest := []) hS⟩
  clear HS hS
  have HS := HS_
  clear HS_
  go_wp2_with fail
  go_ret
  rw [← some_eq H]
  exact ⟨(by first | rfl | (simp [IntKind.wrap_u32]; done)), (HS.out).keep (l := []) (rest := [])⟩

set_option maxHeartbeats 4000000 in
set_option maxRecDepth 100000 in
theorem ratio_by.calls (a85 : Int) (r : Int) (w : World)  (HS : Aside0 (Sep (fps []) w [] w)) (H : Aside0 (ratio_by.f a85 = some r)) :
    Calls Try.prog 54 #[.int .i64 a85] w fun e w' => e = .returned (.int .i64 r) ∧ Sep (fps []) w [] w' := by
  unfold ratio_by.f at H
  go_enter Try.func54, Try.ntmps54
  go_wp2_with fail
  obtain ⟨t86, HA87, H⟩ := bind_some H
  refine (ratio_counts.calls a85 t86 _ ⟨HS.out.begin (l := []) (rest := [])⟩ HA87).mono ?_
  rintro e_ w88 ⟨rfl, hS⟩
  have HS_ : Aside0 (Sep (fps []) w [] w88) := ⟨HS.out.call (l := []) (rest := []) hS⟩
  clear HS hS
  have HS := HS_
  clear HS_
  by_cases c89 : t86 < 1
  · have H := if_yes c89 H
    have c89b0 : decide (t86 < 1) = true := decide_eq_true c89
    skip
    go_wp2_with fail
    clear c89
    go_ret
    rw [← some_eq H]
    exact ⟨(by first | rfl | (simp [IntKind.wrap_u32]; done)), (HS.out).keep (l := []) (rest := [])⟩
  · have H := if_no c89 H
    have c89b0 : decide (t86 < 1) = false := decide_eq_false c89
    skip
    go_wp2_with fail
    clear c89
    go_ret
    rw [← some_eq H]
    exact ⟨(by first | rfl | (simp [IntKind.wrap_u32]; done)), (HS.out).keep (l := []) (rest := [])⟩

set_option maxHeartbeats 4000000 in
set_option maxRecDepth 100000 in
theorem ratio_Up.calls (a71 : Int) (a72 : Int) (r : Int) (w : World)  (HS : Aside0 (Sep (fps []) w [] w)) (H : Aside0 (ratio_Up.f a71 a72 = some r)) :
    Calls Try.prog 24 #[.int .i64 a71, .int .i64 a72] w fun e w' => e = .returned (.int .i64 r) ∧ Sep (fps []) w [] w' := by
  unfold ratio_Up.f at H
  go_enter Try.func24, Try.ntmps24
  go_wp2_with fail
  obtain ⟨t82, HA83, H⟩ := bind_some H
  refine (ratio_counts.calls a71 t82 _ ⟨HS.out.begin (l := []) (rest := [])⟩ HA83).mono ?_
  rintro e_ w84 ⟨rfl, hS⟩
  have HS_ : Aside0 (Sep (fps []) w [] w84) := ⟨HS.out.call (l := []) (rest := []) hS⟩
  clear HS hS
  have HS := HS_
  clear HS_
  go_wp2_with fail
  obtain ⟨t90, HA91, H⟩ := bind_some H
  refine (ratio_by.calls a72 t90 _ ⟨HS.out.begin (l := []) (rest := [])⟩ HA91).mono ?_
  rintro e_ w92 ⟨rfl, hS⟩
  have HS_ : Aside0 (Sep (fps []) w [] w92) := ⟨HS.out.call (l := []) (rest := []) hS⟩
  clear HS hS
  have HS := HS_
  clear HS_
  go_wp2_with fail
  obtain ⟨t93, HA94, H⟩ := bind_some H
  refine (ratio_by.calls a72 t93 _ ⟨HS.out.begin (l := []) (rest := [])⟩ HA94).mono ?_
  rintro e_ w95 ⟨rfl, hS⟩
  have HS_ : Aside0 (Sep (fps []) w [] w95) := ⟨HS.out.call (l := []) (rest := []) hS⟩
  clear HS hS
  have HS := HS_
  clear HS_
  by_cases c96 : t93 = 0
  · have H := if_yes c96 H
    have c96b0 : (t93 == 0) = true := beq_iff_eq.mpr c96
    have c96b1 : (t93 != 0) = false := bne_eq_false_iff_eq.mpr c96
    exact (none_no H).elim
  · have H := if_no c96 H
    have c96b0 : (t93 == 0) = false := beq_eq_false_iff_ne.mpr c96
    have c96b1 : (t93 != 0) = true := bne_iff_ne.mpr c96
    skip
    go_wp2_with fail
    clear c96
    go_ret
    rw [← some_eq H]
    exact ⟨(by first | rfl | (simp [IntKind.wrap_u32]; done)), (HS.out).keep (l := []) (rest := [])⟩

set_option maxHeartbeats 4000000 in
set_option maxRecDepth 100000 in
theorem shape_leaves.calls (a62 : Int) (a63 : Int) (r : Int) (w : World)  (HS : Aside0 (Sep (fps []) w [] w)) (H : Aside0 (shape_leaves.f a62 a63 = some r)) :
    Calls Try.prog 57 #[.int .i64 a62, .int .i64 a63] w fun e w' => e = .returned (.int .i64 r) ∧ Sep (fps []) w [] w' := by
  unfold shape_leaves.f at H
  go_enter Try.func57, Try.ntmps57
  go_wp2_with fail
  obtain ⟨t64, HA65, H⟩ := bind_some H
  refine (shape_inHead.calls a62 t64 _ ⟨HS.out.begin (l := []) (rest := [])⟩ HA65).mono ?_
  rintro e_ w66 ⟨rfl, hS⟩
  have HS_ : Aside0 (Sep (fps []) w [] w66) := ⟨HS.out.call (l := []) (rest := []) hS⟩
  clear HS hS
  have HS := HS_
  clear HS_
  by_cases c67 : a63 ≤ t64
  · have H := if_yes c67 H
    have c67b0 : decide (a63 ≤ t64) = true := decide_eq_true c67
    clear c67
    go_wp2_with fail
    go_ret
    rw [← some_eq H]
    exact ⟨(by first | rfl | (simp [IntKind.wrap_u32]; done)), (HS.out).keep (l := []) (rest := [])⟩
  · have H := if_no c67 H
    have c67b0 : decide (a63 ≤ t64) = false := decide_eq_false c67
    clear c67
    go_wp2_with fail
    obtain ⟨t68, HA69, H⟩ := bind_some H
    refine (shape_inLeaf.calls a62 t68 _ ⟨HS.out.begin (l := []) (rest := [])⟩ HA69).mono ?_
    rintro e_ w70 ⟨rfl, hS⟩
    have HS_ : Aside0 (Sep (fps []) w [] w70) := ⟨HS.out.call (l := []) (rest := []) hS⟩
    clear HS hS
    have HS := HS_
    clear HS_
    go_wp2_with fail
    obtain ⟨t97, HA98, H⟩ := bind_some H
    refine (ratio_Up.calls a63 t68 t97 _ ⟨HS.out.begin (l := []) (rest := [])⟩ HA98).mono ?_
    rintro e_ w99 ⟨rfl, hS⟩
    have HS_ : Aside0 (Sep (fps []) w [] w99) := ⟨HS.out.call (l := []) (rest := []) hS⟩
    clear HS hS
    have HS := HS_
    clear HS_
    go_wp2_with fail
    go_ret
    rw [← some_eq H]
    exact ⟨(by first | rfl | (simp [IntKind.wrap_u32]; done)), (HS.out).keep (l := []) (rest := [])⟩

set_option maxHeartbeats 4000000 in
set_option maxRecDepth 100000 in
theorem shape_Blocks.calls (k : Nat) (a4 : Int) (a5 : Int) (a6 : Int) (r : Int × Int) (w : World)  (HS : Aside0 (Sep (fps []) w [] w)) (H : Aside0 (shape_Blocks.f k a4 a5 a6 = some r)) :
    Calls Try.prog 29 #[.int .i64 a4, .int .i64 a5, .int .i64 a6] w fun e w' => e = .returned (.tuple #[.int .i64 r.1, .int .i64 r.2]) ∧ Sep (fps []) w [] w' := by
  unfold shape_Blocks.f at H
  go_enter Try.func29, Try.ntmps29
  go_wp2_with (first | ((with_reducible refine gate_dst (N := 12) rfl ?_); refine slice_on (n := 2) ?hg (N := 12) ?hd (cs := #[.int .i64 a5, .int .i64 a6]) (t := 3) ?hr ?_; (case hd => rfl); (case hg => rfl); (case hr => first | (go_simp; done) | (go_simp; rfl)); intro g7 hg w8 hbox hb; have HS_ : Aside0 (Sep (fps []) w [blk g7 #[.int .i64 a5, .int .i64 a6] 3] w8) := ⟨HS.out.box hg hbox hb⟩; clear HS hg hbox hb; have HS := HS_; clear HS_))
  obtain ⟨t58, HA59, H⟩ := bind_some H
  refine (shape_wrong.calls _ a4 [a5, a6] (some ⟨g7, 0, none⟩) 2 t58 _ ⟨C_of_blk (xs := [a5, a6]) (HS.out.at0) (by simp)⟩ ⟨HS.out.begin (l := []) (rest := [blk g7 #[.int .i64 a5, .int .i64 a6] 3])⟩ HA59).mono ?_
  rintro e_ w60 ⟨rfl, hS⟩
  have HS_ : Aside0 (Sep (fps []) w [blk g7 #[.int .i64 a5, .int .i64 a6] 3] w60) := ⟨HS.out.call (l := []) (rest := [blk g7 #[.int .i64 a5, .int .i64 a6] 3]) hS⟩
  clear HS hS
  have HS := HS_
  clear HS_
  by_cases c61 : t58 = 0
  · have H := if_yes c61 H
    have c61b0 : (t58 == 0) = true := beq_iff_eq.mpr c61
    have c61b1 : (t58 != 0) = false := bne_eq_false_iff_eq.mpr c61
    clear c61
    go_wp2_with fail
    obtain ⟨t100, HA101, H⟩ := bind_some H
    refine (shape_leaves.calls a4 (wrap64 (a5 + a6)) t100 _ ⟨HS.out.begin (l := []) (rest := [blk g7 #[.int .i64 a5, .int .i64 a6] 3])⟩ HA101).mono ?_
    rintro e_ w102 ⟨rfl, hS⟩
    have HS_ : Aside0 (Sep (fps []) w [blk g7 #[.int .i64 a5, .int .i64 a6] 3] w102) := ⟨HS.out.call (l := []) (rest := [blk g7 #[.int .i64 a5, .int .i64 a6] 3]) hS⟩
    clear HS hS
    have HS := HS_
    clear HS_
    go_wp2_with fail
    go_ret2
    rw [← some_eq H]
    exact ⟨(by first | rfl | (simp [IntKind.wrap_u32]; done)), (HS.out).keep (l := []) (rest := [blk g7 #[.int .i64 a5, .int .i64 a6] 3])⟩
  · have H := if_no c61 H
    have c61b0 : (t58 == 0) = false := beq_eq_false_iff_ne.mpr c61
    have c61b1 : (t58 != 0) = true := bne_iff_ne.mpr c61
    clear c61
    go_wp2_with fail
    go_ret2
    rw [← some_eq H]
    exact ⟨(by first | rfl | (simp [IntKind.wrap_u32]; done)), (HS.out).keep (l := []) (rest := [blk g7 #[.int .i64 a5, .int .i64 a6] 3])⟩

set_option maxHeartbeats 4000000 in
set_option maxRecDepth 100000 in
theorem quitrentref07_Width.calls (a109 : Int) (r : Bool) (w : World)  (HS : Aside0 (Sep (fps []) w [] w)) (H : Aside0 (quitrentref07_Width.f a109 = some r)) :
    Calls Try.prog 58 #[.int .i64 a109] w fun e w' => e = .returned (.bool r) ∧ Sep (fps []) w [] w' := by
  unfold quitrentref07_Width.f at H
  go_enter Try.func58, Try.ntmps58
  by_cases c110 : a109 ≥ 16
  · have H := if_yes c110 H
    have c110b0 : decide (16 ≤ a109) = true := decide_eq_true c110
    clear c110
    go_wp2_with fail
    go_ret
    rw [← some_eq H]
    exact ⟨(by first | rfl | (simp [IntKind.wrap_u32]; done)), (HS.out).keep (l := []) (rest := [])⟩
  · have H := if_no c110 H
    have c110b0 : decide (16 ≤ a109) = false := decide_eq_false c110
    clear c110
    go_wp2_with fail
    go_ret
    rw [← some_eq H]
    exact ⟨(by first | rfl | (simp [IntKind.wrap_u32]; done)), (HS.out).keep (l := []) (rest := [])⟩

set_option maxHeartbeats 4000000 in
set_option maxRecDepth 100000 in
theorem quitrentref07_Fields.calls (a120 : Int) (r : Int) (w : World)  (HS : Aside0 (Sep (fps []) w [] w)) (H : Aside0 (quitrentref07_Fields.f a120 = some r)) :
    Calls Try.prog 77 #[.int .i64 a120] w fun e w' => e = .returned (.int .i64 r) ∧ Sep (fps []) w [] w' := by
  unfold quitrentref07_Fields.f at H
  go_enter Try.func77, Try.ntmps77
  go_wp2_with fail
  go_ret
  rw [← some_eq H]
  exact ⟨(by first | rfl | (simp [IntKind.wrap_u32]; done)), (HS.out).keep (l := []) (rest := [])⟩

set_option maxHeartbeats 4000000 in
set_option maxRecDepth 100000 in
theorem quitrentref07_Size.calls (a115 : Int) (a116 : Int) (a117 : Int) (r : Bool) (w : World)  (HS : Aside0 (Sep (fps []) w [] w)) (H : Aside0 (quitrentref07_Size.f a115 a116 a117 = some r)) :
    Calls Try.prog 59 #[.int .i64 a115, .int .i64 a116, .int .i64 a117] w fun e w' => e = .returned (.bool r) ∧ Sep (fps []) w [] w' := by
  unfold quitrentref07_Size.f at H
  go_enter Try.func59, Try.ntmps59
  by_cases c118 : a116 ≥ 0
  · have H := if_yes c118 H
    have c118b0 : decide (0 ≤ a116) = true := decide_eq_true c118
    clear c118
    by_cases c119 : a117 ≥ 0
    · have H := if_yes c119 H
      have c119b0 : decide (0 ≤ a117) = true := decide_eq_true c119
      clear c119
      go_wp2_with fail
      obtain ⟨t121, HA122, H⟩ := bind_some H
      refine (quitrentref07_Fields.calls a115 t121 _ ⟨HS.out.begin (l := []) (rest := [])⟩ HA122).mono ?_
      rintro e_ w123 ⟨rfl, hS⟩
      have HS_ : Aside0 (Sep (fps []) w [] w123) := ⟨HS.out.call (l := []) (rest := []) hS⟩
      clear HS hS
      have HS := HS_
      clear HS_
      by_cases c124 : a116 ≤ t121
      · have H := if_yes c124 H
        have c124b0 : decide (a116 ≤ t121) = true := decide_eq_true c124
        clear c124
        go_wp2_with fail
        obtain ⟨t125, HA126, H⟩ := bind_some H
        refine (quitrentref07_Fields.calls a115 t125 _ ⟨HS.out.begin (l := []) (rest := [])⟩ HA126).mono ?_
        rintro e_ w127 ⟨rfl, hS⟩
        have HS_ : Aside0 (Sep (fps []) w [] w127) := ⟨HS.out.call (l := []) (rest := []) hS⟩
        clear HS hS
        have HS := HS_
        clear HS_
        by_cases c128 : a117 ≤ t125
        · have H := if_yes c128 H
          have c128b0 : decide (a117 ≤ t125) = true := decide_eq_true c128
          clear c128
          go_wp2_with fail
          obtain ⟨t129, HA130, H⟩ := bind_some H
          refine (quitrentref07_Fields.calls a115 t129 _ ⟨HS.out.begin (l := []) (rest := [])⟩ HA130).mono ?_
          rintro e_ w131 ⟨rfl, hS⟩
          have HS_ : Aside0 (Sep (fps []) w [] w131) := ⟨HS.out.call (l := []) (rest := []) hS⟩
          clear HS hS
          have HS := HS_
          clear HS_
          go_wp2_with fail
          go_ret
          rw [← some_eq H]
          exact ⟨(by first | rfl | (simp [IntKind.wrap_u32]; done)), (HS.out).keep (l := []) (rest := [])⟩
        · have H := if_no c128 H
          have c128b0 : decide (a117 ≤ t125) = false := decide_eq_false c128
          clear c128
          go_wp2_with fail
          go_ret
          rw [← some_eq H]
          exact ⟨(by first | rfl | (simp [IntKind.wrap_u32]; done)), (HS.out).keep (l := []) (rest := [])⟩
      · have H := if_no c124 H
        have c124b0 : decide (a116 ≤ t121) = false := decide_eq_false c124
        clear c124
        go_wp2_with fail
        go_ret
        rw [← some_eq H]
        exact ⟨(by first | rfl | (simp [IntKind.wrap_u32]; done)), (HS.out).keep (l := []) (rest := [])⟩
    · have H := if_no c119 H
      have c119b0 : decide (0 ≤ a117) = false := decide_eq_false c119
      clear c119
      go_wp2_with fail
      go_ret
      rw [← some_eq H]
      exact ⟨(by first | rfl | (simp [IntKind.wrap_u32]; done)), (HS.out).keep (l := []) (rest := [])⟩
  · have H := if_no c118 H
    have c118b0 : decide (0 ≤ a116) = false := decide_eq_false c118
    clear c118
    go_wp2_with fail
    go_ret
    rw [← some_eq H]
    exact ⟨(by first | rfl | (simp [IntKind.wrap_u32]; done)), (HS.out).keep (l := []) (rest := [])⟩

set_option maxHeartbeats 4000000 in
set_option maxRecDepth 100000 in
theorem quitrentref07_Leaves.calls (k : Nat) (a136 : Int) (a137 : Int) (r : Int) (w : World)  (HS : Aside0 (Sep (fps []) w [] w)) (H : Aside0 (quitrentref07_Leaves.f k a136 a137 = some r)) :
    Calls Try.prog 60 #[.int .i64 a136, .int .i64 a137] w fun e w' => e = .returned (.int .i64 r) ∧ Sep (fps []) w [] w' := by
  unfold quitrentref07_Leaves.f at H
  go_enter Try.func60, Try.ntmps60
  by_cases c138 : a137 ≤ (wrap64 (a136 - 8))
  · have H := if_yes c138 H
    have c138b0 : decide (a137 ≤ (wrap64 (a136 - 8))) = true := decide_eq_true c138
    clear c138
    go_wp2_with fail
    go_ret
    rw [← some_eq H]
    exact ⟨(by first | rfl | (simp [IntKind.wrap_u32]; done)), (HS.out).keep (l := []) (rest := [])⟩
  · have H := if_no c138 H
    have c138b0 : decide (a137 ≤ (wrap64 (a136 - 8))) = false := decide_eq_false c138
    clear c138
    go_wp2_with fail
    obtain ⟨o140, AL141, H⟩ := bind_some H
    go_loopg [5] k (fun kq v5 wc => ∃ (x144 : Int), v5 = .int .i64 x144 ∧ Aside0 (quitrentref07_Leaves.lo0 kq a136 a137 x144 = some o140) ∧ Aside0 (Sep (fps []) w [] wc))
    case atStart => exact ⟨(0), (by first | rfl | (simp [IntKind.wrap_u32]; done)), AL141, ⟨HS.out⟩⟩
    case round =>
      clear AL141 HS
      obtain ⟨x144, rfl, AL141, HS⟩ := hrel
      obtain ⟨w142, rfl⟩ : ∃ x : World, x = wr := ⟨_, rfl⟩
      cases gk with
      | zero => exact absurd AL141.out (by simp [quitrentref07_Leaves.lo0])
      | succ k143 =>
        have AL0 := AL141.out
        rw [quitrentref07_Leaves.lo0] at AL0
        clear AL141
        have AL141 := Aside0.mk AL0
        clear AL0
        by_cases c145 : (wrap64 (x144 * (wrap64 (a136 - 1)))) < a137
        · have AL141 := if_yes c145 AL141
          have c145b0 : decide ((wrap64 (x144 * (wrap64 (a136 - 1)))) < a137) = true := decide_eq_true c145
          clear c145
          go_wp2_with fail
          go_roundg k143
          case measure => exact Nat.lt_succ_self _
          case rel => exact ⟨(wrap64 (x144 + 1)), (by first | rfl | (simp [IntKind.wrap_u32]; done)), Aside0.mk AL141.out, ⟨(HS.out).keep (l := []) (rest := [])⟩⟩
        · have AL141 := if_no c145 AL141
          have c145b0 : decide ((wrap64 (x144 * (wrap64 (a136 - 1)))) < a137) = false := decide_eq_false c145
          clear c145
          have ho := some_eq AL141
          subst ho
          clear AL141
          go_wp2_with fail
          go_ret
          rw [← some_eq H]
          exact ⟨(by first | rfl | (simp [IntKind.wrap_u32]; done)), (HS.out).keep (l := []) (rest := [])⟩

set_option maxHeartbeats 4000000 in
set_option maxRecDepth 100000 in
theorem quitrentref07_Blocks.calls (k : Nat) (a106 : Int) (a107 : Int) (a108 : Int) (r : Int × Int) (w : World)  (HS : Aside0 (Sep (fps []) w [] w)) (H : Aside0 (quitrentref07_Blocks.f k a106 a107 a108 = some r)) :
    Calls Try.prog 30 #[.int .i64 a106, .int .i64 a107, .int .i64 a108] w fun e w' => e = .returned (.tuple #[.int .i64 r.1, .int .i64 r.2]) ∧ Sep (fps []) w [] w' := by
  unfold quitrentref07_Blocks.f at H
  go_enter Try.func30, Try.ntmps30
  go_wp2_with fail
  obtain ⟨t111, HA112, H⟩ := bind_some H
  refine (quitrentref07_Width.calls a106 t111 _ ⟨HS.out.begin (l := []) (rest := [])⟩ HA112).mono ?_
  rintro e_ w113 ⟨rfl, hS⟩
  have HS_ : Aside0 (Sep (fps []) w [] w113) := ⟨HS.out.call (l := []) (rest := []) hS⟩
  clear HS hS
  have HS := HS_
  clear HS_
  by_cases c114 : t111 = true
  · have H := if_yes c114 H
    have c114b0 : t111 = true := c114
    clear c114
    go_wp2_with fail
    obtain ⟨t132, HA133, H⟩ := bind_some H
    refine (quitrentref07_Size.calls a106 a107 a108 t132 _ ⟨HS.out.begin (l := []) (rest := [])⟩ HA133).mono ?_
    rintro e_ w134 ⟨rfl, hS⟩
    have HS_ : Aside0 (Sep (fps []) w [] w134) := ⟨HS.out.call (l := []) (rest := []) hS⟩
    clear HS hS
    have HS := HS_
    clear HS_
    by_cases c135 : t132 = true
    · have H := if_yes c135 H
      have c135b0 : t132 = true := c135
      clear c135
      go_wp2_with fail
      obtain ⟨t147, HA148, H⟩ := bind_some H
      refine (quitrentref07_Leaves.calls _ a106 (wrap64 (a107 + a108)) t147 _ ⟨HS.out.begin (l := []) (rest := [])⟩ HA148).mono ?_
      rintro e_ w149 ⟨rfl, hS⟩
      have HS_ : Aside0 (Sep (fps []) w [] w149) := ⟨HS.out.call (l := []) (rest := []) hS⟩
      clear HS hS
      have HS := HS_
      clear HS_
      go_wp2_with fail
      go_ret2
      rw [← some_eq H]
      exact ⟨(by first | rfl | (simp [IntKind.wrap_u32]; done)), (HS.out).keep (l := []) (rest := [])⟩
    · have H := if_no c135 H
      have c135b0 : t132 = false := by simpa using c135
      clear c135
      go_wp2_with fail
      go_ret2
      rw [← some_eq H]
      exact ⟨(by first | rfl | (simp [IntKind.wrap_u32]; done)), (HS.out).keep (l := []) (rest := [])⟩
  · have H := if_no c114 H
    have c114b0 : t111 = false := by simpa using c114
    clear c114
    go_wp2_with fail
    go_ret2
    rw [← some_eq H]
    exact ⟨(by first | rfl | (simp [IntKind.wrap_u32]; done)), (HS.out).keep (l := []) (rest := [])⟩

set_option maxHeartbeats 4000000 in
set_option maxRecDepth 100000 in
theorem shape_Place.calls (k : Nat) (a162 : Int) (a163 : Int) (a164 : Int) (r : Int × Int × Int) (w : World)  (HS : Aside0 (Sep (fps []) w [] w)) (H : Aside0 (shape_Place.f k a162 a163 a164 = some r)) :
    Calls Try.prog 61 #[.int .i64 a162, .int .i64 a163, .int .i64 a164] w fun e w' => e = .returned (.tuple #[.int .i64 r.1, .int .i64 r.2.1, .int .i64 r.2.2]) ∧ Sep (fps []) w [] w' := by
  unfold shape_Place.f at H
  go_enter Try.func61, Try.ntmps61
  go_wp2_with (first | ((with_reducible refine gate_dst (N := 12) rfl ?_); refine slice_on (n := 1) ?hg (N := 12) ?hd (cs := #[.int .i64 a163]) (t := 3) ?hr ?_; (case hd => rfl); (case hg => rfl); (case hr => first | (go_simp; done) | (go_simp; rfl)); intro g165 hg w166 hbox hb; have HS_ : Aside0 (Sep (fps []) w [blk g165 #[.int .i64 a163] 3] w166) := ⟨HS.out.box hg hbox hb⟩; clear HS hg hbox hb; have HS := HS_; clear HS_))
  obtain ⟨t168, HA169, H⟩ := bind_some H
  refine (shape_wrong.calls _ a162 [a163] (some ⟨g165, 0, none⟩) 1 t168 _ ⟨C_of_blk (xs := [a163]) (HS.out.at0) (by simp)⟩ ⟨HS.out.begin (l := []) (rest := [blk g165 #[.int .i64 a163] 3])⟩ HA169).mono ?_
  rintro e_ w170 ⟨rfl, hS⟩
  have HS_ : Aside0 (Sep (fps []) w [blk g165 #[.int .i64 a163] 3] w170) := ⟨HS.out.call (l := []) (rest := [blk g165 #[.int .i64 a163] 3]) hS⟩
  clear HS hS
  have HS := HS_
  clear HS_
  by_cases c171 : t168 = 0
  · have H := if_yes c171 H
    have c171b0 : (t168 == 0) = true := beq_iff_eq.mpr c171
    have c171b1 : (t168 != 0) = false := bne_eq_false_iff_eq.mpr c171
    clear c171
    by_cases c172 : a164 < 0
    · have H := if_yes c172 H
      have c172b0 : decide (a164 < 0) = true := decide_eq_true c172
      clear c172
      go_wp2_with fail
      go_ret3
      rw [← some_eq H]
      exact ⟨(by first | rfl | (simp [IntKind.wrap_u32]; done)), (HS.out).keep (l := []) (rest := [blk g165 #[.int .i64 a163] 3])⟩
    · have H := if_no c172 H
      have c172b0 : decide (a164 < 0) = false := decide_eq_false c172
      clear c172
      by_cases c173 : a164 ≥ a163
      · have H := if_yes c173 H
        have c173b0 : decide (a163 ≤ a164) = true := decide_eq_true c173
        clear c173
        go_wp2_with fail
        go_ret3
        rw [← some_eq H]
        exact ⟨(by first | rfl | (simp [IntKind.wrap_u32]; done)), (HS.out).keep (l := []) (rest := [blk g165 #[.int .i64 a163] 3])⟩
      · have H := if_no c173 H
        have c173b0 : decide (a163 ≤ a164) = false := decide_eq_false c173
        clear c173
        go_wp2_with fail
        obtain ⟨t174, HA175, H⟩ := bind_some H
        refine (shape_leaves.calls a162 a163 t174 _ ⟨HS.out.begin (l := []) (rest := [blk g165 #[.int .i64 a163] 3])⟩ HA175).mono ?_
        rintro e_ w176 ⟨rfl, hS⟩
        have HS_ : Aside0 (Sep (fps []) w [blk g165 #[.int .i64 a163] 3] w176) := ⟨HS.out.call (l := []) (rest := [blk g165 #[.int .i64 a163] 3]) hS⟩
        clear HS hS
        have HS := HS_
        clear HS_
        by_cases c177 : t174 = 0
        · have H := if_yes c177 H
          have c177b0 : (t174 == 0) = true := beq_iff_eq.mpr c177
          have c177b1 : (t174 != 0) = false := bne_eq_false_iff_eq.mpr c177
          clear c177
          go_wp2_with fail
          go_ret3
          rw [← some_eq H]
          exact ⟨(by first | rfl | (simp [IntKind.wrap_u32]; done)), (HS.out).keep (l := []) (rest := [blk g165 #[.int .i64 a163] 3])⟩
        · have H := if_no c177 H
          have c177b0 : (t174 == 0) = false := beq_eq_false_iff_ne.mpr c177
          have c177b1 : (t174 != 0) = true := bne_iff_ne.mpr c177
          clear c177
          go_wp2_with fail
          refine start_ (n := 12) (S := (fun _ => True)) (ds := []) #[false, false, false, false, false, false, false, false, false, false, false, false] (by kernel_rfl) rfl rfl (trivial) (fun hHeld => ?_)
          have HS_ := Aside0.mk HS.out.drew
          clear HS
          generalize World.drew _ = w179 at HS_ hHeld ⊢
          have HS := HS_
          clear HS_
          refine pure_ (i := 0) (N := some 32) (v := ?_) (a' := ?_) #[true, false, false, false, false, false, false, false, false, false, false, false] rfl rfl (by kernel_rfl) (fun _ _ _ h => h) (Or.inl ⟨by rfl, ?_⟩) ?_ ?_
          rotate_left
          · intro w'
            go_simp
            with_reducible rfl
          rotate_left
          · simp only [Act.put, List.setIfInBounds_toArray, List.set_cons_zero, List.set_cons_succ, i64_w, i32_w]
            rfl
          refine pure_ (i := 1) (N := some 33) (v := ?_) (a' := ?_) #[true, true, false, false, false, false, false, false, false, false, false, false] rfl rfl (by kernel_rfl) (fun _ _ _ h => h) (Or.inl ⟨by rfl, ?_⟩) ?_ ?_
          rotate_left
          · intro w'
            go_simp
            with_reducible rfl
          rotate_left
          · simp only [Act.put, List.setIfInBounds_toArray, List.set_cons_zero, List.set_cons_succ, i64_w, i32_w]
            rfl
          refine pure_ (i := 4) (N := some 36) (v := ?_) (a' := ?_) #[true, true, false, false, true, false, false, false, false, false, false, false] rfl rfl (by kernel_rfl) (fun _ _ _ h => h) (Or.inl ⟨by rfl, ?_⟩) ?_ ?_
          rotate_left
          · intro w'
            go_simp
            with_reducible rfl
          rotate_left
          · simp only [Act.put, List.setIfInBounds_toArray, List.set_cons_zero, List.set_cons_succ, i64_w, i32_w]
            rfl
          refine pure_ (i := 5) (N := some 37) (v := ?_) (a' := ?_) #[true, true, false, false, true, true, false, false, false, false, false, false] rfl rfl (by kernel_rfl) (fun _ _ _ h => h) (Or.inl ⟨by rfl, ?_⟩) ?_ ?_
          rotate_left
          · intro w'
            go_simp
            with_reducible rfl
          rotate_left
          · simp only [Act.put, List.setIfInBounds_toArray, List.set_cons_zero, List.set_cons_succ, i64_w, i32_w]
            rfl
          refine one_ (i := 2) (N := some 34) #[true, true, true, false, true, true, false, false, false, false, false, false] rfl rfl (by kernel_rfl) (by decide) (fun K hK => ?_)
          obtain ⟨t180, HA181, H⟩ := bind_some H
          refine goes_ Try.func76 (by kernel_rfl) rfl #[.int .i64 a162] (by rfl) rfl rfl (by (try simp only [List.map_toArray, List.map_cons, List.map_nil]); first | done | rfl) ?_
          refine (shape_inLeaf.calls a162 t180 _ ⟨HS.out.begin (l := []) (rest := [blk g165 #[.int .i64 a163] 3])⟩ HA181).mono ?_
          rintro e_ w182 ⟨rfl, hS⟩
          have HS_ : Aside0 (Sep (fps []) w [blk g165 #[.int .i64 a163] 3] w182) := ⟨HS.out.call (l := []) (rest := [blk g165 #[.int .i64 a163] 3]) hS⟩
          clear HS hS
          have HS := HS_
          clear HS_
          refine ⟨_, rfl, ?_⟩
          refine hK.out _ _ (trivial) (fun hHeld => ?_)
          clear hK K
          refine norm_ (a' := ?_) ?_ ?_
          rotate_left
          · show Act.put _ (some 34) _ = _
            simp only [Act.put, List.setIfInBounds_toArray, List.set_cons_zero, List.set_cons_succ, i64_w, i32_w]
            rfl
          by_cases c183 : t180 = 0
          · have H := if_yes c183 H
            have c183b0 : (t180 == 0) = true := beq_iff_eq.mpr c183
            have c183b1 : (t180 != 0) = false := bne_eq_false_iff_eq.mpr c183
            exact (none_no H).elim
          · have H := if_no c183 H
            have c183b0 : (t180 == 0) = false := beq_eq_false_iff_ne.mpr c183
            have c183b1 : (t180 != 0) = true := bne_iff_ne.mpr c183
            refine pure_ (i := 3) (N := some 35) (v := ?_) (a' := ?_) #[true, true, true, true, true, true, false, false, false, false, false, false] rfl rfl (by kernel_rfl) (fun _ _ _ h => h) (Or.inl ⟨by rfl, ?_⟩) ?_ ?_
            rotate_left
            · intro w'
              go_simp
              with_reducible rfl
            rotate_left
            · simp only [Act.put, List.setIfInBounds_toArray, List.set_cons_zero, List.set_cons_succ, i64_w, i32_w]
              rfl
            refine one_ (i := 6) (N := some 38) #[true, true, true, true, true, true, true, false, false, false, false, false] rfl rfl (by kernel_rfl) (by decide) (fun K hK => ?_)
            obtain ⟨t184, HA185, H⟩ := bind_some H
            refine goes_ Try.func76 (by kernel_rfl) rfl #[.int .i64 a162] (by rfl) rfl rfl (by (try simp only [List.map_toArray, List.map_cons, List.map_nil]); first | done | rfl) ?_
            refine (shape_inLeaf.calls a162 t184 _ ⟨HS.out.begin (l := []) (rest := [blk g165 #[.int .i64 a163] 3])⟩ HA185).mono ?_
            rintro e_ w186 ⟨rfl, hS⟩
            have HS_ : Aside0 (Sep (fps []) w [blk g165 #[.int .i64 a163] 3] w186) := ⟨HS.out.call (l := []) (rest := [blk g165 #[.int .i64 a163] 3]) hS⟩
            clear HS hS
            have HS := HS_
            clear HS_
            refine ⟨_, rfl, ?_⟩
            refine hK.out _ _ (trivial) (fun hHeld => ?_)
            clear hK K
            refine norm_ (a' := ?_) ?_ ?_
            rotate_left
            · show Act.put _ (some 38) _ = _
              simp only [Act.put, List.setIfInBounds_toArray, List.set_cons_zero, List.set_cons_succ, i64_w, i32_w]
              rfl
            by_cases c187 : t184 = 0
            · have H := if_yes c187 H
              have c187b0 : (t184 == 0) = true := beq_iff_eq.mpr c187
              have c187b1 : (t184 != 0) = false := bne_eq_false_iff_eq.mpr c187
              exact (none_no H).elim
            · have H := if_no c187 H
              have c187b0 : (t184 == 0) = false := beq_eq_false_iff_ne.mpr c187
              have c187b1 : (t184 != 0) = true := bne_iff_ne.mpr c187
              refine pure_ (i := 7) (N := some 39) (v := ?_) (a' := ?_) #[true, true, true, true, true, true, true, true, false, false, false, false] rfl rfl (by kernel_rfl) (fun _ _ _ h => h) (Or.inl ⟨by rfl, ?_⟩) ?_ ?_
              rotate_left
              · intro w'
                go_simp
                with_reducible rfl
              rotate_left
              · simp only [Act.put, List.setIfInBounds_toArray, List.set_cons_zero, List.set_cons_succ, i64_w, i32_w]
                rfl
              refine pure_ (i := 8) (N := some 40) (v := ?_) (a' := ?_) #[true, true, true, true, true, true, true, true, true, false, false, false] rfl rfl (by kernel_rfl) (fun _ _ _ h => h) (Or.inl ⟨by rfl, ?_⟩) ?_ ?_
              rotate_left
              · intro w'
                go_simp
                with_reducible rfl
              rotate_left
              · simp only [Act.put, List.setIfInBounds_toArray, List.set_cons_zero, List.set_cons_succ, i64_w, i32_w]
                rfl
              refine pure_ (i := 9) (N := some 6) (v := ?_) (a' := ?_) #[true, true, true, true, true, true, true, true, true, true, false, false] rfl rfl (by kernel_rfl) (fun _ _ _ h => h) (Or.inl ⟨by rfl, ?_⟩) ?_ ?_
              rotate_left
              · intro w'
                go_simp
                with_reducible rfl
              rotate_left
              · simp only [Act.put, List.setIfInBounds_toArray, List.set_cons_zero, List.set_cons_succ, i64_w, i32_w]
                rfl
              refine pure_ (i := 10) (N := some 7) (v := ?_) (a' := ?_) #[true, true, true, true, true, true, true, true, true, true, true, false] rfl rfl (by kernel_rfl) (fun _ _ _ h => h) (Or.inl ⟨by rfl, ?_⟩) ?_ ?_
              rotate_left
              · intro w'
                go_simp
                with_reducible rfl
              rotate_left
              · simp only [Act.put, List.setIfInBounds_toArray, List.set_cons_zero, List.set_cons_succ, i64_w, i32_w]
                rfl
              refine pure_ (i := 11) (N := some 8) (v := ?_) (a' := ?_) #[true, true, true, true, true, true, true, true, true, true, true, true] rfl rfl (by kernel_rfl) (fun _ _ _ h => h) (Or.inl ⟨by rfl, ?_⟩) ?_ ?_
              rotate_left
              · intro w'
                go_simp
                with_reducible rfl
              rotate_left
              · simp only [Act.put, List.setIfInBounds_toArray, List.set_cons_zero, List.set_cons_succ, i64_w, i32_w]
                rfl
              refine done_ (by kernel_rfl) ?_
              skip
              skip
              go_wp2_with fail
              clear c183 c187
              go_ret3
              rw [← some_eq H]
              exact ⟨(by first | rfl | (simp [IntKind.wrap_u32]; done)), (HS.out).keep (l := []) (rest := [blk g165 #[.int .i64 a163] 3])⟩
  · have H := if_no c171 H
    have c171b0 : (t168 == 0) = false := beq_eq_false_iff_ne.mpr c171
    have c171b1 : (t168 != 0) = true := bne_iff_ne.mpr c171
    clear c171
    go_wp2_with fail
    go_ret3
    rw [← some_eq H]
    exact ⟨(by first | rfl | (simp [IntKind.wrap_u32]; done)), (HS.out).keep (l := []) (rest := [blk g165 #[.int .i64 a163] 3])⟩

set_option maxHeartbeats 4000000 in
set_option maxRecDepth 100000 in
theorem shape_Largest.calls (a198 : Int) (a199 : Int) (r : Int) (w : World)  (HS : Aside0 (Sep (fps []) w [] w)) (H : Aside0 (shape_Largest.f a198 a199 = some r)) :
    Calls Try.prog 62 #[.int .i64 a198, .int .i64 a199] w fun e w' => e = .returned (.int .i64 r) ∧ Sep (fps []) w [] w' := by
  unfold shape_Largest.f at H
  go_enter Try.func62, Try.ntmps62
  go_wp2_with fail
  obtain ⟨t200, HA201, H⟩ := bind_some H
  refine (shape_isWidth.calls a198 t200 _ ⟨HS.out.begin (l := []) (rest := [])⟩ HA201).mono ?_
  rintro e_ w202 ⟨rfl, hS⟩
  have HS_ : Aside0 (Sep (fps []) w [] w202) := ⟨HS.out.call (l := []) (rest := []) hS⟩
  clear HS hS
  have HS := HS_
  clear HS_
  by_cases c203 : t200 = true
  · have H := if_yes c203 H
    have c203b0 : t200 = true := c203
    clear c203
    by_cases c204 : a199 < 1
    · have H := if_yes c204 H
      have c204b0 : decide (a199 < 1) = true := decide_eq_true c204
      clear c204
      go_wp2_with fail
      go_ret
      rw [← some_eq H]
      exact ⟨(by first | rfl | (simp [IntKind.wrap_u32]; done)), (HS.out).keep (l := []) (rest := [])⟩
    · have H := if_no c204 H
      have c204b0 : decide (a199 < 1) = false := decide_eq_false c204
      clear c204
      go_wp2_with fail
      obtain ⟨t205, HA206, H⟩ := bind_some H
      refine (shape_inHead.calls a198 t205 _ ⟨HS.out.begin (l := []) (rest := [])⟩ HA206).mono ?_
      rintro e_ w207 ⟨rfl, hS⟩
      have HS_ : Aside0 (Sep (fps []) w [] w207) := ⟨HS.out.call (l := []) (rest := []) hS⟩
      clear HS hS
      have HS := HS_
      clear HS_
      by_cases c208 : a199 > (wrap64 (t205 + 1))
      · have H := if_yes c208 H
        have c208b0 : decide ((wrap64 (t205 + 1)) < a199) = true := decide_eq_true c208
        clear c208
        go_wp2_with fail
        go_ret
        rw [← some_eq H]
        exact ⟨(by first | rfl | (simp [IntKind.wrap_u32]; done)), (HS.out).keep (l := []) (rest := [])⟩
      · have H := if_no c208 H
        have c208b0 : decide ((wrap64 (t205 + 1)) < a199) = false := decide_eq_false c208
        clear c208
        by_cases c209 : a199 = 1
        · have H := if_yes c209 H
          have c209b0 : (a199 == 1) = true := beq_iff_eq.mpr c209
          have c209b1 : (a199 != 1) = false := bne_eq_false_iff_eq.mpr c209
          clear c209
          go_wp2_with fail
          obtain ⟨t210, HA211, H⟩ := bind_some H
          refine (shape_inHead.calls a198 t210 _ ⟨HS.out.begin (l := []) (rest := [])⟩ HA211).mono ?_
          rintro e_ w212 ⟨rfl, hS⟩
          have HS_ : Aside0 (Sep (fps []) w [] w212) := ⟨HS.out.call (l := []) (rest := []) hS⟩
          clear HS hS
          have HS := HS_
          clear HS_
          go_wp2_with fail
          go_ret
          rw [← some_eq H]
          exact ⟨(by first | rfl | (simp [IntKind.wrap_u32]; done)), (HS.out).keep (l := []) (rest := [])⟩
        · have H := if_no c209 H
          have c209b0 : (a199 == 1) = false := beq_eq_false_iff_ne.mpr c209
          have c209b1 : (a199 != 1) = true := bne_iff_ne.mpr c209
          clear c209
          go_wp2_with fail
          obtain ⟨t213, HA214, H⟩ := bind_some H
          refine (shape_inLeaf.calls a198 t213 _ ⟨HS.out.begin (l := []) (rest := [])⟩ HA214).mono ?_
          rintro e_ w215 ⟨rfl, hS⟩
          have HS_ : Aside0 (Sep (fps []) w [] w215) := ⟨HS.out.call (l := []) (rest := []) hS⟩
          clear HS hS
          have HS := HS_
          clear HS_
          go_wp2_with fail
          go_ret
          rw [← some_eq H]
          exact ⟨(by first | rfl | (simp [IntKind.wrap_u32]; done)), (HS.out).keep (l := []) (rest := [])⟩
  · have H := if_no c203 H
    have c203b0 : t200 = false := by simpa using c203
    clear c203
    go_wp2_with fail
    go_ret
    rw [← some_eq H]
    exact ⟨(by first | rfl | (simp [IntKind.wrap_u32]; done)), (HS.out).keep (l := []) (rest := [])⟩

set_option maxHeartbeats 4000000 in
set_option maxRecDepth 100000 in
theorem quitrentlaw07_begun.calls (k : Nat)  (r : Bool) (w : World)  (HS : Aside0 (Sep (fps []) w [] w)) (H : Aside0 (quitrentlaw07_begun.f k = some r)) :
    Calls Try.prog 31 #[] w fun e w' => e = .returned (.bool r) ∧ Sep (fps []) w [] w' := by
  unfold quitrentlaw07_begun.f at H
  go_enter Try.func31, Try.ntmps31
  go_wp2_with fail
  obtain ⟨t153, HA154, H⟩ := bind_some H
  refine (shape_Blocks.calls _ 16 4 4 t153 _ ⟨HS.out.begin (l := []) (rest := [])⟩ HA154).mono ?_
  rintro e_ w155 ⟨rfl, hS⟩
  have HS_ : Aside0 (Sep (fps []) w [] w155) := ⟨HS.out.call (l := []) (rest := []) hS⟩
  clear HS hS
  have HS := HS_
  clear HS_
  go_wp2_with fail
  obtain ⟨t156, HA157, H⟩ := bind_some H
  refine (shape_Blocks.calls _ 16 9 0 t156 _ ⟨HS.out.begin (l := []) (rest := [])⟩ HA157).mono ?_
  rintro e_ w158 ⟨rfl, hS⟩
  have HS_ : Aside0 (Sep (fps []) w [] w158) := ⟨HS.out.call (l := []) (rest := []) hS⟩
  clear HS hS
  have HS := HS_
  clear HS_
  go_wp2_with fail
  obtain ⟨t159, HA160, H⟩ := bind_some H
  refine (shape_Blocks.calls _ 16 8 8 t159 _ ⟨HS.out.begin (l := []) (rest := [])⟩ HA160).mono ?_
  rintro e_ w161 ⟨rfl, hS⟩
  have HS_ : Aside0 (Sep (fps []) w [] w161) := ⟨HS.out.call (l := []) (rest := []) hS⟩
  clear HS hS
  have HS := HS_
  clear HS_
  go_wp2_with fail
  obtain ⟨t188, HA189, H⟩ := bind_some H
  refine (shape_Place.calls _ 16 16 15 t188 _ ⟨HS.out.begin (l := []) (rest := [])⟩ HA189).mono ?_
  rintro e_ w190 ⟨rfl, hS⟩
  have HS_ : Aside0 (Sep (fps []) w [] w190) := ⟨HS.out.call (l := []) (rest := []) hS⟩
  clear HS hS
  have HS := HS_
  clear HS_
  by_cases c191 : t153.1 = 1
  · have H := if_yes c191 H
    have c191b0 : (t153.1 == 1) = true := beq_iff_eq.mpr c191
    have c191b1 : (t153.1 != 1) = false := bne_eq_false_iff_eq.mpr c191
    clear c191
    by_cases c192 : t156.1 = 2
    · have H := if_yes c192 H
      have c192b0 : (t156.1 == 2) = true := beq_iff_eq.mpr c192
      have c192b1 : (t156.1 != 2) = false := bne_eq_false_iff_eq.mpr c192
      clear c192
      by_cases c193 : t159.1 = 3
      · have H := if_yes c193 H
        have c193b0 : (t159.1 == 3) = true := beq_iff_eq.mpr c193
        have c193b1 : (t159.1 != 3) = false := bne_eq_false_iff_eq.mpr c193
        clear c193
        by_cases c194 : t159.2 = 0
        · have H := if_yes c194 H
          have c194b0 : (t159.2 == 0) = true := beq_iff_eq.mpr c194
          have c194b1 : (t159.2 != 0) = false := bne_eq_false_iff_eq.mpr c194
          clear c194
          by_cases c195 : t188.1 = 1
          · have H := if_yes c195 H
            have c195b0 : (t188.1 == 1) = true := beq_iff_eq.mpr c195
            have c195b1 : (t188.1 != 1) = false := bne_eq_false_iff_eq.mpr c195
            clear c195
            by_cases c196 : t188.2.1 = 1
            · have H := if_yes c196 H
              have c196b0 : (t188.2.1 == 1) = true := beq_iff_eq.mpr c196
              have c196b1 : (t188.2.1 != 1) = false := bne_eq_false_iff_eq.mpr c196
              clear c196
              by_cases c197 : t188.2.2 = 0
              · have H := if_yes c197 H
                have c197b0 : (t188.2.2 == 0) = true := beq_iff_eq.mpr c197
                have c197b1 : (t188.2.2 != 0) = false := bne_eq_false_iff_eq.mpr c197
                clear c197
                go_wp2_with fail
                obtain ⟨t216, HA217, H⟩ := bind_some H
                refine (shape_Largest.calls 16 2 t216 _ ⟨HS.out.begin (l := []) (rest := [])⟩ HA217).mono ?_
                rintro e_ w218 ⟨rfl, hS⟩
                have HS_ : Aside0 (Sep (fps []) w [] w218) := ⟨HS.out.call (l := []) (rest := []) hS⟩
                clear HS hS
                have HS := HS_
                clear HS_
                go_wp2_with fail
                go_ret
                rw [← some_eq H]
                exact ⟨(by first | rfl | (simp [IntKind.wrap_u32]; done)), (HS.out).keep (l := []) (rest := [])⟩
              · have H := if_no c197 H
                have c197b0 : (t188.2.2 == 0) = false := beq_eq_false_iff_ne.mpr c197
                have c197b1 : (t188.2.2 != 0) = true := bne_iff_ne.mpr c197
                clear c197
                go_wp2_with fail
                go_ret
                rw [← some_eq H]
                exact ⟨(by first | rfl | (simp [IntKind.wrap_u32]; done)), (HS.out).keep (l := []) (rest := [])⟩
            · have H := if_no c196 H
              have c196b0 : (t188.2.1 == 1) = false := beq_eq_false_iff_ne.mpr c196
              have c196b1 : (t188.2.1 != 1) = true := bne_iff_ne.mpr c196
              clear c196
              go_wp2_with fail
              go_ret
              rw [← some_eq H]
              exact ⟨(by first | rfl | (simp [IntKind.wrap_u32]; done)), (HS.out).keep (l := []) (rest := [])⟩
          · have H := if_no c195 H
            have c195b0 : (t188.1 == 1) = false := beq_eq_false_iff_ne.mpr c195
            have c195b1 : (t188.1 != 1) = true := bne_iff_ne.mpr c195
            clear c195
            go_wp2_with fail
            go_ret
            rw [← some_eq H]
            exact ⟨(by first | rfl | (simp [IntKind.wrap_u32]; done)), (HS.out).keep (l := []) (rest := [])⟩
        · have H := if_no c194 H
          have c194b0 : (t159.2 == 0) = false := beq_eq_false_iff_ne.mpr c194
          have c194b1 : (t159.2 != 0) = true := bne_iff_ne.mpr c194
          clear c194
          go_wp2_with fail
          go_ret
          rw [← some_eq H]
          exact ⟨(by first | rfl | (simp [IntKind.wrap_u32]; done)), (HS.out).keep (l := []) (rest := [])⟩
      · have H := if_no c193 H
        have c193b0 : (t159.1 == 3) = false := beq_eq_false_iff_ne.mpr c193
        have c193b1 : (t159.1 != 3) = true := bne_iff_ne.mpr c193
        clear c193
        go_wp2_with fail
        go_ret
        rw [← some_eq H]
        exact ⟨(by first | rfl | (simp [IntKind.wrap_u32]; done)), (HS.out).keep (l := []) (rest := [])⟩
    · have H := if_no c192 H
      have c192b0 : (t156.1 == 2) = false := beq_eq_false_iff_ne.mpr c192
      have c192b1 : (t156.1 != 2) = true := bne_iff_ne.mpr c192
      clear c192
      go_wp2_with fail
      go_ret
      rw [← some_eq H]
      exact ⟨(by first | rfl | (simp [IntKind.wrap_u32]; done)), (HS.out).keep (l := []) (rest := [])⟩
  · have H := if_no c191 H
    have c191b0 : (t153.1 == 1) = false := beq_eq_false_iff_ne.mpr c191
    have c191b1 : (t153.1 != 1) = true := bne_iff_ne.mpr c191
    clear c191
    go_wp2_with fail
    go_ret
    rw [← some_eq H]
    exact ⟨(by first | rfl | (simp [IntKind.wrap_u32]; done)), (HS.out).keep (l := []) (rest := [])⟩

set_option maxHeartbeats 4000000 in
set_option maxRecDepth 100000 in
theorem quitrentlaw07_ShapeBlocks.calls (k : Nat) (a1 : Int) (a2 : Int) (a3 : Int) (r : Bool) (w : World)  (HS : Aside0 (Sep (fps []) w [] w)) (H : Aside0 (quitrentlaw07_ShapeBlocks.f k a1 a2 a3 = some r)) :
    Calls Try.prog 8 #[.int .i64 a1, .int .i64 a2, .int .i64 a3] w fun e w' => e = .returned (.bool r) ∧ Sep (fps []) w [] w' := by
  unfold quitrentlaw07_ShapeBlocks.f at H
  go_enter Try.func8, Try.ntmps8
  go_wp2_with fail
  obtain ⟨t103, HA104, H⟩ := bind_some H
  refine (shape_Blocks.calls _ a1 a2 a3 t103 _ ⟨HS.out.begin (l := []) (rest := [])⟩ HA104).mono ?_
  rintro e_ w105 ⟨rfl, hS⟩
  have HS_ : Aside0 (Sep (fps []) w [] w105) := ⟨HS.out.call (l := []) (rest := []) hS⟩
  clear HS hS
  have HS := HS_
  clear HS_
  go_wp2_with fail
  obtain ⟨t150, HA151, H⟩ := bind_some H
  refine (quitrentref07_Blocks.calls _ a1 a2 a3 t150 _ ⟨HS.out.begin (l := []) (rest := [])⟩ HA151).mono ?_
  rintro e_ w152 ⟨rfl, hS⟩
  have HS_ : Aside0 (Sep (fps []) w [] w152) := ⟨HS.out.call (l := []) (rest := []) hS⟩
  clear HS hS
  have HS := HS_
  clear HS_
  go_wp2_with fail
  obtain ⟨t219, HA220, H⟩ := bind_some H
  refine (quitrentlaw07_begun.calls _ t219 _ ⟨HS.out.begin (l := []) (rest := [])⟩ HA220).mono ?_
  rintro e_ w221 ⟨rfl, hS⟩
  have HS_ : Aside0 (Sep (fps []) w [] w221) := ⟨HS.out.call (l := []) (rest := []) hS⟩
  clear HS hS
  have HS := HS_
  clear HS_
  by_cases c222 : t219 = true
  · have H := if_yes c222 H
    have c222b0 : t219 = true := c222
    clear c222
    by_cases c223 : t103.1 = t150.1
    · have H := if_yes c223 H
      have c223b0 : (t103.1 == t150.1) = true := beq_iff_eq.mpr c223
      have c223b1 : (t103.1 != t150.1) = false := bne_eq_false_iff_eq.mpr c223
      clear c223
      go_wp2_with fail
      go_ret
      rw [← some_eq H]
      exact ⟨(by first | rfl | (simp [IntKind.wrap_u32]; done)), (HS.out).keep (l := []) (rest := [])⟩
    · have H := if_no c223 H
      have c223b0 : (t103.1 == t150.1) = false := beq_eq_false_iff_ne.mpr c223
      have c223b1 : (t103.1 != t150.1) = true := bne_iff_ne.mpr c223
      clear c223
      go_wp2_with fail
      go_ret
      rw [← some_eq H]
      exact ⟨(by first | rfl | (simp [IntKind.wrap_u32]; done)), (HS.out).keep (l := []) (rest := [])⟩
  · have H := if_no c222 H
    have c222b0 : t219 = false := by simpa using c222
    clear c222
    go_wp2_with fail
    go_ret
    rw [← some_eq H]
    exact ⟨(by first | rfl | (simp [IntKind.wrap_u32]; done)), (HS.out).keep (l := []) (rest := [])⟩
end Go.Proofs.Ytgkpcboaiaiahaa.C

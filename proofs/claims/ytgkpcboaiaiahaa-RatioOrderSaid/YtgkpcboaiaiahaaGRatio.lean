/- Each function of the group Ratio does what its plain function says, and changes nothing that was there; proved by walking its code. No condition. -/
import Derived.Test.YtgkpcboaiaiahaaQw
import Derived.Test.YtgkpcboaiaiahaaMRatio
namespace Go.Proofs.Ytgkpcboaiaiahaa.C
open Go.RowKit Go.Proofs.YtgkpcboaiaiahaaW.PrintWords Go.Proofs.YtgkpcboaiaiahaaW.PrintLast Go.Proofs.YtgkpcboaiaiahaaW.PrintMore Go.Proofs.Ytgkpcboaiaiahaa.Q Go.Proofs.Ytgkpcboaiaiahaa.M
set_option linter.unusedVariables false
set_option linter.unusedSimpArgs false
set_option maxHeartbeats 4000000 in
set_option maxRecDepth 100000 in
theorem ratio_Clamp.calls (a11 : Int) (a12 : Int) (a13 : Int) (r : Int) (w : World)  (HS : Aside0 (Sep (fps []) w [] w)) (H : Aside0 (ratio_Clamp.f a11 a12 a13 = some r)) :
    Calls Try.prog 17 #[.int .i64 a11, .int .i64 a12, .int .i64 a13] w fun e w' => e = .returned (.int .i64 r) ∧ Sep (fps []) w [] w' := by
  unfold ratio_Clamp.f at H
  go_enter Try.func17, Try.ntmps17
  by_cases c14 : a11 > a13
  · have H := if_yes c14 H
    have c14b0 : decide (a13 < a11) = true := decide_eq_true c14
    clear c14
    go_wp2_with fail
    go_ret
    rw [← some_eq H]
    exact ⟨(by first | rfl | (simp [IntKind.wrap_u32]; done)), (HS.out).keep (l := []) (rest := [])⟩
  · have H := if_no c14 H
    have c14b0 : decide (a13 < a11) = false := decide_eq_false c14
    clear c14
    by_cases c15 : a11 < a12
    · have H := if_yes c15 H
      have c15b0 : decide (a11 < a12) = true := decide_eq_true c15
      skip
      go_wp2_with fail
      clear c15
      go_ret
      rw [← some_eq H]
      exact ⟨(by first | rfl | (simp [IntKind.wrap_u32]; done)), (HS.out).keep (l := []) (rest := [])⟩
    · have H := if_no c15 H
      have c15b0 : decide (a11 < a12) = false := decide_eq_false c15
      skip
      go_wp2_with fail
      clear c15
      go_ret
      rw [← some_eq H]
      exact ⟨(by first | rfl | (simp [IntKind.wrap_u32]; done)), (HS.out).keep (l := []) (rest := [])⟩

set_option maxHeartbeats 4000000 in
set_option maxRecDepth 100000 in
theorem ratio_counts.calls (a10 : Int) (r : Int) (w : World)  (HS : Aside0 (Sep (fps []) w [] w)) (H : Aside0 (ratio_counts.f a10 = some r)) :
    Calls Try.prog 51 #[.int .i64 a10] w fun e w' => e = .returned (.int .i64 r) ∧ Sep (fps []) w [] w' := by
  unfold ratio_counts.f at H
  go_enter Try.func51, Try.ntmps51
  go_wp2_with fail
  obtain ⟨t16, HA17, H⟩ := bind_some H
  refine (ratio_Clamp.calls a10 0 1125899906842624 t16 _ ⟨HS.out.begin (l := []) (rest := [])⟩ HA17).mono ?_
  rintro e_ w18 ⟨rfl, hS⟩
  have HS_ : Aside0 (Sep (fps []) w [] w18) := ⟨HS.out.call (l := []) (rest := []) hS⟩
  clear HS hS
  have HS := HS_
  clear HS_
  go_wp2_with fail
  go_ret
  rw [← some_eq H]
  exact ⟨(by first | rfl | (simp [IntKind.wrap_u32]; done)), (HS.out).keep (l := []) (rest := [])⟩

set_option maxHeartbeats 4000000 in
set_option maxRecDepth 100000 in
theorem ratio_by.calls (a22 : Int) (r : Int) (w : World)  (HS : Aside0 (Sep (fps []) w [] w)) (H : Aside0 (ratio_by.f a22 = some r)) :
    Calls Try.prog 54 #[.int .i64 a22] w fun e w' => e = .returned (.int .i64 r) ∧ Sep (fps []) w [] w' := by
  unfold ratio_by.f at H
  go_enter Try.func54, Try.ntmps54
  go_wp2_with fail
  obtain ⟨t23, HA24, H⟩ := bind_some H
  refine (ratio_counts.calls a22 t23 _ ⟨HS.out.begin (l := []) (rest := [])⟩ HA24).mono ?_
  rintro e_ w25 ⟨rfl, hS⟩
  have HS_ : Aside0 (Sep (fps []) w [] w25) := ⟨HS.out.call (l := []) (rest := []) hS⟩
  clear HS hS
  have HS := HS_
  clear HS_
  by_cases c26 : t23 < 1
  · have H := if_yes c26 H
    have c26b0 : decide (t23 < 1) = true := decide_eq_true c26
    skip
    go_wp2_with fail
    clear c26
    go_ret
    rw [← some_eq H]
    exact ⟨(by first | rfl | (simp [IntKind.wrap_u32]; done)), (HS.out).keep (l := []) (rest := [])⟩
  · have H := if_no c26 H
    have c26b0 : decide (t23 < 1) = false := decide_eq_false c26
    skip
    go_wp2_with fail
    clear c26
    go_ret
    rw [← some_eq H]
    exact ⟨(by first | rfl | (simp [IntKind.wrap_u32]; done)), (HS.out).keep (l := []) (rest := [])⟩

set_option maxHeartbeats 4000000 in
set_option maxRecDepth 100000 in
theorem ratio_Up.calls (a8 : Int) (a9 : Int) (r : Int) (w : World)  (HS : Aside0 (Sep (fps []) w [] w)) (H : Aside0 (ratio_Up.f a8 a9 = some r)) :
    Calls Try.prog 24 #[.int .i64 a8, .int .i64 a9] w fun e w' => e = .returned (.int .i64 r) ∧ Sep (fps []) w [] w' := by
  unfold ratio_Up.f at H
  go_enter Try.func24, Try.ntmps24
  go_wp2_with fail
  obtain ⟨t19, HA20, H⟩ := bind_some H
  refine (ratio_counts.calls a8 t19 _ ⟨HS.out.begin (l := []) (rest := [])⟩ HA20).mono ?_
  rintro e_ w21 ⟨rfl, hS⟩
  have HS_ : Aside0 (Sep (fps []) w [] w21) := ⟨HS.out.call (l := []) (rest := []) hS⟩
  clear HS hS
  have HS := HS_
  clear HS_
  go_wp2_with fail
  obtain ⟨t27, HA28, H⟩ := bind_some H
  refine (ratio_by.calls a9 t27 _ ⟨HS.out.begin (l := []) (rest := [])⟩ HA28).mono ?_
  rintro e_ w29 ⟨rfl, hS⟩
  have HS_ : Aside0 (Sep (fps []) w [] w29) := ⟨HS.out.call (l := []) (rest := []) hS⟩
  clear HS hS
  have HS := HS_
  clear HS_
  go_wp2_with fail
  obtain ⟨t30, HA31, H⟩ := bind_some H
  refine (ratio_by.calls a9 t30 _ ⟨HS.out.begin (l := []) (rest := [])⟩ HA31).mono ?_
  rintro e_ w32 ⟨rfl, hS⟩
  have HS_ : Aside0 (Sep (fps []) w [] w32) := ⟨HS.out.call (l := []) (rest := []) hS⟩
  clear HS hS
  have HS := HS_
  clear HS_
  by_cases c33 : t30 = 0
  · have H := if_yes c33 H
    have c33b0 : (t30 == 0) = true := beq_iff_eq.mpr c33
    have c33b1 : (t30 != 0) = false := bne_eq_false_iff_eq.mpr c33
    exact (none_no H).elim
  · have H := if_no c33 H
    have c33b0 : (t30 == 0) = false := beq_eq_false_iff_ne.mpr c33
    have c33b1 : (t30 != 0) = true := bne_iff_ne.mpr c33
    skip
    go_wp2_with fail
    clear c33
    go_ret
    rw [← some_eq H]
    exact ⟨(by first | rfl | (simp [IntKind.wrap_u32]; done)), (HS.out).keep (l := []) (rest := [])⟩

set_option maxHeartbeats 4000000 in
set_option maxRecDepth 100000 in
theorem ratio_Down.calls (a38 : Int) (a39 : Int) (r : Int) (w : World)  (HS : Aside0 (Sep (fps []) w [] w)) (H : Aside0 (ratio_Down.f a38 a39 = some r)) :
    Calls Try.prog 22 #[.int .i64 a38, .int .i64 a39] w fun e w' => e = .returned (.int .i64 r) ∧ Sep (fps []) w [] w' := by
  unfold ratio_Down.f at H
  go_enter Try.func22, Try.ntmps22
  go_wp2_with fail
  obtain ⟨t40, HA41, H⟩ := bind_some H
  refine (ratio_counts.calls a38 t40 _ ⟨HS.out.begin (l := []) (rest := [])⟩ HA41).mono ?_
  rintro e_ w42 ⟨rfl, hS⟩
  have HS_ : Aside0 (Sep (fps []) w [] w42) := ⟨HS.out.call (l := []) (rest := []) hS⟩
  clear HS hS
  have HS := HS_
  clear HS_
  go_wp2_with fail
  obtain ⟨t43, HA44, H⟩ := bind_some H
  refine (ratio_by.calls a39 t43 _ ⟨HS.out.begin (l := []) (rest := [])⟩ HA44).mono ?_
  rintro e_ w45 ⟨rfl, hS⟩
  have HS_ : Aside0 (Sep (fps []) w [] w45) := ⟨HS.out.call (l := []) (rest := []) hS⟩
  clear HS hS
  have HS := HS_
  clear HS_
  by_cases c46 : t43 = 0
  · have H := if_yes c46 H
    have c46b0 : (t43 == 0) = true := beq_iff_eq.mpr c46
    have c46b1 : (t43 != 0) = false := bne_eq_false_iff_eq.mpr c46
    exact (none_no H).elim
  · have H := if_no c46 H
    have c46b0 : (t43 == 0) = false := beq_eq_false_iff_ne.mpr c46
    have c46b1 : (t43 != 0) = true := bne_iff_ne.mpr c46
    skip
    go_wp2_with fail
    clear c46
    go_ret
    rw [← some_eq H]
    exact ⟨(by first | rfl | (simp [IntKind.wrap_u32]; done)), (HS.out).keep (l := []) (rest := [])⟩

set_option maxHeartbeats 4000000 in
set_option maxRecDepth 100000 in
theorem ratio_zero.calls (a76 : Int) (r : Bool) (w : World)  (HS : Aside0 (Sep (fps []) w [] w)) (H : Aside0 (ratio_zero.f a76 = some r)) :
    Calls Try.prog 53 #[.int .i64 a76] w fun e w' => e = .returned (.bool r) ∧ Sep (fps []) w [] w' := by
  unfold ratio_zero.f at H
  go_enter Try.func53, Try.ntmps53
  go_wp2_with fail
  obtain ⟨t77, HA78, H⟩ := bind_some H
  refine (ratio_counts.calls a76 t77 _ ⟨HS.out.begin (l := []) (rest := [])⟩ HA78).mono ?_
  rintro e_ w79 ⟨rfl, hS⟩
  have HS_ : Aside0 (Sep (fps []) w [] w79) := ⟨HS.out.call (l := []) (rest := []) hS⟩
  clear HS hS
  have HS := HS_
  clear HS_
  go_wp2_with fail
  go_ret
  rw [← some_eq H]
  exact ⟨(by first | rfl | (simp [IntKind.wrap_u32]; done)), (HS.out).keep (l := []) (rest := [])⟩

set_option maxHeartbeats 4000000 in
set_option maxRecDepth 100000 in
theorem slices_IndexFunc_int_int.calls (k : Nat) (l62 : List Int) (A63 : Option Addr) (n64 : Nat) (r : Int) (w : World) (HR65 : Aside0 (Kd.C (Kd.int .i64) w A63 l62.length l62)) (HS : Aside0 (Sep (fps []) w [] w)) (H : Aside0 (slices_IndexFunc_int_int.f k l62 = some r)) :
    Calls Try.prog 72 #[.slice A63 l62.length n64, .func (.func 53) #[] #[]] w fun e w' => e = .returned (.int .i64 r) ∧ Sep (fps []) w [] w' := by
  unfold slices_IndexFunc_int_int.f at H
  go_enter Try.func72, Try.ntmps72
  go_wp2_with fail
  obtain ⟨o84, AL85, H⟩ := bind_some H
  go_loopg [8] k (fun kq v8 wc => ∃ (x88 : Int), v8 = .int .i64 x88 ∧ Aside0 (slices_IndexFunc_int_int.lo0 kq l62 x88 = some o84) ∧ Aside0 (Sep (fps []) w [] wc))
  case atStart => exact ⟨(0), (by first | rfl | (simp [IntKind.wrap_u32]; done)), AL85, ⟨HS.out⟩⟩
  case round =>
    clear AL85 HS
    obtain ⟨x88, rfl, AL85, HS⟩ := hrel
    obtain ⟨w86, rfl⟩ : ∃ x : World, x = wr := ⟨_, rfl⟩
    cases gk with
    | zero => exact absurd AL85.out (by simp [slices_IndexFunc_int_int.lo0])
    | succ k87 =>
      have AL0 := AL85.out
      rw [slices_IndexFunc_int_int.lo0] at AL0
      clear AL85
      have AL85 := Aside0.mk AL0
      clear AL0
      by_cases c89 : x88 < (l62.length : Int)
      · have AL85 := if_yes c89 AL85
        have c89b0 : decide (x88 < (l62.length : Int)) = true := decide_eq_true c89
        clear c89
        by_cases c90 : 0 ≤ x88
        · have AL85 := if_yes c90 AL85
          have c90b0 : decide (0 ≤ x88) = true := decide_eq_true c90
          have c90p : (0 ≤ x88) = True := eq_true c90
          clear c90
          have ip91 : (x88 < (l62.length : Int)) = True := eq_true (of_decide_eq_true c89b0)
          obtain ⟨hx92a, hx92e, hx92⟩ := Kd.at_int (Kd.C_below HR65.out HS.out.fr.below) x88 (of_decide_eq_true c90b0) (of_decide_eq_true c89b0); cases hx92e
          go_wp2_with fail
          clear hx92
          obtain ⟨t80, HA93, AL85⟩ := bind_some AL85
          refine (ratio_zero.calls (rd l62 x88) t80 _ ⟨HS.out.begin (l := []) (rest := [])⟩ HA93).mono ?_
          rintro e_ w94 ⟨rfl, hS⟩
          have HS_ : Aside0 (Sep (fps []) w [] w94) := ⟨HS.out.call (l := []) (rest := []) hS⟩
          clear HS hS
          have HS := HS_
          clear HS_
          by_cases c95 : t80 = true
          · have AL85 := if_yes c95 AL85
            have c95b0 : t80 = true := c95
            clear c95
            go_wp2_with fail
            have ho := some_eq AL85
            subst ho
            have H := lp_ret H
            go_ret
            rw [← some_eq H]
            exact ⟨(by first | rfl | (simp [IntKind.wrap_u32]; done)), (HS.out).keep (l := []) (rest := [])⟩
          · have AL85 := if_no c95 AL85
            have c95b0 : t80 = false := by simpa using c95
            clear c95
            go_wp2_with fail
            go_roundg k87
            case measure => exact Nat.lt_succ_self _
            case rel => exact ⟨(wrap64 (x88 + 1)), (by first | rfl | (simp [IntKind.wrap_u32]; done)), Aside0.mk AL85.out, ⟨(HS.out).keep (l := []) (rest := [])⟩⟩
        · have AL85 := if_no c90 AL85
          have c90b0 : decide (0 ≤ x88) = false := decide_eq_false c90
          clear c90
          exact (none_no AL85).elim
      · have AL85 := if_no c89 AL85
        have c89b0 : decide (x88 < (l62.length : Int)) = false := decide_eq_false c89
        clear c89
        have ho := some_eq AL85
        subst ho
        clear AL85
        have H := lp_out H
        go_wp2_with fail
        go_ret
        rw [← some_eq H]
        exact ⟨(by first | rfl | (simp [IntKind.wrap_u32]; done)), (HS.out).keep (l := []) (rest := [])⟩

set_option maxHeartbeats 4000000 in
set_option maxRecDepth 100000 in
theorem slices_ContainsFunc_int_int.calls (k : Nat) (l58 : List Int) (A59 : Option Addr) (n60 : Nat) (r : Bool) (w : World) (HR61 : Aside0 (Kd.C (Kd.int .i64) w A59 l58.length l58)) (HS : Aside0 (Sep (fps []) w [] w)) (H : Aside0 (slices_ContainsFunc_int_int.f k l58 = some r)) :
    Calls Try.prog 52 #[.slice A59 l58.length n60, .func (.func 53) #[] #[]] w fun e w' => e = .returned (.bool r) ∧ Sep (fps []) w [] w' := by
  unfold slices_ContainsFunc_int_int.f at H
  go_enter Try.func52, Try.ntmps52
  go_wp2_with fail
  obtain ⟨t97, HA98, H⟩ := bind_some H
  refine (slices_IndexFunc_int_int.calls _ l58 A59 n60 t97 _ ⟨HR61.out⟩ ⟨HS.out.begin (l := []) (rest := [])⟩ HA98).mono ?_
  rintro e_ w99 ⟨rfl, hS⟩
  have HS_ : Aside0 (Sep (fps []) w [] w99) := ⟨HS.out.call (l := []) (rest := []) hS⟩
  clear HS hS
  have HS := HS_
  clear HS_
  go_wp2_with fail
  go_ret
  rw [← some_eq H]
  exact ⟨(by first | rfl | (simp [IntKind.wrap_u32]; done)), (HS.out).keep (l := []) (rest := [])⟩

set_option maxHeartbeats 4000000 in
set_option maxRecDepth 100000 in
theorem ratio_Mul.calls (k : Nat) (l54 : List Int) (A55 : Option Addr) (n56 : Nat) (r : Int) (w : World) (HR57 : Aside0 (Kd.C (Kd.int .i64) w A55 l54.length l54)) (HS : Aside0 (Sep (fps []) w [] w)) (H : Aside0 (ratio_Mul.f k l54 = some r)) :
    Calls Try.prog 20 #[.slice A55 l54.length n56] w fun e w' => e = .returned (.int .i64 r) ∧ Sep (fps []) w [] w' := by
  unfold ratio_Mul.f at H
  go_enter Try.func20, Try.ntmps20
  go_wp2_with fail
  obtain ⟨t100, HA101, H⟩ := bind_some H
  refine (slices_ContainsFunc_int_int.calls _ l54 A55 n56 t100 _ ⟨HR57.out⟩ ⟨HS.out.begin (l := []) (rest := [])⟩ HA101).mono ?_
  rintro e_ w102 ⟨rfl, hS⟩
  have HS_ : Aside0 (Sep (fps []) w [] w102) := ⟨HS.out.call (l := []) (rest := []) hS⟩
  clear HS hS
  have HS := HS_
  clear HS_
  by_cases c103 : t100 = true
  · have H := if_yes c103 H
    have c103b0 : t100 = true := c103
    clear c103
    go_wp2_with fail
    go_ret
    rw [← some_eq H]
    exact ⟨(by first | rfl | (simp [IntKind.wrap_u32]; done)), (HS.out).keep (l := []) (rest := [])⟩
  · have H := if_no c103 H
    have c103b0 : t100 = false := by simpa using c103
    clear c103
    go_wp2_with fail
    obtain ⟨o105, AL106, H⟩ := bind_some H
    go_loopg [3, 11] k (fun kq v3 v11 wc => ∃ (x109 : Int) (x110 : Int), v3 = .int .i64 x109 ∧ v11 = .int .i64 x110 ∧ Aside0 (ratio_Mul.lo0 kq l54 x109 x110 = some o105) ∧ Aside0 (Sep (fps []) w [] wc))
    case atStart => exact ⟨(1), (0), (by first | rfl | (simp [IntKind.wrap_u32]; done)), (by first | rfl | (simp [IntKind.wrap_u32]; done)), AL106, ⟨HS.out⟩⟩
    case round =>
      clear AL106 HS
      obtain ⟨x109, x110, rfl, rfl, AL106, HS⟩ := hrel
      obtain ⟨w107, rfl⟩ : ∃ x : World, x = wr := ⟨_, rfl⟩
      cases gk with
      | zero => exact absurd AL106.out (by simp [ratio_Mul.lo0])
      | succ k108 =>
        have AL0 := AL106.out
        rw [ratio_Mul.lo0] at AL0
        clear AL106
        have AL106 := Aside0.mk AL0
        clear AL0
        by_cases c111 : x110 < (l54.length : Int)
        · have AL106 := if_yes c111 AL106
          have c111b0 : decide (x110 < (l54.length : Int)) = true := decide_eq_true c111
          clear c111
          by_cases c112 : 0 ≤ x110
          · have AL106 := if_yes c112 AL106
            have c112b0 : decide (0 ≤ x110) = true := decide_eq_true c112
            have c112p : (0 ≤ x110) = True := eq_true c112
            clear c112
            have ip113 : (x110 < (l54.length : Int)) = True := eq_true (of_decide_eq_true c111b0)
            obtain ⟨hx114a, hx114e, hx114⟩ := Kd.at_int (Kd.C_below HR57.out HS.out.fr.below) x110 (of_decide_eq_true c112b0) (of_decide_eq_true c111b0); cases hx114e
            go_wp2_with fail
            clear hx114
            obtain ⟨t115, HA116, AL106⟩ := bind_some AL106
            refine (ratio_counts.calls (rd l54 x110) t115 _ ⟨HS.out.begin (l := []) (rest := [])⟩ HA116).mono ?_
            rintro e_ w117 ⟨rfl, hS⟩
            have HS_ : Aside0 (Sep (fps []) w [] w117) := ⟨HS.out.call (l := []) (rest := []) hS⟩
            clear HS hS
            have HS := HS_
            clear HS_
            by_cases c118 : t115 = 0
            · have AL106 := if_yes c118 AL106
              have c118b0 : (t115 == 0) = true := beq_iff_eq.mpr c118
              have c118b1 : (t115 != 0) = false := bne_eq_false_iff_eq.mpr c118
              exact (none_no AL106).elim
            · have AL106 := if_no c118 AL106
              have c118b0 : (t115 == 0) = false := beq_eq_false_iff_ne.mpr c118
              have c118b1 : (t115 != 0) = true := bne_iff_ne.mpr c118
              by_cases c119 : x109 ≤ (wrap64 (Int.tdiv (1125899906842624 : Int) t115))
              · have AL106 := if_yes c119 AL106
                have c119b0 : decide (x109 ≤ (wrap64 (Int.tdiv (1125899906842624 : Int) t115))) = true := decide_eq_true c119
                clear c119
                skip
                go_wp2_with fail
                clear c118
                go_roundg k108
                case measure => exact Nat.lt_succ_self _
                case rel => exact ⟨(wrap64 (x109 * t115)), (wrap64 (x110 + 1)), (by first | rfl | (simp [IntKind.wrap_u32]; done)), (by first | rfl | (simp [IntKind.wrap_u32]; done)), Aside0.mk AL106.out, ⟨(HS.out).keep (l := []) (rest := [])⟩⟩
              · have AL106 := if_no c119 AL106
                have c119b0 : decide (x109 ≤ (wrap64 (Int.tdiv (1125899906842624 : Int) t115))) = false := decide_eq_false c119
                clear c119
                skip
                go_wp2_with fail
                clear c118
                go_roundg k108
                case measure => exact Nat.lt_succ_self _
                case rel => exact ⟨(1125899906842624), (wrap64 (x110 + 1)), (by first | rfl | (simp [IntKind.wrap_u32]; done)), (by first | rfl | (simp [IntKind.wrap_u32]; done)), Aside0.mk AL106.out, ⟨(HS.out).keep (l := []) (rest := [])⟩⟩
          · have AL106 := if_no c112 AL106
            have c112b0 : decide (0 ≤ x110) = false := decide_eq_false c112
            clear c112
            exact (none_no AL106).elim
        · have AL106 := if_no c111 AL106
          have c111b0 : decide (x110 < (l54.length : Int)) = false := decide_eq_false c111
          clear c111
          have ho := some_eq AL106
          subst ho
          clear AL106
          go_wp2_with fail
          go_ret
          rw [← some_eq H]
          exact ⟨(by first | rfl | (simp [IntKind.wrap_u32]; done)), (HS.out).keep (l := []) (rest := [])⟩

set_option maxHeartbeats 4000000 in
set_option maxRecDepth 100000 in
theorem ratio_Least.calls (a125 : Int) (a126 : Int) (r : Int) (w : World)  (HS : Aside0 (Sep (fps []) w [] w)) (H : Aside0 (ratio_Least.f a125 a126 = some r)) :
    Calls Try.prog 26 #[.int .i64 a125, .int .i64 a126] w fun e w' => e = .returned (.int .i64 r) ∧ Sep (fps []) w [] w' := by
  unfold ratio_Least.f at H
  go_enter Try.func26, Try.ntmps26
  go_wp2_with fail
  obtain ⟨t127, HA128, H⟩ := bind_some H
  refine (ratio_zero.calls a125 t127 _ ⟨HS.out.begin (l := []) (rest := [])⟩ HA128).mono ?_
  rintro e_ w129 ⟨rfl, hS⟩
  have HS_ : Aside0 (Sep (fps []) w [] w129) := ⟨HS.out.call (l := []) (rest := []) hS⟩
  clear HS hS
  have HS := HS_
  clear HS_
  by_cases c130 : t127 = true
  · have H := if_yes c130 H
    have c130b0 : t127 = true := c130
    clear c130
    go_wp2_with fail
    go_ret
    rw [← some_eq H]
    exact ⟨(by first | rfl | (simp [IntKind.wrap_u32]; done)), (HS.out).keep (l := []) (rest := [])⟩
  · have H := if_no c130 H
    have c130b0 : t127 = false := by simpa using c130
    clear c130
    go_wp2_with fail
    obtain ⟨t131, HA132, H⟩ := bind_some H
    refine (ratio_zero.calls a126 t131 _ ⟨HS.out.begin (l := []) (rest := [])⟩ HA132).mono ?_
    rintro e_ w133 ⟨rfl, hS⟩
    have HS_ : Aside0 (Sep (fps []) w [] w133) := ⟨HS.out.call (l := []) (rest := []) hS⟩
    clear HS hS
    have HS := HS_
    clear HS_
    by_cases c134 : t131 = true
    · have H := if_yes c134 H
      have c134b0 : t131 = true := c134
      clear c134
      go_wp2_with fail
      go_ret
      rw [← some_eq H]
      exact ⟨(by first | rfl | (simp [IntKind.wrap_u32]; done)), (HS.out).keep (l := []) (rest := [])⟩
    · have H := if_no c134 H
      have c134b0 : t131 = false := by simpa using c134
      clear c134
      go_wp2_with fail
      obtain ⟨t135, HA136, H⟩ := bind_some H
      refine (ratio_Up.calls a125 a126 t135 _ ⟨HS.out.begin (l := []) (rest := [])⟩ HA136).mono ?_
      rintro e_ w137 ⟨rfl, hS⟩
      have HS_ : Aside0 (Sep (fps []) w [] w137) := ⟨HS.out.call (l := []) (rest := []) hS⟩
      clear HS hS
      have HS := HS_
      clear HS_
      go_wp2_with fail
      go_ret
      rw [← some_eq H]
      exact ⟨(by first | rfl | (simp [IntKind.wrap_u32]; done)), (HS.out).keep (l := []) (rest := [])⟩

set_option maxHeartbeats 4000000 in
set_option maxRecDepth 100000 in
theorem ratio_Add.calls (k : Nat) (l146 : List Int) (A147 : Option Addr) (n148 : Nat) (r : Int) (w : World) (HR149 : Aside0 (Kd.C (Kd.int .i64) w A147 l146.length l146)) (HS : Aside0 (Sep (fps []) w [] w)) (H : Aside0 (ratio_Add.f k l146 = some r)) :
    Calls Try.prog 18 #[.slice A147 l146.length n148] w fun e w' => e = .returned (.int .i64 r) ∧ Sep (fps []) w [] w' := by
  unfold ratio_Add.f at H
  go_enter Try.func18, Try.ntmps18
  go_wp2_with fail
  obtain ⟨o151, AL152, H⟩ := bind_some H
  go_loopg [3, 8] k (fun kq v3 v8 wc => ∃ (x155 : Int) (x156 : Int), v3 = .int .i64 x155 ∧ v8 = .int .i64 x156 ∧ Aside0 (ratio_Add.lo0 kq l146 x155 x156 = some o151) ∧ Aside0 (Sep (fps []) w [] wc))
  case atStart => exact ⟨(0), (0), (by first | rfl | (simp [IntKind.wrap_u32]; done)), (by first | rfl | (simp [IntKind.wrap_u32]; done)), AL152, ⟨HS.out⟩⟩
  case round =>
    clear AL152 HS
    obtain ⟨x155, x156, rfl, rfl, AL152, HS⟩ := hrel
    obtain ⟨w153, rfl⟩ : ∃ x : World, x = wr := ⟨_, rfl⟩
    cases gk with
    | zero => exact absurd AL152.out (by simp [ratio_Add.lo0])
    | succ k154 =>
      have AL0 := AL152.out
      rw [ratio_Add.lo0] at AL0
      clear AL152
      have AL152 := Aside0.mk AL0
      clear AL0
      by_cases c157 : x156 < (l146.length : Int)
      · have AL152 := if_yes c157 AL152
        have c157b0 : decide (x156 < (l146.length : Int)) = true := decide_eq_true c157
        clear c157
        by_cases c158 : 0 ≤ x156
        · have AL152 := if_yes c158 AL152
          have c158b0 : decide (0 ≤ x156) = true := decide_eq_true c158
          have c158p : (0 ≤ x156) = True := eq_true c158
          clear c158
          have ip159 : (x156 < (l146.length : Int)) = True := eq_true (of_decide_eq_true c157b0)
          obtain ⟨hx160a, hx160e, hx160⟩ := Kd.at_int (Kd.C_below HR149.out HS.out.fr.below) x156 (of_decide_eq_true c158b0) (of_decide_eq_true c157b0); cases hx160e
          go_wp2_with fail
          clear hx160
          obtain ⟨t161, HA162, AL152⟩ := bind_some AL152
          refine (ratio_counts.calls (rd l146 x156) t161 _ ⟨HS.out.begin (l := []) (rest := [])⟩ HA162).mono ?_
          rintro e_ w163 ⟨rfl, hS⟩
          have HS_ : Aside0 (Sep (fps []) w [] w163) := ⟨HS.out.call (l := []) (rest := []) hS⟩
          clear HS hS
          have HS := HS_
          clear HS_
          by_cases c164 : 1125899906842624 < (wrap64 (x155 + t161))
          · have AL152 := if_yes c164 AL152
            have c164b0 : decide (1125899906842624 < (wrap64 (x155 + t161))) = true := decide_eq_true c164
            skip
            go_wp2_with fail
            clear c164
            go_roundg k154
            case measure => exact Nat.lt_succ_self _
            case rel => exact ⟨(1125899906842624), (wrap64 (x156 + 1)), (by first | rfl | (simp [IntKind.wrap_u32]; done)), (by first | rfl | (simp [IntKind.wrap_u32]; done)), Aside0.mk AL152.out, ⟨(HS.out).keep (l := []) (rest := [])⟩⟩
          · have AL152 := if_no c164 AL152
            have c164b0 : decide (1125899906842624 < (wrap64 (x155 + t161))) = false := decide_eq_false c164
            skip
            go_wp2_with fail
            clear c164
            go_roundg k154
            case measure => exact Nat.lt_succ_self _
            case rel => exact ⟨(wrap64 (x155 + t161)), (wrap64 (x156 + 1)), (by first | rfl | (simp [IntKind.wrap_u32]; done)), (by first | rfl | (simp [IntKind.wrap_u32]; done)), Aside0.mk AL152.out, ⟨(HS.out).keep (l := []) (rest := [])⟩⟩
        · have AL152 := if_no c158 AL152
          have c158b0 : decide (0 ≤ x156) = false := decide_eq_false c158
          clear c158
          exact (none_no AL152).elim
      · have AL152 := if_no c157 AL152
        have c157b0 : decide (x156 < (l146.length : Int)) = false := decide_eq_false c157
        clear c157
        have ho := some_eq AL152
        subst ho
        clear AL152
        go_wp2_with fail
        go_ret
        rw [← some_eq H]
        exact ⟨(by first | rfl | (simp [IntKind.wrap_u32]; done)), (HS.out).keep (l := []) (rest := [])⟩

set_option maxHeartbeats 4000000 in
set_option maxRecDepth 100000 in
theorem quitrentlaw02_begun.calls (k : Nat)  (r : Bool) (w : World)  (HS : Aside0 (Sep (fps []) w [] w)) (H : Aside0 (quitrentlaw02_begun.f k = some r)) :
    Calls Try.prog 16 #[] w fun e w' => e = .returned (.bool r) ∧ Sep (fps []) w [] w' := by
  unfold quitrentlaw02_begun.f at H
  go_enter Try.func16, Try.ntmps16
  go_wp2_with fail
  obtain ⟨t34, HA35, H⟩ := bind_some H
  refine (ratio_Up.calls 7 2 t34 _ ⟨HS.out.begin (l := []) (rest := [])⟩ HA35).mono ?_
  rintro e_ w36 ⟨rfl, hS⟩
  have HS_ : Aside0 (Sep (fps []) w [] w36) := ⟨HS.out.call (l := []) (rest := []) hS⟩
  clear HS hS
  have HS := HS_
  clear HS_
  by_cases c37 : t34 = 4
  · have H := if_yes c37 H
    have c37b0 : (t34 == 4) = true := beq_iff_eq.mpr c37
    have c37b1 : (t34 != 4) = false := bne_eq_false_iff_eq.mpr c37
    clear c37
    go_wp2_with fail
    obtain ⟨t47, HA48, H⟩ := bind_some H
    refine (ratio_Down.calls 7 2 t47 _ ⟨HS.out.begin (l := []) (rest := [])⟩ HA48).mono ?_
    rintro e_ w49 ⟨rfl, hS⟩
    have HS_ : Aside0 (Sep (fps []) w [] w49) := ⟨HS.out.call (l := []) (rest := []) hS⟩
    clear HS hS
    have HS := HS_
    clear HS_
    by_cases c50 : t47 = 3
    · have H := if_yes c50 H
      have c50b0 : (t47 == 3) = true := beq_iff_eq.mpr c50
      have c50b1 : (t47 != 3) = false := bne_eq_false_iff_eq.mpr c50
      clear c50
      go_wp2_with (first | ((with_reducible refine gate_dst (N := 8) rfl ?_); refine slice_on (n := 2) ?hg (N := 8) ?hd (cs := #[.int .i64 1073741824, .int .i64 1073741824]) (t := 3) ?hr ?_; (case hd => rfl); (case hg => rfl); (case hr => first | (go_simp; done) | (go_simp; rfl)); intro g51 hg w52 hbox hb; have HS_ : Aside0 (Sep (fps []) w [blk g51 #[.int .i64 1073741824, .int .i64 1073741824] 3] w52) := ⟨HS.out.box hg hbox hb⟩; clear HS hg hbox hb; have HS := HS_; clear HS_))
      obtain ⟨t121, HA122, H⟩ := bind_some H
      refine (ratio_Mul.calls _ [1073741824, 1073741824] (some ⟨g51, 0, none⟩) 2 t121 _ ⟨C_of_blk (xs := [1073741824, 1073741824]) (HS.out.at0) (by simp)⟩ ⟨HS.out.begin (l := []) (rest := [blk g51 #[.int .i64 1073741824, .int .i64 1073741824] 3])⟩ HA122).mono ?_
      rintro e_ w123 ⟨rfl, hS⟩
      have HS_ : Aside0 (Sep (fps []) w [blk g51 #[.int .i64 1073741824, .int .i64 1073741824] 3] w123) := ⟨HS.out.call (l := []) (rest := [blk g51 #[.int .i64 1073741824, .int .i64 1073741824] 3]) hS⟩
      clear HS hS
      have HS := HS_
      clear HS_
      by_cases c124 : t121 = 1125899906842624
      · have H := if_yes c124 H
        have c124b0 : (t121 == 1125899906842624) = true := beq_iff_eq.mpr c124
        have c124b1 : (t121 != 1125899906842624) = false := bne_eq_false_iff_eq.mpr c124
        clear c124
        go_wp2_with fail
        obtain ⟨t138, HA139, H⟩ := bind_some H
        refine (ratio_Least.calls 100 7 t138 _ ⟨HS.out.begin (l := []) (rest := [blk g51 #[.int .i64 1073741824, .int .i64 1073741824] 3])⟩ HA139).mono ?_
        rintro e_ w140 ⟨rfl, hS⟩
        have HS_ : Aside0 (Sep (fps []) w [blk g51 #[.int .i64 1073741824, .int .i64 1073741824] 3] w140) := ⟨HS.out.call (l := []) (rest := [blk g51 #[.int .i64 1073741824, .int .i64 1073741824] 3]) hS⟩
        clear HS hS
        have HS := HS_
        clear HS_
        by_cases c141 : t138 = 15
        · have H := if_yes c141 H
          have c141b0 : (t138 == 15) = true := beq_iff_eq.mpr c141
          have c141b1 : (t138 != 15) = false := bne_eq_false_iff_eq.mpr c141
          clear c141
          go_wp2_with fail
          obtain ⟨t142, HA143, H⟩ := bind_some H
          refine (ratio_Least.calls 1 0 t142 _ ⟨HS.out.begin (l := []) (rest := [blk g51 #[.int .i64 1073741824, .int .i64 1073741824] 3])⟩ HA143).mono ?_
          rintro e_ w144 ⟨rfl, hS⟩
          have HS_ : Aside0 (Sep (fps []) w [blk g51 #[.int .i64 1073741824, .int .i64 1073741824] 3] w144) := ⟨HS.out.call (l := []) (rest := [blk g51 #[.int .i64 1073741824, .int .i64 1073741824] 3]) hS⟩
          clear HS hS
          have HS := HS_
          clear HS_
          by_cases c145 : t142 = 0
          · have H := if_yes c145 H
            have c145b0 : (t142 == 0) = true := beq_iff_eq.mpr c145
            have c145b1 : (t142 != 0) = false := bne_eq_false_iff_eq.mpr c145
            clear c145
            go_wp2_with fail
            obtain ⟨t166, HA167, H⟩ := bind_some H
            refine (ratio_Add.calls _ [] none 0 t166 _ ⟨Kd.C_nil _ _⟩ ⟨HS.out.begin (l := []) (rest := [blk g51 #[.int .i64 1073741824, .int .i64 1073741824] 3])⟩ HA167).mono ?_
            rintro e_ w168 ⟨rfl, hS⟩
            have HS_ : Aside0 (Sep (fps []) w [blk g51 #[.int .i64 1073741824, .int .i64 1073741824] 3] w168) := ⟨HS.out.call (l := []) (rest := [blk g51 #[.int .i64 1073741824, .int .i64 1073741824] 3]) hS⟩
            clear HS hS
            have HS := HS_
            clear HS_
            by_cases c169 : t166 = 0
            · have H := if_yes c169 H
              have c169b0 : (t166 == 0) = true := beq_iff_eq.mpr c169
              have c169b1 : (t166 != 0) = false := bne_eq_false_iff_eq.mpr c169
              clear c169
              go_wp2_with fail
              obtain ⟨t170, HA171, H⟩ := bind_some H
              refine (ratio_Clamp.calls 9 1 5 t170 _ ⟨HS.out.begin (l := []) (rest := [blk g51 #[.int .i64 1073741824, .int .i64 1073741824] 3])⟩ HA171).mono ?_
              rintro e_ w172 ⟨rfl, hS⟩
              have HS_ : Aside0 (Sep (fps []) w [blk g51 #[.int .i64 1073741824, .int .i64 1073741824] 3] w172) := ⟨HS.out.call (l := []) (rest := [blk g51 #[.int .i64 1073741824, .int .i64 1073741824] 3]) hS⟩
              clear HS hS
              have HS := HS_
              clear HS_
              go_wp2_with fail
              go_ret
              rw [← some_eq H]
              exact ⟨(by first | rfl | (simp [IntKind.wrap_u32]; done)), (HS.out).keep (l := []) (rest := [blk g51 #[.int .i64 1073741824, .int .i64 1073741824] 3])⟩
            · have H := if_no c169 H
              have c169b0 : (t166 == 0) = false := beq_eq_false_iff_ne.mpr c169
              have c169b1 : (t166 != 0) = true := bne_iff_ne.mpr c169
              clear c169
              go_wp2_with fail
              go_ret
              rw [← some_eq H]
              exact ⟨(by first | rfl | (simp [IntKind.wrap_u32]; done)), (HS.out).keep (l := []) (rest := [blk g51 #[.int .i64 1073741824, .int .i64 1073741824] 3])⟩
          · have H := if_no c145 H
            have c145b0 : (t142 == 0) = false := beq_eq_false_iff_ne.mpr c145
            have c145b1 : (t142 != 0) = true := bne_iff_ne.mpr c145
            clear c145
            go_wp2_with fail
            go_ret
            rw [← some_eq H]
            exact ⟨(by first | rfl | (simp [IntKind.wrap_u32]; done)), (HS.out).keep (l := []) (rest := [blk g51 #[.int .i64 1073741824, .int .i64 1073741824] 3])⟩
        · have H := if_no c141 H
          have c141b0 : (t138 == 15) = false := beq_eq_false_iff_ne.mpr c141
          have c141b1 : (t138 != 15) = true := bne_iff_ne.mpr c141
          clear c141
          go_wp2_with fail
          go_ret
          rw [← some_eq H]
          exact ⟨(by first | rfl | (simp [IntKind.wrap_u32]; done)), (HS.out).keep (l := []) (rest := [blk g51 #[.int .i64 1073741824, .int .i64 1073741824] 3])⟩
      · have H := if_no c124 H
        have c124b0 : (t121 == 1125899906842624) = false := beq_eq_false_iff_ne.mpr c124
        have c124b1 : (t121 != 1125899906842624) = true := bne_iff_ne.mpr c124
        clear c124
        go_wp2_with fail
        go_ret
        rw [← some_eq H]
        exact ⟨(by first | rfl | (simp [IntKind.wrap_u32]; done)), (HS.out).keep (l := []) (rest := [blk g51 #[.int .i64 1073741824, .int .i64 1073741824] 3])⟩
    · have H := if_no c50 H
      have c50b0 : (t47 == 3) = false := beq_eq_false_iff_ne.mpr c50
      have c50b1 : (t47 != 3) = true := bne_iff_ne.mpr c50
      clear c50
      go_wp2_with fail
      go_ret
      rw [← some_eq H]
      exact ⟨(by first | rfl | (simp [IntKind.wrap_u32]; done)), (HS.out).keep (l := []) (rest := [])⟩
  · have H := if_no c37 H
    have c37b0 : (t34 == 4) = false := beq_eq_false_iff_ne.mpr c37
    have c37b1 : (t34 != 4) = true := bne_iff_ne.mpr c37
    clear c37
    go_wp2_with fail
    go_ret
    rw [← some_eq H]
    exact ⟨(by first | rfl | (simp [IntKind.wrap_u32]; done)), (HS.out).keep (l := []) (rest := [])⟩

set_option maxHeartbeats 4000000 in
set_option maxRecDepth 100000 in
theorem quitrentref02_Counts.calls (a233 : Int) (r : Int) (w : World)  (HS : Aside0 (Sep (fps []) w [] w)) (H : Aside0 (quitrentref02_Counts.f a233 = some r)) :
    Calls Try.prog 28 #[.int .i64 a233] w fun e w' => e = .returned (.int .i64 r) ∧ Sep (fps []) w [] w' := by
  unfold quitrentref02_Counts.f at H
  go_enter Try.func28, Try.ntmps28
  by_cases c234 : a233 < 0
  · have H := if_yes c234 H
    have c234b0 : decide (a233 < 0) = true := decide_eq_true c234
    clear c234
    go_wp2_with fail
    go_ret
    rw [← some_eq H]
    exact ⟨(by first | rfl | (simp [IntKind.wrap_u32]; done)), (HS.out).keep (l := []) (rest := [])⟩
  · have H := if_no c234 H
    have c234b0 : decide (a233 < 0) = false := decide_eq_false c234
    clear c234
    by_cases c235 : a233 > 1125899906842624
    · have H := if_yes c235 H
      have c235b0 : decide (1125899906842624 < a233) = true := decide_eq_true c235
      clear c235
      go_wp2_with fail
      go_ret
      rw [← some_eq H]
      exact ⟨(by first | rfl | (simp [IntKind.wrap_u32]; done)), (HS.out).keep (l := []) (rest := [])⟩
    · have H := if_no c235 H
      have c235b0 : decide (1125899906842624 < a233) = false := decide_eq_false c235
      clear c235
      go_wp2_with fail
      go_ret
      rw [← some_eq H]
      exact ⟨(by first | rfl | (simp [IntKind.wrap_u32]; done)), (HS.out).keep (l := []) (rest := [])⟩

set_option maxHeartbeats 4000000 in
set_option maxRecDepth 100000 in
theorem quitrentref02_Add.calls (k : Nat) (l218 : List Int) (A219 : Option Addr) (n220 : Nat) (r : Int) (w : World) (HR221 : Aside0 (Kd.C (Kd.int .i64) w A219 l218.length l218)) (HS : Aside0 (Sep (fps []) w [] w)) (H : Aside0 (quitrentref02_Add.f k l218 = some r)) :
    Calls Try.prog 19 #[.slice A219 l218.length n220] w fun e w' => e = .returned (.int .i64 r) ∧ Sep (fps []) w [] w' := by
  unfold quitrentref02_Add.f at H
  go_enter Try.func19, Try.ntmps19
  go_wp2_with fail
  obtain ⟨o223, AL224, H⟩ := bind_some H
  go_loopg [3, 4] k (fun kq v3 v4 wc => ∃ (x227 : Int) (x228 : Int), v3 = .int .i64 x227 ∧ v4 = .int .i64 x228 ∧ Aside0 (quitrentref02_Add.lo0 kq l218 x227 x228 = some o223) ∧ Aside0 (Sep (fps []) w [] wc))
  case atStart => exact ⟨(0), (0), (by first | rfl | (simp [IntKind.wrap_u32]; done)), (by first | rfl | (simp [IntKind.wrap_u32]; done)), AL224, ⟨HS.out⟩⟩
  case round =>
    clear AL224 HS
    obtain ⟨x227, x228, rfl, rfl, AL224, HS⟩ := hrel
    obtain ⟨w225, rfl⟩ : ∃ x : World, x = wr := ⟨_, rfl⟩
    cases gk with
    | zero => exact absurd AL224.out (by simp [quitrentref02_Add.lo0])
    | succ k226 =>
      have AL0 := AL224.out
      rw [quitrentref02_Add.lo0] at AL0
      clear AL224
      have AL224 := Aside0.mk AL0
      clear AL0
      by_cases c229 : x228 < (l218.length : Int)
      · have AL224 := if_yes c229 AL224
        have c229b0 : decide (x228 < (l218.length : Int)) = true := decide_eq_true c229
        clear c229
        by_cases c230 : 0 ≤ x228
        · have AL224 := if_yes c230 AL224
          have c230b0 : decide (0 ≤ x228) = true := decide_eq_true c230
          have c230p : (0 ≤ x228) = True := eq_true c230
          clear c230
          have ip231 : (x228 < (l218.length : Int)) = True := eq_true (of_decide_eq_true c229b0)
          obtain ⟨hx232a, hx232e, hx232⟩ := Kd.at_int (Kd.C_below HR221.out HS.out.fr.below) x228 (of_decide_eq_true c230b0) (of_decide_eq_true c229b0); cases hx232e
          go_wp2_with fail
          clear hx232
          obtain ⟨t236, HA237, AL224⟩ := bind_some AL224
          refine (quitrentref02_Counts.calls (rd l218 x228) t236 _ ⟨HS.out.begin (l := []) (rest := [])⟩ HA237).mono ?_
          rintro e_ w238 ⟨rfl, hS⟩
          have HS_ : Aside0 (Sep (fps []) w [] w238) := ⟨HS.out.call (l := []) (rest := []) hS⟩
          clear HS hS
          have HS := HS_
          clear HS_
          go_wp2_with fail
          obtain ⟨t239, HA240, AL224⟩ := bind_some AL224
          refine (quitrentref02_Counts.calls (wrap64 (x227 + t236)) t239 _ ⟨HS.out.begin (l := []) (rest := [])⟩ HA240).mono ?_
          rintro e_ w241 ⟨rfl, hS⟩
          have HS_ : Aside0 (Sep (fps []) w [] w241) := ⟨HS.out.call (l := []) (rest := []) hS⟩
          clear HS hS
          have HS := HS_
          clear HS_
          go_wp2_with fail
          go_roundg k226
          case measure => exact Nat.lt_succ_self _
          case rel => exact ⟨(t239), (wrap64 (x228 + 1)), (by first | rfl | (simp [IntKind.wrap_u32]; done)), (by first | rfl | (simp [IntKind.wrap_u32]; done)), Aside0.mk AL224.out, ⟨(HS.out).keep (l := []) (rest := [])⟩⟩
        · have AL224 := if_no c230 AL224
          have c230b0 : decide (0 ≤ x228) = false := decide_eq_false c230
          clear c230
          exact (none_no AL224).elim
      · have AL224 := if_no c229 AL224
        have c229b0 : decide (x228 < (l218.length : Int)) = false := decide_eq_false c229
        clear c229
        have ho := some_eq AL224
        subst ho
        clear AL224
        go_wp2_with fail
        go_ret
        rw [← some_eq H]
        exact ⟨(by first | rfl | (simp [IntKind.wrap_u32]; done)), (HS.out).keep (l := []) (rest := [])⟩

set_option maxHeartbeats 4000000 in
set_option maxRecDepth 100000 in
theorem quitrentref02_Mul.calls (k : Nat) (l250 : List Int) (A251 : Option Addr) (n252 : Nat) (r : Int) (w : World) (HR253 : Aside0 (Kd.C (Kd.int .i64) w A251 l250.length l250)) (HS : Aside0 (Sep (fps []) w [] w)) (H : Aside0 (quitrentref02_Mul.f k l250 = some r)) :
    Calls Try.prog 21 #[.slice A251 l250.length n252] w fun e w' => e = .returned (.int .i64 r) ∧ Sep (fps []) w [] w' := by
  unfold quitrentref02_Mul.f at H
  go_enter Try.func21, Try.ntmps21
  go_wp2_with fail
  obtain ⟨o268, AL269, H⟩ := bind_some H
  go_loopg [3] k (fun kq v3 wc => ∃ (x272 : Int), v3 = .int .i64 x272 ∧ Aside0 (quitrentref02_Mul.lo0 kq l250 x272 = some o268) ∧ Aside0 (Sep (fps []) w [] wc))
  case atStart => exact ⟨(0), (by first | rfl | (simp [IntKind.wrap_u32]; done)), AL269, ⟨HS.out⟩⟩
  case round =>
    clear AL269 HS
    obtain ⟨x272, rfl, AL269, HS⟩ := hrel
    obtain ⟨w270, rfl⟩ : ∃ x : World, x = wr := ⟨_, rfl⟩
    cases gk with
    | zero => exact absurd AL269.out (by simp [quitrentref02_Mul.lo0])
    | succ k271 =>
      have AL0 := AL269.out
      rw [quitrentref02_Mul.lo0] at AL0
      clear AL269
      have AL269 := Aside0.mk AL0
      clear AL0
      by_cases c273 : x272 < (l250.length : Int)
      · have AL269 := if_yes c273 AL269
        have c273b0 : decide (x272 < (l250.length : Int)) = true := decide_eq_true c273
        clear c273
        by_cases c274 : 0 ≤ x272
        · have AL269 := if_yes c274 AL269
          have c274b0 : decide (0 ≤ x272) = true := decide_eq_true c274
          have c274p : (0 ≤ x272) = True := eq_true c274
          clear c274
          have ip275 : (x272 < (l250.length : Int)) = True := eq_true (of_decide_eq_true c273b0)
          obtain ⟨hx276a, hx276e, hx276⟩ := Kd.at_int (Kd.C_below HR253.out HS.out.fr.below) x272 (of_decide_eq_true c274b0) (of_decide_eq_true c273b0); cases hx276e
          go_wp2_with fail
          clear hx276
          obtain ⟨t264, HA277, AL269⟩ := bind_some AL269
          refine (quitrentref02_Counts.calls (rd l250 x272) t264 _ ⟨HS.out.begin (l := []) (rest := [])⟩ HA277).mono ?_
          rintro e_ w278 ⟨rfl, hS⟩
          have HS_ : Aside0 (Sep (fps []) w [] w278) := ⟨HS.out.call (l := []) (rest := []) hS⟩
          clear HS hS
          have HS := HS_
          clear HS_
          by_cases c279 : t264 = 0
          · have AL269 := if_yes c279 AL269
            have c279b0 : (t264 == 0) = true := beq_iff_eq.mpr c279
            have c279b1 : (t264 != 0) = false := bne_eq_false_iff_eq.mpr c279
            clear c279
            go_wp2_with fail
            have ho := some_eq AL269
            subst ho
            have H := lp_ret H
            go_ret
            rw [← some_eq H]
            exact ⟨(by first | rfl | (simp [IntKind.wrap_u32]; done)), (HS.out).keep (l := []) (rest := [])⟩
          · have AL269 := if_no c279 AL269
            have c279b0 : (t264 == 0) = false := beq_eq_false_iff_ne.mpr c279
            have c279b1 : (t264 != 0) = true := bne_iff_ne.mpr c279
            clear c279
            go_wp2_with fail
            go_roundg k271
            case measure => exact Nat.lt_succ_self _
            case rel => exact ⟨(wrap64 (x272 + 1)), (by first | rfl | (simp [IntKind.wrap_u32]; done)), Aside0.mk AL269.out, ⟨(HS.out).keep (l := []) (rest := [])⟩⟩
        · have AL269 := if_no c274 AL269
          have c274b0 : decide (0 ≤ x272) = false := decide_eq_false c274
          clear c274
          exact (none_no AL269).elim
      · have AL269 := if_no c273 AL269
        have c273b0 : decide (x272 < (l250.length : Int)) = false := decide_eq_false c273
        clear c273
        have ho := some_eq AL269
        subst ho
        clear AL269
        have H := lp_out H
        go_wp2_with fail
        obtain ⟨o281, AL282, H⟩ := bind_some H
        go_loopg [4, 5] k (fun kq v4 v5 wc => ∃ (x285 : Int) (x286 : Int), v4 = .int .i64 x285 ∧ v5 = .int .i64 x286 ∧ Aside0 (quitrentref02_Mul.lo1 kq l250 x285 x286 = some o281) ∧ Aside0 (Sep (fps []) w [] wc))
        case atStart => exact ⟨(1), (0), (by first | rfl | (simp [IntKind.wrap_u32]; done)), (by first | rfl | (simp [IntKind.wrap_u32]; done)), AL282, ⟨HS.out⟩⟩
        case round =>
          clear AL282 HS
          obtain ⟨x285, x286, rfl, rfl, AL282, HS⟩ := hrel
          obtain ⟨w283, rfl⟩ : ∃ x : World, x = wr := ⟨_, rfl⟩
          cases gk with
          | zero => exact absurd AL282.out (by simp [quitrentref02_Mul.lo1])
          | succ k284 =>
            have AL0 := AL282.out
            rw [quitrentref02_Mul.lo1] at AL0
            clear AL282
            have AL282 := Aside0.mk AL0
            clear AL0
            by_cases c287 : x286 < (l250.length : Int)
            · have AL282 := if_yes c287 AL282
              have c287b0 : decide (x286 < (l250.length : Int)) = true := decide_eq_true c287
              clear c287
              by_cases c288 : 0 ≤ x286
              · have AL282 := if_yes c288 AL282
                have c288b0 : decide (0 ≤ x286) = true := decide_eq_true c288
                have c288p : (0 ≤ x286) = True := eq_true c288
                clear c288
                have ip289 : (x286 < (l250.length : Int)) = True := eq_true (of_decide_eq_true c287b0)
                obtain ⟨hx290a, hx290e, hx290⟩ := Kd.at_int (Kd.C_below HR253.out HS.out.fr.below) x286 (of_decide_eq_true c288b0) (of_decide_eq_true c287b0); cases hx290e
                go_wp2_with fail
                clear hx290
                obtain ⟨t291, HA292, AL282⟩ := bind_some AL282
                refine (quitrentref02_Counts.calls (rd l250 x286) t291 _ ⟨HS.out.begin (l := []) (rest := [])⟩ HA292).mono ?_
                rintro e_ w293 ⟨rfl, hS⟩
                have HS_ : Aside0 (Sep (fps []) w [] w293) := ⟨HS.out.call (l := []) (rest := []) hS⟩
                clear HS hS
                have HS := HS_
                clear HS_
                by_cases c294 : t291 = 0
                · have AL282 := if_yes c294 AL282
                  have c294b0 : (t291 == 0) = true := beq_iff_eq.mpr c294
                  have c294b1 : (t291 != 0) = false := bne_eq_false_iff_eq.mpr c294
                  exact (none_no AL282).elim
                · have AL282 := if_no c294 AL282
                  have c294b0 : (t291 == 0) = false := beq_eq_false_iff_ne.mpr c294
                  have c294b1 : (t291 != 0) = true := bne_iff_ne.mpr c294
                  by_cases c295 : x285 > (wrap64 (Int.tdiv (1125899906842624 : Int) t291))
                  · have AL282 := if_yes c295 AL282
                    have c295b0 : decide ((wrap64 (Int.tdiv (1125899906842624 : Int) t291)) < x285) = true := decide_eq_true c295
                    clear c295
                    skip
                    go_wp2_with fail
                    clear c294
                    go_roundg k284
                    case measure => exact Nat.lt_succ_self _
                    case rel => exact ⟨(1125899906842624), (wrap64 (x286 + 1)), (by first | rfl | (simp [IntKind.wrap_u32]; done)), (by first | rfl | (simp [IntKind.wrap_u32]; done)), Aside0.mk AL282.out, ⟨(HS.out).keep (l := []) (rest := [])⟩⟩
                  · have AL282 := if_no c295 AL282
                    have c295b0 : decide ((wrap64 (Int.tdiv (1125899906842624 : Int) t291)) < x285) = false := decide_eq_false c295
                    clear c295
                    skip
                    go_wp2_with fail
                    clear c294
                    go_roundg k284
                    case measure => exact Nat.lt_succ_self _
                    case rel => exact ⟨(wrap64 (x285 * t291)), (wrap64 (x286 + 1)), (by first | rfl | (simp [IntKind.wrap_u32]; done)), (by first | rfl | (simp [IntKind.wrap_u32]; done)), Aside0.mk AL282.out, ⟨(HS.out).keep (l := []) (rest := [])⟩⟩
              · have AL282 := if_no c288 AL282
                have c288b0 : decide (0 ≤ x286) = false := decide_eq_false c288
                clear c288
                exact (none_no AL282).elim
            · have AL282 := if_no c287 AL282
              have c287b0 : decide (x286 < (l250.length : Int)) = false := decide_eq_false c287
              clear c287
              have ho := some_eq AL282
              subst ho
              clear AL282
              go_wp2_with fail
              go_ret
              rw [← some_eq H]
              exact ⟨(by first | rfl | (simp [IntKind.wrap_u32]; done)), (HS.out).keep (l := []) (rest := [])⟩

set_option maxHeartbeats 4000000 in
set_option maxRecDepth 100000 in
theorem quitrentlaw02_RatioSums.calls (k : Nat) (l1 : List Int) (a5 : Int) (a6 : Int) (A2 : Option Addr) (n3 : Nat) (r : Bool) (w : World) (HR4 : Aside0 (Kd.C (Kd.int .i64) w A2 l1.length l1)) (HS : Aside0 (Sep (fps []) w [] w)) (H : Aside0 (quitrentlaw02_RatioSums.f k l1 a5 a6 = some r)) :
    Calls Try.prog 3 #[.slice A2 l1.length n3, .int .i64 a5, .int .i64 a6] w fun e w' => e = .returned (.bool r) ∧ Sep (fps []) w [] w' := by
  unfold quitrentlaw02_RatioSums.f at H
  go_enter Try.func3, Try.ntmps3
  by_cases c7 : (l1.length : Int) > 100
  · have H := if_yes c7 H
    have c7b0 : decide (100 < (l1.length : Int)) = true := decide_eq_true c7
    have c7b1 : decide (100 < l1.length) = true := decide_eq_true (by omega)
    clear c7
    go_wp2_with fail
    obtain ⟨t173, HA174, H⟩ := bind_some H
    refine (quitrentlaw02_begun.calls _ t173 _ ⟨HS.out.begin (l := []) (rest := [])⟩ HA174).mono ?_
    rintro e_ w175 ⟨rfl, hS⟩
    have HS_ : Aside0 (Sep (fps []) w [] w175) := ⟨HS.out.call (l := []) (rest := []) hS⟩
    clear HS hS
    have HS := HS_
    clear HS_
    go_wp2_with fail
    go_ret
    rw [← some_eq H]
    exact ⟨(by first | rfl | (simp [IntKind.wrap_u32]; done)), (HS.out).keep (l := []) (rest := [])⟩
  · have H := if_no c7 H
    have c7b0 : decide (100 < (l1.length : Int)) = false := decide_eq_false c7
    have c7b1 : decide (100 < l1.length) = false := decide_eq_false (by omega)
    clear c7
    go_wp2_with fail
    obtain ⟨o191, AL192, H⟩ := bind_some H
    go_loopg [16] k (fun kq v16 wc => ∃ (x195 : Int), v16 = .int .i64 x195 ∧ Aside0 (quitrentlaw02_RatioSums.lo0 kq l1 a5 a6 x195 = some o191) ∧ Aside0 (Sep (fps []) w [] wc))
    case atStart => exact ⟨(0), (by first | rfl | (simp [IntKind.wrap_u32]; done)), AL192, ⟨HS.out⟩⟩
    case round =>
      clear AL192 HS
      obtain ⟨x195, rfl, AL192, HS⟩ := hrel
      obtain ⟨w193, rfl⟩ : ∃ x : World, x = wr := ⟨_, rfl⟩
      cases gk with
      | zero => exact absurd AL192.out (by simp [quitrentlaw02_RatioSums.lo0])
      | succ k194 =>
        have AL0 := AL192.out
        rw [quitrentlaw02_RatioSums.lo0] at AL0
        clear AL192
        have AL192 := Aside0.mk AL0
        clear AL0
        by_cases c196 : x195 < (l1.length : Int)
        · have AL192 := if_yes c196 AL192
          have c196b0 : decide (x195 < (l1.length : Int)) = true := decide_eq_true c196
          clear c196
          by_cases c197 : 0 ≤ x195
          · have AL192 := if_yes c197 AL192
            have c197b0 : decide (0 ≤ x195) = true := decide_eq_true c197
            have c197p : (0 ≤ x195) = True := eq_true c197
            clear c197
            have ip198 : (x195 < (l1.length : Int)) = True := eq_true (of_decide_eq_true c196b0)
            by_cases c200 : (rd l1 x195) > a6
            · have AL192 := if_yes c200 AL192
              have c200b0 : decide (a6 < (rd l1 x195)) = true := decide_eq_true c200
              clear c200
              obtain ⟨hx199a, hx199e, hx199⟩ := Kd.at_int (Kd.C_below HR4.out HS.out.fr.below) x195 (of_decide_eq_true c197b0) (of_decide_eq_true c196b0); cases hx199e
              go_wp2_with fail
              clear hx199
              obtain ⟨t187, HA201, AL192⟩ := bind_some AL192
              refine (ratio_Clamp.calls (rd l1 x195) a5 a6 t187 _ ⟨HS.out.begin (l := []) (rest := [])⟩ HA201).mono ?_
              rintro e_ w202 ⟨rfl, hS⟩
              have HS_ : Aside0 (Sep (fps []) w [] w202) := ⟨HS.out.call (l := []) (rest := []) hS⟩
              clear HS hS
              have HS := HS_
              clear HS_
              by_cases c203 : t187 = a6
              · have AL192 := if_yes c203 AL192
                have c203b0 : (t187 == a6) = true := beq_iff_eq.mpr c203
                have c203b1 : (t187 != a6) = false := bne_eq_false_iff_eq.mpr c203
                clear c203
                go_wp2_with fail
                go_roundg k194
                case measure => exact Nat.lt_succ_self _
                case rel => exact ⟨(wrap64 (x195 + 1)), (by first | rfl | (simp [IntKind.wrap_u32]; done)), Aside0.mk AL192.out, ⟨(HS.out).keep (l := []) (rest := [])⟩⟩
              · have AL192 := if_no c203 AL192
                have c203b0 : (t187 == a6) = false := beq_eq_false_iff_ne.mpr c203
                have c203b1 : (t187 != a6) = true := bne_iff_ne.mpr c203
                clear c203
                go_wp2_with fail
                have ho := some_eq AL192
                subst ho
                have H := lp_ret H
                go_ret
                rw [← some_eq H]
                exact ⟨(by first | rfl | (simp [IntKind.wrap_u32]; done)), (HS.out).keep (l := []) (rest := [])⟩
            · have AL192 := if_no c200 AL192
              have c200b0 : decide (a6 < (rd l1 x195)) = false := decide_eq_false c200
              clear c200
              by_cases c204 : (rd l1 x195) < a5
              · have AL192 := if_yes c204 AL192
                have c204b0 : decide ((rd l1 x195) < a5) = true := decide_eq_true c204
                clear c204
                obtain ⟨hx199a, hx199e, hx199⟩ := Kd.at_int (Kd.C_below HR4.out HS.out.fr.below) x195 (of_decide_eq_true c197b0) (of_decide_eq_true c196b0); cases hx199e
                go_wp2_with fail
                clear hx199
                obtain ⟨t187, HA205, AL192⟩ := bind_some AL192
                refine (ratio_Clamp.calls (rd l1 x195) a5 a6 t187 _ ⟨HS.out.begin (l := []) (rest := [])⟩ HA205).mono ?_
                rintro e_ w206 ⟨rfl, hS⟩
                have HS_ : Aside0 (Sep (fps []) w [] w206) := ⟨HS.out.call (l := []) (rest := []) hS⟩
                clear HS hS
                have HS := HS_
                clear HS_
                by_cases c207 : t187 = a5
                · have AL192 := if_yes c207 AL192
                  have c207b0 : (t187 == a5) = true := beq_iff_eq.mpr c207
                  have c207b1 : (t187 != a5) = false := bne_eq_false_iff_eq.mpr c207
                  clear c207
                  go_wp2_with fail
                  go_roundg k194
                  case measure => exact Nat.lt_succ_self _
                  case rel => exact ⟨(wrap64 (x195 + 1)), (by first | rfl | (simp [IntKind.wrap_u32]; done)), Aside0.mk AL192.out, ⟨(HS.out).keep (l := []) (rest := [])⟩⟩
                · have AL192 := if_no c207 AL192
                  have c207b0 : (t187 == a5) = false := beq_eq_false_iff_ne.mpr c207
                  have c207b1 : (t187 != a5) = true := bne_iff_ne.mpr c207
                  clear c207
                  go_wp2_with fail
                  have ho := some_eq AL192
                  subst ho
                  have H := lp_ret H
                  go_ret
                  rw [← some_eq H]
                  exact ⟨(by first | rfl | (simp [IntKind.wrap_u32]; done)), (HS.out).keep (l := []) (rest := [])⟩
              · have AL192 := if_no c204 AL192
                have c204b0 : decide ((rd l1 x195) < a5) = false := decide_eq_false c204
                clear c204
                obtain ⟨hx199a, hx199e, hx199⟩ := Kd.at_int (Kd.C_below HR4.out HS.out.fr.below) x195 (of_decide_eq_true c197b0) (of_decide_eq_true c196b0); cases hx199e
                go_wp2_with fail
                clear hx199
                obtain ⟨t187, HA208, AL192⟩ := bind_some AL192
                refine (ratio_Clamp.calls (rd l1 x195) a5 a6 t187 _ ⟨HS.out.begin (l := []) (rest := [])⟩ HA208).mono ?_
                rintro e_ w209 ⟨rfl, hS⟩
                have HS_ : Aside0 (Sep (fps []) w [] w209) := ⟨HS.out.call (l := []) (rest := []) hS⟩
                clear HS hS
                have HS := HS_
                clear HS_
                by_cases c210 : t187 = (rd l1 x195)
                · have AL192 := if_yes c210 AL192
                  have c210b0 : (t187 == (rd l1 x195)) = true := beq_iff_eq.mpr c210
                  have c210b1 : (t187 != (rd l1 x195)) = false := bne_eq_false_iff_eq.mpr c210
                  clear c210
                  go_wp2_with fail
                  go_roundg k194
                  case measure => exact Nat.lt_succ_self _
                  case rel => exact ⟨(wrap64 (x195 + 1)), (by first | rfl | (simp [IntKind.wrap_u32]; done)), Aside0.mk AL192.out, ⟨(HS.out).keep (l := []) (rest := [])⟩⟩
                · have AL192 := if_no c210 AL192
                  have c210b0 : (t187 == (rd l1 x195)) = false := beq_eq_false_iff_ne.mpr c210
                  have c210b1 : (t187 != (rd l1 x195)) = true := bne_iff_ne.mpr c210
                  clear c210
                  go_wp2_with fail
                  have ho := some_eq AL192
                  subst ho
                  have H := lp_ret H
                  go_ret
                  rw [← some_eq H]
                  exact ⟨(by first | rfl | (simp [IntKind.wrap_u32]; done)), (HS.out).keep (l := []) (rest := [])⟩
          · have AL192 := if_no c197 AL192
            have c197b0 : decide (0 ≤ x195) = false := decide_eq_false c197
            clear c197
            exact (none_no AL192).elim
        · have AL192 := if_no c196 AL192
          have c196b0 : decide (x195 < (l1.length : Int)) = false := decide_eq_false c196
          clear c196
          have ho := some_eq AL192
          subst ho
          clear AL192
          have H := lp_out H
          go_wp2_with fail
          obtain ⟨t211, HA212, H⟩ := bind_some H
          refine (quitrentlaw02_begun.calls _ t211 _ ⟨HS.out.begin (l := []) (rest := [])⟩ HA212).mono ?_
          rintro e_ w213 ⟨rfl, hS⟩
          have HS_ : Aside0 (Sep (fps []) w [] w213) := ⟨HS.out.call (l := []) (rest := []) hS⟩
          clear HS hS
          have HS := HS_
          clear HS_
          by_cases c214 : t211 = true
          · have H := if_yes c214 H
            have c214b0 : t211 = true := c214
            clear c214
            go_wp2_with fail
            obtain ⟨t215, HA216, H⟩ := bind_some H
            refine (ratio_Add.calls _ l1 A2 n3 t215 _ ⟨Kd.C_below HR4.out HS.out.fr.below⟩ ⟨HS.out.begin (l := []) (rest := [])⟩ HA216).mono ?_
            rintro e_ w217 ⟨rfl, hS⟩
            have HS_ : Aside0 (Sep (fps []) w [] w217) := ⟨HS.out.call (l := []) (rest := []) hS⟩
            clear HS hS
            have HS := HS_
            clear HS_
            go_wp2_with fail
            obtain ⟨t243, HA244, H⟩ := bind_some H
            refine (quitrentref02_Add.calls _ l1 A2 n3 t243 _ ⟨Kd.C_below HR4.out HS.out.fr.below⟩ ⟨HS.out.begin (l := []) (rest := [])⟩ HA244).mono ?_
            rintro e_ w245 ⟨rfl, hS⟩
            have HS_ : Aside0 (Sep (fps []) w [] w245) := ⟨HS.out.call (l := []) (rest := []) hS⟩
            clear HS hS
            have HS := HS_
            clear HS_
            by_cases c246 : t215 = t243
            · have H := if_yes c246 H
              have c246b0 : (t215 == t243) = true := beq_iff_eq.mpr c246
              have c246b1 : (t215 != t243) = false := bne_eq_false_iff_eq.mpr c246
              clear c246
              go_wp2_with fail
              obtain ⟨t247, HA248, H⟩ := bind_some H
              refine (ratio_Mul.calls _ l1 A2 n3 t247 _ ⟨Kd.C_below HR4.out HS.out.fr.below⟩ ⟨HS.out.begin (l := []) (rest := [])⟩ HA248).mono ?_
              rintro e_ w249 ⟨rfl, hS⟩
              have HS_ : Aside0 (Sep (fps []) w [] w249) := ⟨HS.out.call (l := []) (rest := []) hS⟩
              clear HS hS
              have HS := HS_
              clear HS_
              go_wp2_with fail
              obtain ⟨t313, HA314, H⟩ := bind_some H
              refine (quitrentref02_Mul.calls _ l1 A2 n3 t313 _ ⟨Kd.C_below HR4.out HS.out.fr.below⟩ ⟨HS.out.begin (l := []) (rest := [])⟩ HA314).mono ?_
              rintro e_ w315 ⟨rfl, hS⟩
              have HS_ : Aside0 (Sep (fps []) w [] w315) := ⟨HS.out.call (l := []) (rest := []) hS⟩
              clear HS hS
              have HS := HS_
              clear HS_
              go_wp2_with fail
              go_ret
              rw [← some_eq H]
              exact ⟨(by first | rfl | (simp [IntKind.wrap_u32]; done)), (HS.out).keep (l := []) (rest := [])⟩
            · have H := if_no c246 H
              have c246b0 : (t215 == t243) = false := beq_eq_false_iff_ne.mpr c246
              have c246b1 : (t215 != t243) = true := bne_iff_ne.mpr c246
              clear c246
              go_wp2_with fail
              go_ret
              rw [← some_eq H]
              exact ⟨(by first | rfl | (simp [IntKind.wrap_u32]; done)), (HS.out).keep (l := []) (rest := [])⟩
          · have H := if_no c214 H
            have c214b0 : t211 = false := by simpa using c214
            clear c214
            go_wp2_with fail
            go_ret
            rw [← some_eq H]
            exact ⟨(by first | rfl | (simp [IntKind.wrap_u32]; done)), (HS.out).keep (l := []) (rest := [])⟩

set_option maxHeartbeats 4000000 in
set_option maxRecDepth 100000 in
theorem quitrentref02_By.calls (a343 : Int) (r : Int) (w : World)  (HS : Aside0 (Sep (fps []) w [] w)) (H : Aside0 (quitrentref02_By.f a343 = some r)) :
    Calls Try.prog 55 #[.int .i64 a343] w fun e w' => e = .returned (.int .i64 r) ∧ Sep (fps []) w [] w' := by
  unfold quitrentref02_By.f at H
  go_enter Try.func55, Try.ntmps55
  go_wp2_with fail
  obtain ⟨t344, HA345, H⟩ := bind_some H
  refine (quitrentref02_Counts.calls a343 t344 _ ⟨HS.out.begin (l := []) (rest := [])⟩ HA345).mono ?_
  rintro e_ w346 ⟨rfl, hS⟩
  have HS_ : Aside0 (Sep (fps []) w [] w346) := ⟨HS.out.call (l := []) (rest := []) hS⟩
  clear HS hS
  have HS := HS_
  clear HS_
  by_cases c347 : t344 = 0
  · have H := if_yes c347 H
    have c347b0 : (t344 == 0) = true := beq_iff_eq.mpr c347
    have c347b1 : (t344 != 0) = false := bne_eq_false_iff_eq.mpr c347
    clear c347
    go_wp2_with fail
    go_ret
    rw [← some_eq H]
    exact ⟨(by first | rfl | (simp [IntKind.wrap_u32]; done)), (HS.out).keep (l := []) (rest := [])⟩
  · have H := if_no c347 H
    have c347b0 : (t344 == 0) = false := beq_eq_false_iff_ne.mpr c347
    have c347b1 : (t344 != 0) = true := bne_iff_ne.mpr c347
    clear c347
    go_wp2_with fail
    obtain ⟨t348, HA349, H⟩ := bind_some H
    refine (quitrentref02_Counts.calls a343 t348 _ ⟨HS.out.begin (l := []) (rest := [])⟩ HA349).mono ?_
    rintro e_ w350 ⟨rfl, hS⟩
    have HS_ : Aside0 (Sep (fps []) w [] w350) := ⟨HS.out.call (l := []) (rest := []) hS⟩
    clear HS hS
    have HS := HS_
    clear HS_
    go_wp2_with fail
    go_ret
    rw [← some_eq H]
    exact ⟨(by first | rfl | (simp [IntKind.wrap_u32]; done)), (HS.out).keep (l := []) (rest := [])⟩

set_option maxHeartbeats 4000000 in
set_option maxRecDepth 100000 in
theorem quitrentref02_Down.calls (a338 : Int) (a339 : Int) (r : Int) (w : World)  (HS : Aside0 (Sep (fps []) w [] w)) (H : Aside0 (quitrentref02_Down.f a338 a339 = some r)) :
    Calls Try.prog 23 #[.int .i64 a338, .int .i64 a339] w fun e w' => e = .returned (.int .i64 r) ∧ Sep (fps []) w [] w' := by
  unfold quitrentref02_Down.f at H
  go_enter Try.func23, Try.ntmps23
  go_wp2_with fail
  obtain ⟨t340, HA341, H⟩ := bind_some H
  refine (quitrentref02_Counts.calls a338 t340 _ ⟨HS.out.begin (l := []) (rest := [])⟩ HA341).mono ?_
  rintro e_ w342 ⟨rfl, hS⟩
  have HS_ : Aside0 (Sep (fps []) w [] w342) := ⟨HS.out.call (l := []) (rest := []) hS⟩
  clear HS hS
  have HS := HS_
  clear HS_
  go_wp2_with fail
  obtain ⟨t351, HA352, H⟩ := bind_some H
  refine (quitrentref02_By.calls a339 t351 _ ⟨HS.out.begin (l := []) (rest := [])⟩ HA352).mono ?_
  rintro e_ w353 ⟨rfl, hS⟩
  have HS_ : Aside0 (Sep (fps []) w [] w353) := ⟨HS.out.call (l := []) (rest := []) hS⟩
  clear HS hS
  have HS := HS_
  clear HS_
  by_cases c354 : t351 = 0
  · have H := if_yes c354 H
    have c354b0 : (t351 == 0) = true := beq_iff_eq.mpr c354
    have c354b1 : (t351 != 0) = false := bne_eq_false_iff_eq.mpr c354
    exact (none_no H).elim
  · have H := if_no c354 H
    have c354b0 : (t351 == 0) = false := beq_eq_false_iff_ne.mpr c354
    have c354b1 : (t351 != 0) = true := bne_iff_ne.mpr c354
    skip
    go_wp2_with fail
    clear c354
    go_ret
    rw [← some_eq H]
    exact ⟨(by first | rfl | (simp [IntKind.wrap_u32]; done)), (HS.out).keep (l := []) (rest := [])⟩

set_option maxHeartbeats 4000000 in
set_option maxRecDepth 100000 in
theorem quitrentref02_Up.calls (a362 : Int) (a363 : Int) (r : Int) (w : World)  (HS : Aside0 (Sep (fps []) w [] w)) (H : Aside0 (quitrentref02_Up.f a362 a363 = some r)) :
    Calls Try.prog 25 #[.int .i64 a362, .int .i64 a363] w fun e w' => e = .returned (.int .i64 r) ∧ Sep (fps []) w [] w' := by
  unfold quitrentref02_Up.f at H
  go_enter Try.func25, Try.ntmps25
  go_wp2_with fail
  obtain ⟨t364, HA365, H⟩ := bind_some H
  refine (quitrentref02_Down.calls a362 a363 t364 _ ⟨HS.out.begin (l := []) (rest := [])⟩ HA365).mono ?_
  rintro e_ w366 ⟨rfl, hS⟩
  have HS_ : Aside0 (Sep (fps []) w [] w366) := ⟨HS.out.call (l := []) (rest := []) hS⟩
  clear HS hS
  have HS := HS_
  clear HS_
  go_wp2_with fail
  obtain ⟨t367, HA368, H⟩ := bind_some H
  refine (quitrentref02_Counts.calls a362 t367 _ ⟨HS.out.begin (l := []) (rest := [])⟩ HA368).mono ?_
  rintro e_ w369 ⟨rfl, hS⟩
  have HS_ : Aside0 (Sep (fps []) w [] w369) := ⟨HS.out.call (l := []) (rest := []) hS⟩
  clear HS hS
  have HS := HS_
  clear HS_
  go_wp2_with fail
  obtain ⟨t370, HA371, H⟩ := bind_some H
  refine (quitrentref02_By.calls a363 t370 _ ⟨HS.out.begin (l := []) (rest := [])⟩ HA371).mono ?_
  rintro e_ w372 ⟨rfl, hS⟩
  have HS_ : Aside0 (Sep (fps []) w [] w372) := ⟨HS.out.call (l := []) (rest := []) hS⟩
  clear HS hS
  have HS := HS_
  clear HS_
  by_cases c373 : t370 = 0
  · have H := if_yes c373 H
    have c373b0 : (t370 == 0) = true := beq_iff_eq.mpr c373
    have c373b1 : (t370 != 0) = false := bne_eq_false_iff_eq.mpr c373
    exact (none_no H).elim
  · have H := if_no c373 H
    have c373b0 : (t370 == 0) = false := beq_eq_false_iff_ne.mpr c373
    have c373b1 : (t370 != 0) = true := bne_iff_ne.mpr c373
    by_cases c374 : (Int.tmod t367 t370) > 0
    · have H := if_yes c374 H
      have c374b0 : decide (0 < (Int.tmod t367 t370)) = true := decide_eq_true c374
      clear c374
      skip
      go_wp2_with fail
      clear c373
      go_ret
      rw [← some_eq H]
      exact ⟨(by first | rfl | (simp [IntKind.wrap_u32]; done)), (HS.out).keep (l := []) (rest := [])⟩
    · have H := if_no c374 H
      have c374b0 : decide (0 < (Int.tmod t367 t370)) = false := decide_eq_false c374
      clear c374
      skip
      go_wp2_with fail
      clear c373
      go_ret
      rw [← some_eq H]
      exact ⟨(by first | rfl | (simp [IntKind.wrap_u32]; done)), (HS.out).keep (l := []) (rest := [])⟩

set_option maxHeartbeats 4000000 in
set_option maxRecDepth 100000 in
theorem quitrentlaw02_RatioShares.calls (k : Nat) (a329 : Int) (a330 : Int) (r : Bool) (w : World)  (HS : Aside0 (Sep (fps []) w [] w)) (H : Aside0 (quitrentlaw02_RatioShares.f k a329 a330 = some r)) :
    Calls Try.prog 4 #[.int .i64 a329, .int .i64 a330] w fun e w' => e = .returned (.bool r) ∧ Sep (fps []) w [] w' := by
  unfold quitrentlaw02_RatioShares.f at H
  go_enter Try.func4, Try.ntmps4
  go_wp2_with fail
  obtain ⟨t331, HA332, H⟩ := bind_some H
  refine (quitrentlaw02_begun.calls _ t331 _ ⟨HS.out.begin (l := []) (rest := [])⟩ HA332).mono ?_
  rintro e_ w333 ⟨rfl, hS⟩
  have HS_ : Aside0 (Sep (fps []) w [] w333) := ⟨HS.out.call (l := []) (rest := []) hS⟩
  clear HS hS
  have HS := HS_
  clear HS_
  by_cases c334 : t331 = true
  · have H := if_yes c334 H
    have c334b0 : t331 = true := c334
    clear c334
    go_wp2_with fail
    obtain ⟨t335, HA336, H⟩ := bind_some H
    refine (ratio_Down.calls a329 a330 t335 _ ⟨HS.out.begin (l := []) (rest := [])⟩ HA336).mono ?_
    rintro e_ w337 ⟨rfl, hS⟩
    have HS_ : Aside0 (Sep (fps []) w [] w337) := ⟨HS.out.call (l := []) (rest := []) hS⟩
    clear HS hS
    have HS := HS_
    clear HS_
    go_wp2_with fail
    obtain ⟨t355, HA356, H⟩ := bind_some H
    refine (quitrentref02_Down.calls a329 a330 t355 _ ⟨HS.out.begin (l := []) (rest := [])⟩ HA356).mono ?_
    rintro e_ w357 ⟨rfl, hS⟩
    have HS_ : Aside0 (Sep (fps []) w [] w357) := ⟨HS.out.call (l := []) (rest := []) hS⟩
    clear HS hS
    have HS := HS_
    clear HS_
    by_cases c358 : t335 = t355
    · have H := if_yes c358 H
      have c358b0 : (t335 == t355) = true := beq_iff_eq.mpr c358
      have c358b1 : (t335 != t355) = false := bne_eq_false_iff_eq.mpr c358
      clear c358
      go_wp2_with fail
      obtain ⟨t359, HA360, H⟩ := bind_some H
      refine (ratio_Up.calls a329 a330 t359 _ ⟨HS.out.begin (l := []) (rest := [])⟩ HA360).mono ?_
      rintro e_ w361 ⟨rfl, hS⟩
      have HS_ : Aside0 (Sep (fps []) w [] w361) := ⟨HS.out.call (l := []) (rest := []) hS⟩
      clear HS hS
      have HS := HS_
      clear HS_
      go_wp2_with fail
      obtain ⟨t375, HA376, H⟩ := bind_some H
      refine (quitrentref02_Up.calls a329 a330 t375 _ ⟨HS.out.begin (l := []) (rest := [])⟩ HA376).mono ?_
      rintro e_ w377 ⟨rfl, hS⟩
      have HS_ : Aside0 (Sep (fps []) w [] w377) := ⟨HS.out.call (l := []) (rest := []) hS⟩
      clear HS hS
      have HS := HS_
      clear HS_
      go_wp2_with fail
      go_ret
      rw [← some_eq H]
      exact ⟨(by first | rfl | (simp [IntKind.wrap_u32]; done)), (HS.out).keep (l := []) (rest := [])⟩
    · have H := if_no c358 H
      have c358b0 : (t335 == t355) = false := beq_eq_false_iff_ne.mpr c358
      have c358b1 : (t335 != t355) = true := bne_iff_ne.mpr c358
      clear c358
      go_wp2_with fail
      go_ret
      rw [← some_eq H]
      exact ⟨(by first | rfl | (simp [IntKind.wrap_u32]; done)), (HS.out).keep (l := []) (rest := [])⟩
  · have H := if_no c334 H
    have c334b0 : t331 = false := by simpa using c334
    clear c334
    go_wp2_with fail
    go_ret
    rw [← some_eq H]
    exact ⟨(by first | rfl | (simp [IntKind.wrap_u32]; done)), (HS.out).keep (l := []) (rest := [])⟩

set_option maxHeartbeats 4000000 in
set_option maxRecDepth 100000 in
theorem quitrentref02_Least.calls (a387 : Int) (a388 : Int) (r : Int) (w : World)  (HS : Aside0 (Sep (fps []) w [] w)) (H : Aside0 (quitrentref02_Least.f a387 a388 = some r)) :
    Calls Try.prog 27 #[.int .i64 a387, .int .i64 a388] w fun e w' => e = .returned (.int .i64 r) ∧ Sep (fps []) w [] w' := by
  unfold quitrentref02_Least.f at H
  go_enter Try.func27, Try.ntmps27
  go_wp2_with fail
  obtain ⟨t389, HA390, H⟩ := bind_some H
  refine (quitrentref02_Counts.calls a387 t389 _ ⟨HS.out.begin (l := []) (rest := [])⟩ HA390).mono ?_
  rintro e_ w391 ⟨rfl, hS⟩
  have HS_ : Aside0 (Sep (fps []) w [] w391) := ⟨HS.out.call (l := []) (rest := []) hS⟩
  clear HS hS
  have HS := HS_
  clear HS_
  by_cases c392 : t389 = 0
  · have H := if_yes c392 H
    have c392b0 : (t389 == 0) = true := beq_iff_eq.mpr c392
    have c392b1 : (t389 != 0) = false := bne_eq_false_iff_eq.mpr c392
    clear c392
    go_wp2_with fail
    go_ret
    rw [← some_eq H]
    exact ⟨(by first | rfl | (simp [IntKind.wrap_u32]; done)), (HS.out).keep (l := []) (rest := [])⟩
  · have H := if_no c392 H
    have c392b0 : (t389 == 0) = false := beq_eq_false_iff_ne.mpr c392
    have c392b1 : (t389 != 0) = true := bne_iff_ne.mpr c392
    clear c392
    go_wp2_with fail
    obtain ⟨t393, HA394, H⟩ := bind_some H
    refine (quitrentref02_Counts.calls a388 t393 _ ⟨HS.out.begin (l := []) (rest := [])⟩ HA394).mono ?_
    rintro e_ w395 ⟨rfl, hS⟩
    have HS_ : Aside0 (Sep (fps []) w [] w395) := ⟨HS.out.call (l := []) (rest := []) hS⟩
    clear HS hS
    have HS := HS_
    clear HS_
    by_cases c396 : t393 = 0
    · have H := if_yes c396 H
      have c396b0 : (t393 == 0) = true := beq_iff_eq.mpr c396
      have c396b1 : (t393 != 0) = false := bne_eq_false_iff_eq.mpr c396
      clear c396
      go_wp2_with fail
      go_ret
      rw [← some_eq H]
      exact ⟨(by first | rfl | (simp [IntKind.wrap_u32]; done)), (HS.out).keep (l := []) (rest := [])⟩
    · have H := if_no c396 H
      have c396b0 : (t393 == 0) = false := beq_eq_false_iff_ne.mpr c396
      have c396b1 : (t393 != 0) = true := bne_iff_ne.mpr c396
      clear c396
      go_wp2_with fail
      obtain ⟨t397, HA398, H⟩ := bind_some H
      refine (quitrentref02_Up.calls a387 a388 t397 _ ⟨HS.out.begin (l := []) (rest := [])⟩ HA398).mono ?_
      rintro e_ w399 ⟨rfl, hS⟩
      have HS_ : Aside0 (Sep (fps []) w [] w399) := ⟨HS.out.call (l := []) (rest := []) hS⟩
      clear HS hS
      have HS := HS_
      clear HS_
      go_wp2_with fail
      go_ret
      rw [← some_eq H]
      exact ⟨(by first | rfl | (simp [IntKind.wrap_u32]; done)), (HS.out).keep (l := []) (rest := [])⟩

set_option maxHeartbeats 4000000 in
set_option maxRecDepth 100000 in
theorem quitrentlaw02_RatioLeast.calls (k : Nat) (a378 : Int) (a379 : Int) (r : Bool) (w : World)  (HS : Aside0 (Sep (fps []) w [] w)) (H : Aside0 (quitrentlaw02_RatioLeast.f k a378 a379 = some r)) :
    Calls Try.prog 5 #[.int .i64 a378, .int .i64 a379] w fun e w' => e = .returned (.bool r) ∧ Sep (fps []) w [] w' := by
  unfold quitrentlaw02_RatioLeast.f at H
  go_enter Try.func5, Try.ntmps5
  go_wp2_with fail
  obtain ⟨t380, HA381, H⟩ := bind_some H
  refine (ratio_Least.calls a378 a379 t380 _ ⟨HS.out.begin (l := []) (rest := [])⟩ HA381).mono ?_
  rintro e_ w382 ⟨rfl, hS⟩
  have HS_ : Aside0 (Sep (fps []) w [] w382) := ⟨HS.out.call (l := []) (rest := []) hS⟩
  clear HS hS
  have HS := HS_
  clear HS_
  go_wp2_with fail
  obtain ⟨t383, HA384, H⟩ := bind_some H
  refine (quitrentlaw02_begun.calls _ t383 _ ⟨HS.out.begin (l := []) (rest := [])⟩ HA384).mono ?_
  rintro e_ w385 ⟨rfl, hS⟩
  have HS_ : Aside0 (Sep (fps []) w [] w385) := ⟨HS.out.call (l := []) (rest := []) hS⟩
  clear HS hS
  have HS := HS_
  clear HS_
  by_cases c386 : t383 = true
  · have H := if_yes c386 H
    have c386b0 : t383 = true := c386
    clear c386
    go_wp2_with fail
    obtain ⟨t400, HA401, H⟩ := bind_some H
    refine (quitrentref02_Least.calls a378 a379 t400 _ ⟨HS.out.begin (l := []) (rest := [])⟩ HA401).mono ?_
    rintro e_ w402 ⟨rfl, hS⟩
    have HS_ : Aside0 (Sep (fps []) w [] w402) := ⟨HS.out.call (l := []) (rest := []) hS⟩
    clear HS hS
    have HS := HS_
    clear HS_
    by_cases c403 : t380 = t400
    · have H := if_yes c403 H
      have c403b0 : (t380 == t400) = true := beq_iff_eq.mpr c403
      have c403b1 : (t380 != t400) = false := bne_eq_false_iff_eq.mpr c403
      clear c403
      go_wp2_with fail
      obtain ⟨t404, HA405, H⟩ := bind_some H
      refine (quitrentref02_Counts.calls a379 t404 _ ⟨HS.out.begin (l := []) (rest := [])⟩ HA405).mono ?_
      rintro e_ w406 ⟨rfl, hS⟩
      have HS_ : Aside0 (Sep (fps []) w [] w406) := ⟨HS.out.call (l := []) (rest := []) hS⟩
      clear HS hS
      have HS := HS_
      clear HS_
      by_cases c407 : t380 = 0
      · have H := if_yes c407 H
        have c407b0 : (t380 == 0) = true := beq_iff_eq.mpr c407
        have c407b1 : (t380 != 0) = false := bne_eq_false_iff_eq.mpr c407
        clear c407
        by_cases c408 : t404 = 0
        · have H := if_yes c408 H
          have c408b0 : (t404 == 0) = true := beq_iff_eq.mpr c408
          have c408b1 : (t404 != 0) = false := bne_eq_false_iff_eq.mpr c408
          clear c408
          go_wp2_with fail
          obtain ⟨t409, HA410, H⟩ := bind_some H
          refine (quitrentref02_Counts.calls a378 t409 _ ⟨HS.out.begin (l := []) (rest := [])⟩ HA410).mono ?_
          rintro e_ w411 ⟨rfl, hS⟩
          have HS_ : Aside0 (Sep (fps []) w [] w411) := ⟨HS.out.call (l := []) (rest := []) hS⟩
          clear HS hS
          have HS := HS_
          clear HS_
          go_wp2_with fail
          go_ret
          rw [← some_eq H]
          exact ⟨(by first | rfl | (simp [IntKind.wrap_u32]; done)), (HS.out).keep (l := []) (rest := [])⟩
        · have H := if_no c408 H
          have c408b0 : (t404 == 0) = false := beq_eq_false_iff_ne.mpr c408
          have c408b1 : (t404 != 0) = true := bne_iff_ne.mpr c408
          clear c408
          go_wp2_with fail
          go_ret
          rw [← some_eq H]
          exact ⟨(by first | rfl | (simp [IntKind.wrap_u32]; done)), (HS.out).keep (l := []) (rest := [])⟩
      · have H := if_no c407 H
        have c407b0 : (t380 == 0) = false := beq_eq_false_iff_ne.mpr c407
        have c407b1 : (t380 != 0) = true := bne_iff_ne.mpr c407
        clear c407
        go_wp2_with fail
        obtain ⟨t412, HA413, H⟩ := bind_some H
        refine (ratio_Up.calls a378 t380 t412 _ ⟨HS.out.begin (l := []) (rest := [])⟩ HA413).mono ?_
        rintro e_ w414 ⟨rfl, hS⟩
        have HS_ : Aside0 (Sep (fps []) w [] w414) := ⟨HS.out.call (l := []) (rest := []) hS⟩
        clear HS hS
        have HS := HS_
        clear HS_
        by_cases c415 : t412 ≤ t404
        · have H := if_yes c415 H
          have c415b0 : decide (t412 ≤ t404) = true := decide_eq_true c415
          clear c415
          by_cases c416 : t380 = 1
          · have H := if_yes c416 H
            have c416b0 : (t380 == 1) = true := beq_iff_eq.mpr c416
            have c416b1 : (t380 != 1) = false := bne_eq_false_iff_eq.mpr c416
            clear c416
            go_wp2_with fail
            go_ret
            rw [← some_eq H]
            exact ⟨(by first | rfl | (simp [IntKind.wrap_u32]; done)), (HS.out).keep (l := []) (rest := [])⟩
          · have H := if_no c416 H
            have c416b0 : (t380 == 1) = false := beq_eq_false_iff_ne.mpr c416
            have c416b1 : (t380 != 1) = true := bne_iff_ne.mpr c416
            clear c416
            go_wp2_with fail
            obtain ⟨t417, HA418, H⟩ := bind_some H
            refine (ratio_Up.calls a378 (wrap64 (t380 - 1)) t417 _ ⟨HS.out.begin (l := []) (rest := [])⟩ HA418).mono ?_
            rintro e_ w419 ⟨rfl, hS⟩
            have HS_ : Aside0 (Sep (fps []) w [] w419) := ⟨HS.out.call (l := []) (rest := []) hS⟩
            clear HS hS
            have HS := HS_
            clear HS_
            go_wp2_with fail
            go_ret
            rw [← some_eq H]
            exact ⟨(by first | rfl | (simp [IntKind.wrap_u32]; done)), (HS.out).keep (l := []) (rest := [])⟩
        · have H := if_no c415 H
          have c415b0 : decide (t412 ≤ t404) = false := decide_eq_false c415
          clear c415
          go_wp2_with fail
          go_ret
          rw [← some_eq H]
          exact ⟨(by first | rfl | (simp [IntKind.wrap_u32]; done)), (HS.out).keep (l := []) (rest := [])⟩
    · have H := if_no c403 H
      have c403b0 : (t380 == t400) = false := beq_eq_false_iff_ne.mpr c403
      have c403b1 : (t380 != t400) = true := bne_iff_ne.mpr c403
      clear c403
      go_wp2_with fail
      go_ret
      rw [← some_eq H]
      exact ⟨(by first | rfl | (simp [IntKind.wrap_u32]; done)), (HS.out).keep (l := []) (rest := [])⟩
  · have H := if_no c386 H
    have c386b0 : t383 = false := by simpa using c386
    clear c386
    go_wp2_with fail
    go_ret
    rw [← some_eq H]
    exact ⟨(by first | rfl | (simp [IntKind.wrap_u32]; done)), (HS.out).keep (l := []) (rest := [])⟩

set_option maxHeartbeats 4000000 in
set_option maxRecDepth 100000 in
theorem quitrentlaw02_RatioOrder.calls (k : Nat) (l420 : List Int) (a424 : Int) (A421 : Option Addr) (n422 : Nat) (r : Bool) (w : World) (HR423 : Aside0 (Kd.C (Kd.int .i64) w A421 l420.length l420)) (HS : Aside0 (Sep (fps []) w [] w)) (H : Aside0 (quitrentlaw02_RatioOrder.f k l420 a424 = some r)) :
    Calls Try.prog 6 #[.slice A421 l420.length n422, .int .i64 a424] w fun e w' => e = .returned (.bool r) ∧ Sep (fps []) w [] w' := by
  unfold quitrentlaw02_RatioOrder.f at H
  go_enter Try.func6, Try.ntmps6
  by_cases c425 : (l420.length : Int) > 100
  · have H := if_yes c425 H
    have c425b0 : decide (100 < (l420.length : Int)) = true := decide_eq_true c425
    have c425b1 : decide (100 < l420.length) = true := decide_eq_true (by omega)
    clear c425
    go_wp2_with fail
    obtain ⟨t426, HA427, H⟩ := bind_some H
    refine (quitrentlaw02_begun.calls _ t426 _ ⟨HS.out.begin (l := []) (rest := [])⟩ HA427).mono ?_
    rintro e_ w428 ⟨rfl, hS⟩
    have HS_ : Aside0 (Sep (fps []) w [] w428) := ⟨HS.out.call (l := []) (rest := []) hS⟩
    clear HS hS
    have HS := HS_
    clear HS_
    go_wp2_with fail
    go_ret
    rw [← some_eq H]
    exact ⟨(by first | rfl | (simp [IntKind.wrap_u32]; done)), (HS.out).keep (l := []) (rest := [])⟩
  · have H := if_no c425 H
    have c425b0 : decide (100 < (l420.length : Int)) = false := decide_eq_false c425
    have c425b1 : decide (100 < l420.length) = false := decide_eq_false (by omega)
    clear c425
    go_wp2_with fail
    have HS_ : Aside0 (Sep (fps []) w [row 3 (Value.int .i64) (.slice none 0 0) ([] : List Int)] w) := ⟨HS.out.nilrow 3 (Value.int .i64)⟩
    clear HS
    have HS := HS_
    clear HS_
    obtain ⟨o430, AL431, H⟩ := bind_some H
    go_loopg [5, 6] k (fun kq v5 v6 wc => ∃ (x435 : List Int) (x438 : Int) (A436 : Option Addr) (n437 : Nat), v5 = .slice A436 x435.length n437 ∧ v6 = .int .i64 x438 ∧ Aside0 (quitrentlaw02_RatioOrder.lo0 kq l420 x435 x438 = some o430) ∧ Aside0 (Sep (fps []) w [row 3 (Value.int .i64) (.slice A436 x435.length n437) x435] wc))
    case atStart => exact ⟨(([] : List Int)), (wrap64 ((l420.length : Int) - 1)), (none), (0), (by first | rfl | (simp [IntKind.wrap_u32]; done)), (by first | rfl | (simp [IntKind.wrap_u32]; done)), AL431, ⟨HS.out⟩⟩
    case round =>
      clear AL431 HS
      obtain ⟨x435, x438, A436, n437, rfl, rfl, AL431, HS⟩ := hrel
      obtain ⟨w432, rfl⟩ : ∃ x : World, x = wr := ⟨_, rfl⟩
      cases gk with
      | zero => exact absurd AL431.out (by simp [quitrentlaw02_RatioOrder.lo0])
      | succ k433 =>
        have AL0 := AL431.out
        rw [quitrentlaw02_RatioOrder.lo0] at AL0
        clear AL431
        have AL431 := Aside0.mk AL0
        clear AL0
        by_cases c439 : x438 ≥ 0
        · have AL431 := if_yes c439 AL431
          have c439b0 : decide (0 ≤ x438) = true := decide_eq_true c439
          clear c439
          by_cases c440 : 0 ≤ x438
          · have AL431 := if_yes c440 AL431
            have c440b0 : decide (0 ≤ x438) = true := decide_eq_true c440
            have c440p : (0 ≤ x438) = True := eq_true c440
            clear c440
            by_cases c441 : x438 < (l420.length : Int)
            · have AL431 := if_yes c441 AL431
              have c441b0 : decide (x438 < (l420.length : Int)) = true := decide_eq_true c441
              have c441p : (x438 < (l420.length : Int)) = True := eq_true c441
              clear c441
              by_cases c446 : x435.length < 17592186044416
              · have AL431 := if_yes c446 AL431
                have c446b0 : decide (x435.length < 17592186044416) = true := decide_eq_true c446
                clear c446
                obtain ⟨y450, HA451, AL431⟩ := bind_some AL431
                obtain ⟨hx442a, hx442e, hx442⟩ := Kd.at_int (Kd.C_below HR423.out HS.out.fr.below) x438 (of_decide_eq_true c440b0) (of_decide_eq_true c441b0); cases hx442e
                go_wp2_with (first | ((with_reducible refine gate_dst (N := 24) rfl ?_); refine slice_on (n := 1) ?hg (N := 24) ?hd (cs := #[.int .i64 (rd l420 x438)]) (t := 3) ?hr ?_; (case hd => rfl); (case hg => rfl); (case hr => first | (go_simp; done) | (go_simp; rfl)); intro g443 hg w444 hbox hb; clear hx442; have HS_ : Aside0 (Sep (fps []) w [row 3 (Value.int .i64) (.slice A436 x435.length n437) x435, blk g443 #[.int .i64 (rd l420 x438)] 3] w444) := ⟨HS.out.box hg hbox hb⟩; clear HS hg hbox hb; have HS := HS_; clear HS_) | ((with_reducible refine gate_dst (N := 25) rfl ?_); refine append_event (l1 := []) (l2 := [blk g443 #[.int .i64 (rd l420 x438)] 3]) rfl (.tmp 19) (.tmp 24) 22 3 (.int .i64 0) 8 rfl Try.underlying22 (by kernel_rfl) rfl (by decide) (Value.int .i64) (fun _ => rfl) (.slice A436 x435.length n437) (x435 : List Int) [rd l420 x438] ⟨g443, 0, none⟩ 1 rfl rfl (blk_news (xs := [rd l420 x438]) (HS.out.at1)) HS.out (by have := of_decide_eq_true c446b0; simp only [List.length_cons, List.length_nil]; omega) HA451 ?_; intro A447 n448 w449 HS1; have HS_ : Aside0 (Sep (fps []) w [row 3 (Value.int .i64) (.slice A447 y450.length n448) y450, blk g443 #[.int .i64 (rd l420 x438)] 3] w449) := ⟨HS1⟩; clear HS HS1; have HS := HS_; clear HS_))
                go_roundg k433
                case measure => exact Nat.lt_succ_self _
                case rel => exact ⟨(y450), (wrap64 (x438 - 1)), (A447), (n448), (by first | rfl | (simp [IntKind.wrap_u32]; done)), (by first | rfl | (simp [IntKind.wrap_u32]; done)), Aside0.mk AL431.out, ⟨(HS.out).keep (l := [row 3 (Value.int .i64) (.slice A447 y450.length n448) y450]) (rest := [blk g443 #[.int .i64 (rd l420 x438)] 3])⟩⟩
              · have AL431 := if_no c446 AL431
                have c446b0 : decide (x435.length < 17592186044416) = false := decide_eq_false c446
                clear c446
                exact (none_no AL431).elim
            · have AL431 := if_no c441 AL431
              have c441b0 : decide (x438 < (l420.length : Int)) = false := decide_eq_false c441
              clear c441
              exact (none_no AL431).elim
          · have AL431 := if_no c440 AL431
            have c440b0 : decide (0 ≤ x438) = false := decide_eq_false c440
            clear c440
            exact (none_no AL431).elim
        · have AL431 := if_no c439 AL431
          have c439b0 : decide (0 ≤ x438) = false := decide_eq_false c439
          clear c439
          have ho := some_eq AL431
          subst ho
          clear AL431
          go_wp2_with fail
          obtain ⟨t452, HA453, H⟩ := bind_some H
          refine (ratio_Add.calls _ x435 A436 n437 t452 _ ⟨row_Ci (HS.out.at0)⟩ ⟨HS.out.begin (l := []) (rest := [row 3 (Value.int .i64) (.slice A436 x435.length n437) x435])⟩ HA453).mono ?_
          rintro e_ w454 ⟨rfl, hS⟩
          have HS_ : Aside0 (Sep (fps []) w [row 3 (Value.int .i64) (.slice A436 x435.length n437) x435] w454) := ⟨HS.out.call (l := []) (rest := [row 3 (Value.int .i64) (.slice A436 x435.length n437) x435]) hS⟩
          clear HS hS
          have HS := HS_
          clear HS_
          go_wp2_with fail
          obtain ⟨t455, HA456, H⟩ := bind_some H
          refine (ratio_Add.calls _ l420 A421 n422 t455 _ ⟨Kd.C_below HR423.out HS.out.fr.below⟩ ⟨HS.out.begin (l := []) (rest := [row 3 (Value.int .i64) (.slice A436 x435.length n437) x435])⟩ HA456).mono ?_
          rintro e_ w457 ⟨rfl, hS⟩
          have HS_ : Aside0 (Sep (fps []) w [row 3 (Value.int .i64) (.slice A436 x435.length n437) x435] w457) := ⟨HS.out.call (l := []) (rest := [row 3 (Value.int .i64) (.slice A436 x435.length n437) x435]) hS⟩
          clear HS hS
          have HS := HS_
          clear HS_
          by_cases c458 : t452 = t455
          · have H := if_yes c458 H
            have c458b0 : (t452 == t455) = true := beq_iff_eq.mpr c458
            have c458b1 : (t452 != t455) = false := bne_eq_false_iff_eq.mpr c458
            clear c458
            go_wp2_with fail
            obtain ⟨t459, HA460, H⟩ := bind_some H
            refine (ratio_Mul.calls _ x435 A436 n437 t459 _ ⟨row_Ci (HS.out.at0)⟩ ⟨HS.out.begin (l := []) (rest := [row 3 (Value.int .i64) (.slice A436 x435.length n437) x435])⟩ HA460).mono ?_
            rintro e_ w461 ⟨rfl, hS⟩
            have HS_ : Aside0 (Sep (fps []) w [row 3 (Value.int .i64) (.slice A436 x435.length n437) x435] w461) := ⟨HS.out.call (l := []) (rest := [row 3 (Value.int .i64) (.slice A436 x435.length n437) x435]) hS⟩
            clear HS hS
            have HS := HS_
            clear HS_
            go_wp2_with fail
            obtain ⟨t462, HA463, H⟩ := bind_some H
            refine (ratio_Mul.calls _ l420 A421 n422 t462 _ ⟨Kd.C_below HR423.out HS.out.fr.below⟩ ⟨HS.out.begin (l := []) (rest := [row 3 (Value.int .i64) (.slice A436 x435.length n437) x435])⟩ HA463).mono ?_
            rintro e_ w464 ⟨rfl, hS⟩
            have HS_ : Aside0 (Sep (fps []) w [row 3 (Value.int .i64) (.slice A436 x435.length n437) x435] w464) := ⟨HS.out.call (l := []) (rest := [row 3 (Value.int .i64) (.slice A436 x435.length n437) x435]) hS⟩
            clear HS hS
            have HS := HS_
            clear HS_
            by_cases c465 : t459 = t462
            · have H := if_yes c465 H
              have c465b0 : (t459 == t462) = true := beq_iff_eq.mpr c465
              have c465b1 : (t459 != t462) = false := bne_eq_false_iff_eq.mpr c465
              clear c465
              by_cases c469 : x435.length < 17592186044416
              · have H := if_yes c469 H
                have c469b0 : decide (x435.length < 17592186044416) = true := decide_eq_true c469
                clear c469
                obtain ⟨y473, HA474, H⟩ := bind_some H
                go_wp2_with (first | ((with_reducible refine gate_dst (N := 40) rfl ?_); refine slice_on (n := 1) ?hg (N := 40) ?hd (cs := #[.int .i64 a424]) (t := 3) ?hr ?_; (case hd => rfl); (case hg => rfl); (case hr => first | (go_simp; done) | (go_simp; rfl)); intro g466 hg w467 hbox hb; have HS_ : Aside0 (Sep (fps []) w [row 3 (Value.int .i64) (.slice A436 x435.length n437) x435, blk g466 #[.int .i64 a424] 3] w467) := ⟨HS.out.box hg hbox hb⟩; clear HS hg hbox hb; have HS := HS_; clear HS_) | ((with_reducible refine gate_dst (N := 41) rfl ?_); refine append_event (l1 := []) (l2 := [blk g466 #[.int .i64 a424] 3]) rfl (.tmp 38) (.tmp 40) 22 3 (.int .i64 0) 8 rfl Try.underlying22 (by kernel_rfl) rfl (by decide) (Value.int .i64) (fun _ => rfl) (.slice A436 x435.length n437) (x435 : List Int) [a424] ⟨g466, 0, none⟩ 1 rfl rfl (blk_news (xs := [a424]) (HS.out.at1)) HS.out (by have := of_decide_eq_true c469b0; simp only [List.length_cons, List.length_nil]; omega) HA474 ?_; intro A470 n471 w472 HS1; have HS_ : Aside0 (Sep (fps []) w [row 3 (Value.int .i64) (.slice A470 y473.length n471) y473, blk g466 #[.int .i64 a424] 3] w472) := ⟨HS1⟩; clear HS HS1; have HS := HS_; clear HS_))
                obtain ⟨t475, HA476, H⟩ := bind_some H
                refine (quitrentlaw02_begun.calls _ t475 _ ⟨HS.out.begin (l := []) (rest := [row 3 (Value.int .i64) (.slice A470 y473.length n471) y473, blk g466 #[.int .i64 a424] 3])⟩ HA476).mono ?_
                rintro e_ w477 ⟨rfl, hS⟩
                have HS_ : Aside0 (Sep (fps []) w [row 3 (Value.int .i64) (.slice A470 y473.length n471) y473, blk g466 #[.int .i64 a424] 3] w477) := ⟨HS.out.call (l := []) (rest := [row 3 (Value.int .i64) (.slice A470 y473.length n471) y473, blk g466 #[.int .i64 a424] 3]) hS⟩
                clear HS hS
                have HS := HS_
                clear HS_
                by_cases c478 : t475 = true
                · have H := if_yes c478 H
                  have c478b0 : t475 = true := c478
                  clear c478
                  go_wp2_with fail
                  obtain ⟨t479, HA480, H⟩ := bind_some H
                  refine (ratio_Add.calls _ y473 A470 n471 t479 _ ⟨row_Ci (HS.out.at0)⟩ ⟨HS.out.begin (l := []) (rest := [row 3 (Value.int .i64) (.slice A470 y473.length n471) y473, blk g466 #[.int .i64 a424] 3])⟩ HA480).mono ?_
                  rintro e_ w481 ⟨rfl, hS⟩
                  have HS_ : Aside0 (Sep (fps []) w [row 3 (Value.int .i64) (.slice A470 y473.length n471) y473, blk g466 #[.int .i64 a424] 3] w481) := ⟨HS.out.call (l := []) (rest := [row 3 (Value.int .i64) (.slice A470 y473.length n471) y473, blk g466 #[.int .i64 a424] 3]) hS⟩
                  clear HS hS
                  have HS := HS_
                  clear HS_
                  go_wp2_with fail
                  obtain ⟨t482, HA483, H⟩ := bind_some H
                  refine (ratio_Add.calls _ l420 A421 n422 t482 _ ⟨Kd.C_below HR423.out HS.out.fr.below⟩ ⟨HS.out.begin (l := []) (rest := [row 3 (Value.int .i64) (.slice A470 y473.length n471) y473, blk g466 #[.int .i64 a424] 3])⟩ HA483).mono ?_
                  rintro e_ w484 ⟨rfl, hS⟩
                  have HS_ : Aside0 (Sep (fps []) w [row 3 (Value.int .i64) (.slice A470 y473.length n471) y473, blk g466 #[.int .i64 a424] 3] w484) := ⟨HS.out.call (l := []) (rest := [row 3 (Value.int .i64) (.slice A470 y473.length n471) y473, blk g466 #[.int .i64 a424] 3]) hS⟩
                  clear HS hS
                  have HS := HS_
                  clear HS_
                  by_cases c485 : t479 ≥ t482
                  · have H := if_yes c485 H
                    have c485b0 : decide (t482 ≤ t479) = true := decide_eq_true c485
                    clear c485
                    go_wp2_with fail
                    obtain ⟨t486, HA487, H⟩ := bind_some H
                    refine (ratio_Add.calls _ l420 A421 n422 t486 _ ⟨Kd.C_below HR423.out HS.out.fr.below⟩ ⟨HS.out.begin (l := []) (rest := [row 3 (Value.int .i64) (.slice A470 y473.length n471) y473, blk g466 #[.int .i64 a424] 3])⟩ HA487).mono ?_
                    rintro e_ w488 ⟨rfl, hS⟩
                    have HS_ : Aside0 (Sep (fps []) w [row 3 (Value.int .i64) (.slice A470 y473.length n471) y473, blk g466 #[.int .i64 a424] 3] w488) := ⟨HS.out.call (l := []) (rest := [row 3 (Value.int .i64) (.slice A470 y473.length n471) y473, blk g466 #[.int .i64 a424] 3]) hS⟩
                    clear HS hS
                    have HS := HS_
                    clear HS_
                    go_wp2_with (first | ((with_reducible refine gate_dst (N := 54) rfl ?_); refine slice_on (n := 2) ?hg (N := 54) ?hd (cs := #[.int .i64 t486, .int .i64 a424]) (t := 3) ?hr ?_; (case hd => rfl); (case hg => rfl); (case hr => first | (go_simp; done) | (go_simp; rfl)); intro g489 hg w490 hbox hb; have HS_ : Aside0 (Sep (fps []) w [row 3 (Value.int .i64) (.slice A470 y473.length n471) y473, blk g466 #[.int .i64 a424] 3, blk g489 #[.int .i64 t486, .int .i64 a424] 3] w490) := ⟨HS.out.box hg hbox hb⟩; clear HS hg hbox hb; have HS := HS_; clear HS_))
                    obtain ⟨t492, HA493, H⟩ := bind_some H
                    refine (ratio_Add.calls _ [t486, a424] (some ⟨g489, 0, none⟩) 2 t492 _ ⟨C_of_blk (xs := [t486, a424]) (HS.out.at2) (by simp)⟩ ⟨HS.out.begin (l := []) (rest := [row 3 (Value.int .i64) (.slice A470 y473.length n471) y473, blk g466 #[.int .i64 a424] 3, blk g489 #[.int .i64 t486, .int .i64 a424] 3])⟩ HA493).mono ?_
                    rintro e_ w494 ⟨rfl, hS⟩
                    have HS_ : Aside0 (Sep (fps []) w [row 3 (Value.int .i64) (.slice A470 y473.length n471) y473, blk g466 #[.int .i64 a424] 3, blk g489 #[.int .i64 t486, .int .i64 a424] 3] w494) := ⟨HS.out.call (l := []) (rest := [row 3 (Value.int .i64) (.slice A470 y473.length n471) y473, blk g466 #[.int .i64 a424] 3, blk g489 #[.int .i64 t486, .int .i64 a424] 3]) hS⟩
                    clear HS hS
                    have HS := HS_
                    clear HS_
                    go_wp2_with fail
                    obtain ⟨t495, HA496, H⟩ := bind_some H
                    refine (ratio_Add.calls _ y473 A470 n471 t495 _ ⟨row_Ci (HS.out.at0)⟩ ⟨HS.out.begin (l := []) (rest := [row 3 (Value.int .i64) (.slice A470 y473.length n471) y473, blk g466 #[.int .i64 a424] 3, blk g489 #[.int .i64 t486, .int .i64 a424] 3])⟩ HA496).mono ?_
                    rintro e_ w497 ⟨rfl, hS⟩
                    have HS_ : Aside0 (Sep (fps []) w [row 3 (Value.int .i64) (.slice A470 y473.length n471) y473, blk g466 #[.int .i64 a424] 3, blk g489 #[.int .i64 t486, .int .i64 a424] 3] w497) := ⟨HS.out.call (l := []) (rest := [row 3 (Value.int .i64) (.slice A470 y473.length n471) y473, blk g466 #[.int .i64 a424] 3, blk g489 #[.int .i64 t486, .int .i64 a424] 3]) hS⟩
                    clear HS hS
                    have HS := HS_
                    clear HS_
                    go_wp2_with fail
                    go_ret
                    rw [← some_eq H]
                    exact ⟨(by first | rfl | (simp [IntKind.wrap_u32]; done)), (HS.out).keep (l := []) (rest := [row 3 (Value.int .i64) (.slice A470 y473.length n471) y473, blk g466 #[.int .i64 a424] 3, blk g489 #[.int .i64 t486, .int .i64 a424] 3])⟩
                  · have H := if_no c485 H
                    have c485b0 : decide (t482 ≤ t479) = false := decide_eq_false c485
                    clear c485
                    go_wp2_with fail
                    go_ret
                    rw [← some_eq H]
                    exact ⟨(by first | rfl | (simp [IntKind.wrap_u32]; done)), (HS.out).keep (l := []) (rest := [row 3 (Value.int .i64) (.slice A470 y473.length n471) y473, blk g466 #[.int .i64 a424] 3])⟩
                · have H := if_no c478 H
                  have c478b0 : t475 = false := by simpa using c478
                  clear c478
                  go_wp2_with fail
                  go_ret
                  rw [← some_eq H]
                  exact ⟨(by first | rfl | (simp [IntKind.wrap_u32]; done)), (HS.out).keep (l := []) (rest := [row 3 (Value.int .i64) (.slice A470 y473.length n471) y473, blk g466 #[.int .i64 a424] 3])⟩
              · have H := if_no c469 H
                have c469b0 : decide (x435.length < 17592186044416) = false := decide_eq_false c469
                clear c469
                exact (none_no H).elim
            · have H := if_no c465 H
              have c465b0 : (t459 == t462) = false := beq_eq_false_iff_ne.mpr c465
              have c465b1 : (t459 != t462) = true := bne_iff_ne.mpr c465
              clear c465
              go_wp2_with fail
              go_ret
              rw [← some_eq H]
              exact ⟨(by first | rfl | (simp [IntKind.wrap_u32]; done)), (HS.out).keep (l := []) (rest := [row 3 (Value.int .i64) (.slice A436 x435.length n437) x435])⟩
          · have H := if_no c458 H
            have c458b0 : (t452 == t455) = false := beq_eq_false_iff_ne.mpr c458
            have c458b1 : (t452 != t455) = true := bne_iff_ne.mpr c458
            clear c458
            go_wp2_with fail
            go_ret
            rw [← some_eq H]
            exact ⟨(by first | rfl | (simp [IntKind.wrap_u32]; done)), (HS.out).keep (l := []) (rest := [row 3 (Value.int .i64) (.slice A436 x435.length n437) x435])⟩

set_option maxHeartbeats 4000000 in
set_option maxRecDepth 100000 in
theorem quitrentlaw02_RatioRound.calls (k : Nat) (a536 : Int) (a537 : Int) (r : Bool) (w : World)  (HS : Aside0 (Sep (fps []) w [] w)) (H : Aside0 (quitrentlaw02_RatioRound.f k a536 a537 = some r)) :
    Calls Try.prog 7 #[.int .i64 a536, .int .i64 a537] w fun e w' => e = .returned (.bool r) ∧ Sep (fps []) w [] w' := by
  unfold quitrentlaw02_RatioRound.f at H
  go_enter Try.func7, Try.ntmps7
  go_wp2_with fail
  obtain ⟨t538, HA539, H⟩ := bind_some H
  refine (ratio_Down.calls a536 a537 t538 _ ⟨HS.out.begin (l := []) (rest := [])⟩ HA539).mono ?_
  rintro e_ w540 ⟨rfl, hS⟩
  have HS_ : Aside0 (Sep (fps []) w [] w540) := ⟨HS.out.call (l := []) (rest := []) hS⟩
  clear HS hS
  have HS := HS_
  clear HS_
  go_wp2_with fail
  obtain ⟨t541, HA542, H⟩ := bind_some H
  refine (ratio_Up.calls a536 a537 t541 _ ⟨HS.out.begin (l := []) (rest := [])⟩ HA542).mono ?_
  rintro e_ w543 ⟨rfl, hS⟩
  have HS_ : Aside0 (Sep (fps []) w [] w543) := ⟨HS.out.call (l := []) (rest := []) hS⟩
  clear HS hS
  have HS := HS_
  clear HS_
  go_wp2_with fail
  obtain ⟨t544, HA545, H⟩ := bind_some H
  refine (ratio_Clamp.calls a536 0 1125899906842624 t544 _ ⟨HS.out.begin (l := []) (rest := [])⟩ HA545).mono ?_
  rintro e_ w546 ⟨rfl, hS⟩
  have HS_ : Aside0 (Sep (fps []) w [] w546) := ⟨HS.out.call (l := []) (rest := []) hS⟩
  clear HS hS
  have HS := HS_
  clear HS_
  go_wp2_with fail
  obtain ⟨t547, HA548, H⟩ := bind_some H
  refine (ratio_Clamp.calls a537 1 1125899906842624 t547 _ ⟨HS.out.begin (l := []) (rest := [])⟩ HA548).mono ?_
  rintro e_ w549 ⟨rfl, hS⟩
  have HS_ : Aside0 (Sep (fps []) w [] w549) := ⟨HS.out.call (l := []) (rest := []) hS⟩
  clear HS hS
  have HS := HS_
  clear HS_
  go_wp2_with fail
  obtain ⟨t550, HA551, H⟩ := bind_some H
  refine (quitrentlaw02_begun.calls _ t550 _ ⟨HS.out.begin (l := []) (rest := [])⟩ HA551).mono ?_
  rintro e_ w552 ⟨rfl, hS⟩
  have HS_ : Aside0 (Sep (fps []) w [] w552) := ⟨HS.out.call (l := []) (rest := []) hS⟩
  clear HS hS
  have HS := HS_
  clear HS_
  by_cases c553 : t550 = true
  · have H := if_yes c553 H
    have c553b0 : t550 = true := c553
    clear c553
    go_wp2_with (first | ((with_reducible refine gate_dst (N := 23) rfl ?_); refine slice_on (n := 2) ?hg (N := 23) ?hd (cs := #[.int .i64 t538, .int .i64 t547]) (t := 3) ?hr ?_; (case hd => rfl); (case hg => rfl); (case hr => first | (go_simp; done) | (go_simp; rfl)); intro g554 hg w555 hbox hb; have HS_ : Aside0 (Sep (fps []) w [blk g554 #[.int .i64 t538, .int .i64 t547] 3] w555) := ⟨HS.out.box hg hbox hb⟩; clear HS hg hbox hb; have HS := HS_; clear HS_))
    obtain ⟨t557, HA558, H⟩ := bind_some H
    refine (ratio_Mul.calls _ [t538, t547] (some ⟨g554, 0, none⟩) 2 t557 _ ⟨C_of_blk (xs := [t538, t547]) (HS.out.at0) (by simp)⟩ ⟨HS.out.begin (l := []) (rest := [blk g554 #[.int .i64 t538, .int .i64 t547] 3])⟩ HA558).mono ?_
    rintro e_ w559 ⟨rfl, hS⟩
    have HS_ : Aside0 (Sep (fps []) w [blk g554 #[.int .i64 t538, .int .i64 t547] 3] w559) := ⟨HS.out.call (l := []) (rest := [blk g554 #[.int .i64 t538, .int .i64 t547] 3]) hS⟩
    clear HS hS
    have HS := HS_
    clear HS_
    by_cases c560 : t557 ≤ t544
    · have H := if_yes c560 H
      have c560b0 : decide (t557 ≤ t544) = true := decide_eq_true c560
      clear c560
      go_wp2_with (first | ((with_reducible refine gate_dst (N := 31) rfl ?_); refine slice_on (n := 2) ?hg (N := 31) ?hd (cs := #[.int .i64 t541, .int .i64 t547]) (t := 3) ?hr ?_; (case hd => rfl); (case hg => rfl); (case hr => first | (go_simp; done) | (go_simp; rfl)); intro g561 hg w562 hbox hb; have HS_ : Aside0 (Sep (fps []) w [blk g554 #[.int .i64 t538, .int .i64 t547] 3, blk g561 #[.int .i64 t541, .int .i64 t547] 3] w562) := ⟨HS.out.box hg hbox hb⟩; clear HS hg hbox hb; have HS := HS_; clear HS_))
      obtain ⟨t564, HA565, H⟩ := bind_some H
      refine (ratio_Mul.calls _ [t541, t547] (some ⟨g561, 0, none⟩) 2 t564 _ ⟨C_of_blk (xs := [t541, t547]) (HS.out.at1) (by simp)⟩ ⟨HS.out.begin (l := []) (rest := [blk g554 #[.int .i64 t538, .int .i64 t547] 3, blk g561 #[.int .i64 t541, .int .i64 t547] 3])⟩ HA565).mono ?_
      rintro e_ w566 ⟨rfl, hS⟩
      have HS_ : Aside0 (Sep (fps []) w [blk g554 #[.int .i64 t538, .int .i64 t547] 3, blk g561 #[.int .i64 t541, .int .i64 t547] 3] w566) := ⟨HS.out.call (l := []) (rest := [blk g554 #[.int .i64 t538, .int .i64 t547] 3, blk g561 #[.int .i64 t541, .int .i64 t547] 3]) hS⟩
      clear HS hS
      have HS := HS_
      clear HS_
      by_cases c567 : t564 ≥ t544
      · have H := if_yes c567 H
        have c567b0 : decide (t544 ≤ t564) = true := decide_eq_true c567
        clear c567
        by_cases c568 : t541 = t538
        · have H := if_yes c568 H
          have c568b0 : (t541 == t538) = true := beq_iff_eq.mpr c568
          have c568b1 : (t541 != t538) = false := bne_eq_false_iff_eq.mpr c568
          clear c568
          go_wp2_with fail
          go_ret
          rw [← some_eq H]
          exact ⟨(by first | rfl | (simp [IntKind.wrap_u32]; done)), (HS.out).keep (l := []) (rest := [blk g554 #[.int .i64 t538, .int .i64 t547] 3, blk g561 #[.int .i64 t541, .int .i64 t547] 3])⟩
        · have H := if_no c568 H
          have c568b0 : (t541 == t538) = false := beq_eq_false_iff_ne.mpr c568
          have c568b1 : (t541 != t538) = true := bne_iff_ne.mpr c568
          clear c568
          go_wp2_with fail
          go_ret
          rw [← some_eq H]
          exact ⟨(by first | rfl | (simp [IntKind.wrap_u32]; done)), (HS.out).keep (l := []) (rest := [blk g554 #[.int .i64 t538, .int .i64 t547] 3, blk g561 #[.int .i64 t541, .int .i64 t547] 3])⟩
      · have H := if_no c567 H
        have c567b0 : decide (t544 ≤ t564) = false := decide_eq_false c567
        clear c567
        go_wp2_with fail
        go_ret
        rw [← some_eq H]
        exact ⟨(by first | rfl | (simp [IntKind.wrap_u32]; done)), (HS.out).keep (l := []) (rest := [blk g554 #[.int .i64 t538, .int .i64 t547] 3, blk g561 #[.int .i64 t541, .int .i64 t547] 3])⟩
    · have H := if_no c560 H
      have c560b0 : decide (t557 ≤ t544) = false := decide_eq_false c560
      clear c560
      go_wp2_with fail
      go_ret
      rw [← some_eq H]
      exact ⟨(by first | rfl | (simp [IntKind.wrap_u32]; done)), (HS.out).keep (l := []) (rest := [blk g554 #[.int .i64 t538, .int .i64 t547] 3])⟩
  · have H := if_no c553 H
    have c553b0 : t550 = false := by simpa using c553
    clear c553
    go_wp2_with fail
    go_ret
    rw [← some_eq H]
    exact ⟨(by first | rfl | (simp [IntKind.wrap_u32]; done)), (HS.out).keep (l := []) (rest := [])⟩
end Go.Proofs.Ytgkpcboaiaiahaa.C

/- Each function of the group Pack does what its plain function says, and changes nothing that was there; proved by walking its code. No condition. -/
import Derived.Test.YtgkpcboaiaiahaaQw
import Derived.Test.YtgkpcboaiaiahaaMPack
namespace Go.Proofs.Ytgkpcboaiaiahaa.C
open Go.RowKit Go.Proofs.YtgkpcboaiaiahaaW.PrintWords Go.Proofs.YtgkpcboaiaiahaaW.PrintLast Go.Proofs.YtgkpcboaiaiahaaW.PrintMore Go.Proofs.Ytgkpcboaiaiahaa.Q Go.Proofs.Ytgkpcboaiaiahaa.M
set_option linter.unusedVariables false
set_option linter.unusedSimpArgs false
set_option maxHeartbeats 4000000 in
set_option maxRecDepth 100000 in
theorem pack_isPiece.calls (a8 : Int) (a9 : Int) (r : Bool) (w : World)  (HS : Aside0 (Sep (fps []) w [] w)) (H : Aside0 (pack_isPiece.f a8 a9 = some r)) :
    Calls Try.prog 64 #[.int .i64 a8, .int .i64 a9] w fun e w' => e = .returned (.bool r) ∧ Sep (fps []) w [] w' := by
  unfold pack_isPiece.f at H
  go_enter Try.func64, Try.ntmps64
  by_cases c10 : a8 ≥ 0
  · have H := if_yes c10 H
    have c10b0 : decide (0 ≤ a8) = true := decide_eq_true c10
    clear c10
    by_cases c11 : a9 ≥ 1
    · have H := if_yes c11 H
      have c11b0 : decide (1 ≤ a9) = true := decide_eq_true c11
      clear c11
      by_cases c12 : a9 ≤ 32
      · have H := if_yes c12 H
        have c12b0 : decide (a9 ≤ 32) = true := decide_eq_true c12
        clear c12
        go_wp2_with fail
        go_ret
        rw [← some_eq H]
        exact ⟨(by first | rfl | (simp [IntKind.wrap_u32]; done)), (HS.out).keep (l := []) (rest := [])⟩
      · have H := if_no c12 H
        have c12b0 : decide (a9 ≤ 32) = false := decide_eq_false c12
        clear c12
        go_wp2_with fail
        go_ret
        rw [← some_eq H]
        exact ⟨(by first | rfl | (simp [IntKind.wrap_u32]; done)), (HS.out).keep (l := []) (rest := [])⟩
    · have H := if_no c11 H
      have c11b0 : decide (1 ≤ a9) = false := decide_eq_false c11
      clear c11
      go_wp2_with fail
      go_ret
      rw [← some_eq H]
      exact ⟨(by first | rfl | (simp [IntKind.wrap_u32]; done)), (HS.out).keep (l := []) (rest := [])⟩
  · have H := if_no c10 H
    have c10b0 : decide (0 ≤ a8) = false := decide_eq_false c10
    clear c10
    go_wp2_with fail
    go_ret
    rw [← some_eq H]
    exact ⟨(by first | rfl | (simp [IntKind.wrap_u32]; done)), (HS.out).keep (l := []) (rest := [])⟩

set_option maxHeartbeats 4000000 in
set_option maxRecDepth 100000 in
theorem pack_Fits.calls (a17 : Int) (a18 : Int) (r : Bool) (w : World)  (HS : Aside0 (Sep (fps []) w [] w)) (H : Aside0 (pack_Fits.f a17 a18 = some r)) :
    Calls Try.prog 37 #[.int .u32 a17, .int .i64 a18] w fun e w' => e = .returned (.bool r) ∧ Sep (fps []) w [] w' := by
  unfold pack_Fits.f at H
  go_enter Try.func37, Try.ntmps37
  by_cases c19 : a18 ≥ 32
  · have H := if_yes c19 H
    have c19b0 : decide (32 ≤ a18) = true := decide_eq_true c19
    clear c19
    go_wp2_with fail
    go_ret
    rw [← some_eq H]
    exact ⟨(by first | rfl | (simp [IntKind.wrap_u32]; done)), (HS.out).keep (l := []) (rest := [])⟩
  · have H := if_no c19 H
    have c19b0 : decide (32 ≤ a18) = false := decide_eq_false c19
    clear c19
    by_cases c20 : a18 < 0
    · have H := if_yes c20 H
      have c20b0 : decide (a18 < 0) = true := decide_eq_true c20
      skip
      go_wp2_with fail
      clear c20
      go_ret
      rw [← some_eq H]
      exact ⟨(by first | rfl | (simp [IntKind.wrap_u32]; done)), (HS.out).keep (l := []) (rest := [])⟩
    · have H := if_no c20 H
      have c20b0 : decide (a18 < 0) = false := decide_eq_false c20
      by_cases c21 : 0 ≤ (IntKind.u64.wrap (a18))
      · have H := if_yes c21 H
        have c21b0 : decide (0 ≤ (IntKind.u64.wrap (a18))) = true := decide_eq_true c21
        skip
        skip
        go_wp2_with fail
        clear c20 c21
        go_ret
        rw [← some_eq H]
        exact ⟨(by first | rfl | (simp [IntKind.wrap_u32]; done)), (HS.out).keep (l := []) (rest := [])⟩
      · have H := if_no c21 H
        have c21b0 : decide (0 ≤ (IntKind.u64.wrap (a18))) = false := decide_eq_false c21
        exact (none_no H).elim

set_option maxHeartbeats 4000000 in
set_option maxRecDepth 100000 in
theorem pack_mask.calls (a26 : Int) (a27 : Int) (r : Int) (w : World)  (HS : Aside0 (Sep (fps []) w [] w)) (H : Aside0 (pack_mask.f a26 a27 = some r)) :
    Calls Try.prog 65 #[.int .i64 a26, .int .i64 a27] w fun e w' => e = .returned (.int .u32 r) ∧ Sep (fps []) w [] w' := by
  unfold pack_mask.f at H
  go_enter Try.func65, Try.ntmps65
  by_cases c28 : 0 ≤ (IntKind.u64.wrap (a27))
  · have H := if_yes c28 H
    have c28b0 : decide (0 ≤ (IntKind.u64.wrap (a27))) = true := decide_eq_true c28
    by_cases c29 : 0 ≤ (IntKind.u64.wrap (a26))
    · have H := if_yes c29 H
      have c29b0 : decide (0 ≤ (IntKind.u64.wrap (a26))) = true := decide_eq_true c29
      skip
      skip
      go_wp2_with fail
      clear c28 c29
      go_ret
      rw [← some_eq H]
      exact ⟨(by first | rfl | (simp [IntKind.wrap_u32]; done)), (HS.out).keep (l := []) (rest := [])⟩
    · have H := if_no c29 H
      have c29b0 : decide (0 ≤ (IntKind.u64.wrap (a26))) = false := decide_eq_false c29
      exact (none_no H).elim
  · have H := if_no c28 H
    have c28b0 : decide (0 ≤ (IntKind.u64.wrap (a27))) = false := decide_eq_false c28
    exact (none_no H).elim

set_option maxHeartbeats 4000000 in
set_option maxRecDepth 100000 in
theorem pack_Put.calls (a4 : Int) (a5 : Int) (a6 : Int) (a7 : Int) (r : Int × Int) (w : World)  (HS : Aside0 (Sep (fps []) w [] w)) (H : Aside0 (pack_Put.f a4 a5 a6 a7 = some r)) :
    Calls Try.prog 41 #[.int .u32 a4, .int .i64 a5, .int .i64 a6, .int .u32 a7] w fun e w' => e = .returned (.tuple #[.int .u32 r.1, .int .i64 r.2]) ∧ Sep (fps []) w [] w' := by
  unfold pack_Put.f at H
  go_enter Try.func41, Try.ntmps41
  go_wp2_with fail
  obtain ⟨t13, HA14, H⟩ := bind_some H
  refine (pack_isPiece.calls a5 a6 t13 _ ⟨HS.out.begin (l := []) (rest := [])⟩ HA14).mono ?_
  rintro e_ w15 ⟨rfl, hS⟩
  have HS_ : Aside0 (Sep (fps []) w [] w15) := ⟨HS.out.call (l := []) (rest := []) hS⟩
  clear HS hS
  have HS := HS_
  clear HS_
  by_cases c16 : t13 = true
  · have H := if_yes c16 H
    have c16b0 : t13 = true := c16
    have c16b1 : (!t13) = false := by rw [c16b0]; rfl
    try rw [c16b1]
    clear c16
    go_wp2_with fail
    obtain ⟨t22, HA23, H⟩ := bind_some H
    refine (pack_Fits.calls a7 a6 t22 _ ⟨HS.out.begin (l := []) (rest := [])⟩ HA23).mono ?_
    rintro e_ w24 ⟨rfl, hS⟩
    have HS_ : Aside0 (Sep (fps []) w [] w24) := ⟨HS.out.call (l := []) (rest := []) hS⟩
    clear HS hS
    have HS := HS_
    clear HS_
    by_cases c25 : t22 = true
    · have H := if_yes c25 H
      have c25b0 : t22 = true := c25
      have c25b1 : (!t22) = false := by rw [c25b0]; rfl
      try rw [c25b1]
      clear c25
      go_wp2_with fail
      obtain ⟨t30, HA31, H⟩ := bind_some H
      refine (pack_mask.calls a5 a6 t30 _ ⟨HS.out.begin (l := []) (rest := [])⟩ HA31).mono ?_
      rintro e_ w32 ⟨rfl, hS⟩
      have HS_ : Aside0 (Sep (fps []) w [] w32) := ⟨HS.out.call (l := []) (rest := []) hS⟩
      clear HS hS
      have HS := HS_
      clear HS_
      by_cases c33 : 0 ≤ (IntKind.u64.wrap (a5))
      · have H := if_yes c33 H
        have c33b0 : decide (0 ≤ (IntKind.u64.wrap (a5))) = true := decide_eq_true c33
        skip
        go_wp2_with fail
        clear c33
        go_ret2
        rw [← some_eq H]
        exact ⟨(by first | rfl | (simp [IntKind.wrap_u32]; done)), (HS.out).keep (l := []) (rest := [])⟩
      · have H := if_no c33 H
        have c33b0 : decide (0 ≤ (IntKind.u64.wrap (a5))) = false := decide_eq_false c33
        exact (none_no H).elim
    · have H := if_no c25 H
      have c25b0 : t22 = false := by simpa using c25
      have c25b1 : (!t22) = true := by rw [c25b0]; rfl
      try rw [c25b1]
      clear c25
      go_wp2_with fail
      go_ret2
      rw [← some_eq H]
      exact ⟨(by first | rfl | (simp [IntKind.wrap_u32]; done)), (HS.out).keep (l := []) (rest := [])⟩
  · have H := if_no c16 H
    have c16b0 : t13 = false := by simpa using c16
    have c16b1 : (!t13) = true := by rw [c16b0]; rfl
    try rw [c16b1]
    clear c16
    go_wp2_with fail
    go_ret2
    rw [← some_eq H]
    exact ⟨(by first | rfl | (simp [IntKind.wrap_u32]; done)), (HS.out).keep (l := []) (rest := [])⟩

set_option maxHeartbeats 4000000 in
set_option maxRecDepth 100000 in
theorem pack_total.calls (k : Nat) (l45 : List Int) (A46 : Option Addr) (n47 : Nat) (r : Int) (w : World) (HR48 : Aside0 (Kd.C (Kd.int .i64) w A46 l45.length l45)) (HS : Aside0 (Sep (fps []) w [] w)) (H : Aside0 (pack_total.f k l45 = some r)) :
    Calls Try.prog 70 #[.slice A46 l45.length n47] w fun e w' => e = .returned (.int .i64 r) ∧ Sep (fps []) w [] w' := by
  unfold pack_total.f at H
  go_enter Try.func70, Try.ntmps70
  go_wp2_with fail
  obtain ⟨o61, AL62, H⟩ := bind_some H
  go_loopg [3, 8] k (fun kq v3 v8 wc => ∃ (x65 : Int) (x66 : Int), v3 = .int .i64 x65 ∧ v8 = .int .i64 x66 ∧ Aside0 (pack_total.lo0 kq l45 x65 x66 = some o61) ∧ Aside0 (Sep (fps []) w [] wc))
  case atStart => exact ⟨(0), (0), (by first | rfl | (simp [IntKind.wrap_u32]; done)), (by first | rfl | (simp [IntKind.wrap_u32]; done)), AL62, ⟨HS.out⟩⟩
  case round =>
    clear AL62 HS
    obtain ⟨x65, x66, rfl, rfl, AL62, HS⟩ := hrel
    obtain ⟨w63, rfl⟩ : ∃ x : World, x = wr := ⟨_, rfl⟩
    cases gk with
    | zero => exact absurd AL62.out (by simp [pack_total.lo0])
    | succ k64 =>
      have AL0 := AL62.out
      rw [pack_total.lo0] at AL0
      clear AL62
      have AL62 := Aside0.mk AL0
      clear AL0
      by_cases c67 : x66 < (l45.length : Int)
      · have AL62 := if_yes c67 AL62
        have c67b0 : decide (x66 < (l45.length : Int)) = true := decide_eq_true c67
        clear c67
        by_cases c68 : 0 ≤ x66
        · have AL62 := if_yes c68 AL62
          have c68b0 : decide (0 ≤ x66) = true := decide_eq_true c68
          have c68p : (0 ≤ x66) = True := eq_true c68
          clear c68
          have ip69 : (x66 < (l45.length : Int)) = True := eq_true (of_decide_eq_true c67b0)
          by_cases c71 : (rd l45 x66) < 1
          · have AL62 := if_yes c71 AL62
            have c71b0 : decide ((rd l45 x66) < 1) = true := decide_eq_true c71
            clear c71
            obtain ⟨hx70a, hx70e, hx70⟩ := Kd.at_int (Kd.C_below HR48.out HS.out.fr.below) x66 (of_decide_eq_true c68b0) (of_decide_eq_true c67b0); cases hx70e
            go_wp2_with fail
            clear hx70
            have ho := some_eq AL62
            subst ho
            have H := lp_ret H
            go_ret
            rw [← some_eq H]
            exact ⟨(by first | rfl | (simp [IntKind.wrap_u32]; done)), (HS.out).keep (l := []) (rest := [])⟩
          · have AL62 := if_no c71 AL62
            have c71b0 : decide ((rd l45 x66) < 1) = false := decide_eq_false c71
            clear c71
            by_cases c72 : (rd l45 x66) > (wrap64 (32 - x65))
            · have AL62 := if_yes c72 AL62
              have c72b0 : decide ((wrap64 (32 - x65)) < (rd l45 x66)) = true := decide_eq_true c72
              clear c72
              obtain ⟨hx70a, hx70e, hx70⟩ := Kd.at_int (Kd.C_below HR48.out HS.out.fr.below) x66 (of_decide_eq_true c68b0) (of_decide_eq_true c67b0); cases hx70e
              go_wp2_with fail
              clear hx70
              have ho := some_eq AL62
              subst ho
              have H := lp_ret H
              go_ret
              rw [← some_eq H]
              exact ⟨(by first | rfl | (simp [IntKind.wrap_u32]; done)), (HS.out).keep (l := []) (rest := [])⟩
            · have AL62 := if_no c72 AL62
              have c72b0 : decide ((wrap64 (32 - x65)) < (rd l45 x66)) = false := decide_eq_false c72
              clear c72
              obtain ⟨hx70a, hx70e, hx70⟩ := Kd.at_int (Kd.C_below HR48.out HS.out.fr.below) x66 (of_decide_eq_true c68b0) (of_decide_eq_true c67b0); cases hx70e
              go_wp2_with fail
              clear hx70
              go_roundg k64
              case measure => exact Nat.lt_succ_self _
              case rel => exact ⟨(wrap64 (x65 + (rd l45 x66))), (wrap64 (x66 + 1)), (by first | rfl | (simp [IntKind.wrap_u32]; done)), (by first | rfl | (simp [IntKind.wrap_u32]; done)), Aside0.mk AL62.out, ⟨(HS.out).keep (l := []) (rest := [])⟩⟩
        · have AL62 := if_no c68 AL62
          have c68b0 : decide (0 ≤ x66) = false := decide_eq_false c68
          clear c68
          exact (none_no AL62).elim
      · have AL62 := if_no c67 AL62
        have c67b0 : decide (x66 < (l45.length : Int)) = false := decide_eq_false c67
        clear c67
        have ho := some_eq AL62
        subst ho
        clear AL62
        have H := lp_out H
        go_wp2_with fail
        go_ret
        rw [← some_eq H]
        exact ⟨(by first | rfl | (simp [IntKind.wrap_u32]; done)), (HS.out).keep (l := []) (rest := [])⟩

set_option maxHeartbeats 4000000 in
set_option maxRecDepth 100000 in
theorem pack_Get.calls (a98 : Int) (a99 : Int) (a100 : Int) (r : Int) (w : World)  (HS : Aside0 (Sep (fps []) w [] w)) (H : Aside0 (pack_Get.f a98 a99 a100 = some r)) :
    Calls Try.prog 35 #[.int .u32 a98, .int .i64 a99, .int .i64 a100] w fun e w' => e = .returned (.int .u32 r) ∧ Sep (fps []) w [] w' := by
  unfold pack_Get.f at H
  go_enter Try.func35, Try.ntmps35
  go_wp2_with fail
  obtain ⟨t101, HA102, H⟩ := bind_some H
  refine (pack_isPiece.calls a99 a100 t101 _ ⟨HS.out.begin (l := []) (rest := [])⟩ HA102).mono ?_
  rintro e_ w103 ⟨rfl, hS⟩
  have HS_ : Aside0 (Sep (fps []) w [] w103) := ⟨HS.out.call (l := []) (rest := []) hS⟩
  clear HS hS
  have HS := HS_
  clear HS_
  by_cases c104 : t101 = true
  · have H := if_yes c104 H
    have c104b0 : t101 = true := c104
    have c104b1 : (!t101) = false := by rw [c104b0]; rfl
    try rw [c104b1]
    clear c104
    go_wp2_with fail
    obtain ⟨t105, HA106, H⟩ := bind_some H
    refine (pack_mask.calls a99 a100 t105 _ ⟨HS.out.begin (l := []) (rest := [])⟩ HA106).mono ?_
    rintro e_ w107 ⟨rfl, hS⟩
    have HS_ : Aside0 (Sep (fps []) w [] w107) := ⟨HS.out.call (l := []) (rest := []) hS⟩
    clear HS hS
    have HS := HS_
    clear HS_
    by_cases c108 : 0 ≤ (IntKind.u64.wrap (a99))
    · have H := if_yes c108 H
      have c108b0 : decide (0 ≤ (IntKind.u64.wrap (a99))) = true := decide_eq_true c108
      skip
      go_wp2_with fail
      clear c108
      go_ret
      rw [← some_eq H]
      exact ⟨(by first | rfl | (simp [IntKind.wrap_u32]; done)), (HS.out).keep (l := []) (rest := [])⟩
    · have H := if_no c108 H
      have c108b0 : decide (0 ≤ (IntKind.u64.wrap (a99))) = false := decide_eq_false c108
      exact (none_no H).elim
  · have H := if_no c104 H
    have c104b0 : t101 = false := by simpa using c104
    have c104b1 : (!t101) = true := by rw [c104b0]; rfl
    try rw [c104b1]
    clear c104
    go_wp2_with fail
    go_ret
    rw [← some_eq H]
    exact ⟨(by first | rfl | (simp [IntKind.wrap_u32]; done)), (HS.out).keep (l := []) (rest := [])⟩

set_option maxHeartbeats 4000000 in
set_option maxRecDepth 100000 in
theorem pack_Split.calls (k : Nat) (a40 : Int) (l41 : List Int) (A42 : Option Addr) (n43 : Nat) (r : List Int × Int) (w : World) (HR44 : Aside0 (Kd.C (Kd.int .i64) w A42 l41.length l41)) (HS : Aside0 (Sep (fps []) w [] w)) (H : Aside0 (pack_Split.f k a40 l41 = some r)) :
    Calls Try.prog 46 #[.int .u32 a40, .slice A42 l41.length n43] w fun e w' => ∃ (A125 : Option Addr) (n126 : Nat), e = .returned (.tuple #[.slice A125 ((r.1).length) n126, .int .i64 r.2]) ∧ Sep (fps []) w [row 43 (Value.int .u32) (.slice A125 ((r.1).length) n126) r.1] w' := by
  unfold pack_Split.f at H
  go_enter Try.func46, Try.ntmps46
  go_wp2_with fail
  obtain ⟨t74, HA75, H⟩ := bind_some H
  refine (pack_total.calls _ l41 A42 n43 t74 _ ⟨HR44.out⟩ ⟨HS.out.begin (l := []) (rest := [])⟩ HA75).mono ?_
  rintro e_ w76 ⟨rfl, hS⟩
  have HS_ : Aside0 (Sep (fps []) w [] w76) := ⟨HS.out.call (l := []) (rest := []) hS⟩
  clear HS hS
  have HS := HS_
  clear HS_
  by_cases c77 : t74 < 0
  · have H := if_yes c77 H
    have c77b0 : decide (t74 < 0) = true := decide_eq_true c77
    clear c77
    go_wp2_with fail
    have HS_ : Aside0 (Sep (fps []) w [row 43 (Value.int .u32) (.slice none 0 0) ([] : List Int)] w76) := ⟨HS.out.nilrow 43 (Value.int .u32)⟩
    clear HS
    have HS := HS_
    clear HS_
    go_ret2
    rw [← some_eq H]
    exact ⟨_, _, (by first | rfl | (simp [IntKind.wrap_u32]; done)), (HS.out).keep (l := [row 43 (Value.int .u32) (.slice none 0 0) ([] : List Int)]) (rest := [])⟩
  · have H := if_no c77 H
    have c77b0 : decide (t74 < 0) = false := decide_eq_false c77
    clear c77
    go_wp2_with fail
    obtain ⟨t79, HA80, H⟩ := bind_some H
    refine (pack_Fits.calls a40 t74 t79 _ ⟨HS.out.begin (l := []) (rest := [])⟩ HA80).mono ?_
    rintro e_ w81 ⟨rfl, hS⟩
    have HS_ : Aside0 (Sep (fps []) w [] w81) := ⟨HS.out.call (l := []) (rest := []) hS⟩
    clear HS hS
    have HS := HS_
    clear HS_
    by_cases c82 : t79 = true
    · have H := if_yes c82 H
      have c82b0 : t79 = true := c82
      have c82b1 : (!t79) = false := by rw [c82b0]; rfl
      try rw [c82b1]
      clear c82
      go_wp2_with fail
      have HS_ : Aside0 (Sep (fps []) w [row 43 (Value.int .u32) (.slice none 0 0) ([] : List Int)] w81) := ⟨HS.out.nilrow 43 (Value.int .u32)⟩
      clear HS
      have HS := HS_
      clear HS_
      obtain ⟨o84, AL85, H⟩ := bind_some H
      go_loopg [7, 8, 21] k (fun kq v7 v8 v21 wc => ∃ (x89 : List Int) (x92 : Int) (x93 : Int) (A90 : Option Addr) (n91 : Nat), v7 = .slice A90 x89.length n91 ∧ v8 = .int .i64 x92 ∧ v21 = .int .i64 x93 ∧ Aside0 (pack_Split.lo0 kq a40 l41 x89 x92 x93 = some o84) ∧ Aside0 (Sep (fps []) w [row 43 (Value.int .u32) (.slice A90 x89.length n91) x89] wc))
      case atStart => exact ⟨(([] : List Int)), (0), (0), (none), (0), (by first | rfl | (simp [IntKind.wrap_u32]; done)), (by first | rfl | (simp [IntKind.wrap_u32]; done)), (by first | rfl | (simp [IntKind.wrap_u32]; done)), AL85, ⟨HS.out⟩⟩
      case round =>
        clear AL85 HS
        obtain ⟨x89, x92, x93, A90, n91, rfl, rfl, rfl, AL85, HS⟩ := hrel
        obtain ⟨w86, rfl⟩ : ∃ x : World, x = wr := ⟨_, rfl⟩
        cases gk with
        | zero => exact absurd AL85.out (by simp [pack_Split.lo0])
        | succ k87 =>
          have AL0 := AL85.out
          rw [pack_Split.lo0] at AL0
          clear AL85
          have AL85 := Aside0.mk AL0
          clear AL0
          by_cases c94 : x93 < (l41.length : Int)
          · have AL85 := if_yes c94 AL85
            have c94b0 : decide (x93 < (l41.length : Int)) = true := decide_eq_true c94
            clear c94
            by_cases c95 : 0 ≤ x93
            · have AL85 := if_yes c95 AL85
              have c95b0 : decide (0 ≤ x93) = true := decide_eq_true c95
              have c95p : (0 ≤ x93) = True := eq_true c95
              clear c95
              have ip96 : (x93 < (l41.length : Int)) = True := eq_true (of_decide_eq_true c94b0)
              obtain ⟨hx97a, hx97e, hx97⟩ := Kd.at_int (Kd.C_below HR44.out HS.out.fr.below) x93 (of_decide_eq_true c95b0) (of_decide_eq_true c94b0); cases hx97e
              go_wp2_with fail
              clear hx97
              obtain ⟨t109, HA110, AL85⟩ := bind_some AL85
              refine (pack_Get.calls a40 x92 (rd l41 x93) t109 _ ⟨HS.out.begin (l := []) (rest := [row 43 (Value.int .u32) (.slice A90 x89.length n91) x89])⟩ HA110).mono ?_
              rintro e_ w111 ⟨rfl, hS⟩
              have HS_ : Aside0 (Sep (fps []) w [row 43 (Value.int .u32) (.slice A90 x89.length n91) x89] w111) := ⟨HS.out.call (l := []) (rest := [row 43 (Value.int .u32) (.slice A90 x89.length n91) x89]) hS⟩
              clear HS hS
              have HS := HS_
              clear HS_
              by_cases c115 : x89.length < 35184372088832
              · have AL85 := if_yes c115 AL85
                have c115b0 : decide (x89.length < 35184372088832) = true := decide_eq_true c115
                clear c115
                obtain ⟨y119, HA120, AL85⟩ := bind_some AL85
                go_wp2_with (first | ((with_reducible refine gate_dst (N := 30) rfl ?_); refine slice_on (n := 1) ?hg (N := 30) ?hd (cs := #[.int .u32 t109]) (t := 43) ?hr ?_; (case hd => rfl); (case hg => rfl); (case hr => first | (go_simp; done) | (go_simp; rfl)); intro g112 hg w113 hbox hb; have HS_ : Aside0 (Sep (fps []) w [row 43 (Value.int .u32) (.slice A90 x89.length n91) x89, blk g112 #[.int .u32 t109] 43] w113) := ⟨HS.out.box hg hbox hb⟩; clear HS hg hbox hb; have HS := HS_; clear HS_) | ((with_reducible refine gate_dst (N := 31) rfl ?_); refine append_event (l1 := []) (l2 := [blk g112 #[.int .u32 t109] 43]) rfl (.tmp 25) (.tmp 30) 56 43 (.int .u32 0) 4 rfl Try.underlying56 (by kernel_rfl) rfl (by decide) (Value.int .u32) (fun _ => rfl) (.slice A90 x89.length n91) (x89 : List Int) [t109] ⟨g112, 0, none⟩ 1 rfl rfl (blk_news (xs := [t109]) (HS.out.at1)) HS.out (by have := of_decide_eq_true c115b0; simp only [List.length_cons, List.length_nil]; omega) HA120 ?_; intro A116 n117 w118 HS1; have HS_ : Aside0 (Sep (fps []) w [row 43 (Value.int .u32) (.slice A116 y119.length n117) y119, blk g112 #[.int .u32 t109] 43] w118) := ⟨HS1⟩; clear HS HS1; have HS := HS_; clear HS_))
                go_roundg k87
                case measure => exact Nat.lt_succ_self _
                case rel => exact ⟨(y119), (wrap64 (x92 + (rd l41 x93))), (wrap64 (x93 + 1)), (A116), (n117), (by first | rfl | (simp [IntKind.wrap_u32]; done)), (by first | rfl | (simp [IntKind.wrap_u32]; done)), (by first | rfl | (simp [IntKind.wrap_u32]; done)), Aside0.mk AL85.out, ⟨(HS.out).keep (l := [row 43 (Value.int .u32) (.slice A116 y119.length n117) y119]) (rest := [blk g112 #[.int .u32 t109] 43])⟩⟩
              · have AL85 := if_no c115 AL85
                have c115b0 : decide (x89.length < 35184372088832) = false := decide_eq_false c115
                clear c115
                exact (none_no AL85).elim
            · have AL85 := if_no c95 AL85
              have c95b0 : decide (0 ≤ x93) = false := decide_eq_false c95
              clear c95
              exact (none_no AL85).elim
          · have AL85 := if_no c94 AL85
            have c94b0 : decide (x93 < (l41.length : Int)) = false := decide_eq_false c94
            clear c94
            have ho := some_eq AL85
            subst ho
            clear AL85
            go_wp2_with fail
            go_ret2
            rw [← some_eq H]
            exact ⟨_, _, (by first | rfl | (simp [IntKind.wrap_u32]; done)), (HS.out).keep (l := [row 43 (Value.int .u32) (.slice A90 x89.length n91) x89]) (rest := [])⟩
    · have H := if_no c82 H
      have c82b0 : t79 = false := by simpa using c82
      have c82b1 : (!t79) = true := by rw [c82b0]; rfl
      try rw [c82b1]
      clear c82
      go_wp2_with fail
      have HS_ : Aside0 (Sep (fps []) w [row 43 (Value.int .u32) (.slice none 0 0) ([] : List Int)] w81) := ⟨HS.out.nilrow 43 (Value.int .u32)⟩
      clear HS
      have HS := HS_
      clear HS_
      go_ret2
      rw [← some_eq H]
      exact ⟨_, _, (by first | rfl | (simp [IntKind.wrap_u32]; done)), (HS.out).keep (l := [row 43 (Value.int .u32) (.slice none 0 0) ([] : List Int)]) (rest := [])⟩

set_option maxHeartbeats 4000000 in
set_option maxRecDepth 100000 in
theorem pack_Join.calls (k : Nat) (l139 : List Int) (l143 : List Int) (A140 : Option Addr) (n141 : Nat) (A144 : Option Addr) (n145 : Nat) (r : Int × Int) (w : World) (HR142 : Aside0 (Kd.C (Kd.int .u32) w A140 l139.length l139)) (HR146 : Aside0 (Kd.C (Kd.int .i64) w A144 l143.length l143)) (HS : Aside0 (Sep (fps []) w [] w)) (H : Aside0 (pack_Join.f k l139 l143 = some r)) :
    Calls Try.prog 48 #[.slice A140 l139.length n141, .slice A144 l143.length n145] w fun e w' => e = .returned (.tuple #[.int .u32 r.1, .int .i64 r.2]) ∧ Sep (fps []) w [] w' := by
  unfold pack_Join.f at H
  go_enter Try.func48, Try.ntmps48
  go_wp2_with fail
  obtain ⟨t147, HA148, H⟩ := bind_some H
  refine (pack_total.calls _ l143 A144 n145 t147 _ ⟨HR146.out⟩ ⟨HS.out.begin (l := []) (rest := [])⟩ HA148).mono ?_
  rintro e_ w149 ⟨rfl, hS⟩
  have HS_ : Aside0 (Sep (fps []) w [] w149) := ⟨HS.out.call (l := []) (rest := []) hS⟩
  clear HS hS
  have HS := HS_
  clear HS_
  by_cases c150 : t147 < 0
  · have H := if_yes c150 H
    have c150b0 : decide (t147 < 0) = true := decide_eq_true c150
    clear c150
    go_wp2_with fail
    go_ret2
    rw [← some_eq H]
    exact ⟨(by first | rfl | (simp [IntKind.wrap_u32]; done)), (HS.out).keep (l := []) (rest := [])⟩
  · have H := if_no c150 H
    have c150b0 : decide (t147 < 0) = false := decide_eq_false c150
    clear c150
    by_cases c151 : (l139.length : Int) = (l143.length : Int)
    · have H := if_yes c151 H
      have c151b0 : ((l139.length : Int) == (l143.length : Int)) = true := beq_iff_eq.mpr c151
      have c151b1 : ((l139.length : Int) != (l143.length : Int)) = false := bne_eq_false_iff_eq.mpr c151
      clear c151
      go_wp2_with fail
      obtain ⟨o170, AL171, H⟩ := bind_some H
      go_loopg [6, 7, 24] k (fun kq v6 v7 v24 wc => ∃ (x174 : Int) (x175 : Int) (x176 : Int), v6 = .int .u32 x174 ∧ v7 = .int .i64 x175 ∧ v24 = .int .i64 x176 ∧ Aside0 (pack_Join.lo0 kq l139 l143 x174 x175 x176 = some o170) ∧ Aside0 (Sep (fps []) w [] wc))
      case atStart => exact ⟨(0), (0), (0), (by first | rfl | (simp [IntKind.wrap_u32]; done)), (by first | rfl | (simp [IntKind.wrap_u32]; done)), (by first | rfl | (simp [IntKind.wrap_u32]; done)), AL171, ⟨HS.out⟩⟩
      case round =>
        clear AL171 HS
        obtain ⟨x174, x175, x176, rfl, rfl, rfl, AL171, HS⟩ := hrel
        obtain ⟨w172, rfl⟩ : ∃ x : World, x = wr := ⟨_, rfl⟩
        cases gk with
        | zero => exact absurd AL171.out (by simp [pack_Join.lo0])
        | succ k173 =>
          have AL0 := AL171.out
          rw [pack_Join.lo0] at AL0
          clear AL171
          have AL171 := Aside0.mk AL0
          clear AL0
          by_cases c177 : x176 < (l143.length : Int)
          · have AL171 := if_yes c177 AL171
            have c177b0 : decide (x176 < (l143.length : Int)) = true := decide_eq_true c177
            clear c177
            by_cases c178 : 0 ≤ x176
            · have AL171 := if_yes c178 AL171
              have c178b0 : decide (0 ≤ x176) = true := decide_eq_true c178
              have c178p : (0 ≤ x176) = True := eq_true c178
              clear c178
              have ip179 : (x176 < (l143.length : Int)) = True := eq_true (of_decide_eq_true c177b0)
              by_cases c181 : x176 < (l139.length : Int)
              · have AL171 := if_yes c181 AL171
                have c181b0 : decide (x176 < (l139.length : Int)) = true := decide_eq_true c181
                have c181p : (x176 < (l139.length : Int)) = True := eq_true c181
                clear c181
                obtain ⟨hx180a, hx180e, hx180⟩ := Kd.at_int (Kd.C_below HR146.out HS.out.fr.below) x176 (of_decide_eq_true c178b0) (of_decide_eq_true c177b0); cases hx180e
                obtain ⟨hx182a, hx182e, hx182⟩ := Kd.at_int (Kd.C_below HR142.out HS.out.fr.below) x176 (of_decide_eq_true c178b0) (of_decide_eq_true c181b0); cases hx182e
                go_wp2_with fail
                clear hx180 hx182
                obtain ⟨t166, HA183, AL171⟩ := bind_some AL171
                refine (pack_Put.calls x174 x175 (rd l143 x176) (rd l139 x176) t166 _ ⟨HS.out.begin (l := []) (rest := [])⟩ HA183).mono ?_
                rintro e_ w184 ⟨rfl, hS⟩
                have HS_ : Aside0 (Sep (fps []) w [] w184) := ⟨HS.out.call (l := []) (rest := []) hS⟩
                clear HS hS
                have HS := HS_
                clear HS_
                by_cases c185 : t166.2 = 0
                · have AL171 := if_yes c185 AL171
                  have c185b0 : (t166.2 == 0) = true := beq_iff_eq.mpr c185
                  have c185b1 : (t166.2 != 0) = false := bne_eq_false_iff_eq.mpr c185
                  clear c185
                  go_wp2_with fail
                  go_roundg k173
                  case measure => exact Nat.lt_succ_self _
                  case rel => exact ⟨(t166.1), (wrap64 (x175 + (rd l143 x176))), (wrap64 (x176 + 1)), (by first | rfl | (simp [IntKind.wrap_u32]; done)), (by first | rfl | (simp [IntKind.wrap_u32]; done)), (by first | rfl | (simp [IntKind.wrap_u32]; done)), Aside0.mk AL171.out, ⟨(HS.out).keep (l := []) (rest := [])⟩⟩
                · have AL171 := if_no c185 AL171
                  have c185b0 : (t166.2 == 0) = false := beq_eq_false_iff_ne.mpr c185
                  have c185b1 : (t166.2 != 0) = true := bne_iff_ne.mpr c185
                  clear c185
                  go_wp2_with fail
                  have ho := some_eq AL171
                  subst ho
                  have H := lp_ret H
                  go_ret2
                  rw [← some_eq H]
                  exact ⟨(by first | rfl | (simp [IntKind.wrap_u32]; done)), (HS.out).keep (l := []) (rest := [])⟩
              · have AL171 := if_no c181 AL171
                have c181b0 : decide (x176 < (l139.length : Int)) = false := decide_eq_false c181
                clear c181
                exact (none_no AL171).elim
            · have AL171 := if_no c178 AL171
              have c178b0 : decide (0 ≤ x176) = false := decide_eq_false c178
              clear c178
              exact (none_no AL171).elim
          · have AL171 := if_no c177 AL171
            have c177b0 : decide (x176 < (l143.length : Int)) = false := decide_eq_false c177
            clear c177
            have ho := some_eq AL171
            subst ho
            clear AL171
            have H := lp_out H
            go_wp2_with fail
            go_ret2
            rw [← some_eq H]
            exact ⟨(by first | rfl | (simp [IntKind.wrap_u32]; done)), (HS.out).keep (l := []) (rest := [])⟩
    · have H := if_no c151 H
      have c151b0 : ((l139.length : Int) == (l143.length : Int)) = false := beq_eq_false_iff_ne.mpr c151
      have c151b1 : ((l139.length : Int) != (l143.length : Int)) = true := bne_iff_ne.mpr c151
      clear c151
      go_wp2_with fail
      go_ret2
      rw [← some_eq H]
      exact ⟨(by first | rfl | (simp [IntKind.wrap_u32]; done)), (HS.out).keep (l := []) (rest := [])⟩

set_option maxHeartbeats 4000000 in
set_option maxRecDepth 100000 in
theorem pack_Ones.calls (k : Nat) (a196 : Int) (r : Int) (w : World)  (HS : Aside0 (Sep (fps []) w [] w)) (H : Aside0 (pack_Ones.f k a196 = some r)) :
    Calls Try.prog 39 #[.int .u32 a196] w fun e w' => e = .returned (.int .i64 r) ∧ Sep (fps []) w [] w' := by
  unfold pack_Ones.f at H
  go_enter Try.func39, Try.ntmps39
  go_wp2_with fail
  obtain ⟨o198, AL199, H⟩ := bind_some H
  go_loopg [0, 3] k (fun kq v0 v3 wc => ∃ (x202 : Int) (x203 : Int), v0 = .int .u32 x202 ∧ v3 = .int .i64 x203 ∧ Aside0 (pack_Ones.lo0 kq x202 x203 = some o198) ∧ Aside0 (Sep (fps []) w [] wc))
  case atStart => exact ⟨(a196), (0), (by first | rfl | (simp [IntKind.wrap_u32]; done)), (by first | rfl | (simp [IntKind.wrap_u32]; done)), AL199, ⟨HS.out⟩⟩
  case round =>
    clear AL199 HS
    obtain ⟨x202, x203, rfl, rfl, AL199, HS⟩ := hrel
    obtain ⟨w200, rfl⟩ : ∃ x : World, x = wr := ⟨_, rfl⟩
    cases gk with
    | zero => exact absurd AL199.out (by simp [pack_Ones.lo0])
    | succ k201 =>
      have AL0 := AL199.out
      rw [pack_Ones.lo0] at AL0
      clear AL199
      have AL199 := Aside0.mk AL0
      clear AL0
      by_cases c204 : x202 = 0
      · have AL199 := if_yes c204 AL199
        have c204b0 : (x202 == 0) = true := beq_iff_eq.mpr c204
        have c204b1 : (x202 != 0) = false := bne_eq_false_iff_eq.mpr c204
        clear c204
        have ho := some_eq AL199
        subst ho
        clear AL199
        go_wp2_with fail
        go_ret
        rw [← some_eq H]
        exact ⟨(by first | rfl | (simp [IntKind.wrap_u32]; done)), (HS.out).keep (l := []) (rest := [])⟩
      · have AL199 := if_no c204 AL199
        have c204b0 : (x202 == 0) = false := beq_eq_false_iff_ne.mpr c204
        have c204b1 : (x202 != 0) = true := bne_iff_ne.mpr c204
        clear c204
        go_wp2_with fail
        go_roundg k201
        case measure => exact Nat.lt_succ_self _
        case rel => exact ⟨(Go.bits .and .u32 x202 ((x202 - 1) % 4294967296)), (wrap64 (x203 + 1)), (by first | rfl | (simp [IntKind.wrap_u32]; done)), (by first | rfl | (simp [IntKind.wrap_u32]; done)), Aside0.mk AL199.out, ⟨(HS.out).keep (l := []) (rest := [])⟩⟩

set_option maxHeartbeats 4000000 in
set_option maxRecDepth 100000 in
theorem quitrentref01_Same.calls (k : Nat) (l213 : List Int) (l217 : List Int) (A214 : Option Addr) (n215 : Nat) (A218 : Option Addr) (n219 : Nat) (r : Bool) (w : World) (HR216 : Aside0 (Kd.C (Kd.int .u32) w A214 l213.length l213)) (HR220 : Aside0 (Kd.C (Kd.int .u32) w A218 l217.length l217)) (HS : Aside0 (Sep (fps []) w [] w)) (H : Aside0 (quitrentref01_Same.f k l213 l217 = some r)) :
    Calls Try.prog 50 #[.slice A214 l213.length n215, .slice A218 l217.length n219] w fun e w' => e = .returned (.bool r) ∧ Sep (fps []) w [] w' := by
  unfold quitrentref01_Same.f at H
  go_enter Try.func50, Try.ntmps50
  by_cases c221 : (l213.length : Int) = (l217.length : Int)
  · have H := if_yes c221 H
    have c221b0 : ((l213.length : Int) == (l217.length : Int)) = true := beq_iff_eq.mpr c221
    have c221b1 : ((l213.length : Int) != (l217.length : Int)) = false := bne_eq_false_iff_eq.mpr c221
    clear c221
    go_wp2_with fail
    obtain ⟨o237, AL238, H⟩ := bind_some H
    go_loopg [5] k (fun kq v5 wc => ∃ (x241 : Int), v5 = .int .i64 x241 ∧ Aside0 (quitrentref01_Same.lo0 kq l213 l217 x241 = some o237) ∧ Aside0 (Sep (fps []) w [] wc))
    case atStart => exact ⟨(0), (by first | rfl | (simp [IntKind.wrap_u32]; done)), AL238, ⟨HS.out⟩⟩
    case round =>
      clear AL238 HS
      obtain ⟨x241, rfl, AL238, HS⟩ := hrel
      obtain ⟨w239, rfl⟩ : ∃ x : World, x = wr := ⟨_, rfl⟩
      cases gk with
      | zero => exact absurd AL238.out (by simp [quitrentref01_Same.lo0])
      | succ k240 =>
        have AL0 := AL238.out
        rw [quitrentref01_Same.lo0] at AL0
        clear AL238
        have AL238 := Aside0.mk AL0
        clear AL0
        by_cases c242 : x241 < (l213.length : Int)
        · have AL238 := if_yes c242 AL238
          have c242b0 : decide (x241 < (l213.length : Int)) = true := decide_eq_true c242
          clear c242
          go_wp2_with fail
          refine start_ (n := 9) (S := (fun w' => Kd.C (Kd.int .u32) w' A214 l213.length l213 ∧ Kd.C (Kd.int .u32) w' A218 l217.length l217)) (ds := []) #[false, false, false, false, false, false, false, false, false] (by kernel_rfl) rfl rfl (⟨Kd.C_below HR216.out (HS.out.drew).fr.below, Kd.C_below HR220.out (HS.out.drew).fr.below⟩) (fun hHeld => ?_)
          have HS_ := Aside0.mk HS.out.drew
          clear HS
          generalize World.drew _ = w244 at HS_ hHeld ⊢
          have HS := HS_
          clear HS_
          refine pure_ (i := 0) (N := some 17) (v := ?_) (a' := ?_) #[true, false, false, false, false, false, false, false, false] rfl rfl (by kernel_rfl) (fun _ _ _ h => h) (Or.inl ⟨by rfl, ?_⟩) ?_ ?_
          rotate_left
          · intro w'
            go_simp
            with_reducible rfl
          rotate_left
          · simp only [Act.put, List.setIfInBounds_toArray, List.set_cons_zero, List.set_cons_succ, i64_w, i32_w]
            rfl
          refine pure_ (i := 1) (N := some 18) (v := ?_) (a' := ?_) #[true, true, false, false, false, false, false, false, false] rfl rfl (by kernel_rfl) (fun _ _ _ h => h) (Or.inl ⟨by rfl, ?_⟩) ?_ ?_
          rotate_left
          · intro w'
            go_simp
            with_reducible rfl
          rotate_left
          · simp only [Act.put, List.setIfInBounds_toArray, List.set_cons_zero, List.set_cons_succ, i64_w, i32_w]
            rfl
          by_cases c245 : 0 ≤ x241
          · have AL238 := if_yes c245 AL238
            have c245b0 : decide (0 ≤ x241) = true := decide_eq_true c245
            have c245p : (0 ≤ x241) = True := eq_true c245
            clear c245
            have ip246 : (x241 < (l213.length : Int)) = True := eq_true (of_decide_eq_true c242b0)
            obtain ⟨ad247, ea, _⟩ := Kd.at_int (Kd.C_below HR216.out HS.out.fr.below) x241 (of_decide_eq_true c245b0) (of_decide_eq_true c242b0)
            cases ea
            refine pure_ (i := 2) (N := some 19) (v := ?_) (a' := ?_) #[true, true, true, false, false, false, false, false, false] rfl rfl (by kernel_rfl) (fun _ _ _ h => h) (Or.inl ⟨by rfl, ?_⟩) ?_ ?_
            rotate_left
            · intro w'
              go_simp
              with_reducible rfl
            rotate_left
            · simp only [Act.put, List.setIfInBounds_toArray, List.set_cons_zero, List.set_cons_succ, i64_w, i32_w]
              rfl
            refine pure_ (i := 4) (N := some 21) (v := ?_) (a' := ?_) #[true, true, true, false, true, false, false, false, false] rfl rfl (by kernel_rfl) (fun _ _ _ h => h) (Or.inl ⟨by rfl, ?_⟩) ?_ ?_
            rotate_left
            · intro w'
              go_simp
              with_reducible rfl
            rotate_left
            · simp only [Act.put, List.setIfInBounds_toArray, List.set_cons_zero, List.set_cons_succ, i64_w, i32_w]
              rfl
            refine pure_ (i := 5) (N := some 22) (v := ?_) (a' := ?_) #[true, true, true, false, true, true, false, false, false] rfl rfl (by kernel_rfl) (fun _ _ _ h => h) (Or.inl ⟨by rfl, ?_⟩) ?_ ?_
            rotate_left
            · intro w'
              go_simp
              with_reducible rfl
            rotate_left
            · simp only [Act.put, List.setIfInBounds_toArray, List.set_cons_zero, List.set_cons_succ, i64_w, i32_w]
              rfl
            by_cases c248 : x241 < (l217.length : Int)
            · have AL238 := if_yes c248 AL238
              have c248b0 : decide (x241 < (l217.length : Int)) = true := decide_eq_true c248
              have c248p : (x241 < (l217.length : Int)) = True := eq_true c248
              clear c248
              obtain ⟨ad249, ea, _⟩ := Kd.at_int (Kd.C_below HR220.out HS.out.fr.below) x241 (of_decide_eq_true c245b0) (of_decide_eq_true c248b0)
              cases ea
              refine pure_ (i := 6) (N := some 23) (v := ?_) (a' := ?_) #[true, true, true, false, true, true, true, false, false] rfl rfl (by kernel_rfl) (fun _ _ _ h => h) (Or.inl ⟨by rfl, ?_⟩) ?_ ?_
              rotate_left
              · intro w'
                go_simp
                with_reducible rfl
              rotate_left
              · simp only [Act.put, List.setIfInBounds_toArray, List.set_cons_zero, List.set_cons_succ, i64_w, i32_w]
                rfl
              refine take_ (i := 3) (N := some 20) (v := ?_) (a' := ?_) #[true, true, true, true, true, true, true, false, false] rfl rfl (by kernel_rfl) (fun _ _ _ h => h) (Or.inl ⟨by rfl, ?_⟩) hHeld ?_ ?_
              rotate_left
              · rintro w' hS'
                obtain ⟨s0, s1⟩ := hS'
                have hx := C_at_int s0 x241 (of_decide_eq_true c245b0) (of_decide_eq_true c242b0)
                go_simp
                with_reducible rfl
              rotate_left
              · simp only [Act.put, List.setIfInBounds_toArray, List.set_cons_zero, List.set_cons_succ, i64_w, i32_w]
                rfl
              refine take_ (i := 7) (N := some 24) (v := ?_) (a' := ?_) #[true, true, true, true, true, true, true, true, false] rfl rfl (by kernel_rfl) (fun _ _ _ h => h) (Or.inl ⟨by rfl, ?_⟩) hHeld ?_ ?_
              rotate_left
              · rintro w' hS'
                obtain ⟨s0, s1⟩ := hS'
                have hx := C_at_int s1 x241 (of_decide_eq_true c245b0) (of_decide_eq_true c248b0)
                go_simp
                with_reducible rfl
              rotate_left
              · simp only [Act.put, List.setIfInBounds_toArray, List.set_cons_zero, List.set_cons_succ, i64_w, i32_w]
                rfl
              refine pure_ (i := 8) (N := some 25) (v := ?_) (a' := ?_) #[true, true, true, true, true, true, true, true, true] rfl rfl (by kernel_rfl) (fun _ _ _ h => h) (Or.inl ⟨by rfl, ?_⟩) ?_ ?_
              rotate_left
              · intro w'
                go_simp
                with_reducible rfl
              rotate_left
              · simp only [Act.put, List.setIfInBounds_toArray, List.set_cons_zero, List.set_cons_succ, i64_w, i32_w]
                rfl
              refine done_ (by kernel_rfl) ?_
              by_cases c250 : (rd l213 x241) = (rd l217 x241)
              · have AL238 := if_yes c250 AL238
                have c250b0 : ((rd l213 x241) == (rd l217 x241)) = true := beq_iff_eq.mpr c250
                have c250b1 : ((rd l213 x241) != (rd l217 x241)) = false := bne_eq_false_iff_eq.mpr c250
                clear c250
                go_wp2_with fail
                go_roundg k240
                case measure => exact Nat.lt_succ_self _
                case rel => exact ⟨(wrap64 (x241 + 1)), (by first | rfl | (simp [IntKind.wrap_u32]; done)), Aside0.mk AL238.out, ⟨(HS.out).keep (l := []) (rest := [])⟩⟩
              · have AL238 := if_no c250 AL238
                have c250b0 : ((rd l213 x241) == (rd l217 x241)) = false := beq_eq_false_iff_ne.mpr c250
                have c250b1 : ((rd l213 x241) != (rd l217 x241)) = true := bne_iff_ne.mpr c250
                clear c250
                go_wp2_with fail
                have ho := some_eq AL238
                subst ho
                have H := lp_ret H
                go_ret
                rw [← some_eq H]
                exact ⟨(by first | rfl | (simp [IntKind.wrap_u32]; done)), (HS.out).keep (l := []) (rest := [])⟩
            · have AL238 := if_no c248 AL238
              have c248b0 : decide (x241 < (l217.length : Int)) = false := decide_eq_false c248
              clear c248
              exact (none_no AL238).elim
          · have AL238 := if_no c245 AL238
            have c245b0 : decide (0 ≤ x241) = false := decide_eq_false c245
            clear c245
            exact (none_no AL238).elim
        · have AL238 := if_no c242 AL238
          have c242b0 : decide (x241 < (l213.length : Int)) = false := decide_eq_false c242
          clear c242
          have ho := some_eq AL238
          subst ho
          clear AL238
          have H := lp_out H
          go_wp2_with fail
          go_ret
          rw [← some_eq H]
          exact ⟨(by first | rfl | (simp [IntKind.wrap_u32]; done)), (HS.out).keep (l := []) (rest := [])⟩
  · have H := if_no c221 H
    have c221b0 : ((l213.length : Int) == (l217.length : Int)) = false := beq_eq_false_iff_ne.mpr c221
    have c221b1 : ((l213.length : Int) != (l217.length : Int)) = true := bne_iff_ne.mpr c221
    clear c221
    go_wp2_with fail
    go_ret
    rw [← some_eq H]
    exact ⟨(by first | rfl | (simp [IntKind.wrap_u32]; done)), (HS.out).keep (l := []) (rest := [])⟩

set_option maxHeartbeats 4000000 in
set_option maxRecDepth 100000 in
theorem quitrentlaw01_begun.calls (k : Nat)  (r : Bool) (w : World)  (HS : Aside0 (Sep (fps []) w [] w)) (H : Aside0 (quitrentlaw01_begun.f k = some r)) :
    Calls Try.prog 34 #[] w fun e w' => e = .returned (.bool r) ∧ Sep (fps []) w [] w' := by
  unfold quitrentlaw01_begun.f at H
  go_enter Try.func34, Try.ntmps34
  go_wp2_with fail
  obtain ⟨t34, HA35, H⟩ := bind_some H
  refine (pack_Put.calls 0 4 8 255 t34 _ ⟨HS.out.begin (l := []) (rest := [])⟩ HA35).mono ?_
  rintro e_ w36 ⟨rfl, hS⟩
  have HS_ : Aside0 (Sep (fps []) w [] w36) := ⟨HS.out.call (l := []) (rest := []) hS⟩
  clear HS hS
  have HS := HS_
  clear HS_
  go_wp2_with (first | ((with_reducible refine gate_dst (N := 12) rfl ?_); refine slice_on (n := 3) ?hg (N := 12) ?hd (cs := #[.int .i64 4, .int .i64 4, .int .i64 4]) (t := 3) ?hr ?_; (case hd => rfl); (case hg => rfl); (case hr => first | (go_simp; done) | (go_simp; rfl)); intro g37 hg w38 hbox hb; have HS_ : Aside0 (Sep (fps []) w [blk g37 #[.int .i64 4, .int .i64 4, .int .i64 4] 3] w38) := ⟨HS.out.box hg hbox hb⟩; clear HS hg hbox hb; have HS := HS_; clear HS_))
  obtain ⟨t127, HA128, H⟩ := bind_some H
  refine (pack_Split.calls _ 291 [4, 4, 4] (some ⟨g37, 0, none⟩) 3 t127 _ ⟨C_of_blk (xs := [4, 4, 4]) (HS.out.at0) (by simp)⟩ ⟨HS.out.begin (l := []) (rest := [blk g37 #[.int .i64 4, .int .i64 4, .int .i64 4] 3])⟩ HA128).mono ?_
  rintro e_ w129 ⟨A130, n131, rfl, hS⟩
  have HS_ : Aside0 (Sep (fps []) w [row 43 (Value.int .u32) (.slice A130 ((t127.1).length) n131) t127.1, blk g37 #[.int .i64 4, .int .i64 4, .int .i64 4] 3] w129) := ⟨HS.out.call (l := []) (rest := [blk g37 #[.int .i64 4, .int .i64 4, .int .i64 4] 3]) hS⟩
  clear HS hS
  have HS := HS_
  clear HS_
  go_wp2_with (first | ((with_reducible refine gate_dst (N := 17) rfl ?_); refine slice_on (n := 1) ?hg (N := 17) ?hd (cs := #[.int .u32 16]) (t := 43) ?hr ?_; (case hd => rfl); (case hg => rfl); (case hr => first | (go_simp; done) | (go_simp; rfl)); intro g133 hg w134 hbox hb; have HS_ : Aside0 (Sep (fps []) w [row 43 (Value.int .u32) (.slice A130 ((t127.1).length) n131) t127.1, blk g37 #[.int .i64 4, .int .i64 4, .int .i64 4] 3, blk g133 #[.int .u32 16] 43] w134) := ⟨HS.out.box hg hbox hb⟩; clear HS hg hbox hb; have HS := HS_; clear HS_) | ((with_reducible refine gate_dst (N := 18) rfl ?_); refine slice_on (n := 1) ?hg (N := 18) ?hd (cs := #[.int .i64 4]) (t := 3) ?hr ?_; (case hd => rfl); (case hg => rfl); (case hr => first | (go_simp; done) | (go_simp; rfl)); intro g136 hg w137 hbox hb; have HS_ : Aside0 (Sep (fps []) w [row 43 (Value.int .u32) (.slice A130 ((t127.1).length) n131) t127.1, blk g37 #[.int .i64 4, .int .i64 4, .int .i64 4] 3, blk g133 #[.int .u32 16] 43, blk g136 #[.int .i64 4] 3] w137) := ⟨HS.out.box hg hbox hb⟩; clear HS hg hbox hb; have HS := HS_; clear HS_))
  obtain ⟨t187, HA188, H⟩ := bind_some H
  refine (pack_Join.calls _ [16] [4] (some ⟨g133, 0, none⟩) 1 (some ⟨g136, 0, none⟩) 1 t187 _ ⟨C_of_blk (xs := [16]) (HS.out.at2) (by simp)⟩ ⟨C_of_blk (xs := [4]) (HS.out.at3) (by simp)⟩ ⟨HS.out.begin (l := []) (rest := [row 43 (Value.int .u32) (.slice A130 ((t127.1).length) n131) t127.1, blk g37 #[.int .i64 4, .int .i64 4, .int .i64 4] 3, blk g133 #[.int .u32 16] 43, blk g136 #[.int .i64 4] 3])⟩ HA188).mono ?_
  rintro e_ w189 ⟨rfl, hS⟩
  have HS_ : Aside0 (Sep (fps []) w [row 43 (Value.int .u32) (.slice A130 ((t127.1).length) n131) t127.1, blk g37 #[.int .i64 4, .int .i64 4, .int .i64 4] 3, blk g133 #[.int .u32 16] 43, blk g136 #[.int .i64 4] 3] w189) := ⟨HS.out.call (l := []) (rest := [row 43 (Value.int .u32) (.slice A130 ((t127.1).length) n131) t127.1, blk g37 #[.int .i64 4, .int .i64 4, .int .i64 4] 3, blk g133 #[.int .u32 16] 43, blk g136 #[.int .i64 4] 3]) hS⟩
  clear HS hS
  have HS := HS_
  clear HS_
  by_cases c190 : t34.1 = 4080
  · have H := if_yes c190 H
    have c190b0 : (t34.1 == 4080) = true := beq_iff_eq.mpr c190
    have c190b1 : (t34.1 != 4080) = false := bne_eq_false_iff_eq.mpr c190
    clear c190
    by_cases c191 : t34.2 = 0
    · have H := if_yes c191 H
      have c191b0 : (t34.2 == 0) = true := beq_iff_eq.mpr c191
      have c191b1 : (t34.2 != 0) = false := bne_eq_false_iff_eq.mpr c191
      clear c191
      go_wp2_with fail
      obtain ⟨t192, HA193, H⟩ := bind_some H
      refine (pack_Get.calls t34.1 4 8 t192 _ ⟨HS.out.begin (l := []) (rest := [row 43 (Value.int .u32) (.slice A130 ((t127.1).length) n131) t127.1, blk g37 #[.int .i64 4, .int .i64 4, .int .i64 4] 3, blk g133 #[.int .u32 16] 43, blk g136 #[.int .i64 4] 3])⟩ HA193).mono ?_
      rintro e_ w194 ⟨rfl, hS⟩
      have HS_ : Aside0 (Sep (fps []) w [row 43 (Value.int .u32) (.slice A130 ((t127.1).length) n131) t127.1, blk g37 #[.int .i64 4, .int .i64 4, .int .i64 4] 3, blk g133 #[.int .u32 16] 43, blk g136 #[.int .i64 4] 3] w194) := ⟨HS.out.call (l := []) (rest := [row 43 (Value.int .u32) (.slice A130 ((t127.1).length) n131) t127.1, blk g37 #[.int .i64 4, .int .i64 4, .int .i64 4] 3, blk g133 #[.int .u32 16] 43, blk g136 #[.int .i64 4] 3]) hS⟩
      clear HS hS
      have HS := HS_
      clear HS_
      by_cases c195 : t192 = 255
      · have H := if_yes c195 H
        have c195b0 : (t192 == 255) = true := beq_iff_eq.mpr c195
        have c195b1 : (t192 != 255) = false := bne_eq_false_iff_eq.mpr c195
        clear c195
        go_wp2_with fail
        obtain ⟨t206, HA207, H⟩ := bind_some H
        refine (pack_Ones.calls _ t34.1 t206 _ ⟨HS.out.begin (l := []) (rest := [row 43 (Value.int .u32) (.slice A130 ((t127.1).length) n131) t127.1, blk g37 #[.int .i64 4, .int .i64 4, .int .i64 4] 3, blk g133 #[.int .u32 16] 43, blk g136 #[.int .i64 4] 3])⟩ HA207).mono ?_
        rintro e_ w208 ⟨rfl, hS⟩
        have HS_ : Aside0 (Sep (fps []) w [row 43 (Value.int .u32) (.slice A130 ((t127.1).length) n131) t127.1, blk g37 #[.int .i64 4, .int .i64 4, .int .i64 4] 3, blk g133 #[.int .u32 16] 43, blk g136 #[.int .i64 4] 3] w208) := ⟨HS.out.call (l := []) (rest := [row 43 (Value.int .u32) (.slice A130 ((t127.1).length) n131) t127.1, blk g37 #[.int .i64 4, .int .i64 4, .int .i64 4] 3, blk g133 #[.int .u32 16] 43, blk g136 #[.int .i64 4] 3]) hS⟩
        clear HS hS
        have HS := HS_
        clear HS_
        by_cases c209 : t206 = 8
        · have H := if_yes c209 H
          have c209b0 : (t206 == 8) = true := beq_iff_eq.mpr c209
          have c209b1 : (t206 != 8) = false := bne_eq_false_iff_eq.mpr c209
          clear c209
          go_wp2_with (first | ((with_reducible refine gate_dst (N := 40) rfl ?_); refine slice_on (n := 3) ?hg (N := 40) ?hd (cs := #[.int .u32 3, .int .u32 2, .int .u32 1]) (t := 43) ?hr ?_; (case hd => rfl); (case hg => rfl); (case hr => first | (go_simp; done) | (go_simp; rfl)); intro g210 hg w211 hbox hb; have HS_ : Aside0 (Sep (fps []) w [row 43 (Value.int .u32) (.slice A130 ((t127.1).length) n131) t127.1, blk g37 #[.int .i64 4, .int .i64 4, .int .i64 4] 3, blk g133 #[.int .u32 16] 43, blk g136 #[.int .i64 4] 3, blk g210 #[.int .u32 3, .int .u32 2, .int .u32 1] 43] w211) := ⟨HS.out.box hg hbox hb⟩; clear HS hg hbox hb; have HS := HS_; clear HS_))
          obtain ⟨t252, HA253, H⟩ := bind_some H
          refine (quitrentref01_Same.calls _ t127.1 [3, 2, 1] A130 n131 (some ⟨g210, 0, none⟩) 3 t252 _ ⟨row_Ci (HS.out.at0)⟩ ⟨C_of_blk (xs := [3, 2, 1]) (HS.out.at4) (by simp)⟩ ⟨HS.out.begin (l := []) (rest := [row 43 (Value.int .u32) (.slice A130 ((t127.1).length) n131) t127.1, blk g37 #[.int .i64 4, .int .i64 4, .int .i64 4] 3, blk g133 #[.int .u32 16] 43, blk g136 #[.int .i64 4] 3, blk g210 #[.int .u32 3, .int .u32 2, .int .u32 1] 43])⟩ HA253).mono ?_
          rintro e_ w254 ⟨rfl, hS⟩
          have HS_ : Aside0 (Sep (fps []) w [row 43 (Value.int .u32) (.slice A130 ((t127.1).length) n131) t127.1, blk g37 #[.int .i64 4, .int .i64 4, .int .i64 4] 3, blk g133 #[.int .u32 16] 43, blk g136 #[.int .i64 4] 3, blk g210 #[.int .u32 3, .int .u32 2, .int .u32 1] 43] w254) := ⟨HS.out.call (l := []) (rest := [row 43 (Value.int .u32) (.slice A130 ((t127.1).length) n131) t127.1, blk g37 #[.int .i64 4, .int .i64 4, .int .i64 4] 3, blk g133 #[.int .u32 16] 43, blk g136 #[.int .i64 4] 3, blk g210 #[.int .u32 3, .int .u32 2, .int .u32 1] 43]) hS⟩
          clear HS hS
          have HS := HS_
          clear HS_
          by_cases c255 : t252 = true
          · have H := if_yes c255 H
            have c255b0 : t252 = true := c255
            have c255b1 : (!t252) = false := by rw [c255b0]; rfl
            clear c255
            by_cases c256 : t127.2 = 0
            · have H := if_yes c256 H
              have c256b0 : (t127.2 == 0) = true := beq_iff_eq.mpr c256
              have c256b1 : (t127.2 != 0) = false := bne_eq_false_iff_eq.mpr c256
              clear c256
              go_wp2_with fail
              go_ret
              rw [← some_eq H]
              exact ⟨(by first | rfl | (simp [IntKind.wrap_u32]; done)), (HS.out).keep (l := []) (rest := [row 43 (Value.int .u32) (.slice A130 ((t127.1).length) n131) t127.1, blk g37 #[.int .i64 4, .int .i64 4, .int .i64 4] 3, blk g133 #[.int .u32 16] 43, blk g136 #[.int .i64 4] 3, blk g210 #[.int .u32 3, .int .u32 2, .int .u32 1] 43])⟩
            · have H := if_no c256 H
              have c256b0 : (t127.2 == 0) = false := beq_eq_false_iff_ne.mpr c256
              have c256b1 : (t127.2 != 0) = true := bne_iff_ne.mpr c256
              clear c256
              go_wp2_with fail
              go_ret
              rw [← some_eq H]
              exact ⟨(by first | rfl | (simp [IntKind.wrap_u32]; done)), (HS.out).keep (l := []) (rest := [row 43 (Value.int .u32) (.slice A130 ((t127.1).length) n131) t127.1, blk g37 #[.int .i64 4, .int .i64 4, .int .i64 4] 3, blk g133 #[.int .u32 16] 43, blk g136 #[.int .i64 4] 3, blk g210 #[.int .u32 3, .int .u32 2, .int .u32 1] 43])⟩
          · have H := if_no c255 H
            have c255b0 : t252 = false := by simpa using c255
            have c255b1 : (!t252) = true := by rw [c255b0]; rfl
            clear c255
            go_wp2_with fail
            go_ret
            rw [← some_eq H]
            exact ⟨(by first | rfl | (simp [IntKind.wrap_u32]; done)), (HS.out).keep (l := []) (rest := [row 43 (Value.int .u32) (.slice A130 ((t127.1).length) n131) t127.1, blk g37 #[.int .i64 4, .int .i64 4, .int .i64 4] 3, blk g133 #[.int .u32 16] 43, blk g136 #[.int .i64 4] 3, blk g210 #[.int .u32 3, .int .u32 2, .int .u32 1] 43])⟩
        · have H := if_no c209 H
          have c209b0 : (t206 == 8) = false := beq_eq_false_iff_ne.mpr c209
          have c209b1 : (t206 != 8) = true := bne_iff_ne.mpr c209
          clear c209
          go_wp2_with fail
          go_ret
          rw [← some_eq H]
          exact ⟨(by first | rfl | (simp [IntKind.wrap_u32]; done)), (HS.out).keep (l := []) (rest := [row 43 (Value.int .u32) (.slice A130 ((t127.1).length) n131) t127.1, blk g37 #[.int .i64 4, .int .i64 4, .int .i64 4] 3, blk g133 #[.int .u32 16] 43, blk g136 #[.int .i64 4] 3])⟩
      · have H := if_no c195 H
        have c195b0 : (t192 == 255) = false := beq_eq_false_iff_ne.mpr c195
        have c195b1 : (t192 != 255) = true := bne_iff_ne.mpr c195
        clear c195
        go_wp2_with fail
        go_ret
        rw [← some_eq H]
        exact ⟨(by first | rfl | (simp [IntKind.wrap_u32]; done)), (HS.out).keep (l := []) (rest := [row 43 (Value.int .u32) (.slice A130 ((t127.1).length) n131) t127.1, blk g37 #[.int .i64 4, .int .i64 4, .int .i64 4] 3, blk g133 #[.int .u32 16] 43, blk g136 #[.int .i64 4] 3])⟩
    · have H := if_no c191 H
      have c191b0 : (t34.2 == 0) = false := beq_eq_false_iff_ne.mpr c191
      have c191b1 : (t34.2 != 0) = true := bne_iff_ne.mpr c191
      clear c191
      go_wp2_with fail
      go_ret
      rw [← some_eq H]
      exact ⟨(by first | rfl | (simp [IntKind.wrap_u32]; done)), (HS.out).keep (l := []) (rest := [row 43 (Value.int .u32) (.slice A130 ((t127.1).length) n131) t127.1, blk g37 #[.int .i64 4, .int .i64 4, .int .i64 4] 3, blk g133 #[.int .u32 16] 43, blk g136 #[.int .i64 4] 3])⟩
  · have H := if_no c190 H
    have c190b0 : (t34.1 == 4080) = false := beq_eq_false_iff_ne.mpr c190
    have c190b1 : (t34.1 != 4080) = true := bne_iff_ne.mpr c190
    clear c190
    go_wp2_with fail
    go_ret
    rw [← some_eq H]
    exact ⟨(by first | rfl | (simp [IntKind.wrap_u32]; done)), (HS.out).keep (l := []) (rest := [row 43 (Value.int .u32) (.slice A130 ((t127.1).length) n131) t127.1, blk g37 #[.int .i64 4, .int .i64 4, .int .i64 4] 3, blk g133 #[.int .u32 16] 43, blk g136 #[.int .i64 4] 3])⟩

set_option maxHeartbeats 4000000 in
set_option maxRecDepth 100000 in
theorem quitrentref01_Piece.calls (a267 : Int) (a268 : Int) (r : Bool) (w : World)  (HS : Aside0 (Sep (fps []) w [] w)) (H : Aside0 (quitrentref01_Piece.f a267 a268 = some r)) :
    Calls Try.prog 43 #[.int .i64 a267, .int .i64 a268] w fun e w' => e = .returned (.bool r) ∧ Sep (fps []) w [] w' := by
  unfold quitrentref01_Piece.f at H
  go_enter Try.func43, Try.ntmps43
  by_cases c269 : a267 ≥ 0
  · have H := if_yes c269 H
    have c269b0 : decide (0 ≤ a267) = true := decide_eq_true c269
    clear c269
    by_cases c270 : a268 ≥ 1
    · have H := if_yes c270 H
      have c270b0 : decide (1 ≤ a268) = true := decide_eq_true c270
      clear c270
      by_cases c271 : a268 ≤ 32
      · have H := if_yes c271 H
        have c271b0 : decide (a268 ≤ 32) = true := decide_eq_true c271
        clear c271
        go_wp2_with fail
        go_ret
        rw [← some_eq H]
        exact ⟨(by first | rfl | (simp [IntKind.wrap_u32]; done)), (HS.out).keep (l := []) (rest := [])⟩
      · have H := if_no c271 H
        have c271b0 : decide (a268 ≤ 32) = false := decide_eq_false c271
        clear c271
        go_wp2_with fail
        go_ret
        rw [← some_eq H]
        exact ⟨(by first | rfl | (simp [IntKind.wrap_u32]; done)), (HS.out).keep (l := []) (rest := [])⟩
    · have H := if_no c270 H
      have c270b0 : decide (1 ≤ a268) = false := decide_eq_false c270
      clear c270
      go_wp2_with fail
      go_ret
      rw [← some_eq H]
      exact ⟨(by first | rfl | (simp [IntKind.wrap_u32]; done)), (HS.out).keep (l := []) (rest := [])⟩
  · have H := if_no c269 H
    have c269b0 : decide (0 ≤ a267) = false := decide_eq_false c269
    clear c269
    go_wp2_with fail
    go_ret
    rw [← some_eq H]
    exact ⟨(by first | rfl | (simp [IntKind.wrap_u32]; done)), (HS.out).keep (l := []) (rest := [])⟩

set_option maxHeartbeats 4000000 in
set_option maxRecDepth 100000 in
theorem quitrentref01_Power.calls (k : Nat) (a278 : Int) (r : Int) (w : World)  (HS : Aside0 (Sep (fps []) w [] w)) (H : Aside0 (quitrentref01_Power.f k a278 = some r)) :
    Calls Try.prog 66 #[.int .i64 a278] w fun e w' => e = .returned (.int .u64 r) ∧ Sep (fps []) w [] w' := by
  unfold quitrentref01_Power.f at H
  go_enter Try.func66, Try.ntmps66
  go_wp2_with fail
  obtain ⟨o280, AL281, H⟩ := bind_some H
  go_loopg [3, 4] k (fun kq v3 v4 wc => ∃ (x284 : Int) (x285 : Int), v3 = .int .u64 x284 ∧ v4 = .int .i64 x285 ∧ Aside0 (quitrentref01_Power.lo0 kq a278 x284 x285 = some o280) ∧ Aside0 (Sep (fps []) w [] wc))
  case atStart => exact ⟨(1), (0), (by first | rfl | (simp [IntKind.wrap_u32]; done)), (by first | rfl | (simp [IntKind.wrap_u32]; done)), AL281, ⟨HS.out⟩⟩
  case round =>
    clear AL281 HS
    obtain ⟨x284, x285, rfl, rfl, AL281, HS⟩ := hrel
    obtain ⟨w282, rfl⟩ : ∃ x : World, x = wr := ⟨_, rfl⟩
    cases gk with
    | zero => exact absurd AL281.out (by simp [quitrentref01_Power.lo0])
    | succ k283 =>
      have AL0 := AL281.out
      rw [quitrentref01_Power.lo0] at AL0
      clear AL281
      have AL281 := Aside0.mk AL0
      clear AL0
      by_cases c286 : x285 < a278
      · have AL281 := if_yes c286 AL281
        have c286b0 : decide (x285 < a278) = true := decide_eq_true c286
        clear c286
        by_cases c287 : x285 < 32
        · have AL281 := if_yes c287 AL281
          have c287b0 : decide (x285 < 32) = true := decide_eq_true c287
          clear c287
          go_wp2_with fail
          go_roundg k283
          case measure => exact Nat.lt_succ_self _
          case rel => exact ⟨(IntKind.u64.wrap (x284 * 2)), (wrap64 (x285 + 1)), (by first | rfl | (simp [IntKind.wrap_u32]; done)), (by first | rfl | (simp [IntKind.wrap_u32]; done)), Aside0.mk AL281.out, ⟨(HS.out).keep (l := []) (rest := [])⟩⟩
        · have AL281 := if_no c287 AL281
          have c287b0 : decide (x285 < 32) = false := decide_eq_false c287
          clear c287
          have ho := some_eq AL281
          subst ho
          clear AL281
          go_wp2_with fail
          go_ret
          rw [← some_eq H]
          exact ⟨(by first | rfl | (simp [IntKind.wrap_u32]; done)), (HS.out).keep (l := []) (rest := [])⟩
      · have AL281 := if_no c286 AL281
        have c286b0 : decide (x285 < a278) = false := decide_eq_false c286
        clear c286
        have ho := some_eq AL281
        subst ho
        clear AL281
        go_wp2_with fail
        go_ret
        rw [← some_eq H]
        exact ⟨(by first | rfl | (simp [IntKind.wrap_u32]; done)), (HS.out).keep (l := []) (rest := [])⟩

set_option maxHeartbeats 4000000 in
set_option maxRecDepth 100000 in
theorem quitrentref01_Get.calls (k : Nat) (a264 : Int) (a265 : Int) (a266 : Int) (r : Int) (w : World)  (HS : Aside0 (Sep (fps []) w [] w)) (H : Aside0 (quitrentref01_Get.f k a264 a265 a266 = some r)) :
    Calls Try.prog 36 #[.int .u32 a264, .int .i64 a265, .int .i64 a266] w fun e w' => e = .returned (.int .u32 r) ∧ Sep (fps []) w [] w' := by
  unfold quitrentref01_Get.f at H
  go_enter Try.func36, Try.ntmps36
  go_wp2_with fail
  obtain ⟨t272, HA273, H⟩ := bind_some H
  refine (quitrentref01_Piece.calls a265 a266 t272 _ ⟨HS.out.begin (l := []) (rest := [])⟩ HA273).mono ?_
  rintro e_ w274 ⟨rfl, hS⟩
  have HS_ : Aside0 (Sep (fps []) w [] w274) := ⟨HS.out.call (l := []) (rest := []) hS⟩
  clear HS hS
  have HS := HS_
  clear HS_
  by_cases c275 : t272 = true
  · have H := if_yes c275 H
    have c275b0 : t272 = true := c275
    have c275b1 : (!t272) = false := by rw [c275b0]; rfl
    try rw [c275b1]
    clear c275
    go_wp2_with fail
    refine start_ (n := 10) (S := (fun _ => True)) (ds := []) #[false, false, false, false, false, false, false, false, false, false] (by kernel_rfl) rfl rfl (trivial) (fun hHeld => ?_)
    have HS_ := Aside0.mk HS.out.drew
    clear HS
    generalize World.drew _ = w277 at HS_ hHeld ⊢
    have HS := HS_
    clear HS_
    refine pure_ (i := 0) (N := some 11) (v := ?_) (a' := ?_) #[true, false, false, false, false, false, false, false, false, false] rfl rfl (by kernel_rfl) (fun _ _ _ h => h) (Or.inl ⟨by rfl, ?_⟩) ?_ ?_
    rotate_left
    · intro w'
      go_simp
      with_reducible rfl
    rotate_left
    · simp only [Act.put, List.setIfInBounds_toArray, List.set_cons_zero, List.set_cons_succ, i64_w, i32_w]
      rfl
    refine pure_ (i := 1) (N := some 12) (v := ?_) (a' := ?_) #[true, true, false, false, false, false, false, false, false, false] rfl rfl (by kernel_rfl) (fun _ _ _ h => h) (Or.inl ⟨by rfl, ?_⟩) ?_ ?_
    rotate_left
    · intro w'
      go_simp
      with_reducible rfl
    rotate_left
    · simp only [Act.put, List.setIfInBounds_toArray, List.set_cons_zero, List.set_cons_succ, i64_w, i32_w]
      rfl
    refine pure_ (i := 2) (N := some 13) (v := ?_) (a' := ?_) #[true, true, true, false, false, false, false, false, false, false] rfl rfl (by kernel_rfl) (fun _ _ _ h => h) (Or.inl ⟨by rfl, ?_⟩) ?_ ?_
    rotate_left
    · intro w'
      go_simp
      with_reducible rfl
    rotate_left
    · simp only [Act.put, List.setIfInBounds_toArray, List.set_cons_zero, List.set_cons_succ, i64_w, i32_w]
      rfl
    refine pure_ (i := 5) (N := some 16) (v := ?_) (a' := ?_) #[true, true, true, false, false, true, false, false, false, false] rfl rfl (by kernel_rfl) (fun _ _ _ h => h) (Or.inl ⟨by rfl, ?_⟩) ?_ ?_
    rotate_left
    · intro w'
      go_simp
      with_reducible rfl
    rotate_left
    · simp only [Act.put, List.setIfInBounds_toArray, List.set_cons_zero, List.set_cons_succ, i64_w, i32_w]
      rfl
    refine one_ (i := 3) (N := some 14) #[true, true, true, true, false, true, false, false, false, false] rfl rfl (by kernel_rfl) (by decide) (fun K hK => ?_)
    obtain ⟨t289, HA290, H⟩ := bind_some H
    refine goes_ Try.func66 (by kernel_rfl) rfl #[.int .i64 a265] (by rfl) rfl rfl (by (try simp only [List.map_toArray, List.map_cons, List.map_nil]); first | done | rfl) ?_
    refine (quitrentref01_Power.calls _ a265 t289 _ ⟨HS.out.begin (l := []) (rest := [])⟩ HA290).mono ?_
    rintro e_ w291 ⟨rfl, hS⟩
    have HS_ : Aside0 (Sep (fps []) w [] w291) := ⟨HS.out.call (l := []) (rest := []) hS⟩
    clear HS hS
    have HS := HS_
    clear HS_
    refine ⟨_, rfl, ?_⟩
    refine hK.out _ _ (trivial) (fun hHeld => ?_)
    clear hK K
    refine norm_ (a' := ?_) ?_ ?_
    rotate_left
    · show Act.put _ (some 14) _ = _
      simp only [Act.put, List.setIfInBounds_toArray, List.set_cons_zero, List.set_cons_succ, i64_w, i32_w]
      rfl
    by_cases c292 : t289 = 0
    · have H := if_yes c292 H
      have c292b0 : (t289 == 0) = true := beq_iff_eq.mpr c292
      have c292b1 : (t289 != 0) = false := bne_eq_false_iff_eq.mpr c292
      exact (none_no H).elim
    · have H := if_no c292 H
      have c292b0 : (t289 == 0) = false := beq_eq_false_iff_ne.mpr c292
      have c292b1 : (t289 != 0) = true := bne_iff_ne.mpr c292
      refine pure_ (i := 4) (N := some 15) (v := ?_) (a' := ?_) #[true, true, true, true, true, true, false, false, false, false] rfl rfl (by kernel_rfl) (fun _ _ _ h => h) (Or.inl ⟨by rfl, ?_⟩) ?_ ?_
      rotate_left
      · intro w'
        go_simp
        with_reducible rfl
      rotate_left
      · simp only [Act.put, List.setIfInBounds_toArray, List.set_cons_zero, List.set_cons_succ, i64_w, i32_w]
        rfl
      refine one_ (i := 6) (N := some 17) #[true, true, true, true, true, true, true, false, false, false] rfl rfl (by kernel_rfl) (by decide) (fun K hK => ?_)
      obtain ⟨t293, HA294, H⟩ := bind_some H
      refine goes_ Try.func66 (by kernel_rfl) rfl #[.int .i64 a266] (by rfl) rfl rfl (by (try simp only [List.map_toArray, List.map_cons, List.map_nil]); first | done | rfl) ?_
      refine (quitrentref01_Power.calls _ a266 t293 _ ⟨HS.out.begin (l := []) (rest := [])⟩ HA294).mono ?_
      rintro e_ w295 ⟨rfl, hS⟩
      have HS_ : Aside0 (Sep (fps []) w [] w295) := ⟨HS.out.call (l := []) (rest := []) hS⟩
      clear HS hS
      have HS := HS_
      clear HS_
      refine ⟨_, rfl, ?_⟩
      refine hK.out _ _ (trivial) (fun hHeld => ?_)
      clear hK K
      refine norm_ (a' := ?_) ?_ ?_
      rotate_left
      · show Act.put _ (some 17) _ = _
        simp only [Act.put, List.setIfInBounds_toArray, List.set_cons_zero, List.set_cons_succ, i64_w, i32_w]
        rfl
      by_cases c296 : t293 = 0
      · have H := if_yes c296 H
        have c296b0 : (t293 == 0) = true := beq_iff_eq.mpr c296
        have c296b1 : (t293 != 0) = false := bne_eq_false_iff_eq.mpr c296
        exact (none_no H).elim
      · have H := if_no c296 H
        have c296b0 : (t293 == 0) = false := beq_eq_false_iff_ne.mpr c296
        have c296b1 : (t293 != 0) = true := bne_iff_ne.mpr c296
        refine pure_ (i := 7) (N := some 18) (v := ?_) (a' := ?_) #[true, true, true, true, true, true, true, true, false, false] rfl rfl (by kernel_rfl) (fun _ _ _ h => h) (Or.inl ⟨by rfl, ?_⟩) ?_ ?_
        rotate_left
        · intro w'
          go_simp
          with_reducible rfl
        rotate_left
        · simp only [Act.put, List.setIfInBounds_toArray, List.set_cons_zero, List.set_cons_succ, i64_w, i32_w]
          rfl
        refine pure_ (i := 8) (N := some 19) (v := ?_) (a' := ?_) #[true, true, true, true, true, true, true, true, true, false] rfl rfl (by kernel_rfl) (fun _ _ _ h => h) (Or.inl ⟨by rfl, ?_⟩) ?_ ?_
        rotate_left
        · intro w'
          go_simp
          with_reducible rfl
        rotate_left
        · simp only [Act.put, List.setIfInBounds_toArray, List.set_cons_zero, List.set_cons_succ, i64_w, i32_w]
          rfl
        refine pure_ (i := 9) (N := some 6) (v := ?_) (a' := ?_) #[true, true, true, true, true, true, true, true, true, true] rfl rfl (by kernel_rfl) (fun _ _ _ h => h) (Or.inl ⟨by rfl, ?_⟩) ?_ ?_
        rotate_left
        · intro w'
          go_simp
          with_reducible rfl
        rotate_left
        · simp only [Act.put, List.setIfInBounds_toArray, List.set_cons_zero, List.set_cons_succ, i64_w, i32_w]
          rfl
        refine done_ (by kernel_rfl) ?_
        skip
        skip
        go_wp2_with fail
        clear c292 c296
        go_ret
        rw [← some_eq H]
        exact ⟨(by first | rfl | (simp [IntKind.wrap_u32]; done)), (HS.out).keep (l := []) (rest := [])⟩
  · have H := if_no c275 H
    have c275b0 : t272 = false := by simpa using c275
    have c275b1 : (!t272) = true := by rw [c275b0]; rfl
    try rw [c275b1]
    clear c275
    go_wp2_with fail
    go_ret
    rw [← some_eq H]
    exact ⟨(by first | rfl | (simp [IntKind.wrap_u32]; done)), (HS.out).keep (l := []) (rest := [])⟩

set_option maxHeartbeats 4000000 in
set_option maxRecDepth 100000 in
theorem quitrentref01_Fits.calls (k : Nat) (a304 : Int) (a305 : Int) (r : Bool) (w : World)  (HS : Aside0 (Sep (fps []) w [] w)) (H : Aside0 (quitrentref01_Fits.f k a304 a305 = some r)) :
    Calls Try.prog 38 #[.int .u32 a304, .int .i64 a305] w fun e w' => e = .returned (.bool r) ∧ Sep (fps []) w [] w' := by
  unfold quitrentref01_Fits.f at H
  go_enter Try.func38, Try.ntmps38
  go_wp2_with fail
  obtain ⟨t306, HA307, H⟩ := bind_some H
  refine (quitrentref01_Power.calls _ a305 t306 _ ⟨HS.out.begin (l := []) (rest := [])⟩ HA307).mono ?_
  rintro e_ w308 ⟨rfl, hS⟩
  have HS_ : Aside0 (Sep (fps []) w [] w308) := ⟨HS.out.call (l := []) (rest := []) hS⟩
  clear HS hS
  have HS := HS_
  clear HS_
  go_wp2_with fail
  go_ret
  rw [← some_eq H]
  exact ⟨(by first | rfl | (simp [IntKind.wrap_u32]; done)), (HS.out).keep (l := []) (rest := [])⟩

set_option maxHeartbeats 4000000 in
set_option maxRecDepth 100000 in
theorem quitrentref01_Ones.calls (k : Nat) (a317 : Int) (r : Int) (w : World)  (HS : Aside0 (Sep (fps []) w [] w)) (H : Aside0 (quitrentref01_Ones.f k a317 = some r)) :
    Calls Try.prog 40 #[.int .u32 a317] w fun e w' => e = .returned (.int .i64 r) ∧ Sep (fps []) w [] w' := by
  unfold quitrentref01_Ones.f at H
  go_enter Try.func40, Try.ntmps40
  go_wp2_with fail
  obtain ⟨o319, AL320, H⟩ := bind_some H
  go_loopg [0, 3, 4] k (fun kq v0 v3 v4 wc => ∃ (x323 : Int) (x324 : Int) (x325 : Int), v0 = .int .u32 x323 ∧ v3 = .int .i64 x324 ∧ v4 = .int .i64 x325 ∧ Aside0 (quitrentref01_Ones.lo0 kq x323 x324 x325 = some o319) ∧ Aside0 (Sep (fps []) w [] wc))
  case atStart => exact ⟨(a317), (0), (0), (by first | rfl | (simp [IntKind.wrap_u32]; done)), (by first | rfl | (simp [IntKind.wrap_u32]; done)), (by first | rfl | (simp [IntKind.wrap_u32]; done)), AL320, ⟨HS.out⟩⟩
  case round =>
    clear AL320 HS
    obtain ⟨x323, x324, x325, rfl, rfl, rfl, AL320, HS⟩ := hrel
    obtain ⟨w321, rfl⟩ : ∃ x : World, x = wr := ⟨_, rfl⟩
    cases gk with
    | zero => exact absurd AL320.out (by simp [quitrentref01_Ones.lo0])
    | succ k322 =>
      have AL0 := AL320.out
      rw [quitrentref01_Ones.lo0] at AL0
      clear AL320
      have AL320 := Aside0.mk AL0
      clear AL0
      by_cases c326 : x325 < 32
      · have AL320 := if_yes c326 AL320
        have c326b0 : decide (x325 < 32) = true := decide_eq_true c326
        clear c326
        go_wp2_with fail
        go_roundg k322
        case measure => exact Nat.lt_succ_self _
        case rel => exact ⟨((Int.tdiv x323 2) % 4294967296), (wrap64 (x324 + (wrap64 (Int.tmod x323 2)))), (wrap64 (x325 + 1)), (by first | rfl | (simp [IntKind.wrap_u32]; done)), (by first | rfl | (simp [IntKind.wrap_u32]; done)), (by first | rfl | (simp [IntKind.wrap_u32]; done)), Aside0.mk AL320.out, ⟨(HS.out).keep (l := []) (rest := [])⟩⟩
      · have AL320 := if_no c326 AL320
        have c326b0 : decide (x325 < 32) = false := decide_eq_false c326
        clear c326
        have ho := some_eq AL320
        subst ho
        clear AL320
        go_wp2_with fail
        go_ret
        rw [← some_eq H]
        exact ⟨(by first | rfl | (simp [IntKind.wrap_u32]; done)), (HS.out).keep (l := []) (rest := [])⟩

set_option maxHeartbeats 4000000 in
set_option maxRecDepth 100000 in
theorem quitrentlaw01_PackGets.calls (k : Nat) (a1 : Int) (a2 : Int) (a3 : Int) (r : Bool) (w : World)  (HS : Aside0 (Sep (fps []) w [] w)) (H : Aside0 (quitrentlaw01_PackGets.f k a1 a2 a3 = some r)) :
    Calls Try.prog 10 #[.int .u32 a1, .int .i64 a2, .int .i64 a3] w fun e w' => e = .returned (.bool r) ∧ Sep (fps []) w [] w' := by
  unfold quitrentlaw01_PackGets.f at H
  go_enter Try.func10, Try.ntmps10
  go_wp2_with fail
  obtain ⟨t257, HA258, H⟩ := bind_some H
  refine (quitrentlaw01_begun.calls _ t257 _ ⟨HS.out.begin (l := []) (rest := [])⟩ HA258).mono ?_
  rintro e_ w259 ⟨rfl, hS⟩
  have HS_ : Aside0 (Sep (fps []) w [] w259) := ⟨HS.out.call (l := []) (rest := []) hS⟩
  clear HS hS
  have HS := HS_
  clear HS_
  by_cases c260 : t257 = true
  · have H := if_yes c260 H
    have c260b0 : t257 = true := c260
    have c260b1 : (!t257) = false := by rw [c260b0]; rfl
    clear c260
    go_wp2_with fail
    obtain ⟨t261, HA262, H⟩ := bind_some H
    refine (pack_Get.calls a1 a2 a3 t261 _ ⟨HS.out.begin (l := []) (rest := [])⟩ HA262).mono ?_
    rintro e_ w263 ⟨rfl, hS⟩
    have HS_ : Aside0 (Sep (fps []) w [] w263) := ⟨HS.out.call (l := []) (rest := []) hS⟩
    clear HS hS
    have HS := HS_
    clear HS_
    go_wp2_with fail
    obtain ⟨t297, HA298, H⟩ := bind_some H
    refine (quitrentref01_Get.calls _ a1 a2 a3 t297 _ ⟨HS.out.begin (l := []) (rest := [])⟩ HA298).mono ?_
    rintro e_ w299 ⟨rfl, hS⟩
    have HS_ : Aside0 (Sep (fps []) w [] w299) := ⟨HS.out.call (l := []) (rest := []) hS⟩
    clear HS hS
    have HS := HS_
    clear HS_
    by_cases c300 : t261 = t297
    · have H := if_yes c300 H
      have c300b0 : (t261 == t297) = true := beq_iff_eq.mpr c300
      have c300b1 : (t261 != t297) = false := bne_eq_false_iff_eq.mpr c300
      clear c300
      go_wp2_with fail
      obtain ⟨t301, HA302, H⟩ := bind_some H
      refine (pack_Fits.calls a1 a3 t301 _ ⟨HS.out.begin (l := []) (rest := [])⟩ HA302).mono ?_
      rintro e_ w303 ⟨rfl, hS⟩
      have HS_ : Aside0 (Sep (fps []) w [] w303) := ⟨HS.out.call (l := []) (rest := []) hS⟩
      clear HS hS
      have HS := HS_
      clear HS_
      go_wp2_with fail
      obtain ⟨t309, HA310, H⟩ := bind_some H
      refine (quitrentref01_Fits.calls _ a1 a3 t309 _ ⟨HS.out.begin (l := []) (rest := [])⟩ HA310).mono ?_
      rintro e_ w311 ⟨rfl, hS⟩
      have HS_ : Aside0 (Sep (fps []) w [] w311) := ⟨HS.out.call (l := []) (rest := []) hS⟩
      clear HS hS
      have HS := HS_
      clear HS_
      by_cases c312 : t301 = true
      · have H := if_yes c312 H
        have c312b0 : t301 = true := c312
        have c312b1 : (!t301) = false := by rw [c312b0]; rfl
        clear c312
        by_cases c313 : t309 = true
        · have H := if_yes c313 H
          have c313b0 : t309 = true := c313
          have c313b1 : (!t309) = false := by rw [c313b0]; rfl
          clear c313
          go_wp2_with fail
          obtain ⟨t314, HA315, H⟩ := bind_some H
          refine (pack_Ones.calls _ a1 t314 _ ⟨HS.out.begin (l := []) (rest := [])⟩ HA315).mono ?_
          rintro e_ w316 ⟨rfl, hS⟩
          have HS_ : Aside0 (Sep (fps []) w [] w316) := ⟨HS.out.call (l := []) (rest := []) hS⟩
          clear HS hS
          have HS := HS_
          clear HS_
          go_wp2_with fail
          obtain ⟨t328, HA329, H⟩ := bind_some H
          refine (quitrentref01_Ones.calls _ a1 t328 _ ⟨HS.out.begin (l := []) (rest := [])⟩ HA329).mono ?_
          rintro e_ w330 ⟨rfl, hS⟩
          have HS_ : Aside0 (Sep (fps []) w [] w330) := ⟨HS.out.call (l := []) (rest := []) hS⟩
          clear HS hS
          have HS := HS_
          clear HS_
          go_wp2_with fail
          go_ret
          rw [← some_eq H]
          exact ⟨(by first | rfl | (simp [IntKind.wrap_u32]; done)), (HS.out).keep (l := []) (rest := [])⟩
        · have H := if_no c313 H
          have c313b0 : t309 = false := by simpa using c313
          have c313b1 : (!t309) = true := by rw [c313b0]; rfl
          clear c313
          go_wp2_with fail
          go_ret
          rw [← some_eq H]
          exact ⟨(by first | rfl | (simp [IntKind.wrap_u32]; done)), (HS.out).keep (l := []) (rest := [])⟩
      · have H := if_no c312 H
        have c312b0 : t301 = false := by simpa using c312
        have c312b1 : (!t301) = true := by rw [c312b0]; rfl
        clear c312
        by_cases c331 : t309 = true
        · have H := if_yes c331 H
          have c331b0 : t309 = true := c331
          have c331b1 : (!t309) = false := by rw [c331b0]; rfl
          clear c331
          go_wp2_with fail
          go_ret
          rw [← some_eq H]
          exact ⟨(by first | rfl | (simp [IntKind.wrap_u32]; done)), (HS.out).keep (l := []) (rest := [])⟩
        · have H := if_no c331 H
          have c331b0 : t309 = false := by simpa using c331
          have c331b1 : (!t309) = true := by rw [c331b0]; rfl
          clear c331
          go_wp2_with fail
          obtain ⟨t314, HA332, H⟩ := bind_some H
          refine (pack_Ones.calls _ a1 t314 _ ⟨HS.out.begin (l := []) (rest := [])⟩ HA332).mono ?_
          rintro e_ w333 ⟨rfl, hS⟩
          have HS_ : Aside0 (Sep (fps []) w [] w333) := ⟨HS.out.call (l := []) (rest := []) hS⟩
          clear HS hS
          have HS := HS_
          clear HS_
          go_wp2_with fail
          obtain ⟨t328, HA334, H⟩ := bind_some H
          refine (quitrentref01_Ones.calls _ a1 t328 _ ⟨HS.out.begin (l := []) (rest := [])⟩ HA334).mono ?_
          rintro e_ w335 ⟨rfl, hS⟩
          have HS_ : Aside0 (Sep (fps []) w [] w335) := ⟨HS.out.call (l := []) (rest := []) hS⟩
          clear HS hS
          have HS := HS_
          clear HS_
          go_wp2_with fail
          go_ret
          rw [← some_eq H]
          exact ⟨(by first | rfl | (simp [IntKind.wrap_u32]; done)), (HS.out).keep (l := []) (rest := [])⟩
    · have H := if_no c300 H
      have c300b0 : (t261 == t297) = false := beq_eq_false_iff_ne.mpr c300
      have c300b1 : (t261 != t297) = true := bne_iff_ne.mpr c300
      clear c300
      go_wp2_with fail
      go_ret
      rw [← some_eq H]
      exact ⟨(by first | rfl | (simp [IntKind.wrap_u32]; done)), (HS.out).keep (l := []) (rest := [])⟩
  · have H := if_no c260 H
    have c260b0 : t257 = false := by simpa using c260
    have c260b1 : (!t257) = true := by rw [c260b0]; rfl
    clear c260
    go_wp2_with fail
    go_ret
    rw [← some_eq H]
    exact ⟨(by first | rfl | (simp [IntKind.wrap_u32]; done)), (HS.out).keep (l := []) (rest := [])⟩

set_option maxHeartbeats 4000000 in
set_option maxRecDepth 100000 in
theorem quitrentref01_Put.calls (k : Nat) (a352 : Int) (a353 : Int) (a354 : Int) (a355 : Int) (r : Int × Int) (w : World)  (HS : Aside0 (Sep (fps []) w [] w)) (H : Aside0 (quitrentref01_Put.f k a352 a353 a354 a355 = some r)) :
    Calls Try.prog 42 #[.int .u32 a352, .int .i64 a353, .int .i64 a354, .int .u32 a355] w fun e w' => e = .returned (.tuple #[.int .u32 r.1, .int .i64 r.2]) ∧ Sep (fps []) w [] w' := by
  unfold quitrentref01_Put.f at H
  go_enter Try.func42, Try.ntmps42
  go_wp2_with fail
  obtain ⟨t356, HA357, H⟩ := bind_some H
  refine (quitrentref01_Piece.calls a353 a354 t356 _ ⟨HS.out.begin (l := []) (rest := [])⟩ HA357).mono ?_
  rintro e_ w358 ⟨rfl, hS⟩
  have HS_ : Aside0 (Sep (fps []) w [] w358) := ⟨HS.out.call (l := []) (rest := []) hS⟩
  clear HS hS
  have HS := HS_
  clear HS_
  by_cases c359 : t356 = true
  · have H := if_yes c359 H
    have c359b0 : t356 = true := c359
    have c359b1 : (!t356) = false := by rw [c359b0]; rfl
    try rw [c359b1]
    clear c359
    go_wp2_with fail
    obtain ⟨t360, HA361, H⟩ := bind_some H
    refine (quitrentref01_Fits.calls _ a355 a354 t360 _ ⟨HS.out.begin (l := []) (rest := [])⟩ HA361).mono ?_
    rintro e_ w362 ⟨rfl, hS⟩
    have HS_ : Aside0 (Sep (fps []) w [] w362) := ⟨HS.out.call (l := []) (rest := []) hS⟩
    clear HS hS
    have HS := HS_
    clear HS_
    by_cases c363 : t360 = true
    · have H := if_yes c363 H
      have c363b0 : t360 = true := c363
      have c363b1 : (!t360) = false := by rw [c363b0]; rfl
      try rw [c363b1]
      clear c363
      go_wp2_with fail
      obtain ⟨t364, HA365, H⟩ := bind_some H
      refine (quitrentref01_Get.calls _ a352 a353 a354 t364 _ ⟨HS.out.begin (l := []) (rest := [])⟩ HA365).mono ?_
      rintro e_ w366 ⟨rfl, hS⟩
      have HS_ : Aside0 (Sep (fps []) w [] w366) := ⟨HS.out.call (l := []) (rest := []) hS⟩
      clear HS hS
      have HS := HS_
      clear HS_
      go_wp2_with fail
      obtain ⟨t367, HA368, H⟩ := bind_some H
      refine (quitrentref01_Power.calls _ a353 t367 _ ⟨HS.out.begin (l := []) (rest := [])⟩ HA368).mono ?_
      rintro e_ w369 ⟨rfl, hS⟩
      have HS_ : Aside0 (Sep (fps []) w [] w369) := ⟨HS.out.call (l := []) (rest := []) hS⟩
      clear HS hS
      have HS := HS_
      clear HS_
      go_wp2_with fail
      obtain ⟨t370, HA371, H⟩ := bind_some H
      refine (quitrentref01_Power.calls _ a353 t370 _ ⟨HS.out.begin (l := []) (rest := [])⟩ HA371).mono ?_
      rintro e_ w372 ⟨rfl, hS⟩
      have HS_ : Aside0 (Sep (fps []) w [] w372) := ⟨HS.out.call (l := []) (rest := []) hS⟩
      clear HS hS
      have HS := HS_
      clear HS_
      go_wp2_with fail
      go_ret2
      rw [← some_eq H]
      exact ⟨(by first | rfl | (simp [IntKind.wrap_u32]; done)), (HS.out).keep (l := []) (rest := [])⟩
    · have H := if_no c363 H
      have c363b0 : t360 = false := by simpa using c363
      have c363b1 : (!t360) = true := by rw [c363b0]; rfl
      try rw [c363b1]
      clear c363
      go_wp2_with fail
      go_ret2
      rw [← some_eq H]
      exact ⟨(by first | rfl | (simp [IntKind.wrap_u32]; done)), (HS.out).keep (l := []) (rest := [])⟩
  · have H := if_no c359 H
    have c359b0 : t356 = false := by simpa using c359
    have c359b1 : (!t356) = true := by rw [c359b0]; rfl
    try rw [c359b1]
    clear c359
    go_wp2_with fail
    go_ret2
    rw [← some_eq H]
    exact ⟨(by first | rfl | (simp [IntKind.wrap_u32]; done)), (HS.out).keep (l := []) (rest := [])⟩

set_option maxHeartbeats 4000000 in
set_option maxRecDepth 100000 in
theorem quitrentlaw01_PackPuts.calls (k : Nat) (a336 : Int) (a337 : Int) (a338 : Int) (a339 : Int) (r : Bool) (w : World)  (HS : Aside0 (Sep (fps []) w [] w)) (H : Aside0 (quitrentlaw01_PackPuts.f k a336 a337 a338 a339 = some r)) :
    Calls Try.prog 11 #[.int .u32 a336, .agg #[.int .i64 a337, .int .i64 a338, .int .u32 a339]] w fun e w' => e = .returned (.bool r) ∧ Sep (fps []) w [] w' := by
  unfold quitrentlaw01_PackPuts.f at H
  go_enter Try.func11, Try.ntmps11
  go_wp2_with (first | ((with_reducible refine gate_dst (N := 3) rfl ?_); refine box_on ?hg (N := 3) ?hd (cs := #[.int .i64 a337, .int .i64 a338, .int .u32 a339]) (t := 49) ?hr ?_; (case hd => rfl); (case hg => rfl); (case hr => first | (go_simp; done) | (go_simp; rfl)); intro g340 hg w341 hbox hb; have HS_ : Aside0 (Sep (fps []) w [blk g340 #[.int .i64 a337, .int .i64 a338, .int .u32 a339] 49] w341) := ⟨HS.out.box hg hbox hb⟩; clear HS hg hbox hb; have HS := HS_; clear HS_; have hc343 : w341.cell? ⟨g340, 0, none⟩ = some (.int .i64 a337) := blk_cellv (HS.out.at0) 0 rfl; have hc344 : w341.cell? ⟨g340, 1, none⟩ = some (.int .i64 a338) := blk_cellv (HS.out.at0) 1 rfl; have hc345 : w341.cell? ⟨g340, 2, none⟩ = some (.int .u32 a339) := blk_cellv (HS.out.at0) 2 rfl))
  clear hc343 hc344 hc345
  obtain ⟨t346, HA347, H⟩ := bind_some H
  refine (pack_Put.calls a336 a337 a338 a339 t346 _ ⟨HS.out.begin (l := []) (rest := [blk g340 #[.int .i64 a337, .int .i64 a338, .int .u32 a339] 49])⟩ HA347).mono ?_
  rintro e_ w348 ⟨rfl, hS⟩
  have HS_ : Aside0 (Sep (fps []) w [blk g340 #[.int .i64 a337, .int .i64 a338, .int .u32 a339] 49] w348) := ⟨HS.out.call (l := []) (rest := [blk g340 #[.int .i64 a337, .int .i64 a338, .int .u32 a339] 49]) hS⟩
  clear HS hS
  have HS := HS_
  clear HS_
  have hc349 : w348.cell? ⟨g340, 0, none⟩ = some (.int .i64 a337) := blk_cellv (HS.out.at0) 0 rfl
  have hc350 : w348.cell? ⟨g340, 1, none⟩ = some (.int .i64 a338) := blk_cellv (HS.out.at0) 1 rfl
  have hc351 : w348.cell? ⟨g340, 2, none⟩ = some (.int .u32 a339) := blk_cellv (HS.out.at0) 2 rfl
  go_wp2_with fail
  clear hc349 hc350 hc351
  obtain ⟨t373, HA374, H⟩ := bind_some H
  refine (quitrentref01_Put.calls _ a336 a337 a338 a339 t373 _ ⟨HS.out.begin (l := []) (rest := [blk g340 #[.int .i64 a337, .int .i64 a338, .int .u32 a339] 49])⟩ HA374).mono ?_
  rintro e_ w375 ⟨rfl, hS⟩
  have HS_ : Aside0 (Sep (fps []) w [blk g340 #[.int .i64 a337, .int .i64 a338, .int .u32 a339] 49] w375) := ⟨HS.out.call (l := []) (rest := [blk g340 #[.int .i64 a337, .int .i64 a338, .int .u32 a339] 49]) hS⟩
  clear HS hS
  have HS := HS_
  clear HS_
  go_wp2_with fail
  obtain ⟨t376, HA377, H⟩ := bind_some H
  refine (quitrentlaw01_begun.calls _ t376 _ ⟨HS.out.begin (l := []) (rest := [blk g340 #[.int .i64 a337, .int .i64 a338, .int .u32 a339] 49])⟩ HA377).mono ?_
  rintro e_ w378 ⟨rfl, hS⟩
  have HS_ : Aside0 (Sep (fps []) w [blk g340 #[.int .i64 a337, .int .i64 a338, .int .u32 a339] 49] w378) := ⟨HS.out.call (l := []) (rest := [blk g340 #[.int .i64 a337, .int .i64 a338, .int .u32 a339] 49]) hS⟩
  clear HS hS
  have HS := HS_
  clear HS_
  by_cases c379 : t376 = true
  · have H := if_yes c379 H
    have c379b0 : t376 = true := c379
    have c379b1 : (!t376) = false := by rw [c379b0]; rfl
    clear c379
    by_cases c380 : t346.1 = t373.1
    · have H := if_yes c380 H
      have c380b0 : (t346.1 == t373.1) = true := beq_iff_eq.mpr c380
      have c380b1 : (t346.1 != t373.1) = false := bne_eq_false_iff_eq.mpr c380
      clear c380
      go_wp2_with fail
      go_ret
      rw [← some_eq H]
      exact ⟨(by first | rfl | (simp [IntKind.wrap_u32]; done)), (HS.out).keep (l := []) (rest := [blk g340 #[.int .i64 a337, .int .i64 a338, .int .u32 a339] 49])⟩
    · have H := if_no c380 H
      have c380b0 : (t346.1 == t373.1) = false := beq_eq_false_iff_ne.mpr c380
      have c380b1 : (t346.1 != t373.1) = true := bne_iff_ne.mpr c380
      clear c380
      go_wp2_with fail
      go_ret
      rw [← some_eq H]
      exact ⟨(by first | rfl | (simp [IntKind.wrap_u32]; done)), (HS.out).keep (l := []) (rest := [blk g340 #[.int .i64 a337, .int .i64 a338, .int .u32 a339] 49])⟩
  · have H := if_no c379 H
    have c379b0 : t376 = false := by simpa using c379
    have c379b1 : (!t376) = true := by rw [c379b0]; rfl
    clear c379
    go_wp2_with fail
    go_ret
    rw [← some_eq H]
    exact ⟨(by first | rfl | (simp [IntKind.wrap_u32]; done)), (HS.out).keep (l := []) (rest := [blk g340 #[.int .i64 a337, .int .i64 a338, .int .u32 a339] 49])⟩

set_option maxHeartbeats 4000000 in
set_option maxRecDepth 100000 in
theorem quitrentref01_Right.calls (k : Nat) (l408 : List Int) (A409 : Option Addr) (n410 : Nat) (r : Bool) (w : World) (HR411 : Aside0 (Kd.C (Kd.int .i64) w A409 l408.length l408)) (HS : Aside0 (Sep (fps []) w [] w)) (H : Aside0 (quitrentref01_Right.f k l408 = some r)) :
    Calls Try.prog 71 #[.slice A409 l408.length n410] w fun e w' => e = .returned (.bool r) ∧ Sep (fps []) w [] w' := by
  unfold quitrentref01_Right.f at H
  go_enter Try.func71, Try.ntmps71
  go_wp2_with fail
  obtain ⟨o424, AL425, H⟩ := bind_some H
  go_loopg [3, 4] k (fun kq v3 v4 wc => ∃ (x428 : Int) (x429 : Int), v3 = .int .i64 x428 ∧ v4 = .int .i64 x429 ∧ Aside0 (quitrentref01_Right.lo0 kq l408 x428 x429 = some o424) ∧ Aside0 (Sep (fps []) w [] wc))
  case atStart => exact ⟨(0), (0), (by first | rfl | (simp [IntKind.wrap_u32]; done)), (by first | rfl | (simp [IntKind.wrap_u32]; done)), AL425, ⟨HS.out⟩⟩
  case round =>
    clear AL425 HS
    obtain ⟨x428, x429, rfl, rfl, AL425, HS⟩ := hrel
    obtain ⟨w426, rfl⟩ : ∃ x : World, x = wr := ⟨_, rfl⟩
    cases gk with
    | zero => exact absurd AL425.out (by simp [quitrentref01_Right.lo0])
    | succ k427 =>
      have AL0 := AL425.out
      rw [quitrentref01_Right.lo0] at AL0
      clear AL425
      have AL425 := Aside0.mk AL0
      clear AL0
      by_cases c430 : x429 < (l408.length : Int)
      · have AL425 := if_yes c430 AL425
        have c430b0 : decide (x429 < (l408.length : Int)) = true := decide_eq_true c430
        clear c430
        by_cases c431 : 0 ≤ x429
        · have AL425 := if_yes c431 AL425
          have c431b0 : decide (0 ≤ x429) = true := decide_eq_true c431
          have c431p : (0 ≤ x429) = True := eq_true c431
          clear c431
          have ip432 : (x429 < (l408.length : Int)) = True := eq_true (of_decide_eq_true c430b0)
          by_cases c434 : (rd l408 x429) < 1
          · have AL425 := if_yes c434 AL425
            have c434b0 : decide ((rd l408 x429) < 1) = true := decide_eq_true c434
            clear c434
            obtain ⟨hx433a, hx433e, hx433⟩ := Kd.at_int (Kd.C_below HR411.out HS.out.fr.below) x429 (of_decide_eq_true c431b0) (of_decide_eq_true c430b0); cases hx433e
            go_wp2_with fail
            clear hx433
            have ho := some_eq AL425
            subst ho
            have H := lp_ret H
            go_ret
            rw [← some_eq H]
            exact ⟨(by first | rfl | (simp [IntKind.wrap_u32]; done)), (HS.out).keep (l := []) (rest := [])⟩
          · have AL425 := if_no c434 AL425
            have c434b0 : decide ((rd l408 x429) < 1) = false := decide_eq_false c434
            clear c434
            by_cases c436 : (rd l408 x429) > (wrap64 (32 - x428))
            · have AL425 := if_yes c436 AL425
              have c436b0 : decide ((wrap64 (32 - x428)) < (rd l408 x429)) = true := decide_eq_true c436
              clear c436
              obtain ⟨hx433a, hx433e, hx433⟩ := Kd.at_int (Kd.C_below HR411.out HS.out.fr.below) x429 (of_decide_eq_true c431b0) (of_decide_eq_true c430b0); cases hx433e
              have hx435 := C_at_int (Kd.C_below HR411.out HS.out.fr.below) x429 (of_decide_eq_true c431b0) (of_decide_eq_true c430b0)
              go_wp2_with fail
              clear hx433 hx435
              have ho := some_eq AL425
              subst ho
              have H := lp_ret H
              go_ret
              rw [← some_eq H]
              exact ⟨(by first | rfl | (simp [IntKind.wrap_u32]; done)), (HS.out).keep (l := []) (rest := [])⟩
            · have AL425 := if_no c436 AL425
              have c436b0 : decide ((wrap64 (32 - x428)) < (rd l408 x429)) = false := decide_eq_false c436
              clear c436
              obtain ⟨hx433a, hx433e, hx433⟩ := Kd.at_int (Kd.C_below HR411.out HS.out.fr.below) x429 (of_decide_eq_true c431b0) (of_decide_eq_true c430b0); cases hx433e
              have hx435 := C_at_int (Kd.C_below HR411.out HS.out.fr.below) x429 (of_decide_eq_true c431b0) (of_decide_eq_true c430b0)
              go_wp2_with fail
              clear hx433 hx435
              go_roundg k427
              case measure => exact Nat.lt_succ_self _
              case rel => exact ⟨(wrap64 (x428 + (rd l408 x429))), (wrap64 (x429 + 1)), (by first | rfl | (simp [IntKind.wrap_u32]; done)), (by first | rfl | (simp [IntKind.wrap_u32]; done)), Aside0.mk AL425.out, ⟨(HS.out).keep (l := []) (rest := [])⟩⟩
        · have AL425 := if_no c431 AL425
          have c431b0 : decide (0 ≤ x429) = false := decide_eq_false c431
          clear c431
          exact (none_no AL425).elim
      · have AL425 := if_no c430 AL425
        have c430b0 : decide (x429 < (l408.length : Int)) = false := decide_eq_false c430
        clear c430
        have ho := some_eq AL425
        subst ho
        clear AL425
        have H := lp_out H
        go_wp2_with fail
        go_ret
        rw [← some_eq H]
        exact ⟨(by first | rfl | (simp [IntKind.wrap_u32]; done)), (HS.out).keep (l := []) (rest := [])⟩

set_option maxHeartbeats 4000000 in
set_option maxRecDepth 100000 in
theorem quitrentref01_Split.calls (k : Nat) (a403 : Int) (l404 : List Int) (A405 : Option Addr) (n406 : Nat) (r : List Int × Int) (w : World) (HR407 : Aside0 (Kd.C (Kd.int .i64) w A405 l404.length l404)) (HS : Aside0 (Sep (fps []) w [] w)) (H : Aside0 (quitrentref01_Split.f k a403 l404 = some r)) :
    Calls Try.prog 47 #[.int .u32 a403, .slice A405 l404.length n406] w fun e w' => ∃ (A483 : Option Addr) (n484 : Nat), e = .returned (.tuple #[.slice A483 ((r.1).length) n484, .int .i64 r.2]) ∧ Sep (fps []) w [row 43 (Value.int .u32) (.slice A483 ((r.1).length) n484) r.1] w' := by
  unfold quitrentref01_Split.f at H
  go_enter Try.func47, Try.ntmps47
  go_wp2_with fail
  obtain ⟨t438, HA439, H⟩ := bind_some H
  refine (quitrentref01_Right.calls _ l404 A405 n406 t438 _ ⟨HR407.out⟩ ⟨HS.out.begin (l := []) (rest := [])⟩ HA439).mono ?_
  rintro e_ w440 ⟨rfl, hS⟩
  have HS_ : Aside0 (Sep (fps []) w [] w440) := ⟨HS.out.call (l := []) (rest := []) hS⟩
  clear HS hS
  have HS := HS_
  clear HS_
  by_cases c441 : t438 = true
  · have H := if_yes c441 H
    have c441b0 : t438 = true := c441
    have c441b1 : (!t438) = false := by rw [c441b0]; rfl
    try rw [c441b1]
    clear c441
    go_wp2_with fail
    have HS_ : Aside0 (Sep (fps []) w [row 43 (Value.int .u32) (.slice none 0 0) ([] : List Int)] w440) := ⟨HS.out.nilrow 43 (Value.int .u32)⟩
    clear HS
    have HS := HS_
    clear HS_
    obtain ⟨o443, AL444, H⟩ := bind_some H
    go_loopg [6, 7, 8] k (fun kq v6 v7 v8 wc => ∃ (x448 : Int) (x449 : List Int) (x452 : Int) (A450 : Option Addr) (n451 : Nat), v6 = .int .i64 x448 ∧ v7 = .slice A450 x449.length n451 ∧ v8 = .int .i64 x452 ∧ Aside0 (quitrentref01_Split.lo0 kq a403 l404 x448 x449 x452 = some o443) ∧ Aside0 (Sep (fps []) w [row 43 (Value.int .u32) (.slice A450 x449.length n451) x449] wc))
    case atStart => exact ⟨(0), (([] : List Int)), (0), (none), (0), (by first | rfl | (simp [IntKind.wrap_u32]; done)), (by first | rfl | (simp [IntKind.wrap_u32]; done)), (by first | rfl | (simp [IntKind.wrap_u32]; done)), AL444, ⟨HS.out⟩⟩
    case round =>
      clear AL444 HS
      obtain ⟨x448, x449, x452, A450, n451, rfl, rfl, rfl, AL444, HS⟩ := hrel
      obtain ⟨w445, rfl⟩ : ∃ x : World, x = wr := ⟨_, rfl⟩
      cases gk with
      | zero => exact absurd AL444.out (by simp [quitrentref01_Split.lo0])
      | succ k446 =>
        have AL0 := AL444.out
        rw [quitrentref01_Split.lo0] at AL0
        clear AL444
        have AL444 := Aside0.mk AL0
        clear AL0
        by_cases c453 : x452 < (l404.length : Int)
        · have AL444 := if_yes c453 AL444
          have c453b0 : decide (x452 < (l404.length : Int)) = true := decide_eq_true c453
          clear c453
          by_cases c454 : 0 ≤ x452
          · have AL444 := if_yes c454 AL444
            have c454b0 : decide (0 ≤ x452) = true := decide_eq_true c454
            have c454p : (0 ≤ x452) = True := eq_true c454
            clear c454
            have ip455 : (x452 < (l404.length : Int)) = True := eq_true (of_decide_eq_true c453b0)
            obtain ⟨hx456a, hx456e, hx456⟩ := Kd.at_int (Kd.C_below HR407.out HS.out.fr.below) x452 (of_decide_eq_true c454b0) (of_decide_eq_true c453b0); cases hx456e
            go_wp2_with fail
            clear hx456
            obtain ⟨t457, HA458, AL444⟩ := bind_some AL444
            refine (quitrentref01_Get.calls _ a403 x448 (rd l404 x452) t457 _ ⟨HS.out.begin (l := []) (rest := [row 43 (Value.int .u32) (.slice A450 x449.length n451) x449])⟩ HA458).mono ?_
            rintro e_ w459 ⟨rfl, hS⟩
            have HS_ : Aside0 (Sep (fps []) w [row 43 (Value.int .u32) (.slice A450 x449.length n451) x449] w459) := ⟨HS.out.call (l := []) (rest := [row 43 (Value.int .u32) (.slice A450 x449.length n451) x449]) hS⟩
            clear HS hS
            have HS := HS_
            clear HS_
            by_cases c463 : x449.length < 35184372088832
            · have AL444 := if_yes c463 AL444
              have c463b0 : decide (x449.length < 35184372088832) = true := decide_eq_true c463
              clear c463
              obtain ⟨y467, HA468, AL444⟩ := bind_some AL444
              go_wp2_with (first | ((with_reducible refine gate_dst (N := 26) rfl ?_); refine slice_on (n := 1) ?hg (N := 26) ?hd (cs := #[.int .u32 t457]) (t := 43) ?hr ?_; (case hd => rfl); (case hg => rfl); (case hr => first | (go_simp; done) | (go_simp; rfl)); intro g460 hg w461 hbox hb; have HS_ : Aside0 (Sep (fps []) w [row 43 (Value.int .u32) (.slice A450 x449.length n451) x449, blk g460 #[.int .u32 t457] 43] w461) := ⟨HS.out.box hg hbox hb⟩; clear HS hg hbox hb; have HS := HS_; clear HS_) | ((with_reducible refine gate_dst (N := 27) rfl ?_); refine append_event (l1 := []) (l2 := [blk g460 #[.int .u32 t457] 43]) rfl (.tmp 18) (.tmp 26) 56 43 (.int .u32 0) 4 rfl Try.underlying56 (by kernel_rfl) rfl (by decide) (Value.int .u32) (fun _ => rfl) (.slice A450 x449.length n451) (x449 : List Int) [t457] ⟨g460, 0, none⟩ 1 rfl rfl (blk_news (xs := [t457]) (HS.out.at1)) HS.out (by have := of_decide_eq_true c463b0; simp only [List.length_cons, List.length_nil]; omega) HA468 ?_; intro A464 n465 w466 HS1; have HS_ : Aside0 (Sep (fps []) w [row 43 (Value.int .u32) (.slice A464 y467.length n465) y467, blk g460 #[.int .u32 t457] 43] w466) := ⟨HS1⟩; clear HS HS1; have HS := HS_; clear HS_; have hx469 := C_at_int (Kd.C_below HR407.out HS.out.fr.below) x452 (of_decide_eq_true c454b0) (of_decide_eq_true c453b0)))
              clear hx469
              go_roundg k446
              case measure => exact Nat.lt_succ_self _
              case rel => exact ⟨(wrap64 (x448 + (rd l404 x452))), (y467), (wrap64 (x452 + 1)), (A464), (n465), (by first | rfl | (simp [IntKind.wrap_u32]; done)), (by first | rfl | (simp [IntKind.wrap_u32]; done)), (by first | rfl | (simp [IntKind.wrap_u32]; done)), Aside0.mk AL444.out, ⟨(HS.out).keep (l := [row 43 (Value.int .u32) (.slice A464 y467.length n465) y467]) (rest := [blk g460 #[.int .u32 t457] 43])⟩⟩
            · have AL444 := if_no c463 AL444
              have c463b0 : decide (x449.length < 35184372088832) = false := decide_eq_false c463
              clear c463
              exact (none_no AL444).elim
          · have AL444 := if_no c454 AL444
            have c454b0 : decide (0 ≤ x452) = false := decide_eq_false c454
            clear c454
            exact (none_no AL444).elim
        · have AL444 := if_no c453 AL444
          have c453b0 : decide (x452 < (l404.length : Int)) = false := decide_eq_false c453
          clear c453
          have ho := some_eq AL444
          subst ho
          clear AL444
          go_wp2_with fail
          obtain ⟨t470, HA471, H⟩ := bind_some H
          refine (quitrentref01_Fits.calls _ a403 x448 t470 _ ⟨HS.out.begin (l := []) (rest := [row 43 (Value.int .u32) (.slice A450 x449.length n451) x449])⟩ HA471).mono ?_
          rintro e_ w472 ⟨rfl, hS⟩
          have HS_ : Aside0 (Sep (fps []) w [row 43 (Value.int .u32) (.slice A450 x449.length n451) x449] w472) := ⟨HS.out.call (l := []) (rest := [row 43 (Value.int .u32) (.slice A450 x449.length n451) x449]) hS⟩
          clear HS hS
          have HS := HS_
          clear HS_
          by_cases c473 : t470 = true
          · have H := if_yes c473 H
            have c473b0 : t470 = true := c473
            have c473b1 : (!t470) = false := by rw [c473b0]; rfl
            try rw [c473b1]
            clear c473
            go_wp2_with fail
            go_ret2
            rw [← some_eq H]
            exact ⟨_, _, (by first | rfl | (simp [IntKind.wrap_u32]; done)), (HS.out).keep (l := [row 43 (Value.int .u32) (.slice A450 x449.length n451) x449]) (rest := [])⟩
          · have H := if_no c473 H
            have c473b0 : t470 = false := by simpa using c473
            have c473b1 : (!t470) = true := by rw [c473b0]; rfl
            try rw [c473b1]
            clear c473
            go_wp2_with fail
            have HS_ : Aside0 (Sep (fps []) w [row 43 (Value.int .u32) (.slice none 0 0) ([] : List Int), row 43 (Value.int .u32) (.slice A450 x449.length n451) x449] w472) := ⟨HS.out.nilrow 43 (Value.int .u32)⟩
            clear HS
            have HS := HS_
            clear HS_
            go_ret2
            rw [← some_eq H]
            exact ⟨_, _, (by first | rfl | (simp [IntKind.wrap_u32]; done)), (HS.out).keep (l := [row 43 (Value.int .u32) (.slice none 0 0) ([] : List Int)]) (rest := [row 43 (Value.int .u32) (.slice A450 x449.length n451) x449])⟩
  · have H := if_no c441 H
    have c441b0 : t438 = false := by simpa using c441
    have c441b1 : (!t438) = true := by rw [c441b0]; rfl
    try rw [c441b1]
    clear c441
    go_wp2_with fail
    have HS_ : Aside0 (Sep (fps []) w [row 43 (Value.int .u32) (.slice none 0 0) ([] : List Int)] w440) := ⟨HS.out.nilrow 43 (Value.int .u32)⟩
    clear HS
    have HS := HS_
    clear HS_
    go_ret2
    rw [← some_eq H]
    exact ⟨_, _, (by first | rfl | (simp [IntKind.wrap_u32]; done)), (HS.out).keep (l := [row 43 (Value.int .u32) (.slice none 0 0) ([] : List Int)]) (rest := [])⟩

set_option maxHeartbeats 4000000 in
set_option maxRecDepth 100000 in
theorem quitrentref01_Join.calls (k : Nat) (l494 : List Int) (l498 : List Int) (A495 : Option Addr) (n496 : Nat) (A499 : Option Addr) (n500 : Nat) (r : Int × Int) (w : World) (HR497 : Aside0 (Kd.C (Kd.int .u32) w A495 l494.length l494)) (HR501 : Aside0 (Kd.C (Kd.int .i64) w A499 l498.length l498)) (HS : Aside0 (Sep (fps []) w [] w)) (H : Aside0 (quitrentref01_Join.f k l494 l498 = some r)) :
    Calls Try.prog 49 #[.slice A495 l494.length n496, .slice A499 l498.length n500] w fun e w' => e = .returned (.tuple #[.int .u32 r.1, .int .i64 r.2]) ∧ Sep (fps []) w [] w' := by
  unfold quitrentref01_Join.f at H
  go_enter Try.func49, Try.ntmps49
  go_wp2_with fail
  obtain ⟨t502, HA503, H⟩ := bind_some H
  refine (quitrentref01_Right.calls _ l498 A499 n500 t502 _ ⟨HR501.out⟩ ⟨HS.out.begin (l := []) (rest := [])⟩ HA503).mono ?_
  rintro e_ w504 ⟨rfl, hS⟩
  have HS_ : Aside0 (Sep (fps []) w [] w504) := ⟨HS.out.call (l := []) (rest := []) hS⟩
  clear HS hS
  have HS := HS_
  clear HS_
  by_cases c505 : t502 = true
  · have H := if_yes c505 H
    have c505b0 : t502 = true := c505
    have c505b1 : (!t502) = false := by rw [c505b0]; rfl
    try rw [c505b1]
    clear c505
    by_cases c506 : (l494.length : Int) = (l498.length : Int)
    · have H := if_yes c506 H
      have c506b0 : ((l494.length : Int) == (l498.length : Int)) = true := beq_iff_eq.mpr c506
      have c506b1 : ((l494.length : Int) != (l498.length : Int)) = false := bne_eq_false_iff_eq.mpr c506
      clear c506
      go_wp2_with fail
      obtain ⟨o533, AL534, H⟩ := bind_some H
      go_loopg [6, 7, 8] k (fun kq v6 v7 v8 wc => ∃ (x537 : Int) (x538 : Int) (x539 : Int), v6 = .int .i64 x537 ∧ v7 = .int .u64 x538 ∧ v8 = .int .i64 x539 ∧ Aside0 (quitrentref01_Join.lo0 kq l494 l498 x537 x538 x539 = some o533) ∧ Aside0 (Sep (fps []) w [] wc))
      case atStart => exact ⟨(0), (0), (0), (by first | rfl | (simp [IntKind.wrap_u32]; done)), (by first | rfl | (simp [IntKind.wrap_u32]; done)), (by first | rfl | (simp [IntKind.wrap_u32]; done)), AL534, ⟨HS.out⟩⟩
      case round =>
        clear AL534 HS
        obtain ⟨x537, x538, x539, rfl, rfl, rfl, AL534, HS⟩ := hrel
        obtain ⟨w535, rfl⟩ : ∃ x : World, x = wr := ⟨_, rfl⟩
        cases gk with
        | zero => exact absurd AL534.out (by simp [quitrentref01_Join.lo0])
        | succ k536 =>
          have AL0 := AL534.out
          rw [quitrentref01_Join.lo0] at AL0
          clear AL534
          have AL534 := Aside0.mk AL0
          clear AL0
          by_cases c540 : x539 < (l494.length : Int)
          · have AL534 := if_yes c540 AL534
            have c540b0 : decide (x539 < (l494.length : Int)) = true := decide_eq_true c540
            clear c540
            go_wp2_with fail
            refine start_ (n := 10) (S := (fun w' => Kd.C (Kd.int .u32) w' A495 l494.length l494 ∧ Kd.C (Kd.int .i64) w' A499 l498.length l498)) (ds := []) #[false, false, false, false, false, false, false, false, false, false] (by kernel_rfl) rfl rfl (⟨Kd.C_below HR497.out (HS.out.drew).fr.below, Kd.C_below HR501.out (HS.out.drew).fr.below⟩) (fun hHeld => ?_)
            have HS_ := Aside0.mk HS.out.drew
            clear HS
            generalize World.drew _ = w542 at HS_ hHeld ⊢
            have HS := HS_
            clear HS_
            refine pure_ (i := 0) (N := some 25) (v := ?_) (a' := ?_) #[true, false, false, false, false, false, false, false, false, false] rfl rfl (by kernel_rfl) (fun _ _ _ h => h) (Or.inl ⟨by rfl, ?_⟩) ?_ ?_
            rotate_left
            · intro w'
              go_simp
              with_reducible rfl
            rotate_left
            · simp only [Act.put, List.setIfInBounds_toArray, List.set_cons_zero, List.set_cons_succ, i64_w, i32_w]
              rfl
            refine pure_ (i := 1) (N := some 26) (v := ?_) (a' := ?_) #[true, true, false, false, false, false, false, false, false, false] rfl rfl (by kernel_rfl) (fun _ _ _ h => h) (Or.inl ⟨by rfl, ?_⟩) ?_ ?_
            rotate_left
            · intro w'
              go_simp
              with_reducible rfl
            rotate_left
            · simp only [Act.put, List.setIfInBounds_toArray, List.set_cons_zero, List.set_cons_succ, i64_w, i32_w]
              rfl
            by_cases c543 : 0 ≤ x539
            · have AL534 := if_yes c543 AL534
              have c543b0 : decide (0 ≤ x539) = true := decide_eq_true c543
              have c543p : (0 ≤ x539) = True := eq_true c543
              clear c543
              have ip544 : (x539 < (l494.length : Int)) = True := eq_true (of_decide_eq_true c540b0)
              obtain ⟨ad545, ea, _⟩ := Kd.at_int (Kd.C_below HR497.out HS.out.fr.below) x539 (of_decide_eq_true c543b0) (of_decide_eq_true c540b0)
              cases ea
              refine pure_ (i := 2) (N := some 27) (v := ?_) (a' := ?_) #[true, true, true, false, false, false, false, false, false, false] rfl rfl (by kernel_rfl) (fun _ _ _ h => h) (Or.inl ⟨by rfl, ?_⟩) ?_ ?_
              rotate_left
              · intro w'
                go_simp
                with_reducible rfl
              rotate_left
              · simp only [Act.put, List.setIfInBounds_toArray, List.set_cons_zero, List.set_cons_succ, i64_w, i32_w]
                rfl
              refine pure_ (i := 4) (N := some 29) (v := ?_) (a' := ?_) #[true, true, true, false, true, false, false, false, false, false] rfl rfl (by kernel_rfl) (fun _ _ _ h => h) (Or.inl ⟨by rfl, ?_⟩) ?_ ?_
              rotate_left
              · intro w'
                go_simp
                with_reducible rfl
              rotate_left
              · simp only [Act.put, List.setIfInBounds_toArray, List.set_cons_zero, List.set_cons_succ, i64_w, i32_w]
                rfl
              refine pure_ (i := 5) (N := some 30) (v := ?_) (a' := ?_) #[true, true, true, false, true, true, false, false, false, false] rfl rfl (by kernel_rfl) (fun _ _ _ h => h) (Or.inl ⟨by rfl, ?_⟩) ?_ ?_
              rotate_left
              · intro w'
                go_simp
                with_reducible rfl
              rotate_left
              · simp only [Act.put, List.setIfInBounds_toArray, List.set_cons_zero, List.set_cons_succ, i64_w, i32_w]
                rfl
              by_cases c546 : x539 < (l498.length : Int)
              · have AL534 := if_yes c546 AL534
                have c546b0 : decide (x539 < (l498.length : Int)) = true := decide_eq_true c546
                have c546p : (x539 < (l498.length : Int)) = True := eq_true c546
                clear c546
                obtain ⟨ad547, ea, _⟩ := Kd.at_int (Kd.C_below HR501.out HS.out.fr.below) x539 (of_decide_eq_true c543b0) (of_decide_eq_true c546b0)
                cases ea
                refine pure_ (i := 6) (N := some 31) (v := ?_) (a' := ?_) #[true, true, true, false, true, true, true, false, false, false] rfl rfl (by kernel_rfl) (fun _ _ _ h => h) (Or.inl ⟨by rfl, ?_⟩) ?_ ?_
                rotate_left
                · intro w'
                  go_simp
                  with_reducible rfl
                rotate_left
                · simp only [Act.put, List.setIfInBounds_toArray, List.set_cons_zero, List.set_cons_succ, i64_w, i32_w]
                  rfl
                refine take_ (i := 3) (N := some 28) (v := ?_) (a' := ?_) #[true, true, true, true, true, true, true, false, false, false] rfl rfl (by kernel_rfl) (fun _ _ _ h => h) (Or.inl ⟨by rfl, ?_⟩) hHeld ?_ ?_
                rotate_left
                · rintro w' hS'
                  obtain ⟨s0, s1⟩ := hS'
                  have hx := C_at_int s0 x539 (of_decide_eq_true c543b0) (of_decide_eq_true c540b0)
                  go_simp
                  with_reducible rfl
                rotate_left
                · simp only [Act.put, List.setIfInBounds_toArray, List.set_cons_zero, List.set_cons_succ, i64_w, i32_w]
                  rfl
                refine take_ (i := 7) (N := some 32) (v := ?_) (a' := ?_) #[true, true, true, true, true, true, true, true, false, false] rfl rfl (by kernel_rfl) (fun _ _ _ h => h) (Or.inl ⟨by rfl, ?_⟩) hHeld ?_ ?_
                rotate_left
                · rintro w' hS'
                  obtain ⟨s0, s1⟩ := hS'
                  have hx := C_at_int s1 x539 (of_decide_eq_true c543b0) (of_decide_eq_true c546b0)
                  go_simp
                  with_reducible rfl
                rotate_left
                · simp only [Act.put, List.setIfInBounds_toArray, List.set_cons_zero, List.set_cons_succ, i64_w, i32_w]
                  rfl
                refine one_ (i := 8) (N := some 33) #[true, true, true, true, true, true, true, true, true, false] rfl rfl (by kernel_rfl) (by decide) (fun K hK => ?_)
                obtain ⟨t523, HA548, AL534⟩ := bind_some AL534
                refine goes_ Try.func38 (by kernel_rfl) rfl #[.int .u32 (rd l494 x539), .int .i64 (rd l498 x539)] (by rfl) rfl rfl (by (try simp only [List.map_toArray, List.map_cons, List.map_nil]); first | done | rfl) ?_
                refine (quitrentref01_Fits.calls _ (rd l494 x539) (rd l498 x539) t523 _ ⟨HS.out.begin (l := []) (rest := [])⟩ HA548).mono ?_
                rintro e_ w549 ⟨rfl, hS⟩
                have HS_ : Aside0 (Sep (fps []) w [] w549) := ⟨HS.out.call (l := []) (rest := []) hS⟩
                clear HS hS
                have HS := HS_
                clear HS_
                refine ⟨_, rfl, ?_⟩
                refine hK.out _ _ (⟨Kd.C_below HR497.out HS.out.fr.below, Kd.C_below HR501.out HS.out.fr.below⟩) (fun hHeld => ?_)
                clear hK K
                refine norm_ (a' := ?_) ?_ ?_
                rotate_left
                · show Act.put _ (some 33) _ = _
                  simp only [Act.put, List.setIfInBounds_toArray, List.set_cons_zero, List.set_cons_succ, i64_w, i32_w]
                  rfl
                refine pure_ (i := 9) (N := some 34) (v := ?_) (a' := ?_) #[true, true, true, true, true, true, true, true, true, true] rfl rfl (by kernel_rfl) (fun _ _ _ h => h) (Or.inl ⟨by rfl, ?_⟩) ?_ ?_
                rotate_left
                · intro w'
                  go_simp
                  with_reducible rfl
                rotate_left
                · simp only [Act.put, List.setIfInBounds_toArray, List.set_cons_zero, List.set_cons_succ, i64_w, i32_w]
                  rfl
                refine done_ (by kernel_rfl) ?_
                by_cases c550 : t523 = true
                · have AL534 := if_yes c550 AL534
                  have c550b0 : t523 = true := c550
                  have c550b1 : (!t523) = false := by rw [c550b0]; rfl
                  try rw [c550b1]
                  clear c550
                  go_wp2_with fail
                  refine start_ (n := 11) (S := (fun w' => Kd.C (Kd.int .u32) w' (some ad545) l494.length l494)) (ds := []) #[false, false, false, false, false, false, false, false, false, false, false] (by kernel_rfl) rfl rfl (Kd.C_below HR497.out (HS.out.drew).fr.below) (fun hHeld => ?_)
                  have HS_ := Aside0.mk HS.out.drew
                  clear HS
                  generalize World.drew _ = w552 at HS_ hHeld ⊢
                  have HS := HS_
                  clear HS_
                  refine pure_ (i := 0) (N := some 35) (v := ?_) (a' := ?_) #[true, false, false, false, false, false, false, false, false, false, false] rfl rfl (by kernel_rfl) (fun _ _ _ h => h) (Or.inl ⟨by rfl, ?_⟩) ?_ ?_
                  rotate_left
                  · intro w'
                    go_simp
                    with_reducible rfl
                  rotate_left
                  · simp only [Act.put, List.setIfInBounds_toArray, List.set_cons_zero, List.set_cons_succ, i64_w, i32_w]
                    rfl
                  refine pure_ (i := 1) (N := some 36) (v := ?_) (a' := ?_) #[true, true, false, false, false, false, false, false, false, false, false] rfl rfl (by kernel_rfl) (fun _ _ _ h => h) (Or.inl ⟨by rfl, ?_⟩) ?_ ?_
                  rotate_left
                  · intro w'
                    go_simp
                    with_reducible rfl
                  rotate_left
                  · simp only [Act.put, List.setIfInBounds_toArray, List.set_cons_zero, List.set_cons_succ, i64_w, i32_w]
                    rfl
                  refine pure_ (i := 2) (N := some 37) (v := ?_) (a' := ?_) #[true, true, true, false, false, false, false, false, false, false, false] rfl rfl (by kernel_rfl) (fun _ _ _ h => h) (Or.inl ⟨by rfl, ?_⟩) ?_ ?_
                  rotate_left
                  · intro w'
                    go_simp
                    with_reducible rfl
                  rotate_left
                  · simp only [Act.put, List.setIfInBounds_toArray, List.set_cons_zero, List.set_cons_succ, i64_w, i32_w]
                    rfl
                  refine pure_ (i := 3) (N := some 38) (v := ?_) (a' := ?_) #[true, true, true, true, false, false, false, false, false, false, false] rfl rfl (by kernel_rfl) (fun _ _ _ h => h) (Or.inl ⟨by rfl, ?_⟩) ?_ ?_
                  rotate_left
                  · intro w'
                    go_simp
                    with_reducible rfl
                  rotate_left
                  · simp only [Act.put, List.setIfInBounds_toArray, List.set_cons_zero, List.set_cons_succ, i64_w, i32_w]
                    rfl
                  refine pure_ (i := 6) (N := some 41) (v := ?_) (a' := ?_) #[true, true, true, true, false, false, true, false, false, false, false] rfl rfl (by kernel_rfl) (fun _ _ _ h => h) (Or.inl ⟨by rfl, ?_⟩) ?_ ?_
                  rotate_left
                  · intro w'
                    go_simp
                    with_reducible rfl
                  rotate_left
                  · simp only [Act.put, List.setIfInBounds_toArray, List.set_cons_zero, List.set_cons_succ, i64_w, i32_w]
                    rfl
                  refine take_ (i := 4) (N := some 39) (v := ?_) (a' := ?_) #[true, true, true, true, true, false, true, false, false, false, false] rfl rfl (by kernel_rfl) (fun _ _ _ h => h) (Or.inl ⟨by rfl, ?_⟩) hHeld ?_ ?_
                  rotate_left
                  · rintro w' hS'
                    have s0 := hS'
                    have hx := C_at_int s0 x539 (of_decide_eq_true c543b0) (of_decide_eq_true c540b0)
                    go_simp
                    with_reducible rfl
                  rotate_left
                  · simp only [Act.put, List.setIfInBounds_toArray, List.set_cons_zero, List.set_cons_succ, i64_w, i32_w]
                    rfl
                  refine pure_ (i := 5) (N := some 40) (v := ?_) (a' := ?_) #[true, true, true, true, true, true, true, false, false, false, false] rfl rfl (by kernel_rfl) (fun _ _ _ h => h) (Or.inl ⟨by rfl, ?_⟩) ?_ ?_
                  rotate_left
                  · intro w'
                    go_simp
                    with_reducible rfl
                  rotate_left
                  · simp only [Act.put, List.setIfInBounds_toArray, List.set_cons_zero, List.set_cons_succ, i64_w, i32_w]
                    rfl
                  refine one_ (i := 7) (N := some 42) #[true, true, true, true, true, true, true, true, false, false, false] rfl rfl (by kernel_rfl) (by decide) (fun K hK => ?_)
                  obtain ⟨t529, HA553, AL534⟩ := bind_some AL534
                  refine goes_ Try.func66 (by kernel_rfl) rfl #[.int .i64 x537] (by rfl) rfl rfl (by (try simp only [List.map_toArray, List.map_cons, List.map_nil]); first | done | rfl) ?_
                  refine (quitrentref01_Power.calls _ x537 t529 _ ⟨HS.out.begin (l := []) (rest := [])⟩ HA553).mono ?_
                  rintro e_ w554 ⟨rfl, hS⟩
                  have HS_ : Aside0 (Sep (fps []) w [] w554) := ⟨HS.out.call (l := []) (rest := []) hS⟩
                  clear HS hS
                  have HS := HS_
                  clear HS_
                  refine ⟨_, rfl, ?_⟩
                  refine hK.out _ _ (Kd.C_below HR497.out HS.out.fr.below) (fun hHeld => ?_)
                  clear hK K
                  refine norm_ (a' := ?_) ?_ ?_
                  rotate_left
                  · show Act.put _ (some 42) _ = _
                    simp only [Act.put, List.setIfInBounds_toArray, List.set_cons_zero, List.set_cons_succ, i64_w, i32_w]
                    rfl
                  refine pure_ (i := 8) (N := some 43) (v := ?_) (a' := ?_) #[true, true, true, true, true, true, true, true, true, false, false] rfl rfl (by kernel_rfl) (fun _ _ _ h => h) (Or.inl ⟨by rfl, ?_⟩) ?_ ?_
                  rotate_left
                  · intro w'
                    go_simp
                    with_reducible rfl
                  rotate_left
                  · simp only [Act.put, List.setIfInBounds_toArray, List.set_cons_zero, List.set_cons_succ, i64_w, i32_w]
                    rfl
                  refine pure_ (i := 9) (N := some 44) (v := ?_) (a' := ?_) #[true, true, true, true, true, true, true, true, true, true, false] rfl rfl (by kernel_rfl) (fun _ _ _ h => h) (Or.inl ⟨by rfl, ?_⟩) ?_ ?_
                  rotate_left
                  · intro w'
                    go_simp
                    with_reducible rfl
                  rotate_left
                  · simp only [Act.put, List.setIfInBounds_toArray, List.set_cons_zero, List.set_cons_succ, i64_w, i32_w]
                    rfl
                  refine pure_ (i := 10) (N := some 7) (v := ?_) (a' := ?_) #[true, true, true, true, true, true, true, true, true, true, true] rfl rfl (by kernel_rfl) (fun _ _ _ h => h) (Or.inl ⟨by rfl, ?_⟩) ?_ ?_
                  rotate_left
                  · intro w'
                    go_simp
                    with_reducible rfl
                  rotate_left
                  · simp only [Act.put, List.setIfInBounds_toArray, List.set_cons_zero, List.set_cons_succ, i64_w, i32_w]
                    rfl
                  refine done_ (by kernel_rfl) ?_
                  have hx555 := C_at_int (Kd.C_below HR501.out HS.out.fr.below) x539 (of_decide_eq_true c543b0) (of_decide_eq_true c546b0)
                  go_wp2_with fail
                  clear hx555
                  go_roundg k536
                  case measure => exact Nat.lt_succ_self _
                  case rel => exact ⟨(wrap64 (x537 + (rd l498 x539))), (IntKind.u64.wrap (x538 + (IntKind.u64.wrap ((IntKind.u64.wrap (rd l494 x539)) * t529)))), (wrap64 (x539 + 1)), (by first | rfl | (simp [IntKind.wrap_u32]; done)), (by first | rfl | (simp [IntKind.wrap_u32]; done)), (by first | rfl | (simp [IntKind.wrap_u32]; done)), Aside0.mk AL534.out, ⟨(HS.out).keep (l := []) (rest := [])⟩⟩
                · have AL534 := if_no c550 AL534
                  have c550b0 : t523 = false := by simpa using c550
                  have c550b1 : (!t523) = true := by rw [c550b0]; rfl
                  try rw [c550b1]
                  clear c550
                  go_wp2_with fail
                  have ho := some_eq AL534
                  subst ho
                  have H := lp_ret H
                  go_ret2
                  rw [← some_eq H]
                  exact ⟨(by first | rfl | (simp [IntKind.wrap_u32]; done)), (HS.out).keep (l := []) (rest := [])⟩
              · have AL534 := if_no c546 AL534
                have c546b0 : decide (x539 < (l498.length : Int)) = false := decide_eq_false c546
                clear c546
                exact (none_no AL534).elim
            · have AL534 := if_no c543 AL534
              have c543b0 : decide (0 ≤ x539) = false := decide_eq_false c543
              clear c543
              exact (none_no AL534).elim
          · have AL534 := if_no c540 AL534
            have c540b0 : decide (x539 < (l494.length : Int)) = false := decide_eq_false c540
            clear c540
            have ho := some_eq AL534
            subst ho
            clear AL534
            have H := lp_out H
            go_wp2_with fail
            go_ret2
            rw [← some_eq H]
            exact ⟨(by first | rfl | (simp [IntKind.wrap_u32]; done)), (HS.out).keep (l := []) (rest := [])⟩
    · have H := if_no c506 H
      have c506b0 : ((l494.length : Int) == (l498.length : Int)) = false := beq_eq_false_iff_ne.mpr c506
      have c506b1 : ((l494.length : Int) != (l498.length : Int)) = true := bne_iff_ne.mpr c506
      clear c506
      go_wp2_with fail
      go_ret2
      rw [← some_eq H]
      exact ⟨(by first | rfl | (simp [IntKind.wrap_u32]; done)), (HS.out).keep (l := []) (rest := [])⟩
  · have H := if_no c505 H
    have c505b0 : t502 = false := by simpa using c505
    have c505b1 : (!t502) = true := by rw [c505b0]; rfl
    try rw [c505b1]
    clear c505
    go_wp2_with fail
    go_ret2
    rw [← some_eq H]
    exact ⟨(by first | rfl | (simp [IntKind.wrap_u32]; done)), (HS.out).keep (l := []) (rest := [])⟩

set_option maxHeartbeats 4000000 in
set_option maxRecDepth 100000 in
theorem quitrentlaw01_PackSplits.calls (k : Nat) (a381 : Int) (l382 : List Int) (l386 : List Int) (A383 : Option Addr) (n384 : Nat) (A387 : Option Addr) (n388 : Nat) (r : Bool) (w : World) (HR385 : Aside0 (Kd.C (Kd.int .u32) w A383 l382.length l382)) (HR389 : Aside0 (Kd.C (Kd.int .i64) w A387 l386.length l386)) (HS : Aside0 (Sep (fps []) w [] w)) (H : Aside0 (quitrentlaw01_PackSplits.f k a381 l382 l386 = some r)) :
    Calls Try.prog 14 #[.int .u32 a381, .slice A383 l382.length n384, .slice A387 l386.length n388] w fun e w' => e = .returned (.bool r) ∧ Sep (fps []) w [] w' := by
  unfold quitrentlaw01_PackSplits.f at H
  go_enter Try.func14, Try.ntmps14
  by_cases c390 : (l382.length : Int) > 100
  · have H := if_yes c390 H
    have c390b0 : decide (100 < (l382.length : Int)) = true := decide_eq_true c390
    have c390b1 : decide (100 < l382.length) = true := decide_eq_true (by omega)
    clear c390
    go_wp2_with fail
    obtain ⟨t391, HA392, H⟩ := bind_some H
    refine (quitrentlaw01_begun.calls _ t391 _ ⟨HS.out.begin (l := []) (rest := [])⟩ HA392).mono ?_
    rintro e_ w393 ⟨rfl, hS⟩
    have HS_ : Aside0 (Sep (fps []) w [] w393) := ⟨HS.out.call (l := []) (rest := []) hS⟩
    clear HS hS
    have HS := HS_
    clear HS_
    go_wp2_with fail
    go_ret
    rw [← some_eq H]
    exact ⟨(by first | rfl | (simp [IntKind.wrap_u32]; done)), (HS.out).keep (l := []) (rest := [])⟩
  · have H := if_no c390 H
    have c390b0 : decide (100 < (l382.length : Int)) = false := decide_eq_false c390
    have c390b1 : decide (100 < l382.length) = false := decide_eq_false (by omega)
    clear c390
    by_cases c394 : (l386.length : Int) > 100
    · have H := if_yes c394 H
      have c394b0 : decide (100 < (l386.length : Int)) = true := decide_eq_true c394
      have c394b1 : decide (100 < l386.length) = true := decide_eq_true (by omega)
      clear c394
      go_wp2_with fail
      obtain ⟨t391, HA395, H⟩ := bind_some H
      refine (quitrentlaw01_begun.calls _ t391 _ ⟨HS.out.begin (l := []) (rest := [])⟩ HA395).mono ?_
      rintro e_ w396 ⟨rfl, hS⟩
      have HS_ : Aside0 (Sep (fps []) w [] w396) := ⟨HS.out.call (l := []) (rest := []) hS⟩
      clear HS hS
      have HS := HS_
      clear HS_
      go_wp2_with fail
      go_ret
      rw [← some_eq H]
      exact ⟨(by first | rfl | (simp [IntKind.wrap_u32]; done)), (HS.out).keep (l := []) (rest := [])⟩
    · have H := if_no c394 H
      have c394b0 : decide (100 < (l386.length : Int)) = false := decide_eq_false c394
      have c394b1 : decide (100 < l386.length) = false := decide_eq_false (by omega)
      clear c394
      go_wp2_with fail
      obtain ⟨t397, HA398, H⟩ := bind_some H
      refine (pack_Split.calls _ a381 l386 A387 n388 t397 _ ⟨HR389.out⟩ ⟨HS.out.begin (l := []) (rest := [])⟩ HA398).mono ?_
      rintro e_ w399 ⟨A400, n401, rfl, hS⟩
      have HS_ : Aside0 (Sep (fps []) w [row 43 (Value.int .u32) (.slice A400 ((t397.1).length) n401) t397.1] w399) := ⟨HS.out.call (l := []) (rest := []) hS⟩
      clear HS hS
      have HS := HS_
      clear HS_
      go_wp2_with fail
      obtain ⟨t485, HA486, H⟩ := bind_some H
      refine (quitrentref01_Split.calls _ a381 l386 A387 n388 t485 _ ⟨Kd.C_below HR389.out HS.out.fr.below⟩ ⟨HS.out.begin (l := []) (rest := [row 43 (Value.int .u32) (.slice A400 ((t397.1).length) n401) t397.1])⟩ HA486).mono ?_
      rintro e_ w487 ⟨A488, n489, rfl, hS⟩
      have HS_ : Aside0 (Sep (fps []) w [row 43 (Value.int .u32) (.slice A488 ((t485.1).length) n489) t485.1, row 43 (Value.int .u32) (.slice A400 ((t397.1).length) n401) t397.1] w487) := ⟨HS.out.call (l := []) (rest := [row 43 (Value.int .u32) (.slice A400 ((t397.1).length) n401) t397.1]) hS⟩
      clear HS hS
      have HS := HS_
      clear HS_
      go_wp2_with fail
      obtain ⟨t491, HA492, H⟩ := bind_some H
      refine (pack_Join.calls _ l382 l386 A383 n384 A387 n388 t491 _ ⟨Kd.C_below HR385.out HS.out.fr.below⟩ ⟨Kd.C_below HR389.out HS.out.fr.below⟩ ⟨HS.out.begin (l := []) (rest := [row 43 (Value.int .u32) (.slice A488 ((t485.1).length) n489) t485.1, row 43 (Value.int .u32) (.slice A400 ((t397.1).length) n401) t397.1])⟩ HA492).mono ?_
      rintro e_ w493 ⟨rfl, hS⟩
      have HS_ : Aside0 (Sep (fps []) w [row 43 (Value.int .u32) (.slice A488 ((t485.1).length) n489) t485.1, row 43 (Value.int .u32) (.slice A400 ((t397.1).length) n401) t397.1] w493) := ⟨HS.out.call (l := []) (rest := [row 43 (Value.int .u32) (.slice A488 ((t485.1).length) n489) t485.1, row 43 (Value.int .u32) (.slice A400 ((t397.1).length) n401) t397.1]) hS⟩
      clear HS hS
      have HS := HS_
      clear HS_
      go_wp2_with fail
      obtain ⟨t557, HA558, H⟩ := bind_some H
      refine (quitrentref01_Join.calls _ l382 l386 A383 n384 A387 n388 t557 _ ⟨Kd.C_below HR385.out HS.out.fr.below⟩ ⟨Kd.C_below HR389.out HS.out.fr.below⟩ ⟨HS.out.begin (l := []) (rest := [row 43 (Value.int .u32) (.slice A488 ((t485.1).length) n489) t485.1, row 43 (Value.int .u32) (.slice A400 ((t397.1).length) n401) t397.1])⟩ HA558).mono ?_
      rintro e_ w559 ⟨rfl, hS⟩
      have HS_ : Aside0 (Sep (fps []) w [row 43 (Value.int .u32) (.slice A488 ((t485.1).length) n489) t485.1, row 43 (Value.int .u32) (.slice A400 ((t397.1).length) n401) t397.1] w559) := ⟨HS.out.call (l := []) (rest := [row 43 (Value.int .u32) (.slice A488 ((t485.1).length) n489) t485.1, row 43 (Value.int .u32) (.slice A400 ((t397.1).length) n401) t397.1]) hS⟩
      clear HS hS
      have HS := HS_
      clear HS_
      go_wp2_with fail
      obtain ⟨t560, HA561, H⟩ := bind_some H
      refine (quitrentlaw01_begun.calls _ t560 _ ⟨HS.out.begin (l := []) (rest := [row 43 (Value.int .u32) (.slice A488 ((t485.1).length) n489) t485.1, row 43 (Value.int .u32) (.slice A400 ((t397.1).length) n401) t397.1])⟩ HA561).mono ?_
      rintro e_ w562 ⟨rfl, hS⟩
      have HS_ : Aside0 (Sep (fps []) w [row 43 (Value.int .u32) (.slice A488 ((t485.1).length) n489) t485.1, row 43 (Value.int .u32) (.slice A400 ((t397.1).length) n401) t397.1] w562) := ⟨HS.out.call (l := []) (rest := [row 43 (Value.int .u32) (.slice A488 ((t485.1).length) n489) t485.1, row 43 (Value.int .u32) (.slice A400 ((t397.1).length) n401) t397.1]) hS⟩
      clear HS hS
      have HS := HS_
      clear HS_
      by_cases c563 : t560 = true
      · have H := if_yes c563 H
        have c563b0 : t560 = true := c563
        have c563b1 : (!t560) = false := by rw [c563b0]; rfl
        clear c563
        go_wp2_with fail
        obtain ⟨t564, HA565, H⟩ := bind_some H
        refine (quitrentref01_Same.calls _ t397.1 t485.1 A400 n401 A488 n489 t564 _ ⟨row_Ci (HS.out.at1)⟩ ⟨row_Ci (HS.out.at0)⟩ ⟨HS.out.begin (l := []) (rest := [row 43 (Value.int .u32) (.slice A488 ((t485.1).length) n489) t485.1, row 43 (Value.int .u32) (.slice A400 ((t397.1).length) n401) t397.1])⟩ HA565).mono ?_
        rintro e_ w566 ⟨rfl, hS⟩
        have HS_ : Aside0 (Sep (fps []) w [row 43 (Value.int .u32) (.slice A488 ((t485.1).length) n489) t485.1, row 43 (Value.int .u32) (.slice A400 ((t397.1).length) n401) t397.1] w566) := ⟨HS.out.call (l := []) (rest := [row 43 (Value.int .u32) (.slice A488 ((t485.1).length) n489) t485.1, row 43 (Value.int .u32) (.slice A400 ((t397.1).length) n401) t397.1]) hS⟩
        clear HS hS
        have HS := HS_
        clear HS_
        by_cases c567 : t564 = true
        · have H := if_yes c567 H
          have c567b0 : t564 = true := c567
          have c567b1 : (!t564) = false := by rw [c567b0]; rfl
          clear c567
          by_cases c568 : t397.2 = t485.2
          · have H := if_yes c568 H
            have c568b0 : (t397.2 == t485.2) = true := beq_iff_eq.mpr c568
            have c568b1 : (t397.2 != t485.2) = false := bne_eq_false_iff_eq.mpr c568
            clear c568
            by_cases c569 : t491.1 = t557.1
            · have H := if_yes c569 H
              have c569b0 : (t491.1 == t557.1) = true := beq_iff_eq.mpr c569
              have c569b1 : (t491.1 != t557.1) = false := bne_eq_false_iff_eq.mpr c569
              clear c569
              go_wp2_with fail
              go_ret
              rw [← some_eq H]
              exact ⟨(by first | rfl | (simp [IntKind.wrap_u32]; done)), (HS.out).keep (l := []) (rest := [row 43 (Value.int .u32) (.slice A488 ((t485.1).length) n489) t485.1, row 43 (Value.int .u32) (.slice A400 ((t397.1).length) n401) t397.1])⟩
            · have H := if_no c569 H
              have c569b0 : (t491.1 == t557.1) = false := beq_eq_false_iff_ne.mpr c569
              have c569b1 : (t491.1 != t557.1) = true := bne_iff_ne.mpr c569
              clear c569
              go_wp2_with fail
              go_ret
              rw [← some_eq H]
              exact ⟨(by first | rfl | (simp [IntKind.wrap_u32]; done)), (HS.out).keep (l := []) (rest := [row 43 (Value.int .u32) (.slice A488 ((t485.1).length) n489) t485.1, row 43 (Value.int .u32) (.slice A400 ((t397.1).length) n401) t397.1])⟩
          · have H := if_no c568 H
            have c568b0 : (t397.2 == t485.2) = false := beq_eq_false_iff_ne.mpr c568
            have c568b1 : (t397.2 != t485.2) = true := bne_iff_ne.mpr c568
            clear c568
            go_wp2_with fail
            go_ret
            rw [← some_eq H]
            exact ⟨(by first | rfl | (simp [IntKind.wrap_u32]; done)), (HS.out).keep (l := []) (rest := [row 43 (Value.int .u32) (.slice A488 ((t485.1).length) n489) t485.1, row 43 (Value.int .u32) (.slice A400 ((t397.1).length) n401) t397.1])⟩
        · have H := if_no c567 H
          have c567b0 : t564 = false := by simpa using c567
          have c567b1 : (!t564) = true := by rw [c567b0]; rfl
          clear c567
          go_wp2_with fail
          go_ret
          rw [← some_eq H]
          exact ⟨(by first | rfl | (simp [IntKind.wrap_u32]; done)), (HS.out).keep (l := []) (rest := [row 43 (Value.int .u32) (.slice A488 ((t485.1).length) n489) t485.1, row 43 (Value.int .u32) (.slice A400 ((t397.1).length) n401) t397.1])⟩
      · have H := if_no c563 H
        have c563b0 : t560 = false := by simpa using c563
        have c563b1 : (!t560) = true := by rw [c563b0]; rfl
        clear c563
        go_wp2_with fail
        go_ret
        rw [← some_eq H]
        exact ⟨(by first | rfl | (simp [IntKind.wrap_u32]; done)), (HS.out).keep (l := []) (rest := [row 43 (Value.int .u32) (.slice A488 ((t485.1).length) n489) t485.1, row 43 (Value.int .u32) (.slice A400 ((t397.1).length) n401) t397.1])⟩

set_option maxHeartbeats 4000000 in
set_option maxRecDepth 100000 in
theorem quitrentlaw01_PackBack.calls (k : Nat) (a570 : Int) (l571 : List Int) (l575 : List Int) (A572 : Option Addr) (n573 : Nat) (A576 : Option Addr) (n577 : Nat) (r : Bool) (w : World) (HR574 : Aside0 (Kd.C (Kd.int .u32) w A572 l571.length l571)) (HR578 : Aside0 (Kd.C (Kd.int .i64) w A576 l575.length l575)) (HS : Aside0 (Sep (fps []) w [] w)) (H : Aside0 (quitrentlaw01_PackBack.f k a570 l571 l575 = some r)) :
    Calls Try.prog 15 #[.int .u32 a570, .slice A572 l571.length n573, .slice A576 l575.length n577] w fun e w' => e = .returned (.bool r) ∧ Sep (fps []) w [] w' := by
  unfold quitrentlaw01_PackBack.f at H
  go_enter Try.func15, Try.ntmps15
  by_cases c579 : (l571.length : Int) > 100
  · have H := if_yes c579 H
    have c579b0 : decide (100 < (l571.length : Int)) = true := decide_eq_true c579
    have c579b1 : decide (100 < l571.length) = true := decide_eq_true (by omega)
    clear c579
    go_wp2_with fail
    obtain ⟨t580, HA581, H⟩ := bind_some H
    refine (quitrentlaw01_begun.calls _ t580 _ ⟨HS.out.begin (l := []) (rest := [])⟩ HA581).mono ?_
    rintro e_ w582 ⟨rfl, hS⟩
    have HS_ : Aside0 (Sep (fps []) w [] w582) := ⟨HS.out.call (l := []) (rest := []) hS⟩
    clear HS hS
    have HS := HS_
    clear HS_
    go_wp2_with fail
    go_ret
    rw [← some_eq H]
    exact ⟨(by first | rfl | (simp [IntKind.wrap_u32]; done)), (HS.out).keep (l := []) (rest := [])⟩
  · have H := if_no c579 H
    have c579b0 : decide (100 < (l571.length : Int)) = false := decide_eq_false c579
    have c579b1 : decide (100 < l571.length) = false := decide_eq_false (by omega)
    clear c579
    by_cases c583 : (l575.length : Int) > 100
    · have H := if_yes c583 H
      have c583b0 : decide (100 < (l575.length : Int)) = true := decide_eq_true c583
      have c583b1 : decide (100 < l575.length) = true := decide_eq_true (by omega)
      clear c583
      go_wp2_with fail
      obtain ⟨t580, HA584, H⟩ := bind_some H
      refine (quitrentlaw01_begun.calls _ t580 _ ⟨HS.out.begin (l := []) (rest := [])⟩ HA584).mono ?_
      rintro e_ w585 ⟨rfl, hS⟩
      have HS_ : Aside0 (Sep (fps []) w [] w585) := ⟨HS.out.call (l := []) (rest := []) hS⟩
      clear HS hS
      have HS := HS_
      clear HS_
      go_wp2_with fail
      go_ret
      rw [← some_eq H]
      exact ⟨(by first | rfl | (simp [IntKind.wrap_u32]; done)), (HS.out).keep (l := []) (rest := [])⟩
    · have H := if_no c583 H
      have c583b0 : decide (100 < (l575.length : Int)) = false := decide_eq_false c583
      have c583b1 : decide (100 < l575.length) = false := decide_eq_false (by omega)
      clear c583
      go_wp2_with fail
      obtain ⟨t586, HA587, H⟩ := bind_some H
      refine (pack_Join.calls _ l571 l575 A572 n573 A576 n577 t586 _ ⟨HR574.out⟩ ⟨HR578.out⟩ ⟨HS.out.begin (l := []) (rest := [])⟩ HA587).mono ?_
      rintro e_ w588 ⟨rfl, hS⟩
      have HS_ : Aside0 (Sep (fps []) w [] w588) := ⟨HS.out.call (l := []) (rest := []) hS⟩
      clear HS hS
      have HS := HS_
      clear HS_
      by_cases c589 : t586.2 = 0
      · have H := if_yes c589 H
        have c589b0 : (t586.2 == 0) = true := beq_iff_eq.mpr c589
        have c589b1 : (t586.2 != 0) = false := bne_eq_false_iff_eq.mpr c589
        clear c589
        go_wp2_with fail
        obtain ⟨t590, HA591, H⟩ := bind_some H
        refine (pack_Split.calls _ t586.1 l575 A576 n577 t590 _ ⟨Kd.C_below HR578.out HS.out.fr.below⟩ ⟨HS.out.begin (l := []) (rest := [])⟩ HA591).mono ?_
        rintro e_ w592 ⟨A593, n594, rfl, hS⟩
        have HS_ : Aside0 (Sep (fps []) w [row 43 (Value.int .u32) (.slice A593 ((t590.1).length) n594) t590.1] w592) := ⟨HS.out.call (l := []) (rest := []) hS⟩
        clear HS hS
        have HS := HS_
        clear HS_
        go_wp2_with fail
        obtain ⟨o597, AL598, H⟩ := bind_some H
        go_loopg [11, 43] k (fun kq v11 v43 wc => ∃ (x601 : Int) (x602 : Int), v11 = .int .i64 x601 ∧ v43 = .int .i64 x602 ∧ Aside0 (quitrentlaw01_PackBack.lo0 kq l571 x601 x602 = some o597) ∧ Aside0 (Sep (fps []) w [row 43 (Value.int .u32) (.slice A593 ((t590.1).length) n594) t590.1] wc))
        case atStart => exact ⟨(0), (0), (by first | rfl | (simp [IntKind.wrap_u32]; done)), (by first | rfl | (simp [IntKind.wrap_u32]; done)), AL598, ⟨HS.out⟩⟩
        case round =>
          clear AL598 HS
          obtain ⟨x601, x602, rfl, rfl, AL598, HS⟩ := hrel
          obtain ⟨w599, rfl⟩ : ∃ x : World, x = wr := ⟨_, rfl⟩
          cases gk with
          | zero => exact absurd AL598.out (by simp [quitrentlaw01_PackBack.lo0])
          | succ k600 =>
            have AL0 := AL598.out
            rw [quitrentlaw01_PackBack.lo0] at AL0
            clear AL598
            have AL598 := Aside0.mk AL0
            clear AL0
            by_cases c603 : x602 < (l571.length : Int)
            · have AL598 := if_yes c603 AL598
              have c603b0 : decide (x602 < (l571.length : Int)) = true := decide_eq_true c603
              clear c603
              by_cases c604 : 0 ≤ x602
              · have AL598 := if_yes c604 AL598
                have c604b0 : decide (0 ≤ x602) = true := decide_eq_true c604
                have c604p : (0 ≤ x602) = True := eq_true c604
                clear c604
                have ip605 : (x602 < (l571.length : Int)) = True := eq_true (of_decide_eq_true c603b0)
                obtain ⟨hx606a, hx606e, hx606⟩ := Kd.at_int (Kd.C_below HR574.out HS.out.fr.below) x602 (of_decide_eq_true c604b0) (of_decide_eq_true c603b0); cases hx606e
                go_wp2_with fail
                clear hx606
                obtain ⟨t607, HA608, AL598⟩ := bind_some AL598
                refine (pack_Ones.calls _ (rd l571 x602) t607 _ ⟨HS.out.begin (l := []) (rest := [row 43 (Value.int .u32) (.slice A593 ((t590.1).length) n594) t590.1])⟩ HA608).mono ?_
                rintro e_ w609 ⟨rfl, hS⟩
                have HS_ : Aside0 (Sep (fps []) w [row 43 (Value.int .u32) (.slice A593 ((t590.1).length) n594) t590.1] w609) := ⟨HS.out.call (l := []) (rest := [row 43 (Value.int .u32) (.slice A593 ((t590.1).length) n594) t590.1]) hS⟩
                clear HS hS
                have HS := HS_
                clear HS_
                go_wp2_with fail
                go_roundg k600
                case measure => exact Nat.lt_succ_self _
                case rel => exact ⟨(wrap64 (x601 + t607)), (wrap64 (x602 + 1)), (by first | rfl | (simp [IntKind.wrap_u32]; done)), (by first | rfl | (simp [IntKind.wrap_u32]; done)), Aside0.mk AL598.out, ⟨(HS.out).keep (l := [row 43 (Value.int .u32) (.slice A593 ((t590.1).length) n594) t590.1]) (rest := [])⟩⟩
              · have AL598 := if_no c604 AL598
                have c604b0 : decide (0 ≤ x602) = false := decide_eq_false c604
                clear c604
                exact (none_no AL598).elim
            · have AL598 := if_no c603 AL598
              have c603b0 : decide (x602 < (l571.length : Int)) = false := decide_eq_false c603
              clear c603
              have ho := some_eq AL598
              subst ho
              clear AL598
              by_cases c610 : t590.2 = 0
              · have H := if_yes c610 H
                have c610b0 : (t590.2 == 0) = true := beq_iff_eq.mpr c610
                have c610b1 : (t590.2 != 0) = false := bne_eq_false_iff_eq.mpr c610
                clear c610
                go_wp2_with fail
                obtain ⟨t611, HA612, H⟩ := bind_some H
                refine (quitrentref01_Same.calls _ t590.1 l571 A593 n594 A572 n573 t611 _ ⟨row_Ci (HS.out.at0)⟩ ⟨Kd.C_below HR574.out HS.out.fr.below⟩ ⟨HS.out.begin (l := []) (rest := [row 43 (Value.int .u32) (.slice A593 ((t590.1).length) n594) t590.1])⟩ HA612).mono ?_
                rintro e_ w613 ⟨rfl, hS⟩
                have HS_ : Aside0 (Sep (fps []) w [row 43 (Value.int .u32) (.slice A593 ((t590.1).length) n594) t590.1] w613) := ⟨HS.out.call (l := []) (rest := [row 43 (Value.int .u32) (.slice A593 ((t590.1).length) n594) t590.1]) hS⟩
                clear HS hS
                have HS := HS_
                clear HS_
                by_cases c614 : t611 = true
                · have H := if_yes c614 H
                  have c614b0 : t611 = true := c614
                  have c614b1 : (!t611) = false := by rw [c614b0]; rfl
                  try rw [c614b1]
                  clear c614
                  go_wp2_with fail
                  obtain ⟨t615, HA616, H⟩ := bind_some H
                  refine (pack_Ones.calls _ t586.1 t615 _ ⟨HS.out.begin (l := []) (rest := [row 43 (Value.int .u32) (.slice A593 ((t590.1).length) n594) t590.1])⟩ HA616).mono ?_
                  rintro e_ w617 ⟨rfl, hS⟩
                  have HS_ : Aside0 (Sep (fps []) w [row 43 (Value.int .u32) (.slice A593 ((t590.1).length) n594) t590.1] w617) := ⟨HS.out.call (l := []) (rest := [row 43 (Value.int .u32) (.slice A593 ((t590.1).length) n594) t590.1]) hS⟩
                  clear HS hS
                  have HS := HS_
                  clear HS_
                  by_cases c618 : t615 = x601
                  · have H := if_yes c618 H
                    have c618b0 : (t615 == x601) = true := beq_iff_eq.mpr c618
                    have c618b1 : (t615 != x601) = false := bne_eq_false_iff_eq.mpr c618
                    clear c618
                    go_wp2_with fail
                    obtain ⟨t619, HA620, H⟩ := bind_some H
                    refine (pack_Split.calls _ a570 l575 A576 n577 t619 _ ⟨Kd.C_below HR578.out HS.out.fr.below⟩ ⟨HS.out.begin (l := []) (rest := [row 43 (Value.int .u32) (.slice A593 ((t590.1).length) n594) t590.1])⟩ HA620).mono ?_
                    rintro e_ w621 ⟨A622, n623, rfl, hS⟩
                    have HS_ : Aside0 (Sep (fps []) w [row 43 (Value.int .u32) (.slice A622 ((t619.1).length) n623) t619.1, row 43 (Value.int .u32) (.slice A593 ((t590.1).length) n594) t590.1] w621) := ⟨HS.out.call (l := []) (rest := [row 43 (Value.int .u32) (.slice A593 ((t590.1).length) n594) t590.1]) hS⟩
                    clear HS hS
                    have HS := HS_
                    clear HS_
                    by_cases c625 : t619.2 = 0
                    · have H := if_yes c625 H
                      have c625b0 : (t619.2 == 0) = true := beq_iff_eq.mpr c625
                      have c625b1 : (t619.2 != 0) = false := bne_eq_false_iff_eq.mpr c625
                      clear c625
                      go_wp2_with fail
                      obtain ⟨t626, HA627, H⟩ := bind_some H
                      refine (pack_Join.calls _ t619.1 l575 A622 n623 A576 n577 t626 _ ⟨row_Ci (HS.out.at0)⟩ ⟨Kd.C_below HR578.out HS.out.fr.below⟩ ⟨HS.out.begin (l := []) (rest := [row 43 (Value.int .u32) (.slice A622 ((t619.1).length) n623) t619.1, row 43 (Value.int .u32) (.slice A593 ((t590.1).length) n594) t590.1])⟩ HA627).mono ?_
                      rintro e_ w628 ⟨rfl, hS⟩
                      have HS_ : Aside0 (Sep (fps []) w [row 43 (Value.int .u32) (.slice A622 ((t619.1).length) n623) t619.1, row 43 (Value.int .u32) (.slice A593 ((t590.1).length) n594) t590.1] w628) := ⟨HS.out.call (l := []) (rest := [row 43 (Value.int .u32) (.slice A622 ((t619.1).length) n623) t619.1, row 43 (Value.int .u32) (.slice A593 ((t590.1).length) n594) t590.1]) hS⟩
                      clear HS hS
                      have HS := HS_
                      clear HS_
                      by_cases c629 : t626.2 = 0
                      · have H := if_yes c629 H
                        have c629b0 : (t626.2 == 0) = true := beq_iff_eq.mpr c629
                        have c629b1 : (t626.2 != 0) = false := bne_eq_false_iff_eq.mpr c629
                        clear c629
                        by_cases c630 : t626.1 = a570
                        · have H := if_yes c630 H
                          have c630b0 : (t626.1 == a570) = true := beq_iff_eq.mpr c630
                          have c630b1 : (t626.1 != a570) = false := bne_eq_false_iff_eq.mpr c630
                          clear c630
                          go_wp2_with fail
                          obtain ⟨t631, HA632, H⟩ := bind_some H
                          refine (quitrentlaw01_begun.calls _ t631 _ ⟨HS.out.begin (l := []) (rest := [row 43 (Value.int .u32) (.slice A622 ((t619.1).length) n623) t619.1, row 43 (Value.int .u32) (.slice A593 ((t590.1).length) n594) t590.1])⟩ HA632).mono ?_
                          rintro e_ w633 ⟨rfl, hS⟩
                          have HS_ : Aside0 (Sep (fps []) w [row 43 (Value.int .u32) (.slice A622 ((t619.1).length) n623) t619.1, row 43 (Value.int .u32) (.slice A593 ((t590.1).length) n594) t590.1] w633) := ⟨HS.out.call (l := []) (rest := [row 43 (Value.int .u32) (.slice A622 ((t619.1).length) n623) t619.1, row 43 (Value.int .u32) (.slice A593 ((t590.1).length) n594) t590.1]) hS⟩
                          clear HS hS
                          have HS := HS_
                          clear HS_
                          go_wp2_with fail
                          go_ret
                          rw [← some_eq H]
                          exact ⟨(by first | rfl | (simp [IntKind.wrap_u32]; done)), (HS.out).keep (l := []) (rest := [row 43 (Value.int .u32) (.slice A622 ((t619.1).length) n623) t619.1, row 43 (Value.int .u32) (.slice A593 ((t590.1).length) n594) t590.1])⟩
                        · have H := if_no c630 H
                          have c630b0 : (t626.1 == a570) = false := beq_eq_false_iff_ne.mpr c630
                          have c630b1 : (t626.1 != a570) = true := bne_iff_ne.mpr c630
                          clear c630
                          go_wp2_with fail
                          go_ret
                          rw [← some_eq H]
                          exact ⟨(by first | rfl | (simp [IntKind.wrap_u32]; done)), (HS.out).keep (l := []) (rest := [row 43 (Value.int .u32) (.slice A622 ((t619.1).length) n623) t619.1, row 43 (Value.int .u32) (.slice A593 ((t590.1).length) n594) t590.1])⟩
                      · have H := if_no c629 H
                        have c629b0 : (t626.2 == 0) = false := beq_eq_false_iff_ne.mpr c629
                        have c629b1 : (t626.2 != 0) = true := bne_iff_ne.mpr c629
                        clear c629
                        go_wp2_with fail
                        go_ret
                        rw [← some_eq H]
                        exact ⟨(by first | rfl | (simp [IntKind.wrap_u32]; done)), (HS.out).keep (l := []) (rest := [row 43 (Value.int .u32) (.slice A622 ((t619.1).length) n623) t619.1, row 43 (Value.int .u32) (.slice A593 ((t590.1).length) n594) t590.1])⟩
                    · have H := if_no c625 H
                      have c625b0 : (t619.2 == 0) = false := beq_eq_false_iff_ne.mpr c625
                      have c625b1 : (t619.2 != 0) = true := bne_iff_ne.mpr c625
                      clear c625
                      go_wp2_with fail
                      obtain ⟨t634, HA635, H⟩ := bind_some H
                      refine (quitrentlaw01_begun.calls _ t634 _ ⟨HS.out.begin (l := []) (rest := [row 43 (Value.int .u32) (.slice A622 ((t619.1).length) n623) t619.1, row 43 (Value.int .u32) (.slice A593 ((t590.1).length) n594) t590.1])⟩ HA635).mono ?_
                      rintro e_ w636 ⟨rfl, hS⟩
                      have HS_ : Aside0 (Sep (fps []) w [row 43 (Value.int .u32) (.slice A622 ((t619.1).length) n623) t619.1, row 43 (Value.int .u32) (.slice A593 ((t590.1).length) n594) t590.1] w636) := ⟨HS.out.call (l := []) (rest := [row 43 (Value.int .u32) (.slice A622 ((t619.1).length) n623) t619.1, row 43 (Value.int .u32) (.slice A593 ((t590.1).length) n594) t590.1]) hS⟩
                      clear HS hS
                      have HS := HS_
                      clear HS_
                      go_wp2_with fail
                      go_ret
                      rw [← some_eq H]
                      exact ⟨(by first | rfl | (simp [IntKind.wrap_u32]; done)), (HS.out).keep (l := []) (rest := [row 43 (Value.int .u32) (.slice A622 ((t619.1).length) n623) t619.1, row 43 (Value.int .u32) (.slice A593 ((t590.1).length) n594) t590.1])⟩
                  · have H := if_no c618 H
                    have c618b0 : (t615 == x601) = false := beq_eq_false_iff_ne.mpr c618
                    have c618b1 : (t615 != x601) = true := bne_iff_ne.mpr c618
                    clear c618
                    go_wp2_with fail
                    go_ret
                    rw [← some_eq H]
                    exact ⟨(by first | rfl | (simp [IntKind.wrap_u32]; done)), (HS.out).keep (l := []) (rest := [row 43 (Value.int .u32) (.slice A593 ((t590.1).length) n594) t590.1])⟩
                · have H := if_no c614 H
                  have c614b0 : t611 = false := by simpa using c614
                  have c614b1 : (!t611) = true := by rw [c614b0]; rfl
                  try rw [c614b1]
                  clear c614
                  go_wp2_with fail
                  go_ret
                  rw [← some_eq H]
                  exact ⟨(by first | rfl | (simp [IntKind.wrap_u32]; done)), (HS.out).keep (l := []) (rest := [row 43 (Value.int .u32) (.slice A593 ((t590.1).length) n594) t590.1])⟩
              · have H := if_no c610 H
                have c610b0 : (t590.2 == 0) = false := beq_eq_false_iff_ne.mpr c610
                have c610b1 : (t590.2 != 0) = true := bne_iff_ne.mpr c610
                clear c610
                go_wp2_with fail
                go_ret
                rw [← some_eq H]
                exact ⟨(by first | rfl | (simp [IntKind.wrap_u32]; done)), (HS.out).keep (l := []) (rest := [row 43 (Value.int .u32) (.slice A593 ((t590.1).length) n594) t590.1])⟩
      · have H := if_no c589 H
        have c589b0 : (t586.2 == 0) = false := beq_eq_false_iff_ne.mpr c589
        have c589b1 : (t586.2 != 0) = true := bne_iff_ne.mpr c589
        clear c589
        go_wp2_with fail
        obtain ⟨t619, HA659, H⟩ := bind_some H
        refine (pack_Split.calls _ a570 l575 A576 n577 t619 _ ⟨Kd.C_below HR578.out HS.out.fr.below⟩ ⟨HS.out.begin (l := []) (rest := [])⟩ HA659).mono ?_
        rintro e_ w660 ⟨A661, n662, rfl, hS⟩
        have HS_ : Aside0 (Sep (fps []) w [row 43 (Value.int .u32) (.slice A661 ((t619.1).length) n662) t619.1] w660) := ⟨HS.out.call (l := []) (rest := []) hS⟩
        clear HS hS
        have HS := HS_
        clear HS_
        by_cases c664 : t619.2 = 0
        · have H := if_yes c664 H
          have c664b0 : (t619.2 == 0) = true := beq_iff_eq.mpr c664
          have c664b1 : (t619.2 != 0) = false := bne_eq_false_iff_eq.mpr c664
          clear c664
          go_wp2_with fail
          obtain ⟨t626, HA665, H⟩ := bind_some H
          refine (pack_Join.calls _ t619.1 l575 A661 n662 A576 n577 t626 _ ⟨row_Ci (HS.out.at0)⟩ ⟨Kd.C_below HR578.out HS.out.fr.below⟩ ⟨HS.out.begin (l := []) (rest := [row 43 (Value.int .u32) (.slice A661 ((t619.1).length) n662) t619.1])⟩ HA665).mono ?_
          rintro e_ w666 ⟨rfl, hS⟩
          have HS_ : Aside0 (Sep (fps []) w [row 43 (Value.int .u32) (.slice A661 ((t619.1).length) n662) t619.1] w666) := ⟨HS.out.call (l := []) (rest := [row 43 (Value.int .u32) (.slice A661 ((t619.1).length) n662) t619.1]) hS⟩
          clear HS hS
          have HS := HS_
          clear HS_
          by_cases c667 : t626.2 = 0
          · have H := if_yes c667 H
            have c667b0 : (t626.2 == 0) = true := beq_iff_eq.mpr c667
            have c667b1 : (t626.2 != 0) = false := bne_eq_false_iff_eq.mpr c667
            clear c667
            by_cases c668 : t626.1 = a570
            · have H := if_yes c668 H
              have c668b0 : (t626.1 == a570) = true := beq_iff_eq.mpr c668
              have c668b1 : (t626.1 != a570) = false := bne_eq_false_iff_eq.mpr c668
              clear c668
              go_wp2_with fail
              obtain ⟨t631, HA669, H⟩ := bind_some H
              refine (quitrentlaw01_begun.calls _ t631 _ ⟨HS.out.begin (l := []) (rest := [row 43 (Value.int .u32) (.slice A661 ((t619.1).length) n662) t619.1])⟩ HA669).mono ?_
              rintro e_ w670 ⟨rfl, hS⟩
              have HS_ : Aside0 (Sep (fps []) w [row 43 (Value.int .u32) (.slice A661 ((t619.1).length) n662) t619.1] w670) := ⟨HS.out.call (l := []) (rest := [row 43 (Value.int .u32) (.slice A661 ((t619.1).length) n662) t619.1]) hS⟩
              clear HS hS
              have HS := HS_
              clear HS_
              go_wp2_with fail
              go_ret
              rw [← some_eq H]
              exact ⟨(by first | rfl | (simp [IntKind.wrap_u32]; done)), (HS.out).keep (l := []) (rest := [row 43 (Value.int .u32) (.slice A661 ((t619.1).length) n662) t619.1])⟩
            · have H := if_no c668 H
              have c668b0 : (t626.1 == a570) = false := beq_eq_false_iff_ne.mpr c668
              have c668b1 : (t626.1 != a570) = true := bne_iff_ne.mpr c668
              clear c668
              go_wp2_with fail
              go_ret
              rw [← some_eq H]
              exact ⟨(by first | rfl | (simp [IntKind.wrap_u32]; done)), (HS.out).keep (l := []) (rest := [row 43 (Value.int .u32) (.slice A661 ((t619.1).length) n662) t619.1])⟩
          · have H := if_no c667 H
            have c667b0 : (t626.2 == 0) = false := beq_eq_false_iff_ne.mpr c667
            have c667b1 : (t626.2 != 0) = true := bne_iff_ne.mpr c667
            clear c667
            go_wp2_with fail
            go_ret
            rw [← some_eq H]
            exact ⟨(by first | rfl | (simp [IntKind.wrap_u32]; done)), (HS.out).keep (l := []) (rest := [row 43 (Value.int .u32) (.slice A661 ((t619.1).length) n662) t619.1])⟩
        · have H := if_no c664 H
          have c664b0 : (t619.2 == 0) = false := beq_eq_false_iff_ne.mpr c664
          have c664b1 : (t619.2 != 0) = true := bne_iff_ne.mpr c664
          clear c664
          go_wp2_with fail
          obtain ⟨t634, HA671, H⟩ := bind_some H
          refine (quitrentlaw01_begun.calls _ t634 _ ⟨HS.out.begin (l := []) (rest := [row 43 (Value.int .u32) (.slice A661 ((t619.1).length) n662) t619.1])⟩ HA671).mono ?_
          rintro e_ w672 ⟨rfl, hS⟩
          have HS_ : Aside0 (Sep (fps []) w [row 43 (Value.int .u32) (.slice A661 ((t619.1).length) n662) t619.1] w672) := ⟨HS.out.call (l := []) (rest := [row 43 (Value.int .u32) (.slice A661 ((t619.1).length) n662) t619.1]) hS⟩
          clear HS hS
          have HS := HS_
          clear HS_
          go_wp2_with fail
          go_ret
          rw [← some_eq H]
          exact ⟨(by first | rfl | (simp [IntKind.wrap_u32]; done)), (HS.out).keep (l := []) (rest := [row 43 (Value.int .u32) (.slice A661 ((t619.1).length) n662) t619.1])⟩
end Go.Proofs.Ytgkpcboaiaiahaa.C

/- Each function of the group PackK does what its plain function says, and changes nothing that was there; proved by walking its code. No condition. -/
import Derived.Test.YtgkpcboaiaiahaaQw
import Derived.Test.YtgkpcboaiaiahaaMPackK
namespace Go.Proofs.Ytgkpcboaiaiahaa.C
open Go.RowKit Go.Proofs.YtgkpcboaiaiahaaW.PrintWords Go.Proofs.YtgkpcboaiaiahaaW.PrintLast Go.Proofs.YtgkpcboaiaiahaaW.PrintMore Go.Proofs.Ytgkpcboaiaiahaa.Q Go.Proofs.Ytgkpcboaiaiahaa.M
set_option linter.unusedVariables false
set_option linter.unusedSimpArgs false
set_option maxHeartbeats 4000000 in
set_option maxRecDepth 100000 in
theorem pack_isPiece.calls (a18 : Int) (a19 : Int) (r : Bool) (w : World)  (HS : Aside0 (Sep (fps []) w [] w)) (H : Aside0 (pack_isPiece.f a18 a19 = some r)) :
    Calls Try.prog 64 #[.int .i64 a18, .int .i64 a19] w fun e w' => e = .returned (.bool r) ∧ Sep (fps []) w [] w' := by
  unfold pack_isPiece.f at H
  go_enter Try.func64, Try.ntmps64
  by_cases c20 : a18 ≥ 0
  · have H := if_yes c20 H
    have c20b0 : decide (0 ≤ a18) = true := decide_eq_true c20
    clear c20
    by_cases c21 : a19 ≥ 1
    · have H := if_yes c21 H
      have c21b0 : decide (1 ≤ a19) = true := decide_eq_true c21
      clear c21
      by_cases c22 : a19 ≤ 32
      · have H := if_yes c22 H
        have c22b0 : decide (a19 ≤ 32) = true := decide_eq_true c22
        clear c22
        go_wp2_with fail
        go_ret
        rw [← some_eq H]
        exact ⟨(by first | rfl | (simp [IntKind.wrap_u32]; done)), (HS.out).keep (l := []) (rest := [])⟩
      · have H := if_no c22 H
        have c22b0 : decide (a19 ≤ 32) = false := decide_eq_false c22
        clear c22
        go_wp2_with fail
        go_ret
        rw [← some_eq H]
        exact ⟨(by first | rfl | (simp [IntKind.wrap_u32]; done)), (HS.out).keep (l := []) (rest := [])⟩
    · have H := if_no c21 H
      have c21b0 : decide (1 ≤ a19) = false := decide_eq_false c21
      clear c21
      go_wp2_with fail
      go_ret
      rw [← some_eq H]
      exact ⟨(by first | rfl | (simp [IntKind.wrap_u32]; done)), (HS.out).keep (l := []) (rest := [])⟩
  · have H := if_no c20 H
    have c20b0 : decide (0 ≤ a18) = false := decide_eq_false c20
    clear c20
    go_wp2_with fail
    go_ret
    rw [← some_eq H]
    exact ⟨(by first | rfl | (simp [IntKind.wrap_u32]; done)), (HS.out).keep (l := []) (rest := [])⟩

set_option maxHeartbeats 4000000 in
set_option maxRecDepth 100000 in
theorem pack_Fits.calls (a27 : Int) (a28 : Int) (r : Bool) (w : World)  (HS : Aside0 (Sep (fps []) w [] w)) (H : Aside0 (pack_Fits.f a27 a28 = some r)) :
    Calls Try.prog 37 #[.int .u32 a27, .int .i64 a28] w fun e w' => e = .returned (.bool r) ∧ Sep (fps []) w [] w' := by
  unfold pack_Fits.f at H
  go_enter Try.func37, Try.ntmps37
  by_cases c29 : a28 ≥ 32
  · have H := if_yes c29 H
    have c29b0 : decide (32 ≤ a28) = true := decide_eq_true c29
    clear c29
    go_wp2_with fail
    go_ret
    rw [← some_eq H]
    exact ⟨(by first | rfl | (simp [IntKind.wrap_u32]; done)), (HS.out).keep (l := []) (rest := [])⟩
  · have H := if_no c29 H
    have c29b0 : decide (32 ≤ a28) = false := decide_eq_false c29
    clear c29
    by_cases c30 : a28 < 0
    · have H := if_yes c30 H
      have c30b0 : decide (a28 < 0) = true := decide_eq_true c30
      skip
      go_wp2_with fail
      clear c30
      go_ret
      rw [← some_eq H]
      exact ⟨(by first | rfl | (simp [IntKind.wrap_u32]; done)), (HS.out).keep (l := []) (rest := [])⟩
    · have H := if_no c30 H
      have c30b0 : decide (a28 < 0) = false := decide_eq_false c30
      by_cases c31 : 0 ≤ (IntKind.u64.wrap (a28))
      · have H := if_yes c31 H
        have c31b0 : decide (0 ≤ (IntKind.u64.wrap (a28))) = true := decide_eq_true c31
        skip
        skip
        go_wp2_with fail
        clear c30 c31
        go_ret
        rw [← some_eq H]
        exact ⟨(by first | rfl | (simp [IntKind.wrap_u32]; done)), (HS.out).keep (l := []) (rest := [])⟩
      · have H := if_no c31 H
        have c31b0 : decide (0 ≤ (IntKind.u64.wrap (a28))) = false := decide_eq_false c31
        exact (none_no H).elim

set_option maxHeartbeats 4000000 in
set_option maxRecDepth 100000 in
theorem pack_mask.calls (a36 : Int) (a37 : Int) (r : Int) (w : World)  (HS : Aside0 (Sep (fps []) w [] w)) (H : Aside0 (pack_mask.f a36 a37 = some r)) :
    Calls Try.prog 65 #[.int .i64 a36, .int .i64 a37] w fun e w' => e = .returned (.int .u32 r) ∧ Sep (fps []) w [] w' := by
  unfold pack_mask.f at H
  go_enter Try.func65, Try.ntmps65
  by_cases c38 : 0 ≤ (IntKind.u64.wrap (a37))
  · have H := if_yes c38 H
    have c38b0 : decide (0 ≤ (IntKind.u64.wrap (a37))) = true := decide_eq_true c38
    by_cases c39 : 0 ≤ (IntKind.u64.wrap (a36))
    · have H := if_yes c39 H
      have c39b0 : decide (0 ≤ (IntKind.u64.wrap (a36))) = true := decide_eq_true c39
      skip
      skip
      go_wp2_with fail
      clear c38 c39
      go_ret
      rw [← some_eq H]
      exact ⟨(by first | rfl | (simp [IntKind.wrap_u32]; done)), (HS.out).keep (l := []) (rest := [])⟩
    · have H := if_no c39 H
      have c39b0 : decide (0 ≤ (IntKind.u64.wrap (a36))) = false := decide_eq_false c39
      exact (none_no H).elim
  · have H := if_no c38 H
    have c38b0 : decide (0 ≤ (IntKind.u64.wrap (a37))) = false := decide_eq_false c38
    exact (none_no H).elim

set_option maxHeartbeats 4000000 in
set_option maxRecDepth 100000 in
theorem pack_Put.calls (a14 : Int) (a15 : Int) (a16 : Int) (a17 : Int) (r : Int × Int) (w : World)  (HS : Aside0 (Sep (fps []) w [] w)) (H : Aside0 (pack_Put.f a14 a15 a16 a17 = some r)) :
    Calls Try.prog 41 #[.int .u32 a14, .int .i64 a15, .int .i64 a16, .int .u32 a17] w fun e w' => e = .returned (.tuple #[.int .u32 r.1, .int .i64 r.2]) ∧ Sep (fps []) w [] w' := by
  unfold pack_Put.f at H
  go_enter Try.func41, Try.ntmps41
  go_wp2_with fail
  obtain ⟨t23, HA24, H⟩ := bind_some H
  refine (pack_isPiece.calls a15 a16 t23 _ ⟨HS.out.begin (l := []) (rest := [])⟩ HA24).mono ?_
  rintro e_ w25 ⟨rfl, hS⟩
  have HS_ : Aside0 (Sep (fps []) w [] w25) := ⟨HS.out.call (l := []) (rest := []) hS⟩
  clear HS hS
  have HS := HS_
  clear HS_
  by_cases c26 : t23 = true
  · have H := if_yes c26 H
    have c26b0 : t23 = true := c26
    have c26b1 : (!t23) = false := by rw [c26b0]; rfl
    try rw [c26b1]
    clear c26
    go_wp2_with fail
    obtain ⟨t32, HA33, H⟩ := bind_some H
    refine (pack_Fits.calls a17 a16 t32 _ ⟨HS.out.begin (l := []) (rest := [])⟩ HA33).mono ?_
    rintro e_ w34 ⟨rfl, hS⟩
    have HS_ : Aside0 (Sep (fps []) w [] w34) := ⟨HS.out.call (l := []) (rest := []) hS⟩
    clear HS hS
    have HS := HS_
    clear HS_
    by_cases c35 : t32 = true
    · have H := if_yes c35 H
      have c35b0 : t32 = true := c35
      have c35b1 : (!t32) = false := by rw [c35b0]; rfl
      try rw [c35b1]
      clear c35
      go_wp2_with fail
      obtain ⟨t40, HA41, H⟩ := bind_some H
      refine (pack_mask.calls a15 a16 t40 _ ⟨HS.out.begin (l := []) (rest := [])⟩ HA41).mono ?_
      rintro e_ w42 ⟨rfl, hS⟩
      have HS_ : Aside0 (Sep (fps []) w [] w42) := ⟨HS.out.call (l := []) (rest := []) hS⟩
      clear HS hS
      have HS := HS_
      clear HS_
      by_cases c43 : 0 ≤ (IntKind.u64.wrap (a15))
      · have H := if_yes c43 H
        have c43b0 : decide (0 ≤ (IntKind.u64.wrap (a15))) = true := decide_eq_true c43
        skip
        go_wp2_with fail
        clear c43
        go_ret2
        rw [← some_eq H]
        exact ⟨(by first | rfl | (simp [IntKind.wrap_u32]; done)), (HS.out).keep (l := []) (rest := [])⟩
      · have H := if_no c43 H
        have c43b0 : decide (0 ≤ (IntKind.u64.wrap (a15))) = false := decide_eq_false c43
        exact (none_no H).elim
    · have H := if_no c35 H
      have c35b0 : t32 = false := by simpa using c35
      have c35b1 : (!t32) = true := by rw [c35b0]; rfl
      try rw [c35b1]
      clear c35
      go_wp2_with fail
      go_ret2
      rw [← some_eq H]
      exact ⟨(by first | rfl | (simp [IntKind.wrap_u32]; done)), (HS.out).keep (l := []) (rest := [])⟩
  · have H := if_no c26 H
    have c26b0 : t23 = false := by simpa using c26
    have c26b1 : (!t23) = true := by rw [c26b0]; rfl
    try rw [c26b1]
    clear c26
    go_wp2_with fail
    go_ret2
    rw [← some_eq H]
    exact ⟨(by first | rfl | (simp [IntKind.wrap_u32]; done)), (HS.out).keep (l := []) (rest := [])⟩

set_option maxHeartbeats 4000000 in
set_option maxRecDepth 100000 in
theorem pack_total.calls (k : Nat) (l55 : List Int) (A56 : Option Addr) (n57 : Nat) (r : Int) (w : World) (HR58 : Aside0 (Kd.C (Kd.int .i64) w A56 l55.length l55)) (HS : Aside0 (Sep (fps []) w [] w)) (H : Aside0 (pack_total.f k l55 = some r)) :
    Calls Try.prog 70 #[.slice A56 l55.length n57] w fun e w' => e = .returned (.int .i64 r) ∧ Sep (fps []) w [] w' := by
  unfold pack_total.f at H
  go_enter Try.func70, Try.ntmps70
  go_wp2_with fail
  obtain ⟨o71, AL72, H⟩ := bind_some H
  go_loopg [3, 8] k (fun kq v3 v8 wc => ∃ (x75 : Int) (x76 : Int), v3 = .int .i64 x75 ∧ v8 = .int .i64 x76 ∧ Aside0 (pack_total.lo0 kq l55 x75 x76 = some o71) ∧ Aside0 (Sep (fps []) w [] wc))
  case atStart => exact ⟨(0), (0), (by first | rfl | (simp [IntKind.wrap_u32]; done)), (by first | rfl | (simp [IntKind.wrap_u32]; done)), AL72, ⟨HS.out⟩⟩
  case round =>
    clear AL72 HS
    obtain ⟨x75, x76, rfl, rfl, AL72, HS⟩ := hrel
    obtain ⟨w73, rfl⟩ : ∃ x : World, x = wr := ⟨_, rfl⟩
    cases gk with
    | zero => exact absurd AL72.out (by simp [pack_total.lo0])
    | succ k74 =>
      have AL0 := AL72.out
      rw [pack_total.lo0] at AL0
      clear AL72
      have AL72 := Aside0.mk AL0
      clear AL0
      by_cases c77 : x76 < (l55.length : Int)
      · have AL72 := if_yes c77 AL72
        have c77b0 : decide (x76 < (l55.length : Int)) = true := decide_eq_true c77
        clear c77
        by_cases c78 : 0 ≤ x76
        · have AL72 := if_yes c78 AL72
          have c78b0 : decide (0 ≤ x76) = true := decide_eq_true c78
          have c78p : (0 ≤ x76) = True := eq_true c78
          clear c78
          have ip79 : (x76 < (l55.length : Int)) = True := eq_true (of_decide_eq_true c77b0)
          by_cases c81 : (rd l55 x76) < 1
          · have AL72 := if_yes c81 AL72
            have c81b0 : decide ((rd l55 x76) < 1) = true := decide_eq_true c81
            clear c81
            obtain ⟨hx80a, hx80e, hx80⟩ := Kd.at_int (Kd.C_below HR58.out HS.out.fr.below) x76 (of_decide_eq_true c78b0) (of_decide_eq_true c77b0); cases hx80e
            go_wp2_with fail
            clear hx80
            have ho := some_eq AL72
            subst ho
            have H := lp_ret H
            go_ret
            rw [← some_eq H]
            exact ⟨(by first | rfl | (simp [IntKind.wrap_u32]; done)), (HS.out).keep (l := []) (rest := [])⟩
          · have AL72 := if_no c81 AL72
            have c81b0 : decide ((rd l55 x76) < 1) = false := decide_eq_false c81
            clear c81
            by_cases c82 : (rd l55 x76) > (wrap64 (32 - x75))
            · have AL72 := if_yes c82 AL72
              have c82b0 : decide ((wrap64 (32 - x75)) < (rd l55 x76)) = true := decide_eq_true c82
              clear c82
              obtain ⟨hx80a, hx80e, hx80⟩ := Kd.at_int (Kd.C_below HR58.out HS.out.fr.below) x76 (of_decide_eq_true c78b0) (of_decide_eq_true c77b0); cases hx80e
              go_wp2_with fail
              clear hx80
              have ho := some_eq AL72
              subst ho
              have H := lp_ret H
              go_ret
              rw [← some_eq H]
              exact ⟨(by first | rfl | (simp [IntKind.wrap_u32]; done)), (HS.out).keep (l := []) (rest := [])⟩
            · have AL72 := if_no c82 AL72
              have c82b0 : decide ((wrap64 (32 - x75)) < (rd l55 x76)) = false := decide_eq_false c82
              clear c82
              obtain ⟨hx80a, hx80e, hx80⟩ := Kd.at_int (Kd.C_below HR58.out HS.out.fr.below) x76 (of_decide_eq_true c78b0) (of_decide_eq_true c77b0); cases hx80e
              go_wp2_with fail
              clear hx80
              go_roundg k74
              case measure => exact Nat.lt_succ_self _
              case rel => exact ⟨(wrap64 (x75 + (rd l55 x76))), (wrap64 (x76 + 1)), (by first | rfl | (simp [IntKind.wrap_u32]; done)), (by first | rfl | (simp [IntKind.wrap_u32]; done)), Aside0.mk AL72.out, ⟨(HS.out).keep (l := []) (rest := [])⟩⟩
        · have AL72 := if_no c78 AL72
          have c78b0 : decide (0 ≤ x76) = false := decide_eq_false c78
          clear c78
          exact (none_no AL72).elim
      · have AL72 := if_no c77 AL72
        have c77b0 : decide (x76 < (l55.length : Int)) = false := decide_eq_false c77
        clear c77
        have ho := some_eq AL72
        subst ho
        clear AL72
        have H := lp_out H
        go_wp2_with fail
        go_ret
        rw [← some_eq H]
        exact ⟨(by first | rfl | (simp [IntKind.wrap_u32]; done)), (HS.out).keep (l := []) (rest := [])⟩

set_option maxHeartbeats 4000000 in
set_option maxRecDepth 100000 in
theorem pack_Get.calls (a108 : Int) (a109 : Int) (a110 : Int) (r : Int) (w : World)  (HS : Aside0 (Sep (fps []) w [] w)) (H : Aside0 (pack_Get.f a108 a109 a110 = some r)) :
    Calls Try.prog 35 #[.int .u32 a108, .int .i64 a109, .int .i64 a110] w fun e w' => e = .returned (.int .u32 r) ∧ Sep (fps []) w [] w' := by
  unfold pack_Get.f at H
  go_enter Try.func35, Try.ntmps35
  go_wp2_with fail
  obtain ⟨t111, HA112, H⟩ := bind_some H
  refine (pack_isPiece.calls a109 a110 t111 _ ⟨HS.out.begin (l := []) (rest := [])⟩ HA112).mono ?_
  rintro e_ w113 ⟨rfl, hS⟩
  have HS_ : Aside0 (Sep (fps []) w [] w113) := ⟨HS.out.call (l := []) (rest := []) hS⟩
  clear HS hS
  have HS := HS_
  clear HS_
  by_cases c114 : t111 = true
  · have H := if_yes c114 H
    have c114b0 : t111 = true := c114
    have c114b1 : (!t111) = false := by rw [c114b0]; rfl
    try rw [c114b1]
    clear c114
    go_wp2_with fail
    obtain ⟨t115, HA116, H⟩ := bind_some H
    refine (pack_mask.calls a109 a110 t115 _ ⟨HS.out.begin (l := []) (rest := [])⟩ HA116).mono ?_
    rintro e_ w117 ⟨rfl, hS⟩
    have HS_ : Aside0 (Sep (fps []) w [] w117) := ⟨HS.out.call (l := []) (rest := []) hS⟩
    clear HS hS
    have HS := HS_
    clear HS_
    by_cases c118 : 0 ≤ (IntKind.u64.wrap (a109))
    · have H := if_yes c118 H
      have c118b0 : decide (0 ≤ (IntKind.u64.wrap (a109))) = true := decide_eq_true c118
      skip
      go_wp2_with fail
      clear c118
      go_ret
      rw [← some_eq H]
      exact ⟨(by first | rfl | (simp [IntKind.wrap_u32]; done)), (HS.out).keep (l := []) (rest := [])⟩
    · have H := if_no c118 H
      have c118b0 : decide (0 ≤ (IntKind.u64.wrap (a109))) = false := decide_eq_false c118
      exact (none_no H).elim
  · have H := if_no c114 H
    have c114b0 : t111 = false := by simpa using c114
    have c114b1 : (!t111) = true := by rw [c114b0]; rfl
    try rw [c114b1]
    clear c114
    go_wp2_with fail
    go_ret
    rw [← some_eq H]
    exact ⟨(by first | rfl | (simp [IntKind.wrap_u32]; done)), (HS.out).keep (l := []) (rest := [])⟩

set_option maxHeartbeats 4000000 in
set_option maxRecDepth 100000 in
theorem pack_Split.calls (k : Nat) (a50 : Int) (l51 : List Int) (A52 : Option Addr) (n53 : Nat) (r : List Int × Int) (w : World) (HR54 : Aside0 (Kd.C (Kd.int .i64) w A52 l51.length l51)) (HS : Aside0 (Sep (fps []) w [] w)) (H : Aside0 (pack_Split.f k a50 l51 = some r)) :
    Calls Try.prog 46 #[.int .u32 a50, .slice A52 l51.length n53] w fun e w' => ∃ (A135 : Option Addr) (n136 : Nat), e = .returned (.tuple #[.slice A135 ((r.1).length) n136, .int .i64 r.2]) ∧ Sep (fps []) w [row 43 (Value.int .u32) (.slice A135 ((r.1).length) n136) r.1] w' := by
  unfold pack_Split.f at H
  go_enter Try.func46, Try.ntmps46
  go_wp2_with fail
  obtain ⟨t84, HA85, H⟩ := bind_some H
  refine (pack_total.calls _ l51 A52 n53 t84 _ ⟨HR54.out⟩ ⟨HS.out.begin (l := []) (rest := [])⟩ HA85).mono ?_
  rintro e_ w86 ⟨rfl, hS⟩
  have HS_ : Aside0 (Sep (fps []) w [] w86) := ⟨HS.out.call (l := []) (rest := []) hS⟩
  clear HS hS
  have HS := HS_
  clear HS_
  by_cases c87 : t84 < 0
  · have H := if_yes c87 H
    have c87b0 : decide (t84 < 0) = true := decide_eq_true c87
    clear c87
    go_wp2_with fail
    have HS_ : Aside0 (Sep (fps []) w [row 43 (Value.int .u32) (.slice none 0 0) ([] : List Int)] w86) := ⟨HS.out.nilrow 43 (Value.int .u32)⟩
    clear HS
    have HS := HS_
    clear HS_
    go_ret2
    rw [← some_eq H]
    exact ⟨_, _, (by first | rfl | (simp [IntKind.wrap_u32]; done)), (HS.out).keep (l := [row 43 (Value.int .u32) (.slice none 0 0) ([] : List Int)]) (rest := [])⟩
  · have H := if_no c87 H
    have c87b0 : decide (t84 < 0) = false := decide_eq_false c87
    clear c87
    go_wp2_with fail
    obtain ⟨t89, HA90, H⟩ := bind_some H
    refine (pack_Fits.calls a50 t84 t89 _ ⟨HS.out.begin (l := []) (rest := [])⟩ HA90).mono ?_
    rintro e_ w91 ⟨rfl, hS⟩
    have HS_ : Aside0 (Sep (fps []) w [] w91) := ⟨HS.out.call (l := []) (rest := []) hS⟩
    clear HS hS
    have HS := HS_
    clear HS_
    by_cases c92 : t89 = true
    · have H := if_yes c92 H
      have c92b0 : t89 = true := c92
      have c92b1 : (!t89) = false := by rw [c92b0]; rfl
      try rw [c92b1]
      clear c92
      go_wp2_with fail
      have HS_ : Aside0 (Sep (fps []) w [row 43 (Value.int .u32) (.slice none 0 0) ([] : List Int)] w91) := ⟨HS.out.nilrow 43 (Value.int .u32)⟩
      clear HS
      have HS := HS_
      clear HS_
      obtain ⟨o94, AL95, H⟩ := bind_some H
      go_loopg [7, 8, 21] k (fun kq v7 v8 v21 wc => ∃ (x99 : List Int) (x102 : Int) (x103 : Int) (A100 : Option Addr) (n101 : Nat), v7 = .slice A100 x99.length n101 ∧ v8 = .int .i64 x102 ∧ v21 = .int .i64 x103 ∧ Aside0 (pack_Split.lo0 kq a50 l51 x99 x102 x103 = some o94) ∧ Aside0 (Sep (fps []) w [row 43 (Value.int .u32) (.slice A100 x99.length n101) x99] wc))
      case atStart => exact ⟨(([] : List Int)), (0), (0), (none), (0), (by first | rfl | (simp [IntKind.wrap_u32]; done)), (by first | rfl | (simp [IntKind.wrap_u32]; done)), (by first | rfl | (simp [IntKind.wrap_u32]; done)), AL95, ⟨HS.out⟩⟩
      case round =>
        clear AL95 HS
        obtain ⟨x99, x102, x103, A100, n101, rfl, rfl, rfl, AL95, HS⟩ := hrel
        obtain ⟨w96, rfl⟩ : ∃ x : World, x = wr := ⟨_, rfl⟩
        cases gk with
        | zero => exact absurd AL95.out (by simp [pack_Split.lo0])
        | succ k97 =>
          have AL0 := AL95.out
          rw [pack_Split.lo0] at AL0
          clear AL95
          have AL95 := Aside0.mk AL0
          clear AL0
          by_cases c104 : x103 < (l51.length : Int)
          · have AL95 := if_yes c104 AL95
            have c104b0 : decide (x103 < (l51.length : Int)) = true := decide_eq_true c104
            clear c104
            by_cases c105 : 0 ≤ x103
            · have AL95 := if_yes c105 AL95
              have c105b0 : decide (0 ≤ x103) = true := decide_eq_true c105
              have c105p : (0 ≤ x103) = True := eq_true c105
              clear c105
              have ip106 : (x103 < (l51.length : Int)) = True := eq_true (of_decide_eq_true c104b0)
              obtain ⟨hx107a, hx107e, hx107⟩ := Kd.at_int (Kd.C_below HR54.out HS.out.fr.below) x103 (of_decide_eq_true c105b0) (of_decide_eq_true c104b0); cases hx107e
              go_wp2_with fail
              clear hx107
              obtain ⟨t119, HA120, AL95⟩ := bind_some AL95
              refine (pack_Get.calls a50 x102 (rd l51 x103) t119 _ ⟨HS.out.begin (l := []) (rest := [row 43 (Value.int .u32) (.slice A100 x99.length n101) x99])⟩ HA120).mono ?_
              rintro e_ w121 ⟨rfl, hS⟩
              have HS_ : Aside0 (Sep (fps []) w [row 43 (Value.int .u32) (.slice A100 x99.length n101) x99] w121) := ⟨HS.out.call (l := []) (rest := [row 43 (Value.int .u32) (.slice A100 x99.length n101) x99]) hS⟩
              clear HS hS
              have HS := HS_
              clear HS_
              by_cases c125 : x99.length < 35184372088832
              · have AL95 := if_yes c125 AL95
                have c125b0 : decide (x99.length < 35184372088832) = true := decide_eq_true c125
                clear c125
                obtain ⟨y129, HA130, AL95⟩ := bind_some AL95
                go_wp2_with (first | ((with_reducible refine gate_dst (N := 30) rfl ?_); refine slice_on (n := 1) ?hg (N := 30) ?hd (cs := #[.int .u32 t119]) (t := 43) ?hr ?_; (case hd => rfl); (case hg => rfl); (case hr => first | (go_simp; done) | (go_simp; rfl)); intro g122 hg w123 hbox hb; have HS_ : Aside0 (Sep (fps []) w [row 43 (Value.int .u32) (.slice A100 x99.length n101) x99, blk g122 #[.int .u32 t119] 43] w123) := ⟨HS.out.box hg hbox hb⟩; clear HS hg hbox hb; have HS := HS_; clear HS_) | ((with_reducible refine gate_dst (N := 31) rfl ?_); refine append_event (l1 := []) (l2 := [blk g122 #[.int .u32 t119] 43]) rfl (.tmp 25) (.tmp 30) 56 43 (.int .u32 0) 4 rfl Try.underlying56 (by kernel_rfl) rfl (by decide) (Value.int .u32) (fun _ => rfl) (.slice A100 x99.length n101) (x99 : List Int) [t119] ⟨g122, 0, none⟩ 1 rfl rfl (blk_news (xs := [t119]) (HS.out.at1)) HS.out (by have := of_decide_eq_true c125b0; simp only [List.length_cons, List.length_nil]; omega) HA130 ?_; intro A126 n127 w128 HS1; have HS_ : Aside0 (Sep (fps []) w [row 43 (Value.int .u32) (.slice A126 y129.length n127) y129, blk g122 #[.int .u32 t119] 43] w128) := ⟨HS1⟩; clear HS HS1; have HS := HS_; clear HS_))
                go_roundg k97
                case measure => exact Nat.lt_succ_self _
                case rel => exact ⟨(y129), (wrap64 (x102 + (rd l51 x103))), (wrap64 (x103 + 1)), (A126), (n127), (by first | rfl | (simp [IntKind.wrap_u32]; done)), (by first | rfl | (simp [IntKind.wrap_u32]; done)), (by first | rfl | (simp [IntKind.wrap_u32]; done)), Aside0.mk AL95.out, ⟨(HS.out).keep (l := [row 43 (Value.int .u32) (.slice A126 y129.length n127) y129]) (rest := [blk g122 #[.int .u32 t119] 43])⟩⟩
              · have AL95 := if_no c125 AL95
                have c125b0 : decide (x99.length < 35184372088832) = false := decide_eq_false c125
                clear c125
                exact (none_no AL95).elim
            · have AL95 := if_no c105 AL95
              have c105b0 : decide (0 ≤ x103) = false := decide_eq_false c105
              clear c105
              exact (none_no AL95).elim
          · have AL95 := if_no c104 AL95
            have c104b0 : decide (x103 < (l51.length : Int)) = false := decide_eq_false c104
            clear c104
            have ho := some_eq AL95
            subst ho
            clear AL95
            go_wp2_with fail
            go_ret2
            rw [← some_eq H]
            exact ⟨_, _, (by first | rfl | (simp [IntKind.wrap_u32]; done)), (HS.out).keep (l := [row 43 (Value.int .u32) (.slice A100 x99.length n101) x99]) (rest := [])⟩
    · have H := if_no c92 H
      have c92b0 : t89 = false := by simpa using c92
      have c92b1 : (!t89) = true := by rw [c92b0]; rfl
      try rw [c92b1]
      clear c92
      go_wp2_with fail
      have HS_ : Aside0 (Sep (fps []) w [row 43 (Value.int .u32) (.slice none 0 0) ([] : List Int)] w91) := ⟨HS.out.nilrow 43 (Value.int .u32)⟩
      clear HS
      have HS := HS_
      clear HS_
      go_ret2
      rw [← some_eq H]
      exact ⟨_, _, (by first | rfl | (simp [IntKind.wrap_u32]; done)), (HS.out).keep (l := [row 43 (Value.int .u32) (.slice none 0 0) ([] : List Int)]) (rest := [])⟩

set_option maxHeartbeats 4000000 in
set_option maxRecDepth 100000 in
theorem pack_Join.calls (k : Nat) (l149 : List Int) (l153 : List Int) (A150 : Option Addr) (n151 : Nat) (A154 : Option Addr) (n155 : Nat) (r : Int × Int) (w : World) (HR152 : Aside0 (Kd.C (Kd.int .u32) w A150 l149.length l149)) (HR156 : Aside0 (Kd.C (Kd.int .i64) w A154 l153.length l153)) (HS : Aside0 (Sep (fps []) w [] w)) (H : Aside0 (pack_Join.f k l149 l153 = some r)) :
    Calls Try.prog 48 #[.slice A150 l149.length n151, .slice A154 l153.length n155] w fun e w' => e = .returned (.tuple #[.int .u32 r.1, .int .i64 r.2]) ∧ Sep (fps []) w [] w' := by
  unfold pack_Join.f at H
  go_enter Try.func48, Try.ntmps48
  go_wp2_with fail
  obtain ⟨t157, HA158, H⟩ := bind_some H
  refine (pack_total.calls _ l153 A154 n155 t157 _ ⟨HR156.out⟩ ⟨HS.out.begin (l := []) (rest := [])⟩ HA158).mono ?_
  rintro e_ w159 ⟨rfl, hS⟩
  have HS_ : Aside0 (Sep (fps []) w [] w159) := ⟨HS.out.call (l := []) (rest := []) hS⟩
  clear HS hS
  have HS := HS_
  clear HS_
  by_cases c160 : t157 < 0
  · have H := if_yes c160 H
    have c160b0 : decide (t157 < 0) = true := decide_eq_true c160
    clear c160
    go_wp2_with fail
    go_ret2
    rw [← some_eq H]
    exact ⟨(by first | rfl | (simp [IntKind.wrap_u32]; done)), (HS.out).keep (l := []) (rest := [])⟩
  · have H := if_no c160 H
    have c160b0 : decide (t157 < 0) = false := decide_eq_false c160
    clear c160
    by_cases c161 : (l149.length : Int) = (l153.length : Int)
    · have H := if_yes c161 H
      have c161b0 : ((l149.length : Int) == (l153.length : Int)) = true := beq_iff_eq.mpr c161
      have c161b1 : ((l149.length : Int) != (l153.length : Int)) = false := bne_eq_false_iff_eq.mpr c161
      clear c161
      go_wp2_with fail
      obtain ⟨o180, AL181, H⟩ := bind_some H
      go_loopg [6, 7, 24] k (fun kq v6 v7 v24 wc => ∃ (x184 : Int) (x185 : Int) (x186 : Int), v6 = .int .u32 x184 ∧ v7 = .int .i64 x185 ∧ v24 = .int .i64 x186 ∧ Aside0 (pack_Join.lo0 kq l149 l153 x184 x185 x186 = some o180) ∧ Aside0 (Sep (fps []) w [] wc))
      case atStart => exact ⟨(0), (0), (0), (by first | rfl | (simp [IntKind.wrap_u32]; done)), (by first | rfl | (simp [IntKind.wrap_u32]; done)), (by first | rfl | (simp [IntKind.wrap_u32]; done)), AL181, ⟨HS.out⟩⟩
      case round =>
        clear AL181 HS
        obtain ⟨x184, x185, x186, rfl, rfl, rfl, AL181, HS⟩ := hrel
        obtain ⟨w182, rfl⟩ : ∃ x : World, x = wr := ⟨_, rfl⟩
        cases gk with
        | zero => exact absurd AL181.out (by simp [pack_Join.lo0])
        | succ k183 =>
          have AL0 := AL181.out
          rw [pack_Join.lo0] at AL0
          clear AL181
          have AL181 := Aside0.mk AL0
          clear AL0
          by_cases c187 : x186 < (l153.length : Int)
          · have AL181 := if_yes c187 AL181
            have c187b0 : decide (x186 < (l153.length : Int)) = true := decide_eq_true c187
            clear c187
            by_cases c188 : 0 ≤ x186
            · have AL181 := if_yes c188 AL181
              have c188b0 : decide (0 ≤ x186) = true := decide_eq_true c188
              have c188p : (0 ≤ x186) = True := eq_true c188
              clear c188
              have ip189 : (x186 < (l153.length : Int)) = True := eq_true (of_decide_eq_true c187b0)
              by_cases c191 : x186 < (l149.length : Int)
              · have AL181 := if_yes c191 AL181
                have c191b0 : decide (x186 < (l149.length : Int)) = true := decide_eq_true c191
                have c191p : (x186 < (l149.length : Int)) = True := eq_true c191
                clear c191
                obtain ⟨hx190a, hx190e, hx190⟩ := Kd.at_int (Kd.C_below HR156.out HS.out.fr.below) x186 (of_decide_eq_true c188b0) (of_decide_eq_true c187b0); cases hx190e
                obtain ⟨hx192a, hx192e, hx192⟩ := Kd.at_int (Kd.C_below HR152.out HS.out.fr.below) x186 (of_decide_eq_true c188b0) (of_decide_eq_true c191b0); cases hx192e
                go_wp2_with fail
                clear hx190 hx192
                obtain ⟨t176, HA193, AL181⟩ := bind_some AL181
                refine (pack_Put.calls x184 x185 (rd l153 x186) (rd l149 x186) t176 _ ⟨HS.out.begin (l := []) (rest := [])⟩ HA193).mono ?_
                rintro e_ w194 ⟨rfl, hS⟩
                have HS_ : Aside0 (Sep (fps []) w [] w194) := ⟨HS.out.call (l := []) (rest := []) hS⟩
                clear HS hS
                have HS := HS_
                clear HS_
                by_cases c195 : t176.2 = 0
                · have AL181 := if_yes c195 AL181
                  have c195b0 : (t176.2 == 0) = true := beq_iff_eq.mpr c195
                  have c195b1 : (t176.2 != 0) = false := bne_eq_false_iff_eq.mpr c195
                  clear c195
                  go_wp2_with fail
                  go_roundg k183
                  case measure => exact Nat.lt_succ_self _
                  case rel => exact ⟨(t176.1), (wrap64 (x185 + (rd l153 x186))), (wrap64 (x186 + 1)), (by first | rfl | (simp [IntKind.wrap_u32]; done)), (by first | rfl | (simp [IntKind.wrap_u32]; done)), (by first | rfl | (simp [IntKind.wrap_u32]; done)), Aside0.mk AL181.out, ⟨(HS.out).keep (l := []) (rest := [])⟩⟩
                · have AL181 := if_no c195 AL181
                  have c195b0 : (t176.2 == 0) = false := beq_eq_false_iff_ne.mpr c195
                  have c195b1 : (t176.2 != 0) = true := bne_iff_ne.mpr c195
                  clear c195
                  go_wp2_with fail
                  have ho := some_eq AL181
                  subst ho
                  have H := lp_ret H
                  go_ret2
                  rw [← some_eq H]
                  exact ⟨(by first | rfl | (simp [IntKind.wrap_u32]; done)), (HS.out).keep (l := []) (rest := [])⟩
              · have AL181 := if_no c191 AL181
                have c191b0 : decide (x186 < (l149.length : Int)) = false := decide_eq_false c191
                clear c191
                exact (none_no AL181).elim
            · have AL181 := if_no c188 AL181
              have c188b0 : decide (0 ≤ x186) = false := decide_eq_false c188
              clear c188
              exact (none_no AL181).elim
          · have AL181 := if_no c187 AL181
            have c187b0 : decide (x186 < (l153.length : Int)) = false := decide_eq_false c187
            clear c187
            have ho := some_eq AL181
            subst ho
            clear AL181
            have H := lp_out H
            go_wp2_with fail
            go_ret2
            rw [← some_eq H]
            exact ⟨(by first | rfl | (simp [IntKind.wrap_u32]; done)), (HS.out).keep (l := []) (rest := [])⟩
    · have H := if_no c161 H
      have c161b0 : ((l149.length : Int) == (l153.length : Int)) = false := beq_eq_false_iff_ne.mpr c161
      have c161b1 : ((l149.length : Int) != (l153.length : Int)) = true := bne_iff_ne.mpr c161
      clear c161
      go_wp2_with fail
      go_ret2
      rw [← some_eq H]
      exact ⟨(by first | rfl | (simp [IntKind.wrap_u32]; done)), (HS.out).keep (l := []) (rest := [])⟩

set_option maxHeartbeats 4000000 in
set_option maxRecDepth 100000 in
theorem pack_Ones.calls (k : Nat) (a206 : Int) (r : Int) (w : World)  (HS : Aside0 (Sep (fps []) w [] w)) (H : Aside0 (pack_Ones.f k a206 = some r)) :
    Calls Try.prog 39 #[.int .u32 a206] w fun e w' => e = .returned (.int .i64 r) ∧ Sep (fps []) w [] w' := by
  unfold pack_Ones.f at H
  go_enter Try.func39, Try.ntmps39
  go_wp2_with fail
  obtain ⟨o208, AL209, H⟩ := bind_some H
  go_loopg [0, 3] k (fun kq v0 v3 wc => ∃ (x212 : Int) (x213 : Int), v0 = .int .u32 x212 ∧ v3 = .int .i64 x213 ∧ Aside0 (pack_Ones.lo0 kq x212 x213 = some o208) ∧ Aside0 (Sep (fps []) w [] wc))
  case atStart => exact ⟨(a206), (0), (by first | rfl | (simp [IntKind.wrap_u32]; done)), (by first | rfl | (simp [IntKind.wrap_u32]; done)), AL209, ⟨HS.out⟩⟩
  case round =>
    clear AL209 HS
    obtain ⟨x212, x213, rfl, rfl, AL209, HS⟩ := hrel
    obtain ⟨w210, rfl⟩ : ∃ x : World, x = wr := ⟨_, rfl⟩
    cases gk with
    | zero => exact absurd AL209.out (by simp [pack_Ones.lo0])
    | succ k211 =>
      have AL0 := AL209.out
      rw [pack_Ones.lo0] at AL0
      clear AL209
      have AL209 := Aside0.mk AL0
      clear AL0
      by_cases c214 : x212 = 0
      · have AL209 := if_yes c214 AL209
        have c214b0 : (x212 == 0) = true := beq_iff_eq.mpr c214
        have c214b1 : (x212 != 0) = false := bne_eq_false_iff_eq.mpr c214
        clear c214
        have ho := some_eq AL209
        subst ho
        clear AL209
        go_wp2_with fail
        go_ret
        rw [← some_eq H]
        exact ⟨(by first | rfl | (simp [IntKind.wrap_u32]; done)), (HS.out).keep (l := []) (rest := [])⟩
      · have AL209 := if_no c214 AL209
        have c214b0 : (x212 == 0) = false := beq_eq_false_iff_ne.mpr c214
        have c214b1 : (x212 != 0) = true := bne_iff_ne.mpr c214
        clear c214
        go_wp2_with fail
        go_roundg k211
        case measure => exact Nat.lt_succ_self _
        case rel => exact ⟨(Go.bits .and .u32 x212 ((x212 - 1) % 4294967296)), (wrap64 (x213 + 1)), (by first | rfl | (simp [IntKind.wrap_u32]; done)), (by first | rfl | (simp [IntKind.wrap_u32]; done)), Aside0.mk AL209.out, ⟨(HS.out).keep (l := []) (rest := [])⟩⟩

set_option maxHeartbeats 4000000 in
set_option maxRecDepth 100000 in
theorem quitrentref01_Same.calls (k : Nat) (l223 : List Int) (l227 : List Int) (A224 : Option Addr) (n225 : Nat) (A228 : Option Addr) (n229 : Nat) (r : Bool) (w : World) (HR226 : Aside0 (Kd.C (Kd.int .u32) w A224 l223.length l223)) (HR230 : Aside0 (Kd.C (Kd.int .u32) w A228 l227.length l227)) (HS : Aside0 (Sep (fps []) w [] w)) (H : Aside0 (quitrentref01_Same.f k l223 l227 = some r)) :
    Calls Try.prog 50 #[.slice A224 l223.length n225, .slice A228 l227.length n229] w fun e w' => e = .returned (.bool r) ∧ Sep (fps []) w [] w' := by
  unfold quitrentref01_Same.f at H
  go_enter Try.func50, Try.ntmps50
  by_cases c231 : (l223.length : Int) = (l227.length : Int)
  · have H := if_yes c231 H
    have c231b0 : ((l223.length : Int) == (l227.length : Int)) = true := beq_iff_eq.mpr c231
    have c231b1 : ((l223.length : Int) != (l227.length : Int)) = false := bne_eq_false_iff_eq.mpr c231
    clear c231
    go_wp2_with fail
    obtain ⟨o247, AL248, H⟩ := bind_some H
    go_loopg [5] k (fun kq v5 wc => ∃ (x251 : Int), v5 = .int .i64 x251 ∧ Aside0 (quitrentref01_Same.lo0 kq l223 l227 x251 = some o247) ∧ Aside0 (Sep (fps []) w [] wc))
    case atStart => exact ⟨(0), (by first | rfl | (simp [IntKind.wrap_u32]; done)), AL248, ⟨HS.out⟩⟩
    case round =>
      clear AL248 HS
      obtain ⟨x251, rfl, AL248, HS⟩ := hrel
      obtain ⟨w249, rfl⟩ : ∃ x : World, x = wr := ⟨_, rfl⟩
      cases gk with
      | zero => exact absurd AL248.out (by simp [quitrentref01_Same.lo0])
      | succ k250 =>
        have AL0 := AL248.out
        rw [quitrentref01_Same.lo0] at AL0
        clear AL248
        have AL248 := Aside0.mk AL0
        clear AL0
        by_cases c252 : x251 < (l223.length : Int)
        · have AL248 := if_yes c252 AL248
          have c252b0 : decide (x251 < (l223.length : Int)) = true := decide_eq_true c252
          clear c252
          go_wp2_with fail
          refine start_ (n := 9) (S := (fun w' => Kd.C (Kd.int .u32) w' A224 l223.length l223 ∧ Kd.C (Kd.int .u32) w' A228 l227.length l227)) (ds := []) #[false, false, false, false, false, false, false, false, false] (by kernel_rfl) rfl rfl (⟨Kd.C_below HR226.out (HS.out.drew).fr.below, Kd.C_below HR230.out (HS.out.drew).fr.below⟩) (fun hHeld => ?_)
          have HS_ := Aside0.mk HS.out.drew
          clear HS
          generalize World.drew _ = w254 at HS_ hHeld ⊢
          have HS := HS_
          clear HS_
          refine pure_ (i := 0) (N := some 17) (v := ?_) (a' := ?_) #[true, false, false, false, false, false, false, false, false] rfl rfl (by kernel_rfl) (fun _ _ _ h => h) (Or.inl ⟨by rfl, ?_⟩) ?_ ?_
          rotate_left
          · intro w'
            go_simp
            with_reducible rfl
          rotate_left
          · simp only [Act.put, List.setIfInBounds_toArray, List.set_cons_zero, List.set_cons_succ, i64_w, i32_w]
            rfl
          refine pure_ (i := 1) (N := some 18) (v := ?_) (a' := ?_) #[true, true, false, false, false, false, false, false, false] rfl rfl (by kernel_rfl) (fun _ _ _ h => h) (Or.inl ⟨by rfl, ?_⟩) ?_ ?_
          rotate_left
          · intro w'
            go_simp
            with_reducible rfl
          rotate_left
          · simp only [Act.put, List.setIfInBounds_toArray, List.set_cons_zero, List.set_cons_succ, i64_w, i32_w]
            rfl
          by_cases c255 : 0 ≤ x251
          · have AL248 := if_yes c255 AL248
            have c255b0 : decide (0 ≤ x251) = true := decide_eq_true c255
            have c255p : (0 ≤ x251) = True := eq_true c255
            clear c255
            have ip256 : (x251 < (l223.length : Int)) = True := eq_true (of_decide_eq_true c252b0)
            obtain ⟨ad257, ea, _⟩ := Kd.at_int (Kd.C_below HR226.out HS.out.fr.below) x251 (of_decide_eq_true c255b0) (of_decide_eq_true c252b0)
            cases ea
            refine pure_ (i := 2) (N := some 19) (v := ?_) (a' := ?_) #[true, true, true, false, false, false, false, false, false] rfl rfl (by kernel_rfl) (fun _ _ _ h => h) (Or.inl ⟨by rfl, ?_⟩) ?_ ?_
            rotate_left
            · intro w'
              go_simp
              with_reducible rfl
            rotate_left
            · simp only [Act.put, List.setIfInBounds_toArray, List.set_cons_zero, List.set_cons_succ, i64_w, i32_w]
              rfl
            refine pure_ (i := 4) (N := some 21) (v := ?_) (a' := ?_) #[true, true, true, false, true, false, false, false, false] rfl rfl (by kernel_rfl) (fun _ _ _ h => h) (Or.inl ⟨by rfl, ?_⟩) ?_ ?_
            rotate_left
            · intro w'
              go_simp
              with_reducible rfl
            rotate_left
            · simp only [Act.put, List.setIfInBounds_toArray, List.set_cons_zero, List.set_cons_succ, i64_w, i32_w]
              rfl
            refine pure_ (i := 5) (N := some 22) (v := ?_) (a' := ?_) #[true, true, true, false, true, true, false, false, false] rfl rfl (by kernel_rfl) (fun _ _ _ h => h) (Or.inl ⟨by rfl, ?_⟩) ?_ ?_
            rotate_left
            · intro w'
              go_simp
              with_reducible rfl
            rotate_left
            · simp only [Act.put, List.setIfInBounds_toArray, List.set_cons_zero, List.set_cons_succ, i64_w, i32_w]
              rfl
            by_cases c258 : x251 < (l227.length : Int)
            · have AL248 := if_yes c258 AL248
              have c258b0 : decide (x251 < (l227.length : Int)) = true := decide_eq_true c258
              have c258p : (x251 < (l227.length : Int)) = True := eq_true c258
              clear c258
              obtain ⟨ad259, ea, _⟩ := Kd.at_int (Kd.C_below HR230.out HS.out.fr.below) x251 (of_decide_eq_true c255b0) (of_decide_eq_true c258b0)
              cases ea
              refine pure_ (i := 6) (N := some 23) (v := ?_) (a' := ?_) #[true, true, true, false, true, true, true, false, false] rfl rfl (by kernel_rfl) (fun _ _ _ h => h) (Or.inl ⟨by rfl, ?_⟩) ?_ ?_
              rotate_left
              · intro w'
                go_simp
                with_reducible rfl
              rotate_left
              · simp only [Act.put, List.setIfInBounds_toArray, List.set_cons_zero, List.set_cons_succ, i64_w, i32_w]
                rfl
              refine take_ (i := 3) (N := some 20) (v := ?_) (a' := ?_) #[true, true, true, true, true, true, true, false, false] rfl rfl (by kernel_rfl) (fun _ _ _ h => h) (Or.inl ⟨by rfl, ?_⟩) hHeld ?_ ?_
              rotate_left
              · rintro w' hS'
                obtain ⟨s0, s1⟩ := hS'
                have hx := C_at_int s0 x251 (of_decide_eq_true c255b0) (of_decide_eq_true c252b0)
                go_simp
                with_reducible rfl
              rotate_left
              · simp only [Act.put, List.setIfInBounds_toArray, List.set_cons_zero, List.set_cons_succ, i64_w, i32_w]
                rfl
              refine take_ (i := 7) (N := some 24) (v := ?_) (a' := ?_) #[true, true, true, true, true, true, true, true, false] rfl rfl (by kernel_rfl) (fun _ _ _ h => h) (Or.inl ⟨by rfl, ?_⟩) hHeld ?_ ?_
              rotate_left
              · rintro w' hS'
                obtain ⟨s0, s1⟩ := hS'
                have hx := C_at_int s1 x251 (of_decide_eq_true c255b0) (of_decide_eq_true c258b0)
                go_simp
                with_reducible rfl
              rotate_left
              · simp only [Act.put, List.setIfInBounds_toArray, List.set_cons_zero, List.set_cons_succ, i64_w, i32_w]
                rfl
              refine pure_ (i := 8) (N := some 25) (v := ?_) (a' := ?_) #[true, true, true, true, true, true, true, true, true] rfl rfl (by kernel_rfl) (fun _ _ _ h => h) (Or.inl ⟨by rfl, ?_⟩) ?_ ?_
              rotate_left
              · intro w'
                go_simp
                with_reducible rfl
              rotate_left
              · simp only [Act.put, List.setIfInBounds_toArray, List.set_cons_zero, List.set_cons_succ, i64_w, i32_w]
                rfl
              refine done_ (by kernel_rfl) ?_
              by_cases c260 : (rd l223 x251) = (rd l227 x251)
              · have AL248 := if_yes c260 AL248
                have c260b0 : ((rd l223 x251) == (rd l227 x251)) = true := beq_iff_eq.mpr c260
                have c260b1 : ((rd l223 x251) != (rd l227 x251)) = false := bne_eq_false_iff_eq.mpr c260
                clear c260
                go_wp2_with fail
                go_roundg k250
                case measure => exact Nat.lt_succ_self _
                case rel => exact ⟨(wrap64 (x251 + 1)), (by first | rfl | (simp [IntKind.wrap_u32]; done)), Aside0.mk AL248.out, ⟨(HS.out).keep (l := []) (rest := [])⟩⟩
              · have AL248 := if_no c260 AL248
                have c260b0 : ((rd l223 x251) == (rd l227 x251)) = false := beq_eq_false_iff_ne.mpr c260
                have c260b1 : ((rd l223 x251) != (rd l227 x251)) = true := bne_iff_ne.mpr c260
                clear c260
                go_wp2_with fail
                have ho := some_eq AL248
                subst ho
                have H := lp_ret H
                go_ret
                rw [← some_eq H]
                exact ⟨(by first | rfl | (simp [IntKind.wrap_u32]; done)), (HS.out).keep (l := []) (rest := [])⟩
            · have AL248 := if_no c258 AL248
              have c258b0 : decide (x251 < (l227.length : Int)) = false := decide_eq_false c258
              clear c258
              exact (none_no AL248).elim
          · have AL248 := if_no c255 AL248
            have c255b0 : decide (0 ≤ x251) = false := decide_eq_false c255
            clear c255
            exact (none_no AL248).elim
        · have AL248 := if_no c252 AL248
          have c252b0 : decide (x251 < (l223.length : Int)) = false := decide_eq_false c252
          clear c252
          have ho := some_eq AL248
          subst ho
          clear AL248
          have H := lp_out H
          go_wp2_with fail
          go_ret
          rw [← some_eq H]
          exact ⟨(by first | rfl | (simp [IntKind.wrap_u32]; done)), (HS.out).keep (l := []) (rest := [])⟩
  · have H := if_no c231 H
    have c231b0 : ((l223.length : Int) == (l227.length : Int)) = false := beq_eq_false_iff_ne.mpr c231
    have c231b1 : ((l223.length : Int) != (l227.length : Int)) = true := bne_iff_ne.mpr c231
    clear c231
    go_wp2_with fail
    go_ret
    rw [← some_eq H]
    exact ⟨(by first | rfl | (simp [IntKind.wrap_u32]; done)), (HS.out).keep (l := []) (rest := [])⟩

set_option maxHeartbeats 4000000 in
set_option maxRecDepth 100000 in
theorem quitrentlaw01_begun.calls (k : Nat)  (r : Bool) (w : World)  (HS : Aside0 (Sep (fps []) w [] w)) (H : Aside0 (quitrentlaw01_begun.f k = some r)) :
    Calls Try.prog 34 #[] w fun e w' => e = .returned (.bool r) ∧ Sep (fps []) w [] w' := by
  unfold quitrentlaw01_begun.f at H
  go_enter Try.func34, Try.ntmps34
  go_wp2_with fail
  obtain ⟨t44, HA45, H⟩ := bind_some H
  refine (pack_Put.calls 0 4 8 255 t44 _ ⟨HS.out.begin (l := []) (rest := [])⟩ HA45).mono ?_
  rintro e_ w46 ⟨rfl, hS⟩
  have HS_ : Aside0 (Sep (fps []) w [] w46) := ⟨HS.out.call (l := []) (rest := []) hS⟩
  clear HS hS
  have HS := HS_
  clear HS_
  go_wp2_with (first | ((with_reducible refine gate_dst (N := 12) rfl ?_); refine slice_on (n := 3) ?hg (N := 12) ?hd (cs := #[.int .i64 4, .int .i64 4, .int .i64 4]) (t := 3) ?hr ?_; (case hd => rfl); (case hg => rfl); (case hr => first | (go_simp; done) | (go_simp; rfl)); intro g47 hg w48 hbox hb; have HS_ : Aside0 (Sep (fps []) w [blk g47 #[.int .i64 4, .int .i64 4, .int .i64 4] 3] w48) := ⟨HS.out.box hg hbox hb⟩; clear HS hg hbox hb; have HS := HS_; clear HS_))
  obtain ⟨t137, HA138, H⟩ := bind_some H
  refine (pack_Split.calls _ 291 [4, 4, 4] (some ⟨g47, 0, none⟩) 3 t137 _ ⟨C_of_blk (xs := [4, 4, 4]) (HS.out.at0) (by simp)⟩ ⟨HS.out.begin (l := []) (rest := [blk g47 #[.int .i64 4, .int .i64 4, .int .i64 4] 3])⟩ HA138).mono ?_
  rintro e_ w139 ⟨A140, n141, rfl, hS⟩
  have HS_ : Aside0 (Sep (fps []) w [row 43 (Value.int .u32) (.slice A140 ((t137.1).length) n141) t137.1, blk g47 #[.int .i64 4, .int .i64 4, .int .i64 4] 3] w139) := ⟨HS.out.call (l := []) (rest := [blk g47 #[.int .i64 4, .int .i64 4, .int .i64 4] 3]) hS⟩
  clear HS hS
  have HS := HS_
  clear HS_
  go_wp2_with (first | ((with_reducible refine gate_dst (N := 17) rfl ?_); refine slice_on (n := 1) ?hg (N := 17) ?hd (cs := #[.int .u32 16]) (t := 43) ?hr ?_; (case hd => rfl); (case hg => rfl); (case hr => first | (go_simp; done) | (go_simp; rfl)); intro g143 hg w144 hbox hb; have HS_ : Aside0 (Sep (fps []) w [row 43 (Value.int .u32) (.slice A140 ((t137.1).length) n141) t137.1, blk g47 #[.int .i64 4, .int .i64 4, .int .i64 4] 3, blk g143 #[.int .u32 16] 43] w144) := ⟨HS.out.box hg hbox hb⟩; clear HS hg hbox hb; have HS := HS_; clear HS_) | ((with_reducible refine gate_dst (N := 18) rfl ?_); refine slice_on (n := 1) ?hg (N := 18) ?hd (cs := #[.int .i64 4]) (t := 3) ?hr ?_; (case hd => rfl); (case hg => rfl); (case hr => first | (go_simp; done) | (go_simp; rfl)); intro g146 hg w147 hbox hb; have HS_ : Aside0 (Sep (fps []) w [row 43 (Value.int .u32) (.slice A140 ((t137.1).length) n141) t137.1, blk g47 #[.int .i64 4, .int .i64 4, .int .i64 4] 3, blk g143 #[.int .u32 16] 43, blk g146 #[.int .i64 4] 3] w147) := ⟨HS.out.box hg hbox hb⟩; clear HS hg hbox hb; have HS := HS_; clear HS_))
  obtain ⟨t197, HA198, H⟩ := bind_some H
  refine (pack_Join.calls _ [16] [4] (some ⟨g143, 0, none⟩) 1 (some ⟨g146, 0, none⟩) 1 t197 _ ⟨C_of_blk (xs := [16]) (HS.out.at2) (by simp)⟩ ⟨C_of_blk (xs := [4]) (HS.out.at3) (by simp)⟩ ⟨HS.out.begin (l := []) (rest := [row 43 (Value.int .u32) (.slice A140 ((t137.1).length) n141) t137.1, blk g47 #[.int .i64 4, .int .i64 4, .int .i64 4] 3, blk g143 #[.int .u32 16] 43, blk g146 #[.int .i64 4] 3])⟩ HA198).mono ?_
  rintro e_ w199 ⟨rfl, hS⟩
  have HS_ : Aside0 (Sep (fps []) w [row 43 (Value.int .u32) (.slice A140 ((t137.1).length) n141) t137.1, blk g47 #[.int .i64 4, .int .i64 4, .int .i64 4] 3, blk g143 #[.int .u32 16] 43, blk g146 #[.int .i64 4] 3] w199) := ⟨HS.out.call (l := []) (rest := [row 43 (Value.int .u32) (.slice A140 ((t137.1).length) n141) t137.1, blk g47 #[.int .i64 4, .int .i64 4, .int .i64 4] 3, blk g143 #[.int .u32 16] 43, blk g146 #[.int .i64 4] 3]) hS⟩
  clear HS hS
  have HS := HS_
  clear HS_
  by_cases c200 : t44.1 = 4080
  · have H := if_yes c200 H
    have c200b0 : (t44.1 == 4080) = true := beq_iff_eq.mpr c200
    have c200b1 : (t44.1 != 4080) = false := bne_eq_false_iff_eq.mpr c200
    clear c200
    by_cases c201 : t44.2 = 0
    · have H := if_yes c201 H
      have c201b0 : (t44.2 == 0) = true := beq_iff_eq.mpr c201
      have c201b1 : (t44.2 != 0) = false := bne_eq_false_iff_eq.mpr c201
      clear c201
      go_wp2_with fail
      obtain ⟨t202, HA203, H⟩ := bind_some H
      refine (pack_Get.calls t44.1 4 8 t202 _ ⟨HS.out.begin (l := []) (rest := [row 43 (Value.int .u32) (.slice A140 ((t137.1).length) n141) t137.1, blk g47 #[.int .i64 4, .int .i64 4, .int .i64 4] 3, blk g143 #[.int .u32 16] 43, blk g146 #[.int .i64 4] 3])⟩ HA203).mono ?_
      rintro e_ w204 ⟨rfl, hS⟩
      have HS_ : Aside0 (Sep (fps []) w [row 43 (Value.int .u32) (.slice A140 ((t137.1).length) n141) t137.1, blk g47 #[.int .i64 4, .int .i64 4, .int .i64 4] 3, blk g143 #[.int .u32 16] 43, blk g146 #[.int .i64 4] 3] w204) := ⟨HS.out.call (l := []) (rest := [row 43 (Value.int .u32) (.slice A140 ((t137.1).length) n141) t137.1, blk g47 #[.int .i64 4, .int .i64 4, .int .i64 4] 3, blk g143 #[.int .u32 16] 43, blk g146 #[.int .i64 4] 3]) hS⟩
      clear HS hS
      have HS := HS_
      clear HS_
      by_cases c205 : t202 = 255
      · have H := if_yes c205 H
        have c205b0 : (t202 == 255) = true := beq_iff_eq.mpr c205
        have c205b1 : (t202 != 255) = false := bne_eq_false_iff_eq.mpr c205
        clear c205
        go_wp2_with fail
        obtain ⟨t216, HA217, H⟩ := bind_some H
        refine (pack_Ones.calls _ t44.1 t216 _ ⟨HS.out.begin (l := []) (rest := [row 43 (Value.int .u32) (.slice A140 ((t137.1).length) n141) t137.1, blk g47 #[.int .i64 4, .int .i64 4, .int .i64 4] 3, blk g143 #[.int .u32 16] 43, blk g146 #[.int .i64 4] 3])⟩ HA217).mono ?_
        rintro e_ w218 ⟨rfl, hS⟩
        have HS_ : Aside0 (Sep (fps []) w [row 43 (Value.int .u32) (.slice A140 ((t137.1).length) n141) t137.1, blk g47 #[.int .i64 4, .int .i64 4, .int .i64 4] 3, blk g143 #[.int .u32 16] 43, blk g146 #[.int .i64 4] 3] w218) := ⟨HS.out.call (l := []) (rest := [row 43 (Value.int .u32) (.slice A140 ((t137.1).length) n141) t137.1, blk g47 #[.int .i64 4, .int .i64 4, .int .i64 4] 3, blk g143 #[.int .u32 16] 43, blk g146 #[.int .i64 4] 3]) hS⟩
        clear HS hS
        have HS := HS_
        clear HS_
        by_cases c219 : t216 = 8
        · have H := if_yes c219 H
          have c219b0 : (t216 == 8) = true := beq_iff_eq.mpr c219
          have c219b1 : (t216 != 8) = false := bne_eq_false_iff_eq.mpr c219
          clear c219
          go_wp2_with (first | ((with_reducible refine gate_dst (N := 40) rfl ?_); refine slice_on (n := 3) ?hg (N := 40) ?hd (cs := #[.int .u32 3, .int .u32 2, .int .u32 1]) (t := 43) ?hr ?_; (case hd => rfl); (case hg => rfl); (case hr => first | (go_simp; done) | (go_simp; rfl)); intro g220 hg w221 hbox hb; have HS_ : Aside0 (Sep (fps []) w [row 43 (Value.int .u32) (.slice A140 ((t137.1).length) n141) t137.1, blk g47 #[.int .i64 4, .int .i64 4, .int .i64 4] 3, blk g143 #[.int .u32 16] 43, blk g146 #[.int .i64 4] 3, blk g220 #[.int .u32 3, .int .u32 2, .int .u32 1] 43] w221) := ⟨HS.out.box hg hbox hb⟩; clear HS hg hbox hb; have HS := HS_; clear HS_))
          obtain ⟨t262, HA263, H⟩ := bind_some H
          refine (quitrentref01_Same.calls _ t137.1 [3, 2, 1] A140 n141 (some ⟨g220, 0, none⟩) 3 t262 _ ⟨row_Ci (HS.out.at0)⟩ ⟨C_of_blk (xs := [3, 2, 1]) (HS.out.at4) (by simp)⟩ ⟨HS.out.begin (l := []) (rest := [row 43 (Value.int .u32) (.slice A140 ((t137.1).length) n141) t137.1, blk g47 #[.int .i64 4, .int .i64 4, .int .i64 4] 3, blk g143 #[.int .u32 16] 43, blk g146 #[.int .i64 4] 3, blk g220 #[.int .u32 3, .int .u32 2, .int .u32 1] 43])⟩ HA263).mono ?_
          rintro e_ w264 ⟨rfl, hS⟩
          have HS_ : Aside0 (Sep (fps []) w [row 43 (Value.int .u32) (.slice A140 ((t137.1).length) n141) t137.1, blk g47 #[.int .i64 4, .int .i64 4, .int .i64 4] 3, blk g143 #[.int .u32 16] 43, blk g146 #[.int .i64 4] 3, blk g220 #[.int .u32 3, .int .u32 2, .int .u32 1] 43] w264) := ⟨HS.out.call (l := []) (rest := [row 43 (Value.int .u32) (.slice A140 ((t137.1).length) n141) t137.1, blk g47 #[.int .i64 4, .int .i64 4, .int .i64 4] 3, blk g143 #[.int .u32 16] 43, blk g146 #[.int .i64 4] 3, blk g220 #[.int .u32 3, .int .u32 2, .int .u32 1] 43]) hS⟩
          clear HS hS
          have HS := HS_
          clear HS_
          by_cases c265 : t262 = true
          · have H := if_yes c265 H
            have c265b0 : t262 = true := c265
            have c265b1 : (!t262) = false := by rw [c265b0]; rfl
            clear c265
            by_cases c266 : t137.2 = 0
            · have H := if_yes c266 H
              have c266b0 : (t137.2 == 0) = true := beq_iff_eq.mpr c266
              have c266b1 : (t137.2 != 0) = false := bne_eq_false_iff_eq.mpr c266
              clear c266
              go_wp2_with fail
              go_ret
              rw [← some_eq H]
              exact ⟨(by first | rfl | (simp [IntKind.wrap_u32]; done)), (HS.out).keep (l := []) (rest := [row 43 (Value.int .u32) (.slice A140 ((t137.1).length) n141) t137.1, blk g47 #[.int .i64 4, .int .i64 4, .int .i64 4] 3, blk g143 #[.int .u32 16] 43, blk g146 #[.int .i64 4] 3, blk g220 #[.int .u32 3, .int .u32 2, .int .u32 1] 43])⟩
            · have H := if_no c266 H
              have c266b0 : (t137.2 == 0) = false := beq_eq_false_iff_ne.mpr c266
              have c266b1 : (t137.2 != 0) = true := bne_iff_ne.mpr c266
              clear c266
              go_wp2_with fail
              go_ret
              rw [← some_eq H]
              exact ⟨(by first | rfl | (simp [IntKind.wrap_u32]; done)), (HS.out).keep (l := []) (rest := [row 43 (Value.int .u32) (.slice A140 ((t137.1).length) n141) t137.1, blk g47 #[.int .i64 4, .int .i64 4, .int .i64 4] 3, blk g143 #[.int .u32 16] 43, blk g146 #[.int .i64 4] 3, blk g220 #[.int .u32 3, .int .u32 2, .int .u32 1] 43])⟩
          · have H := if_no c265 H
            have c265b0 : t262 = false := by simpa using c265
            have c265b1 : (!t262) = true := by rw [c265b0]; rfl
            clear c265
            go_wp2_with fail
            go_ret
            rw [← some_eq H]
            exact ⟨(by first | rfl | (simp [IntKind.wrap_u32]; done)), (HS.out).keep (l := []) (rest := [row 43 (Value.int .u32) (.slice A140 ((t137.1).length) n141) t137.1, blk g47 #[.int .i64 4, .int .i64 4, .int .i64 4] 3, blk g143 #[.int .u32 16] 43, blk g146 #[.int .i64 4] 3, blk g220 #[.int .u32 3, .int .u32 2, .int .u32 1] 43])⟩
        · have H := if_no c219 H
          have c219b0 : (t216 == 8) = false := beq_eq_false_iff_ne.mpr c219
          have c219b1 : (t216 != 8) = true := bne_iff_ne.mpr c219
          clear c219
          go_wp2_with fail
          go_ret
          rw [← some_eq H]
          exact ⟨(by first | rfl | (simp [IntKind.wrap_u32]; done)), (HS.out).keep (l := []) (rest := [row 43 (Value.int .u32) (.slice A140 ((t137.1).length) n141) t137.1, blk g47 #[.int .i64 4, .int .i64 4, .int .i64 4] 3, blk g143 #[.int .u32 16] 43, blk g146 #[.int .i64 4] 3])⟩
      · have H := if_no c205 H
        have c205b0 : (t202 == 255) = false := beq_eq_false_iff_ne.mpr c205
        have c205b1 : (t202 != 255) = true := bne_iff_ne.mpr c205
        clear c205
        go_wp2_with fail
        go_ret
        rw [← some_eq H]
        exact ⟨(by first | rfl | (simp [IntKind.wrap_u32]; done)), (HS.out).keep (l := []) (rest := [row 43 (Value.int .u32) (.slice A140 ((t137.1).length) n141) t137.1, blk g47 #[.int .i64 4, .int .i64 4, .int .i64 4] 3, blk g143 #[.int .u32 16] 43, blk g146 #[.int .i64 4] 3])⟩
    · have H := if_no c201 H
      have c201b0 : (t44.2 == 0) = false := beq_eq_false_iff_ne.mpr c201
      have c201b1 : (t44.2 != 0) = true := bne_iff_ne.mpr c201
      clear c201
      go_wp2_with fail
      go_ret
      rw [← some_eq H]
      exact ⟨(by first | rfl | (simp [IntKind.wrap_u32]; done)), (HS.out).keep (l := []) (rest := [row 43 (Value.int .u32) (.slice A140 ((t137.1).length) n141) t137.1, blk g47 #[.int .i64 4, .int .i64 4, .int .i64 4] 3, blk g143 #[.int .u32 16] 43, blk g146 #[.int .i64 4] 3])⟩
  · have H := if_no c200 H
    have c200b0 : (t44.1 == 4080) = false := beq_eq_false_iff_ne.mpr c200
    have c200b1 : (t44.1 != 4080) = true := bne_iff_ne.mpr c200
    clear c200
    go_wp2_with fail
    go_ret
    rw [← some_eq H]
    exact ⟨(by first | rfl | (simp [IntKind.wrap_u32]; done)), (HS.out).keep (l := []) (rest := [row 43 (Value.int .u32) (.slice A140 ((t137.1).length) n141) t137.1, blk g47 #[.int .i64 4, .int .i64 4, .int .i64 4] 3, blk g143 #[.int .u32 16] 43, blk g146 #[.int .i64 4] 3])⟩

set_option maxHeartbeats 4000000 in
set_option maxRecDepth 100000 in
theorem quitrentref01_Piece.calls (a286 : Int) (a287 : Int) (r : Bool) (w : World)  (HS : Aside0 (Sep (fps []) w [] w)) (H : Aside0 (quitrentref01_Piece.f a286 a287 = some r)) :
    Calls Try.prog 43 #[.int .i64 a286, .int .i64 a287] w fun e w' => e = .returned (.bool r) ∧ Sep (fps []) w [] w' := by
  unfold quitrentref01_Piece.f at H
  go_enter Try.func43, Try.ntmps43
  by_cases c288 : a286 ≥ 0
  · have H := if_yes c288 H
    have c288b0 : decide (0 ≤ a286) = true := decide_eq_true c288
    clear c288
    by_cases c289 : a287 ≥ 1
    · have H := if_yes c289 H
      have c289b0 : decide (1 ≤ a287) = true := decide_eq_true c289
      clear c289
      by_cases c290 : a287 ≤ 32
      · have H := if_yes c290 H
        have c290b0 : decide (a287 ≤ 32) = true := decide_eq_true c290
        clear c290
        go_wp2_with fail
        go_ret
        rw [← some_eq H]
        exact ⟨(by first | rfl | (simp [IntKind.wrap_u32]; done)), (HS.out).keep (l := []) (rest := [])⟩
      · have H := if_no c290 H
        have c290b0 : decide (a287 ≤ 32) = false := decide_eq_false c290
        clear c290
        go_wp2_with fail
        go_ret
        rw [← some_eq H]
        exact ⟨(by first | rfl | (simp [IntKind.wrap_u32]; done)), (HS.out).keep (l := []) (rest := [])⟩
    · have H := if_no c289 H
      have c289b0 : decide (1 ≤ a287) = false := decide_eq_false c289
      clear c289
      go_wp2_with fail
      go_ret
      rw [← some_eq H]
      exact ⟨(by first | rfl | (simp [IntKind.wrap_u32]; done)), (HS.out).keep (l := []) (rest := [])⟩
  · have H := if_no c288 H
    have c288b0 : decide (0 ≤ a286) = false := decide_eq_false c288
    clear c288
    go_wp2_with fail
    go_ret
    rw [← some_eq H]
    exact ⟨(by first | rfl | (simp [IntKind.wrap_u32]; done)), (HS.out).keep (l := []) (rest := [])⟩

set_option maxHeartbeats 4000000 in
set_option maxRecDepth 100000 in
theorem quitrentlaw01_PackKeeps.calls (k : Nat) (a1 : Int) (a2 : Int) (a3 : Int) (a4 : Int) (a5 : Int) (a6 : Int) (a7 : Int) (r : Bool) (w : World)  (HS : Aside0 (Sep (fps []) w [] w)) (H : Aside0 (quitrentlaw01_PackKeeps.f k a1 a2 a3 a4 a5 a6 a7 = some r)) :
    Calls Try.prog 12 #[.int .u32 a1, .agg #[.int .i64 a2, .int .i64 a3, .int .u32 a4], .agg #[.int .i64 a5, .int .i64 a6, .int .u32 a7]] w fun e w' => e = .returned (.bool r) ∧ Sep (fps []) w [] w' := by
  unfold quitrentlaw01_PackKeeps.f at H
  go_enter Try.func12, Try.ntmps12
  go_wp2_with (first | ((with_reducible refine gate_dst (N := 4) rfl ?_); refine box_on ?hg (N := 4) ?hd (cs := #[.int .i64 a2, .int .i64 a3, .int .u32 a4]) (t := 49) ?hr ?_; (case hd => rfl); (case hg => rfl); (case hr => first | (go_simp; done) | (go_simp; rfl)); intro g8 hg w9 hbox hb; have HS_ : Aside0 (Sep (fps []) w [blk g8 #[.int .i64 a2, .int .i64 a3, .int .u32 a4] 49] w9) := ⟨HS.out.box hg hbox hb⟩; clear HS hg hbox hb; have HS := HS_; clear HS_) | ((with_reducible refine gate_dst (N := 5) rfl ?_); refine box_on ?hg (N := 5) ?hd (cs := #[.int .i64 a5, .int .i64 a6, .int .u32 a7]) (t := 49) ?hr ?_; (case hd => rfl); (case hg => rfl); (case hr => first | (go_simp; done) | (go_simp; rfl)); intro g11 hg w12 hbox hb; have HS_ : Aside0 (Sep (fps []) w [blk g8 #[.int .i64 a2, .int .i64 a3, .int .u32 a4] 49, blk g11 #[.int .i64 a5, .int .i64 a6, .int .u32 a7] 49] w12) := ⟨HS.out.box hg hbox hb⟩; clear HS hg hbox hb; have HS := HS_; clear HS_))
  obtain ⟨t267, HA268, H⟩ := bind_some H
  refine (quitrentlaw01_begun.calls _ t267 _ ⟨HS.out.begin (l := []) (rest := [blk g8 #[.int .i64 a2, .int .i64 a3, .int .u32 a4] 49, blk g11 #[.int .i64 a5, .int .i64 a6, .int .u32 a7] 49])⟩ HA268).mono ?_
  rintro e_ w269 ⟨rfl, hS⟩
  have HS_ : Aside0 (Sep (fps []) w [blk g8 #[.int .i64 a2, .int .i64 a3, .int .u32 a4] 49, blk g11 #[.int .i64 a5, .int .i64 a6, .int .u32 a7] 49] w269) := ⟨HS.out.call (l := []) (rest := [blk g8 #[.int .i64 a2, .int .i64 a3, .int .u32 a4] 49, blk g11 #[.int .i64 a5, .int .i64 a6, .int .u32 a7] 49]) hS⟩
  clear HS hS
  have HS := HS_
  clear HS_
  by_cases c270 : t267 = true
  · have H := if_yes c270 H
    have c270b0 : t267 = true := c270
    have c270b1 : (!t267) = false := by rw [c270b0]; rfl
    try rw [c270b1]
    clear c270
    have hc271 : w269.cell? ⟨g8, 0, none⟩ = some (.int .i64 a2) := blk_cellv (HS.out.at0) 0 rfl
    have hc272 : w269.cell? ⟨g8, 1, none⟩ = some (.int .i64 a3) := blk_cellv (HS.out.at0) 1 rfl
    have hc273 : w269.cell? ⟨g8, 2, none⟩ = some (.int .u32 a4) := blk_cellv (HS.out.at0) 2 rfl
    go_wp2_with fail
    clear hc271 hc272 hc273
    obtain ⟨t274, HA275, H⟩ := bind_some H
    refine (pack_Put.calls a1 a2 a3 a4 t274 _ ⟨HS.out.begin (l := []) (rest := [blk g8 #[.int .i64 a2, .int .i64 a3, .int .u32 a4] 49, blk g11 #[.int .i64 a5, .int .i64 a6, .int .u32 a7] 49])⟩ HA275).mono ?_
    rintro e_ w276 ⟨rfl, hS⟩
    have HS_ : Aside0 (Sep (fps []) w [blk g8 #[.int .i64 a2, .int .i64 a3, .int .u32 a4] 49, blk g11 #[.int .i64 a5, .int .i64 a6, .int .u32 a7] 49] w276) := ⟨HS.out.call (l := []) (rest := [blk g8 #[.int .i64 a2, .int .i64 a3, .int .u32 a4] 49, blk g11 #[.int .i64 a5, .int .i64 a6, .int .u32 a7] 49]) hS⟩
    clear HS hS
    have HS := HS_
    clear HS_
    by_cases c277 : t274.2 = 0
    · have H := if_yes c277 H
      have c277b0 : (t274.2 == 0) = true := beq_iff_eq.mpr c277
      have c277b1 : (t274.2 != 0) = false := bne_eq_false_iff_eq.mpr c277
      clear c277
      go_wp2_with fail
      refine start_ (n := 9) (S := (fun w' => w'.cell? ⟨g8, 0, none⟩ = some (.int .i64 a2) ∧ w'.cell? ⟨g8, 1, none⟩ = some (.int .i64 a3) ∧ w'.cell? ⟨g8, 2, none⟩ = some (.int .u32 a4))) (ds := []) #[false, false, false, false, false, false, false, false, false] (by kernel_rfl) rfl rfl (⟨blk_cellv ((HS.out.drew).at0) 0 rfl, blk_cellv ((HS.out.drew).at0) 1 rfl, blk_cellv ((HS.out.drew).at0) 2 rfl⟩) (fun hHeld => ?_)
      have HS_ := Aside0.mk HS.out.drew
      clear HS
      generalize World.drew _ = w279 at HS_ hHeld ⊢
      have HS := HS_
      clear HS_
      refine pure_ (i := 0) (N := some 28) (v := ?_) (a' := ?_) #[true, false, false, false, false, false, false, false, false] rfl rfl (by kernel_rfl) (fun _ _ _ h => h) (Or.inl ⟨by rfl, ?_⟩) ?_ ?_
      rotate_left
      · intro w'
        go_simp
        with_reducible rfl
      rotate_left
      · simp only [Act.put, List.setIfInBounds_toArray, List.set_cons_zero, List.set_cons_succ, i64_w, i32_w]
        rfl
      refine pure_ (i := 1) (N := some 29) (v := ?_) (a' := ?_) #[true, true, false, false, false, false, false, false, false] rfl rfl (by kernel_rfl) (fun _ _ _ h => h) (Or.inl ⟨by rfl, ?_⟩) ?_ ?_
      rotate_left
      · intro w'
        go_simp
        with_reducible rfl
      rotate_left
      · simp only [Act.put, List.setIfInBounds_toArray, List.set_cons_zero, List.set_cons_succ, i64_w, i32_w]
        rfl
      refine pure_ (i := 3) (N := some 31) (v := ?_) (a' := ?_) #[true, true, false, true, false, false, false, false, false] rfl rfl (by kernel_rfl) (fun _ _ _ h => h) (Or.inl ⟨by rfl, ?_⟩) ?_ ?_
      rotate_left
      · intro w'
        go_simp
        with_reducible rfl
      rotate_left
      · simp only [Act.put, List.setIfInBounds_toArray, List.set_cons_zero, List.set_cons_succ, i64_w, i32_w]
        rfl
      refine pure_ (i := 6) (N := some 34) (v := ?_) (a' := ?_) #[true, true, false, true, false, false, true, false, false] rfl rfl (by kernel_rfl) (fun _ _ _ h => h) (Or.inl ⟨by rfl, ?_⟩) ?_ ?_
      rotate_left
      · intro w'
        go_simp
        with_reducible rfl
      rotate_left
      · simp only [Act.put, List.setIfInBounds_toArray, List.set_cons_zero, List.set_cons_succ, i64_w, i32_w]
        rfl
      refine take_ (i := 2) (N := some 30) (v := ?_) (a' := ?_) #[true, true, true, true, false, false, true, false, false] rfl rfl (by kernel_rfl) (fun _ _ _ h => h) (Or.inl ⟨by rfl, ?_⟩) hHeld ?_ ?_
      rotate_left
      · rintro w' hS'
        obtain ⟨s0, s1, s2⟩ := hS'
        go_simp
        with_reducible rfl
      rotate_left
      · simp only [Act.put, List.setIfInBounds_toArray, List.set_cons_zero, List.set_cons_succ, i64_w, i32_w]
        rfl
      refine take_ (i := 4) (N := some 32) (v := ?_) (a' := ?_) #[true, true, true, true, true, false, true, false, false] rfl rfl (by kernel_rfl) (fun _ _ _ h => h) (Or.inl ⟨by rfl, ?_⟩) hHeld ?_ ?_
      rotate_left
      · rintro w' hS'
        obtain ⟨s0, s1, s2⟩ := hS'
        go_simp
        with_reducible rfl
      rotate_left
      · simp only [Act.put, List.setIfInBounds_toArray, List.set_cons_zero, List.set_cons_succ, i64_w, i32_w]
        rfl
      refine take_ (i := 7) (N := some 35) (v := ?_) (a' := ?_) #[true, true, true, true, true, false, true, true, false] rfl rfl (by kernel_rfl) (fun _ _ _ h => h) (Or.inl ⟨by rfl, ?_⟩) hHeld ?_ ?_
      rotate_left
      · rintro w' hS'
        obtain ⟨s0, s1, s2⟩ := hS'
        go_simp
        with_reducible rfl
      rotate_left
      · simp only [Act.put, List.setIfInBounds_toArray, List.set_cons_zero, List.set_cons_succ, i64_w, i32_w]
        rfl
      refine one_ (i := 5) (N := some 33) #[true, true, true, true, true, true, true, true, false] rfl rfl (by kernel_rfl) (by decide) (fun K hK => ?_)
      obtain ⟨t280, HA281, H⟩ := bind_some H
      refine goes_ Try.func35 (by kernel_rfl) rfl #[.int .u32 t274.1, .int .i64 a2, .int .i64 a3] (by rfl) rfl rfl (by (try simp only [List.map_toArray, List.map_cons, List.map_nil]); first | done | rfl) ?_
      refine (pack_Get.calls t274.1 a2 a3 t280 _ ⟨HS.out.begin (l := []) (rest := [blk g8 #[.int .i64 a2, .int .i64 a3, .int .u32 a4] 49, blk g11 #[.int .i64 a5, .int .i64 a6, .int .u32 a7] 49])⟩ HA281).mono ?_
      rintro e_ w282 ⟨rfl, hS⟩
      have HS_ : Aside0 (Sep (fps []) w [blk g8 #[.int .i64 a2, .int .i64 a3, .int .u32 a4] 49, blk g11 #[.int .i64 a5, .int .i64 a6, .int .u32 a7] 49] w282) := ⟨HS.out.call (l := []) (rest := [blk g8 #[.int .i64 a2, .int .i64 a3, .int .u32 a4] 49, blk g11 #[.int .i64 a5, .int .i64 a6, .int .u32 a7] 49]) hS⟩
      clear HS hS
      have HS := HS_
      clear HS_
      refine ⟨_, rfl, ?_⟩
      refine hK.out _ _ (⟨blk_cellv (HS.out.at0) 0 rfl, blk_cellv (HS.out.at0) 1 rfl, blk_cellv (HS.out.at0) 2 rfl⟩) (fun hHeld => ?_)
      clear hK K
      refine norm_ (a' := ?_) ?_ ?_
      rotate_left
      · show Act.put _ (some 33) _ = _
        simp only [Act.put, List.setIfInBounds_toArray, List.set_cons_zero, List.set_cons_succ, i64_w, i32_w]
        rfl
      refine pure_ (i := 8) (N := some 36) (v := ?_) (a' := ?_) #[true, true, true, true, true, true, true, true, true] rfl rfl (by kernel_rfl) (fun _ _ _ h => h) (Or.inl ⟨by rfl, ?_⟩) ?_ ?_
      rotate_left
      · intro w'
        go_simp
        with_reducible rfl
      rotate_left
      · simp only [Act.put, List.setIfInBounds_toArray, List.set_cons_zero, List.set_cons_succ, i64_w, i32_w]
        rfl
      refine done_ (by kernel_rfl) ?_
      by_cases c283 : t280 = a4
      · have H := if_yes c283 H
        have c283b0 : (t280 == a4) = true := beq_iff_eq.mpr c283
        have c283b1 : (t280 != a4) = false := bne_eq_false_iff_eq.mpr c283
        clear c283
        go_wp2_with fail
        refine start_ (n := 40) (S := (fun w' => w'.cell? ⟨g11, 0, none⟩ = some (.int .i64 a5) ∧ w'.cell? ⟨g11, 1, none⟩ = some (.int .i64 a6) ∧ w'.cell? ⟨g8, 0, none⟩ = some (.int .i64 a2) ∧ w'.cell? ⟨g8, 1, none⟩ = some (.int .i64 a3))) (ds := []) #[false, false, false, false, false, false, false, false, false, false, false, false, false, false, false, false, false, false, false, false, false, false, false, false, false, false, false, false, false, false, false, false, false, false, false, false, false, false, false, false] (by kernel_rfl) rfl rfl (⟨blk_cellv ((HS.out.drew).at1) 0 rfl, blk_cellv ((HS.out.drew).at1) 1 rfl, blk_cellv ((HS.out.drew).at0) 0 rfl, blk_cellv ((HS.out.drew).at0) 1 rfl⟩) (fun hHeld => ?_)
        have HS_ := Aside0.mk HS.out.drew
        clear HS
        generalize World.drew _ = w285 at HS_ hHeld ⊢
        have HS := HS_
        clear HS_
        refine pure_ (i := 0) (N := some 37) (v := ?_) (a' := ?_) #[true, false, false, false, false, false, false, false, false, false, false, false, false, false, false, false, false, false, false, false, false, false, false, false, false, false, false, false, false, false, false, false, false, false, false, false, false, false, false, false] rfl rfl (by kernel_rfl) (fun _ _ _ h => h) (Or.inl ⟨by rfl, ?_⟩) ?_ ?_
        rotate_left
        · intro w'
          go_simp
          with_reducible rfl
        rotate_left
        · simp only [Act.put, List.setIfInBounds_toArray, List.set_cons_zero, List.set_cons_succ, i64_w, i32_w]
          rfl
        refine pure_ (i := 2) (N := some 39) (v := ?_) (a' := ?_) #[true, false, true, false, false, false, false, false, false, false, false, false, false, false, false, false, false, false, false, false, false, false, false, false, false, false, false, false, false, false, false, false, false, false, false, false, false, false, false, false] rfl rfl (by kernel_rfl) (fun _ _ _ h => h) (Or.inl ⟨by rfl, ?_⟩) ?_ ?_
        rotate_left
        · intro w'
          go_simp
          with_reducible rfl
        rotate_left
        · simp only [Act.put, List.setIfInBounds_toArray, List.set_cons_zero, List.set_cons_succ, i64_w, i32_w]
          rfl
        refine take_ (i := 1) (N := some 38) (v := ?_) (a' := ?_) #[true, true, true, false, false, false, false, false, false, false, false, false, false, false, false, false, false, false, false, false, false, false, false, false, false, false, false, false, false, false, false, false, false, false, false, false, false, false, false, false] rfl rfl (by kernel_rfl) (fun _ _ _ h => h) (Or.inl ⟨by rfl, ?_⟩) hHeld ?_ ?_
        rotate_left
        · rintro w' hS'
          obtain ⟨s0, s1, s2, s3⟩ := hS'
          go_simp
          with_reducible rfl
        rotate_left
        · simp only [Act.put, List.setIfInBounds_toArray, List.set_cons_zero, List.set_cons_succ, i64_w, i32_w]
          rfl
        refine take_ (i := 3) (N := some 40) (v := ?_) (a' := ?_) #[true, true, true, true, false, false, false, false, false, false, false, false, false, false, false, false, false, false, false, false, false, false, false, false, false, false, false, false, false, false, false, false, false, false, false, false, false, false, false, false] rfl rfl (by kernel_rfl) (fun _ _ _ h => h) (Or.inl ⟨by rfl, ?_⟩) hHeld ?_ ?_
        rotate_left
        · rintro w' hS'
          obtain ⟨s0, s1, s2, s3⟩ := hS'
          go_simp
          with_reducible rfl
        rotate_left
        · simp only [Act.put, List.setIfInBounds_toArray, List.set_cons_zero, List.set_cons_succ, i64_w, i32_w]
          rfl
        refine one_ (i := 4) (N := some 41) #[true, true, true, true, true, false, false, false, false, false, false, false, false, false, false, false, false, false, false, false, false, false, false, false, false, false, false, false, false, false, false, false, false, false, false, false, false, false, false, false] rfl rfl (by kernel_rfl) (by decide) (fun K hK => ?_)
        obtain ⟨t291, HA292, H⟩ := bind_some H
        refine goes_ Try.func43 (by kernel_rfl) rfl #[.int .i64 a5, .int .i64 a6] (by rfl) rfl rfl (by (try simp only [List.map_toArray, List.map_cons, List.map_nil]); first | done | rfl) ?_
        refine (quitrentref01_Piece.calls a5 a6 t291 _ ⟨HS.out.begin (l := []) (rest := [blk g8 #[.int .i64 a2, .int .i64 a3, .int .u32 a4] 49, blk g11 #[.int .i64 a5, .int .i64 a6, .int .u32 a7] 49])⟩ HA292).mono ?_
        rintro e_ w293 ⟨rfl, hS⟩
        have HS_ : Aside0 (Sep (fps []) w [blk g8 #[.int .i64 a2, .int .i64 a3, .int .u32 a4] 49, blk g11 #[.int .i64 a5, .int .i64 a6, .int .u32 a7] 49] w293) := ⟨HS.out.call (l := []) (rest := [blk g8 #[.int .i64 a2, .int .i64 a3, .int .u32 a4] 49, blk g11 #[.int .i64 a5, .int .i64 a6, .int .u32 a7] 49]) hS⟩
        clear HS hS
        have HS := HS_
        clear HS_
        refine ⟨_, rfl, ?_⟩
        refine hK.out _ _ (⟨blk_cellv (HS.out.at1) 0 rfl, blk_cellv (HS.out.at1) 1 rfl, blk_cellv (HS.out.at0) 0 rfl, blk_cellv (HS.out.at0) 1 rfl⟩) (fun hHeld => ?_)
        clear hK K
        refine norm_ (a' := ?_) ?_ ?_
        rotate_left
        · show Act.put _ (some 41) _ = _
          simp only [Act.put, List.setIfInBounds_toArray, List.set_cons_zero, List.set_cons_succ, i64_w, i32_w]
          rfl
        refine pure_ (i := 5) (N := some 42) (v := ?_) (a' := ?_) #[true, true, true, true, true, true, false, false, false, false, false, false, false, false, false, false, false, false, false, false, false, false, false, false, false, false, false, false, false, false, false, false, false, false, false, false, false, false, false, false] rfl rfl (by kernel_rfl) (fun _ _ _ h => h) (Or.inl ⟨by rfl, ?_⟩) ?_ ?_
        rotate_left
        · intro w'
          go_simp
          with_reducible rfl
        rotate_left
        · simp only [Act.put, List.setIfInBounds_toArray, List.set_cons_zero, List.set_cons_succ, i64_w, i32_w]
          rfl
        by_cases c294 : t291 = true
        · have H := if_yes c294 H
          have c294b0 : t291 = true := c294
          have c294b1 : (!t291) = false := by rw [c294b0]; rfl
          clear c294
          try simp only [c294b0, Bool.not_true, Bool.not_false]
          refine pure_ (i := 6) (N := some 43) (v := ?_) (a' := ?_) #[true, true, true, true, true, true, true, false, false, false, false, false, false, false, false, false, false, false, false, false, false, false, false, false, false, false, false, false, false, false, false, false, false, false, false, false, false, false, false, false] rfl rfl (by kernel_rfl) (fun _ _ _ h => h) (Or.inl ⟨by rfl, ?_⟩) ?_ ?_
          rotate_left
          · intro w'
            go_simp
            with_reducible rfl
          rotate_left
          · simp only [Act.put, List.setIfInBounds_toArray, List.set_cons_zero, List.set_cons_succ, i64_w, i32_w]
            rfl
          try simp only [c294b0, Bool.not_true, Bool.not_false]
          refine pure_ (i := 8) (N := some 45) (v := ?_) (a' := ?_) #[true, true, true, true, true, true, true, false, true, false, false, false, false, false, false, false, false, false, false, false, false, false, false, false, false, false, false, false, false, false, false, false, false, false, false, false, false, false, false, false] rfl rfl (by kernel_rfl) (fun _ _ _ h => h) (Or.inl ⟨by rfl, ?_⟩) ?_ ?_
          rotate_left
          · intro w'
            go_simp
            with_reducible rfl
          rotate_left
          · simp only [Act.put, List.setIfInBounds_toArray, List.set_cons_zero, List.set_cons_succ, i64_w, i32_w]
            rfl
          try simp only [c294b0, Bool.not_true, Bool.not_false]
          refine pure_ (i := 10) (N := some 47) (v := ?_) (a' := ?_) #[true, true, true, true, true, true, true, false, true, false, true, false, false, false, false, false, false, false, false, false, false, false, false, false, false, false, false, false, false, false, false, false, false, false, false, false, false, false, false, false] rfl rfl (by kernel_rfl) (fun _ _ _ h => h) (Or.inl ⟨by rfl, ?_⟩) ?_ ?_
          rotate_left
          · intro w'
            go_simp
            with_reducible rfl
          rotate_left
          · simp only [Act.put, List.setIfInBounds_toArray, List.set_cons_zero, List.set_cons_succ, i64_w, i32_w]
            rfl
          try simp only [c294b0, Bool.not_true, Bool.not_false]
          refine take_ (i := 7) (N := some 44) (v := ?_) (a' := ?_) #[true, true, true, true, true, true, true, true, true, false, true, false, false, false, false, false, false, false, false, false, false, false, false, false, false, false, false, false, false, false, false, false, false, false, false, false, false, false, false, false] rfl rfl (by kernel_rfl) (fun _ _ _ h => h) (Or.inl ⟨by rfl, ?_⟩) hHeld ?_ ?_
          rotate_left
          · rintro w' hS'
            obtain ⟨s0, s1, s2, s3⟩ := hS'
            go_simp
            with_reducible rfl
          rotate_left
          · simp only [Act.put, List.setIfInBounds_toArray, List.set_cons_zero, List.set_cons_succ, i64_w, i32_w]
            rfl
          try simp only [c294b0, Bool.not_true, Bool.not_false]
          refine take_ (i := 9) (N := some 46) (v := ?_) (a' := ?_) #[true, true, true, true, true, true, true, true, true, true, true, false, false, false, false, false, false, false, false, false, false, false, false, false, false, false, false, false, false, false, false, false, false, false, false, false, false, false, false, false] rfl rfl (by kernel_rfl) (fun _ _ _ h => h) (Or.inl ⟨by rfl, ?_⟩) hHeld ?_ ?_
          rotate_left
          · rintro w' hS'
            obtain ⟨s0, s1, s2, s3⟩ := hS'
            go_simp
            with_reducible rfl
          rotate_left
          · simp only [Act.put, List.setIfInBounds_toArray, List.set_cons_zero, List.set_cons_succ, i64_w, i32_w]
            rfl
          try simp only [c294b0, Bool.not_true, Bool.not_false]
          refine take_ (i := 11) (N := some 48) (v := ?_) (a' := ?_) #[true, true, true, true, true, true, true, true, true, true, true, true, false, false, false, false, false, false, false, false, false, false, false, false, false, false, false, false, false, false, false, false, false, false, false, false, false, false, false, false] rfl rfl (by kernel_rfl) (fun _ _ _ h => h) (Or.inl ⟨by rfl, ?_⟩) hHeld ?_ ?_
          rotate_left
          · rintro w' hS'
            obtain ⟨s0, s1, s2, s3⟩ := hS'
            go_simp
            with_reducible rfl
          rotate_left
          · simp only [Act.put, List.setIfInBounds_toArray, List.set_cons_zero, List.set_cons_succ, i64_w, i32_w]
            rfl
          try simp only [c294b0, Bool.not_true, Bool.not_false]
          refine pure_ (i := 12) (N := some 49) (v := ?_) (a' := ?_) #[true, true, true, true, true, true, true, true, true, true, true, true, true, false, false, false, false, false, false, false, false, false, false, false, false, false, false, false, false, false, false, false, false, false, false, false, false, false, false, false] rfl rfl (by kernel_rfl) (fun _ _ _ h => h) (Or.inl ⟨by rfl, ?_⟩) ?_ ?_
          rotate_left
          · intro w'
            go_simp
            with_reducible rfl
          rotate_left
          · simp only [Act.put, List.setIfInBounds_toArray, List.set_cons_zero, List.set_cons_succ, i64_w, i32_w]
            rfl
          try simp only [c294b0, Bool.not_true, Bool.not_false]
          refine pure_ (i := 13) (N := some 50) (v := ?_) (a' := ?_) #[true, true, true, true, true, true, true, true, true, true, true, true, true, true, false, false, false, false, false, false, false, false, false, false, false, false, false, false, false, false, false, false, false, false, false, false, false, false, false, false] rfl rfl (by kernel_rfl) (fun _ _ _ h => h) (Or.inl ⟨by rfl, ?_⟩) ?_ ?_
          rotate_left
          · intro w'
            go_simp
            with_reducible rfl
          rotate_left
          · simp only [Act.put, List.setIfInBounds_toArray, List.set_cons_zero, List.set_cons_succ, i64_w, i32_w]
            rfl
          try simp only [c294b0, Bool.not_true, Bool.not_false]
          refine pure_ (i := 14) (N := some 51) (v := ?_) (a' := ?_) #[true, true, true, true, true, true, true, true, true, true, true, true, true, true, true, false, false, false, false, false, false, false, false, false, false, false, false, false, false, false, false, false, false, false, false, false, false, false, false, false] rfl rfl (by kernel_rfl) (fun _ _ _ h => h) (Or.inl ⟨by rfl, ?_⟩) ?_ ?_
          rotate_left
          · intro w'
            go_simp
            with_reducible rfl
          rotate_left
          · simp only [Act.put, List.setIfInBounds_toArray, List.set_cons_zero, List.set_cons_succ, i64_w, i32_w]
            rfl
          by_cases c295 : a5 ≥ (wrap64 (a2 + a3))
          · have H := if_yes c295 H
            have c295b0 : decide ((wrap64 (a2 + a3)) ≤ a5) = true := decide_eq_true c295
            clear c295
            try simp only [c295b0, Bool.not_true, Bool.not_false]
            refine pure_ (i := 15) (N := some 52) (v := undef) (a' := ?_) #[true, true, true, true, true, true, true, true, true, true, true, true, true, true, true, true, false, false, false, false, false, false, false, false, false, false, false, false, false, false, false, false, false, false, false, false, false, false, false, false] rfl rfl (by kernel_rfl) (fun _ _ _ h => h) (Or.inr ⟨by rfl, rfl⟩) ?_ ?_
            rotate_left
            · simp only [Act.put, List.setIfInBounds_toArray, List.set_cons_zero, List.set_cons_succ, i64_w, i32_w]
              rfl
            try simp only [c295b0, Bool.not_true, Bool.not_false]
            refine pure_ (i := 16) (N := some 53) (v := undef) (a' := ?_) #[true, true, true, true, true, true, true, true, true, true, true, true, true, true, true, true, true, false, false, false, false, false, false, false, false, false, false, false, false, false, false, false, false, false, false, false, false, false, false, false] rfl rfl (by kernel_rfl) (fun _ _ _ h => h) (Or.inr ⟨by rfl, rfl⟩) ?_ ?_
            rotate_left
            · simp only [Act.put, List.setIfInBounds_toArray, List.set_cons_zero, List.set_cons_succ, i64_w, i32_w]
              rfl
            try simp only [c295b0, Bool.not_true, Bool.not_false]
            refine pure_ (i := 17) (N := some 54) (v := undef) (a' := ?_) #[true, true, true, true, true, true, true, true, true, true, true, true, true, true, true, true, true, true, false, false, false, false, false, false, false, false, false, false, false, false, false, false, false, false, false, false, false, false, false, false] rfl rfl (by kernel_rfl) (fun _ _ _ h => h) (Or.inr ⟨by rfl, rfl⟩) ?_ ?_
            rotate_left
            · simp only [Act.put, List.setIfInBounds_toArray, List.set_cons_zero, List.set_cons_succ, i64_w, i32_w]
              rfl
            try simp only [c295b0, Bool.not_true, Bool.not_false]
            refine pure_ (i := 18) (N := some 55) (v := undef) (a' := ?_) #[true, true, true, true, true, true, true, true, true, true, true, true, true, true, true, true, true, true, true, false, false, false, false, false, false, false, false, false, false, false, false, false, false, false, false, false, false, false, false, false] rfl rfl (by kernel_rfl) (fun _ _ _ h => h) (Or.inr ⟨by rfl, rfl⟩) ?_ ?_
            rotate_left
            · simp only [Act.put, List.setIfInBounds_toArray, List.set_cons_zero, List.set_cons_succ, i64_w, i32_w]
              rfl
            try simp only [c295b0, Bool.not_true, Bool.not_false]
            refine pure_ (i := 19) (N := some 56) (v := undef) (a' := ?_) #[true, true, true, true, true, true, true, true, true, true, true, true, true, true, true, true, true, true, true, true, false, false, false, false, false, false, false, false, false, false, false, false, false, false, false, false, false, false, false, false] rfl rfl (by kernel_rfl) (fun _ _ _ h => h) (Or.inr ⟨by rfl, rfl⟩) ?_ ?_
            rotate_left
            · simp only [Act.put, List.setIfInBounds_toArray, List.set_cons_zero, List.set_cons_succ, i64_w, i32_w]
              rfl
            try simp only [c295b0, Bool.not_true, Bool.not_false]
            refine pure_ (i := 20) (N := some 57) (v := undef) (a' := ?_) #[true, true, true, true, true, true, true, true, true, true, true, true, true, true, true, true, true, true, true, true, true, false, false, false, false, false, false, false, false, false, false, false, false, false, false, false, false, false, false, false] rfl rfl (by kernel_rfl) (fun _ _ _ h => h) (Or.inr ⟨by rfl, rfl⟩) ?_ ?_
            rotate_left
            · simp only [Act.put, List.setIfInBounds_toArray, List.set_cons_zero, List.set_cons_succ, i64_w, i32_w]
              rfl
            try simp only [c295b0, Bool.not_true, Bool.not_false]
            refine pure_ (i := 21) (N := some 58) (v := undef) (a' := ?_) #[true, true, true, true, true, true, true, true, true, true, true, true, true, true, true, true, true, true, true, true, true, true, false, false, false, false, false, false, false, false, false, false, false, false, false, false, false, false, false, false] rfl rfl (by kernel_rfl) (fun _ _ _ h => h) (Or.inr ⟨by rfl, rfl⟩) ?_ ?_
            rotate_left
            · simp only [Act.put, List.setIfInBounds_toArray, List.set_cons_zero, List.set_cons_succ, i64_w, i32_w]
              rfl
            try simp only [c295b0, Bool.not_true, Bool.not_false]
            refine pure_ (i := 22) (N := some 59) (v := undef) (a' := ?_) #[true, true, true, true, true, true, true, true, true, true, true, true, true, true, true, true, true, true, true, true, true, true, true, false, false, false, false, false, false, false, false, false, false, false, false, false, false, false, false, false] rfl rfl (by kernel_rfl) (fun _ _ _ h => h) (Or.inr ⟨by rfl, rfl⟩) ?_ ?_
            rotate_left
            · simp only [Act.put, List.setIfInBounds_toArray, List.set_cons_zero, List.set_cons_succ, i64_w, i32_w]
              rfl
            try simp only [c294b0, Bool.not_true, Bool.not_false]
            refine pure_ (i := 23) (N := some 60) (v := ?_) (a' := ?_) #[true, true, true, true, true, true, true, true, true, true, true, true, true, true, true, true, true, true, true, true, true, true, true, true, false, false, false, false, false, false, false, false, false, false, false, false, false, false, false, false] rfl rfl (by kernel_rfl) (fun _ _ _ h => h) (Or.inl ⟨by rfl, ?_⟩) ?_ ?_
            rotate_left
            · intro w'
              go_simp
              with_reducible rfl
            rotate_left
            · simp only [Act.put, List.setIfInBounds_toArray, List.set_cons_zero, List.set_cons_succ, i64_w, i32_w]
              rfl
            refine pure_ (i := 24) (N := some 61) (v := ?_) (a' := ?_) #[true, true, true, true, true, true, true, true, true, true, true, true, true, true, true, true, true, true, true, true, true, true, true, true, true, false, false, false, false, false, false, false, false, false, false, false, false, false, false, false] rfl rfl (by kernel_rfl) (fun _ _ _ h => h) (Or.inl ⟨by rfl, ?_⟩) ?_ ?_
            rotate_left
            · intro w'
              go_simp
              with_reducible rfl
            rotate_left
            · simp only [Act.put, List.setIfInBounds_toArray, List.set_cons_zero, List.set_cons_succ, i64_w, i32_w]
              rfl
            refine pure_ (i := 25) (N := some 62) (v := ?_) (a' := ?_) #[true, true, true, true, true, true, true, true, true, true, true, true, true, true, true, true, true, true, true, true, true, true, true, true, true, true, false, false, false, false, false, false, false, false, false, false, false, false, false, false] rfl rfl (by kernel_rfl) (fun _ _ _ h => h) (Or.inl ⟨by rfl, ?_⟩) ?_ ?_
            rotate_left
            · intro w'
              go_simp
              with_reducible rfl
            rotate_left
            · simp only [Act.put, List.setIfInBounds_toArray, List.set_cons_zero, List.set_cons_succ, i64_w, i32_w]
              rfl
            refine pure_ (i := 26) (N := some 63) (v := ?_) (a' := ?_) #[true, true, true, true, true, true, true, true, true, true, true, true, true, true, true, true, true, true, true, true, true, true, true, true, true, true, true, false, false, false, false, false, false, false, false, false, false, false, false, false] rfl rfl (by kernel_rfl) (fun _ _ _ h => h) (Or.inl ⟨by rfl, ?_⟩) ?_ ?_
            rotate_left
            · intro w'
              go_simp
              with_reducible rfl
            rotate_left
            · simp only [Act.put, List.setIfInBounds_toArray, List.set_cons_zero, List.set_cons_succ, i64_w, i32_w]
              rfl
            refine pure_ (i := 27) (N := some 64) (v := ?_) (a' := ?_) #[true, true, true, true, true, true, true, true, true, true, true, true, true, true, true, true, true, true, true, true, true, true, true, true, true, true, true, true, false, false, false, false, false, false, false, false, false, false, false, false] rfl rfl (by kernel_rfl) (fun _ _ _ h => h) (Or.inl ⟨by rfl, ?_⟩) ?_ ?_
            rotate_left
            · intro w'
              go_simp
              with_reducible rfl
            rotate_left
            · simp only [Act.put, List.setIfInBounds_toArray, List.set_cons_zero, List.set_cons_succ, i64_w, i32_w]
              rfl
            refine pure_ (i := 29) (N := some 66) (v := ?_) (a' := ?_) #[true, true, true, true, true, true, true, true, true, true, true, true, true, true, true, true, true, true, true, true, true, true, true, true, true, true, true, true, false, true, false, false, false, false, false, false, false, false, false, false] rfl rfl (by kernel_rfl) (fun _ _ _ h => h) (Or.inl ⟨by rfl, ?_⟩) ?_ ?_
            rotate_left
            · intro w'
              go_simp
              with_reducible rfl
            rotate_left
            · simp only [Act.put, List.setIfInBounds_toArray, List.set_cons_zero, List.set_cons_succ, i64_w, i32_w]
              rfl
            refine pure_ (i := 32) (N := some 69) (v := ?_) (a' := ?_) #[true, true, true, true, true, true, true, true, true, true, true, true, true, true, true, true, true, true, true, true, true, true, true, true, true, true, true, true, false, true, false, false, true, false, false, false, false, false, false, false] rfl rfl (by kernel_rfl) (fun _ _ _ h => h) (Or.inl ⟨by rfl, ?_⟩) ?_ ?_
            rotate_left
            · intro w'
              go_simp
              with_reducible rfl
            rotate_left
            · simp only [Act.put, List.setIfInBounds_toArray, List.set_cons_zero, List.set_cons_succ, i64_w, i32_w]
              rfl
            refine pure_ (i := 33) (N := some 70) (v := ?_) (a' := ?_) #[true, true, true, true, true, true, true, true, true, true, true, true, true, true, true, true, true, true, true, true, true, true, true, true, true, true, true, true, false, true, false, false, true, true, false, false, false, false, false, false] rfl rfl (by kernel_rfl) (fun _ _ _ h => h) (Or.inl ⟨by rfl, ?_⟩) ?_ ?_
            rotate_left
            · intro w'
              go_simp
              with_reducible rfl
            rotate_left
            · simp only [Act.put, List.setIfInBounds_toArray, List.set_cons_zero, List.set_cons_succ, i64_w, i32_w]
              rfl
            refine pure_ (i := 35) (N := some 72) (v := ?_) (a' := ?_) #[true, true, true, true, true, true, true, true, true, true, true, true, true, true, true, true, true, true, true, true, true, true, true, true, true, true, true, true, false, true, false, false, true, true, false, true, false, false, false, false] rfl rfl (by kernel_rfl) (fun _ _ _ h => h) (Or.inl ⟨by rfl, ?_⟩) ?_ ?_
            rotate_left
            · intro w'
              go_simp
              with_reducible rfl
            rotate_left
            · simp only [Act.put, List.setIfInBounds_toArray, List.set_cons_zero, List.set_cons_succ, i64_w, i32_w]
              rfl
            refine take_ (i := 28) (N := some 65) (v := ?_) (a' := ?_) #[true, true, true, true, true, true, true, true, true, true, true, true, true, true, true, true, true, true, true, true, true, true, true, true, true, true, true, true, true, true, false, false, true, true, false, true, false, false, false, false] rfl rfl (by kernel_rfl) (fun _ _ _ h => h) (Or.inl ⟨by rfl, ?_⟩) hHeld ?_ ?_
            rotate_left
            · rintro w' hS'
              obtain ⟨s0, s1, s2, s3⟩ := hS'
              go_simp
              with_reducible rfl
            rotate_left
            · simp only [Act.put, List.setIfInBounds_toArray, List.set_cons_zero, List.set_cons_succ, i64_w, i32_w]
              rfl
            refine take_ (i := 30) (N := some 67) (v := ?_) (a' := ?_) #[true, true, true, true, true, true, true, true, true, true, true, true, true, true, true, true, true, true, true, true, true, true, true, true, true, true, true, true, true, true, true, false, true, true, false, true, false, false, false, false] rfl rfl (by kernel_rfl) (fun _ _ _ h => h) (Or.inl ⟨by rfl, ?_⟩) hHeld ?_ ?_
            rotate_left
            · rintro w' hS'
              obtain ⟨s0, s1, s2, s3⟩ := hS'
              go_simp
              with_reducible rfl
            rotate_left
            · simp only [Act.put, List.setIfInBounds_toArray, List.set_cons_zero, List.set_cons_succ, i64_w, i32_w]
              rfl
            refine take_ (i := 34) (N := some 71) (v := ?_) (a' := ?_) #[true, true, true, true, true, true, true, true, true, true, true, true, true, true, true, true, true, true, true, true, true, true, true, true, true, true, true, true, true, true, true, false, true, true, true, true, false, false, false, false] rfl rfl (by kernel_rfl) (fun _ _ _ h => h) (Or.inl ⟨by rfl, ?_⟩) hHeld ?_ ?_
            rotate_left
            · rintro w' hS'
              obtain ⟨s0, s1, s2, s3⟩ := hS'
              go_simp
              with_reducible rfl
            rotate_left
            · simp only [Act.put, List.setIfInBounds_toArray, List.set_cons_zero, List.set_cons_succ, i64_w, i32_w]
              rfl
            refine take_ (i := 36) (N := some 73) (v := ?_) (a' := ?_) #[true, true, true, true, true, true, true, true, true, true, true, true, true, true, true, true, true, true, true, true, true, true, true, true, true, true, true, true, true, true, true, false, true, true, true, true, true, false, false, false] rfl rfl (by kernel_rfl) (fun _ _ _ h => h) (Or.inl ⟨by rfl, ?_⟩) hHeld ?_ ?_
            rotate_left
            · rintro w' hS'
              obtain ⟨s0, s1, s2, s3⟩ := hS'
              go_simp
              with_reducible rfl
            rotate_left
            · simp only [Act.put, List.setIfInBounds_toArray, List.set_cons_zero, List.set_cons_succ, i64_w, i32_w]
              rfl
            refine one_ (i := 31) (N := some 68) #[true, true, true, true, true, true, true, true, true, true, true, true, true, true, true, true, true, true, true, true, true, true, true, true, true, true, true, true, true, true, true, true, true, true, true, true, true, false, false, false] rfl rfl (by kernel_rfl) (by decide) (fun K hK => ?_)
            obtain ⟨t296, HA297, H⟩ := bind_some H
            refine goes_ Try.func35 (by kernel_rfl) rfl #[.int .u32 t274.1, .int .i64 a5, .int .i64 a6] (by rfl) rfl rfl (by (try simp only [List.map_toArray, List.map_cons, List.map_nil]); first | done | rfl) ?_
            refine (pack_Get.calls t274.1 a5 a6 t296 _ ⟨HS.out.begin (l := []) (rest := [blk g8 #[.int .i64 a2, .int .i64 a3, .int .u32 a4] 49, blk g11 #[.int .i64 a5, .int .i64 a6, .int .u32 a7] 49])⟩ HA297).mono ?_
            rintro e_ w298 ⟨rfl, hS⟩
            have HS_ : Aside0 (Sep (fps []) w [blk g8 #[.int .i64 a2, .int .i64 a3, .int .u32 a4] 49, blk g11 #[.int .i64 a5, .int .i64 a6, .int .u32 a7] 49] w298) := ⟨HS.out.call (l := []) (rest := [blk g8 #[.int .i64 a2, .int .i64 a3, .int .u32 a4] 49, blk g11 #[.int .i64 a5, .int .i64 a6, .int .u32 a7] 49]) hS⟩
            clear HS hS
            have HS := HS_
            clear HS_
            refine ⟨_, rfl, ?_⟩
            refine hK.out _ _ (⟨blk_cellv (HS.out.at1) 0 rfl, blk_cellv (HS.out.at1) 1 rfl, blk_cellv (HS.out.at0) 0 rfl, blk_cellv (HS.out.at0) 1 rfl⟩) (fun hHeld => ?_)
            clear hK K
            refine norm_ (a' := ?_) ?_ ?_
            rotate_left
            · show Act.put _ (some 68) _ = _
              simp only [Act.put, List.setIfInBounds_toArray, List.set_cons_zero, List.set_cons_succ, i64_w, i32_w]
              rfl
            refine one_ (i := 37) (N := some 74) #[true, true, true, true, true, true, true, true, true, true, true, true, true, true, true, true, true, true, true, true, true, true, true, true, true, true, true, true, true, true, true, true, true, true, true, true, true, true, false, false] rfl rfl (by kernel_rfl) (by decide) (fun K hK => ?_)
            obtain ⟨t299, HA300, H⟩ := bind_some H
            refine goes_ Try.func35 (by kernel_rfl) rfl #[.int .u32 a1, .int .i64 a5, .int .i64 a6] (by rfl) rfl rfl (by (try simp only [List.map_toArray, List.map_cons, List.map_nil]); first | done | rfl) ?_
            refine (pack_Get.calls a1 a5 a6 t299 _ ⟨HS.out.begin (l := []) (rest := [blk g8 #[.int .i64 a2, .int .i64 a3, .int .u32 a4] 49, blk g11 #[.int .i64 a5, .int .i64 a6, .int .u32 a7] 49])⟩ HA300).mono ?_
            rintro e_ w301 ⟨rfl, hS⟩
            have HS_ : Aside0 (Sep (fps []) w [blk g8 #[.int .i64 a2, .int .i64 a3, .int .u32 a4] 49, blk g11 #[.int .i64 a5, .int .i64 a6, .int .u32 a7] 49] w301) := ⟨HS.out.call (l := []) (rest := [blk g8 #[.int .i64 a2, .int .i64 a3, .int .u32 a4] 49, blk g11 #[.int .i64 a5, .int .i64 a6, .int .u32 a7] 49]) hS⟩
            clear HS hS
            have HS := HS_
            clear HS_
            refine ⟨_, rfl, ?_⟩
            refine hK.out _ _ (⟨blk_cellv (HS.out.at1) 0 rfl, blk_cellv (HS.out.at1) 1 rfl, blk_cellv (HS.out.at0) 0 rfl, blk_cellv (HS.out.at0) 1 rfl⟩) (fun hHeld => ?_)
            clear hK K
            refine norm_ (a' := ?_) ?_ ?_
            rotate_left
            · show Act.put _ (some 74) _ = _
              simp only [Act.put, List.setIfInBounds_toArray, List.set_cons_zero, List.set_cons_succ, i64_w, i32_w]
              rfl
            refine pure_ (i := 38) (N := some 75) (v := ?_) (a' := ?_) #[true, true, true, true, true, true, true, true, true, true, true, true, true, true, true, true, true, true, true, true, true, true, true, true, true, true, true, true, true, true, true, true, true, true, true, true, true, true, true, false] rfl rfl (by kernel_rfl) (fun _ _ _ h => h) (Or.inl ⟨by rfl, ?_⟩) ?_ ?_
            rotate_left
            · intro w'
              go_simp
              with_reducible rfl
            rotate_left
            · simp only [Act.put, List.setIfInBounds_toArray, List.set_cons_zero, List.set_cons_succ, i64_w, i32_w]
              rfl
            refine pure_ (i := 39) (N := some 76) (v := ?_) (a' := ?_) #[true, true, true, true, true, true, true, true, true, true, true, true, true, true, true, true, true, true, true, true, true, true, true, true, true, true, true, true, true, true, true, true, true, true, true, true, true, true, true, true] rfl rfl (by kernel_rfl) (fun _ _ _ h => h) (Or.inl ⟨by rfl, ?_⟩) ?_ ?_
            rotate_left
            · intro w'
              go_simp
              with_reducible rfl
            rotate_left
            · simp only [Act.put, List.setIfInBounds_toArray, List.set_cons_zero, List.set_cons_succ, i64_w, i32_w]
              rfl
            refine done_ (by kernel_rfl) ?_
            by_cases c302 : t296 = t299
            · have H := if_yes c302 H
              have c302b0 : (t296 == t299) = true := beq_iff_eq.mpr c302
              have c302b1 : (t296 != t299) = false := bne_eq_false_iff_eq.mpr c302
              clear c302
              go_wp2_with fail
              refine start_ (n := 17) (S := (fun w' => w'.cell? ⟨g8, 0, none⟩ = some (.int .i64 a2) ∧ w'.cell? ⟨g8, 1, none⟩ = some (.int .i64 a3))) (ds := []) #[false, false, false, false, false, false, false, false, false, false, false, false, false, false, false, false, false] (by kernel_rfl) rfl rfl (⟨blk_cellv ((HS.out.drew).at0) 0 rfl, blk_cellv ((HS.out.drew).at0) 1 rfl⟩) (fun hHeld => ?_)
              have HS_ := Aside0.mk HS.out.drew
              clear HS
              generalize World.drew _ = w304 at HS_ hHeld ⊢
              have HS := HS_
              clear HS_
              refine pure_ (i := 0) (N := some 78) (v := ?_) (a' := ?_) #[true, false, false, false, false, false, false, false, false, false, false, false, false, false, false, false, false] rfl rfl (by kernel_rfl) (fun _ _ _ h => h) (Or.inl ⟨by rfl, ?_⟩) ?_ ?_
              rotate_left
              · intro w'
                go_simp
                with_reducible rfl
              rotate_left
              · simp only [Act.put, List.setIfInBounds_toArray, List.set_cons_zero, List.set_cons_succ, i64_w, i32_w]
                rfl
              refine pure_ (i := 1) (N := some 79) (v := ?_) (a' := ?_) #[true, true, false, false, false, false, false, false, false, false, false, false, false, false, false, false, false] rfl rfl (by kernel_rfl) (fun _ _ _ h => h) (Or.inl ⟨by rfl, ?_⟩) ?_ ?_
              rotate_left
              · intro w'
                go_simp
                with_reducible rfl
              rotate_left
              · simp only [Act.put, List.setIfInBounds_toArray, List.set_cons_zero, List.set_cons_succ, i64_w, i32_w]
                rfl
              refine pure_ (i := 3) (N := some 81) (v := ?_) (a' := ?_) #[true, true, false, true, false, false, false, false, false, false, false, false, false, false, false, false, false] rfl rfl (by kernel_rfl) (fun _ _ _ h => h) (Or.inl ⟨by rfl, ?_⟩) ?_ ?_
              rotate_left
              · intro w'
                go_simp
                with_reducible rfl
              rotate_left
              · simp only [Act.put, List.setIfInBounds_toArray, List.set_cons_zero, List.set_cons_succ, i64_w, i32_w]
                rfl
              refine pure_ (i := 5) (N := some 83) (v := ?_) (a' := ?_) #[true, true, false, true, false, true, false, false, false, false, false, false, false, false, false, false, false] rfl rfl (by kernel_rfl) (fun _ _ _ h => h) (Or.inl ⟨by rfl, ?_⟩) ?_ ?_
              rotate_left
              · intro w'
                go_simp
                with_reducible rfl
              rotate_left
              · simp only [Act.put, List.setIfInBounds_toArray, List.set_cons_zero, List.set_cons_succ, i64_w, i32_w]
                rfl
              refine pure_ (i := 6) (N := some 84) (v := ?_) (a' := ?_) #[true, true, false, true, false, true, true, false, false, false, false, false, false, false, false, false, false] rfl rfl (by kernel_rfl) (fun _ _ _ h => h) (Or.inl ⟨by rfl, ?_⟩) ?_ ?_
              rotate_left
              · intro w'
                go_simp
                with_reducible rfl
              rotate_left
              · simp only [Act.put, List.setIfInBounds_toArray, List.set_cons_zero, List.set_cons_succ, i64_w, i32_w]
                rfl
              refine pure_ (i := 8) (N := some 86) (v := ?_) (a' := ?_) #[true, true, false, true, false, true, true, false, true, false, false, false, false, false, false, false, false] rfl rfl (by kernel_rfl) (fun _ _ _ h => h) (Or.inl ⟨by rfl, ?_⟩) ?_ ?_
              rotate_left
              · intro w'
                go_simp
                with_reducible rfl
              rotate_left
              · simp only [Act.put, List.setIfInBounds_toArray, List.set_cons_zero, List.set_cons_succ, i64_w, i32_w]
                rfl
              refine take_ (i := 2) (N := some 80) (v := ?_) (a' := ?_) #[true, true, true, true, false, true, true, false, true, false, false, false, false, false, false, false, false] rfl rfl (by kernel_rfl) (fun _ _ _ h => h) (Or.inl ⟨by rfl, ?_⟩) hHeld ?_ ?_
              rotate_left
              · rintro w' hS'
                obtain ⟨s0, s1⟩ := hS'
                go_simp
                with_reducible rfl
              rotate_left
              · simp only [Act.put, List.setIfInBounds_toArray, List.set_cons_zero, List.set_cons_succ, i64_w, i32_w]
                rfl
              refine take_ (i := 4) (N := some 82) (v := ?_) (a' := ?_) #[true, true, true, true, true, true, true, false, true, false, false, false, false, false, false, false, false] rfl rfl (by kernel_rfl) (fun _ _ _ h => h) (Or.inl ⟨by rfl, ?_⟩) hHeld ?_ ?_
              rotate_left
              · rintro w' hS'
                obtain ⟨s0, s1⟩ := hS'
                go_simp
                with_reducible rfl
              rotate_left
              · simp only [Act.put, List.setIfInBounds_toArray, List.set_cons_zero, List.set_cons_succ, i64_w, i32_w]
                rfl
              refine take_ (i := 7) (N := some 85) (v := ?_) (a' := ?_) #[true, true, true, true, true, true, true, true, true, false, false, false, false, false, false, false, false] rfl rfl (by kernel_rfl) (fun _ _ _ h => h) (Or.inl ⟨by rfl, ?_⟩) hHeld ?_ ?_
              rotate_left
              · rintro w' hS'
                obtain ⟨s0, s1⟩ := hS'
                go_simp
                with_reducible rfl
              rotate_left
              · simp only [Act.put, List.setIfInBounds_toArray, List.set_cons_zero, List.set_cons_succ, i64_w, i32_w]
                rfl
              refine take_ (i := 9) (N := some 87) (v := ?_) (a' := ?_) #[true, true, true, true, true, true, true, true, true, true, false, false, false, false, false, false, false] rfl rfl (by kernel_rfl) (fun _ _ _ h => h) (Or.inl ⟨by rfl, ?_⟩) hHeld ?_ ?_
              rotate_left
              · rintro w' hS'
                obtain ⟨s0, s1⟩ := hS'
                go_simp
                with_reducible rfl
              rotate_left
              · simp only [Act.put, List.setIfInBounds_toArray, List.set_cons_zero, List.set_cons_succ, i64_w, i32_w]
                rfl
              refine one_ (i := 10) (N := some 88) #[true, true, true, true, true, true, true, true, true, true, true, false, false, false, false, false, false] rfl rfl (by kernel_rfl) (by decide) (fun K hK => ?_)
              obtain ⟨t305, HA306, H⟩ := bind_some H
              refine goes_ Try.func35 (by kernel_rfl) rfl #[.int .u32 a1, .int .i64 a2, .int .i64 a3] (by rfl) rfl rfl (by (try simp only [List.map_toArray, List.map_cons, List.map_nil]); first | done | rfl) ?_
              refine (pack_Get.calls a1 a2 a3 t305 _ ⟨HS.out.begin (l := []) (rest := [blk g8 #[.int .i64 a2, .int .i64 a3, .int .u32 a4] 49, blk g11 #[.int .i64 a5, .int .i64 a6, .int .u32 a7] 49])⟩ HA306).mono ?_
              rintro e_ w307 ⟨rfl, hS⟩
              have HS_ : Aside0 (Sep (fps []) w [blk g8 #[.int .i64 a2, .int .i64 a3, .int .u32 a4] 49, blk g11 #[.int .i64 a5, .int .i64 a6, .int .u32 a7] 49] w307) := ⟨HS.out.call (l := []) (rest := [blk g8 #[.int .i64 a2, .int .i64 a3, .int .u32 a4] 49, blk g11 #[.int .i64 a5, .int .i64 a6, .int .u32 a7] 49]) hS⟩
              clear HS hS
              have HS := HS_
              clear HS_
              refine ⟨_, rfl, ?_⟩
              refine hK.out _ _ (⟨blk_cellv (HS.out.at0) 0 rfl, blk_cellv (HS.out.at0) 1 rfl⟩) (fun hHeld => ?_)
              clear hK K
              refine norm_ (a' := ?_) ?_ ?_
              rotate_left
              · show Act.put _ (some 88) _ = _
                simp only [Act.put, List.setIfInBounds_toArray, List.set_cons_zero, List.set_cons_succ, i64_w, i32_w]
                rfl
              refine one_ (i := 11) (N := some 89) #[true, true, true, true, true, true, true, true, true, true, true, true, false, false, false, false, false] rfl rfl (by kernel_rfl) (by decide) (fun K hK => ?_)
              obtain ⟨t308, HA309, H⟩ := bind_some H
              refine goes_ Try.func41 (by kernel_rfl) rfl #[.int .u32 t274.1, .int .i64 a2, .int .i64 a3, .int .u32 t305] (by rfl) rfl rfl (by (try simp only [List.map_toArray, List.map_cons, List.map_nil]); first | done | rfl) ?_
              refine (pack_Put.calls t274.1 a2 a3 t305 t308 _ ⟨HS.out.begin (l := []) (rest := [blk g8 #[.int .i64 a2, .int .i64 a3, .int .u32 a4] 49, blk g11 #[.int .i64 a5, .int .i64 a6, .int .u32 a7] 49])⟩ HA309).mono ?_
              rintro e_ w310 ⟨rfl, hS⟩
              have HS_ : Aside0 (Sep (fps []) w [blk g8 #[.int .i64 a2, .int .i64 a3, .int .u32 a4] 49, blk g11 #[.int .i64 a5, .int .i64 a6, .int .u32 a7] 49] w310) := ⟨HS.out.call (l := []) (rest := [blk g8 #[.int .i64 a2, .int .i64 a3, .int .u32 a4] 49, blk g11 #[.int .i64 a5, .int .i64 a6, .int .u32 a7] 49]) hS⟩
              clear HS hS
              have HS := HS_
              clear HS_
              refine ⟨_, rfl, ?_⟩
              refine hK.out _ _ (⟨blk_cellv (HS.out.at0) 0 rfl, blk_cellv (HS.out.at0) 1 rfl⟩) (fun hHeld => ?_)
              clear hK K
              refine norm_ (a' := ?_) ?_ ?_
              rotate_left
              · show Act.put _ (some 89) _ = _
                simp only [Act.put, List.setIfInBounds_toArray, List.set_cons_zero, List.set_cons_succ, i64_w, i32_w]
                rfl
              refine pure_ (i := 12) (N := some 77) (v := ?_) (a' := ?_) #[true, true, true, true, true, true, true, true, true, true, true, true, true, false, false, false, false] rfl rfl (by kernel_rfl) (fun _ _ _ h => h) (Or.inl ⟨by rfl, ?_⟩) ?_ ?_
              rotate_left
              · intro w'
                go_simp
                with_reducible rfl
              rotate_left
              · simp only [Act.put, List.setIfInBounds_toArray, List.set_cons_zero, List.set_cons_succ, i64_w, i32_w]
                rfl
              refine pure_ (i := 13) (N := some 90) (v := ?_) (a' := ?_) #[true, true, true, true, true, true, true, true, true, true, true, true, true, true, false, false, false] rfl rfl (by kernel_rfl) (fun _ _ _ h => h) (Or.inl ⟨by rfl, ?_⟩) ?_ ?_
              rotate_left
              · intro w'
                go_simp
                with_reducible rfl
              rotate_left
              · simp only [Act.put, List.setIfInBounds_toArray, List.set_cons_zero, List.set_cons_succ, i64_w, i32_w]
                rfl
              refine pure_ (i := 14) (N := some 91) (v := ?_) (a' := ?_) #[true, true, true, true, true, true, true, true, true, true, true, true, true, true, true, false, false] rfl rfl (by kernel_rfl) (fun _ _ _ h => h) (Or.inl ⟨by rfl, ?_⟩) ?_ ?_
              rotate_left
              · intro w'
                go_simp
                with_reducible rfl
              rotate_left
              · simp only [Act.put, List.setIfInBounds_toArray, List.set_cons_zero, List.set_cons_succ, i64_w, i32_w]
                rfl
              refine pure_ (i := 15) (N := some 9) (v := ?_) (a' := ?_) #[true, true, true, true, true, true, true, true, true, true, true, true, true, true, true, true, false] rfl rfl (by kernel_rfl) (fun _ _ _ h => h) (Or.inl ⟨by rfl, ?_⟩) ?_ ?_
              rotate_left
              · intro w'
                go_simp
                with_reducible rfl
              rotate_left
              · simp only [Act.put, List.setIfInBounds_toArray, List.set_cons_zero, List.set_cons_succ, i64_w, i32_w]
                rfl
              refine pure_ (i := 16) (N := some 10) (v := ?_) (a' := ?_) #[true, true, true, true, true, true, true, true, true, true, true, true, true, true, true, true, true] rfl rfl (by kernel_rfl) (fun _ _ _ h => h) (Or.inl ⟨by rfl, ?_⟩) ?_ ?_
              rotate_left
              · intro w'
                go_simp
                with_reducible rfl
              rotate_left
              · simp only [Act.put, List.setIfInBounds_toArray, List.set_cons_zero, List.set_cons_succ, i64_w, i32_w]
                rfl
              refine done_ (by kernel_rfl) ?_
              by_cases c311 : t308.2 = 0
              · have H := if_yes c311 H
                have c311b0 : (t308.2 == 0) = true := beq_iff_eq.mpr c311
                have c311b1 : (t308.2 != 0) = false := bne_eq_false_iff_eq.mpr c311
                clear c311
                go_wp2_with fail
                go_ret
                rw [← some_eq H]
                exact ⟨(by first | rfl | (simp [IntKind.wrap_u32]; done)), (HS.out).keep (l := []) (rest := [blk g8 #[.int .i64 a2, .int .i64 a3, .int .u32 a4] 49, blk g11 #[.int .i64 a5, .int .i64 a6, .int .u32 a7] 49])⟩
              · have H := if_no c311 H
                have c311b0 : (t308.2 == 0) = false := beq_eq_false_iff_ne.mpr c311
                have c311b1 : (t308.2 != 0) = true := bne_iff_ne.mpr c311
                clear c311
                go_wp2_with fail
                go_ret
                rw [← some_eq H]
                exact ⟨(by first | rfl | (simp [IntKind.wrap_u32]; done)), (HS.out).keep (l := []) (rest := [blk g8 #[.int .i64 a2, .int .i64 a3, .int .u32 a4] 49, blk g11 #[.int .i64 a5, .int .i64 a6, .int .u32 a7] 49])⟩
            · have H := if_no c302 H
              have c302b0 : (t296 == t299) = false := beq_eq_false_iff_ne.mpr c302
              have c302b1 : (t296 != t299) = true := bne_iff_ne.mpr c302
              clear c302
              go_wp2_with fail
              go_ret
              rw [← some_eq H]
              exact ⟨(by first | rfl | (simp [IntKind.wrap_u32]; done)), (HS.out).keep (l := []) (rest := [blk g8 #[.int .i64 a2, .int .i64 a3, .int .u32 a4] 49, blk g11 #[.int .i64 a5, .int .i64 a6, .int .u32 a7] 49])⟩
          · have H := if_no c295 H
            have c295b0 : decide ((wrap64 (a2 + a3)) ≤ a5) = false := decide_eq_false c295
            clear c295
            try simp only [c295b0, Bool.not_true, Bool.not_false]
            refine pure_ (i := 15) (N := some 52) (v := ?_) (a' := ?_) #[true, true, true, true, true, true, true, true, true, true, true, true, true, true, true, true, false, false, false, false, false, false, false, false, false, false, false, false, false, false, false, false, false, false, false, false, false, false, false, false] rfl rfl (by kernel_rfl) (fun _ _ _ h => h) (Or.inl ⟨by rfl, ?_⟩) ?_ ?_
            rotate_left
            · intro w'
              go_simp
              with_reducible rfl
            rotate_left
            · simp only [Act.put, List.setIfInBounds_toArray, List.set_cons_zero, List.set_cons_succ, i64_w, i32_w]
              rfl
            try simp only [c295b0, Bool.not_true, Bool.not_false]
            refine pure_ (i := 17) (N := some 54) (v := ?_) (a' := ?_) #[true, true, true, true, true, true, true, true, true, true, true, true, true, true, true, true, false, true, false, false, false, false, false, false, false, false, false, false, false, false, false, false, false, false, false, false, false, false, false, false] rfl rfl (by kernel_rfl) (fun _ _ _ h => h) (Or.inl ⟨by rfl, ?_⟩) ?_ ?_
            rotate_left
            · intro w'
              go_simp
              with_reducible rfl
            rotate_left
            · simp only [Act.put, List.setIfInBounds_toArray, List.set_cons_zero, List.set_cons_succ, i64_w, i32_w]
              rfl
            try simp only [c295b0, Bool.not_true, Bool.not_false]
            refine pure_ (i := 19) (N := some 56) (v := ?_) (a' := ?_) #[true, true, true, true, true, true, true, true, true, true, true, true, true, true, true, true, false, true, false, true, false, false, false, false, false, false, false, false, false, false, false, false, false, false, false, false, false, false, false, false] rfl rfl (by kernel_rfl) (fun _ _ _ h => h) (Or.inl ⟨by rfl, ?_⟩) ?_ ?_
            rotate_left
            · intro w'
              go_simp
              with_reducible rfl
            rotate_left
            · simp only [Act.put, List.setIfInBounds_toArray, List.set_cons_zero, List.set_cons_succ, i64_w, i32_w]
              rfl
            try simp only [c295b0, Bool.not_true, Bool.not_false]
            refine take_ (i := 16) (N := some 53) (v := ?_) (a' := ?_) #[true, true, true, true, true, true, true, true, true, true, true, true, true, true, true, true, true, true, false, true, false, false, false, false, false, false, false, false, false, false, false, false, false, false, false, false, false, false, false, false] rfl rfl (by kernel_rfl) (fun _ _ _ h => h) (Or.inl ⟨by rfl, ?_⟩) hHeld ?_ ?_
            rotate_left
            · rintro w' hS'
              obtain ⟨s0, s1, s2, s3⟩ := hS'
              go_simp
              with_reducible rfl
            rotate_left
            · simp only [Act.put, List.setIfInBounds_toArray, List.set_cons_zero, List.set_cons_succ, i64_w, i32_w]
              rfl
            try simp only [c295b0, Bool.not_true, Bool.not_false]
            refine take_ (i := 18) (N := some 55) (v := ?_) (a' := ?_) #[true, true, true, true, true, true, true, true, true, true, true, true, true, true, true, true, true, true, true, true, false, false, false, false, false, false, false, false, false, false, false, false, false, false, false, false, false, false, false, false] rfl rfl (by kernel_rfl) (fun _ _ _ h => h) (Or.inl ⟨by rfl, ?_⟩) hHeld ?_ ?_
            rotate_left
            · rintro w' hS'
              obtain ⟨s0, s1, s2, s3⟩ := hS'
              go_simp
              with_reducible rfl
            rotate_left
            · simp only [Act.put, List.setIfInBounds_toArray, List.set_cons_zero, List.set_cons_succ, i64_w, i32_w]
              rfl
            try simp only [c295b0, Bool.not_true, Bool.not_false]
            refine take_ (i := 20) (N := some 57) (v := ?_) (a' := ?_) #[true, true, true, true, true, true, true, true, true, true, true, true, true, true, true, true, true, true, true, true, true, false, false, false, false, false, false, false, false, false, false, false, false, false, false, false, false, false, false, false] rfl rfl (by kernel_rfl) (fun _ _ _ h => h) (Or.inl ⟨by rfl, ?_⟩) hHeld ?_ ?_
            rotate_left
            · rintro w' hS'
              obtain ⟨s0, s1, s2, s3⟩ := hS'
              go_simp
              with_reducible rfl
            rotate_left
            · simp only [Act.put, List.setIfInBounds_toArray, List.set_cons_zero, List.set_cons_succ, i64_w, i32_w]
              rfl
            try simp only [c295b0, Bool.not_true, Bool.not_false]
            refine pure_ (i := 21) (N := some 58) (v := ?_) (a' := ?_) #[true, true, true, true, true, true, true, true, true, true, true, true, true, true, true, true, true, true, true, true, true, true, false, false, false, false, false, false, false, false, false, false, false, false, false, false, false, false, false, false] rfl rfl (by kernel_rfl) (fun _ _ _ h => h) (Or.inl ⟨by rfl, ?_⟩) ?_ ?_
            rotate_left
            · intro w'
              go_simp
              with_reducible rfl
            rotate_left
            · simp only [Act.put, List.setIfInBounds_toArray, List.set_cons_zero, List.set_cons_succ, i64_w, i32_w]
              rfl
            try simp only [c295b0, Bool.not_true, Bool.not_false]
            refine pure_ (i := 22) (N := some 59) (v := ?_) (a' := ?_) #[true, true, true, true, true, true, true, true, true, true, true, true, true, true, true, true, true, true, true, true, true, true, true, false, false, false, false, false, false, false, false, false, false, false, false, false, false, false, false, false] rfl rfl (by kernel_rfl) (fun _ _ _ h => h) (Or.inl ⟨by rfl, ?_⟩) ?_ ?_
            rotate_left
            · intro w'
              go_simp
              with_reducible rfl
            rotate_left
            · simp only [Act.put, List.setIfInBounds_toArray, List.set_cons_zero, List.set_cons_succ, i64_w, i32_w]
              rfl
            try simp only [c294b0, Bool.not_true, Bool.not_false]
            refine pure_ (i := 23) (N := some 60) (v := ?_) (a' := ?_) #[true, true, true, true, true, true, true, true, true, true, true, true, true, true, true, true, true, true, true, true, true, true, true, true, false, false, false, false, false, false, false, false, false, false, false, false, false, false, false, false] rfl rfl (by kernel_rfl) (fun _ _ _ h => h) (Or.inl ⟨by rfl, ?_⟩) ?_ ?_
            rotate_left
            · intro w'
              go_simp
              with_reducible rfl
            rotate_left
            · simp only [Act.put, List.setIfInBounds_toArray, List.set_cons_zero, List.set_cons_succ, i64_w, i32_w]
              rfl
            refine pure_ (i := 24) (N := some 61) (v := ?_) (a' := ?_) #[true, true, true, true, true, true, true, true, true, true, true, true, true, true, true, true, true, true, true, true, true, true, true, true, true, false, false, false, false, false, false, false, false, false, false, false, false, false, false, false] rfl rfl (by kernel_rfl) (fun _ _ _ h => h) (Or.inl ⟨by rfl, ?_⟩) ?_ ?_
            rotate_left
            · intro w'
              go_simp
              with_reducible rfl
            rotate_left
            · simp only [Act.put, List.setIfInBounds_toArray, List.set_cons_zero, List.set_cons_succ, i64_w, i32_w]
              rfl
            refine pure_ (i := 25) (N := some 62) (v := ?_) (a' := ?_) #[true, true, true, true, true, true, true, true, true, true, true, true, true, true, true, true, true, true, true, true, true, true, true, true, true, true, false, false, false, false, false, false, false, false, false, false, false, false, false, false] rfl rfl (by kernel_rfl) (fun _ _ _ h => h) (Or.inl ⟨by rfl, ?_⟩) ?_ ?_
            rotate_left
            · intro w'
              go_simp
              with_reducible rfl
            rotate_left
            · simp only [Act.put, List.setIfInBounds_toArray, List.set_cons_zero, List.set_cons_succ, i64_w, i32_w]
              rfl
            by_cases c312 : a2 ≥ (wrap64 (a5 + a6))
            · have H := if_yes c312 H
              have c312b0 : decide ((wrap64 (a5 + a6)) ≤ a2) = true := decide_eq_true c312
              clear c312
              try simp only [c312b0, Bool.not_true, Bool.not_false]
              refine pure_ (i := 26) (N := some 63) (v := ?_) (a' := ?_) #[true, true, true, true, true, true, true, true, true, true, true, true, true, true, true, true, true, true, true, true, true, true, true, true, true, true, true, false, false, false, false, false, false, false, false, false, false, false, false, false] rfl rfl (by kernel_rfl) (fun _ _ _ h => h) (Or.inl ⟨by rfl, ?_⟩) ?_ ?_
              rotate_left
              · intro w'
                go_simp
                with_reducible rfl
              rotate_left
              · simp only [Act.put, List.setIfInBounds_toArray, List.set_cons_zero, List.set_cons_succ, i64_w, i32_w]
                rfl
              try simp only [c312b0, Bool.not_true, Bool.not_false]
              refine pure_ (i := 27) (N := some 64) (v := ?_) (a' := ?_) #[true, true, true, true, true, true, true, true, true, true, true, true, true, true, true, true, true, true, true, true, true, true, true, true, true, true, true, true, false, false, false, false, false, false, false, false, false, false, false, false] rfl rfl (by kernel_rfl) (fun _ _ _ h => h) (Or.inl ⟨by rfl, ?_⟩) ?_ ?_
              rotate_left
              · intro w'
                go_simp
                with_reducible rfl
              rotate_left
              · simp only [Act.put, List.setIfInBounds_toArray, List.set_cons_zero, List.set_cons_succ, i64_w, i32_w]
                rfl
              try simp only [c312b0, Bool.not_true, Bool.not_false]
              refine pure_ (i := 29) (N := some 66) (v := ?_) (a' := ?_) #[true, true, true, true, true, true, true, true, true, true, true, true, true, true, true, true, true, true, true, true, true, true, true, true, true, true, true, true, false, true, false, false, false, false, false, false, false, false, false, false] rfl rfl (by kernel_rfl) (fun _ _ _ h => h) (Or.inl ⟨by rfl, ?_⟩) ?_ ?_
              rotate_left
              · intro w'
                go_simp
                with_reducible rfl
              rotate_left
              · simp only [Act.put, List.setIfInBounds_toArray, List.set_cons_zero, List.set_cons_succ, i64_w, i32_w]
                rfl
              try simp only [c312b0, Bool.not_true, Bool.not_false]
              refine pure_ (i := 32) (N := some 69) (v := ?_) (a' := ?_) #[true, true, true, true, true, true, true, true, true, true, true, true, true, true, true, true, true, true, true, true, true, true, true, true, true, true, true, true, false, true, false, false, true, false, false, false, false, false, false, false] rfl rfl (by kernel_rfl) (fun _ _ _ h => h) (Or.inl ⟨by rfl, ?_⟩) ?_ ?_
              rotate_left
              · intro w'
                go_simp
                with_reducible rfl
              rotate_left
              · simp only [Act.put, List.setIfInBounds_toArray, List.set_cons_zero, List.set_cons_succ, i64_w, i32_w]
                rfl
              try simp only [c312b0, Bool.not_true, Bool.not_false]
              refine pure_ (i := 33) (N := some 70) (v := ?_) (a' := ?_) #[true, true, true, true, true, true, true, true, true, true, true, true, true, true, true, true, true, true, true, true, true, true, true, true, true, true, true, true, false, true, false, false, true, true, false, false, false, false, false, false] rfl rfl (by kernel_rfl) (fun _ _ _ h => h) (Or.inl ⟨by rfl, ?_⟩) ?_ ?_
              rotate_left
              · intro w'
                go_simp
                with_reducible rfl
              rotate_left
              · simp only [Act.put, List.setIfInBounds_toArray, List.set_cons_zero, List.set_cons_succ, i64_w, i32_w]
                rfl
              try simp only [c312b0, Bool.not_true, Bool.not_false]
              refine pure_ (i := 35) (N := some 72) (v := ?_) (a' := ?_) #[true, true, true, true, true, true, true, true, true, true, true, true, true, true, true, true, true, true, true, true, true, true, true, true, true, true, true, true, false, true, false, false, true, true, false, true, false, false, false, false] rfl rfl (by kernel_rfl) (fun _ _ _ h => h) (Or.inl ⟨by rfl, ?_⟩) ?_ ?_
              rotate_left
              · intro w'
                go_simp
                with_reducible rfl
              rotate_left
              · simp only [Act.put, List.setIfInBounds_toArray, List.set_cons_zero, List.set_cons_succ, i64_w, i32_w]
                rfl
              try simp only [c312b0, Bool.not_true, Bool.not_false]
              refine take_ (i := 28) (N := some 65) (v := ?_) (a' := ?_) #[true, true, true, true, true, true, true, true, true, true, true, true, true, true, true, true, true, true, true, true, true, true, true, true, true, true, true, true, true, true, false, false, true, true, false, true, false, false, false, false] rfl rfl (by kernel_rfl) (fun _ _ _ h => h) (Or.inl ⟨by rfl, ?_⟩) hHeld ?_ ?_
              rotate_left
              · rintro w' hS'
                obtain ⟨s0, s1, s2, s3⟩ := hS'
                go_simp
                with_reducible rfl
              rotate_left
              · simp only [Act.put, List.setIfInBounds_toArray, List.set_cons_zero, List.set_cons_succ, i64_w, i32_w]
                rfl
              try simp only [c312b0, Bool.not_true, Bool.not_false]
              refine take_ (i := 30) (N := some 67) (v := ?_) (a' := ?_) #[true, true, true, true, true, true, true, true, true, true, true, true, true, true, true, true, true, true, true, true, true, true, true, true, true, true, true, true, true, true, true, false, true, true, false, true, false, false, false, false] rfl rfl (by kernel_rfl) (fun _ _ _ h => h) (Or.inl ⟨by rfl, ?_⟩) hHeld ?_ ?_
              rotate_left
              · rintro w' hS'
                obtain ⟨s0, s1, s2, s3⟩ := hS'
                go_simp
                with_reducible rfl
              rotate_left
              · simp only [Act.put, List.setIfInBounds_toArray, List.set_cons_zero, List.set_cons_succ, i64_w, i32_w]
                rfl
              try simp only [c312b0, Bool.not_true, Bool.not_false]
              refine take_ (i := 34) (N := some 71) (v := ?_) (a' := ?_) #[true, true, true, true, true, true, true, true, true, true, true, true, true, true, true, true, true, true, true, true, true, true, true, true, true, true, true, true, true, true, true, false, true, true, true, true, false, false, false, false] rfl rfl (by kernel_rfl) (fun _ _ _ h => h) (Or.inl ⟨by rfl, ?_⟩) hHeld ?_ ?_
              rotate_left
              · rintro w' hS'
                obtain ⟨s0, s1, s2, s3⟩ := hS'
                go_simp
                with_reducible rfl
              rotate_left
              · simp only [Act.put, List.setIfInBounds_toArray, List.set_cons_zero, List.set_cons_succ, i64_w, i32_w]
                rfl
              try simp only [c312b0, Bool.not_true, Bool.not_false]
              refine take_ (i := 36) (N := some 73) (v := ?_) (a' := ?_) #[true, true, true, true, true, true, true, true, true, true, true, true, true, true, true, true, true, true, true, true, true, true, true, true, true, true, true, true, true, true, true, false, true, true, true, true, true, false, false, false] rfl rfl (by kernel_rfl) (fun _ _ _ h => h) (Or.inl ⟨by rfl, ?_⟩) hHeld ?_ ?_
              rotate_left
              · rintro w' hS'
                obtain ⟨s0, s1, s2, s3⟩ := hS'
                go_simp
                with_reducible rfl
              rotate_left
              · simp only [Act.put, List.setIfInBounds_toArray, List.set_cons_zero, List.set_cons_succ, i64_w, i32_w]
                rfl
              try simp only [c312b0, Bool.not_true, Bool.not_false]
              refine one_ (i := 31) (N := some 68) #[true, true, true, true, true, true, true, true, true, true, true, true, true, true, true, true, true, true, true, true, true, true, true, true, true, true, true, true, true, true, true, true, true, true, true, true, true, false, false, false] rfl rfl (by kernel_rfl) (by decide) (fun K hK => ?_)
              obtain ⟨t296, HA313, H⟩ := bind_some H
              refine goes_ Try.func35 (by kernel_rfl) rfl #[.int .u32 t274.1, .int .i64 a5, .int .i64 a6] (by rfl) rfl rfl (by (try simp only [List.map_toArray, List.map_cons, List.map_nil]); first | done | rfl) ?_
              refine (pack_Get.calls t274.1 a5 a6 t296 _ ⟨HS.out.begin (l := []) (rest := [blk g8 #[.int .i64 a2, .int .i64 a3, .int .u32 a4] 49, blk g11 #[.int .i64 a5, .int .i64 a6, .int .u32 a7] 49])⟩ HA313).mono ?_
              rintro e_ w314 ⟨rfl, hS⟩
              have HS_ : Aside0 (Sep (fps []) w [blk g8 #[.int .i64 a2, .int .i64 a3, .int .u32 a4] 49, blk g11 #[.int .i64 a5, .int .i64 a6, .int .u32 a7] 49] w314) := ⟨HS.out.call (l := []) (rest := [blk g8 #[.int .i64 a2, .int .i64 a3, .int .u32 a4] 49, blk g11 #[.int .i64 a5, .int .i64 a6, .int .u32 a7] 49]) hS⟩
              clear HS hS
              have HS := HS_
              clear HS_
              refine ⟨_, rfl, ?_⟩
              refine hK.out _ _ (⟨blk_cellv (HS.out.at1) 0 rfl, blk_cellv (HS.out.at1) 1 rfl, blk_cellv (HS.out.at0) 0 rfl, blk_cellv (HS.out.at0) 1 rfl⟩) (fun hHeld => ?_)
              clear hK K
              refine norm_ (a' := ?_) ?_ ?_
              rotate_left
              · show Act.put _ (some 68) _ = _
                simp only [Act.put, List.setIfInBounds_toArray, List.set_cons_zero, List.set_cons_succ, i64_w, i32_w]
                rfl
              try simp only [c312b0, Bool.not_true, Bool.not_false]
              refine one_ (i := 37) (N := some 74) #[true, true, true, true, true, true, true, true, true, true, true, true, true, true, true, true, true, true, true, true, true, true, true, true, true, true, true, true, true, true, true, true, true, true, true, true, true, true, false, false] rfl rfl (by kernel_rfl) (by decide) (fun K hK => ?_)
              obtain ⟨t299, HA315, H⟩ := bind_some H
              refine goes_ Try.func35 (by kernel_rfl) rfl #[.int .u32 a1, .int .i64 a5, .int .i64 a6] (by rfl) rfl rfl (by (try simp only [List.map_toArray, List.map_cons, List.map_nil]); first | done | rfl) ?_
              refine (pack_Get.calls a1 a5 a6 t299 _ ⟨HS.out.begin (l := []) (rest := [blk g8 #[.int .i64 a2, .int .i64 a3, .int .u32 a4] 49, blk g11 #[.int .i64 a5, .int .i64 a6, .int .u32 a7] 49])⟩ HA315).mono ?_
              rintro e_ w316 ⟨rfl, hS⟩
              have HS_ : Aside0 (Sep (fps []) w [blk g8 #[.int .i64 a2, .int .i64 a3, .int .u32 a4] 49, blk g11 #[.int .i64 a5, .int .i64 a6, .int .u32 a7] 49] w316) := ⟨HS.out.call (l := []) (rest := [blk g8 #[.int .i64 a2, .int .i64 a3, .int .u32 a4] 49, blk g11 #[.int .i64 a5, .int .i64 a6, .int .u32 a7] 49]) hS⟩
              clear HS hS
              have HS := HS_
              clear HS_
              refine ⟨_, rfl, ?_⟩
              refine hK.out _ _ (⟨blk_cellv (HS.out.at1) 0 rfl, blk_cellv (HS.out.at1) 1 rfl, blk_cellv (HS.out.at0) 0 rfl, blk_cellv (HS.out.at0) 1 rfl⟩) (fun hHeld => ?_)
              clear hK K
              refine norm_ (a' := ?_) ?_ ?_
              rotate_left
              · show Act.put _ (some 74) _ = _
                simp only [Act.put, List.setIfInBounds_toArray, List.set_cons_zero, List.set_cons_succ, i64_w, i32_w]
                rfl
              try simp only [c312b0, Bool.not_true, Bool.not_false]
              refine pure_ (i := 38) (N := some 75) (v := ?_) (a' := ?_) #[true, true, true, true, true, true, true, true, true, true, true, true, true, true, true, true, true, true, true, true, true, true, true, true, true, true, true, true, true, true, true, true, true, true, true, true, true, true, true, false] rfl rfl (by kernel_rfl) (fun _ _ _ h => h) (Or.inl ⟨by rfl, ?_⟩) ?_ ?_
              rotate_left
              · intro w'
                go_simp
                with_reducible rfl
              rotate_left
              · simp only [Act.put, List.setIfInBounds_toArray, List.set_cons_zero, List.set_cons_succ, i64_w, i32_w]
                rfl
              refine pure_ (i := 39) (N := some 76) (v := ?_) (a' := ?_) #[true, true, true, true, true, true, true, true, true, true, true, true, true, true, true, true, true, true, true, true, true, true, true, true, true, true, true, true, true, true, true, true, true, true, true, true, true, true, true, true] rfl rfl (by kernel_rfl) (fun _ _ _ h => h) (Or.inl ⟨by rfl, ?_⟩) ?_ ?_
              rotate_left
              · intro w'
                go_simp
                with_reducible rfl
              rotate_left
              · simp only [Act.put, List.setIfInBounds_toArray, List.set_cons_zero, List.set_cons_succ, i64_w, i32_w]
                rfl
              refine done_ (by kernel_rfl) ?_
              by_cases c317 : t296 = t299
              · have H := if_yes c317 H
                have c317b0 : (t296 == t299) = true := beq_iff_eq.mpr c317
                have c317b1 : (t296 != t299) = false := bne_eq_false_iff_eq.mpr c317
                clear c317
                go_wp2_with fail
                refine start_ (n := 17) (S := (fun w' => w'.cell? ⟨g8, 0, none⟩ = some (.int .i64 a2) ∧ w'.cell? ⟨g8, 1, none⟩ = some (.int .i64 a3))) (ds := []) #[false, false, false, false, false, false, false, false, false, false, false, false, false, false, false, false, false] (by kernel_rfl) rfl rfl (⟨blk_cellv ((HS.out.drew).at0) 0 rfl, blk_cellv ((HS.out.drew).at0) 1 rfl⟩) (fun hHeld => ?_)
                have HS_ := Aside0.mk HS.out.drew
                clear HS
                generalize World.drew _ = w319 at HS_ hHeld ⊢
                have HS := HS_
                clear HS_
                refine pure_ (i := 0) (N := some 78) (v := ?_) (a' := ?_) #[true, false, false, false, false, false, false, false, false, false, false, false, false, false, false, false, false] rfl rfl (by kernel_rfl) (fun _ _ _ h => h) (Or.inl ⟨by rfl, ?_⟩) ?_ ?_
                rotate_left
                · intro w'
                  go_simp
                  with_reducible rfl
                rotate_left
                · simp only [Act.put, List.setIfInBounds_toArray, List.set_cons_zero, List.set_cons_succ, i64_w, i32_w]
                  rfl
                refine pure_ (i := 1) (N := some 79) (v := ?_) (a' := ?_) #[true, true, false, false, false, false, false, false, false, false, false, false, false, false, false, false, false] rfl rfl (by kernel_rfl) (fun _ _ _ h => h) (Or.inl ⟨by rfl, ?_⟩) ?_ ?_
                rotate_left
                · intro w'
                  go_simp
                  with_reducible rfl
                rotate_left
                · simp only [Act.put, List.setIfInBounds_toArray, List.set_cons_zero, List.set_cons_succ, i64_w, i32_w]
                  rfl
                refine pure_ (i := 3) (N := some 81) (v := ?_) (a' := ?_) #[true, true, false, true, false, false, false, false, false, false, false, false, false, false, false, false, false] rfl rfl (by kernel_rfl) (fun _ _ _ h => h) (Or.inl ⟨by rfl, ?_⟩) ?_ ?_
                rotate_left
                · intro w'
                  go_simp
                  with_reducible rfl
                rotate_left
                · simp only [Act.put, List.setIfInBounds_toArray, List.set_cons_zero, List.set_cons_succ, i64_w, i32_w]
                  rfl
                refine pure_ (i := 5) (N := some 83) (v := ?_) (a' := ?_) #[true, true, false, true, false, true, false, false, false, false, false, false, false, false, false, false, false] rfl rfl (by kernel_rfl) (fun _ _ _ h => h) (Or.inl ⟨by rfl, ?_⟩) ?_ ?_
                rotate_left
                · intro w'
                  go_simp
                  with_reducible rfl
                rotate_left
                · simp only [Act.put, List.setIfInBounds_toArray, List.set_cons_zero, List.set_cons_succ, i64_w, i32_w]
                  rfl
                refine pure_ (i := 6) (N := some 84) (v := ?_) (a' := ?_) #[true, true, false, true, false, true, true, false, false, false, false, false, false, false, false, false, false] rfl rfl (by kernel_rfl) (fun _ _ _ h => h) (Or.inl ⟨by rfl, ?_⟩) ?_ ?_
                rotate_left
                · intro w'
                  go_simp
                  with_reducible rfl
                rotate_left
                · simp only [Act.put, List.setIfInBounds_toArray, List.set_cons_zero, List.set_cons_succ, i64_w, i32_w]
                  rfl
                refine pure_ (i := 8) (N := some 86) (v := ?_) (a' := ?_) #[true, true, false, true, false, true, true, false, true, false, false, false, false, false, false, false, false] rfl rfl (by kernel_rfl) (fun _ _ _ h => h) (Or.inl ⟨by rfl, ?_⟩) ?_ ?_
                rotate_left
                · intro w'
                  go_simp
                  with_reducible rfl
                rotate_left
                · simp only [Act.put, List.setIfInBounds_toArray, List.set_cons_zero, List.set_cons_succ, i64_w, i32_w]
                  rfl
                refine take_ (i := 2) (N := some 80) (v := ?_) (a' := ?_) #[true, true, true, true, false, true, true, false, true, false, false, false, false, false, false, false, false] rfl rfl (by kernel_rfl) (fun _ _ _ h => h) (Or.inl ⟨by rfl, ?_⟩) hHeld ?_ ?_
                rotate_left
                · rintro w' hS'
                  obtain ⟨s0, s1⟩ := hS'
                  go_simp
                  with_reducible rfl
                rotate_left
                · simp only [Act.put, List.setIfInBounds_toArray, List.set_cons_zero, List.set_cons_succ, i64_w, i32_w]
                  rfl
                refine take_ (i := 4) (N := some 82) (v := ?_) (a' := ?_) #[true, true, true, true, true, true, true, false, true, false, false, false, false, false, false, false, false] rfl rfl (by kernel_rfl) (fun _ _ _ h => h) (Or.inl ⟨by rfl, ?_⟩) hHeld ?_ ?_
                rotate_left
                · rintro w' hS'
                  obtain ⟨s0, s1⟩ := hS'
                  go_simp
                  with_reducible rfl
                rotate_left
                · simp only [Act.put, List.setIfInBounds_toArray, List.set_cons_zero, List.set_cons_succ, i64_w, i32_w]
                  rfl
                refine take_ (i := 7) (N := some 85) (v := ?_) (a' := ?_) #[true, true, true, true, true, true, true, true, true, false, false, false, false, false, false, false, false] rfl rfl (by kernel_rfl) (fun _ _ _ h => h) (Or.inl ⟨by rfl, ?_⟩) hHeld ?_ ?_
                rotate_left
                · rintro w' hS'
                  obtain ⟨s0, s1⟩ := hS'
                  go_simp
                  with_reducible rfl
                rotate_left
                · simp only [Act.put, List.setIfInBounds_toArray, List.set_cons_zero, List.set_cons_succ, i64_w, i32_w]
                  rfl
                refine take_ (i := 9) (N := some 87) (v := ?_) (a' := ?_) #[true, true, true, true, true, true, true, true, true, true, false, false, false, false, false, false, false] rfl rfl (by kernel_rfl) (fun _ _ _ h => h) (Or.inl ⟨by rfl, ?_⟩) hHeld ?_ ?_
                rotate_left
                · rintro w' hS'
                  obtain ⟨s0, s1⟩ := hS'
                  go_simp
                  with_reducible rfl
                rotate_left
                · simp only [Act.put, List.setIfInBounds_toArray, List.set_cons_zero, List.set_cons_succ, i64_w, i32_w]
                  rfl
                refine one_ (i := 10) (N := some 88) #[true, true, true, true, true, true, true, true, true, true, true, false, false, false, false, false, false] rfl rfl (by kernel_rfl) (by decide) (fun K hK => ?_)
                obtain ⟨t305, HA320, H⟩ := bind_some H
                refine goes_ Try.func35 (by kernel_rfl) rfl #[.int .u32 a1, .int .i64 a2, .int .i64 a3] (by rfl) rfl rfl (by (try simp only [List.map_toArray, List.map_cons, List.map_nil]); first | done | rfl) ?_
                refine (pack_Get.calls a1 a2 a3 t305 _ ⟨HS.out.begin (l := []) (rest := [blk g8 #[.int .i64 a2, .int .i64 a3, .int .u32 a4] 49, blk g11 #[.int .i64 a5, .int .i64 a6, .int .u32 a7] 49])⟩ HA320).mono ?_
                rintro e_ w321 ⟨rfl, hS⟩
                have HS_ : Aside0 (Sep (fps []) w [blk g8 #[.int .i64 a2, .int .i64 a3, .int .u32 a4] 49, blk g11 #[.int .i64 a5, .int .i64 a6, .int .u32 a7] 49] w321) := ⟨HS.out.call (l := []) (rest := [blk g8 #[.int .i64 a2, .int .i64 a3, .int .u32 a4] 49, blk g11 #[.int .i64 a5, .int .i64 a6, .int .u32 a7] 49]) hS⟩
                clear HS hS
                have HS := HS_
                clear HS_
                refine ⟨_, rfl, ?_⟩
                refine hK.out _ _ (⟨blk_cellv (HS.out.at0) 0 rfl, blk_cellv (HS.out.at0) 1 rfl⟩) (fun hHeld => ?_)
                clear hK K
                refine norm_ (a' := ?_) ?_ ?_
                rotate_left
                · show Act.put _ (some 88) _ = _
                  simp only [Act.put, List.setIfInBounds_toArray, List.set_cons_zero, List.set_cons_succ, i64_w, i32_w]
                  rfl
                refine one_ (i := 11) (N := some 89) #[true, true, true, true, true, true, true, true, true, true, true, true, false, false, false, false, false] rfl rfl (by kernel_rfl) (by decide) (fun K hK => ?_)
                obtain ⟨t308, HA322, H⟩ := bind_some H
                refine goes_ Try.func41 (by kernel_rfl) rfl #[.int .u32 t274.1, .int .i64 a2, .int .i64 a3, .int .u32 t305] (by rfl) rfl rfl (by (try simp only [List.map_toArray, List.map_cons, List.map_nil]); first | done | rfl) ?_
                refine (pack_Put.calls t274.1 a2 a3 t305 t308 _ ⟨HS.out.begin (l := []) (rest := [blk g8 #[.int .i64 a2, .int .i64 a3, .int .u32 a4] 49, blk g11 #[.int .i64 a5, .int .i64 a6, .int .u32 a7] 49])⟩ HA322).mono ?_
                rintro e_ w323 ⟨rfl, hS⟩
                have HS_ : Aside0 (Sep (fps []) w [blk g8 #[.int .i64 a2, .int .i64 a3, .int .u32 a4] 49, blk g11 #[.int .i64 a5, .int .i64 a6, .int .u32 a7] 49] w323) := ⟨HS.out.call (l := []) (rest := [blk g8 #[.int .i64 a2, .int .i64 a3, .int .u32 a4] 49, blk g11 #[.int .i64 a5, .int .i64 a6, .int .u32 a7] 49]) hS⟩
                clear HS hS
                have HS := HS_
                clear HS_
                refine ⟨_, rfl, ?_⟩
                refine hK.out _ _ (⟨blk_cellv (HS.out.at0) 0 rfl, blk_cellv (HS.out.at0) 1 rfl⟩) (fun hHeld => ?_)
                clear hK K
                refine norm_ (a' := ?_) ?_ ?_
                rotate_left
                · show Act.put _ (some 89) _ = _
                  simp only [Act.put, List.setIfInBounds_toArray, List.set_cons_zero, List.set_cons_succ, i64_w, i32_w]
                  rfl
                refine pure_ (i := 12) (N := some 77) (v := ?_) (a' := ?_) #[true, true, true, true, true, true, true, true, true, true, true, true, true, false, false, false, false] rfl rfl (by kernel_rfl) (fun _ _ _ h => h) (Or.inl ⟨by rfl, ?_⟩) ?_ ?_
                rotate_left
                · intro w'
                  go_simp
                  with_reducible rfl
                rotate_left
                · simp only [Act.put, List.setIfInBounds_toArray, List.set_cons_zero, List.set_cons_succ, i64_w, i32_w]
                  rfl
                refine pure_ (i := 13) (N := some 90) (v := ?_) (a' := ?_) #[true, true, true, true, true, true, true, true, true, true, true, true, true, true, false, false, false] rfl rfl (by kernel_rfl) (fun _ _ _ h => h) (Or.inl ⟨by rfl, ?_⟩) ?_ ?_
                rotate_left
                · intro w'
                  go_simp
                  with_reducible rfl
                rotate_left
                · simp only [Act.put, List.setIfInBounds_toArray, List.set_cons_zero, List.set_cons_succ, i64_w, i32_w]
                  rfl
                refine pure_ (i := 14) (N := some 91) (v := ?_) (a' := ?_) #[true, true, true, true, true, true, true, true, true, true, true, true, true, true, true, false, false] rfl rfl (by kernel_rfl) (fun _ _ _ h => h) (Or.inl ⟨by rfl, ?_⟩) ?_ ?_
                rotate_left
                · intro w'
                  go_simp
                  with_reducible rfl
                rotate_left
                · simp only [Act.put, List.setIfInBounds_toArray, List.set_cons_zero, List.set_cons_succ, i64_w, i32_w]
                  rfl
                refine pure_ (i := 15) (N := some 9) (v := ?_) (a' := ?_) #[true, true, true, true, true, true, true, true, true, true, true, true, true, true, true, true, false] rfl rfl (by kernel_rfl) (fun _ _ _ h => h) (Or.inl ⟨by rfl, ?_⟩) ?_ ?_
                rotate_left
                · intro w'
                  go_simp
                  with_reducible rfl
                rotate_left
                · simp only [Act.put, List.setIfInBounds_toArray, List.set_cons_zero, List.set_cons_succ, i64_w, i32_w]
                  rfl
                refine pure_ (i := 16) (N := some 10) (v := ?_) (a' := ?_) #[true, true, true, true, true, true, true, true, true, true, true, true, true, true, true, true, true] rfl rfl (by kernel_rfl) (fun _ _ _ h => h) (Or.inl ⟨by rfl, ?_⟩) ?_ ?_
                rotate_left
                · intro w'
                  go_simp
                  with_reducible rfl
                rotate_left
                · simp only [Act.put, List.setIfInBounds_toArray, List.set_cons_zero, List.set_cons_succ, i64_w, i32_w]
                  rfl
                refine done_ (by kernel_rfl) ?_
                by_cases c324 : t308.2 = 0
                · have H := if_yes c324 H
                  have c324b0 : (t308.2 == 0) = true := beq_iff_eq.mpr c324
                  have c324b1 : (t308.2 != 0) = false := bne_eq_false_iff_eq.mpr c324
                  clear c324
                  go_wp2_with fail
                  go_ret
                  rw [← some_eq H]
                  exact ⟨(by first | rfl | (simp [IntKind.wrap_u32]; done)), (HS.out).keep (l := []) (rest := [blk g8 #[.int .i64 a2, .int .i64 a3, .int .u32 a4] 49, blk g11 #[.int .i64 a5, .int .i64 a6, .int .u32 a7] 49])⟩
                · have H := if_no c324 H
                  have c324b0 : (t308.2 == 0) = false := beq_eq_false_iff_ne.mpr c324
                  have c324b1 : (t308.2 != 0) = true := bne_iff_ne.mpr c324
                  clear c324
                  go_wp2_with fail
                  go_ret
                  rw [← some_eq H]
                  exact ⟨(by first | rfl | (simp [IntKind.wrap_u32]; done)), (HS.out).keep (l := []) (rest := [blk g8 #[.int .i64 a2, .int .i64 a3, .int .u32 a4] 49, blk g11 #[.int .i64 a5, .int .i64 a6, .int .u32 a7] 49])⟩
              · have H := if_no c317 H
                have c317b0 : (t296 == t299) = false := beq_eq_false_iff_ne.mpr c317
                have c317b1 : (t296 != t299) = true := bne_iff_ne.mpr c317
                clear c317
                go_wp2_with fail
                go_ret
                rw [← some_eq H]
                exact ⟨(by first | rfl | (simp [IntKind.wrap_u32]; done)), (HS.out).keep (l := []) (rest := [blk g8 #[.int .i64 a2, .int .i64 a3, .int .u32 a4] 49, blk g11 #[.int .i64 a5, .int .i64 a6, .int .u32 a7] 49])⟩
            · have H := if_no c312 H
              have c312b0 : decide ((wrap64 (a5 + a6)) ≤ a2) = false := decide_eq_false c312
              clear c312
              try simp only [c312b0, Bool.not_true, Bool.not_false]
              refine pure_ (i := 26) (N := some 63) (v := undef) (a' := ?_) #[true, true, true, true, true, true, true, true, true, true, true, true, true, true, true, true, true, true, true, true, true, true, true, true, true, true, true, false, false, false, false, false, false, false, false, false, false, false, false, false] rfl rfl (by kernel_rfl) (fun _ _ _ h => h) (Or.inr ⟨by rfl, rfl⟩) ?_ ?_
              rotate_left
              · simp only [Act.put, List.setIfInBounds_toArray, List.set_cons_zero, List.set_cons_succ, i64_w, i32_w]
                rfl
              try simp only [c312b0, Bool.not_true, Bool.not_false]
              refine pure_ (i := 27) (N := some 64) (v := undef) (a' := ?_) #[true, true, true, true, true, true, true, true, true, true, true, true, true, true, true, true, true, true, true, true, true, true, true, true, true, true, true, true, false, false, false, false, false, false, false, false, false, false, false, false] rfl rfl (by kernel_rfl) (fun _ _ _ h => h) (Or.inr ⟨by rfl, rfl⟩) ?_ ?_
              rotate_left
              · simp only [Act.put, List.setIfInBounds_toArray, List.set_cons_zero, List.set_cons_succ, i64_w, i32_w]
                rfl
              try simp only [c312b0, Bool.not_true, Bool.not_false]
              refine pure_ (i := 28) (N := some 65) (v := undef) (a' := ?_) #[true, true, true, true, true, true, true, true, true, true, true, true, true, true, true, true, true, true, true, true, true, true, true, true, true, true, true, true, true, false, false, false, false, false, false, false, false, false, false, false] rfl rfl (by kernel_rfl) (fun _ _ _ h => h) (Or.inr ⟨by rfl, rfl⟩) ?_ ?_
              rotate_left
              · simp only [Act.put, List.setIfInBounds_toArray, List.set_cons_zero, List.set_cons_succ, i64_w, i32_w]
                rfl
              try simp only [c312b0, Bool.not_true, Bool.not_false]
              refine pure_ (i := 29) (N := some 66) (v := undef) (a' := ?_) #[true, true, true, true, true, true, true, true, true, true, true, true, true, true, true, true, true, true, true, true, true, true, true, true, true, true, true, true, true, true, false, false, false, false, false, false, false, false, false, false] rfl rfl (by kernel_rfl) (fun _ _ _ h => h) (Or.inr ⟨by rfl, rfl⟩) ?_ ?_
              rotate_left
              · simp only [Act.put, List.setIfInBounds_toArray, List.set_cons_zero, List.set_cons_succ, i64_w, i32_w]
                rfl
              try simp only [c312b0, Bool.not_true, Bool.not_false]
              refine pure_ (i := 30) (N := some 67) (v := undef) (a' := ?_) #[true, true, true, true, true, true, true, true, true, true, true, true, true, true, true, true, true, true, true, true, true, true, true, true, true, true, true, true, true, true, true, false, false, false, false, false, false, false, false, false] rfl rfl (by kernel_rfl) (fun _ _ _ h => h) (Or.inr ⟨by rfl, rfl⟩) ?_ ?_
              rotate_left
              · simp only [Act.put, List.setIfInBounds_toArray, List.set_cons_zero, List.set_cons_succ, i64_w, i32_w]
                rfl
              try simp only [c312b0, Bool.not_true, Bool.not_false]
              refine pure_ (i := 31) (N := some 68) (v := undef) (a' := ?_) #[true, true, true, true, true, true, true, true, true, true, true, true, true, true, true, true, true, true, true, true, true, true, true, true, true, true, true, true, true, true, true, true, false, false, false, false, false, false, false, false] rfl rfl (by kernel_rfl) (fun _ _ _ h => h) (Or.inr ⟨by rfl, rfl⟩) ?_ ?_
              rotate_left
              · simp only [Act.put, List.setIfInBounds_toArray, List.set_cons_zero, List.set_cons_succ, i64_w, i32_w]
                rfl
              try simp only [c312b0, Bool.not_true, Bool.not_false]
              refine pure_ (i := 32) (N := some 69) (v := undef) (a' := ?_) #[true, true, true, true, true, true, true, true, true, true, true, true, true, true, true, true, true, true, true, true, true, true, true, true, true, true, true, true, true, true, true, true, true, false, false, false, false, false, false, false] rfl rfl (by kernel_rfl) (fun _ _ _ h => h) (Or.inr ⟨by rfl, rfl⟩) ?_ ?_
              rotate_left
              · simp only [Act.put, List.setIfInBounds_toArray, List.set_cons_zero, List.set_cons_succ, i64_w, i32_w]
                rfl
              try simp only [c312b0, Bool.not_true, Bool.not_false]
              refine pure_ (i := 33) (N := some 70) (v := undef) (a' := ?_) #[true, true, true, true, true, true, true, true, true, true, true, true, true, true, true, true, true, true, true, true, true, true, true, true, true, true, true, true, true, true, true, true, true, true, false, false, false, false, false, false] rfl rfl (by kernel_rfl) (fun _ _ _ h => h) (Or.inr ⟨by rfl, rfl⟩) ?_ ?_
              rotate_left
              · simp only [Act.put, List.setIfInBounds_toArray, List.set_cons_zero, List.set_cons_succ, i64_w, i32_w]
                rfl
              try simp only [c312b0, Bool.not_true, Bool.not_false]
              refine pure_ (i := 34) (N := some 71) (v := undef) (a' := ?_) #[true, true, true, true, true, true, true, true, true, true, true, true, true, true, true, true, true, true, true, true, true, true, true, true, true, true, true, true, true, true, true, true, true, true, true, false, false, false, false, false] rfl rfl (by kernel_rfl) (fun _ _ _ h => h) (Or.inr ⟨by rfl, rfl⟩) ?_ ?_
              rotate_left
              · simp only [Act.put, List.setIfInBounds_toArray, List.set_cons_zero, List.set_cons_succ, i64_w, i32_w]
                rfl
              try simp only [c312b0, Bool.not_true, Bool.not_false]
              refine pure_ (i := 35) (N := some 72) (v := undef) (a' := ?_) #[true, true, true, true, true, true, true, true, true, true, true, true, true, true, true, true, true, true, true, true, true, true, true, true, true, true, true, true, true, true, true, true, true, true, true, true, false, false, false, false] rfl rfl (by kernel_rfl) (fun _ _ _ h => h) (Or.inr ⟨by rfl, rfl⟩) ?_ ?_
              rotate_left
              · simp only [Act.put, List.setIfInBounds_toArray, List.set_cons_zero, List.set_cons_succ, i64_w, i32_w]
                rfl
              try simp only [c312b0, Bool.not_true, Bool.not_false]
              refine pure_ (i := 36) (N := some 73) (v := undef) (a' := ?_) #[true, true, true, true, true, true, true, true, true, true, true, true, true, true, true, true, true, true, true, true, true, true, true, true, true, true, true, true, true, true, true, true, true, true, true, true, true, false, false, false] rfl rfl (by kernel_rfl) (fun _ _ _ h => h) (Or.inr ⟨by rfl, rfl⟩) ?_ ?_
              rotate_left
              · simp only [Act.put, List.setIfInBounds_toArray, List.set_cons_zero, List.set_cons_succ, i64_w, i32_w]
                rfl
              try simp only [c312b0, Bool.not_true, Bool.not_false]
              refine pure_ (i := 37) (N := some 74) (v := undef) (a' := ?_) #[true, true, true, true, true, true, true, true, true, true, true, true, true, true, true, true, true, true, true, true, true, true, true, true, true, true, true, true, true, true, true, true, true, true, true, true, true, true, false, false] rfl rfl (by kernel_rfl) (fun _ _ _ h => h) (Or.inr ⟨by rfl, rfl⟩) ?_ ?_
              rotate_left
              · simp only [Act.put, List.setIfInBounds_toArray, List.set_cons_zero, List.set_cons_succ, i64_w, i32_w]
                rfl
              try simp only [c312b0, Bool.not_true, Bool.not_false]
              refine pure_ (i := 38) (N := some 75) (v := undef) (a' := ?_) #[true, true, true, true, true, true, true, true, true, true, true, true, true, true, true, true, true, true, true, true, true, true, true, true, true, true, true, true, true, true, true, true, true, true, true, true, true, true, true, false] rfl rfl (by kernel_rfl) (fun _ _ _ h => h) (Or.inr ⟨by rfl, rfl⟩) ?_ ?_
              rotate_left
              · simp only [Act.put, List.setIfInBounds_toArray, List.set_cons_zero, List.set_cons_succ, i64_w, i32_w]
                rfl
              refine pure_ (i := 39) (N := some 76) (v := ?_) (a' := ?_) #[true, true, true, true, true, true, true, true, true, true, true, true, true, true, true, true, true, true, true, true, true, true, true, true, true, true, true, true, true, true, true, true, true, true, true, true, true, true, true, true] rfl rfl (by kernel_rfl) (fun _ _ _ h => h) (Or.inl ⟨by rfl, ?_⟩) ?_ ?_
              rotate_left
              · intro w'
                go_simp
                with_reducible rfl
              rotate_left
              · simp only [Act.put, List.setIfInBounds_toArray, List.set_cons_zero, List.set_cons_succ, i64_w, i32_w]
                rfl
              refine done_ (by kernel_rfl) ?_
              go_wp2_with fail
              refine start_ (n := 17) (S := (fun w' => w'.cell? ⟨g8, 0, none⟩ = some (.int .i64 a2) ∧ w'.cell? ⟨g8, 1, none⟩ = some (.int .i64 a3))) (ds := []) #[false, false, false, false, false, false, false, false, false, false, false, false, false, false, false, false, false] (by kernel_rfl) rfl rfl (⟨blk_cellv ((HS.out.drew).at0) 0 rfl, blk_cellv ((HS.out.drew).at0) 1 rfl⟩) (fun hHeld => ?_)
              have HS_ := Aside0.mk HS.out.drew
              clear HS
              generalize World.drew _ = w326 at HS_ hHeld ⊢
              have HS := HS_
              clear HS_
              refine pure_ (i := 0) (N := some 78) (v := ?_) (a' := ?_) #[true, false, false, false, false, false, false, false, false, false, false, false, false, false, false, false, false] rfl rfl (by kernel_rfl) (fun _ _ _ h => h) (Or.inl ⟨by rfl, ?_⟩) ?_ ?_
              rotate_left
              · intro w'
                go_simp
                with_reducible rfl
              rotate_left
              · simp only [Act.put, List.setIfInBounds_toArray, List.set_cons_zero, List.set_cons_succ, i64_w, i32_w]
                rfl
              refine pure_ (i := 1) (N := some 79) (v := ?_) (a' := ?_) #[true, true, false, false, false, false, false, false, false, false, false, false, false, false, false, false, false] rfl rfl (by kernel_rfl) (fun _ _ _ h => h) (Or.inl ⟨by rfl, ?_⟩) ?_ ?_
              rotate_left
              · intro w'
                go_simp
                with_reducible rfl
              rotate_left
              · simp only [Act.put, List.setIfInBounds_toArray, List.set_cons_zero, List.set_cons_succ, i64_w, i32_w]
                rfl
              refine pure_ (i := 3) (N := some 81) (v := ?_) (a' := ?_) #[true, true, false, true, false, false, false, false, false, false, false, false, false, false, false, false, false] rfl rfl (by kernel_rfl) (fun _ _ _ h => h) (Or.inl ⟨by rfl, ?_⟩) ?_ ?_
              rotate_left
              · intro w'
                go_simp
                with_reducible rfl
              rotate_left
              · simp only [Act.put, List.setIfInBounds_toArray, List.set_cons_zero, List.set_cons_succ, i64_w, i32_w]
                rfl
              refine pure_ (i := 5) (N := some 83) (v := ?_) (a' := ?_) #[true, true, false, true, false, true, false, false, false, false, false, false, false, false, false, false, false] rfl rfl (by kernel_rfl) (fun _ _ _ h => h) (Or.inl ⟨by rfl, ?_⟩) ?_ ?_
              rotate_left
              · intro w'
                go_simp
                with_reducible rfl
              rotate_left
              · simp only [Act.put, List.setIfInBounds_toArray, List.set_cons_zero, List.set_cons_succ, i64_w, i32_w]
                rfl
              refine pure_ (i := 6) (N := some 84) (v := ?_) (a' := ?_) #[true, true, false, true, false, true, true, false, false, false, false, false, false, false, false, false, false] rfl rfl (by kernel_rfl) (fun _ _ _ h => h) (Or.inl ⟨by rfl, ?_⟩) ?_ ?_
              rotate_left
              · intro w'
                go_simp
                with_reducible rfl
              rotate_left
              · simp only [Act.put, List.setIfInBounds_toArray, List.set_cons_zero, List.set_cons_succ, i64_w, i32_w]
                rfl
              refine pure_ (i := 8) (N := some 86) (v := ?_) (a' := ?_) #[true, true, false, true, false, true, true, false, true, false, false, false, false, false, false, false, false] rfl rfl (by kernel_rfl) (fun _ _ _ h => h) (Or.inl ⟨by rfl, ?_⟩) ?_ ?_
              rotate_left
              · intro w'
                go_simp
                with_reducible rfl
              rotate_left
              · simp only [Act.put, List.setIfInBounds_toArray, List.set_cons_zero, List.set_cons_succ, i64_w, i32_w]
                rfl
              refine take_ (i := 2) (N := some 80) (v := ?_) (a' := ?_) #[true, true, true, true, false, true, true, false, true, false, false, false, false, false, false, false, false] rfl rfl (by kernel_rfl) (fun _ _ _ h => h) (Or.inl ⟨by rfl, ?_⟩) hHeld ?_ ?_
              rotate_left
              · rintro w' hS'
                obtain ⟨s0, s1⟩ := hS'
                go_simp
                with_reducible rfl
              rotate_left
              · simp only [Act.put, List.setIfInBounds_toArray, List.set_cons_zero, List.set_cons_succ, i64_w, i32_w]
                rfl
              refine take_ (i := 4) (N := some 82) (v := ?_) (a' := ?_) #[true, true, true, true, true, true, true, false, true, false, false, false, false, false, false, false, false] rfl rfl (by kernel_rfl) (fun _ _ _ h => h) (Or.inl ⟨by rfl, ?_⟩) hHeld ?_ ?_
              rotate_left
              · rintro w' hS'
                obtain ⟨s0, s1⟩ := hS'
                go_simp
                with_reducible rfl
              rotate_left
              · simp only [Act.put, List.setIfInBounds_toArray, List.set_cons_zero, List.set_cons_succ, i64_w, i32_w]
                rfl
              refine take_ (i := 7) (N := some 85) (v := ?_) (a' := ?_) #[true, true, true, true, true, true, true, true, true, false, false, false, false, false, false, false, false] rfl rfl (by kernel_rfl) (fun _ _ _ h => h) (Or.inl ⟨by rfl, ?_⟩) hHeld ?_ ?_
              rotate_left
              · rintro w' hS'
                obtain ⟨s0, s1⟩ := hS'
                go_simp
                with_reducible rfl
              rotate_left
              · simp only [Act.put, List.setIfInBounds_toArray, List.set_cons_zero, List.set_cons_succ, i64_w, i32_w]
                rfl
              refine take_ (i := 9) (N := some 87) (v := ?_) (a' := ?_) #[true, true, true, true, true, true, true, true, true, true, false, false, false, false, false, false, false] rfl rfl (by kernel_rfl) (fun _ _ _ h => h) (Or.inl ⟨by rfl, ?_⟩) hHeld ?_ ?_
              rotate_left
              · rintro w' hS'
                obtain ⟨s0, s1⟩ := hS'
                go_simp
                with_reducible rfl
              rotate_left
              · simp only [Act.put, List.setIfInBounds_toArray, List.set_cons_zero, List.set_cons_succ, i64_w, i32_w]
                rfl
              refine one_ (i := 10) (N := some 88) #[true, true, true, true, true, true, true, true, true, true, true, false, false, false, false, false, false] rfl rfl (by kernel_rfl) (by decide) (fun K hK => ?_)
              obtain ⟨t305, HA327, H⟩ := bind_some H
              refine goes_ Try.func35 (by kernel_rfl) rfl #[.int .u32 a1, .int .i64 a2, .int .i64 a3] (by rfl) rfl rfl (by (try simp only [List.map_toArray, List.map_cons, List.map_nil]); first | done | rfl) ?_
              refine (pack_Get.calls a1 a2 a3 t305 _ ⟨HS.out.begin (l := []) (rest := [blk g8 #[.int .i64 a2, .int .i64 a3, .int .u32 a4] 49, blk g11 #[.int .i64 a5, .int .i64 a6, .int .u32 a7] 49])⟩ HA327).mono ?_
              rintro e_ w328 ⟨rfl, hS⟩
              have HS_ : Aside0 (Sep (fps []) w [blk g8 #[.int .i64 a2, .int .i64 a3, .int .u32 a4] 49, blk g11 #[.int .i64 a5, .int .i64 a6, .int .u32 a7] 49] w328) := ⟨HS.out.call (l := []) (rest := [blk g8 #[.int .i64 a2, .int .i64 a3, .int .u32 a4] 49, blk g11 #[.int .i64 a5, .int .i64 a6, .int .u32 a7] 49]) hS⟩
              clear HS hS
              have HS := HS_
              clear HS_
              refine ⟨_, rfl, ?_⟩
              refine hK.out _ _ (⟨blk_cellv (HS.out.at0) 0 rfl, blk_cellv (HS.out.at0) 1 rfl⟩) (fun hHeld => ?_)
              clear hK K
              refine norm_ (a' := ?_) ?_ ?_
              rotate_left
              · show Act.put _ (some 88) _ = _
                simp only [Act.put, List.setIfInBounds_toArray, List.set_cons_zero, List.set_cons_succ, i64_w, i32_w]
                rfl
              refine one_ (i := 11) (N := some 89) #[true, true, true, true, true, true, true, true, true, true, true, true, false, false, false, false, false] rfl rfl (by kernel_rfl) (by decide) (fun K hK => ?_)
              obtain ⟨t308, HA329, H⟩ := bind_some H
              refine goes_ Try.func41 (by kernel_rfl) rfl #[.int .u32 t274.1, .int .i64 a2, .int .i64 a3, .int .u32 t305] (by rfl) rfl rfl (by (try simp only [List.map_toArray, List.map_cons, List.map_nil]); first | done | rfl) ?_
              refine (pack_Put.calls t274.1 a2 a3 t305 t308 _ ⟨HS.out.begin (l := []) (rest := [blk g8 #[.int .i64 a2, .int .i64 a3, .int .u32 a4] 49, blk g11 #[.int .i64 a5, .int .i64 a6, .int .u32 a7] 49])⟩ HA329).mono ?_
              rintro e_ w330 ⟨rfl, hS⟩
              have HS_ : Aside0 (Sep (fps []) w [blk g8 #[.int .i64 a2, .int .i64 a3, .int .u32 a4] 49, blk g11 #[.int .i64 a5, .int .i64 a6, .int .u32 a7] 49] w330) := ⟨HS.out.call (l := []) (rest := [blk g8 #[.int .i64 a2, .int .i64 a3, .int .u32 a4] 49, blk g11 #[.int .i64 a5, .int .i64 a6, .int .u32 a7] 49]) hS⟩
              clear HS hS
              have HS := HS_
              clear HS_
              refine ⟨_, rfl, ?_⟩
              refine hK.out _ _ (⟨blk_cellv (HS.out.at0) 0 rfl, blk_cellv (HS.out.at0) 1 rfl⟩) (fun hHeld => ?_)
              clear hK K
              refine norm_ (a' := ?_) ?_ ?_
              rotate_left
              · show Act.put _ (some 89) _ = _
                simp only [Act.put, List.setIfInBounds_toArray, List.set_cons_zero, List.set_cons_succ, i64_w, i32_w]
                rfl
              refine pure_ (i := 12) (N := some 77) (v := ?_) (a' := ?_) #[true, true, true, true, true, true, true, true, true, true, true, true, true, false, false, false, false] rfl rfl (by kernel_rfl) (fun _ _ _ h => h) (Or.inl ⟨by rfl, ?_⟩) ?_ ?_
              rotate_left
              · intro w'
                go_simp
                with_reducible rfl
              rotate_left
              · simp only [Act.put, List.setIfInBounds_toArray, List.set_cons_zero, List.set_cons_succ, i64_w, i32_w]
                rfl
              refine pure_ (i := 13) (N := some 90) (v := ?_) (a' := ?_) #[true, true, true, true, true, true, true, true, true, true, true, true, true, true, false, false, false] rfl rfl (by kernel_rfl) (fun _ _ _ h => h) (Or.inl ⟨by rfl, ?_⟩) ?_ ?_
              rotate_left
              · intro w'
                go_simp
                with_reducible rfl
              rotate_left
              · simp only [Act.put, List.setIfInBounds_toArray, List.set_cons_zero, List.set_cons_succ, i64_w, i32_w]
                rfl
              refine pure_ (i := 14) (N := some 91) (v := ?_) (a' := ?_) #[true, true, true, true, true, true, true, true, true, true, true, true, true, true, true, false, false] rfl rfl (by kernel_rfl) (fun _ _ _ h => h) (Or.inl ⟨by rfl, ?_⟩) ?_ ?_
              rotate_left
              · intro w'
                go_simp
                with_reducible rfl
              rotate_left
              · simp only [Act.put, List.setIfInBounds_toArray, List.set_cons_zero, List.set_cons_succ, i64_w, i32_w]
                rfl
              refine pure_ (i := 15) (N := some 9) (v := ?_) (a' := ?_) #[true, true, true, true, true, true, true, true, true, true, true, true, true, true, true, true, false] rfl rfl (by kernel_rfl) (fun _ _ _ h => h) (Or.inl ⟨by rfl, ?_⟩) ?_ ?_
              rotate_left
              · intro w'
                go_simp
                with_reducible rfl
              rotate_left
              · simp only [Act.put, List.setIfInBounds_toArray, List.set_cons_zero, List.set_cons_succ, i64_w, i32_w]
                rfl
              refine pure_ (i := 16) (N := some 10) (v := ?_) (a' := ?_) #[true, true, true, true, true, true, true, true, true, true, true, true, true, true, true, true, true] rfl rfl (by kernel_rfl) (fun _ _ _ h => h) (Or.inl ⟨by rfl, ?_⟩) ?_ ?_
              rotate_left
              · intro w'
                go_simp
                with_reducible rfl
              rotate_left
              · simp only [Act.put, List.setIfInBounds_toArray, List.set_cons_zero, List.set_cons_succ, i64_w, i32_w]
                rfl
              refine done_ (by kernel_rfl) ?_
              by_cases c331 : t308.2 = 0
              · have H := if_yes c331 H
                have c331b0 : (t308.2 == 0) = true := beq_iff_eq.mpr c331
                have c331b1 : (t308.2 != 0) = false := bne_eq_false_iff_eq.mpr c331
                clear c331
                go_wp2_with fail
                go_ret
                rw [← some_eq H]
                exact ⟨(by first | rfl | (simp [IntKind.wrap_u32]; done)), (HS.out).keep (l := []) (rest := [blk g8 #[.int .i64 a2, .int .i64 a3, .int .u32 a4] 49, blk g11 #[.int .i64 a5, .int .i64 a6, .int .u32 a7] 49])⟩
              · have H := if_no c331 H
                have c331b0 : (t308.2 == 0) = false := beq_eq_false_iff_ne.mpr c331
                have c331b1 : (t308.2 != 0) = true := bne_iff_ne.mpr c331
                clear c331
                go_wp2_with fail
                go_ret
                rw [← some_eq H]
                exact ⟨(by first | rfl | (simp [IntKind.wrap_u32]; done)), (HS.out).keep (l := []) (rest := [blk g8 #[.int .i64 a2, .int .i64 a3, .int .u32 a4] 49, blk g11 #[.int .i64 a5, .int .i64 a6, .int .u32 a7] 49])⟩
        · have H := if_no c294 H
          have c294b0 : t291 = false := by simpa using c294
          have c294b1 : (!t291) = true := by rw [c294b0]; rfl
          clear c294
          try simp only [c294b0, Bool.not_true, Bool.not_false]
          refine pure_ (i := 6) (N := some 43) (v := undef) (a' := ?_) #[true, true, true, true, true, true, true, false, false, false, false, false, false, false, false, false, false, false, false, false, false, false, false, false, false, false, false, false, false, false, false, false, false, false, false, false, false, false, false, false] rfl rfl (by kernel_rfl) (fun _ _ _ h => h) (Or.inr ⟨by rfl, rfl⟩) ?_ ?_
          rotate_left
          · simp only [Act.put, List.setIfInBounds_toArray, List.set_cons_zero, List.set_cons_succ, i64_w, i32_w]
            rfl
          try simp only [c294b0, Bool.not_true, Bool.not_false]
          refine pure_ (i := 7) (N := some 44) (v := undef) (a' := ?_) #[true, true, true, true, true, true, true, true, false, false, false, false, false, false, false, false, false, false, false, false, false, false, false, false, false, false, false, false, false, false, false, false, false, false, false, false, false, false, false, false] rfl rfl (by kernel_rfl) (fun _ _ _ h => h) (Or.inr ⟨by rfl, rfl⟩) ?_ ?_
          rotate_left
          · simp only [Act.put, List.setIfInBounds_toArray, List.set_cons_zero, List.set_cons_succ, i64_w, i32_w]
            rfl
          try simp only [c294b0, Bool.not_true, Bool.not_false]
          refine pure_ (i := 8) (N := some 45) (v := undef) (a' := ?_) #[true, true, true, true, true, true, true, true, true, false, false, false, false, false, false, false, false, false, false, false, false, false, false, false, false, false, false, false, false, false, false, false, false, false, false, false, false, false, false, false] rfl rfl (by kernel_rfl) (fun _ _ _ h => h) (Or.inr ⟨by rfl, rfl⟩) ?_ ?_
          rotate_left
          · simp only [Act.put, List.setIfInBounds_toArray, List.set_cons_zero, List.set_cons_succ, i64_w, i32_w]
            rfl
          try simp only [c294b0, Bool.not_true, Bool.not_false]
          refine pure_ (i := 9) (N := some 46) (v := undef) (a' := ?_) #[true, true, true, true, true, true, true, true, true, true, false, false, false, false, false, false, false, false, false, false, false, false, false, false, false, false, false, false, false, false, false, false, false, false, false, false, false, false, false, false] rfl rfl (by kernel_rfl) (fun _ _ _ h => h) (Or.inr ⟨by rfl, rfl⟩) ?_ ?_
          rotate_left
          · simp only [Act.put, List.setIfInBounds_toArray, List.set_cons_zero, List.set_cons_succ, i64_w, i32_w]
            rfl
          try simp only [c294b0, Bool.not_true, Bool.not_false]
          refine pure_ (i := 10) (N := some 47) (v := undef) (a' := ?_) #[true, true, true, true, true, true, true, true, true, true, true, false, false, false, false, false, false, false, false, false, false, false, false, false, false, false, false, false, false, false, false, false, false, false, false, false, false, false, false, false] rfl rfl (by kernel_rfl) (fun _ _ _ h => h) (Or.inr ⟨by rfl, rfl⟩) ?_ ?_
          rotate_left
          · simp only [Act.put, List.setIfInBounds_toArray, List.set_cons_zero, List.set_cons_succ, i64_w, i32_w]
            rfl
          try simp only [c294b0, Bool.not_true, Bool.not_false]
          refine pure_ (i := 11) (N := some 48) (v := undef) (a' := ?_) #[true, true, true, true, true, true, true, true, true, true, true, true, false, false, false, false, false, false, false, false, false, false, false, false, false, false, false, false, false, false, false, false, false, false, false, false, false, false, false, false] rfl rfl (by kernel_rfl) (fun _ _ _ h => h) (Or.inr ⟨by rfl, rfl⟩) ?_ ?_
          rotate_left
          · simp only [Act.put, List.setIfInBounds_toArray, List.set_cons_zero, List.set_cons_succ, i64_w, i32_w]
            rfl
          try simp only [c294b0, Bool.not_true, Bool.not_false]
          refine pure_ (i := 12) (N := some 49) (v := undef) (a' := ?_) #[true, true, true, true, true, true, true, true, true, true, true, true, true, false, false, false, false, false, false, false, false, false, false, false, false, false, false, false, false, false, false, false, false, false, false, false, false, false, false, false] rfl rfl (by kernel_rfl) (fun _ _ _ h => h) (Or.inr ⟨by rfl, rfl⟩) ?_ ?_
          rotate_left
          · simp only [Act.put, List.setIfInBounds_toArray, List.set_cons_zero, List.set_cons_succ, i64_w, i32_w]
            rfl
          try simp only [c294b0, Bool.not_true, Bool.not_false]
          refine pure_ (i := 13) (N := some 50) (v := undef) (a' := ?_) #[true, true, true, true, true, true, true, true, true, true, true, true, true, true, false, false, false, false, false, false, false, false, false, false, false, false, false, false, false, false, false, false, false, false, false, false, false, false, false, false] rfl rfl (by kernel_rfl) (fun _ _ _ h => h) (Or.inr ⟨by rfl, rfl⟩) ?_ ?_
          rotate_left
          · simp only [Act.put, List.setIfInBounds_toArray, List.set_cons_zero, List.set_cons_succ, i64_w, i32_w]
            rfl
          try simp only [c294b0, Bool.not_true, Bool.not_false]
          refine pure_ (i := 14) (N := some 51) (v := undef) (a' := ?_) #[true, true, true, true, true, true, true, true, true, true, true, true, true, true, true, false, false, false, false, false, false, false, false, false, false, false, false, false, false, false, false, false, false, false, false, false, false, false, false, false] rfl rfl (by kernel_rfl) (fun _ _ _ h => h) (Or.inr ⟨by rfl, rfl⟩) ?_ ?_
          rotate_left
          · simp only [Act.put, List.setIfInBounds_toArray, List.set_cons_zero, List.set_cons_succ, i64_w, i32_w]
            rfl
          refine pure_ (i := 15) (N := some 52) (v := undef) (a' := ?_) #[true, true, true, true, true, true, true, true, true, true, true, true, true, true, true, true, false, false, false, false, false, false, false, false, false, false, false, false, false, false, false, false, false, false, false, false, false, false, false, false] rfl rfl (by kernel_rfl) (fun _ _ _ h => h) (Or.inr ⟨by rfl, rfl⟩) ?_ ?_
          rotate_left
          · simp only [Act.put, List.setIfInBounds_toArray, List.set_cons_zero, List.set_cons_succ, i64_w, i32_w]
            rfl
          refine pure_ (i := 16) (N := some 53) (v := undef) (a' := ?_) #[true, true, true, true, true, true, true, true, true, true, true, true, true, true, true, true, true, false, false, false, false, false, false, false, false, false, false, false, false, false, false, false, false, false, false, false, false, false, false, false] rfl rfl (by kernel_rfl) (fun _ _ _ h => h) (Or.inr ⟨by rfl, rfl⟩) ?_ ?_
          rotate_left
          · simp only [Act.put, List.setIfInBounds_toArray, List.set_cons_zero, List.set_cons_succ, i64_w, i32_w]
            rfl
          refine pure_ (i := 17) (N := some 54) (v := undef) (a' := ?_) #[true, true, true, true, true, true, true, true, true, true, true, true, true, true, true, true, true, true, false, false, false, false, false, false, false, false, false, false, false, false, false, false, false, false, false, false, false, false, false, false] rfl rfl (by kernel_rfl) (fun _ _ _ h => h) (Or.inr ⟨by rfl, rfl⟩) ?_ ?_
          rotate_left
          · simp only [Act.put, List.setIfInBounds_toArray, List.set_cons_zero, List.set_cons_succ, i64_w, i32_w]
            rfl
          refine pure_ (i := 18) (N := some 55) (v := undef) (a' := ?_) #[true, true, true, true, true, true, true, true, true, true, true, true, true, true, true, true, true, true, true, false, false, false, false, false, false, false, false, false, false, false, false, false, false, false, false, false, false, false, false, false] rfl rfl (by kernel_rfl) (fun _ _ _ h => h) (Or.inr ⟨by rfl, rfl⟩) ?_ ?_
          rotate_left
          · simp only [Act.put, List.setIfInBounds_toArray, List.set_cons_zero, List.set_cons_succ, i64_w, i32_w]
            rfl
          refine pure_ (i := 19) (N := some 56) (v := undef) (a' := ?_) #[true, true, true, true, true, true, true, true, true, true, true, true, true, true, true, true, true, true, true, true, false, false, false, false, false, false, false, false, false, false, false, false, false, false, false, false, false, false, false, false] rfl rfl (by kernel_rfl) (fun _ _ _ h => h) (Or.inr ⟨by rfl, rfl⟩) ?_ ?_
          rotate_left
          · simp only [Act.put, List.setIfInBounds_toArray, List.set_cons_zero, List.set_cons_succ, i64_w, i32_w]
            rfl
          refine pure_ (i := 20) (N := some 57) (v := undef) (a' := ?_) #[true, true, true, true, true, true, true, true, true, true, true, true, true, true, true, true, true, true, true, true, true, false, false, false, false, false, false, false, false, false, false, false, false, false, false, false, false, false, false, false] rfl rfl (by kernel_rfl) (fun _ _ _ h => h) (Or.inr ⟨by rfl, rfl⟩) ?_ ?_
          rotate_left
          · simp only [Act.put, List.setIfInBounds_toArray, List.set_cons_zero, List.set_cons_succ, i64_w, i32_w]
            rfl
          refine pure_ (i := 21) (N := some 58) (v := undef) (a' := ?_) #[true, true, true, true, true, true, true, true, true, true, true, true, true, true, true, true, true, true, true, true, true, true, false, false, false, false, false, false, false, false, false, false, false, false, false, false, false, false, false, false] rfl rfl (by kernel_rfl) (fun _ _ _ h => h) (Or.inr ⟨by rfl, rfl⟩) ?_ ?_
          rotate_left
          · simp only [Act.put, List.setIfInBounds_toArray, List.set_cons_zero, List.set_cons_succ, i64_w, i32_w]
            rfl
          refine pure_ (i := 22) (N := some 59) (v := undef) (a' := ?_) #[true, true, true, true, true, true, true, true, true, true, true, true, true, true, true, true, true, true, true, true, true, true, true, false, false, false, false, false, false, false, false, false, false, false, false, false, false, false, false, false] rfl rfl (by kernel_rfl) (fun _ _ _ h => h) (Or.inr ⟨by rfl, rfl⟩) ?_ ?_
          rotate_left
          · simp only [Act.put, List.setIfInBounds_toArray, List.set_cons_zero, List.set_cons_succ, i64_w, i32_w]
            rfl
          try simp only [c294b0, Bool.not_true, Bool.not_false]
          refine pure_ (i := 23) (N := some 60) (v := undef) (a' := ?_) #[true, true, true, true, true, true, true, true, true, true, true, true, true, true, true, true, true, true, true, true, true, true, true, true, false, false, false, false, false, false, false, false, false, false, false, false, false, false, false, false] rfl rfl (by kernel_rfl) (fun _ _ _ h => h) (Or.inr ⟨by rfl, rfl⟩) ?_ ?_
          rotate_left
          · simp only [Act.put, List.setIfInBounds_toArray, List.set_cons_zero, List.set_cons_succ, i64_w, i32_w]
            rfl
          refine pure_ (i := 24) (N := some 61) (v := ?_) (a' := ?_) #[true, true, true, true, true, true, true, true, true, true, true, true, true, true, true, true, true, true, true, true, true, true, true, true, true, false, false, false, false, false, false, false, false, false, false, false, false, false, false, false] rfl rfl (by kernel_rfl) (fun _ _ _ h => h) (Or.inl ⟨by rfl, ?_⟩) ?_ ?_
          rotate_left
          · intro w'
            go_simp
            with_reducible rfl
          rotate_left
          · simp only [Act.put, List.setIfInBounds_toArray, List.set_cons_zero, List.set_cons_succ, i64_w, i32_w]
            rfl
          refine pure_ (i := 25) (N := some 62) (v := ?_) (a' := ?_) #[true, true, true, true, true, true, true, true, true, true, true, true, true, true, true, true, true, true, true, true, true, true, true, true, true, true, false, false, false, false, false, false, false, false, false, false, false, false, false, false] rfl rfl (by kernel_rfl) (fun _ _ _ h => h) (Or.inl ⟨by rfl, ?_⟩) ?_ ?_
          rotate_left
          · intro w'
            go_simp
            with_reducible rfl
          rotate_left
          · simp only [Act.put, List.setIfInBounds_toArray, List.set_cons_zero, List.set_cons_succ, i64_w, i32_w]
            rfl
          refine pure_ (i := 26) (N := some 63) (v := undef) (a' := ?_) #[true, true, true, true, true, true, true, true, true, true, true, true, true, true, true, true, true, true, true, true, true, true, true, true, true, true, true, false, false, false, false, false, false, false, false, false, false, false, false, false] rfl rfl (by kernel_rfl) (fun _ _ _ h => h) (Or.inr ⟨by rfl, rfl⟩) ?_ ?_
          rotate_left
          · simp only [Act.put, List.setIfInBounds_toArray, List.set_cons_zero, List.set_cons_succ, i64_w, i32_w]
            rfl
          refine pure_ (i := 27) (N := some 64) (v := undef) (a' := ?_) #[true, true, true, true, true, true, true, true, true, true, true, true, true, true, true, true, true, true, true, true, true, true, true, true, true, true, true, true, false, false, false, false, false, false, false, false, false, false, false, false] rfl rfl (by kernel_rfl) (fun _ _ _ h => h) (Or.inr ⟨by rfl, rfl⟩) ?_ ?_
          rotate_left
          · simp only [Act.put, List.setIfInBounds_toArray, List.set_cons_zero, List.set_cons_succ, i64_w, i32_w]
            rfl
          refine pure_ (i := 28) (N := some 65) (v := undef) (a' := ?_) #[true, true, true, true, true, true, true, true, true, true, true, true, true, true, true, true, true, true, true, true, true, true, true, true, true, true, true, true, true, false, false, false, false, false, false, false, false, false, false, false] rfl rfl (by kernel_rfl) (fun _ _ _ h => h) (Or.inr ⟨by rfl, rfl⟩) ?_ ?_
          rotate_left
          · simp only [Act.put, List.setIfInBounds_toArray, List.set_cons_zero, List.set_cons_succ, i64_w, i32_w]
            rfl
          refine pure_ (i := 29) (N := some 66) (v := undef) (a' := ?_) #[true, true, true, true, true, true, true, true, true, true, true, true, true, true, true, true, true, true, true, true, true, true, true, true, true, true, true, true, true, true, false, false, false, false, false, false, false, false, false, false] rfl rfl (by kernel_rfl) (fun _ _ _ h => h) (Or.inr ⟨by rfl, rfl⟩) ?_ ?_
          rotate_left
          · simp only [Act.put, List.setIfInBounds_toArray, List.set_cons_zero, List.set_cons_succ, i64_w, i32_w]
            rfl
          refine pure_ (i := 30) (N := some 67) (v := undef) (a' := ?_) #[true, true, true, true, true, true, true, true, true, true, true, true, true, true, true, true, true, true, true, true, true, true, true, true, true, true, true, true, true, true, true, false, false, false, false, false, false, false, false, false] rfl rfl (by kernel_rfl) (fun _ _ _ h => h) (Or.inr ⟨by rfl, rfl⟩) ?_ ?_
          rotate_left
          · simp only [Act.put, List.setIfInBounds_toArray, List.set_cons_zero, List.set_cons_succ, i64_w, i32_w]
            rfl
          refine pure_ (i := 31) (N := some 68) (v := undef) (a' := ?_) #[true, true, true, true, true, true, true, true, true, true, true, true, true, true, true, true, true, true, true, true, true, true, true, true, true, true, true, true, true, true, true, true, false, false, false, false, false, false, false, false] rfl rfl (by kernel_rfl) (fun _ _ _ h => h) (Or.inr ⟨by rfl, rfl⟩) ?_ ?_
          rotate_left
          · simp only [Act.put, List.setIfInBounds_toArray, List.set_cons_zero, List.set_cons_succ, i64_w, i32_w]
            rfl
          refine pure_ (i := 32) (N := some 69) (v := undef) (a' := ?_) #[true, true, true, true, true, true, true, true, true, true, true, true, true, true, true, true, true, true, true, true, true, true, true, true, true, true, true, true, true, true, true, true, true, false, false, false, false, false, false, false] rfl rfl (by kernel_rfl) (fun _ _ _ h => h) (Or.inr ⟨by rfl, rfl⟩) ?_ ?_
          rotate_left
          · simp only [Act.put, List.setIfInBounds_toArray, List.set_cons_zero, List.set_cons_succ, i64_w, i32_w]
            rfl
          refine pure_ (i := 33) (N := some 70) (v := undef) (a' := ?_) #[true, true, true, true, true, true, true, true, true, true, true, true, true, true, true, true, true, true, true, true, true, true, true, true, true, true, true, true, true, true, true, true, true, true, false, false, false, false, false, false] rfl rfl (by kernel_rfl) (fun _ _ _ h => h) (Or.inr ⟨by rfl, rfl⟩) ?_ ?_
          rotate_left
          · simp only [Act.put, List.setIfInBounds_toArray, List.set_cons_zero, List.set_cons_succ, i64_w, i32_w]
            rfl
          refine pure_ (i := 34) (N := some 71) (v := undef) (a' := ?_) #[true, true, true, true, true, true, true, true, true, true, true, true, true, true, true, true, true, true, true, true, true, true, true, true, true, true, true, true, true, true, true, true, true, true, true, false, false, false, false, false] rfl rfl (by kernel_rfl) (fun _ _ _ h => h) (Or.inr ⟨by rfl, rfl⟩) ?_ ?_
          rotate_left
          · simp only [Act.put, List.setIfInBounds_toArray, List.set_cons_zero, List.set_cons_succ, i64_w, i32_w]
            rfl
          refine pure_ (i := 35) (N := some 72) (v := undef) (a' := ?_) #[true, true, true, true, true, true, true, true, true, true, true, true, true, true, true, true, true, true, true, true, true, true, true, true, true, true, true, true, true, true, true, true, true, true, true, true, false, false, false, false] rfl rfl (by kernel_rfl) (fun _ _ _ h => h) (Or.inr ⟨by rfl, rfl⟩) ?_ ?_
          rotate_left
          · simp only [Act.put, List.setIfInBounds_toArray, List.set_cons_zero, List.set_cons_succ, i64_w, i32_w]
            rfl
          refine pure_ (i := 36) (N := some 73) (v := undef) (a' := ?_) #[true, true, true, true, true, true, true, true, true, true, true, true, true, true, true, true, true, true, true, true, true, true, true, true, true, true, true, true, true, true, true, true, true, true, true, true, true, false, false, false] rfl rfl (by kernel_rfl) (fun _ _ _ h => h) (Or.inr ⟨by rfl, rfl⟩) ?_ ?_
          rotate_left
          · simp only [Act.put, List.setIfInBounds_toArray, List.set_cons_zero, List.set_cons_succ, i64_w, i32_w]
            rfl
          refine pure_ (i := 37) (N := some 74) (v := undef) (a' := ?_) #[true, true, true, true, true, true, true, true, true, true, true, true, true, true, true, true, true, true, true, true, true, true, true, true, true, true, true, true, true, true, true, true, true, true, true, true, true, true, false, false] rfl rfl (by kernel_rfl) (fun _ _ _ h => h) (Or.inr ⟨by rfl, rfl⟩) ?_ ?_
          rotate_left
          · simp only [Act.put, List.setIfInBounds_toArray, List.set_cons_zero, List.set_cons_succ, i64_w, i32_w]
            rfl
          refine pure_ (i := 38) (N := some 75) (v := undef) (a' := ?_) #[true, true, true, true, true, true, true, true, true, true, true, true, true, true, true, true, true, true, true, true, true, true, true, true, true, true, true, true, true, true, true, true, true, true, true, true, true, true, true, false] rfl rfl (by kernel_rfl) (fun _ _ _ h => h) (Or.inr ⟨by rfl, rfl⟩) ?_ ?_
          rotate_left
          · simp only [Act.put, List.setIfInBounds_toArray, List.set_cons_zero, List.set_cons_succ, i64_w, i32_w]
            rfl
          refine pure_ (i := 39) (N := some 76) (v := ?_) (a' := ?_) #[true, true, true, true, true, true, true, true, true, true, true, true, true, true, true, true, true, true, true, true, true, true, true, true, true, true, true, true, true, true, true, true, true, true, true, true, true, true, true, true] rfl rfl (by kernel_rfl) (fun _ _ _ h => h) (Or.inl ⟨by rfl, ?_⟩) ?_ ?_
          rotate_left
          · intro w'
            go_simp
            with_reducible rfl
          rotate_left
          · simp only [Act.put, List.setIfInBounds_toArray, List.set_cons_zero, List.set_cons_succ, i64_w, i32_w]
            rfl
          refine done_ (by kernel_rfl) ?_
          go_wp2_with fail
          refine start_ (n := 17) (S := (fun w' => w'.cell? ⟨g8, 0, none⟩ = some (.int .i64 a2) ∧ w'.cell? ⟨g8, 1, none⟩ = some (.int .i64 a3))) (ds := []) #[false, false, false, false, false, false, false, false, false, false, false, false, false, false, false, false, false] (by kernel_rfl) rfl rfl (⟨blk_cellv ((HS.out.drew).at0) 0 rfl, blk_cellv ((HS.out.drew).at0) 1 rfl⟩) (fun hHeld => ?_)
          have HS_ := Aside0.mk HS.out.drew
          clear HS
          generalize World.drew _ = w333 at HS_ hHeld ⊢
          have HS := HS_
          clear HS_
          refine pure_ (i := 0) (N := some 78) (v := ?_) (a' := ?_) #[true, false, false, false, false, false, false, false, false, false, false, false, false, false, false, false, false] rfl rfl (by kernel_rfl) (fun _ _ _ h => h) (Or.inl ⟨by rfl, ?_⟩) ?_ ?_
          rotate_left
          · intro w'
            go_simp
            with_reducible rfl
          rotate_left
          · simp only [Act.put, List.setIfInBounds_toArray, List.set_cons_zero, List.set_cons_succ, i64_w, i32_w]
            rfl
          refine pure_ (i := 1) (N := some 79) (v := ?_) (a' := ?_) #[true, true, false, false, false, false, false, false, false, false, false, false, false, false, false, false, false] rfl rfl (by kernel_rfl) (fun _ _ _ h => h) (Or.inl ⟨by rfl, ?_⟩) ?_ ?_
          rotate_left
          · intro w'
            go_simp
            with_reducible rfl
          rotate_left
          · simp only [Act.put, List.setIfInBounds_toArray, List.set_cons_zero, List.set_cons_succ, i64_w, i32_w]
            rfl
          refine pure_ (i := 3) (N := some 81) (v := ?_) (a' := ?_) #[true, true, false, true, false, false, false, false, false, false, false, false, false, false, false, false, false] rfl rfl (by kernel_rfl) (fun _ _ _ h => h) (Or.inl ⟨by rfl, ?_⟩) ?_ ?_
          rotate_left
          · intro w'
            go_simp
            with_reducible rfl
          rotate_left
          · simp only [Act.put, List.setIfInBounds_toArray, List.set_cons_zero, List.set_cons_succ, i64_w, i32_w]
            rfl
          refine pure_ (i := 5) (N := some 83) (v := ?_) (a' := ?_) #[true, true, false, true, false, true, false, false, false, false, false, false, false, false, false, false, false] rfl rfl (by kernel_rfl) (fun _ _ _ h => h) (Or.inl ⟨by rfl, ?_⟩) ?_ ?_
          rotate_left
          · intro w'
            go_simp
            with_reducible rfl
          rotate_left
          · simp only [Act.put, List.setIfInBounds_toArray, List.set_cons_zero, List.set_cons_succ, i64_w, i32_w]
            rfl
          refine pure_ (i := 6) (N := some 84) (v := ?_) (a' := ?_) #[true, true, false, true, false, true, true, false, false, false, false, false, false, false, false, false, false] rfl rfl (by kernel_rfl) (fun _ _ _ h => h) (Or.inl ⟨by rfl, ?_⟩) ?_ ?_
          rotate_left
          · intro w'
            go_simp
            with_reducible rfl
          rotate_left
          · simp only [Act.put, List.setIfInBounds_toArray, List.set_cons_zero, List.set_cons_succ, i64_w, i32_w]
            rfl
          refine pure_ (i := 8) (N := some 86) (v := ?_) (a' := ?_) #[true, true, false, true, false, true, true, false, true, false, false, false, false, false, false, false, false] rfl rfl (by kernel_rfl) (fun _ _ _ h => h) (Or.inl ⟨by rfl, ?_⟩) ?_ ?_
          rotate_left
          · intro w'
            go_simp
            with_reducible rfl
          rotate_left
          · simp only [Act.put, List.setIfInBounds_toArray, List.set_cons_zero, List.set_cons_succ, i64_w, i32_w]
            rfl
          refine take_ (i := 2) (N := some 80) (v := ?_) (a' := ?_) #[true, true, true, true, false, true, true, false, true, false, false, false, false, false, false, false, false] rfl rfl (by kernel_rfl) (fun _ _ _ h => h) (Or.inl ⟨by rfl, ?_⟩) hHeld ?_ ?_
          rotate_left
          · rintro w' hS'
            obtain ⟨s0, s1⟩ := hS'
            go_simp
            with_reducible rfl
          rotate_left
          · simp only [Act.put, List.setIfInBounds_toArray, List.set_cons_zero, List.set_cons_succ, i64_w, i32_w]
            rfl
          refine take_ (i := 4) (N := some 82) (v := ?_) (a' := ?_) #[true, true, true, true, true, true, true, false, true, false, false, false, false, false, false, false, false] rfl rfl (by kernel_rfl) (fun _ _ _ h => h) (Or.inl ⟨by rfl, ?_⟩) hHeld ?_ ?_
          rotate_left
          · rintro w' hS'
            obtain ⟨s0, s1⟩ := hS'
            go_simp
            with_reducible rfl
          rotate_left
          · simp only [Act.put, List.setIfInBounds_toArray, List.set_cons_zero, List.set_cons_succ, i64_w, i32_w]
            rfl
          refine take_ (i := 7) (N := some 85) (v := ?_) (a' := ?_) #[true, true, true, true, true, true, true, true, true, false, false, false, false, false, false, false, false] rfl rfl (by kernel_rfl) (fun _ _ _ h => h) (Or.inl ⟨by rfl, ?_⟩) hHeld ?_ ?_
          rotate_left
          · rintro w' hS'
            obtain ⟨s0, s1⟩ := hS'
            go_simp
            with_reducible rfl
          rotate_left
          · simp only [Act.put, List.setIfInBounds_toArray, List.set_cons_zero, List.set_cons_succ, i64_w, i32_w]
            rfl
          refine take_ (i := 9) (N := some 87) (v := ?_) (a' := ?_) #[true, true, true, true, true, true, true, true, true, true, false, false, false, false, false, false, false] rfl rfl (by kernel_rfl) (fun _ _ _ h => h) (Or.inl ⟨by rfl, ?_⟩) hHeld ?_ ?_
          rotate_left
          · rintro w' hS'
            obtain ⟨s0, s1⟩ := hS'
            go_simp
            with_reducible rfl
          rotate_left
          · simp only [Act.put, List.setIfInBounds_toArray, List.set_cons_zero, List.set_cons_succ, i64_w, i32_w]
            rfl
          refine one_ (i := 10) (N := some 88) #[true, true, true, true, true, true, true, true, true, true, true, false, false, false, false, false, false] rfl rfl (by kernel_rfl) (by decide) (fun K hK => ?_)
          obtain ⟨t305, HA334, H⟩ := bind_some H
          refine goes_ Try.func35 (by kernel_rfl) rfl #[.int .u32 a1, .int .i64 a2, .int .i64 a3] (by rfl) rfl rfl (by (try simp only [List.map_toArray, List.map_cons, List.map_nil]); first | done | rfl) ?_
          refine (pack_Get.calls a1 a2 a3 t305 _ ⟨HS.out.begin (l := []) (rest := [blk g8 #[.int .i64 a2, .int .i64 a3, .int .u32 a4] 49, blk g11 #[.int .i64 a5, .int .i64 a6, .int .u32 a7] 49])⟩ HA334).mono ?_
          rintro e_ w335 ⟨rfl, hS⟩
          have HS_ : Aside0 (Sep (fps []) w [blk g8 #[.int .i64 a2, .int .i64 a3, .int .u32 a4] 49, blk g11 #[.int .i64 a5, .int .i64 a6, .int .u32 a7] 49] w335) := ⟨HS.out.call (l := []) (rest := [blk g8 #[.int .i64 a2, .int .i64 a3, .int .u32 a4] 49, blk g11 #[.int .i64 a5, .int .i64 a6, .int .u32 a7] 49]) hS⟩
          clear HS hS
          have HS := HS_
          clear HS_
          refine ⟨_, rfl, ?_⟩
          refine hK.out _ _ (⟨blk_cellv (HS.out.at0) 0 rfl, blk_cellv (HS.out.at0) 1 rfl⟩) (fun hHeld => ?_)
          clear hK K
          refine norm_ (a' := ?_) ?_ ?_
          rotate_left
          · show Act.put _ (some 88) _ = _
            simp only [Act.put, List.setIfInBounds_toArray, List.set_cons_zero, List.set_cons_succ, i64_w, i32_w]
            rfl
          refine one_ (i := 11) (N := some 89) #[true, true, true, true, true, true, true, true, true, true, true, true, false, false, false, false, false] rfl rfl (by kernel_rfl) (by decide) (fun K hK => ?_)
          obtain ⟨t308, HA336, H⟩ := bind_some H
          refine goes_ Try.func41 (by kernel_rfl) rfl #[.int .u32 t274.1, .int .i64 a2, .int .i64 a3, .int .u32 t305] (by rfl) rfl rfl (by (try simp only [List.map_toArray, List.map_cons, List.map_nil]); first | done | rfl) ?_
          refine (pack_Put.calls t274.1 a2 a3 t305 t308 _ ⟨HS.out.begin (l := []) (rest := [blk g8 #[.int .i64 a2, .int .i64 a3, .int .u32 a4] 49, blk g11 #[.int .i64 a5, .int .i64 a6, .int .u32 a7] 49])⟩ HA336).mono ?_
          rintro e_ w337 ⟨rfl, hS⟩
          have HS_ : Aside0 (Sep (fps []) w [blk g8 #[.int .i64 a2, .int .i64 a3, .int .u32 a4] 49, blk g11 #[.int .i64 a5, .int .i64 a6, .int .u32 a7] 49] w337) := ⟨HS.out.call (l := []) (rest := [blk g8 #[.int .i64 a2, .int .i64 a3, .int .u32 a4] 49, blk g11 #[.int .i64 a5, .int .i64 a6, .int .u32 a7] 49]) hS⟩
          clear HS hS
          have HS := HS_
          clear HS_
          refine ⟨_, rfl, ?_⟩
          refine hK.out _ _ (⟨blk_cellv (HS.out.at0) 0 rfl, blk_cellv (HS.out.at0) 1 rfl⟩) (fun hHeld => ?_)
          clear hK K
          refine norm_ (a' := ?_) ?_ ?_
          rotate_left
          · show Act.put _ (some 89) _ = _
            simp only [Act.put, List.setIfInBounds_toArray, List.set_cons_zero, List.set_cons_succ, i64_w, i32_w]
            rfl
          refine pure_ (i := 12) (N := some 77) (v := ?_) (a' := ?_) #[true, true, true, true, true, true, true, true, true, true, true, true, true, false, false, false, false] rfl rfl (by kernel_rfl) (fun _ _ _ h => h) (Or.inl ⟨by rfl, ?_⟩) ?_ ?_
          rotate_left
          · intro w'
            go_simp
            with_reducible rfl
          rotate_left
          · simp only [Act.put, List.setIfInBounds_toArray, List.set_cons_zero, List.set_cons_succ, i64_w, i32_w]
            rfl
          refine pure_ (i := 13) (N := some 90) (v := ?_) (a' := ?_) #[true, true, true, true, true, true, true, true, true, true, true, true, true, true, false, false, false] rfl rfl (by kernel_rfl) (fun _ _ _ h => h) (Or.inl ⟨by rfl, ?_⟩) ?_ ?_
          rotate_left
          · intro w'
            go_simp
            with_reducible rfl
          rotate_left
          · simp only [Act.put, List.setIfInBounds_toArray, List.set_cons_zero, List.set_cons_succ, i64_w, i32_w]
            rfl
          refine pure_ (i := 14) (N := some 91) (v := ?_) (a' := ?_) #[true, true, true, true, true, true, true, true, true, true, true, true, true, true, true, false, false] rfl rfl (by kernel_rfl) (fun _ _ _ h => h) (Or.inl ⟨by rfl, ?_⟩) ?_ ?_
          rotate_left
          · intro w'
            go_simp
            with_reducible rfl
          rotate_left
          · simp only [Act.put, List.setIfInBounds_toArray, List.set_cons_zero, List.set_cons_succ, i64_w, i32_w]
            rfl
          refine pure_ (i := 15) (N := some 9) (v := ?_) (a' := ?_) #[true, true, true, true, true, true, true, true, true, true, true, true, true, true, true, true, false] rfl rfl (by kernel_rfl) (fun _ _ _ h => h) (Or.inl ⟨by rfl, ?_⟩) ?_ ?_
          rotate_left
          · intro w'
            go_simp
            with_reducible rfl
          rotate_left
          · simp only [Act.put, List.setIfInBounds_toArray, List.set_cons_zero, List.set_cons_succ, i64_w, i32_w]
            rfl
          refine pure_ (i := 16) (N := some 10) (v := ?_) (a' := ?_) #[true, true, true, true, true, true, true, true, true, true, true, true, true, true, true, true, true] rfl rfl (by kernel_rfl) (fun _ _ _ h => h) (Or.inl ⟨by rfl, ?_⟩) ?_ ?_
          rotate_left
          · intro w'
            go_simp
            with_reducible rfl
          rotate_left
          · simp only [Act.put, List.setIfInBounds_toArray, List.set_cons_zero, List.set_cons_succ, i64_w, i32_w]
            rfl
          refine done_ (by kernel_rfl) ?_
          by_cases c338 : t308.2 = 0
          · have H := if_yes c338 H
            have c338b0 : (t308.2 == 0) = true := beq_iff_eq.mpr c338
            have c338b1 : (t308.2 != 0) = false := bne_eq_false_iff_eq.mpr c338
            clear c338
            go_wp2_with fail
            go_ret
            rw [← some_eq H]
            exact ⟨(by first | rfl | (simp [IntKind.wrap_u32]; done)), (HS.out).keep (l := []) (rest := [blk g8 #[.int .i64 a2, .int .i64 a3, .int .u32 a4] 49, blk g11 #[.int .i64 a5, .int .i64 a6, .int .u32 a7] 49])⟩
          · have H := if_no c338 H
            have c338b0 : (t308.2 == 0) = false := beq_eq_false_iff_ne.mpr c338
            have c338b1 : (t308.2 != 0) = true := bne_iff_ne.mpr c338
            clear c338
            go_wp2_with fail
            go_ret
            rw [← some_eq H]
            exact ⟨(by first | rfl | (simp [IntKind.wrap_u32]; done)), (HS.out).keep (l := []) (rest := [blk g8 #[.int .i64 a2, .int .i64 a3, .int .u32 a4] 49, blk g11 #[.int .i64 a5, .int .i64 a6, .int .u32 a7] 49])⟩
      · have H := if_no c283 H
        have c283b0 : (t280 == a4) = false := beq_eq_false_iff_ne.mpr c283
        have c283b1 : (t280 != a4) = true := bne_iff_ne.mpr c283
        clear c283
        go_wp2_with fail
        go_ret
        rw [← some_eq H]
        exact ⟨(by first | rfl | (simp [IntKind.wrap_u32]; done)), (HS.out).keep (l := []) (rest := [blk g8 #[.int .i64 a2, .int .i64 a3, .int .u32 a4] 49, blk g11 #[.int .i64 a5, .int .i64 a6, .int .u32 a7] 49])⟩
    · have H := if_no c277 H
      have c277b0 : (t274.2 == 0) = false := beq_eq_false_iff_ne.mpr c277
      have c277b1 : (t274.2 != 0) = true := bne_iff_ne.mpr c277
      clear c277
      go_wp2_with fail
      go_ret
      rw [← some_eq H]
      exact ⟨(by first | rfl | (simp [IntKind.wrap_u32]; done)), (HS.out).keep (l := []) (rest := [blk g8 #[.int .i64 a2, .int .i64 a3, .int .u32 a4] 49, blk g11 #[.int .i64 a5, .int .i64 a6, .int .u32 a7] 49])⟩
  · have H := if_no c270 H
    have c270b0 : t267 = false := by simpa using c270
    have c270b1 : (!t267) = true := by rw [c270b0]; rfl
    try rw [c270b1]
    clear c270
    go_wp2_with fail
    go_ret
    rw [← some_eq H]
    exact ⟨(by first | rfl | (simp [IntKind.wrap_u32]; done)), (HS.out).keep (l := []) (rest := [blk g8 #[.int .i64 a2, .int .i64 a3, .int .u32 a4] 49, blk g11 #[.int .i64 a5, .int .i64 a6, .int .u32 a7] 49])⟩
end Go.Proofs.Ytgkpcboaiaiahaa.C

/- Each function of the group Plan does what its plain function says, and changes nothing that was there; proved by walking its code. No condition. -/
import Derived.Test.YtgkpcboaiaiahabQw
import Derived.Test.YtgkpcboaiaiahabMPlan
namespace Go.Proofs.Ytgkpcboaiaiahab.C
open Go.RowKit Go.Proofs.YtgkpcboaiaiahabW.PrintWords Go.Proofs.YtgkpcboaiaiahabW.PrintLast Go.Proofs.YtgkpcboaiaiahabW.PrintMore Go.Proofs.Ytgkpcboaiaiahab.Q Go.Proofs.Ytgkpcboaiaiahab.M
set_option linter.unusedVariables false
set_option linter.unusedSimpArgs false
set_option maxHeartbeats 4000000 in
set_option maxRecDepth 100000 in
theorem ratio_Clamp.calls (a37 : Int) (a38 : Int) (a39 : Int) (r : Int) (w : World)  (HS : Aside0 (Sep (fps []) w [] w)) (H : Aside0 (ratio_Clamp.f a37 a38 a39 = some r)) :
    Calls Try.prog 43 #[.int .i64 a37, .int .i64 a38, .int .i64 a39] w fun e w' => e = .returned (.int .i64 r) ∧ Sep (fps []) w [] w' := by
  unfold ratio_Clamp.f at H
  go_enter Try.func43, Try.ntmps43
  by_cases c40 : a37 > a39
  · have H := if_yes c40 H
    have c40b0 : decide (a39 < a37) = true := decide_eq_true c40
    clear c40
    go_wp2_with fail
    go_ret
    rw [← some_eq H]
    exact ⟨(by first | rfl | (simp [IntKind.wrap_u32]; done)), (HS.out).keep (l := []) (rest := [])⟩
  · have H := if_no c40 H
    have c40b0 : decide (a39 < a37) = false := decide_eq_false c40
    clear c40
    by_cases c41 : a37 < a38
    · have H := if_yes c41 H
      have c41b0 : decide (a37 < a38) = true := decide_eq_true c41
      skip
      go_wp2_with fail
      clear c41
      go_ret
      rw [← some_eq H]
      exact ⟨(by first | rfl | (simp [IntKind.wrap_u32]; done)), (HS.out).keep (l := []) (rest := [])⟩
    · have H := if_no c41 H
      have c41b0 : decide (a37 < a38) = false := decide_eq_false c41
      skip
      go_wp2_with fail
      clear c41
      go_ret
      rw [← some_eq H]
      exact ⟨(by first | rfl | (simp [IntKind.wrap_u32]; done)), (HS.out).keep (l := []) (rest := [])⟩

set_option maxHeartbeats 4000000 in
set_option maxRecDepth 100000 in
theorem plan_within.calls (a34 : Int) (a35 : Int) (a36 : Int) (r : Bool) (w : World)  (HS : Aside0 (Sep (fps []) w [] w)) (H : Aside0 (plan_within.f a34 a35 a36 = some r)) :
    Calls Try.prog 40 #[.int .i64 a34, .int .i64 a35, .int .i64 a36] w fun e w' => e = .returned (.bool r) ∧ Sep (fps []) w [] w' := by
  unfold plan_within.f at H
  go_enter Try.func40, Try.ntmps40
  go_wp2_with fail
  obtain ⟨t42, HA43, H⟩ := bind_some H
  refine (ratio_Clamp.calls a34 a35 a36 t42 _ ⟨HS.out.begin (l := []) (rest := [])⟩ HA43).mono ?_
  rintro e_ w44 ⟨rfl, hS⟩
  have HS_ : Aside0 (Sep (fps []) w [] w44) := ⟨HS.out.call (l := []) (rest := []) hS⟩
  clear HS hS
  have HS := HS_
  clear HS_
  go_wp2_with fail
  go_ret
  rw [← some_eq H]
  exact ⟨(by first | rfl | (simp [IntKind.wrap_u32]; done)), (HS.out).keep (l := []) (rest := [])⟩

set_option maxHeartbeats 4000000 in
set_option maxRecDepth 100000 in
theorem plan_Check.calls (a26 : Int) (a27 : Int) (a28 : Int) (a29 : Int) (r : Int) (w : World)  (HS : Aside0 (Sep (fps []) w [] w)) (H : Aside0 (plan_Check.f a26 a27 a28 a29 = some r)) :
    Calls Try.prog 20 #[.agg #[.int .i64 a26, .int .i64 a27, .int .i64 a28, .int .i64 a29]] w fun e w' => e = .returned (.int .i64 r) ∧ Sep (fps []) w [] w' := by
  unfold plan_Check.f at H
  go_enter Try.func20, Try.ntmps20
  go_wp2_with (first | ((with_reducible refine gate_dst (N := 1) rfl ?_); refine box_on ?hg (N := 1) ?hd (cs := #[.int .i64 a26, .int .i64 a27, .int .i64 a28, .int .i64 a29]) (t := 32) ?hr ?_; (case hd => rfl); (case hg => rfl); (case hr => first | (go_simp; done) | (go_simp; rfl)); intro g30 hg w31 hbox hb; have HS_ : Aside0 (Sep (fps []) w [blk g30 #[.int .i64 a26, .int .i64 a27, .int .i64 a28, .int .i64 a29] 32] w31) := ⟨HS.out.box hg hbox hb⟩; clear HS hg hbox hb; have HS := HS_; clear HS_; have hc33 : w31.cell? ⟨g30, 0, none⟩ = some (.int .i64 a26) := blk_cellv (HS.out.at0) 0 rfl))
  clear hc33
  obtain ⟨t45, HA46, H⟩ := bind_some H
  refine (plan_within.calls a26 1 1048576 t45 _ ⟨HS.out.begin (l := []) (rest := [blk g30 #[.int .i64 a26, .int .i64 a27, .int .i64 a28, .int .i64 a29] 32])⟩ HA46).mono ?_
  rintro e_ w47 ⟨rfl, hS⟩
  have HS_ : Aside0 (Sep (fps []) w [blk g30 #[.int .i64 a26, .int .i64 a27, .int .i64 a28, .int .i64 a29] 32] w47) := ⟨HS.out.call (l := []) (rest := [blk g30 #[.int .i64 a26, .int .i64 a27, .int .i64 a28, .int .i64 a29] 32]) hS⟩
  clear HS hS
  have HS := HS_
  clear HS_
  by_cases c48 : t45 = true
  · have H := if_yes c48 H
    have c48b0 : t45 = true := c48
    clear c48
    have hc49 : w47.cell? ⟨g30, 1, none⟩ = some (.int .i64 a27) := blk_cellv (HS.out.at0) 1 rfl
    go_wp2_with fail
    clear hc49
    obtain ⟨t50, HA51, H⟩ := bind_some H
    refine (plan_within.calls a27 16 256 t50 _ ⟨HS.out.begin (l := []) (rest := [blk g30 #[.int .i64 a26, .int .i64 a27, .int .i64 a28, .int .i64 a29] 32])⟩ HA51).mono ?_
    rintro e_ w52 ⟨rfl, hS⟩
    have HS_ : Aside0 (Sep (fps []) w [blk g30 #[.int .i64 a26, .int .i64 a27, .int .i64 a28, .int .i64 a29] 32] w52) := ⟨HS.out.call (l := []) (rest := [blk g30 #[.int .i64 a26, .int .i64 a27, .int .i64 a28, .int .i64 a29] 32]) hS⟩
    clear HS hS
    have HS := HS_
    clear HS_
    by_cases c53 : t50 = true
    · have H := if_yes c53 H
      have c53b0 : t50 = true := c53
      clear c53
      have hc54 : w52.cell? ⟨g30, 2, none⟩ = some (.int .i64 a28) := blk_cellv (HS.out.at0) 2 rfl
      go_wp2_with fail
      clear hc54
      obtain ⟨t55, HA56, H⟩ := bind_some H
      refine (plan_within.calls a28 1 4096 t55 _ ⟨HS.out.begin (l := []) (rest := [blk g30 #[.int .i64 a26, .int .i64 a27, .int .i64 a28, .int .i64 a29] 32])⟩ HA56).mono ?_
      rintro e_ w57 ⟨rfl, hS⟩
      have HS_ : Aside0 (Sep (fps []) w [blk g30 #[.int .i64 a26, .int .i64 a27, .int .i64 a28, .int .i64 a29] 32] w57) := ⟨HS.out.call (l := []) (rest := [blk g30 #[.int .i64 a26, .int .i64 a27, .int .i64 a28, .int .i64 a29] 32]) hS⟩
      clear HS hS
      have HS := HS_
      clear HS_
      by_cases c58 : t55 = true
      · have H := if_yes c58 H
        have c58b0 : t55 = true := c58
        clear c58
        have hc59 : w57.cell? ⟨g30, 3, none⟩ = some (.int .i64 a29) := blk_cellv (HS.out.at0) 3 rfl
        go_wp2_with fail
        clear hc59
        obtain ⟨t60, HA61, H⟩ := bind_some H
        refine (plan_within.calls a29 1 65536 t60 _ ⟨HS.out.begin (l := []) (rest := [blk g30 #[.int .i64 a26, .int .i64 a27, .int .i64 a28, .int .i64 a29] 32])⟩ HA61).mono ?_
        rintro e_ w62 ⟨rfl, hS⟩
        have HS_ : Aside0 (Sep (fps []) w [blk g30 #[.int .i64 a26, .int .i64 a27, .int .i64 a28, .int .i64 a29] 32] w62) := ⟨HS.out.call (l := []) (rest := [blk g30 #[.int .i64 a26, .int .i64 a27, .int .i64 a28, .int .i64 a29] 32]) hS⟩
        clear HS hS
        have HS := HS_
        clear HS_
        by_cases c63 : t60 = true
        · have H := if_yes c63 H
          have c63b0 : t60 = true := c63
          clear c63
          by_cases c66 : (wrap64 (a26 * a27)) ≤ 4194304
          · have H := if_yes c66 H
            have c66b0 : decide ((wrap64 (a26 * a27)) ≤ 4194304) = true := decide_eq_true c66
            clear c66
            have hc64 : w62.cell? ⟨g30, 0, none⟩ = some (.int .i64 a26) := blk_cellv (HS.out.at0) 0 rfl
            have hc65 : w62.cell? ⟨g30, 1, none⟩ = some (.int .i64 a27) := blk_cellv (HS.out.at0) 1 rfl
            go_wp2_with fail
            clear hc64 hc65
            go_ret
            rw [← some_eq H]
            exact ⟨(by first | rfl | (simp [IntKind.wrap_u32]; done)), (HS.out).keep (l := []) (rest := [blk g30 #[.int .i64 a26, .int .i64 a27, .int .i64 a28, .int .i64 a29] 32])⟩
          · have H := if_no c66 H
            have c66b0 : decide ((wrap64 (a26 * a27)) ≤ 4194304) = false := decide_eq_false c66
            clear c66
            have hc64 : w62.cell? ⟨g30, 0, none⟩ = some (.int .i64 a26) := blk_cellv (HS.out.at0) 0 rfl
            have hc65 : w62.cell? ⟨g30, 1, none⟩ = some (.int .i64 a27) := blk_cellv (HS.out.at0) 1 rfl
            go_wp2_with fail
            clear hc64 hc65
            go_ret
            rw [← some_eq H]
            exact ⟨(by first | rfl | (simp [IntKind.wrap_u32]; done)), (HS.out).keep (l := []) (rest := [blk g30 #[.int .i64 a26, .int .i64 a27, .int .i64 a28, .int .i64 a29] 32])⟩
        · have H := if_no c63 H
          have c63b0 : t60 = false := by simpa using c63
          clear c63
          go_wp2_with fail
          go_ret
          rw [← some_eq H]
          exact ⟨(by first | rfl | (simp [IntKind.wrap_u32]; done)), (HS.out).keep (l := []) (rest := [blk g30 #[.int .i64 a26, .int .i64 a27, .int .i64 a28, .int .i64 a29] 32])⟩
      · have H := if_no c58 H
        have c58b0 : t55 = false := by simpa using c58
        clear c58
        go_wp2_with fail
        go_ret
        rw [← some_eq H]
        exact ⟨(by first | rfl | (simp [IntKind.wrap_u32]; done)), (HS.out).keep (l := []) (rest := [blk g30 #[.int .i64 a26, .int .i64 a27, .int .i64 a28, .int .i64 a29] 32])⟩
    · have H := if_no c53 H
      have c53b0 : t50 = false := by simpa using c53
      clear c53
      go_wp2_with fail
      go_ret
      rw [← some_eq H]
      exact ⟨(by first | rfl | (simp [IntKind.wrap_u32]; done)), (HS.out).keep (l := []) (rest := [blk g30 #[.int .i64 a26, .int .i64 a27, .int .i64 a28, .int .i64 a29] 32])⟩
  · have H := if_no c48 H
    have c48b0 : t45 = false := by simpa using c48
    clear c48
    go_wp2_with fail
    go_ret
    rw [← some_eq H]
    exact ⟨(by first | rfl | (simp [IntKind.wrap_u32]; done)), (HS.out).keep (l := []) (rest := [blk g30 #[.int .i64 a26, .int .i64 a27, .int .i64 a28, .int .i64 a29] 32])⟩

set_option maxHeartbeats 4000000 in
set_option maxRecDepth 100000 in
theorem ratio_counts.calls (a99 : Int) (r : Int) (w : World)  (HS : Aside0 (Sep (fps []) w [] w)) (H : Aside0 (ratio_counts.f a99 = some r)) :
    Calls Try.prog 55 #[.int .i64 a99] w fun e w' => e = .returned (.int .i64 r) ∧ Sep (fps []) w [] w' := by
  unfold ratio_counts.f at H
  go_enter Try.func55, Try.ntmps55
  go_wp2_with fail
  obtain ⟨t100, HA101, H⟩ := bind_some H
  refine (ratio_Clamp.calls a99 0 1125899906842624 t100 _ ⟨HS.out.begin (l := []) (rest := [])⟩ HA101).mono ?_
  rintro e_ w102 ⟨rfl, hS⟩
  have HS_ : Aside0 (Sep (fps []) w [] w102) := ⟨HS.out.call (l := []) (rest := []) hS⟩
  clear HS hS
  have HS := HS_
  clear HS_
  go_wp2_with fail
  go_ret
  rw [← some_eq H]
  exact ⟨(by first | rfl | (simp [IntKind.wrap_u32]; done)), (HS.out).keep (l := []) (rest := [])⟩

set_option maxHeartbeats 4000000 in
set_option maxRecDepth 100000 in
theorem ratio_zero.calls (a98 : Int) (r : Bool) (w : World)  (HS : Aside0 (Sep (fps []) w [] w)) (H : Aside0 (ratio_zero.f a98 = some r)) :
    Calls Try.prog 57 #[.int .i64 a98] w fun e w' => e = .returned (.bool r) ∧ Sep (fps []) w [] w' := by
  unfold ratio_zero.f at H
  go_enter Try.func57, Try.ntmps57
  go_wp2_with fail
  obtain ⟨t103, HA104, H⟩ := bind_some H
  refine (ratio_counts.calls a98 t103 _ ⟨HS.out.begin (l := []) (rest := [])⟩ HA104).mono ?_
  rintro e_ w105 ⟨rfl, hS⟩
  have HS_ : Aside0 (Sep (fps []) w [] w105) := ⟨HS.out.call (l := []) (rest := []) hS⟩
  clear HS hS
  have HS := HS_
  clear HS_
  go_wp2_with fail
  go_ret
  rw [← some_eq H]
  exact ⟨(by first | rfl | (simp [IntKind.wrap_u32]; done)), (HS.out).keep (l := []) (rest := [])⟩

set_option maxHeartbeats 4000000 in
set_option maxRecDepth 100000 in
theorem slices_IndexFunc_int_int.calls (k : Nat) (l84 : List Int) (A85 : Option Addr) (n86 : Nat) (r : Int) (w : World) (HR87 : Aside0 (Kd.C (Kd.int .i64) w A85 l84.length l84)) (HS : Aside0 (Sep (fps []) w [] w)) (H : Aside0 (slices_IndexFunc_int_int.f k l84 = some r)) :
    Calls Try.prog 59 #[.slice A85 l84.length n86, .func (.func 57) #[] #[]] w fun e w' => e = .returned (.int .i64 r) ∧ Sep (fps []) w [] w' := by
  unfold slices_IndexFunc_int_int.f at H
  go_enter Try.func59, Try.ntmps59
  go_wp2_with fail
  obtain ⟨o110, AL111, H⟩ := bind_some H
  go_loopg [8] k (fun kq v8 wc => ∃ (x114 : Int), v8 = .int .i64 x114 ∧ Aside0 (slices_IndexFunc_int_int.lo0 kq l84 x114 = some o110) ∧ Aside0 (Sep (fps []) w [] wc))
  case atStart => exact ⟨(0), (by first | rfl | (simp [IntKind.wrap_u32]; done)), AL111, ⟨HS.out⟩⟩
  case round =>
    clear AL111 HS
    obtain ⟨x114, rfl, AL111, HS⟩ := hrel
    obtain ⟨w112, rfl⟩ : ∃ x : World, x = wr := ⟨_, rfl⟩
    cases gk with
    | zero => exact absurd AL111.out (by simp [slices_IndexFunc_int_int.lo0])
    | succ k113 =>
      have AL0 := AL111.out
      rw [slices_IndexFunc_int_int.lo0] at AL0
      clear AL111
      have AL111 := Aside0.mk AL0
      clear AL0
      by_cases c115 : x114 < (l84.length : Int)
      · have AL111 := if_yes c115 AL111
        have c115b0 : decide (x114 < (l84.length : Int)) = true := decide_eq_true c115
        clear c115
        by_cases c116 : 0 ≤ x114
        · have AL111 := if_yes c116 AL111
          have c116b0 : decide (0 ≤ x114) = true := decide_eq_true c116
          have c116p : (0 ≤ x114) = True := eq_true c116
          clear c116
          have ip117 : (x114 < (l84.length : Int)) = True := eq_true (of_decide_eq_true c115b0)
          obtain ⟨hx118a, hx118e, hx118⟩ := Kd.at_int (Kd.C_below HR87.out HS.out.fr.below) x114 (of_decide_eq_true c116b0) (of_decide_eq_true c115b0); cases hx118e
          go_wp2_with fail
          clear hx118
          obtain ⟨t106, HA119, AL111⟩ := bind_some AL111
          refine (ratio_zero.calls (rd l84 x114) t106 _ ⟨HS.out.begin (l := []) (rest := [])⟩ HA119).mono ?_
          rintro e_ w120 ⟨rfl, hS⟩
          have HS_ : Aside0 (Sep (fps []) w [] w120) := ⟨HS.out.call (l := []) (rest := []) hS⟩
          clear HS hS
          have HS := HS_
          clear HS_
          by_cases c121 : t106 = true
          · have AL111 := if_yes c121 AL111
            have c121b0 : t106 = true := c121
            clear c121
            go_wp2_with fail
            have ho := some_eq AL111
            subst ho
            have H := lp_ret H
            go_ret
            rw [← some_eq H]
            exact ⟨(by first | rfl | (simp [IntKind.wrap_u32]; done)), (HS.out).keep (l := []) (rest := [])⟩
          · have AL111 := if_no c121 AL111
            have c121b0 : t106 = false := by simpa using c121
            clear c121
            go_wp2_with fail
            go_roundg k113
            case measure => exact Nat.lt_succ_self _
            case rel => exact ⟨(wrap64 (x114 + 1)), (by first | rfl | (simp [IntKind.wrap_u32]; done)), Aside0.mk AL111.out, ⟨(HS.out).keep (l := []) (rest := [])⟩⟩
        · have AL111 := if_no c116 AL111
          have c116b0 : decide (0 ≤ x114) = false := decide_eq_false c116
          clear c116
          exact (none_no AL111).elim
      · have AL111 := if_no c115 AL111
        have c115b0 : decide (x114 < (l84.length : Int)) = false := decide_eq_false c115
        clear c115
        have ho := some_eq AL111
        subst ho
        clear AL111
        have H := lp_out H
        go_wp2_with fail
        go_ret
        rw [← some_eq H]
        exact ⟨(by first | rfl | (simp [IntKind.wrap_u32]; done)), (HS.out).keep (l := []) (rest := [])⟩

set_option maxHeartbeats 4000000 in
set_option maxRecDepth 100000 in
theorem slices_ContainsFunc_int_int.calls (k : Nat) (l80 : List Int) (A81 : Option Addr) (n82 : Nat) (r : Bool) (w : World) (HR83 : Aside0 (Kd.C (Kd.int .i64) w A81 l80.length l80)) (HS : Aside0 (Sep (fps []) w [] w)) (H : Aside0 (slices_ContainsFunc_int_int.f k l80 = some r)) :
    Calls Try.prog 56 #[.slice A81 l80.length n82, .func (.func 57) #[] #[]] w fun e w' => e = .returned (.bool r) ∧ Sep (fps []) w [] w' := by
  unfold slices_ContainsFunc_int_int.f at H
  go_enter Try.func56, Try.ntmps56
  go_wp2_with fail
  obtain ⟨t123, HA124, H⟩ := bind_some H
  refine (slices_IndexFunc_int_int.calls _ l80 A81 n82 t123 _ ⟨HR83.out⟩ ⟨HS.out.begin (l := []) (rest := [])⟩ HA124).mono ?_
  rintro e_ w125 ⟨rfl, hS⟩
  have HS_ : Aside0 (Sep (fps []) w [] w125) := ⟨HS.out.call (l := []) (rest := []) hS⟩
  clear HS hS
  have HS := HS_
  clear HS_
  go_wp2_with fail
  go_ret
  rw [← some_eq H]
  exact ⟨(by first | rfl | (simp [IntKind.wrap_u32]; done)), (HS.out).keep (l := []) (rest := [])⟩

set_option maxHeartbeats 4000000 in
set_option maxRecDepth 100000 in
theorem ratio_Mul.calls (k : Nat) (l76 : List Int) (A77 : Option Addr) (n78 : Nat) (r : Int) (w : World) (HR79 : Aside0 (Kd.C (Kd.int .i64) w A77 l76.length l76)) (HS : Aside0 (Sep (fps []) w [] w)) (H : Aside0 (ratio_Mul.f k l76 = some r)) :
    Calls Try.prog 42 #[.slice A77 l76.length n78] w fun e w' => e = .returned (.int .i64 r) ∧ Sep (fps []) w [] w' := by
  unfold ratio_Mul.f at H
  go_enter Try.func42, Try.ntmps42
  go_wp2_with fail
  obtain ⟨t126, HA127, H⟩ := bind_some H
  refine (slices_ContainsFunc_int_int.calls _ l76 A77 n78 t126 _ ⟨HR79.out⟩ ⟨HS.out.begin (l := []) (rest := [])⟩ HA127).mono ?_
  rintro e_ w128 ⟨rfl, hS⟩
  have HS_ : Aside0 (Sep (fps []) w [] w128) := ⟨HS.out.call (l := []) (rest := []) hS⟩
  clear HS hS
  have HS := HS_
  clear HS_
  by_cases c129 : t126 = true
  · have H := if_yes c129 H
    have c129b0 : t126 = true := c129
    clear c129
    go_wp2_with fail
    go_ret
    rw [← some_eq H]
    exact ⟨(by first | rfl | (simp [IntKind.wrap_u32]; done)), (HS.out).keep (l := []) (rest := [])⟩
  · have H := if_no c129 H
    have c129b0 : t126 = false := by simpa using c129
    clear c129
    go_wp2_with fail
    obtain ⟨o131, AL132, H⟩ := bind_some H
    go_loopg [3, 11] k (fun kq v3 v11 wc => ∃ (x135 : Int) (x136 : Int), v3 = .int .i64 x135 ∧ v11 = .int .i64 x136 ∧ Aside0 (ratio_Mul.lo0 kq l76 x135 x136 = some o131) ∧ Aside0 (Sep (fps []) w [] wc))
    case atStart => exact ⟨(1), (0), (by first | rfl | (simp [IntKind.wrap_u32]; done)), (by first | rfl | (simp [IntKind.wrap_u32]; done)), AL132, ⟨HS.out⟩⟩
    case round =>
      clear AL132 HS
      obtain ⟨x135, x136, rfl, rfl, AL132, HS⟩ := hrel
      obtain ⟨w133, rfl⟩ : ∃ x : World, x = wr := ⟨_, rfl⟩
      cases gk with
      | zero => exact absurd AL132.out (by simp [ratio_Mul.lo0])
      | succ k134 =>
        have AL0 := AL132.out
        rw [ratio_Mul.lo0] at AL0
        clear AL132
        have AL132 := Aside0.mk AL0
        clear AL0
        by_cases c137 : x136 < (l76.length : Int)
        · have AL132 := if_yes c137 AL132
          have c137b0 : decide (x136 < (l76.length : Int)) = true := decide_eq_true c137
          clear c137
          by_cases c138 : 0 ≤ x136
          · have AL132 := if_yes c138 AL132
            have c138b0 : decide (0 ≤ x136) = true := decide_eq_true c138
            have c138p : (0 ≤ x136) = True := eq_true c138
            clear c138
            have ip139 : (x136 < (l76.length : Int)) = True := eq_true (of_decide_eq_true c137b0)
            obtain ⟨hx140a, hx140e, hx140⟩ := Kd.at_int (Kd.C_below HR79.out HS.out.fr.below) x136 (of_decide_eq_true c138b0) (of_decide_eq_true c137b0); cases hx140e
            go_wp2_with fail
            clear hx140
            obtain ⟨t141, HA142, AL132⟩ := bind_some AL132
            refine (ratio_counts.calls (rd l76 x136) t141 _ ⟨HS.out.begin (l := []) (rest := [])⟩ HA142).mono ?_
            rintro e_ w143 ⟨rfl, hS⟩
            have HS_ : Aside0 (Sep (fps []) w [] w143) := ⟨HS.out.call (l := []) (rest := []) hS⟩
            clear HS hS
            have HS := HS_
            clear HS_
            by_cases c144 : t141 = 0
            · have AL132 := if_yes c144 AL132
              have c144b0 : (t141 == 0) = true := beq_iff_eq.mpr c144
              have c144b1 : (t141 != 0) = false := bne_eq_false_iff_eq.mpr c144
              exact (none_no AL132).elim
            · have AL132 := if_no c144 AL132
              have c144b0 : (t141 == 0) = false := beq_eq_false_iff_ne.mpr c144
              have c144b1 : (t141 != 0) = true := bne_iff_ne.mpr c144
              by_cases c145 : x135 ≤ (wrap64 (Int.tdiv (1125899906842624 : Int) t141))
              · have AL132 := if_yes c145 AL132
                have c145b0 : decide (x135 ≤ (wrap64 (Int.tdiv (1125899906842624 : Int) t141))) = true := decide_eq_true c145
                clear c145
                skip
                go_wp2_with fail
                clear c144
                go_roundg k134
                case measure => exact Nat.lt_succ_self _
                case rel => exact ⟨(wrap64 (x135 * t141)), (wrap64 (x136 + 1)), (by first | rfl | (simp [IntKind.wrap_u32]; done)), (by first | rfl | (simp [IntKind.wrap_u32]; done)), Aside0.mk AL132.out, ⟨(HS.out).keep (l := []) (rest := [])⟩⟩
              · have AL132 := if_no c145 AL132
                have c145b0 : decide (x135 ≤ (wrap64 (Int.tdiv (1125899906842624 : Int) t141))) = false := decide_eq_false c145
                clear c145
                skip
                go_wp2_with fail
                clear c144
                go_roundg k134
                case measure => exact Nat.lt_succ_self _
                case rel => exact ⟨(1125899906842624), (wrap64 (x136 + 1)), (by first | rfl | (simp [IntKind.wrap_u32]; done)), (by first | rfl | (simp [IntKind.wrap_u32]; done)), Aside0.mk AL132.out, ⟨(HS.out).keep (l := []) (rest := [])⟩⟩
          · have AL132 := if_no c138 AL132
            have c138b0 : decide (0 ≤ x136) = false := decide_eq_false c138
            clear c138
            exact (none_no AL132).elim
        · have AL132 := if_no c137 AL132
          have c137b0 : decide (x136 < (l76.length : Int)) = false := decide_eq_false c137
          clear c137
          have ho := some_eq AL132
          subst ho
          clear AL132
          go_wp2_with fail
          go_ret
          rw [← some_eq H]
          exact ⟨(by first | rfl | (simp [IntKind.wrap_u32]; done)), (HS.out).keep (l := []) (rest := [])⟩

set_option maxHeartbeats 4000000 in
set_option maxRecDepth 100000 in
theorem ratio_Add.calls (k : Nat) (l153 : List Int) (A154 : Option Addr) (n155 : Nat) (r : Int) (w : World) (HR156 : Aside0 (Kd.C (Kd.int .i64) w A154 l153.length l153)) (HS : Aside0 (Sep (fps []) w [] w)) (H : Aside0 (ratio_Add.f k l153 = some r)) :
    Calls Try.prog 41 #[.slice A154 l153.length n155] w fun e w' => e = .returned (.int .i64 r) ∧ Sep (fps []) w [] w' := by
  unfold ratio_Add.f at H
  go_enter Try.func41, Try.ntmps41
  go_wp2_with fail
  obtain ⟨o158, AL159, H⟩ := bind_some H
  go_loopg [3, 8] k (fun kq v3 v8 wc => ∃ (x162 : Int) (x163 : Int), v3 = .int .i64 x162 ∧ v8 = .int .i64 x163 ∧ Aside0 (ratio_Add.lo0 kq l153 x162 x163 = some o158) ∧ Aside0 (Sep (fps []) w [] wc))
  case atStart => exact ⟨(0), (0), (by first | rfl | (simp [IntKind.wrap_u32]; done)), (by first | rfl | (simp [IntKind.wrap_u32]; done)), AL159, ⟨HS.out⟩⟩
  case round =>
    clear AL159 HS
    obtain ⟨x162, x163, rfl, rfl, AL159, HS⟩ := hrel
    obtain ⟨w160, rfl⟩ : ∃ x : World, x = wr := ⟨_, rfl⟩
    cases gk with
    | zero => exact absurd AL159.out (by simp [ratio_Add.lo0])
    | succ k161 =>
      have AL0 := AL159.out
      rw [ratio_Add.lo0] at AL0
      clear AL159
      have AL159 := Aside0.mk AL0
      clear AL0
      by_cases c164 : x163 < (l153.length : Int)
      · have AL159 := if_yes c164 AL159
        have c164b0 : decide (x163 < (l153.length : Int)) = true := decide_eq_true c164
        clear c164
        by_cases c165 : 0 ≤ x163
        · have AL159 := if_yes c165 AL159
          have c165b0 : decide (0 ≤ x163) = true := decide_eq_true c165
          have c165p : (0 ≤ x163) = True := eq_true c165
          clear c165
          have ip166 : (x163 < (l153.length : Int)) = True := eq_true (of_decide_eq_true c164b0)
          obtain ⟨hx167a, hx167e, hx167⟩ := Kd.at_int (Kd.C_below HR156.out HS.out.fr.below) x163 (of_decide_eq_true c165b0) (of_decide_eq_true c164b0); cases hx167e
          go_wp2_with fail
          clear hx167
          obtain ⟨t168, HA169, AL159⟩ := bind_some AL159
          refine (ratio_counts.calls (rd l153 x163) t168 _ ⟨HS.out.begin (l := []) (rest := [])⟩ HA169).mono ?_
          rintro e_ w170 ⟨rfl, hS⟩
          have HS_ : Aside0 (Sep (fps []) w [] w170) := ⟨HS.out.call (l := []) (rest := []) hS⟩
          clear HS hS
          have HS := HS_
          clear HS_
          by_cases c171 : 1125899906842624 < (wrap64 (x162 + t168))
          · have AL159 := if_yes c171 AL159
            have c171b0 : decide (1125899906842624 < (wrap64 (x162 + t168))) = true := decide_eq_true c171
            skip
            go_wp2_with fail
            clear c171
            go_roundg k161
            case measure => exact Nat.lt_succ_self _
            case rel => exact ⟨(1125899906842624), (wrap64 (x163 + 1)), (by first | rfl | (simp [IntKind.wrap_u32]; done)), (by first | rfl | (simp [IntKind.wrap_u32]; done)), Aside0.mk AL159.out, ⟨(HS.out).keep (l := []) (rest := [])⟩⟩
          · have AL159 := if_no c171 AL159
            have c171b0 : decide (1125899906842624 < (wrap64 (x162 + t168))) = false := decide_eq_false c171
            skip
            go_wp2_with fail
            clear c171
            go_roundg k161
            case measure => exact Nat.lt_succ_self _
            case rel => exact ⟨(wrap64 (x162 + t168)), (wrap64 (x163 + 1)), (by first | rfl | (simp [IntKind.wrap_u32]; done)), (by first | rfl | (simp [IntKind.wrap_u32]; done)), Aside0.mk AL159.out, ⟨(HS.out).keep (l := []) (rest := [])⟩⟩
        · have AL159 := if_no c165 AL159
          have c165b0 : decide (0 ≤ x163) = false := decide_eq_false c165
          clear c165
          exact (none_no AL159).elim
      · have AL159 := if_no c164 AL159
        have c164b0 : decide (x163 < (l153.length : Int)) = false := decide_eq_false c164
        clear c164
        have ho := some_eq AL159
        subst ho
        clear AL159
        go_wp2_with fail
        go_ret
        rw [← some_eq H]
        exact ⟨(by first | rfl | (simp [IntKind.wrap_u32]; done)), (HS.out).keep (l := []) (rest := [])⟩

set_option maxHeartbeats 4000000 in
set_option maxRecDepth 100000 in
theorem ratio_by.calls (a382 : Int) (r : Int) (w : World)  (HS : Aside0 (Sep (fps []) w [] w)) (H : Aside0 (ratio_by.f a382 = some r)) :
    Calls Try.prog 58 #[.int .i64 a382] w fun e w' => e = .returned (.int .i64 r) ∧ Sep (fps []) w [] w' := by
  unfold ratio_by.f at H
  go_enter Try.func58, Try.ntmps58
  go_wp2_with fail
  obtain ⟨t383, HA384, H⟩ := bind_some H
  refine (ratio_counts.calls a382 t383 _ ⟨HS.out.begin (l := []) (rest := [])⟩ HA384).mono ?_
  rintro e_ w385 ⟨rfl, hS⟩
  have HS_ : Aside0 (Sep (fps []) w [] w385) := ⟨HS.out.call (l := []) (rest := []) hS⟩
  clear HS hS
  have HS := HS_
  clear HS_
  by_cases c386 : t383 < 1
  · have H := if_yes c386 H
    have c386b0 : decide (t383 < 1) = true := decide_eq_true c386
    skip
    go_wp2_with fail
    clear c386
    go_ret
    rw [← some_eq H]
    exact ⟨(by first | rfl | (simp [IntKind.wrap_u32]; done)), (HS.out).keep (l := []) (rest := [])⟩
  · have H := if_no c386 H
    have c386b0 : decide (t383 < 1) = false := decide_eq_false c386
    skip
    go_wp2_with fail
    clear c386
    go_ret
    rw [← some_eq H]
    exact ⟨(by first | rfl | (simp [IntKind.wrap_u32]; done)), (HS.out).keep (l := []) (rest := [])⟩

set_option maxHeartbeats 4000000 in
set_option maxRecDepth 100000 in
theorem ratio_Up.calls (a377 : Int) (a378 : Int) (r : Int) (w : World)  (HS : Aside0 (Sep (fps []) w [] w)) (H : Aside0 (ratio_Up.f a377 a378 = some r)) :
    Calls Try.prog 45 #[.int .i64 a377, .int .i64 a378] w fun e w' => e = .returned (.int .i64 r) ∧ Sep (fps []) w [] w' := by
  unfold ratio_Up.f at H
  go_enter Try.func45, Try.ntmps45
  go_wp2_with fail
  obtain ⟨t379, HA380, H⟩ := bind_some H
  refine (ratio_counts.calls a377 t379 _ ⟨HS.out.begin (l := []) (rest := [])⟩ HA380).mono ?_
  rintro e_ w381 ⟨rfl, hS⟩
  have HS_ : Aside0 (Sep (fps []) w [] w381) := ⟨HS.out.call (l := []) (rest := []) hS⟩
  clear HS hS
  have HS := HS_
  clear HS_
  go_wp2_with fail
  obtain ⟨t387, HA388, H⟩ := bind_some H
  refine (ratio_by.calls a378 t387 _ ⟨HS.out.begin (l := []) (rest := [])⟩ HA388).mono ?_
  rintro e_ w389 ⟨rfl, hS⟩
  have HS_ : Aside0 (Sep (fps []) w [] w389) := ⟨HS.out.call (l := []) (rest := []) hS⟩
  clear HS hS
  have HS := HS_
  clear HS_
  go_wp2_with fail
  obtain ⟨t390, HA391, H⟩ := bind_some H
  refine (ratio_by.calls a378 t390 _ ⟨HS.out.begin (l := []) (rest := [])⟩ HA391).mono ?_
  rintro e_ w392 ⟨rfl, hS⟩
  have HS_ : Aside0 (Sep (fps []) w [] w392) := ⟨HS.out.call (l := []) (rest := []) hS⟩
  clear HS hS
  have HS := HS_
  clear HS_
  by_cases c393 : t390 = 0
  · have H := if_yes c393 H
    have c393b0 : (t390 == 0) = true := beq_iff_eq.mpr c393
    have c393b1 : (t390 != 0) = false := bne_eq_false_iff_eq.mpr c393
    exact (none_no H).elim
  · have H := if_no c393 H
    have c393b0 : (t390 == 0) = false := beq_eq_false_iff_ne.mpr c393
    have c393b1 : (t390 != 0) = true := bne_iff_ne.mpr c393
    skip
    go_wp2_with fail
    clear c393
    go_ret
    rw [← some_eq H]
    exact ⟨(by first | rfl | (simp [IntKind.wrap_u32]; done)), (HS.out).keep (l := []) (rest := [])⟩
end Go.Proofs.Ytgkpcboaiaiahab.C

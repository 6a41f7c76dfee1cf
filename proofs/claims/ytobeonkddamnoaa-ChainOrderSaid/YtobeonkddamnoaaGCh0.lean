/- Each function of the group Ch does what its plain function says, and changes nothing that was there; proved by walking its code. No condition. -/
import Derived.Test.YtobeonkddamnoaaQw
import Derived.Test.YtobeonkddamnoaaMCh
namespace Go.Proofs.Ytobeonkddamnoaa.C
open Go.RowKit Go.Proofs.YtobeonkddamnoaaW.PrintWords Go.Proofs.YtobeonkddamnoaaW.PrintLast Go.Proofs.Ytobeonkddamnoaa.Q Go.Proofs.Ytobeonkddamnoaa.M
set_option linter.unusedVariables false
set_option linter.unusedSimpArgs false
def b1 (g : Nat) (x0 : Int) (x1 : Int) (x2 : Int) (x3 : Int) : Ob := blk g #[.int .i64 x0, .int .i64 x1, .int .i64 x2, .int .i64 x3] 49
def b2 (g : Nat) (x0 : Int) (x1 : Int) (x2 : Int) (x3 : Int) (x4 : Int) (x5 : Int) (x6 : Int) (x7 : Int) : Ob := blk g #[.int .i64 x0, .int .i64 x1, .int .i64 x2, .int .i64 x3, .int .i64 x4, .int .i64 x5, .int .i64 x6, .int .i64 x7] 120
def b3 (g : Nat) (x0 : Int) (x1 : Int) : Ob := blk g #[.int .i64 x0, .int .i64 x1] 3
def b4 (g : Nat) (x0 : Int) (x1 : Int) (x2 : Int) : Ob := blk g #[.int .i64 x0, .int .i64 x1, .int .i64 x2] 3
def r5 (A : Option Addr) (n c : Nat) (l : List Int) : Ob := row 23 (Value.int .u32) (.slice A n c) l
def b6 (g : Nat) (x0 : Option Addr) (x1 : Nat) (x2 : Nat) (x3 : Int) : Ob := blk g #[.slice x0 x1 x2, .int .u64 x3] 115
def b7 (g : Nat) (x0 : Nat) (x1 : Int) (x2 : Int) (x3 : Int) (x4 : Int) : Ob := blk g #[.pointer (some ⟨x0, 0, none⟩), .int .i64 x1, .int .i64 x2, .int .i64 x3, .int .i64 x4] 126
def b8 (g : Nat) (x0 : Nat) : Ob := blk g #[.pointer (some ⟨x0, 0, none⟩)] 50
def b9 (g : Nat) (x0 : Int) : Ob := blk g #[.int .i64 x0] 3
def b10 (g : Nat) (x0 : Int) (x1 : Int) (x2 : Int) : Ob := blk g #[.int .i64 x0, .int .i64 x1, .int .i64 x2] 134
def r11 (A : Option Addr) (n c : Nat) (l : List Int) : Ob := row 3 (Value.int .i64) (.slice A n c) l
def b12 (g : Nat)  : Ob := blk g #[.pointer none] 50

set_option maxHeartbeats 30000000 in
set_option maxRecDepth 100000 in
theorem ratio_Clamp.calls (a41 : Int) (a42 : Int) (a43 : Int) (r : Int) (w : World)   (HS : Aside0 (Sep (fps []) w [] w)) (H : Aside0 (ratio_Clamp.f a41 a42 a43 = some r)) :
    Calls Try.prog 123 #[.int .i64 a41, .int .i64 a42, .int .i64 a43] w fun e w' => e = .returned (.int .i64 r) ∧ Sep (fps []) w [] w' := by
  unfold ratio_Clamp.f at H
  go_enter Try.func123, Try.ntmps123
  by_cases c44 : a41 > a43
  · have H := if_yes c44 H
    have c44b0 : decide (a43 < a41) = true := decide_eq_true c44
    clear c44
    go_wp2_with fail
    go_ret
    rw [← some_eq H]
    exact ⟨(by first | rfl | (simp [IntKind.wrap_u32]; done)), HS.out⟩
  · have H := if_no c44 H
    have c44b0 : decide (a43 < a41) = false := decide_eq_false c44
    clear c44
    by_cases c45 : a41 < a42
    · have H := if_yes c45 H
      have c45b0 : decide (a41 < a42) = true := decide_eq_true c45
      skip
      go_wp2_with fail
      clear c45
      go_ret
      rw [← some_eq H]
      exact ⟨(by first | rfl | (simp [IntKind.wrap_u32]; done)), HS.out⟩
    · have H := if_no c45 H
      have c45b0 : decide (a41 < a42) = false := decide_eq_false c45
      skip
      go_wp2_with fail
      clear c45
      go_ret
      rw [← some_eq H]
      exact ⟨(by first | rfl | (simp [IntKind.wrap_u32]; done)), HS.out⟩

set_option maxHeartbeats 30000000 in
set_option maxRecDepth 100000 in
theorem plan_within.calls (a38 : Int) (a39 : Int) (a40 : Int) (r : Bool) (w : World)   (HS : Aside0 (Sep (fps []) w [] w)) (H : Aside0 (plan_within.f a38 a39 a40 = some r)) :
    Calls Try.prog 115 #[.int .i64 a38, .int .i64 a39, .int .i64 a40] w fun e w' => e = .returned (.bool r) ∧ Sep (fps []) w [] w' := by
  unfold plan_within.f at H
  go_enter Try.func115, Try.ntmps115
  go_wp2_with fail
  obtain ⟨t46, HA47, H⟩ := bind_some H
  refine (ratio_Clamp.calls a38 a39 a40 t46 _ ⟨Sep.start _⟩ HA47).mono ?_
  rintro e_ w48 ⟨rfl, hS⟩
  replace HS : Aside0 (Sep (fps []) w [] w48) := ⟨HS.out.call hS⟩
  clear hS
  go_wp2_with fail
  go_ret
  rw [← some_eq H]
  exact ⟨(by first | rfl | (simp [IntKind.wrap_u32]; done)), HS.out⟩

set_option maxHeartbeats 30000000 in
set_option maxRecDepth 100000 in
theorem plan_Check.calls (a30 : Int) (a31 : Int) (a32 : Int) (a33 : Int) (r : Int) (w : World)   (HS : Aside0 (Sep (fps []) w [] w)) (H : Aside0 (plan_Check.f a30 a31 a32 a33 = some r)) :
    Calls Try.prog 105 #[.agg #[.int .i64 a30, .int .i64 a31, .int .i64 a32, .int .i64 a33]] w fun e w' => e = .returned (.int .i64 r) ∧ Sep (fps []) w [] w' := by
  unfold plan_Check.f at H
  go_enter Try.func105, Try.ntmps105
  go_wp2_with (first | ((with_reducible refine gate_dst (N := 1) rfl ?_); refine box_on ?hg (N := 1) ?hd (cs := #[.int .i64 a30, .int .i64 a31, .int .i64 a32, .int .i64 a33]) (t := 49) ?hr ?_; (case hd => rfl); (case hg => rfl); (case hr => first | (go_simp; done) | (go_simp; rfl)); intro g34 hg w35 hbox hb; replace HS : Aside0 (Sep (fps []) w [b1 g34 a30 a31 a32 a33] w35) := ⟨HS.out.box hg hbox hb⟩; clear hg hbox hb; have hc37 : w35.cell? ⟨g34, 0, none⟩ = some (.int .i64 a30) := blk_cellv (HS.out.at0) 0 rfl))
  clear hc37
  obtain ⟨t49, HA50, H⟩ := bind_some H
  refine (plan_within.calls a30 1 1048576 t49 _ ⟨Sep.start _⟩ HA50).mono ?_
  rintro e_ w51 ⟨rfl, hS⟩
  replace HS : Aside0 (Sep (fps []) w [b1 g34 a30 a31 a32 a33] w51) := ⟨HS.out.call hS⟩
  clear hS
  by_cases c52 : t49 = true
  · have H := if_yes c52 H
    have c52b0 : t49 = true := c52
    have c52b1 : (!t49) = false := by rw [c52b0]; rfl
    clear c52
    have hc53 : w51.cell? ⟨g34, 1, none⟩ = some (.int .i64 a31) := blk_cellv (HS.out.at0) 1 rfl
    go_wp2_with fail
    clear hc53
    obtain ⟨t54, HA55, H⟩ := bind_some H
    refine (plan_within.calls a31 16 256 t54 _ ⟨Sep.start _⟩ HA55).mono ?_
    rintro e_ w56 ⟨rfl, hS⟩
    replace HS : Aside0 (Sep (fps []) w [b1 g34 a30 a31 a32 a33] w56) := ⟨HS.out.call hS⟩
    clear hS
    by_cases c57 : t54 = true
    · have H := if_yes c57 H
      have c57b0 : t54 = true := c57
      have c57b1 : (!t54) = false := by rw [c57b0]; rfl
      clear c57
      have hc58 : w56.cell? ⟨g34, 2, none⟩ = some (.int .i64 a32) := blk_cellv (HS.out.at0) 2 rfl
      go_wp2_with fail
      clear hc58
      obtain ⟨t59, HA60, H⟩ := bind_some H
      refine (plan_within.calls a32 1 4096 t59 _ ⟨Sep.start _⟩ HA60).mono ?_
      rintro e_ w61 ⟨rfl, hS⟩
      replace HS : Aside0 (Sep (fps []) w [b1 g34 a30 a31 a32 a33] w61) := ⟨HS.out.call hS⟩
      clear hS
      by_cases c62 : t59 = true
      · have H := if_yes c62 H
        have c62b0 : t59 = true := c62
        have c62b1 : (!t59) = false := by rw [c62b0]; rfl
        clear c62
        have hc63 : w61.cell? ⟨g34, 3, none⟩ = some (.int .i64 a33) := blk_cellv (HS.out.at0) 3 rfl
        go_wp2_with fail
        clear hc63
        obtain ⟨t64, HA65, H⟩ := bind_some H
        refine (plan_within.calls a33 1 65536 t64 _ ⟨Sep.start _⟩ HA65).mono ?_
        rintro e_ w66 ⟨rfl, hS⟩
        replace HS : Aside0 (Sep (fps []) w [b1 g34 a30 a31 a32 a33] w66) := ⟨HS.out.call hS⟩
        clear hS
        by_cases c67 : t64 = true
        · have H := if_yes c67 H
          have c67b0 : t64 = true := c67
          have c67b1 : (!t64) = false := by rw [c67b0]; rfl
          clear c67
          by_cases c70 : (wrap64 (a30 * a31)) ≤ 4194304
          · have H := if_yes c70 H
            have c70b0 : decide ((wrap64 (a30 * a31)) ≤ 4194304) = true := decide_eq_true c70
            clear c70
            have hc68 : w66.cell? ⟨g34, 0, none⟩ = some (.int .i64 a30) := blk_cellv (HS.out.at0) 0 rfl
            have hc69 : w66.cell? ⟨g34, 1, none⟩ = some (.int .i64 a31) := blk_cellv (HS.out.at0) 1 rfl
            replace HS : Aside0 (Sep (fps []) w [] w66) := ⟨HS.out.sub (.cons _ .slnil)⟩
            go_wp2_with fail
            clear hc68 hc69
            go_ret
            rw [← some_eq H]
            exact ⟨(by first | rfl | (simp [IntKind.wrap_u32]; done)), HS.out⟩
          · have H := if_no c70 H
            have c70b0 : decide ((wrap64 (a30 * a31)) ≤ 4194304) = false := decide_eq_false c70
            clear c70
            have hc68 : w66.cell? ⟨g34, 0, none⟩ = some (.int .i64 a30) := blk_cellv (HS.out.at0) 0 rfl
            have hc69 : w66.cell? ⟨g34, 1, none⟩ = some (.int .i64 a31) := blk_cellv (HS.out.at0) 1 rfl
            replace HS : Aside0 (Sep (fps []) w [] w66) := ⟨HS.out.sub (.cons _ .slnil)⟩
            go_wp2_with fail
            clear hc68 hc69
            go_ret
            rw [← some_eq H]
            exact ⟨(by first | rfl | (simp [IntKind.wrap_u32]; done)), HS.out⟩
        · have H := if_no c67 H
          have c67b0 : t64 = false := by simpa using c67
          have c67b1 : (!t64) = true := by rw [c67b0]; rfl
          clear c67
          replace HS : Aside0 (Sep (fps []) w [] w66) := ⟨HS.out.sub (.cons _ .slnil)⟩
          go_wp2_with fail
          go_ret
          rw [← some_eq H]
          exact ⟨(by first | rfl | (simp [IntKind.wrap_u32]; done)), HS.out⟩
      · have H := if_no c62 H
        have c62b0 : t59 = false := by simpa using c62
        have c62b1 : (!t59) = true := by rw [c62b0]; rfl
        clear c62
        replace HS : Aside0 (Sep (fps []) w [] w61) := ⟨HS.out.sub (.cons _ .slnil)⟩
        go_wp2_with fail
        go_ret
        rw [← some_eq H]
        exact ⟨(by first | rfl | (simp [IntKind.wrap_u32]; done)), HS.out⟩
    · have H := if_no c57 H
      have c57b0 : t54 = false := by simpa using c57
      have c57b1 : (!t54) = true := by rw [c57b0]; rfl
      clear c57
      replace HS : Aside0 (Sep (fps []) w [] w56) := ⟨HS.out.sub (.cons _ .slnil)⟩
      go_wp2_with fail
      go_ret
      rw [← some_eq H]
      exact ⟨(by first | rfl | (simp [IntKind.wrap_u32]; done)), HS.out⟩
  · have H := if_no c52 H
    have c52b0 : t49 = false := by simpa using c52
    have c52b1 : (!t49) = true := by rw [c52b0]; rfl
    clear c52
    replace HS : Aside0 (Sep (fps []) w [] w51) := ⟨HS.out.sub (.cons _ .slnil)⟩
    go_wp2_with fail
    go_ret
    rw [← some_eq H]
    exact ⟨(by first | rfl | (simp [IntKind.wrap_u32]; done)), HS.out⟩

set_option maxHeartbeats 30000000 in
set_option maxRecDepth 100000 in
theorem ratio_counts.calls (a103 : Int) (r : Int) (w : World)   (HS : Aside0 (Sep (fps []) w [] w)) (H : Aside0 (ratio_counts.f a103 = some r)) :
    Calls Try.prog 116 #[.int .i64 a103] w fun e w' => e = .returned (.int .i64 r) ∧ Sep (fps []) w [] w' := by
  unfold ratio_counts.f at H
  go_enter Try.func116, Try.ntmps116
  go_wp2_with fail
  obtain ⟨t104, HA105, H⟩ := bind_some H
  refine (ratio_Clamp.calls a103 0 1125899906842624 t104 _ ⟨Sep.start _⟩ HA105).mono ?_
  rintro e_ w106 ⟨rfl, hS⟩
  replace HS : Aside0 (Sep (fps []) w [] w106) := ⟨HS.out.call hS⟩
  clear hS
  go_wp2_with fail
  go_ret
  rw [← some_eq H]
  exact ⟨(by first | rfl | (simp [IntKind.wrap_u32]; done)), HS.out⟩

set_option maxHeartbeats 30000000 in
set_option maxRecDepth 100000 in
theorem ratio_zero.calls (a102 : Int) (r : Bool) (w : World)   (HS : Aside0 (Sep (fps []) w [] w)) (H : Aside0 (ratio_zero.f a102 = some r)) :
    Calls Try.prog 118 #[.int .i64 a102] w fun e w' => e = .returned (.bool r) ∧ Sep (fps []) w [] w' := by
  unfold ratio_zero.f at H
  go_enter Try.func118, Try.ntmps118
  go_wp2_with fail
  obtain ⟨t107, HA108, H⟩ := bind_some H
  refine (ratio_counts.calls a102 t107 _ ⟨Sep.start _⟩ HA108).mono ?_
  rintro e_ w109 ⟨rfl, hS⟩
  replace HS : Aside0 (Sep (fps []) w [] w109) := ⟨HS.out.call hS⟩
  clear hS
  go_wp2_with fail
  go_ret
  rw [← some_eq H]
  exact ⟨(by first | rfl | (simp [IntKind.wrap_u32]; done)), HS.out⟩

set_option maxHeartbeats 30000000 in
set_option maxRecDepth 100000 in
theorem slices_IndexFunc_int_int_F118.calls (k : Nat) (l88 : List Int) (A89 : Option Addr) (n90 : Nat) (r : Int) (w : World) (HR91 : Aside0 (Rd (Kd.int .i64) (fps []) w A89 l88.length l88))  (HS : Aside0 (Sep (fps []) w [] w)) (H : Aside0 (slices_IndexFunc_int_int_F118.f k l88 = some r)) :
    Calls Try.prog 124 #[.slice A89 l88.length n90, .func (.func 118) #[] #[]] w fun e w' => e = .returned (.int .i64 r) ∧ Sep (fps []) w [] w' := by
  unfold slices_IndexFunc_int_int_F118.f at H
  go_enter Try.func124, Try.ntmps124
  go_wp2_with fail
  obtain ⟨o114, AL115, H⟩ := bind_some H
  go_loopg [8] k (fun kq v8 wc => ∃ (x118 : Int), v8 = .int .i64 x118 ∧ Aside0 (slices_IndexFunc_int_int_F118.lo0 kq l88 x118 = some o114) ∧ Aside0 (Sep (fps []) w [] wc))
  case atStart => exact ⟨(0), (by first | rfl | (simp [IntKind.wrap_u32]; done)), AL115, ⟨HS.out⟩⟩
  case round =>
    clear AL115 HS
    obtain ⟨x118, rfl, AL115, HS⟩ := hrel
    obtain ⟨w116, rfl⟩ : ∃ x : World, x = wr := ⟨_, rfl⟩
    cases gk with
    | zero => exact absurd AL115.out (by simp [slices_IndexFunc_int_int_F118.lo0])
    | succ k117 =>
      have AL0 := AL115.out
      rw [slices_IndexFunc_int_int_F118.lo0] at AL0
      clear AL115
      have AL115 := Aside0.mk AL0
      clear AL0
      by_cases c119 : x118 < (l88.length : Int)
      · have AL115 := if_yes c119 AL115
        have c119b0 : decide (x118 < (l88.length : Int)) = true := decide_eq_true c119
        clear c119
        by_cases c120 : 0 ≤ x118
        · have AL115 := if_yes c120 AL115
          have c120b0 : decide (0 ≤ x118) = true := decide_eq_true c120
          have c120p : (0 ≤ x118) = True := eq_true c120
          clear c120
          have ip121 : (x118 < (l88.length : Int)) = True := eq_true (of_decide_eq_true c119b0)
          obtain ⟨hx122a, hx122e, hx122⟩ := Kd.at_int (Rd.read (fun _ _ _ _ h => h) HR91.out HS.out.fr) x118 (of_decide_eq_true c120b0) (of_decide_eq_true c119b0); cases hx122e
          go_wp2_with fail
          clear hx122
          obtain ⟨t110, HA123, AL115⟩ := bind_some AL115
          refine (ratio_zero.calls (rd l88 x118) t110 _ ⟨Sep.start _⟩ HA123).mono ?_
          rintro e_ w124 ⟨rfl, hS⟩
          replace HS : Aside0 (Sep (fps []) w [] w124) := ⟨HS.out.call hS⟩
          clear hS
          by_cases c125 : t110 = true
          · have AL115 := if_yes c125 AL115
            have c125b0 : t110 = true := c125
            have c125b1 : (!t110) = false := by rw [c125b0]; rfl
            clear c125
            go_wp2_with fail
            have ho := some_eq AL115
            subst ho
            have H := lp_ret H
            go_ret
            rw [← some_eq H]
            exact ⟨(by first | rfl | (simp [IntKind.wrap_u32]; done)), HS.out⟩
          · have AL115 := if_no c125 AL115
            have c125b0 : t110 = false := by simpa using c125
            have c125b1 : (!t110) = true := by rw [c125b0]; rfl
            clear c125
            go_wp2_with fail
            go_roundg k117
            case measure => exact Nat.lt_succ_self _
            case rel => exact ⟨(wrap64 (x118 + 1)), (by first | rfl | (simp [IntKind.wrap_u32]; done)), Aside0.mk AL115.out, ⟨HS.out⟩⟩
        · have AL115 := if_no c120 AL115
          have c120b0 : decide (0 ≤ x118) = false := decide_eq_false c120
          clear c120
          exact (none_no AL115).elim
      · have AL115 := if_no c119 AL115
        have c119b0 : decide (x118 < (l88.length : Int)) = false := decide_eq_false c119
        clear c119
        have ho := some_eq AL115
        subst ho
        clear AL115
        have H := lp_out H
        go_wp2_with fail
        go_ret
        rw [← some_eq H]
        exact ⟨(by first | rfl | (simp [IntKind.wrap_u32]; done)), HS.out⟩

set_option maxHeartbeats 30000000 in
set_option maxRecDepth 100000 in
theorem slices_ContainsFunc_int_int_F118.calls (k : Nat) (l84 : List Int) (A85 : Option Addr) (n86 : Nat) (r : Bool) (w : World) (HR87 : Aside0 (Rd (Kd.int .i64) (fps []) w A85 l84.length l84))  (HS : Aside0 (Sep (fps []) w [] w)) (H : Aside0 (slices_ContainsFunc_int_int_F118.f k l84 = some r)) :
    Calls Try.prog 117 #[.slice A85 l84.length n86, .func (.func 118) #[] #[]] w fun e w' => e = .returned (.bool r) ∧ Sep (fps []) w [] w' := by
  unfold slices_ContainsFunc_int_int_F118.f at H
  go_enter Try.func117, Try.ntmps117
  go_wp2_with fail
  obtain ⟨t127, HA128, H⟩ := bind_some H
  refine (slices_IndexFunc_int_int_F118.calls _ l84 A85 n86 t127 _ ⟨Rd.pass (l := []) (by decide) (fun _ _ _ _ h => h) HR87.out HS.out⟩ ⟨Sep.start _⟩ HA128).mono ?_
  rintro e_ w129 ⟨rfl, hS⟩
  replace HS : Aside0 (Sep (fps []) w [] w129) := ⟨HS.out.call hS⟩
  clear hS
  go_wp2_with fail
  go_ret
  rw [← some_eq H]
  exact ⟨(by first | rfl | (simp [IntKind.wrap_u32]; done)), HS.out⟩

set_option maxHeartbeats 30000000 in
set_option maxRecDepth 100000 in
theorem ratio_Mul.calls (k : Nat) (l80 : List Int) (A81 : Option Addr) (n82 : Nat) (r : Int) (w : World) (HR83 : Aside0 (Rd (Kd.int .i64) (fps []) w A81 l80.length l80))  (HS : Aside0 (Sep (fps []) w [] w)) (H : Aside0 (ratio_Mul.f k l80 = some r)) :
    Calls Try.prog 107 #[.slice A81 l80.length n82] w fun e w' => e = .returned (.int .i64 r) ∧ Sep (fps []) w [] w' := by
  unfold ratio_Mul.f at H
  go_enter Try.func107, Try.ntmps107
  go_wp2_with fail
  obtain ⟨t130, HA131, H⟩ := bind_some H
  refine (slices_ContainsFunc_int_int_F118.calls _ l80 A81 n82 t130 _ ⟨Rd.pass (l := []) (by decide) (fun _ _ _ _ h => h) HR83.out HS.out⟩ ⟨Sep.start _⟩ HA131).mono ?_
  rintro e_ w132 ⟨rfl, hS⟩
  replace HS : Aside0 (Sep (fps []) w [] w132) := ⟨HS.out.call hS⟩
  clear hS
  by_cases c133 : t130 = true
  · have H := if_yes c133 H
    have c133b0 : t130 = true := c133
    have c133b1 : (!t130) = false := by rw [c133b0]; rfl
    clear c133
    go_wp2_with fail
    go_ret
    rw [← some_eq H]
    exact ⟨(by first | rfl | (simp [IntKind.wrap_u32]; done)), HS.out⟩
  · have H := if_no c133 H
    have c133b0 : t130 = false := by simpa using c133
    have c133b1 : (!t130) = true := by rw [c133b0]; rfl
    clear c133
    go_wp2_with fail
    obtain ⟨o135, AL136, H⟩ := bind_some H
    go_loopg [3, 11] k (fun kq v3 v11 wc => ∃ (x139 : Int) (x140 : Int), v3 = .int .i64 x139 ∧ v11 = .int .i64 x140 ∧ Aside0 (ratio_Mul.lo0 kq l80 x139 x140 = some o135) ∧ Aside0 (Sep (fps []) w [] wc))
    case atStart => exact ⟨(1), (0), (by first | rfl | (simp [IntKind.wrap_u32]; done)), (by first | rfl | (simp [IntKind.wrap_u32]; done)), AL136, ⟨HS.out⟩⟩
    case round =>
      clear AL136 HS
      obtain ⟨x139, x140, rfl, rfl, AL136, HS⟩ := hrel
      obtain ⟨w137, rfl⟩ : ∃ x : World, x = wr := ⟨_, rfl⟩
      cases gk with
      | zero => exact absurd AL136.out (by simp [ratio_Mul.lo0])
      | succ k138 =>
        have AL0 := AL136.out
        rw [ratio_Mul.lo0] at AL0
        clear AL136
        have AL136 := Aside0.mk AL0
        clear AL0
        by_cases c141 : x140 < (l80.length : Int)
        · have AL136 := if_yes c141 AL136
          have c141b0 : decide (x140 < (l80.length : Int)) = true := decide_eq_true c141
          clear c141
          by_cases c142 : 0 ≤ x140
          · have AL136 := if_yes c142 AL136
            have c142b0 : decide (0 ≤ x140) = true := decide_eq_true c142
            have c142p : (0 ≤ x140) = True := eq_true c142
            clear c142
            have ip143 : (x140 < (l80.length : Int)) = True := eq_true (of_decide_eq_true c141b0)
            obtain ⟨hx144a, hx144e, hx144⟩ := Kd.at_int (Rd.read (fun _ _ _ _ h => h) HR83.out HS.out.fr) x140 (of_decide_eq_true c142b0) (of_decide_eq_true c141b0); cases hx144e
            go_wp2_with fail
            clear hx144
            obtain ⟨t145, HA146, AL136⟩ := bind_some AL136
            refine (ratio_counts.calls (rd l80 x140) t145 _ ⟨Sep.start _⟩ HA146).mono ?_
            rintro e_ w147 ⟨rfl, hS⟩
            replace HS : Aside0 (Sep (fps []) w [] w147) := ⟨HS.out.call hS⟩
            clear hS
            by_cases c148 : t145 = 0
            · have AL136 := if_yes c148 AL136
              have c148b0 : (t145 == 0) = true := beq_iff_eq.mpr c148
              have c148b1 : (t145 != 0) = false := bne_eq_false_iff_eq.mpr c148
              exact (none_no AL136).elim
            · have AL136 := if_no c148 AL136
              have c148b0 : (t145 == 0) = false := beq_eq_false_iff_ne.mpr c148
              have c148b1 : (t145 != 0) = true := bne_iff_ne.mpr c148
              by_cases c149 : x139 ≤ (wrap64 (Int.tdiv (1125899906842624 : Int) t145))
              · have AL136 := if_yes c149 AL136
                have c149b0 : decide (x139 ≤ (wrap64 (Int.tdiv (1125899906842624 : Int) t145))) = true := decide_eq_true c149
                clear c149
                skip
                go_wp2_with fail
                clear c148
                go_roundg k138
                case measure => exact Nat.lt_succ_self _
                case rel => exact ⟨(wrap64 (x139 * t145)), (wrap64 (x140 + 1)), (by first | rfl | (simp [IntKind.wrap_u32]; done)), (by first | rfl | (simp [IntKind.wrap_u32]; done)), Aside0.mk AL136.out, ⟨HS.out⟩⟩
              · have AL136 := if_no c149 AL136
                have c149b0 : decide (x139 ≤ (wrap64 (Int.tdiv (1125899906842624 : Int) t145))) = false := decide_eq_false c149
                clear c149
                skip
                go_wp2_with fail
                clear c148
                go_roundg k138
                case measure => exact Nat.lt_succ_self _
                case rel => exact ⟨(1125899906842624), (wrap64 (x140 + 1)), (by first | rfl | (simp [IntKind.wrap_u32]; done)), (by first | rfl | (simp [IntKind.wrap_u32]; done)), Aside0.mk AL136.out, ⟨HS.out⟩⟩
          · have AL136 := if_no c142 AL136
            have c142b0 : decide (0 ≤ x140) = false := decide_eq_false c142
            clear c142
            exact (none_no AL136).elim
        · have AL136 := if_no c141 AL136
          have c141b0 : decide (x140 < (l80.length : Int)) = false := decide_eq_false c141
          clear c141
          have ho := some_eq AL136
          subst ho
          clear AL136
          go_wp2_with fail
          go_ret
          rw [← some_eq H]
          exact ⟨(by first | rfl | (simp [IntKind.wrap_u32]; done)), HS.out⟩

set_option maxHeartbeats 30000000 in
set_option maxRecDepth 100000 in
theorem ratio_Add.calls (k : Nat) (l157 : List Int) (A158 : Option Addr) (n159 : Nat) (r : Int) (w : World) (HR160 : Aside0 (Rd (Kd.int .i64) (fps []) w A158 l157.length l157))  (HS : Aside0 (Sep (fps []) w [] w)) (H : Aside0 (ratio_Add.f k l157 = some r)) :
    Calls Try.prog 106 #[.slice A158 l157.length n159] w fun e w' => e = .returned (.int .i64 r) ∧ Sep (fps []) w [] w' := by
  unfold ratio_Add.f at H
  go_enter Try.func106, Try.ntmps106
  go_wp2_with fail
  obtain ⟨o162, AL163, H⟩ := bind_some H
  go_loopg [3, 8] k (fun kq v3 v8 wc => ∃ (x166 : Int) (x167 : Int), v3 = .int .i64 x166 ∧ v8 = .int .i64 x167 ∧ Aside0 (ratio_Add.lo0 kq l157 x166 x167 = some o162) ∧ Aside0 (Sep (fps []) w [] wc))
  case atStart => exact ⟨(0), (0), (by first | rfl | (simp [IntKind.wrap_u32]; done)), (by first | rfl | (simp [IntKind.wrap_u32]; done)), AL163, ⟨HS.out⟩⟩
  case round =>
    clear AL163 HS
    obtain ⟨x166, x167, rfl, rfl, AL163, HS⟩ := hrel
    obtain ⟨w164, rfl⟩ : ∃ x : World, x = wr := ⟨_, rfl⟩
    cases gk with
    | zero => exact absurd AL163.out (by simp [ratio_Add.lo0])
    | succ k165 =>
      have AL0 := AL163.out
      rw [ratio_Add.lo0] at AL0
      clear AL163
      have AL163 := Aside0.mk AL0
      clear AL0
      by_cases c168 : x167 < (l157.length : Int)
      · have AL163 := if_yes c168 AL163
        have c168b0 : decide (x167 < (l157.length : Int)) = true := decide_eq_true c168
        clear c168
        by_cases c169 : 0 ≤ x167
        · have AL163 := if_yes c169 AL163
          have c169b0 : decide (0 ≤ x167) = true := decide_eq_true c169
          have c169p : (0 ≤ x167) = True := eq_true c169
          clear c169
          have ip170 : (x167 < (l157.length : Int)) = True := eq_true (of_decide_eq_true c168b0)
          obtain ⟨hx171a, hx171e, hx171⟩ := Kd.at_int (Rd.read (fun _ _ _ _ h => h) HR160.out HS.out.fr) x167 (of_decide_eq_true c169b0) (of_decide_eq_true c168b0); cases hx171e
          go_wp2_with fail
          clear hx171
          obtain ⟨t172, HA173, AL163⟩ := bind_some AL163
          refine (ratio_counts.calls (rd l157 x167) t172 _ ⟨Sep.start _⟩ HA173).mono ?_
          rintro e_ w174 ⟨rfl, hS⟩
          replace HS : Aside0 (Sep (fps []) w [] w174) := ⟨HS.out.call hS⟩
          clear hS
          by_cases c175 : 1125899906842624 < (wrap64 (x166 + t172))
          · have AL163 := if_yes c175 AL163
            have c175b0 : decide (1125899906842624 < (wrap64 (x166 + t172))) = true := decide_eq_true c175
            skip
            go_wp2_with fail
            clear c175
            go_roundg k165
            case measure => exact Nat.lt_succ_self _
            case rel => exact ⟨(1125899906842624), (wrap64 (x167 + 1)), (by first | rfl | (simp [IntKind.wrap_u32]; done)), (by first | rfl | (simp [IntKind.wrap_u32]; done)), Aside0.mk AL163.out, ⟨HS.out⟩⟩
          · have AL163 := if_no c175 AL163
            have c175b0 : decide (1125899906842624 < (wrap64 (x166 + t172))) = false := decide_eq_false c175
            skip
            go_wp2_with fail
            clear c175
            go_roundg k165
            case measure => exact Nat.lt_succ_self _
            case rel => exact ⟨(wrap64 (x166 + t172)), (wrap64 (x167 + 1)), (by first | rfl | (simp [IntKind.wrap_u32]; done)), (by first | rfl | (simp [IntKind.wrap_u32]; done)), Aside0.mk AL163.out, ⟨HS.out⟩⟩
        · have AL163 := if_no c169 AL163
          have c169b0 : decide (0 ≤ x167) = false := decide_eq_false c169
          clear c169
          exact (none_no AL163).elim
      · have AL163 := if_no c168 AL163
        have c168b0 : decide (x167 < (l157.length : Int)) = false := decide_eq_false c168
        clear c168
        have ho := some_eq AL163
        subst ho
        clear AL163
        go_wp2_with fail
        go_ret
        rw [← some_eq H]
        exact ⟨(by first | rfl | (simp [IntKind.wrap_u32]; done)), HS.out⟩

set_option maxHeartbeats 30000000 in
set_option maxRecDepth 100000 in
theorem ratio_by.calls (a386 : Int) (r : Int) (w : World)   (HS : Aside0 (Sep (fps []) w [] w)) (H : Aside0 (ratio_by.f a386 = some r)) :
    Calls Try.prog 119 #[.int .i64 a386] w fun e w' => e = .returned (.int .i64 r) ∧ Sep (fps []) w [] w' := by
  unfold ratio_by.f at H
  go_enter Try.func119, Try.ntmps119
  go_wp2_with fail
  obtain ⟨t387, HA388, H⟩ := bind_some H
  refine (ratio_counts.calls a386 t387 _ ⟨Sep.start _⟩ HA388).mono ?_
  rintro e_ w389 ⟨rfl, hS⟩
  replace HS : Aside0 (Sep (fps []) w [] w389) := ⟨HS.out.call hS⟩
  clear hS
  by_cases c390 : t387 < 1
  · have H := if_yes c390 H
    have c390b0 : decide (t387 < 1) = true := decide_eq_true c390
    skip
    go_wp2_with fail
    clear c390
    go_ret
    rw [← some_eq H]
    exact ⟨(by first | rfl | (simp [IntKind.wrap_u32]; done)), HS.out⟩
  · have H := if_no c390 H
    have c390b0 : decide (t387 < 1) = false := decide_eq_false c390
    skip
    go_wp2_with fail
    clear c390
    go_ret
    rw [← some_eq H]
    exact ⟨(by first | rfl | (simp [IntKind.wrap_u32]; done)), HS.out⟩

set_option maxHeartbeats 30000000 in
set_option maxRecDepth 100000 in
theorem ratio_Up.calls (a381 : Int) (a382 : Int) (r : Int) (w : World)   (HS : Aside0 (Sep (fps []) w [] w)) (H : Aside0 (ratio_Up.f a381 a382 = some r)) :
    Calls Try.prog 108 #[.int .i64 a381, .int .i64 a382] w fun e w' => e = .returned (.int .i64 r) ∧ Sep (fps []) w [] w' := by
  unfold ratio_Up.f at H
  go_enter Try.func108, Try.ntmps108
  go_wp2_with fail
  obtain ⟨t383, HA384, H⟩ := bind_some H
  refine (ratio_counts.calls a381 t383 _ ⟨Sep.start _⟩ HA384).mono ?_
  rintro e_ w385 ⟨rfl, hS⟩
  replace HS : Aside0 (Sep (fps []) w [] w385) := ⟨HS.out.call hS⟩
  clear hS
  go_wp2_with fail
  obtain ⟨t391, HA392, H⟩ := bind_some H
  refine (ratio_by.calls a382 t391 _ ⟨Sep.start _⟩ HA392).mono ?_
  rintro e_ w393 ⟨rfl, hS⟩
  replace HS : Aside0 (Sep (fps []) w [] w393) := ⟨HS.out.call hS⟩
  clear hS
  go_wp2_with fail
  obtain ⟨t394, HA395, H⟩ := bind_some H
  refine (ratio_by.calls a382 t394 _ ⟨Sep.start _⟩ HA395).mono ?_
  rintro e_ w396 ⟨rfl, hS⟩
  replace HS : Aside0 (Sep (fps []) w [] w396) := ⟨HS.out.call hS⟩
  clear hS
  by_cases c397 : t394 = 0
  · have H := if_yes c397 H
    have c397b0 : (t394 == 0) = true := beq_iff_eq.mpr c397
    have c397b1 : (t394 != 0) = false := bne_eq_false_iff_eq.mpr c397
    exact (none_no H).elim
  · have H := if_no c397 H
    have c397b0 : (t394 == 0) = false := beq_eq_false_iff_ne.mpr c397
    have c397b1 : (t394 != 0) = true := bne_iff_ne.mpr c397
    skip
    go_wp2_with fail
    clear c397
    go_ret
    rw [← some_eq H]
    exact ⟨(by first | rfl | (simp [IntKind.wrap_u32]; done)), HS.out⟩

set_option maxHeartbeats 30000000 in
set_option maxRecDepth 100000 in
theorem plan_Of.calls (k : Nat) (a16 : Int) (a17 : Int) (a18 : Int) (a19 : Int) (r : Int × Int × Int × Int × Int × Int × Int × Int × Int) (w : World)   (HS : Aside0 (Sep (fps []) w [] w)) (H : Aside0 (plan_Of.f k a16 a17 a18 a19 = some r)) :
    Calls Try.prog 76 #[.agg #[.int .i64 a16, .int .i64 a17, .int .i64 a18, .int .i64 a19]] w fun e w' => e = .returned (.tuple #[.agg #[.int .i64 r.1, .int .i64 r.2.1, .int .i64 r.2.2.1, .int .i64 r.2.2.2.1, .int .i64 r.2.2.2.2.1, .int .i64 r.2.2.2.2.2.1, .int .i64 r.2.2.2.2.2.2.1, .int .i64 r.2.2.2.2.2.2.2.1], .int .i64 r.2.2.2.2.2.2.2.2]) ∧ Sep (fps []) w [] w' := by
  unfold plan_Of.f at H
  go_enter Try.func76, Try.ntmps76
  go_wp2_with (first | ((with_reducible refine gate_dst (N := 1) rfl ?_); refine box_on ?hg (N := 1) ?hd (cs := #[.int .i64 a16, .int .i64 a17, .int .i64 a18, .int .i64 a19]) (t := 49) ?hr ?_; (case hd => rfl); (case hg => rfl); (case hr => first | (go_simp; done) | (go_simp; rfl)); intro g20 hg w21 hbox hb; replace HS : Aside0 (Sep (fps []) w [b1 g20 a16 a17 a18 a19] w21) := ⟨HS.out.box hg hbox hb⟩; clear hg hbox hb) | ((with_reducible refine gate_dst (N := 2) rfl ?_); refine box_on ?hg (N := 2) ?hd (cs := #[.int .i64 0, .int .i64 0, .int .i64 0, .int .i64 0, .int .i64 0, .int .i64 0, .int .i64 0, .int .i64 0]) (t := 120) ?hr ?_; (case hd => rfl); (case hg => rfl); (case hr => first | (go_simp; done) | (go_simp; rfl)); intro g23 hg w24 hbox hb; replace HS : Aside0 (Sep (fps []) w [b1 g20 a16 a17 a18 a19, b2 g23 0 0 0 0 0 0 0 0] w24) := ⟨HS.out.box hg hbox hb⟩; clear hg hbox hb; have hc26 : w24.cell? ⟨g20, 0, none⟩ = some (.int .i64 a16) := blk_cellv (HS.out.at0) 0 rfl; have hc27 : w24.cell? ⟨g20, 1, none⟩ = some (.int .i64 a17) := blk_cellv (HS.out.at0) 1 rfl; have hc28 : w24.cell? ⟨g20, 2, none⟩ = some (.int .i64 a18) := blk_cellv (HS.out.at0) 2 rfl; have hc29 : w24.cell? ⟨g20, 3, none⟩ = some (.int .i64 a19) := blk_cellv (HS.out.at0) 3 rfl))
  clear hc26 hc27 hc28 hc29
  obtain ⟨t71, HA72, H⟩ := bind_some H
  refine (plan_Check.calls a16 a17 a18 a19 t71 _ ⟨Sep.start _⟩ HA72).mono ?_
  rintro e_ w73 ⟨rfl, hS⟩
  replace HS : Aside0 (Sep (fps []) w [b1 g20 a16 a17 a18 a19, b2 g23 0 0 0 0 0 0 0 0] w73) := ⟨HS.out.call hS⟩
  clear hS
  by_cases c74 : t71 = 0
  · have H := if_yes c74 H
    have c74b0 : (t71 == 0) = true := beq_iff_eq.mpr c74
    have c74b1 : (t71 != 0) = false := bne_eq_false_iff_eq.mpr c74
    clear c74
    go_wp2_with fail
    obtain ⟨t151, HA152, H⟩ := bind_some H
    obtain ⟨t177, HA178, H⟩ := bind_some H
    go_cut [5] (fun v5 wc => ∃ (g77 : Nat) (g154 : Nat) (g180 : Nat), v5 = .pointer (some ⟨g180, 0, none⟩) ∧ Aside0 (Sep (fps []) w [b1 g20 a16 a17 a18 a19, b2 g23 0 0 0 0 0 0 0 0, b3 g77 a16 a17, b4 g154 24 a18 t151, b2 g180 t177 (wrap64 (a17 - 8)) 0 0 0 0 0 0] wc))
    case first =>
      go_wp2_with fail
      refine start_ (n := 16) (S := (fun w' => w'.cell? ⟨g20, 2, none⟩ = some (.int .i64 a18) ∧ w'.cell? ⟨g20, 0, none⟩ = some (.int .i64 a16) ∧ w'.cell? ⟨g20, 1, none⟩ = some (.int .i64 a17))) (ds := []) #[false, false, false, false, false, false, false, false, false, false, false, false, false, false, false, false] (by kernel_rfl) rfl rfl (⟨blk_cellv ((HS.out.drew).at0) 2 rfl, blk_cellv ((HS.out.drew).at0) 0 rfl, blk_cellv ((HS.out.drew).at0) 1 rfl⟩) (fun hHeld => ?_)
      have HS_ := Aside0.mk HS.out.drew
      clear HS
      generalize World.drew _ = w202 at HS_ hHeld ⊢
      have HS := HS_
      clear HS_
      refine pure_ (i := 0) (N := some 12) (v := ?_) (a' := ?_) #[true, false, false, false, false, false, false, false, false, false, false, false, false, false, false, false] rfl rfl (by kernel_rfl) (fun _ _ _ h => h) (Or.inl ⟨by rfl, ?_⟩) ?_ ?_
      rotate_left
      · intro w'
        go_simp
        with_reducible rfl
      rotate_left
      · simp only [Act.put, List.setIfInBounds_toArray, List.set_cons_zero, List.set_cons_succ, i64_w, i32_w]
        rfl
      refine pure_ (i := 2) (N := some 14) (v := ?_) (a' := ?_) #[true, false, true, false, false, false, false, false, false, false, false, false, false, false, false, false] rfl rfl (by kernel_rfl) (fun _ _ _ h => h) (Or.inl ⟨by rfl, ?_⟩) ?_ ?_
      rotate_left
      · intro w'
        go_simp
        with_reducible rfl
      rotate_left
      · simp only [Act.put, List.setIfInBounds_toArray, List.set_cons_zero, List.set_cons_succ, i64_w, i32_w]
        rfl
      refine pure_ (i := 4) (N := some 16) (v := ?_) (a' := ?_) #[true, false, true, false, true, false, false, false, false, false, false, false, false, false, false, false] rfl rfl (by kernel_rfl) (fun _ _ _ h => h) (Or.inl ⟨by rfl, ?_⟩) ?_ ?_
      rotate_left
      · intro w'
        go_simp
        with_reducible rfl
      rotate_left
      · simp only [Act.put, List.setIfInBounds_toArray, List.set_cons_zero, List.set_cons_succ, i64_w, i32_w]
        rfl
      refine pure_ (i := 10) (N := some 22) (v := ?_) (a' := ?_) #[true, false, true, false, true, false, false, false, false, false, true, false, false, false, false, false] rfl rfl (by kernel_rfl) (fun _ _ _ h => h) (Or.inl ⟨by rfl, ?_⟩) ?_ ?_
      rotate_left
      · intro w'
        go_simp
        with_reducible rfl
      rotate_left
      · simp only [Act.put, List.setIfInBounds_toArray, List.set_cons_zero, List.set_cons_succ, i64_w, i32_w]
        rfl
      refine take_ (i := 1) (N := some 13) (v := ?_) (a' := ?_) #[true, true, true, false, true, false, false, false, false, false, true, false, false, false, false, false] rfl rfl (by kernel_rfl) (fun _ _ _ h => h) (Or.inl ⟨by rfl, ?_⟩) hHeld ?_ ?_
      rotate_left
      · rintro w' hS'
        obtain ⟨s0, s1, s2⟩ := hS'
        go_simp
        with_reducible rfl
      rotate_left
      · simp only [Act.put, List.setIfInBounds_toArray, List.set_cons_zero, List.set_cons_succ, i64_w, i32_w]
        rfl
      refine take_ (i := 3) (N := some 15) (v := ?_) (a' := ?_) #[true, true, true, true, true, false, false, false, false, false, true, false, false, false, false, false] rfl rfl (by kernel_rfl) (fun _ _ _ h => h) (Or.inl ⟨by rfl, ?_⟩) hHeld ?_ ?_
      rotate_left
      · rintro w' hS'
        obtain ⟨s0, s1, s2⟩ := hS'
        go_simp
        with_reducible rfl
      rotate_left
      · simp only [Act.put, List.setIfInBounds_toArray, List.set_cons_zero, List.set_cons_succ, i64_w, i32_w]
        rfl
      refine take_ (i := 5) (N := some 17) (v := ?_) (a' := ?_) #[true, true, true, true, true, true, false, false, false, false, true, false, false, false, false, false] rfl rfl (by kernel_rfl) (fun _ _ _ h => h) (Or.inl ⟨by rfl, ?_⟩) hHeld ?_ ?_
      rotate_left
      · rintro w' hS'
        obtain ⟨s0, s1, s2⟩ := hS'
        go_simp
        with_reducible rfl
      rotate_left
      · simp only [Act.put, List.setIfInBounds_toArray, List.set_cons_zero, List.set_cons_succ, i64_w, i32_w]
        rfl
      refine take_ (i := 11) (N := some 23) (v := ?_) (a' := ?_) #[true, true, true, true, true, true, false, false, false, false, true, true, false, false, false, false] rfl rfl (by kernel_rfl) (fun _ _ _ h => h) (Or.inl ⟨by rfl, ?_⟩) hHeld ?_ ?_
      rotate_left
      · rintro w' hS'
        obtain ⟨s0, s1, s2⟩ := hS'
        go_simp
        with_reducible rfl
      rotate_left
      · simp only [Act.put, List.setIfInBounds_toArray, List.set_cons_zero, List.set_cons_succ, i64_w, i32_w]
        rfl
      refine pure_ (i := 12) (N := some 24) (v := ?_) (a' := ?_) #[true, true, true, true, true, true, false, false, false, false, true, true, true, false, false, false] rfl rfl (by kernel_rfl) (fun _ _ _ h => h) (Or.inl ⟨by rfl, ?_⟩) ?_ ?_
      rotate_left
      · intro w'
        go_simp
        with_reducible rfl
      rotate_left
      · simp only [Act.put, List.setIfInBounds_toArray, List.set_cons_zero, List.set_cons_succ, i64_w, i32_w]
        rfl
      refine two_ (i := 6) (j := 14) (Ni := some 18) (Nj := some 5) #[true, true, true, true, true, true, true, false, false, false, true, true, true, false, false, false] #[true, true, true, true, true, true, false, false, false, false, true, true, true, false, true, false] rfl rfl rfl rfl (by kernel_rfl) (by decide) (by decide) (fun K hK => ?_) (fun K hK => ?_)
      · refine slice_step (n := 2) (by rfl) (N := 18) rfl (cs := #[.int .i64 a16, .int .i64 a17]) (t := 3) ?hr ?_
        case hr => first | (go_simp; done) | (go_simp; rfl)
        intro g203 hg w204 hbox hb
        replace HS : Aside0 (Sep (fps []) w [b1 g20 a16 a17 a18 a19, b2 g23 0 0 0 0 0 0 0 0, b3 g203 a16 a17] w204) := ⟨HS.out.box hg hbox hb⟩
        clear hg hbox hb
        refine hK.out _ _ (⟨blk_cellv (HS.out.at0) 2 rfl, blk_cellv (HS.out.at0) 0 rfl, blk_cellv (HS.out.at0) 1 rfl⟩) (fun hHeld => ?_)
        clear hK K
        refine norm_ (a' := ?_) ?_ ?_
        rotate_left
        · show Act.put _ (some 18) _ = _
          simp only [Act.put, List.setIfInBounds_toArray, List.set_cons_zero, List.set_cons_succ, i64_w, i32_w]
          rfl
        refine two_ (i := 7) (j := 14) (Ni := some 19) (Nj := some 5) #[true, true, true, true, true, true, true, true, false, false, true, true, true, false, false, false] #[true, true, true, true, true, true, true, false, false, false, true, true, true, false, true, false] rfl rfl rfl rfl (by kernel_rfl) (by decide) (by decide) (fun K hK => ?_) (fun K hK => ?_)
        · refine goes_ Try.func107 (by kernel_rfl) rfl #[.slice (some ⟨g203, 0, none⟩) 2 2] (by rfl) rfl rfl (by (try simp only [List.map_toArray, List.map_cons, List.map_nil]); first | done | rfl) ?_
          refine (ratio_Mul.calls _ [a16, a17] (some ⟨g203, 0, none⟩) 2 t151 _ ⟨Rd.lit (l := []) (xs := [a16, a17]) HS.out 2 rfl (by simp)⟩ ⟨Sep.start _⟩ HA152).mono ?_
          rintro e_ w207 ⟨rfl, hS⟩
          replace HS : Aside0 (Sep (fps []) w [b1 g20 a16 a17 a18 a19, b2 g23 0 0 0 0 0 0 0 0, b3 g203 a16 a17] w207) := ⟨HS.out.call hS⟩
          clear hS
          refine ⟨_, rfl, ?_⟩
          refine hK.out _ _ (⟨blk_cellv (HS.out.at0) 2 rfl, blk_cellv (HS.out.at0) 0 rfl, blk_cellv (HS.out.at0) 1 rfl⟩) (fun hHeld => ?_)
          clear hK K
          refine norm_ (a' := ?_) ?_ ?_
          rotate_left
          · show Act.put _ (some 19) _ = _
            simp only [Act.put, List.setIfInBounds_toArray, List.set_cons_zero, List.set_cons_succ, i64_w, i32_w]
            rfl
          refine two_ (i := 8) (j := 14) (Ni := some 20) (Nj := some 5) #[true, true, true, true, true, true, true, true, true, false, true, true, true, false, false, false] #[true, true, true, true, true, true, true, true, false, false, true, true, true, false, true, false] rfl rfl rfl rfl (by kernel_rfl) (by decide) (by decide) (fun K hK => ?_) (fun K hK => ?_)
          · refine slice_step (n := 3) (by rfl) (N := 20) rfl (cs := #[.int .i64 24, .int .i64 a18, .int .i64 t151]) (t := 3) ?hr ?_
            case hr => first | (go_simp; done) | (go_simp; rfl)
            intro g208 hg w209 hbox hb
            replace HS : Aside0 (Sep (fps []) w [b1 g20 a16 a17 a18 a19, b2 g23 0 0 0 0 0 0 0 0, b3 g203 a16 a17, b4 g208 24 a18 t151] w209) := ⟨HS.out.box hg hbox hb⟩
            clear hg hbox hb
            refine hK.out _ _ (⟨blk_cellv (HS.out.at0) 2 rfl, blk_cellv (HS.out.at0) 0 rfl, blk_cellv (HS.out.at0) 1 rfl⟩) (fun hHeld => ?_)
            clear hK K
            refine norm_ (a' := ?_) ?_ ?_
            rotate_left
            · show Act.put _ (some 20) _ = _
              simp only [Act.put, List.setIfInBounds_toArray, List.set_cons_zero, List.set_cons_succ, i64_w, i32_w]
              rfl
            refine two_ (i := 9) (j := 14) (Ni := some 21) (Nj := some 5) #[true, true, true, true, true, true, true, true, true, true, true, true, true, false, false, false] #[true, true, true, true, true, true, true, true, true, false, true, true, true, false, true, false] rfl rfl rfl rfl (by kernel_rfl) (by decide) (by decide) (fun K hK => ?_) (fun K hK => ?_)
            · refine goes_ Try.func106 (by kernel_rfl) rfl #[.slice (some ⟨g208, 0, none⟩) 3 3] (by rfl) rfl rfl (by (try simp only [List.map_toArray, List.map_cons, List.map_nil]); first | done | rfl) ?_
              refine (ratio_Add.calls _ [24, a18, t151] (some ⟨g208, 0, none⟩) 3 t177 _ ⟨Rd.lit (l := []) (xs := [24, a18, t151]) HS.out 3 rfl (by simp)⟩ ⟨Sep.start _⟩ HA178).mono ?_
              rintro e_ w212 ⟨rfl, hS⟩
              replace HS : Aside0 (Sep (fps []) w [b1 g20 a16 a17 a18 a19, b2 g23 0 0 0 0 0 0 0 0, b3 g203 a16 a17, b4 g208 24 a18 t151] w212) := ⟨HS.out.call hS⟩
              clear hS
              refine ⟨_, rfl, ?_⟩
              refine hK.out _ _ (⟨blk_cellv (HS.out.at0) 2 rfl, blk_cellv (HS.out.at0) 0 rfl, blk_cellv (HS.out.at0) 1 rfl⟩) (fun hHeld => ?_)
              clear hK K
              refine norm_ (a' := ?_) ?_ ?_
              rotate_left
              · show Act.put _ (some 21) _ = _
                simp only [Act.put, List.setIfInBounds_toArray, List.set_cons_zero, List.set_cons_succ, i64_w, i32_w]
                rfl
              refine pure_ (i := 13) (N := some 25) (v := ?_) (a' := ?_) #[true, true, true, true, true, true, true, true, true, true, true, true, true, true, false, false] rfl rfl (by kernel_rfl) (fun _ _ _ h => h) (Or.inl ⟨by rfl, ?_⟩) ?_ ?_
              rotate_left
              · intro w'
                go_simp
                with_reducible rfl
              rotate_left
              · simp only [Act.put, List.setIfInBounds_toArray, List.set_cons_zero, List.set_cons_succ, i64_w, i32_w]
                rfl
              refine one_ (i := 14) (N := some 5) #[true, true, true, true, true, true, true, true, true, true, true, true, true, true, true, false] rfl rfl (by kernel_rfl) (by decide) (fun K hK => ?_)
              refine box_step (by rfl) (N := 5) rfl (cs := #[.int .i64 0, .int .i64 0, .int .i64 0, .int .i64 0, .int .i64 0, .int .i64 0, .int .i64 0, .int .i64 0]) (t := 120) ?hr ?_
              case hr => first | (go_simp; done) | (go_simp; rfl)
              intro g213 hg w214 hbox hb
              replace HS : Aside0 (Sep (fps []) w [b1 g20 a16 a17 a18 a19, b2 g23 0 0 0 0 0 0 0 0, b3 g203 a16 a17, b4 g208 24 a18 t151, b2 g213 0 0 0 0 0 0 0 0] w214) := ⟨HS.out.box hg hbox hb⟩
              clear hg hbox hb
              refine hK.out _ _ (⟨blk_cellv (HS.out.at0) 2 rfl, blk_cellv (HS.out.at0) 0 rfl, blk_cellv (HS.out.at0) 1 rfl⟩) (fun hHeld => ?_)
              clear hK K
              refine norm_ (a' := ?_) ?_ ?_
              rotate_left
              · show Act.put _ (some 5) _ = _
                simp only [Act.put, List.setIfInBounds_toArray, List.set_cons_zero, List.set_cons_succ, i64_w, i32_w]
                rfl
              refine one_ (i := 15) (N := none) #[true, true, true, true, true, true, true, true, true, true, true, true, true, true, true, true] rfl rfl (by kernel_rfl) (by decide) (fun K hK => ?_)
              have hc217 := blk_cellv (v := .int .i64 0) (HS.out.at4) 0 rfl
              have hz218 := blk_fz (HS.out.at4) 0
              have hc219 := blk_cellv (v := .int .i64 0) (HS.out.at4) 1 rfl
              have hz220 := blk_fz (HS.out.at4) 1
              have hc221 := blk_cellv (v := .int .i64 0) (HS.out.at4) 2 rfl
              have hz222 := blk_fz (HS.out.at4) 2
              have hc223 := blk_cellv (v := .int .i64 0) (HS.out.at4) 3 rfl
              have hz224 := blk_fz (HS.out.at4) 3
              have hc225 := blk_cellv (v := .int .i64 0) (HS.out.at4) 4 rfl
              have hz226 := blk_fz (HS.out.at4) 4
              have hc227 := blk_cellv (v := .int .i64 0) (HS.out.at4) 5 rfl
              have hz228 := blk_fz (HS.out.at4) 5
              have hc229 := blk_cellv (v := .int .i64 0) (HS.out.at4) 6 rfl
              have hz230 := blk_fz (HS.out.at4) 6
              have hc231 := blk_cellv (v := .int .i64 0) (HS.out.at4) 7 rfl
              have hz232 := blk_fz (HS.out.at4) 7
              refine store_step (w1 := (World.setCell (World.setCell (World.setCell (World.setCell (World.setCell (World.setCell (World.setCell (World.setCell w214 ⟨g213, 0, none⟩ (.int .i64 t177)) ⟨g213, 1, none⟩ (.int .i64 (wrap64 (a17 - 8)))) ⟨g213, 2, none⟩ (.int .i64 0)) ⟨g213, 3, none⟩ (.int .i64 0)) ⟨g213, 4, none⟩ (.int .i64 0)) ⟨g213, 5, none⟩ (.int .i64 0)) ⟨g213, 6, none⟩ (.int .i64 0)) ⟨g213, 7, none⟩ (.int .i64 0))) (by rfl) rfl ?hr ?_
              case hr => first | (go_simp; done) | (go_simp; rfl)
              clear hc217 hz218 hc219 hz220 hc221 hz222 hc223 hz224 hc225 hz226 hc227 hz228 hc229 hz230 hc231 hz232
              intro w216 hst
              replace HS : Aside0 (Sep (fps []) w [b1 g20 a16 a17 a18 a19, b2 g23 0 0 0 0 0 0 0 0, b3 g203 a16 a17, b4 g208 24 a18 t151, b2 g213 t177 (wrap64 (a17 - 8)) 0 0 0 0 0 0] w216) := ⟨by rw [hst]; exact HS.out.setAll (l1 := [b1 g20 a16 a17 a18 a19, b2 g23 0 0 0 0 0 0 0 0, b3 g203 a16 a17, b4 g208 24 a18 t151]) (l2 := []) [.int .i64 t177, .int .i64 (wrap64 (a17 - 8)), .int .i64 0, .int .i64 0, .int .i64 0, .int .i64 0, .int .i64 0, .int .i64 0] rfl⟩
              clear hst
              refine hK.out _ _ (⟨blk_cellv (HS.out.at0) 2 rfl, blk_cellv (HS.out.at0) 0 rfl, blk_cellv (HS.out.at0) 1 rfl⟩) (fun hHeld => ?_)
              clear hK K
              refine done_ (by kernel_rfl) ?_
              go_wp2_with fail
              go_meet
              case rel => exact ⟨g203, g208, g213, (by first | rfl | (simp [IntKind.wrap_u32]; done)), ⟨(((((HS.out).front 4 (by simp)).front 4 (by simp)).front 4 (by simp)).front 4 (by simp)).front 4 (by simp)⟩⟩
            · refine box_step (by rfl) (N := 5) rfl (cs := #[.int .i64 0, .int .i64 0, .int .i64 0, .int .i64 0, .int .i64 0, .int .i64 0, .int .i64 0, .int .i64 0]) (t := 120) ?hr ?_
              case hr => first | (go_simp; done) | (go_simp; rfl)
              intro g233 hg w234 hbox hb
              replace HS : Aside0 (Sep (fps []) w [b1 g20 a16 a17 a18 a19, b2 g23 0 0 0 0 0 0 0 0, b3 g203 a16 a17, b4 g208 24 a18 t151, b2 g233 0 0 0 0 0 0 0 0] w234) := ⟨HS.out.box hg hbox hb⟩
              clear hg hbox hb
              refine hK.out _ _ (⟨blk_cellv (HS.out.at0) 2 rfl, blk_cellv (HS.out.at0) 0 rfl, blk_cellv (HS.out.at0) 1 rfl⟩) (fun hHeld => ?_)
              clear hK K
              refine norm_ (a' := ?_) ?_ ?_
              rotate_left
              · show Act.put _ (some 5) _ = _
                simp only [Act.put, List.setIfInBounds_toArray, List.set_cons_zero, List.set_cons_succ, i64_w, i32_w]
                rfl
              refine one_ (i := 9) (N := some 21) #[true, true, true, true, true, true, true, true, true, true, true, true, true, false, true, false] rfl rfl (by kernel_rfl) (by decide) (fun K hK => ?_)
              refine goes_ Try.func106 (by kernel_rfl) rfl #[.slice (some ⟨g208, 0, none⟩) 3 3] (by rfl) rfl rfl (by (try simp only [List.map_toArray, List.map_cons, List.map_nil]); first | done | rfl) ?_
              refine (ratio_Add.calls _ [24, a18, t151] (some ⟨g208, 0, none⟩) 3 t177 _ ⟨Rd.lit (l := []) (xs := [24, a18, t151]) HS.out 3 rfl (by simp)⟩ ⟨Sep.start _⟩ HA178).mono ?_
              rintro e_ w237 ⟨rfl, hS⟩
              replace HS : Aside0 (Sep (fps []) w [b1 g20 a16 a17 a18 a19, b2 g23 0 0 0 0 0 0 0 0, b3 g203 a16 a17, b4 g208 24 a18 t151, b2 g233 0 0 0 0 0 0 0 0] w237) := ⟨HS.out.call hS⟩
              clear hS
              refine ⟨_, rfl, ?_⟩
              refine hK.out _ _ (⟨blk_cellv (HS.out.at0) 2 rfl, blk_cellv (HS.out.at0) 0 rfl, blk_cellv (HS.out.at0) 1 rfl⟩) (fun hHeld => ?_)
              clear hK K
              refine norm_ (a' := ?_) ?_ ?_
              rotate_left
              · show Act.put _ (some 21) _ = _
                simp only [Act.put, List.setIfInBounds_toArray, List.set_cons_zero, List.set_cons_succ, i64_w, i32_w]
                rfl
              refine pure_ (i := 13) (N := some 25) (v := ?_) (a' := ?_) #[true, true, true, true, true, true, true, true, true, true, true, true, true, true, true, false] rfl rfl (by kernel_rfl) (fun _ _ _ h => h) (Or.inl ⟨by rfl, ?_⟩) ?_ ?_
              rotate_left
              · intro w'
                go_simp
                with_reducible rfl
              rotate_left
              · simp only [Act.put, List.setIfInBounds_toArray, List.set_cons_zero, List.set_cons_succ, i64_w, i32_w]
                rfl
              refine one_ (i := 15) (N := none) #[true, true, true, true, true, true, true, true, true, true, true, true, true, true, true, true] rfl rfl (by kernel_rfl) (by decide) (fun K hK => ?_)
              have hc239 := blk_cellv (v := .int .i64 0) (HS.out.at4) 0 rfl
              have hz240 := blk_fz (HS.out.at4) 0
              have hc241 := blk_cellv (v := .int .i64 0) (HS.out.at4) 1 rfl
              have hz242 := blk_fz (HS.out.at4) 1
              have hc243 := blk_cellv (v := .int .i64 0) (HS.out.at4) 2 rfl
              have hz244 := blk_fz (HS.out.at4) 2
              have hc245 := blk_cellv (v := .int .i64 0) (HS.out.at4) 3 rfl
              have hz246 := blk_fz (HS.out.at4) 3
              have hc247 := blk_cellv (v := .int .i64 0) (HS.out.at4) 4 rfl
              have hz248 := blk_fz (HS.out.at4) 4
              have hc249 := blk_cellv (v := .int .i64 0) (HS.out.at4) 5 rfl
              have hz250 := blk_fz (HS.out.at4) 5
              have hc251 := blk_cellv (v := .int .i64 0) (HS.out.at4) 6 rfl
              have hz252 := blk_fz (HS.out.at4) 6
              have hc253 := blk_cellv (v := .int .i64 0) (HS.out.at4) 7 rfl
              have hz254 := blk_fz (HS.out.at4) 7
              refine store_step (w1 := (World.setCell (World.setCell (World.setCell (World.setCell (World.setCell (World.setCell (World.setCell (World.setCell w237 ⟨g233, 0, none⟩ (.int .i64 t177)) ⟨g233, 1, none⟩ (.int .i64 (wrap64 (a17 - 8)))) ⟨g233, 2, none⟩ (.int .i64 0)) ⟨g233, 3, none⟩ (.int .i64 0)) ⟨g233, 4, none⟩ (.int .i64 0)) ⟨g233, 5, none⟩ (.int .i64 0)) ⟨g233, 6, none⟩ (.int .i64 0)) ⟨g233, 7, none⟩ (.int .i64 0))) (by rfl) rfl ?hr ?_
              case hr => first | (go_simp; done) | (go_simp; rfl)
              clear hc239 hz240 hc241 hz242 hc243 hz244 hc245 hz246 hc247 hz248 hc249 hz250 hc251 hz252 hc253 hz254
              intro w238 hst
              replace HS : Aside0 (Sep (fps []) w [b1 g20 a16 a17 a18 a19, b2 g23 0 0 0 0 0 0 0 0, b3 g203 a16 a17, b4 g208 24 a18 t151, b2 g233 t177 (wrap64 (a17 - 8)) 0 0 0 0 0 0] w238) := ⟨by rw [hst]; exact HS.out.setAll (l1 := [b1 g20 a16 a17 a18 a19, b2 g23 0 0 0 0 0 0 0 0, b3 g203 a16 a17, b4 g208 24 a18 t151]) (l2 := []) [.int .i64 t177, .int .i64 (wrap64 (a17 - 8)), .int .i64 0, .int .i64 0, .int .i64 0, .int .i64 0, .int .i64 0, .int .i64 0] rfl⟩
              clear hst
              refine hK.out _ _ (⟨blk_cellv (HS.out.at0) 2 rfl, blk_cellv (HS.out.at0) 0 rfl, blk_cellv (HS.out.at0) 1 rfl⟩) (fun hHeld => ?_)
              clear hK K
              refine done_ (by kernel_rfl) ?_
              go_wp2_with fail
              go_meet
              case rel => exact ⟨g203, g208, g233, (by first | rfl | (simp [IntKind.wrap_u32]; done)), ⟨(((((HS.out).front 4 (by simp)).front 4 (by simp)).front 4 (by simp)).front 4 (by simp)).front 4 (by simp)⟩⟩
          · refine box_step (by rfl) (N := 5) rfl (cs := #[.int .i64 0, .int .i64 0, .int .i64 0, .int .i64 0, .int .i64 0, .int .i64 0, .int .i64 0, .int .i64 0]) (t := 120) ?hr ?_
            case hr => first | (go_simp; done) | (go_simp; rfl)
            intro g255 hg w256 hbox hb
            replace HS : Aside0 (Sep (fps []) w [b1 g20 a16 a17 a18 a19, b2 g23 0 0 0 0 0 0 0 0, b3 g203 a16 a17, b2 g255 0 0 0 0 0 0 0 0] w256) := ⟨HS.out.box hg hbox hb⟩
            clear hg hbox hb
            refine hK.out _ _ (⟨blk_cellv (HS.out.at0) 2 rfl, blk_cellv (HS.out.at0) 0 rfl, blk_cellv (HS.out.at0) 1 rfl⟩) (fun hHeld => ?_)
            clear hK K
            refine norm_ (a' := ?_) ?_ ?_
            rotate_left
            · show Act.put _ (some 5) _ = _
              simp only [Act.put, List.setIfInBounds_toArray, List.set_cons_zero, List.set_cons_succ, i64_w, i32_w]
              rfl
            refine one_ (i := 8) (N := some 20) #[true, true, true, true, true, true, true, true, true, false, true, true, true, false, true, false] rfl rfl (by kernel_rfl) (by decide) (fun K hK => ?_)
            refine slice_step (n := 3) (by rfl) (N := 20) rfl (cs := #[.int .i64 24, .int .i64 a18, .int .i64 t151]) (t := 3) ?hr ?_
            case hr => first | (go_simp; done) | (go_simp; rfl)
            intro g258 hg w259 hbox hb
            replace HS : Aside0 (Sep (fps []) w [b1 g20 a16 a17 a18 a19, b2 g23 0 0 0 0 0 0 0 0, b3 g203 a16 a17, b2 g255 0 0 0 0 0 0 0 0, b4 g258 24 a18 t151] w259) := ⟨HS.out.box hg hbox hb⟩
            clear hg hbox hb
            refine hK.out _ _ (⟨blk_cellv (HS.out.at0) 2 rfl, blk_cellv (HS.out.at0) 0 rfl, blk_cellv (HS.out.at0) 1 rfl⟩) (fun hHeld => ?_)
            clear hK K
            refine norm_ (a' := ?_) ?_ ?_
            rotate_left
            · show Act.put _ (some 20) _ = _
              simp only [Act.put, List.setIfInBounds_toArray, List.set_cons_zero, List.set_cons_succ, i64_w, i32_w]
              rfl
            refine one_ (i := 9) (N := some 21) #[true, true, true, true, true, true, true, true, true, true, true, true, true, false, true, false] rfl rfl (by kernel_rfl) (by decide) (fun K hK => ?_)
            refine goes_ Try.func106 (by kernel_rfl) rfl #[.slice (some ⟨g258, 0, none⟩) 3 3] (by rfl) rfl rfl (by (try simp only [List.map_toArray, List.map_cons, List.map_nil]); first | done | rfl) ?_
            refine (ratio_Add.calls _ [24, a18, t151] (some ⟨g258, 0, none⟩) 3 t177 _ ⟨Rd.lit (l := []) (xs := [24, a18, t151]) HS.out 4 rfl (by simp)⟩ ⟨Sep.start _⟩ HA178).mono ?_
            rintro e_ w262 ⟨rfl, hS⟩
            replace HS : Aside0 (Sep (fps []) w [b1 g20 a16 a17 a18 a19, b2 g23 0 0 0 0 0 0 0 0, b3 g203 a16 a17, b2 g255 0 0 0 0 0 0 0 0, b4 g258 24 a18 t151] w262) := ⟨HS.out.call hS⟩
            clear hS
            refine ⟨_, rfl, ?_⟩
            refine hK.out _ _ (⟨blk_cellv (HS.out.at0) 2 rfl, blk_cellv (HS.out.at0) 0 rfl, blk_cellv (HS.out.at0) 1 rfl⟩) (fun hHeld => ?_)
            clear hK K
            refine norm_ (a' := ?_) ?_ ?_
            rotate_left
            · show Act.put _ (some 21) _ = _
              simp only [Act.put, List.setIfInBounds_toArray, List.set_cons_zero, List.set_cons_succ, i64_w, i32_w]
              rfl
            refine pure_ (i := 13) (N := some 25) (v := ?_) (a' := ?_) #[true, true, true, true, true, true, true, true, true, true, true, true, true, true, true, false] rfl rfl (by kernel_rfl) (fun _ _ _ h => h) (Or.inl ⟨by rfl, ?_⟩) ?_ ?_
            rotate_left
            · intro w'
              go_simp
              with_reducible rfl
            rotate_left
            · simp only [Act.put, List.setIfInBounds_toArray, List.set_cons_zero, List.set_cons_succ, i64_w, i32_w]
              rfl
            refine one_ (i := 15) (N := none) #[true, true, true, true, true, true, true, true, true, true, true, true, true, true, true, true] rfl rfl (by kernel_rfl) (by decide) (fun K hK => ?_)
            have hc264 := blk_cellv (v := .int .i64 0) (HS.out.at3) 0 rfl
            have hz265 := blk_fz (HS.out.at3) 0
            have hc266 := blk_cellv (v := .int .i64 0) (HS.out.at3) 1 rfl
            have hz267 := blk_fz (HS.out.at3) 1
            have hc268 := blk_cellv (v := .int .i64 0) (HS.out.at3) 2 rfl
            have hz269 := blk_fz (HS.out.at3) 2
            have hc270 := blk_cellv (v := .int .i64 0) (HS.out.at3) 3 rfl
            have hz271 := blk_fz (HS.out.at3) 3
            have hc272 := blk_cellv (v := .int .i64 0) (HS.out.at3) 4 rfl
            have hz273 := blk_fz (HS.out.at3) 4
            have hc274 := blk_cellv (v := .int .i64 0) (HS.out.at3) 5 rfl
            have hz275 := blk_fz (HS.out.at3) 5
            have hc276 := blk_cellv (v := .int .i64 0) (HS.out.at3) 6 rfl
            have hz277 := blk_fz (HS.out.at3) 6
            have hc278 := blk_cellv (v := .int .i64 0) (HS.out.at3) 7 rfl
            have hz279 := blk_fz (HS.out.at3) 7
            refine store_step (w1 := (World.setCell (World.setCell (World.setCell (World.setCell (World.setCell (World.setCell (World.setCell (World.setCell w262 ⟨g255, 0, none⟩ (.int .i64 t177)) ⟨g255, 1, none⟩ (.int .i64 (wrap64 (a17 - 8)))) ⟨g255, 2, none⟩ (.int .i64 0)) ⟨g255, 3, none⟩ (.int .i64 0)) ⟨g255, 4, none⟩ (.int .i64 0)) ⟨g255, 5, none⟩ (.int .i64 0)) ⟨g255, 6, none⟩ (.int .i64 0)) ⟨g255, 7, none⟩ (.int .i64 0))) (by rfl) rfl ?hr ?_
            case hr => first | (go_simp; done) | (go_simp; rfl)
            clear hc264 hz265 hc266 hz267 hc268 hz269 hc270 hz271 hc272 hz273 hc274 hz275 hc276 hz277 hc278 hz279
            intro w263 hst
            replace HS : Aside0 (Sep (fps []) w [b1 g20 a16 a17 a18 a19, b2 g23 0 0 0 0 0 0 0 0, b3 g203 a16 a17, b2 g255 t177 (wrap64 (a17 - 8)) 0 0 0 0 0 0, b4 g258 24 a18 t151] w263) := ⟨by rw [hst]; exact HS.out.setAll (l1 := [b1 g20 a16 a17 a18 a19, b2 g23 0 0 0 0 0 0 0 0, b3 g203 a16 a17]) (l2 := [b4 g258 24 a18 t151]) [.int .i64 t177, .int .i64 (wrap64 (a17 - 8)), .int .i64 0, .int .i64 0, .int .i64 0, .int .i64 0, .int .i64 0, .int .i64 0] rfl⟩
            clear hst
            refine hK.out _ _ (⟨blk_cellv (HS.out.at0) 2 rfl, blk_cellv (HS.out.at0) 0 rfl, blk_cellv (HS.out.at0) 1 rfl⟩) (fun hHeld => ?_)
            clear hK K
            refine done_ (by kernel_rfl) ?_
            go_wp2_with fail
            go_meet
            case rel => exact ⟨g203, g258, g255, (by first | rfl | (simp [IntKind.wrap_u32]; done)), ⟨(((((HS.out).front 3 (by simp)).front 4 (by simp)).front 4 (by simp)).front 4 (by simp)).front 4 (by simp)⟩⟩
        · refine box_step (by rfl) (N := 5) rfl (cs := #[.int .i64 0, .int .i64 0, .int .i64 0, .int .i64 0, .int .i64 0, .int .i64 0, .int .i64 0, .int .i64 0]) (t := 120) ?hr ?_
          case hr => first | (go_simp; done) | (go_simp; rfl)
          intro g280 hg w281 hbox hb
          replace HS : Aside0 (Sep (fps []) w [b1 g20 a16 a17 a18 a19, b2 g23 0 0 0 0 0 0 0 0, b3 g203 a16 a17, b2 g280 0 0 0 0 0 0 0 0] w281) := ⟨HS.out.box hg hbox hb⟩
          clear hg hbox hb
          refine hK.out _ _ (⟨blk_cellv (HS.out.at0) 2 rfl, blk_cellv (HS.out.at0) 0 rfl, blk_cellv (HS.out.at0) 1 rfl⟩) (fun hHeld => ?_)
          clear hK K
          refine norm_ (a' := ?_) ?_ ?_
          rotate_left
          · show Act.put _ (some 5) _ = _
            simp only [Act.put, List.setIfInBounds_toArray, List.set_cons_zero, List.set_cons_succ, i64_w, i32_w]
            rfl
          refine one_ (i := 7) (N := some 19) #[true, true, true, true, true, true, true, true, false, false, true, true, true, false, true, false] rfl rfl (by kernel_rfl) (by decide) (fun K hK => ?_)
          refine goes_ Try.func107 (by kernel_rfl) rfl #[.slice (some ⟨g203, 0, none⟩) 2 2] (by rfl) rfl rfl (by (try simp only [List.map_toArray, List.map_cons, List.map_nil]); first | done | rfl) ?_
          refine (ratio_Mul.calls _ [a16, a17] (some ⟨g203, 0, none⟩) 2 t151 _ ⟨Rd.lit (l := []) (xs := [a16, a17]) HS.out 2 rfl (by simp)⟩ ⟨Sep.start _⟩ HA152).mono ?_
          rintro e_ w284 ⟨rfl, hS⟩
          replace HS : Aside0 (Sep (fps []) w [b1 g20 a16 a17 a18 a19, b2 g23 0 0 0 0 0 0 0 0, b3 g203 a16 a17, b2 g280 0 0 0 0 0 0 0 0] w284) := ⟨HS.out.call hS⟩
          clear hS
          refine ⟨_, rfl, ?_⟩
          refine hK.out _ _ (⟨blk_cellv (HS.out.at0) 2 rfl, blk_cellv (HS.out.at0) 0 rfl, blk_cellv (HS.out.at0) 1 rfl⟩) (fun hHeld => ?_)
          clear hK K
          refine norm_ (a' := ?_) ?_ ?_
          rotate_left
          · show Act.put _ (some 19) _ = _
            simp only [Act.put, List.setIfInBounds_toArray, List.set_cons_zero, List.set_cons_succ, i64_w, i32_w]
            rfl
          refine one_ (i := 8) (N := some 20) #[true, true, true, true, true, true, true, true, true, false, true, true, true, false, true, false] rfl rfl (by kernel_rfl) (by decide) (fun K hK => ?_)
          refine slice_step (n := 3) (by rfl) (N := 20) rfl (cs := #[.int .i64 24, .int .i64 a18, .int .i64 t151]) (t := 3) ?hr ?_
          case hr => first | (go_simp; done) | (go_simp; rfl)
          intro g285 hg w286 hbox hb
          replace HS : Aside0 (Sep (fps []) w [b1 g20 a16 a17 a18 a19, b2 g23 0 0 0 0 0 0 0 0, b3 g203 a16 a17, b2 g280 0 0 0 0 0 0 0 0, b4 g285 24 a18 t151] w286) := ⟨HS.out.box hg hbox hb⟩
          clear hg hbox hb
          refine hK.out _ _ (⟨blk_cellv (HS.out.at0) 2 rfl, blk_cellv (HS.out.at0) 0 rfl, blk_cellv (HS.out.at0) 1 rfl⟩) (fun hHeld => ?_)
          clear hK K
          refine norm_ (a' := ?_) ?_ ?_
          rotate_left
          · show Act.put _ (some 20) _ = _
            simp only [Act.put, List.setIfInBounds_toArray, List.set_cons_zero, List.set_cons_succ, i64_w, i32_w]
            rfl
          refine one_ (i := 9) (N := some 21) #[true, true, true, true, true, true, true, true, true, true, true, true, true, false, true, false] rfl rfl (by kernel_rfl) (by decide) (fun K hK => ?_)
          refine goes_ Try.func106 (by kernel_rfl) rfl #[.slice (some ⟨g285, 0, none⟩) 3 3] (by rfl) rfl rfl (by (try simp only [List.map_toArray, List.map_cons, List.map_nil]); first | done | rfl) ?_
          refine (ratio_Add.calls _ [24, a18, t151] (some ⟨g285, 0, none⟩) 3 t177 _ ⟨Rd.lit (l := []) (xs := [24, a18, t151]) HS.out 4 rfl (by simp)⟩ ⟨Sep.start _⟩ HA178).mono ?_
          rintro e_ w289 ⟨rfl, hS⟩
          replace HS : Aside0 (Sep (fps []) w [b1 g20 a16 a17 a18 a19, b2 g23 0 0 0 0 0 0 0 0, b3 g203 a16 a17, b2 g280 0 0 0 0 0 0 0 0, b4 g285 24 a18 t151] w289) := ⟨HS.out.call hS⟩
          clear hS
          refine ⟨_, rfl, ?_⟩
          refine hK.out _ _ (⟨blk_cellv (HS.out.at0) 2 rfl, blk_cellv (HS.out.at0) 0 rfl, blk_cellv (HS.out.at0) 1 rfl⟩) (fun hHeld => ?_)
          clear hK K
          refine norm_ (a' := ?_) ?_ ?_
          rotate_left
          · show Act.put _ (some 21) _ = _
            simp only [Act.put, List.setIfInBounds_toArray, List.set_cons_zero, List.set_cons_succ, i64_w, i32_w]
            rfl
          refine pure_ (i := 13) (N := some 25) (v := ?_) (a' := ?_) #[true, true, true, true, true, true, true, true, true, true, true, true, true, true, true, false] rfl rfl (by kernel_rfl) (fun _ _ _ h => h) (Or.inl ⟨by rfl, ?_⟩) ?_ ?_
          rotate_left
          · intro w'
            go_simp
            with_reducible rfl
          rotate_left
          · simp only [Act.put, List.setIfInBounds_toArray, List.set_cons_zero, List.set_cons_succ, i64_w, i32_w]
            rfl
          refine one_ (i := 15) (N := none) #[true, true, true, true, true, true, true, true, true, true, true, true, true, true, true, true] rfl rfl (by kernel_rfl) (by decide) (fun K hK => ?_)
          have hc291 := blk_cellv (v := .int .i64 0) (HS.out.at3) 0 rfl
          have hz292 := blk_fz (HS.out.at3) 0
          have hc293 := blk_cellv (v := .int .i64 0) (HS.out.at3) 1 rfl
          have hz294 := blk_fz (HS.out.at3) 1
          have hc295 := blk_cellv (v := .int .i64 0) (HS.out.at3) 2 rfl
          have hz296 := blk_fz (HS.out.at3) 2
          have hc297 := blk_cellv (v := .int .i64 0) (HS.out.at3) 3 rfl
          have hz298 := blk_fz (HS.out.at3) 3
          have hc299 := blk_cellv (v := .int .i64 0) (HS.out.at3) 4 rfl
          have hz300 := blk_fz (HS.out.at3) 4
          have hc301 := blk_cellv (v := .int .i64 0) (HS.out.at3) 5 rfl
          have hz302 := blk_fz (HS.out.at3) 5
          have hc303 := blk_cellv (v := .int .i64 0) (HS.out.at3) 6 rfl
          have hz304 := blk_fz (HS.out.at3) 6
          have hc305 := blk_cellv (v := .int .i64 0) (HS.out.at3) 7 rfl
          have hz306 := blk_fz (HS.out.at3) 7
          refine store_step (w1 := (World.setCell (World.setCell (World.setCell (World.setCell (World.setCell (World.setCell (World.setCell (World.setCell w289 ⟨g280, 0, none⟩ (.int .i64 t177)) ⟨g280, 1, none⟩ (.int .i64 (wrap64 (a17 - 8)))) ⟨g280, 2, none⟩ (.int .i64 0)) ⟨g280, 3, none⟩ (.int .i64 0)) ⟨g280, 4, none⟩ (.int .i64 0)) ⟨g280, 5, none⟩ (.int .i64 0)) ⟨g280, 6, none⟩ (.int .i64 0)) ⟨g280, 7, none⟩ (.int .i64 0))) (by rfl) rfl ?hr ?_
          case hr => first | (go_simp; done) | (go_simp; rfl)
          clear hc291 hz292 hc293 hz294 hc295 hz296 hc297 hz298 hc299 hz300 hc301 hz302 hc303 hz304 hc305 hz306
          intro w290 hst
          replace HS : Aside0 (Sep (fps []) w [b1 g20 a16 a17 a18 a19, b2 g23 0 0 0 0 0 0 0 0, b3 g203 a16 a17, b2 g280 t177 (wrap64 (a17 - 8)) 0 0 0 0 0 0, b4 g285 24 a18 t151] w290) := ⟨by rw [hst]; exact HS.out.setAll (l1 := [b1 g20 a16 a17 a18 a19, b2 g23 0 0 0 0 0 0 0 0, b3 g203 a16 a17]) (l2 := [b4 g285 24 a18 t151]) [.int .i64 t177, .int .i64 (wrap64 (a17 - 8)), .int .i64 0, .int .i64 0, .int .i64 0, .int .i64 0, .int .i64 0, .int .i64 0] rfl⟩
          clear hst
          refine hK.out _ _ (⟨blk_cellv (HS.out.at0) 2 rfl, blk_cellv (HS.out.at0) 0 rfl, blk_cellv (HS.out.at0) 1 rfl⟩) (fun hHeld => ?_)
          clear hK K
          refine done_ (by kernel_rfl) ?_
          go_wp2_with fail
          go_meet
          case rel => exact ⟨g203, g285, g280, (by first | rfl | (simp [IntKind.wrap_u32]; done)), ⟨(((((HS.out).front 3 (by simp)).front 4 (by simp)).front 4 (by simp)).front 4 (by simp)).front 4 (by simp)⟩⟩
      · refine box_step (by rfl) (N := 5) rfl (cs := #[.int .i64 0, .int .i64 0, .int .i64 0, .int .i64 0, .int .i64 0, .int .i64 0, .int .i64 0, .int .i64 0]) (t := 120) ?hr ?_
        case hr => first | (go_simp; done) | (go_simp; rfl)
        intro g307 hg w308 hbox hb
        replace HS : Aside0 (Sep (fps []) w [b1 g20 a16 a17 a18 a19, b2 g23 0 0 0 0 0 0 0 0, b2 g307 0 0 0 0 0 0 0 0] w308) := ⟨HS.out.box hg hbox hb⟩
        clear hg hbox hb
        refine hK.out _ _ (⟨blk_cellv (HS.out.at0) 2 rfl, blk_cellv (HS.out.at0) 0 rfl, blk_cellv (HS.out.at0) 1 rfl⟩) (fun hHeld => ?_)
        clear hK K
        refine norm_ (a' := ?_) ?_ ?_
        rotate_left
        · show Act.put _ (some 5) _ = _
          simp only [Act.put, List.setIfInBounds_toArray, List.set_cons_zero, List.set_cons_succ, i64_w, i32_w]
          rfl
        refine one_ (i := 6) (N := some 18) #[true, true, true, true, true, true, true, false, false, false, true, true, true, false, true, false] rfl rfl (by kernel_rfl) (by decide) (fun K hK => ?_)
        refine slice_step (n := 2) (by rfl) (N := 18) rfl (cs := #[.int .i64 a16, .int .i64 a17]) (t := 3) ?hr ?_
        case hr => first | (go_simp; done) | (go_simp; rfl)
        intro g310 hg w311 hbox hb
        replace HS : Aside0 (Sep (fps []) w [b1 g20 a16 a17 a18 a19, b2 g23 0 0 0 0 0 0 0 0, b2 g307 0 0 0 0 0 0 0 0, b3 g310 a16 a17] w311) := ⟨HS.out.box hg hbox hb⟩
        clear hg hbox hb
        refine hK.out _ _ (⟨blk_cellv (HS.out.at0) 2 rfl, blk_cellv (HS.out.at0) 0 rfl, blk_cellv (HS.out.at0) 1 rfl⟩) (fun hHeld => ?_)
        clear hK K
        refine norm_ (a' := ?_) ?_ ?_
        rotate_left
        · show Act.put _ (some 18) _ = _
          simp only [Act.put, List.setIfInBounds_toArray, List.set_cons_zero, List.set_cons_succ, i64_w, i32_w]
          rfl
        refine one_ (i := 7) (N := some 19) #[true, true, true, true, true, true, true, true, false, false, true, true, true, false, true, false] rfl rfl (by kernel_rfl) (by decide) (fun K hK => ?_)
        refine goes_ Try.func107 (by kernel_rfl) rfl #[.slice (some ⟨g310, 0, none⟩) 2 2] (by rfl) rfl rfl (by (try simp only [List.map_toArray, List.map_cons, List.map_nil]); first | done | rfl) ?_
        refine (ratio_Mul.calls _ [a16, a17] (some ⟨g310, 0, none⟩) 2 t151 _ ⟨Rd.lit (l := []) (xs := [a16, a17]) HS.out 3 rfl (by simp)⟩ ⟨Sep.start _⟩ HA152).mono ?_
        rintro e_ w314 ⟨rfl, hS⟩
        replace HS : Aside0 (Sep (fps []) w [b1 g20 a16 a17 a18 a19, b2 g23 0 0 0 0 0 0 0 0, b2 g307 0 0 0 0 0 0 0 0, b3 g310 a16 a17] w314) := ⟨HS.out.call hS⟩
        clear hS
        refine ⟨_, rfl, ?_⟩
        refine hK.out _ _ (⟨blk_cellv (HS.out.at0) 2 rfl, blk_cellv (HS.out.at0) 0 rfl, blk_cellv (HS.out.at0) 1 rfl⟩) (fun hHeld => ?_)
        clear hK K
        refine norm_ (a' := ?_) ?_ ?_
        rotate_left
        · show Act.put _ (some 19) _ = _
          simp only [Act.put, List.setIfInBounds_toArray, List.set_cons_zero, List.set_cons_succ, i64_w, i32_w]
          rfl
        refine one_ (i := 8) (N := some 20) #[true, true, true, true, true, true, true, true, true, false, true, true, true, false, true, false] rfl rfl (by kernel_rfl) (by decide) (fun K hK => ?_)
        refine slice_step (n := 3) (by rfl) (N := 20) rfl (cs := #[.int .i64 24, .int .i64 a18, .int .i64 t151]) (t := 3) ?hr ?_
        case hr => first | (go_simp; done) | (go_simp; rfl)
        intro g315 hg w316 hbox hb
        replace HS : Aside0 (Sep (fps []) w [b1 g20 a16 a17 a18 a19, b2 g23 0 0 0 0 0 0 0 0, b2 g307 0 0 0 0 0 0 0 0, b3 g310 a16 a17, b4 g315 24 a18 t151] w316) := ⟨HS.out.box hg hbox hb⟩
        clear hg hbox hb
        refine hK.out _ _ (⟨blk_cellv (HS.out.at0) 2 rfl, blk_cellv (HS.out.at0) 0 rfl, blk_cellv (HS.out.at0) 1 rfl⟩) (fun hHeld => ?_)
        clear hK K
        refine norm_ (a' := ?_) ?_ ?_
        rotate_left
        · show Act.put _ (some 20) _ = _
          simp only [Act.put, List.setIfInBounds_toArray, List.set_cons_zero, List.set_cons_succ, i64_w, i32_w]
          rfl
        refine one_ (i := 9) (N := some 21) #[true, true, true, true, true, true, true, true, true, true, true, true, true, false, true, false] rfl rfl (by kernel_rfl) (by decide) (fun K hK => ?_)
        refine goes_ Try.func106 (by kernel_rfl) rfl #[.slice (some ⟨g315, 0, none⟩) 3 3] (by rfl) rfl rfl (by (try simp only [List.map_toArray, List.map_cons, List.map_nil]); first | done | rfl) ?_
        refine (ratio_Add.calls _ [24, a18, t151] (some ⟨g315, 0, none⟩) 3 t177 _ ⟨Rd.lit (l := []) (xs := [24, a18, t151]) HS.out 4 rfl (by simp)⟩ ⟨Sep.start _⟩ HA178).mono ?_
        rintro e_ w319 ⟨rfl, hS⟩
        replace HS : Aside0 (Sep (fps []) w [b1 g20 a16 a17 a18 a19, b2 g23 0 0 0 0 0 0 0 0, b2 g307 0 0 0 0 0 0 0 0, b3 g310 a16 a17, b4 g315 24 a18 t151] w319) := ⟨HS.out.call hS⟩
        clear hS
        refine ⟨_, rfl, ?_⟩
        refine hK.out _ _ (⟨blk_cellv (HS.out.at0) 2 rfl, blk_cellv (HS.out.at0) 0 rfl, blk_cellv (HS.out.at0) 1 rfl⟩) (fun hHeld => ?_)
        clear hK K
        refine norm_ (a' := ?_) ?_ ?_
        rotate_left
        · show Act.put _ (some 21) _ = _
          simp only [Act.put, List.setIfInBounds_toArray, List.set_cons_zero, List.set_cons_succ, i64_w, i32_w]
          rfl
        refine pure_ (i := 13) (N := some 25) (v := ?_) (a' := ?_) #[true, true, true, true, true, true, true, true, true, true, true, true, true, true, true, false] rfl rfl (by kernel_rfl) (fun _ _ _ h => h) (Or.inl ⟨by rfl, ?_⟩) ?_ ?_
        rotate_left
        · intro w'
          go_simp
          with_reducible rfl
        rotate_left
        · simp only [Act.put, List.setIfInBounds_toArray, List.set_cons_zero, List.set_cons_succ, i64_w, i32_w]
          rfl
        refine one_ (i := 15) (N := none) #[true, true, true, true, true, true, true, true, true, true, true, true, true, true, true, true] rfl rfl (by kernel_rfl) (by decide) (fun K hK => ?_)
        have hc321 := blk_cellv (v := .int .i64 0) (HS.out.at2) 0 rfl
        have hz322 := blk_fz (HS.out.at2) 0
        have hc323 := blk_cellv (v := .int .i64 0) (HS.out.at2) 1 rfl
        have hz324 := blk_fz (HS.out.at2) 1
        have hc325 := blk_cellv (v := .int .i64 0) (HS.out.at2) 2 rfl
        have hz326 := blk_fz (HS.out.at2) 2
        have hc327 := blk_cellv (v := .int .i64 0) (HS.out.at2) 3 rfl
        have hz328 := blk_fz (HS.out.at2) 3
        have hc329 := blk_cellv (v := .int .i64 0) (HS.out.at2) 4 rfl
        have hz330 := blk_fz (HS.out.at2) 4
        have hc331 := blk_cellv (v := .int .i64 0) (HS.out.at2) 5 rfl
        have hz332 := blk_fz (HS.out.at2) 5
        have hc333 := blk_cellv (v := .int .i64 0) (HS.out.at2) 6 rfl
        have hz334 := blk_fz (HS.out.at2) 6
        have hc335 := blk_cellv (v := .int .i64 0) (HS.out.at2) 7 rfl
        have hz336 := blk_fz (HS.out.at2) 7
        refine store_step (w1 := (World.setCell (World.setCell (World.setCell (World.setCell (World.setCell (World.setCell (World.setCell (World.setCell w319 ⟨g307, 0, none⟩ (.int .i64 t177)) ⟨g307, 1, none⟩ (.int .i64 (wrap64 (a17 - 8)))) ⟨g307, 2, none⟩ (.int .i64 0)) ⟨g307, 3, none⟩ (.int .i64 0)) ⟨g307, 4, none⟩ (.int .i64 0)) ⟨g307, 5, none⟩ (.int .i64 0)) ⟨g307, 6, none⟩ (.int .i64 0)) ⟨g307, 7, none⟩ (.int .i64 0))) (by rfl) rfl ?hr ?_
        case hr => first | (go_simp; done) | (go_simp; rfl)
        clear hc321 hz322 hc323 hz324 hc325 hz326 hc327 hz328 hc329 hz330 hc331 hz332 hc333 hz334 hc335 hz336
        intro w320 hst
        replace HS : Aside0 (Sep (fps []) w [b1 g20 a16 a17 a18 a19, b2 g23 0 0 0 0 0 0 0 0, b2 g307 t177 (wrap64 (a17 - 8)) 0 0 0 0 0 0, b3 g310 a16 a17, b4 g315 24 a18 t151] w320) := ⟨by rw [hst]; exact HS.out.setAll (l1 := [b1 g20 a16 a17 a18 a19, b2 g23 0 0 0 0 0 0 0 0]) (l2 := [b3 g310 a16 a17, b4 g315 24 a18 t151]) [.int .i64 t177, .int .i64 (wrap64 (a17 - 8)), .int .i64 0, .int .i64 0, .int .i64 0, .int .i64 0, .int .i64 0, .int .i64 0] rfl⟩
        clear hst
        refine hK.out _ _ (⟨blk_cellv (HS.out.at0) 2 rfl, blk_cellv (HS.out.at0) 0 rfl, blk_cellv (HS.out.at0) 1 rfl⟩) (fun hHeld => ?_)
        clear hK K
        refine done_ (by kernel_rfl) ?_
        go_wp2_with fail
        go_meet
        case rel => exact ⟨g310, g315, g307, (by first | rfl | (simp [IntKind.wrap_u32]; done)), ⟨(((((HS.out).front 2 (by simp)).front 4 (by simp)).front 4 (by simp)).front 4 (by simp)).front 4 (by simp)⟩⟩
    case rest =>
      clear HS
      obtain ⟨g77, g154, g180, rfl, HS⟩ := hcut
      obtain ⟨w200, rfl⟩ : ∃ x : World, x = wc := ⟨_, rfl⟩
      replace HS : Aside0 (Sep (fps []) w [b1 g20 a16 a17 a18 a19, b2 g23 0 0 0 0 0 0 0 0, b2 g180 t177 (wrap64 (a17 - 8)) 0 0 0 0 0 0] w200) := ⟨HS.out.sub (.cons_cons _ (.cons_cons _ (.cons _ (.cons _ (.cons_cons _ .slnil)))))⟩
      have hc337 : w200.cell? ⟨g180, 1, none⟩ = some (.int .i64 (wrap64 (a17 - 8))) := blk_cellv (HS.out.at2) 1 rfl
      have hc338 : w200.cell? ⟨g180, 2, none⟩ = some (.int .i64 0) := blk_cellv (HS.out.at2) 2 rfl
      have hz339 : w200.frozen? ⟨g180, 2, none⟩ = false := blk_fz (HS.out.at2) 2
      go_wp2_with (first | ((with_reducible refine gate_store (t := 3) (p := 29) rfl ?_); refine store_event (w1 := (World.setCell w200 ⟨g180, 2, none⟩ (.int .i64 (wrap64 ((wrap64 (a17 - 8)) + 1))))) rfl (t := 3) (p := 29) rfl rfl ?hr ?_; (case hr => first | (go_simp; done) | (go_simp; rfl)); intro w340 hst; clear hc337 hc338 hz339; have hq0 : Sep (fps []) w [b1 g20 a16 a17 a18 a19, b2 g23 0 0 0 0 0 0 0 0, b2 g180 t177 (wrap64 (a17 - 8)) (wrap64 ((wrap64 (a17 - 8)) + 1)) 0 0 0 0 0] (World.setCell w200 ⟨g180, 2, none⟩ (.int .i64 (wrap64 ((wrap64 (a17 - 8)) + 1)))) := (HS.out).set1 (l1 := [b1 g20 a16 a17 a18 a19, b2 g23 0 0 0 0 0 0 0 0]) (l2 := []) 2 (.int .i64 (wrap64 ((wrap64 (a17 - 8)) + 1))); replace HS : Aside0 (Sep (fps []) w [b1 g20 a16 a17 a18 a19, b2 g23 0 0 0 0 0 0 0 0, b2 g180 t177 (wrap64 (a17 - 8)) (wrap64 ((wrap64 (a17 - 8)) + 1)) 0 0 0 0 0] w340) := ⟨by rw [hst]; exact hq0⟩; clear hq0; clear hst; have hc341 : w340.cell? ⟨g180, 1, none⟩ = some (.int .i64 (wrap64 (a17 - 8))) := blk_cellv (HS.out.at2) 1 rfl; have hc342 : w340.cell? ⟨g20, 1, none⟩ = some (.int .i64 a17) := blk_cellv (HS.out.at0) 1 rfl) | ((with_reducible refine gate_dst (N := 35) rfl ?_); refine slice_on (n := 2) ?hg (N := 35) ?hd (cs := #[.int .i64 (wrap64 (a17 - 8)), .int .i64 (wrap64 (a17 - 1))]) (t := 3) ?hr ?_; (case hd => rfl); (case hg => rfl); (case hr => first | (go_simp; done) | (go_simp; rfl)); intro g343 hg w344 hbox hb; clear hc341 hc342; replace HS : Aside0 (Sep (fps []) w [b1 g20 a16 a17 a18 a19, b2 g23 0 0 0 0 0 0 0 0, b2 g180 t177 (wrap64 (a17 - 8)) (wrap64 ((wrap64 (a17 - 8)) + 1)) 0 0 0 0 0, b3 g343 (wrap64 (a17 - 8)) (wrap64 (a17 - 1))] w344) := ⟨HS.out.box hg hbox hb⟩; clear hg hbox hb))
      obtain ⟨t346, HA347, H⟩ := bind_some H
      refine (ratio_Mul.calls _ [wrap64 (a17 - 8), wrap64 (a17 - 1)] (some ⟨g343, 0, none⟩) 2 t346 _ ⟨Rd.lit (l := []) (xs := [wrap64 (a17 - 8), wrap64 (a17 - 1)]) HS.out 3 rfl (by simp)⟩ ⟨Sep.start _⟩ HA347).mono ?_
      rintro e_ w348 ⟨rfl, hS⟩
      replace HS : Aside0 (Sep (fps []) w [b1 g20 a16 a17 a18 a19, b2 g23 0 0 0 0 0 0 0 0, b2 g180 t177 (wrap64 (a17 - 8)) (wrap64 ((wrap64 (a17 - 8)) + 1)) 0 0 0 0 0, b3 g343 (wrap64 (a17 - 8)) (wrap64 (a17 - 1))] w348) := ⟨HS.out.call hS⟩
      clear hS
      have hc349 : w348.cell? ⟨g180, 3, none⟩ = some (.int .i64 0) := blk_cellv (HS.out.at2) 3 rfl
      have hz350 : w348.frozen? ⟨g180, 3, none⟩ = false := blk_fz (HS.out.at2) 3
      go_wp2_with (first | ((with_reducible refine gate_store (t := 3) (p := 37) rfl ?_); refine store_event (w1 := (World.setCell w348 ⟨g180, 3, none⟩ (.int .i64 t346))) rfl (t := 3) (p := 37) rfl rfl ?hr ?_; (case hr => first | (go_simp; done) | (go_simp; rfl)); intro w351 hst; clear hc349 hz350; have hq0 : Sep (fps []) w [b1 g20 a16 a17 a18 a19, b2 g23 0 0 0 0 0 0 0 0, b2 g180 t177 (wrap64 (a17 - 8)) (wrap64 ((wrap64 (a17 - 8)) + 1)) t346 0 0 0 0, b3 g343 (wrap64 (a17 - 8)) (wrap64 (a17 - 1))] (World.setCell w348 ⟨g180, 3, none⟩ (.int .i64 t346)) := (HS.out).set1 (l1 := [b1 g20 a16 a17 a18 a19, b2 g23 0 0 0 0 0 0 0 0]) (l2 := [b3 g343 (wrap64 (a17 - 8)) (wrap64 (a17 - 1))]) 3 (.int .i64 t346); replace HS : Aside0 (Sep (fps []) w [b1 g20 a16 a17 a18 a19, b2 g23 0 0 0 0 0 0 0 0, b2 g180 t177 (wrap64 (a17 - 8)) (wrap64 ((wrap64 (a17 - 8)) + 1)) t346 0 0 0 0, b3 g343 (wrap64 (a17 - 8)) (wrap64 (a17 - 1))] w351) := ⟨by rw [hst]; exact hq0⟩; clear hq0; clear hst; replace HS : Aside0 (Sep (fps []) w [b1 g20 a16 a17 a18 a19, b2 g23 0 0 0 0 0 0 0 0, b2 g180 t177 (wrap64 (a17 - 8)) (wrap64 ((wrap64 (a17 - 8)) + 1)) t346 0 0 0 0] w351) := ⟨HS.out.sub (.cons_cons _ (.cons_cons _ (.cons_cons _ (.cons _ .slnil))))⟩; have hc352 : w351.cell? ⟨g20, 0, none⟩ = some (.int .i64 a16) := blk_cellv (HS.out.at0) 0 rfl; have hc353 : w351.cell? ⟨g20, 1, none⟩ = some (.int .i64 a17) := blk_cellv (HS.out.at0) 1 rfl) | ((with_reducible refine gate_dst (N := 43) rfl ?_); refine slice_on (n := 2) ?hg (N := 43) ?hd (cs := #[.int .i64 a16, .int .i64 (wrap64 (a17 + 1))]) (t := 3) ?hr ?_; (case hd => rfl); (case hg => rfl); (case hr => first | (go_simp; done) | (go_simp; rfl)); intro g354 hg w355 hbox hb; clear hc352 hc353; replace HS : Aside0 (Sep (fps []) w [b1 g20 a16 a17 a18 a19, b2 g23 0 0 0 0 0 0 0 0, b2 g180 t177 (wrap64 (a17 - 8)) (wrap64 ((wrap64 (a17 - 8)) + 1)) t346 0 0 0 0, b3 g354 a16 (wrap64 (a17 + 1))] w355) := ⟨HS.out.box hg hbox hb⟩; clear hg hbox hb))
      obtain ⟨t357, HA358, H⟩ := bind_some H
      refine (ratio_Mul.calls _ [a16, wrap64 (a17 + 1)] (some ⟨g354, 0, none⟩) 2 t357 _ ⟨Rd.lit (l := []) (xs := [a16, wrap64 (a17 + 1)]) HS.out 3 rfl (by simp)⟩ ⟨Sep.start _⟩ HA358).mono ?_
      rintro e_ w359 ⟨rfl, hS⟩
      replace HS : Aside0 (Sep (fps []) w [b1 g20 a16 a17 a18 a19, b2 g23 0 0 0 0 0 0 0 0, b2 g180 t177 (wrap64 (a17 - 8)) (wrap64 ((wrap64 (a17 - 8)) + 1)) t346 0 0 0 0, b3 g354 a16 (wrap64 (a17 + 1))] w359) := ⟨HS.out.call hS⟩
      clear hS
      have hc360 : w359.cell? ⟨g180, 5, none⟩ = some (.int .i64 0) := blk_cellv (HS.out.at2) 5 rfl
      have hz361 : w359.frozen? ⟨g180, 5, none⟩ = false := blk_fz (HS.out.at2) 5
      go_wp2_with (first | ((with_reducible refine gate_store (t := 3) (p := 45) rfl ?_); refine store_event (w1 := (World.setCell w359 ⟨g180, 5, none⟩ (.int .i64 t357))) rfl (t := 3) (p := 45) rfl rfl ?hr ?_; (case hr => first | (go_simp; done) | (go_simp; rfl)); intro w362 hst; clear hc360 hz361; have hq0 : Sep (fps []) w [b1 g20 a16 a17 a18 a19, b2 g23 0 0 0 0 0 0 0 0, b2 g180 t177 (wrap64 (a17 - 8)) (wrap64 ((wrap64 (a17 - 8)) + 1)) t346 0 t357 0 0, b3 g354 a16 (wrap64 (a17 + 1))] (World.setCell w359 ⟨g180, 5, none⟩ (.int .i64 t357)) := (HS.out).set1 (l1 := [b1 g20 a16 a17 a18 a19, b2 g23 0 0 0 0 0 0 0 0]) (l2 := [b3 g354 a16 (wrap64 (a17 + 1))]) 5 (.int .i64 t357); replace HS : Aside0 (Sep (fps []) w [b1 g20 a16 a17 a18 a19, b2 g23 0 0 0 0 0 0 0 0, b2 g180 t177 (wrap64 (a17 - 8)) (wrap64 ((wrap64 (a17 - 8)) + 1)) t346 0 t357 0 0, b3 g354 a16 (wrap64 (a17 + 1))] w362) := ⟨by rw [hst]; exact hq0⟩; clear hq0; clear hst; replace HS : Aside0 (Sep (fps []) w [b1 g20 a16 a17 a18 a19, b2 g23 0 0 0 0 0 0 0 0, b2 g180 t177 (wrap64 (a17 - 8)) (wrap64 ((wrap64 (a17 - 8)) + 1)) t346 0 t357 0 0] w362) := ⟨HS.out.sub (.cons_cons _ (.cons_cons _ (.cons_cons _ (.cons _ .slnil))))⟩; have hc363 : w362.cell? ⟨g180, 5, none⟩ = some (.int .i64 t357) := blk_cellv (HS.out.at2) 5 rfl) | ((with_reducible refine gate_dst (N := 48) rfl ?_); refine slice_on (n := 2) ?hg (N := 48) ?hd (cs := #[.int .i64 3, .int .i64 t357]) (t := 3) ?hr ?_; (case hd => rfl); (case hg => rfl); (case hr => first | (go_simp; done) | (go_simp; rfl)); intro g364 hg w365 hbox hb; clear hc363; replace HS : Aside0 (Sep (fps []) w [b1 g20 a16 a17 a18 a19, b2 g23 0 0 0 0 0 0 0 0, b2 g180 t177 (wrap64 (a17 - 8)) (wrap64 ((wrap64 (a17 - 8)) + 1)) t346 0 t357 0 0, b3 g364 3 t357] w365) := ⟨HS.out.box hg hbox hb⟩; clear hg hbox hb))
      obtain ⟨t367, HA368, H⟩ := bind_some H
      refine (ratio_Mul.calls _ [3, t357] (some ⟨g364, 0, none⟩) 2 t367 _ ⟨Rd.lit (l := []) (xs := [3, t357]) HS.out 3 rfl (by simp)⟩ ⟨Sep.start _⟩ HA368).mono ?_
      rintro e_ w369 ⟨rfl, hS⟩
      replace HS : Aside0 (Sep (fps []) w [b1 g20 a16 a17 a18 a19, b2 g23 0 0 0 0 0 0 0 0, b2 g180 t177 (wrap64 (a17 - 8)) (wrap64 ((wrap64 (a17 - 8)) + 1)) t346 0 t357 0 0, b3 g364 3 t357] w369) := ⟨HS.out.call hS⟩
      clear hS
      go_wp2_with (first | ((with_reducible refine gate_dst (N := 50) rfl ?_); refine slice_on (n := 2) ?hg (N := 50) ?hd (cs := #[.int .i64 t367, .int .i64 4]) (t := 3) ?hr ?_; (case hd => rfl); (case hg => rfl); (case hr => first | (go_simp; done) | (go_simp; rfl)); intro g370 hg w371 hbox hb; replace HS : Aside0 (Sep (fps []) w [b1 g20 a16 a17 a18 a19, b2 g23 0 0 0 0 0 0 0 0, b2 g180 t177 (wrap64 (a17 - 8)) (wrap64 ((wrap64 (a17 - 8)) + 1)) t346 0 t357 0 0, b3 g364 3 t357, b3 g370 t367 4] w371) := ⟨HS.out.box hg hbox hb⟩; clear hg hbox hb))
      obtain ⟨t373, HA374, H⟩ := bind_some H
      refine (ratio_Add.calls _ [t367, 4] (some ⟨g370, 0, none⟩) 2 t373 _ ⟨Rd.lit (l := []) (xs := [t367, 4]) HS.out 4 rfl (by simp)⟩ ⟨Sep.start _⟩ HA374).mono ?_
      rintro e_ w375 ⟨rfl, hS⟩
      replace HS : Aside0 (Sep (fps []) w [b1 g20 a16 a17 a18 a19, b2 g23 0 0 0 0 0 0 0 0, b2 g180 t177 (wrap64 (a17 - 8)) (wrap64 ((wrap64 (a17 - 8)) + 1)) t346 0 t357 0 0, b3 g364 3 t357, b3 g370 t367 4] w375) := ⟨HS.out.call hS⟩
      clear hS
      have hc376 : w375.cell? ⟨g180, 4, none⟩ = some (.int .i64 0) := blk_cellv (HS.out.at2) 4 rfl
      have hz377 : w375.frozen? ⟨g180, 4, none⟩ = false := blk_fz (HS.out.at2) 4
      go_wp2_with (first | ((with_reducible refine gate_store (t := 3) (p := 52) rfl ?_); refine store_event (w1 := (World.setCell w375 ⟨g180, 4, none⟩ (.int .i64 t373))) rfl (t := 3) (p := 52) rfl rfl ?hr ?_; (case hr => first | (go_simp; done) | (go_simp; rfl)); intro w378 hst; clear hc376 hz377; have hq0 : Sep (fps []) w [b1 g20 a16 a17 a18 a19, b2 g23 0 0 0 0 0 0 0 0, b2 g180 t177 (wrap64 (a17 - 8)) (wrap64 ((wrap64 (a17 - 8)) + 1)) t346 t373 t357 0 0, b3 g364 3 t357, b3 g370 t367 4] (World.setCell w375 ⟨g180, 4, none⟩ (.int .i64 t373)) := (HS.out).set1 (l1 := [b1 g20 a16 a17 a18 a19, b2 g23 0 0 0 0 0 0 0 0]) (l2 := [b3 g364 3 t357, b3 g370 t367 4]) 4 (.int .i64 t373); replace HS : Aside0 (Sep (fps []) w [b1 g20 a16 a17 a18 a19, b2 g23 0 0 0 0 0 0 0 0, b2 g180 t177 (wrap64 (a17 - 8)) (wrap64 ((wrap64 (a17 - 8)) + 1)) t346 t373 t357 0 0, b3 g364 3 t357, b3 g370 t367 4] w378) := ⟨by rw [hst]; exact hq0⟩; clear hq0; clear hst; replace HS : Aside0 (Sep (fps []) w [b1 g20 a16 a17 a18 a19, b2 g23 0 0 0 0 0 0 0 0, b2 g180 t177 (wrap64 (a17 - 8)) (wrap64 ((wrap64 (a17 - 8)) + 1)) t346 t373 t357 0 0] w378) := ⟨HS.out.sub (.cons_cons _ (.cons_cons _ (.cons_cons _ (.cons _ (.cons _ .slnil)))))⟩))
      obtain ⟨t398, HA399, H⟩ := bind_some H
      obtain ⟨t404, HA405, H⟩ := bind_some H
      obtain ⟨t410, HA411, H⟩ := bind_some H
      obtain ⟨t416, HA417, H⟩ := bind_some H
      go_cut [] (fun wc => ∃ (g401 : Nat) (g407 : Nat) (g413 : Nat), Aside0 (Sep (fps []) w [b1 g20 a16 a17 a18 a19, b2 g23 0 0 0 0 0 0 0 0, b2 g180 t177 (wrap64 (a17 - 8)) (wrap64 ((wrap64 (a17 - 8)) + 1)) t346 t373 t357 t416 0, b3 g401 2 t398, b3 g407 2 (wrap64 ((wrap64 (a17 - 8)) + 1)), b3 g413 t404 t410] wc))
      case first =>
        go_wp2_with fail
        refine start_ (n := 15) (S := (fun w' => w'.cell? ⟨g180, 4, none⟩ = some (.int .i64 t373) ∧ w'.cell? ⟨g20, 3, none⟩ = some (.int .i64 a19) ∧ w'.cell? ⟨g180, 2, none⟩ = some (.int .i64 (wrap64 ((wrap64 (a17 - 8)) + 1))))) (ds := []) #[false, false, false, false, false, false, false, false, false, false, false, false, false, false, false] (by kernel_rfl) rfl rfl (⟨blk_cellv ((HS.out.drew).at2) 4 rfl, blk_cellv ((HS.out.drew).at0) 3 rfl, blk_cellv ((HS.out.drew).at2) 2 rfl⟩) (fun hHeld => ?_)
        have HS_ := Aside0.mk HS.out.drew
        clear HS
        generalize World.drew _ = w424 at HS_ hHeld ⊢
        have HS := HS_
        clear HS_
        refine pure_ (i := 0) (N := some 53) (v := ?_) (a' := ?_) #[true, false, false, false, false, false, false, false, false, false, false, false, false, false, false] rfl rfl (by kernel_rfl) (fun _ _ _ h => h) (Or.inl ⟨by rfl, ?_⟩) ?_ ?_
        rotate_left
        · intro w'
          go_simp
          with_reducible rfl
        rotate_left
        · simp only [Act.put, List.setIfInBounds_toArray, List.set_cons_zero, List.set_cons_succ, i64_w, i32_w]
          rfl
        refine pure_ (i := 2) (N := some 55) (v := ?_) (a' := ?_) #[true, false, true, false, false, false, false, false, false, false, false, false, false, false, false] rfl rfl (by kernel_rfl) (fun _ _ _ h => h) (Or.inl ⟨by rfl, ?_⟩) ?_ ?_
        rotate_left
        · intro w'
          go_simp
          with_reducible rfl
        rotate_left
        · simp only [Act.put, List.setIfInBounds_toArray, List.set_cons_zero, List.set_cons_succ, i64_w, i32_w]
          rfl
        refine pure_ (i := 7) (N := some 60) (v := ?_) (a' := ?_) #[true, false, true, false, false, false, false, true, false, false, false, false, false, false, false] rfl rfl (by kernel_rfl) (fun _ _ _ h => h) (Or.inl ⟨by rfl, ?_⟩) ?_ ?_
        rotate_left
        · intro w'
          go_simp
          with_reducible rfl
        rotate_left
        · simp only [Act.put, List.setIfInBounds_toArray, List.set_cons_zero, List.set_cons_succ, i64_w, i32_w]
          rfl
        refine take_ (i := 1) (N := some 54) (v := ?_) (a' := ?_) #[true, true, true, false, false, false, false, true, false, false, false, false, false, false, false] rfl rfl (by kernel_rfl) (fun _ _ _ h => h) (Or.inl ⟨by rfl, ?_⟩) hHeld ?_ ?_
        rotate_left
        · rintro w' hS'
          obtain ⟨s0, s1, s2⟩ := hS'
          go_simp
          with_reducible rfl
        rotate_left
        · simp only [Act.put, List.setIfInBounds_toArray, List.set_cons_zero, List.set_cons_succ, i64_w, i32_w]
          rfl
        refine take_ (i := 3) (N := some 56) (v := ?_) (a' := ?_) #[true, true, true, true, false, false, false, true, false, false, false, false, false, false, false] rfl rfl (by kernel_rfl) (fun _ _ _ h => h) (Or.inl ⟨by rfl, ?_⟩) hHeld ?_ ?_
        rotate_left
        · rintro w' hS'
          obtain ⟨s0, s1, s2⟩ := hS'
          go_simp
          with_reducible rfl
        rotate_left
        · simp only [Act.put, List.setIfInBounds_toArray, List.set_cons_zero, List.set_cons_succ, i64_w, i32_w]
          rfl
        refine take_ (i := 8) (N := some 61) (v := ?_) (a' := ?_) #[true, true, true, true, false, false, false, true, true, false, false, false, false, false, false] rfl rfl (by kernel_rfl) (fun _ _ _ h => h) (Or.inl ⟨by rfl, ?_⟩) hHeld ?_ ?_
        rotate_left
        · rintro w' hS'
          obtain ⟨s0, s1, s2⟩ := hS'
          go_simp
          with_reducible rfl
        rotate_left
        · simp only [Act.put, List.setIfInBounds_toArray, List.set_cons_zero, List.set_cons_succ, i64_w, i32_w]
          rfl
        refine two_ (i := 4) (j := 9) (Ni := some 57) (Nj := some 62) #[true, true, true, true, true, false, false, true, true, false, false, false, false, false, false] #[true, true, true, true, false, false, false, true, true, true, false, false, false, false, false] rfl rfl rfl rfl (by kernel_rfl) (by decide) (by decide) (fun K hK => ?_) (fun K hK => ?_)
        · refine goes_ Try.func108 (by kernel_rfl) rfl #[.int .i64 t373, .int .i64 a19] (by rfl) rfl rfl (by (try simp only [List.map_toArray, List.map_cons, List.map_nil]); first | done | rfl) ?_
          refine (ratio_Up.calls t373 a19 t398 _ ⟨Sep.start _⟩ HA399).mono ?_
          rintro e_ w426 ⟨rfl, hS⟩
          replace HS : Aside0 (Sep (fps []) w [b1 g20 a16 a17 a18 a19, b2 g23 0 0 0 0 0 0 0 0, b2 g180 t177 (wrap64 (a17 - 8)) (wrap64 ((wrap64 (a17 - 8)) + 1)) t346 t373 t357 0 0] w426) := ⟨HS.out.call hS⟩
          clear hS
          refine ⟨_, rfl, ?_⟩
          refine hK.out _ _ (⟨blk_cellv (HS.out.at2) 4 rfl, blk_cellv (HS.out.at0) 3 rfl, blk_cellv (HS.out.at2) 2 rfl⟩) (fun hHeld => ?_)
          clear hK K
          refine norm_ (a' := ?_) ?_ ?_
          rotate_left
          · show Act.put _ (some 57) _ = _
            simp only [Act.put, List.setIfInBounds_toArray, List.set_cons_zero, List.set_cons_succ, i64_w, i32_w]
            rfl
          refine two_ (i := 5) (j := 9) (Ni := some 58) (Nj := some 62) #[true, true, true, true, true, true, false, true, true, false, false, false, false, false, false] #[true, true, true, true, true, false, false, true, true, true, false, false, false, false, false] rfl rfl rfl rfl (by kernel_rfl) (by decide) (by decide) (fun K hK => ?_) (fun K hK => ?_)
          · refine slice_step (n := 2) (by rfl) (N := 58) rfl (cs := #[.int .i64 2, .int .i64 t398]) (t := 3) ?hr ?_
            case hr => first | (go_simp; done) | (go_simp; rfl)
            intro g427 hg w428 hbox hb
            replace HS : Aside0 (Sep (fps []) w [b1 g20 a16 a17 a18 a19, b2 g23 0 0 0 0 0 0 0 0, b2 g180 t177 (wrap64 (a17 - 8)) (wrap64 ((wrap64 (a17 - 8)) + 1)) t346 t373 t357 0 0, b3 g427 2 t398] w428) := ⟨HS.out.box hg hbox hb⟩
            clear hg hbox hb
            refine hK.out _ _ (⟨blk_cellv (HS.out.at2) 4 rfl, blk_cellv (HS.out.at0) 3 rfl, blk_cellv (HS.out.at2) 2 rfl⟩) (fun hHeld => ?_)
            clear hK K
            refine norm_ (a' := ?_) ?_ ?_
            rotate_left
            · show Act.put _ (some 58) _ = _
              simp only [Act.put, List.setIfInBounds_toArray, List.set_cons_zero, List.set_cons_succ, i64_w, i32_w]
              rfl
            refine two_ (i := 6) (j := 9) (Ni := some 59) (Nj := some 62) #[true, true, true, true, true, true, true, true, true, false, false, false, false, false, false] #[true, true, true, true, true, true, false, true, true, true, false, false, false, false, false] rfl rfl rfl rfl (by kernel_rfl) (by decide) (by decide) (fun K hK => ?_) (fun K hK => ?_)
            · refine goes_ Try.func107 (by kernel_rfl) rfl #[.slice (some ⟨g427, 0, none⟩) 2 2] (by rfl) rfl rfl (by (try simp only [List.map_toArray, List.map_cons, List.map_nil]); first | done | rfl) ?_
              refine (ratio_Mul.calls _ [2, t398] (some ⟨g427, 0, none⟩) 2 t404 _ ⟨Rd.lit (l := []) (xs := [2, t398]) HS.out 3 rfl (by simp)⟩ ⟨Sep.start _⟩ HA405).mono ?_
              rintro e_ w431 ⟨rfl, hS⟩
              replace HS : Aside0 (Sep (fps []) w [b1 g20 a16 a17 a18 a19, b2 g23 0 0 0 0 0 0 0 0, b2 g180 t177 (wrap64 (a17 - 8)) (wrap64 ((wrap64 (a17 - 8)) + 1)) t346 t373 t357 0 0, b3 g427 2 t398] w431) := ⟨HS.out.call hS⟩
              clear hS
              refine ⟨_, rfl, ?_⟩
              refine hK.out _ _ (⟨blk_cellv (HS.out.at2) 4 rfl, blk_cellv (HS.out.at0) 3 rfl, blk_cellv (HS.out.at2) 2 rfl⟩) (fun hHeld => ?_)
              clear hK K
              refine norm_ (a' := ?_) ?_ ?_
              rotate_left
              · show Act.put _ (some 59) _ = _
                simp only [Act.put, List.setIfInBounds_toArray, List.set_cons_zero, List.set_cons_succ, i64_w, i32_w]
                rfl
              refine one_ (i := 9) (N := some 62) #[true, true, true, true, true, true, true, true, true, true, false, false, false, false, false] rfl rfl (by kernel_rfl) (by decide) (fun K hK => ?_)
              refine slice_step (n := 2) (by rfl) (N := 62) rfl (cs := #[.int .i64 2, .int .i64 (wrap64 ((wrap64 (a17 - 8)) + 1))]) (t := 3) ?hr ?_
              case hr => first | (go_simp; done) | (go_simp; rfl)
              intro g432 hg w433 hbox hb
              replace HS : Aside0 (Sep (fps []) w [b1 g20 a16 a17 a18 a19, b2 g23 0 0 0 0 0 0 0 0, b2 g180 t177 (wrap64 (a17 - 8)) (wrap64 ((wrap64 (a17 - 8)) + 1)) t346 t373 t357 0 0, b3 g427 2 t398, b3 g432 2 (wrap64 ((wrap64 (a17 - 8)) + 1))] w433) := ⟨HS.out.box hg hbox hb⟩
              clear hg hbox hb
              refine hK.out _ _ (⟨blk_cellv (HS.out.at2) 4 rfl, blk_cellv (HS.out.at0) 3 rfl, blk_cellv (HS.out.at2) 2 rfl⟩) (fun hHeld => ?_)
              clear hK K
              refine norm_ (a' := ?_) ?_ ?_
              rotate_left
              · show Act.put _ (some 62) _ = _
                simp only [Act.put, List.setIfInBounds_toArray, List.set_cons_zero, List.set_cons_succ, i64_w, i32_w]
                rfl
              refine one_ (i := 10) (N := some 63) #[true, true, true, true, true, true, true, true, true, true, true, false, false, false, false] rfl rfl (by kernel_rfl) (by decide) (fun K hK => ?_)
              refine goes_ Try.func107 (by kernel_rfl) rfl #[.slice (some ⟨g432, 0, none⟩) 2 2] (by rfl) rfl rfl (by (try simp only [List.map_toArray, List.map_cons, List.map_nil]); first | done | rfl) ?_
              refine (ratio_Mul.calls _ [2, wrap64 ((wrap64 (a17 - 8)) + 1)] (some ⟨g432, 0, none⟩) 2 t410 _ ⟨Rd.lit (l := []) (xs := [2, wrap64 ((wrap64 (a17 - 8)) + 1)]) HS.out 4 rfl (by simp)⟩ ⟨Sep.start _⟩ HA411).mono ?_
              rintro e_ w436 ⟨rfl, hS⟩
              replace HS : Aside0 (Sep (fps []) w [b1 g20 a16 a17 a18 a19, b2 g23 0 0 0 0 0 0 0 0, b2 g180 t177 (wrap64 (a17 - 8)) (wrap64 ((wrap64 (a17 - 8)) + 1)) t346 t373 t357 0 0, b3 g427 2 t398, b3 g432 2 (wrap64 ((wrap64 (a17 - 8)) + 1))] w436) := ⟨HS.out.call hS⟩
              clear hS
              refine ⟨_, rfl, ?_⟩
              refine hK.out _ _ (⟨blk_cellv (HS.out.at2) 4 rfl, blk_cellv (HS.out.at0) 3 rfl, blk_cellv (HS.out.at2) 2 rfl⟩) (fun hHeld => ?_)
              clear hK K
              refine norm_ (a' := ?_) ?_ ?_
              rotate_left
              · show Act.put _ (some 63) _ = _
                simp only [Act.put, List.setIfInBounds_toArray, List.set_cons_zero, List.set_cons_succ, i64_w, i32_w]
                rfl
              refine one_ (i := 11) (N := some 64) #[true, true, true, true, true, true, true, true, true, true, true, true, false, false, false] rfl rfl (by kernel_rfl) (by decide) (fun K hK => ?_)
              refine slice_step (n := 2) (by rfl) (N := 64) rfl (cs := #[.int .i64 t404, .int .i64 t410]) (t := 3) ?hr ?_
              case hr => first | (go_simp; done) | (go_simp; rfl)
              intro g437 hg w438 hbox hb
              replace HS : Aside0 (Sep (fps []) w [b1 g20 a16 a17 a18 a19, b2 g23 0 0 0 0 0 0 0 0, b2 g180 t177 (wrap64 (a17 - 8)) (wrap64 ((wrap64 (a17 - 8)) + 1)) t346 t373 t357 0 0, b3 g427 2 t398, b3 g432 2 (wrap64 ((wrap64 (a17 - 8)) + 1)), b3 g437 t404 t410] w438) := ⟨HS.out.box hg hbox hb⟩
              clear hg hbox hb
              refine hK.out _ _ (⟨blk_cellv (HS.out.at2) 4 rfl, blk_cellv (HS.out.at0) 3 rfl, blk_cellv (HS.out.at2) 2 rfl⟩) (fun hHeld => ?_)
              clear hK K
              refine norm_ (a' := ?_) ?_ ?_
              rotate_left
              · show Act.put _ (some 64) _ = _
                simp only [Act.put, List.setIfInBounds_toArray, List.set_cons_zero, List.set_cons_succ, i64_w, i32_w]
                rfl
              refine one_ (i := 12) (N := some 65) #[true, true, true, true, true, true, true, true, true, true, true, true, true, false, false] rfl rfl (by kernel_rfl) (by decide) (fun K hK => ?_)
              refine goes_ Try.func106 (by kernel_rfl) rfl #[.slice (some ⟨g437, 0, none⟩) 2 2] (by rfl) rfl rfl (by (try simp only [List.map_toArray, List.map_cons, List.map_nil]); first | done | rfl) ?_
              refine (ratio_Add.calls _ [t404, t410] (some ⟨g437, 0, none⟩) 2 t416 _ ⟨Rd.lit (l := []) (xs := [t404, t410]) HS.out 5 rfl (by simp)⟩ ⟨Sep.start _⟩ HA417).mono ?_
              rintro e_ w441 ⟨rfl, hS⟩
              replace HS : Aside0 (Sep (fps []) w [b1 g20 a16 a17 a18 a19, b2 g23 0 0 0 0 0 0 0 0, b2 g180 t177 (wrap64 (a17 - 8)) (wrap64 ((wrap64 (a17 - 8)) + 1)) t346 t373 t357 0 0, b3 g427 2 t398, b3 g432 2 (wrap64 ((wrap64 (a17 - 8)) + 1)), b3 g437 t404 t410] w441) := ⟨HS.out.call hS⟩
              clear hS
              refine ⟨_, rfl, ?_⟩
              refine hK.out _ _ (⟨blk_cellv (HS.out.at2) 4 rfl, blk_cellv (HS.out.at0) 3 rfl, blk_cellv (HS.out.at2) 2 rfl⟩) (fun hHeld => ?_)
              clear hK K
              refine norm_ (a' := ?_) ?_ ?_
              rotate_left
              · show Act.put _ (some 65) _ = _
                simp only [Act.put, List.setIfInBounds_toArray, List.set_cons_zero, List.set_cons_succ, i64_w, i32_w]
                rfl
              refine pure_ (i := 13) (N := some 66) (v := ?_) (a' := ?_) #[true, true, true, true, true, true, true, true, true, true, true, true, true, true, false] rfl rfl (by kernel_rfl) (fun _ _ _ h => h) (Or.inl ⟨by rfl, ?_⟩) ?_ ?_
              rotate_left
              · intro w'
                go_simp
                with_reducible rfl
              rotate_left
              · simp only [Act.put, List.setIfInBounds_toArray, List.set_cons_zero, List.set_cons_succ, i64_w, i32_w]
                rfl
              refine one_ (i := 14) (N := none) #[true, true, true, true, true, true, true, true, true, true, true, true, true, true, true] rfl rfl (by kernel_rfl) (by decide) (fun K hK => ?_)
              have hc443 := blk_cellv (v := .int .i64 0) (HS.out.at2) 6 rfl
              have hz444 := blk_fz (HS.out.at2) 6
              refine store_step (w1 := (World.setCell w441 ⟨g180, 6, none⟩ (.int .i64 t416))) (by rfl) rfl ?hr ?_
              case hr => first | (go_simp; done) | (go_simp; rfl)
              clear hc443 hz444
              intro w442 hst
              have hq0 : Sep (fps []) w [b1 g20 a16 a17 a18 a19, b2 g23 0 0 0 0 0 0 0 0, b2 g180 t177 (wrap64 (a17 - 8)) (wrap64 ((wrap64 (a17 - 8)) + 1)) t346 t373 t357 t416 0, b3 g427 2 t398, b3 g432 2 (wrap64 ((wrap64 (a17 - 8)) + 1)), b3 g437 t404 t410] (World.setCell w441 ⟨g180, 6, none⟩ (.int .i64 t416)) := (HS.out).set1 (l1 := [b1 g20 a16 a17 a18 a19, b2 g23 0 0 0 0 0 0 0 0]) (l2 := [b3 g427 2 t398, b3 g432 2 (wrap64 ((wrap64 (a17 - 8)) + 1)), b3 g437 t404 t410]) 6 (.int .i64 t416)
              have HS_ : Aside0 (Sep (fps []) w [b1 g20 a16 a17 a18 a19, b2 g23 0 0 0 0 0 0 0 0, b2 g180 t177 (wrap64 (a17 - 8)) (wrap64 ((wrap64 (a17 - 8)) + 1)) t346 t373 t357 t416 0, b3 g427 2 t398, b3 g432 2 (wrap64 ((wrap64 (a17 - 8)) + 1)), b3 g437 t404 t410] w442) := ⟨by rw [hst]; exact hq0⟩
              clear hq0
              clear HS hst
              have HS := HS_
              clear HS_
              refine hK.out _ _ (⟨blk_cellv (HS.out.at2) 4 rfl, blk_cellv (HS.out.at0) 3 rfl, blk_cellv (HS.out.at2) 2 rfl⟩) (fun hHeld => ?_)
              clear hK K
              refine done_ (by kernel_rfl) ?_
              go_wp2_with fail
              go_meet
              case rel => exact ⟨g427, g432, g437, ⟨((((((HS.out).front 5 (by simp)).front 5 (by simp)).front 5 (by simp)).front 5 (by simp)).front 5 (by simp)).front 5 (by simp)⟩⟩
            · refine slice_step (n := 2) (by rfl) (N := 62) rfl (cs := #[.int .i64 2, .int .i64 (wrap64 ((wrap64 (a17 - 8)) + 1))]) (t := 3) ?hr ?_
              case hr => first | (go_simp; done) | (go_simp; rfl)
              intro g445 hg w446 hbox hb
              replace HS : Aside0 (Sep (fps []) w [b1 g20 a16 a17 a18 a19, b2 g23 0 0 0 0 0 0 0 0, b2 g180 t177 (wrap64 (a17 - 8)) (wrap64 ((wrap64 (a17 - 8)) + 1)) t346 t373 t357 0 0, b3 g427 2 t398, b3 g445 2 (wrap64 ((wrap64 (a17 - 8)) + 1))] w446) := ⟨HS.out.box hg hbox hb⟩
              clear hg hbox hb
              refine hK.out _ _ (⟨blk_cellv (HS.out.at2) 4 rfl, blk_cellv (HS.out.at0) 3 rfl, blk_cellv (HS.out.at2) 2 rfl⟩) (fun hHeld => ?_)
              clear hK K
              refine norm_ (a' := ?_) ?_ ?_
              rotate_left
              · show Act.put _ (some 62) _ = _
                simp only [Act.put, List.setIfInBounds_toArray, List.set_cons_zero, List.set_cons_succ, i64_w, i32_w]
                rfl
              refine one_ (i := 6) (N := some 59) #[true, true, true, true, true, true, true, true, true, true, false, false, false, false, false] rfl rfl (by kernel_rfl) (by decide) (fun K hK => ?_)
              refine goes_ Try.func107 (by kernel_rfl) rfl #[.slice (some ⟨g427, 0, none⟩) 2 2] (by rfl) rfl rfl (by (try simp only [List.map_toArray, List.map_cons, List.map_nil]); first | done | rfl) ?_
              refine (ratio_Mul.calls _ [2, t398] (some ⟨g427, 0, none⟩) 2 t404 _ ⟨Rd.lit (l := []) (xs := [2, t398]) HS.out 3 rfl (by simp)⟩ ⟨Sep.start _⟩ HA405).mono ?_
              rintro e_ w449 ⟨rfl, hS⟩
              replace HS : Aside0 (Sep (fps []) w [b1 g20 a16 a17 a18 a19, b2 g23 0 0 0 0 0 0 0 0, b2 g180 t177 (wrap64 (a17 - 8)) (wrap64 ((wrap64 (a17 - 8)) + 1)) t346 t373 t357 0 0, b3 g427 2 t398, b3 g445 2 (wrap64 ((wrap64 (a17 - 8)) + 1))] w449) := ⟨HS.out.call hS⟩
              clear hS
              refine ⟨_, rfl, ?_⟩
              refine hK.out _ _ (⟨blk_cellv (HS.out.at2) 4 rfl, blk_cellv (HS.out.at0) 3 rfl, blk_cellv (HS.out.at2) 2 rfl⟩) (fun hHeld => ?_)
              clear hK K
              refine norm_ (a' := ?_) ?_ ?_
              rotate_left
              · show Act.put _ (some 59) _ = _
                simp only [Act.put, List.setIfInBounds_toArray, List.set_cons_zero, List.set_cons_succ, i64_w, i32_w]
                rfl
              refine one_ (i := 10) (N := some 63) #[true, true, true, true, true, true, true, true, true, true, true, false, false, false, false] rfl rfl (by kernel_rfl) (by decide) (fun K hK => ?_)
              refine goes_ Try.func107 (by kernel_rfl) rfl #[.slice (some ⟨g445, 0, none⟩) 2 2] (by rfl) rfl rfl (by (try simp only [List.map_toArray, List.map_cons, List.map_nil]); first | done | rfl) ?_
              refine (ratio_Mul.calls _ [2, wrap64 ((wrap64 (a17 - 8)) + 1)] (some ⟨g445, 0, none⟩) 2 t410 _ ⟨Rd.lit (l := []) (xs := [2, wrap64 ((wrap64 (a17 - 8)) + 1)]) HS.out 4 rfl (by simp)⟩ ⟨Sep.start _⟩ HA411).mono ?_
              rintro e_ w451 ⟨rfl, hS⟩
              replace HS : Aside0 (Sep (fps []) w [b1 g20 a16 a17 a18 a19, b2 g23 0 0 0 0 0 0 0 0, b2 g180 t177 (wrap64 (a17 - 8)) (wrap64 ((wrap64 (a17 - 8)) + 1)) t346 t373 t357 0 0, b3 g427 2 t398, b3 g445 2 (wrap64 ((wrap64 (a17 - 8)) + 1))] w451) := ⟨HS.out.call hS⟩
              clear hS
              refine ⟨_, rfl, ?_⟩
              refine hK.out _ _ (⟨blk_cellv (HS.out.at2) 4 rfl, blk_cellv (HS.out.at0) 3 rfl, blk_cellv (HS.out.at2) 2 rfl⟩) (fun hHeld => ?_)
              clear hK K
              refine norm_ (a' := ?_) ?_ ?_
              rotate_left
              · show Act.put _ (some 63) _ = _
                simp only [Act.put, List.setIfInBounds_toArray, List.set_cons_zero, List.set_cons_succ, i64_w, i32_w]
                rfl
              refine one_ (i := 11) (N := some 64) #[true, true, true, true, true, true, true, true, true, true, true, true, false, false, false] rfl rfl (by kernel_rfl) (by decide) (fun K hK => ?_)
              refine slice_step (n := 2) (by rfl) (N := 64) rfl (cs := #[.int .i64 t404, .int .i64 t410]) (t := 3) ?hr ?_
              case hr => first | (go_simp; done) | (go_simp; rfl)
              intro g452 hg w453 hbox hb
              replace HS : Aside0 (Sep (fps []) w [b1 g20 a16 a17 a18 a19, b2 g23 0 0 0 0 0 0 0 0, b2 g180 t177 (wrap64 (a17 - 8)) (wrap64 ((wrap64 (a17 - 8)) + 1)) t346 t373 t357 0 0, b3 g427 2 t398, b3 g445 2 (wrap64 ((wrap64 (a17 - 8)) + 1)), b3 g452 t404 t410] w453) := ⟨HS.out.box hg hbox hb⟩
              clear hg hbox hb
              refine hK.out _ _ (⟨blk_cellv (HS.out.at2) 4 rfl, blk_cellv (HS.out.at0) 3 rfl, blk_cellv (HS.out.at2) 2 rfl⟩) (fun hHeld => ?_)
              clear hK K
              refine norm_ (a' := ?_) ?_ ?_
              rotate_left
              · show Act.put _ (some 64) _ = _
                simp only [Act.put, List.setIfInBounds_toArray, List.set_cons_zero, List.set_cons_succ, i64_w, i32_w]
                rfl
              refine one_ (i := 12) (N := some 65) #[true, true, true, true, true, true, true, true, true, true, true, true, true, false, false] rfl rfl (by kernel_rfl) (by decide) (fun K hK => ?_)
              refine goes_ Try.func106 (by kernel_rfl) rfl #[.slice (some ⟨g452, 0, none⟩) 2 2] (by rfl) rfl rfl (by (try simp only [List.map_toArray, List.map_cons, List.map_nil]); first | done | rfl) ?_
              refine (ratio_Add.calls _ [t404, t410] (some ⟨g452, 0, none⟩) 2 t416 _ ⟨Rd.lit (l := []) (xs := [t404, t410]) HS.out 5 rfl (by simp)⟩ ⟨Sep.start _⟩ HA417).mono ?_
              rintro e_ w456 ⟨rfl, hS⟩
              replace HS : Aside0 (Sep (fps []) w [b1 g20 a16 a17 a18 a19, b2 g23 0 0 0 0 0 0 0 0, b2 g180 t177 (wrap64 (a17 - 8)) (wrap64 ((wrap64 (a17 - 8)) + 1)) t346 t373 t357 0 0, b3 g427 2 t398, b3 g445 2 (wrap64 ((wrap64 (a17 - 8)) + 1)), b3 g452 t404 t410] w456) := ⟨HS.out.call hS⟩
              clear hS
              refine ⟨_, rfl, ?_⟩
              refine hK.out _ _ (⟨blk_cellv (HS.out.at2) 4 rfl, blk_cellv (HS.out.at0) 3 rfl, blk_cellv (HS.out.at2) 2 rfl⟩) (fun hHeld => ?_)
              clear hK K
              refine norm_ (a' := ?_) ?_ ?_
              rotate_left
              · show Act.put _ (some 65) _ = _
                simp only [Act.put, List.setIfInBounds_toArray, List.set_cons_zero, List.set_cons_succ, i64_w, i32_w]
                rfl
              refine pure_ (i := 13) (N := some 66) (v := ?_) (a' := ?_) #[true, true, true, true, true, true, true, true, true, true, true, true, true, true, false] rfl rfl (by kernel_rfl) (fun _ _ _ h => h) (Or.inl ⟨by rfl, ?_⟩) ?_ ?_
              rotate_left
              · intro w'
                go_simp
                with_reducible rfl
              rotate_left
              · simp only [Act.put, List.setIfInBounds_toArray, List.set_cons_zero, List.set_cons_succ, i64_w, i32_w]
                rfl
              refine one_ (i := 14) (N := none) #[true, true, true, true, true, true, true, true, true, true, true, true, true, true, true] rfl rfl (by kernel_rfl) (by decide) (fun K hK => ?_)
              have hc458 := blk_cellv (v := .int .i64 0) (HS.out.at2) 6 rfl
              have hz459 := blk_fz (HS.out.at2) 6
              refine store_step (w1 := (World.setCell w456 ⟨g180, 6, none⟩ (.int .i64 t416))) (by rfl) rfl ?hr ?_
              case hr => first | (go_simp; done) | (go_simp; rfl)
              clear hc458 hz459
              intro w457 hst
              have hq0 : Sep (fps []) w [b1 g20 a16 a17 a18 a19, b2 g23 0 0 0 0 0 0 0 0, b2 g180 t177 (wrap64 (a17 - 8)) (wrap64 ((wrap64 (a17 - 8)) + 1)) t346 t373 t357 t416 0, b3 g427 2 t398, b3 g445 2 (wrap64 ((wrap64 (a17 - 8)) + 1)), b3 g452 t404 t410] (World.setCell w456 ⟨g180, 6, none⟩ (.int .i64 t416)) := (HS.out).set1 (l1 := [b1 g20 a16 a17 a18 a19, b2 g23 0 0 0 0 0 0 0 0]) (l2 := [b3 g427 2 t398, b3 g445 2 (wrap64 ((wrap64 (a17 - 8)) + 1)), b3 g452 t404 t410]) 6 (.int .i64 t416)
              have HS_ : Aside0 (Sep (fps []) w [b1 g20 a16 a17 a18 a19, b2 g23 0 0 0 0 0 0 0 0, b2 g180 t177 (wrap64 (a17 - 8)) (wrap64 ((wrap64 (a17 - 8)) + 1)) t346 t373 t357 t416 0, b3 g427 2 t398, b3 g445 2 (wrap64 ((wrap64 (a17 - 8)) + 1)), b3 g452 t404 t410] w457) := ⟨by rw [hst]; exact hq0⟩
              clear hq0
              clear HS hst
              have HS := HS_
              clear HS_
              refine hK.out _ _ (⟨blk_cellv (HS.out.at2) 4 rfl, blk_cellv (HS.out.at0) 3 rfl, blk_cellv (HS.out.at2) 2 rfl⟩) (fun hHeld => ?_)
              clear hK K
              refine done_ (by kernel_rfl) ?_
              go_wp2_with fail
              go_meet
              case rel => exact ⟨g427, g445, g452, ⟨((((((HS.out).front 5 (by simp)).front 5 (by simp)).front 5 (by simp)).front 5 (by simp)).front 5 (by simp)).front 5 (by simp)⟩⟩
          · refine slice_step (n := 2) (by rfl) (N := 62) rfl (cs := #[.int .i64 2, .int .i64 (wrap64 ((wrap64 (a17 - 8)) + 1))]) (t := 3) ?hr ?_
            case hr => first | (go_simp; done) | (go_simp; rfl)
            intro g460 hg w461 hbox hb
            replace HS : Aside0 (Sep (fps []) w [b1 g20 a16 a17 a18 a19, b2 g23 0 0 0 0 0 0 0 0, b2 g180 t177 (wrap64 (a17 - 8)) (wrap64 ((wrap64 (a17 - 8)) + 1)) t346 t373 t357 0 0, b3 g460 2 (wrap64 ((wrap64 (a17 - 8)) + 1))] w461) := ⟨HS.out.box hg hbox hb⟩
            clear hg hbox hb
            refine hK.out _ _ (⟨blk_cellv (HS.out.at2) 4 rfl, blk_cellv (HS.out.at0) 3 rfl, blk_cellv (HS.out.at2) 2 rfl⟩) (fun hHeld => ?_)
            clear hK K
            refine norm_ (a' := ?_) ?_ ?_
            rotate_left
            · show Act.put _ (some 62) _ = _
              simp only [Act.put, List.setIfInBounds_toArray, List.set_cons_zero, List.set_cons_succ, i64_w, i32_w]
              rfl
            refine one_ (i := 5) (N := some 58) #[true, true, true, true, true, true, false, true, true, true, false, false, false, false, false] rfl rfl (by kernel_rfl) (by decide) (fun K hK => ?_)
            refine slice_step (n := 2) (by rfl) (N := 58) rfl (cs := #[.int .i64 2, .int .i64 t398]) (t := 3) ?hr ?_
            case hr => first | (go_simp; done) | (go_simp; rfl)
            intro g463 hg w464 hbox hb
            replace HS : Aside0 (Sep (fps []) w [b1 g20 a16 a17 a18 a19, b2 g23 0 0 0 0 0 0 0 0, b2 g180 t177 (wrap64 (a17 - 8)) (wrap64 ((wrap64 (a17 - 8)) + 1)) t346 t373 t357 0 0, b3 g460 2 (wrap64 ((wrap64 (a17 - 8)) + 1)), b3 g463 2 t398] w464) := ⟨HS.out.box hg hbox hb⟩
            clear hg hbox hb
            refine hK.out _ _ (⟨blk_cellv (HS.out.at2) 4 rfl, blk_cellv (HS.out.at0) 3 rfl, blk_cellv (HS.out.at2) 2 rfl⟩) (fun hHeld => ?_)
            clear hK K
            refine norm_ (a' := ?_) ?_ ?_
            rotate_left
            · show Act.put _ (some 58) _ = _
              simp only [Act.put, List.setIfInBounds_toArray, List.set_cons_zero, List.set_cons_succ, i64_w, i32_w]
              rfl
            refine one_ (i := 6) (N := some 59) #[true, true, true, true, true, true, true, true, true, true, false, false, false, false, false] rfl rfl (by kernel_rfl) (by decide) (fun K hK => ?_)
            refine goes_ Try.func107 (by kernel_rfl) rfl #[.slice (some ⟨g463, 0, none⟩) 2 2] (by rfl) rfl rfl (by (try simp only [List.map_toArray, List.map_cons, List.map_nil]); first | done | rfl) ?_
            refine (ratio_Mul.calls _ [2, t398] (some ⟨g463, 0, none⟩) 2 t404 _ ⟨Rd.lit (l := []) (xs := [2, t398]) HS.out 4 rfl (by simp)⟩ ⟨Sep.start _⟩ HA405).mono ?_
            rintro e_ w467 ⟨rfl, hS⟩
            replace HS : Aside0 (Sep (fps []) w [b1 g20 a16 a17 a18 a19, b2 g23 0 0 0 0 0 0 0 0, b2 g180 t177 (wrap64 (a17 - 8)) (wrap64 ((wrap64 (a17 - 8)) + 1)) t346 t373 t357 0 0, b3 g460 2 (wrap64 ((wrap64 (a17 - 8)) + 1)), b3 g463 2 t398] w467) := ⟨HS.out.call hS⟩
            clear hS
            refine ⟨_, rfl, ?_⟩
            refine hK.out _ _ (⟨blk_cellv (HS.out.at2) 4 rfl, blk_cellv (HS.out.at0) 3 rfl, blk_cellv (HS.out.at2) 2 rfl⟩) (fun hHeld => ?_)
            clear hK K
            refine norm_ (a' := ?_) ?_ ?_
            rotate_left
            · show Act.put _ (some 59) _ = _
              simp only [Act.put, List.setIfInBounds_toArray, List.set_cons_zero, List.set_cons_succ, i64_w, i32_w]
              rfl
            refine one_ (i := 10) (N := some 63) #[true, true, true, true, true, true, true, true, true, true, true, false, false, false, false] rfl rfl (by kernel_rfl) (by decide) (fun K hK => ?_)
            refine goes_ Try.func107 (by kernel_rfl) rfl #[.slice (some ⟨g460, 0, none⟩) 2 2] (by rfl) rfl rfl (by (try simp only [List.map_toArray, List.map_cons, List.map_nil]); first | done | rfl) ?_
            refine (ratio_Mul.calls _ [2, wrap64 ((wrap64 (a17 - 8)) + 1)] (some ⟨g460, 0, none⟩) 2 t410 _ ⟨Rd.lit (l := []) (xs := [2, wrap64 ((wrap64 (a17 - 8)) + 1)]) HS.out 3 rfl (by simp)⟩ ⟨Sep.start _⟩ HA411).mono ?_
            rintro e_ w469 ⟨rfl, hS⟩
            replace HS : Aside0 (Sep (fps []) w [b1 g20 a16 a17 a18 a19, b2 g23 0 0 0 0 0 0 0 0, b2 g180 t177 (wrap64 (a17 - 8)) (wrap64 ((wrap64 (a17 - 8)) + 1)) t346 t373 t357 0 0, b3 g460 2 (wrap64 ((wrap64 (a17 - 8)) + 1)), b3 g463 2 t398] w469) := ⟨HS.out.call hS⟩
            clear hS
            refine ⟨_, rfl, ?_⟩
            refine hK.out _ _ (⟨blk_cellv (HS.out.at2) 4 rfl, blk_cellv (HS.out.at0) 3 rfl, blk_cellv (HS.out.at2) 2 rfl⟩) (fun hHeld => ?_)
            clear hK K
            refine norm_ (a' := ?_) ?_ ?_
            rotate_left
            · show Act.put _ (some 63) _ = _
              simp only [Act.put, List.setIfInBounds_toArray, List.set_cons_zero, List.set_cons_succ, i64_w, i32_w]
              rfl
            refine one_ (i := 11) (N := some 64) #[true, true, true, true, true, true, true, true, true, true, true, true, false, false, false] rfl rfl (by kernel_rfl) (by decide) (fun K hK => ?_)
            refine slice_step (n := 2) (by rfl) (N := 64) rfl (cs := #[.int .i64 t404, .int .i64 t410]) (t := 3) ?hr ?_
            case hr => first | (go_simp; done) | (go_simp; rfl)
            intro g470 hg w471 hbox hb
            replace HS : Aside0 (Sep (fps []) w [b1 g20 a16 a17 a18 a19, b2 g23 0 0 0 0 0 0 0 0, b2 g180 t177 (wrap64 (a17 - 8)) (wrap64 ((wrap64 (a17 - 8)) + 1)) t346 t373 t357 0 0, b3 g460 2 (wrap64 ((wrap64 (a17 - 8)) + 1)), b3 g463 2 t398, b3 g470 t404 t410] w471) := ⟨HS.out.box hg hbox hb⟩
            clear hg hbox hb
            refine hK.out _ _ (⟨blk_cellv (HS.out.at2) 4 rfl, blk_cellv (HS.out.at0) 3 rfl, blk_cellv (HS.out.at2) 2 rfl⟩) (fun hHeld => ?_)
            clear hK K
            refine norm_ (a' := ?_) ?_ ?_
            rotate_left
            · show Act.put _ (some 64) _ = _
              simp only [Act.put, List.setIfInBounds_toArray, List.set_cons_zero, List.set_cons_succ, i64_w, i32_w]
              rfl
            refine one_ (i := 12) (N := some 65) #[true, true, true, true, true, true, true, true, true, true, true, true, true, false, false] rfl rfl (by kernel_rfl) (by decide) (fun K hK => ?_)
            refine goes_ Try.func106 (by kernel_rfl) rfl #[.slice (some ⟨g470, 0, none⟩) 2 2] (by rfl) rfl rfl (by (try simp only [List.map_toArray, List.map_cons, List.map_nil]); first | done | rfl) ?_
            refine (ratio_Add.calls _ [t404, t410] (some ⟨g470, 0, none⟩) 2 t416 _ ⟨Rd.lit (l := []) (xs := [t404, t410]) HS.out 5 rfl (by simp)⟩ ⟨Sep.start _⟩ HA417).mono ?_
            rintro e_ w474 ⟨rfl, hS⟩
            replace HS : Aside0 (Sep (fps []) w [b1 g20 a16 a17 a18 a19, b2 g23 0 0 0 0 0 0 0 0, b2 g180 t177 (wrap64 (a17 - 8)) (wrap64 ((wrap64 (a17 - 8)) + 1)) t346 t373 t357 0 0, b3 g460 2 (wrap64 ((wrap64 (a17 - 8)) + 1)), b3 g463 2 t398, b3 g470 t404 t410] w474) := ⟨HS.out.call hS⟩
            clear hS
            refine ⟨_, rfl, ?_⟩
            refine hK.out _ _ (⟨blk_cellv (HS.out.at2) 4 rfl, blk_cellv (HS.out.at0) 3 rfl, blk_cellv (HS.out.at2) 2 rfl⟩) (fun hHeld => ?_)
            clear hK K
            refine norm_ (a' := ?_) ?_ ?_
            rotate_left
            · show Act.put _ (some 65) _ = _
              simp only [Act.put, List.setIfInBounds_toArray, List.set_cons_zero, List.set_cons_succ, i64_w, i32_w]
              rfl
            refine pure_ (i := 13) (N := some 66) (v := ?_) (a' := ?_) #[true, true, true, true, true, true, true, true, true, true, true, true, true, true, false] rfl rfl (by kernel_rfl) (fun _ _ _ h => h) (Or.inl ⟨by rfl, ?_⟩) ?_ ?_
            rotate_left
            · intro w'
              go_simp
              with_reducible rfl
            rotate_left
            · simp only [Act.put, List.setIfInBounds_toArray, List.set_cons_zero, List.set_cons_succ, i64_w, i32_w]
              rfl
            refine one_ (i := 14) (N := none) #[true, true, true, true, true, true, true, true, true, true, true, true, true, true, true] rfl rfl (by kernel_rfl) (by decide) (fun K hK => ?_)
            have hc476 := blk_cellv (v := .int .i64 0) (HS.out.at2) 6 rfl
            have hz477 := blk_fz (HS.out.at2) 6
            refine store_step (w1 := (World.setCell w474 ⟨g180, 6, none⟩ (.int .i64 t416))) (by rfl) rfl ?hr ?_
            case hr => first | (go_simp; done) | (go_simp; rfl)
            clear hc476 hz477
            intro w475 hst
            have hq0 : Sep (fps []) w [b1 g20 a16 a17 a18 a19, b2 g23 0 0 0 0 0 0 0 0, b2 g180 t177 (wrap64 (a17 - 8)) (wrap64 ((wrap64 (a17 - 8)) + 1)) t346 t373 t357 t416 0, b3 g460 2 (wrap64 ((wrap64 (a17 - 8)) + 1)), b3 g463 2 t398, b3 g470 t404 t410] (World.setCell w474 ⟨g180, 6, none⟩ (.int .i64 t416)) := (HS.out).set1 (l1 := [b1 g20 a16 a17 a18 a19, b2 g23 0 0 0 0 0 0 0 0]) (l2 := [b3 g460 2 (wrap64 ((wrap64 (a17 - 8)) + 1)), b3 g463 2 t398, b3 g470 t404 t410]) 6 (.int .i64 t416)
            have HS_ : Aside0 (Sep (fps []) w [b1 g20 a16 a17 a18 a19, b2 g23 0 0 0 0 0 0 0 0, b2 g180 t177 (wrap64 (a17 - 8)) (wrap64 ((wrap64 (a17 - 8)) + 1)) t346 t373 t357 t416 0, b3 g460 2 (wrap64 ((wrap64 (a17 - 8)) + 1)), b3 g463 2 t398, b3 g470 t404 t410] w475) := ⟨by rw [hst]; exact hq0⟩
            clear hq0
            clear HS hst
            have HS := HS_
            clear HS_
            refine hK.out _ _ (⟨blk_cellv (HS.out.at2) 4 rfl, blk_cellv (HS.out.at0) 3 rfl, blk_cellv (HS.out.at2) 2 rfl⟩) (fun hHeld => ?_)
            clear hK K
            refine done_ (by kernel_rfl) ?_
            go_wp2_with fail
            go_meet
            case rel => exact ⟨g463, g460, g470, ⟨((((((HS.out).front 5 (by simp)).front 4 (by simp)).front 5 (by simp)).front 5 (by simp)).front 5 (by simp)).front 5 (by simp)⟩⟩
        · refine slice_step (n := 2) (by rfl) (N := 62) rfl (cs := #[.int .i64 2, .int .i64 (wrap64 ((wrap64 (a17 - 8)) + 1))]) (t := 3) ?hr ?_
          case hr => first | (go_simp; done) | (go_simp; rfl)
          intro g478 hg w479 hbox hb
          replace HS : Aside0 (Sep (fps []) w [b1 g20 a16 a17 a18 a19, b2 g23 0 0 0 0 0 0 0 0, b2 g180 t177 (wrap64 (a17 - 8)) (wrap64 ((wrap64 (a17 - 8)) + 1)) t346 t373 t357 0 0, b3 g478 2 (wrap64 ((wrap64 (a17 - 8)) + 1))] w479) := ⟨HS.out.box hg hbox hb⟩
          clear hg hbox hb
          refine hK.out _ _ (⟨blk_cellv (HS.out.at2) 4 rfl, blk_cellv (HS.out.at0) 3 rfl, blk_cellv (HS.out.at2) 2 rfl⟩) (fun hHeld => ?_)
          clear hK K
          refine norm_ (a' := ?_) ?_ ?_
          rotate_left
          · show Act.put _ (some 62) _ = _
            simp only [Act.put, List.setIfInBounds_toArray, List.set_cons_zero, List.set_cons_succ, i64_w, i32_w]
            rfl
          refine one_ (i := 4) (N := some 57) #[true, true, true, true, true, false, false, true, true, true, false, false, false, false, false] rfl rfl (by kernel_rfl) (by decide) (fun K hK => ?_)
          refine goes_ Try.func108 (by kernel_rfl) rfl #[.int .i64 t373, .int .i64 a19] (by rfl) rfl rfl (by (try simp only [List.map_toArray, List.map_cons, List.map_nil]); first | done | rfl) ?_
          refine (ratio_Up.calls t373 a19 t398 _ ⟨Sep.start _⟩ HA399).mono ?_
          rintro e_ w482 ⟨rfl, hS⟩
          replace HS : Aside0 (Sep (fps []) w [b1 g20 a16 a17 a18 a19, b2 g23 0 0 0 0 0 0 0 0, b2 g180 t177 (wrap64 (a17 - 8)) (wrap64 ((wrap64 (a17 - 8)) + 1)) t346 t373 t357 0 0, b3 g478 2 (wrap64 ((wrap64 (a17 - 8)) + 1))] w482) := ⟨HS.out.call hS⟩
          clear hS
          refine ⟨_, rfl, ?_⟩
          refine hK.out _ _ (⟨blk_cellv (HS.out.at2) 4 rfl, blk_cellv (HS.out.at0) 3 rfl, blk_cellv (HS.out.at2) 2 rfl⟩) (fun hHeld => ?_)
          clear hK K
          refine norm_ (a' := ?_) ?_ ?_
          rotate_left
          · show Act.put _ (some 57) _ = _
            simp only [Act.put, List.setIfInBounds_toArray, List.set_cons_zero, List.set_cons_succ, i64_w, i32_w]
            rfl
          refine one_ (i := 5) (N := some 58) #[true, true, true, true, true, true, false, true, true, true, false, false, false, false, false] rfl rfl (by kernel_rfl) (by decide) (fun K hK => ?_)
          refine slice_step (n := 2) (by rfl) (N := 58) rfl (cs := #[.int .i64 2, .int .i64 t398]) (t := 3) ?hr ?_
          case hr => first | (go_simp; done) | (go_simp; rfl)
          intro g483 hg w484 hbox hb
          replace HS : Aside0 (Sep (fps []) w [b1 g20 a16 a17 a18 a19, b2 g23 0 0 0 0 0 0 0 0, b2 g180 t177 (wrap64 (a17 - 8)) (wrap64 ((wrap64 (a17 - 8)) + 1)) t346 t373 t357 0 0, b3 g478 2 (wrap64 ((wrap64 (a17 - 8)) + 1)), b3 g483 2 t398] w484) := ⟨HS.out.box hg hbox hb⟩
          clear hg hbox hb
          refine hK.out _ _ (⟨blk_cellv (HS.out.at2) 4 rfl, blk_cellv (HS.out.at0) 3 rfl, blk_cellv (HS.out.at2) 2 rfl⟩) (fun hHeld => ?_)
          clear hK K
          refine norm_ (a' := ?_) ?_ ?_
          rotate_left
          · show Act.put _ (some 58) _ = _
            simp only [Act.put, List.setIfInBounds_toArray, List.set_cons_zero, List.set_cons_succ, i64_w, i32_w]
            rfl
          refine one_ (i := 6) (N := some 59) #[true, true, true, true, true, true, true, true, true, true, false, false, false, false, false] rfl rfl (by kernel_rfl) (by decide) (fun K hK => ?_)
          refine goes_ Try.func107 (by kernel_rfl) rfl #[.slice (some ⟨g483, 0, none⟩) 2 2] (by rfl) rfl rfl (by (try simp only [List.map_toArray, List.map_cons, List.map_nil]); first | done | rfl) ?_
          refine (ratio_Mul.calls _ [2, t398] (some ⟨g483, 0, none⟩) 2 t404 _ ⟨Rd.lit (l := []) (xs := [2, t398]) HS.out 4 rfl (by simp)⟩ ⟨Sep.start _⟩ HA405).mono ?_
          rintro e_ w487 ⟨rfl, hS⟩
          replace HS : Aside0 (Sep (fps []) w [b1 g20 a16 a17 a18 a19, b2 g23 0 0 0 0 0 0 0 0, b2 g180 t177 (wrap64 (a17 - 8)) (wrap64 ((wrap64 (a17 - 8)) + 1)) t346 t373 t357 0 0, b3 g478 2 (wrap64 ((wrap64 (a17 - 8)) + 1)), b3 g483 2 t398] w487) := ⟨HS.out.call hS⟩
          clear hS
          refine ⟨_, rfl, ?_⟩
          refine hK.out _ _ (⟨blk_cellv (HS.out.at2) 4 rfl, blk_cellv (HS.out.at0) 3 rfl, blk_cellv (HS.out.at2) 2 rfl⟩) (fun hHeld => ?_)
          clear hK K
          refine norm_ (a' := ?_) ?_ ?_
          rotate_left
          · show Act.put _ (some 59) _ = _
            simp only [Act.put, List.setIfInBounds_toArray, List.set_cons_zero, List.set_cons_succ, i64_w, i32_w]
            rfl
          refine one_ (i := 10) (N := some 63) #[true, true, true, true, true, true, true, true, true, true, true, false, false, false, false] rfl rfl (by kernel_rfl) (by decide) (fun K hK => ?_)
          refine goes_ Try.func107 (by kernel_rfl) rfl #[.slice (some ⟨g478, 0, none⟩) 2 2] (by rfl) rfl rfl (by (try simp only [List.map_toArray, List.map_cons, List.map_nil]); first | done | rfl) ?_
          refine (ratio_Mul.calls _ [2, wrap64 ((wrap64 (a17 - 8)) + 1)] (some ⟨g478, 0, none⟩) 2 t410 _ ⟨Rd.lit (l := []) (xs := [2, wrap64 ((wrap64 (a17 - 8)) + 1)]) HS.out 3 rfl (by simp)⟩ ⟨Sep.start _⟩ HA411).mono ?_
          rintro e_ w489 ⟨rfl, hS⟩
          replace HS : Aside0 (Sep (fps []) w [b1 g20 a16 a17 a18 a19, b2 g23 0 0 0 0 0 0 0 0, b2 g180 t177 (wrap64 (a17 - 8)) (wrap64 ((wrap64 (a17 - 8)) + 1)) t346 t373 t357 0 0, b3 g478 2 (wrap64 ((wrap64 (a17 - 8)) + 1)), b3 g483 2 t398] w489) := ⟨HS.out.call hS⟩
          clear hS
          refine ⟨_, rfl, ?_⟩
          refine hK.out _ _ (⟨blk_cellv (HS.out.at2) 4 rfl, blk_cellv (HS.out.at0) 3 rfl, blk_cellv (HS.out.at2) 2 rfl⟩) (fun hHeld => ?_)
          clear hK K
          refine norm_ (a' := ?_) ?_ ?_
          rotate_left
          · show Act.put _ (some 63) _ = _
            simp only [Act.put, List.setIfInBounds_toArray, List.set_cons_zero, List.set_cons_succ, i64_w, i32_w]
            rfl
          refine one_ (i := 11) (N := some 64) #[true, true, true, true, true, true, true, true, true, true, true, true, false, false, false] rfl rfl (by kernel_rfl) (by decide) (fun K hK => ?_)
          refine slice_step (n := 2) (by rfl) (N := 64) rfl (cs := #[.int .i64 t404, .int .i64 t410]) (t := 3) ?hr ?_
          case hr => first | (go_simp; done) | (go_simp; rfl)
          intro g490 hg w491 hbox hb
          replace HS : Aside0 (Sep (fps []) w [b1 g20 a16 a17 a18 a19, b2 g23 0 0 0 0 0 0 0 0, b2 g180 t177 (wrap64 (a17 - 8)) (wrap64 ((wrap64 (a17 - 8)) + 1)) t346 t373 t357 0 0, b3 g478 2 (wrap64 ((wrap64 (a17 - 8)) + 1)), b3 g483 2 t398, b3 g490 t404 t410] w491) := ⟨HS.out.box hg hbox hb⟩
          clear hg hbox hb
          refine hK.out _ _ (⟨blk_cellv (HS.out.at2) 4 rfl, blk_cellv (HS.out.at0) 3 rfl, blk_cellv (HS.out.at2) 2 rfl⟩) (fun hHeld => ?_)
          clear hK K
          refine norm_ (a' := ?_) ?_ ?_
          rotate_left
          · show Act.put _ (some 64) _ = _
            simp only [Act.put, List.setIfInBounds_toArray, List.set_cons_zero, List.set_cons_succ, i64_w, i32_w]
            rfl
          refine one_ (i := 12) (N := some 65) #[true, true, true, true, true, true, true, true, true, true, true, true, true, false, false] rfl rfl (by kernel_rfl) (by decide) (fun K hK => ?_)
          refine goes_ Try.func106 (by kernel_rfl) rfl #[.slice (some ⟨g490, 0, none⟩) 2 2] (by rfl) rfl rfl (by (try simp only [List.map_toArray, List.map_cons, List.map_nil]); first | done | rfl) ?_
          refine (ratio_Add.calls _ [t404, t410] (some ⟨g490, 0, none⟩) 2 t416 _ ⟨Rd.lit (l := []) (xs := [t404, t410]) HS.out 5 rfl (by simp)⟩ ⟨Sep.start _⟩ HA417).mono ?_
          rintro e_ w494 ⟨rfl, hS⟩
          replace HS : Aside0 (Sep (fps []) w [b1 g20 a16 a17 a18 a19, b2 g23 0 0 0 0 0 0 0 0, b2 g180 t177 (wrap64 (a17 - 8)) (wrap64 ((wrap64 (a17 - 8)) + 1)) t346 t373 t357 0 0, b3 g478 2 (wrap64 ((wrap64 (a17 - 8)) + 1)), b3 g483 2 t398, b3 g490 t404 t410] w494) := ⟨HS.out.call hS⟩
          clear hS
          refine ⟨_, rfl, ?_⟩
          refine hK.out _ _ (⟨blk_cellv (HS.out.at2) 4 rfl, blk_cellv (HS.out.at0) 3 rfl, blk_cellv (HS.out.at2) 2 rfl⟩) (fun hHeld => ?_)
          clear hK K
          refine norm_ (a' := ?_) ?_ ?_
          rotate_left
          · show Act.put _ (some 65) _ = _
            simp only [Act.put, List.setIfInBounds_toArray, List.set_cons_zero, List.set_cons_succ, i64_w, i32_w]
            rfl
          refine pure_ (i := 13) (N := some 66) (v := ?_) (a' := ?_) #[true, true, true, true, true, true, true, true, true, true, true, true, true, true, false] rfl rfl (by kernel_rfl) (fun _ _ _ h => h) (Or.inl ⟨by rfl, ?_⟩) ?_ ?_
          rotate_left
          · intro w'
            go_simp
            with_reducible rfl
          rotate_left
          · simp only [Act.put, List.setIfInBounds_toArray, List.set_cons_zero, List.set_cons_succ, i64_w, i32_w]
            rfl
          refine one_ (i := 14) (N := none) #[true, true, true, true, true, true, true, true, true, true, true, true, true, true, true] rfl rfl (by kernel_rfl) (by decide) (fun K hK => ?_)
          have hc496 := blk_cellv (v := .int .i64 0) (HS.out.at2) 6 rfl
          have hz497 := blk_fz (HS.out.at2) 6
          refine store_step (w1 := (World.setCell w494 ⟨g180, 6, none⟩ (.int .i64 t416))) (by rfl) rfl ?hr ?_
          case hr => first | (go_simp; done) | (go_simp; rfl)
          clear hc496 hz497
          intro w495 hst
          have hq0 : Sep (fps []) w [b1 g20 a16 a17 a18 a19, b2 g23 0 0 0 0 0 0 0 0, b2 g180 t177 (wrap64 (a17 - 8)) (wrap64 ((wrap64 (a17 - 8)) + 1)) t346 t373 t357 t416 0, b3 g478 2 (wrap64 ((wrap64 (a17 - 8)) + 1)), b3 g483 2 t398, b3 g490 t404 t410] (World.setCell w494 ⟨g180, 6, none⟩ (.int .i64 t416)) := (HS.out).set1 (l1 := [b1 g20 a16 a17 a18 a19, b2 g23 0 0 0 0 0 0 0 0]) (l2 := [b3 g478 2 (wrap64 ((wrap64 (a17 - 8)) + 1)), b3 g483 2 t398, b3 g490 t404 t410]) 6 (.int .i64 t416)
          have HS_ : Aside0 (Sep (fps []) w [b1 g20 a16 a17 a18 a19, b2 g23 0 0 0 0 0 0 0 0, b2 g180 t177 (wrap64 (a17 - 8)) (wrap64 ((wrap64 (a17 - 8)) + 1)) t346 t373 t357 t416 0, b3 g478 2 (wrap64 ((wrap64 (a17 - 8)) + 1)), b3 g483 2 t398, b3 g490 t404 t410] w495) := ⟨by rw [hst]; exact hq0⟩
          clear hq0
          clear HS hst
          have HS := HS_
          clear HS_
          refine hK.out _ _ (⟨blk_cellv (HS.out.at2) 4 rfl, blk_cellv (HS.out.at0) 3 rfl, blk_cellv (HS.out.at2) 2 rfl⟩) (fun hHeld => ?_)
          clear hK K
          refine done_ (by kernel_rfl) ?_
          go_wp2_with fail
          go_meet
          case rel => exact ⟨g483, g478, g490, ⟨((((((HS.out).front 5 (by simp)).front 4 (by simp)).front 5 (by simp)).front 5 (by simp)).front 5 (by simp)).front 5 (by simp)⟩⟩
      case rest =>
        clear HS
        obtain ⟨g401, g407, g413, HS⟩ := hcut
        obtain ⟨w422, rfl⟩ : ∃ x : World, x = wc := ⟨_, rfl⟩
        replace HS : Aside0 (Sep (fps []) w [b1 g20 a16 a17 a18 a19, b2 g23 0 0 0 0 0 0 0 0, b2 g180 t177 (wrap64 (a17 - 8)) (wrap64 ((wrap64 (a17 - 8)) + 1)) t346 t373 t357 t416 0] w422) := ⟨HS.out.sub (.cons_cons _ (.cons_cons _ (.cons_cons _ (.cons _ (.cons _ (.cons _ .slnil))))))⟩
        go_wp2_with fail
        refine start_ (n := 15) (S := (fun w' => w'.cell? ⟨g180, 4, none⟩ = some (.int .i64 t373) ∧ w'.cell? ⟨g180, 5, none⟩ = some (.int .i64 t357) ∧ w'.cell? ⟨g20, 3, none⟩ = some (.int .i64 a19))) (ds := []) #[false, false, false, false, false, false, false, false, false, false, false, false, false, false, false] (by kernel_rfl) rfl rfl (⟨blk_cellv ((HS.out.drew).at2) 4 rfl, blk_cellv ((HS.out.drew).at2) 5 rfl, blk_cellv ((HS.out.drew).at0) 3 rfl⟩) (fun hHeld => ?_)
        have HS_ := Aside0.mk HS.out.drew
        clear HS
        generalize World.drew _ = w499 at HS_ hHeld ⊢
        have HS := HS_
        clear HS_
        refine pure_ (i := 0) (N := some 67) (v := ?_) (a' := ?_) #[true, false, false, false, false, false, false, false, false, false, false, false, false, false, false] rfl rfl (by kernel_rfl) (fun _ _ _ h => h) (Or.inl ⟨by rfl, ?_⟩) ?_ ?_
        rotate_left
        · intro w'
          go_simp
          with_reducible rfl
        rotate_left
        · simp only [Act.put, List.setIfInBounds_toArray, List.set_cons_zero, List.set_cons_succ, i64_w, i32_w]
          rfl
        refine pure_ (i := 2) (N := some 69) (v := ?_) (a' := ?_) #[true, false, true, false, false, false, false, false, false, false, false, false, false, false, false] rfl rfl (by kernel_rfl) (fun _ _ _ h => h) (Or.inl ⟨by rfl, ?_⟩) ?_ ?_
        rotate_left
        · intro w'
          go_simp
          with_reducible rfl
        rotate_left
        · simp only [Act.put, List.setIfInBounds_toArray, List.set_cons_zero, List.set_cons_succ, i64_w, i32_w]
          rfl
        refine pure_ (i := 4) (N := some 71) (v := ?_) (a' := ?_) #[true, false, true, false, true, false, false, false, false, false, false, false, false, false, false] rfl rfl (by kernel_rfl) (fun _ _ _ h => h) (Or.inl ⟨by rfl, ?_⟩) ?_ ?_
        rotate_left
        · intro w'
          go_simp
          with_reducible rfl
        rotate_left
        · simp only [Act.put, List.setIfInBounds_toArray, List.set_cons_zero, List.set_cons_succ, i64_w, i32_w]
          rfl
        refine pure_ (i := 8) (N := some 75) (v := ?_) (a' := ?_) #[true, false, true, false, true, false, false, false, true, false, false, false, false, false, false] rfl rfl (by kernel_rfl) (fun _ _ _ h => h) (Or.inl ⟨by rfl, ?_⟩) ?_ ?_
        rotate_left
        · intro w'
          go_simp
          with_reducible rfl
        rotate_left
        · simp only [Act.put, List.setIfInBounds_toArray, List.set_cons_zero, List.set_cons_succ, i64_w, i32_w]
          rfl
        refine take_ (i := 1) (N := some 68) (v := ?_) (a' := ?_) #[true, true, true, false, true, false, false, false, true, false, false, false, false, false, false] rfl rfl (by kernel_rfl) (fun _ _ _ h => h) (Or.inl ⟨by rfl, ?_⟩) hHeld ?_ ?_
        rotate_left
        · rintro w' hS'
          obtain ⟨s0, s1, s2⟩ := hS'
          go_simp
          with_reducible rfl
        rotate_left
        · simp only [Act.put, List.setIfInBounds_toArray, List.set_cons_zero, List.set_cons_succ, i64_w, i32_w]
          rfl
        refine take_ (i := 3) (N := some 70) (v := ?_) (a' := ?_) #[true, true, true, true, true, false, false, false, true, false, false, false, false, false, false] rfl rfl (by kernel_rfl) (fun _ _ _ h => h) (Or.inl ⟨by rfl, ?_⟩) hHeld ?_ ?_
        rotate_left
        · rintro w' hS'
          obtain ⟨s0, s1, s2⟩ := hS'
          go_simp
          with_reducible rfl
        rotate_left
        · simp only [Act.put, List.setIfInBounds_toArray, List.set_cons_zero, List.set_cons_succ, i64_w, i32_w]
          rfl
        refine take_ (i := 5) (N := some 72) (v := ?_) (a' := ?_) #[true, true, true, true, true, true, false, false, true, false, false, false, false, false, false] rfl rfl (by kernel_rfl) (fun _ _ _ h => h) (Or.inl ⟨by rfl, ?_⟩) hHeld ?_ ?_
        rotate_left
        · rintro w' hS'
          obtain ⟨s0, s1, s2⟩ := hS'
          go_simp
          with_reducible rfl
        rotate_left
        · simp only [Act.put, List.setIfInBounds_toArray, List.set_cons_zero, List.set_cons_succ, i64_w, i32_w]
          rfl
        refine take_ (i := 9) (N := some 76) (v := ?_) (a' := ?_) #[true, true, true, true, true, true, false, false, true, true, false, false, false, false, false] rfl rfl (by kernel_rfl) (fun _ _ _ h => h) (Or.inl ⟨by rfl, ?_⟩) hHeld ?_ ?_
        rotate_left
        · rintro w' hS'
          obtain ⟨s0, s1, s2⟩ := hS'
          go_simp
          with_reducible rfl
        rotate_left
        · simp only [Act.put, List.setIfInBounds_toArray, List.set_cons_zero, List.set_cons_succ, i64_w, i32_w]
          rfl
        refine one_ (i := 6) (N := some 73) #[true, true, true, true, true, true, true, false, true, true, false, false, false, false, false] rfl rfl (by kernel_rfl) (by decide) (fun K hK => ?_)
        refine slice_step (n := 3) (by rfl) (N := 73) rfl (cs := #[.int .i64 t373, .int .i64 t373, .int .i64 t357]) (t := 3) ?hr ?_
        case hr => first | (go_simp; done) | (go_simp; rfl)
        intro g500 hg w501 hbox hb
        replace HS : Aside0 (Sep (fps []) w [b1 g20 a16 a17 a18 a19, b2 g23 0 0 0 0 0 0 0 0, b2 g180 t177 (wrap64 (a17 - 8)) (wrap64 ((wrap64 (a17 - 8)) + 1)) t346 t373 t357 t416 0, b4 g500 t373 t373 t357] w501) := ⟨HS.out.box hg hbox hb⟩
        clear hg hbox hb
        refine hK.out _ _ (⟨blk_cellv (HS.out.at2) 4 rfl, blk_cellv (HS.out.at2) 5 rfl, blk_cellv (HS.out.at0) 3 rfl⟩) (fun hHeld => ?_)
        clear hK K
        refine norm_ (a' := ?_) ?_ ?_
        rotate_left
        · show Act.put _ (some 73) _ = _
          simp only [Act.put, List.setIfInBounds_toArray, List.set_cons_zero, List.set_cons_succ, i64_w, i32_w]
          rfl
        refine one_ (i := 7) (N := some 74) #[true, true, true, true, true, true, true, true, true, true, false, false, false, false, false] rfl rfl (by kernel_rfl) (by decide) (fun K hK => ?_)
        obtain ⟨t503, HA504, H⟩ := bind_some H
        refine goes_ Try.func106 (by kernel_rfl) rfl #[.slice (some ⟨g500, 0, none⟩) 3 3] (by rfl) rfl rfl (by (try simp only [List.map_toArray, List.map_cons, List.map_nil]); first | done | rfl) ?_
        refine (ratio_Add.calls _ [t373, t373, t357] (some ⟨g500, 0, none⟩) 3 t503 _ ⟨Rd.lit (l := []) (xs := [t373, t373, t357]) HS.out 3 rfl (by simp)⟩ ⟨Sep.start _⟩ HA504).mono ?_
        rintro e_ w505 ⟨rfl, hS⟩
        replace HS : Aside0 (Sep (fps []) w [b1 g20 a16 a17 a18 a19, b2 g23 0 0 0 0 0 0 0 0, b2 g180 t177 (wrap64 (a17 - 8)) (wrap64 ((wrap64 (a17 - 8)) + 1)) t346 t373 t357 t416 0, b4 g500 t373 t373 t357] w505) := ⟨HS.out.call hS⟩
        clear hS
        refine ⟨_, rfl, ?_⟩
        refine hK.out _ _ (⟨blk_cellv (HS.out.at2) 4 rfl, blk_cellv (HS.out.at2) 5 rfl, blk_cellv (HS.out.at0) 3 rfl⟩) (fun hHeld => ?_)
        clear hK K
        refine norm_ (a' := ?_) ?_ ?_
        rotate_left
        · show Act.put _ (some 74) _ = _
          simp only [Act.put, List.setIfInBounds_toArray, List.set_cons_zero, List.set_cons_succ, i64_w, i32_w]
          rfl
        refine one_ (i := 10) (N := some 77) #[true, true, true, true, true, true, true, true, true, true, true, false, false, false, false] rfl rfl (by kernel_rfl) (by decide) (fun K hK => ?_)
        obtain ⟨t506, HA507, H⟩ := bind_some H
        refine goes_ Try.func108 (by kernel_rfl) rfl #[.int .i64 t503, .int .i64 a19] (by rfl) rfl rfl (by (try simp only [List.map_toArray, List.map_cons, List.map_nil]); first | done | rfl) ?_
        refine (ratio_Up.calls t503 a19 t506 _ ⟨Sep.start _⟩ HA507).mono ?_
        rintro e_ w508 ⟨rfl, hS⟩
        replace HS : Aside0 (Sep (fps []) w [b1 g20 a16 a17 a18 a19, b2 g23 0 0 0 0 0 0 0 0, b2 g180 t177 (wrap64 (a17 - 8)) (wrap64 ((wrap64 (a17 - 8)) + 1)) t346 t373 t357 t416 0, b4 g500 t373 t373 t357] w508) := ⟨HS.out.call hS⟩
        clear hS
        refine ⟨_, rfl, ?_⟩
        refine hK.out _ _ (⟨blk_cellv (HS.out.at2) 4 rfl, blk_cellv (HS.out.at2) 5 rfl, blk_cellv (HS.out.at0) 3 rfl⟩) (fun hHeld => ?_)
        clear hK K
        refine norm_ (a' := ?_) ?_ ?_
        rotate_left
        · show Act.put _ (some 77) _ = _
          simp only [Act.put, List.setIfInBounds_toArray, List.set_cons_zero, List.set_cons_succ, i64_w, i32_w]
          rfl
        refine one_ (i := 11) (N := some 78) #[true, true, true, true, true, true, true, true, true, true, true, true, false, false, false] rfl rfl (by kernel_rfl) (by decide) (fun K hK => ?_)
        refine slice_step (n := 2) (by rfl) (N := 78) rfl (cs := #[.int .i64 t506, .int .i64 2]) (t := 3) ?hr ?_
        case hr => first | (go_simp; done) | (go_simp; rfl)
        intro g509 hg w510 hbox hb
        replace HS : Aside0 (Sep (fps []) w [b1 g20 a16 a17 a18 a19, b2 g23 0 0 0 0 0 0 0 0, b2 g180 t177 (wrap64 (a17 - 8)) (wrap64 ((wrap64 (a17 - 8)) + 1)) t346 t373 t357 t416 0, b4 g500 t373 t373 t357, b3 g509 t506 2] w510) := ⟨HS.out.box hg hbox hb⟩
        clear hg hbox hb
        refine hK.out _ _ (⟨blk_cellv (HS.out.at2) 4 rfl, blk_cellv (HS.out.at2) 5 rfl, blk_cellv (HS.out.at0) 3 rfl⟩) (fun hHeld => ?_)
        clear hK K
        refine norm_ (a' := ?_) ?_ ?_
        rotate_left
        · show Act.put _ (some 78) _ = _
          simp only [Act.put, List.setIfInBounds_toArray, List.set_cons_zero, List.set_cons_succ, i64_w, i32_w]
          rfl
        refine one_ (i := 12) (N := some 79) #[true, true, true, true, true, true, true, true, true, true, true, true, true, false, false] rfl rfl (by kernel_rfl) (by decide) (fun K hK => ?_)
        obtain ⟨t512, HA513, H⟩ := bind_some H
        refine goes_ Try.func106 (by kernel_rfl) rfl #[.slice (some ⟨g509, 0, none⟩) 2 2] (by rfl) rfl rfl (by (try simp only [List.map_toArray, List.map_cons, List.map_nil]); first | done | rfl) ?_
        refine (ratio_Add.calls _ [t506, 2] (some ⟨g509, 0, none⟩) 2 t512 _ ⟨Rd.lit (l := []) (xs := [t506, 2]) HS.out 4 rfl (by simp)⟩ ⟨Sep.start _⟩ HA513).mono ?_
        rintro e_ w514 ⟨rfl, hS⟩
        replace HS : Aside0 (Sep (fps []) w [b1 g20 a16 a17 a18 a19, b2 g23 0 0 0 0 0 0 0 0, b2 g180 t177 (wrap64 (a17 - 8)) (wrap64 ((wrap64 (a17 - 8)) + 1)) t346 t373 t357 t416 0, b4 g500 t373 t373 t357, b3 g509 t506 2] w514) := ⟨HS.out.call hS⟩
        clear hS
        refine ⟨_, rfl, ?_⟩
        refine hK.out _ _ (⟨blk_cellv (HS.out.at2) 4 rfl, blk_cellv (HS.out.at2) 5 rfl, blk_cellv (HS.out.at0) 3 rfl⟩) (fun hHeld => ?_)
        clear hK K
        refine norm_ (a' := ?_) ?_ ?_
        rotate_left
        · show Act.put _ (some 79) _ = _
          simp only [Act.put, List.setIfInBounds_toArray, List.set_cons_zero, List.set_cons_succ, i64_w, i32_w]
          rfl
        refine pure_ (i := 13) (N := some 80) (v := ?_) (a' := ?_) #[true, true, true, true, true, true, true, true, true, true, true, true, true, true, false] rfl rfl (by kernel_rfl) (fun _ _ _ h => h) (Or.inl ⟨by rfl, ?_⟩) ?_ ?_
        rotate_left
        · intro w'
          go_simp
          with_reducible rfl
        rotate_left
        · simp only [Act.put, List.setIfInBounds_toArray, List.set_cons_zero, List.set_cons_succ, i64_w, i32_w]
          rfl
        refine one_ (i := 14) (N := none) #[true, true, true, true, true, true, true, true, true, true, true, true, true, true, true] rfl rfl (by kernel_rfl) (by decide) (fun K hK => ?_)
        have hc516 := blk_cellv (v := .int .i64 0) (HS.out.at2) 7 rfl
        have hz517 := blk_fz (HS.out.at2) 7
        refine store_step (w1 := (World.setCell w514 ⟨g180, 7, none⟩ (.int .i64 t512))) (by rfl) rfl ?hr ?_
        case hr => first | (go_simp; done) | (go_simp; rfl)
        clear hc516 hz517
        intro w515 hst
        have hq0 : Sep (fps []) w [b1 g20 a16 a17 a18 a19, b2 g23 0 0 0 0 0 0 0 0, b2 g180 t177 (wrap64 (a17 - 8)) (wrap64 ((wrap64 (a17 - 8)) + 1)) t346 t373 t357 t416 t512, b4 g500 t373 t373 t357, b3 g509 t506 2] (World.setCell w514 ⟨g180, 7, none⟩ (.int .i64 t512)) := (HS.out).set1 (l1 := [b1 g20 a16 a17 a18 a19, b2 g23 0 0 0 0 0 0 0 0]) (l2 := [b4 g500 t373 t373 t357, b3 g509 t506 2]) 7 (.int .i64 t512)
        have HS_ : Aside0 (Sep (fps []) w [b1 g20 a16 a17 a18 a19, b2 g23 0 0 0 0 0 0 0 0, b2 g180 t177 (wrap64 (a17 - 8)) (wrap64 ((wrap64 (a17 - 8)) + 1)) t346 t373 t357 t416 t512, b4 g500 t373 t373 t357, b3 g509 t506 2] w515) := ⟨by rw [hst]; exact hq0⟩
        clear hq0
        clear HS hst
        have HS := HS_
        clear HS_
        refine hK.out _ _ (⟨blk_cellv (HS.out.at2) 4 rfl, blk_cellv (HS.out.at2) 5 rfl, blk_cellv (HS.out.at0) 3 rfl⟩) (fun hHeld => ?_)
        clear hK K
        refine done_ (by kernel_rfl) ?_
        replace HS : Aside0 (Sep (fps []) w [b2 g23 0 0 0 0 0 0 0 0, b2 g180 t177 (wrap64 (a17 - 8)) (wrap64 ((wrap64 (a17 - 8)) + 1)) t346 t373 t357 t416 t512] w515) := ⟨HS.out.sub (.cons _ (.cons_cons _ (.cons_cons _ (.cons _ (.cons _ .slnil)))))⟩
        have hc518 : w515.cell? ⟨g180, 0, none⟩ = some (.int .i64 t177) := blk_cellv (HS.out.at1) 0 rfl
        have hc519 : w515.cell? ⟨g180, 1, none⟩ = some (.int .i64 (wrap64 (a17 - 8))) := blk_cellv (HS.out.at1) 1 rfl
        have hc520 : w515.cell? ⟨g180, 2, none⟩ = some (.int .i64 (wrap64 ((wrap64 (a17 - 8)) + 1))) := blk_cellv (HS.out.at1) 2 rfl
        have hc521 : w515.cell? ⟨g180, 3, none⟩ = some (.int .i64 t346) := blk_cellv (HS.out.at1) 3 rfl
        have hc522 : w515.cell? ⟨g180, 4, none⟩ = some (.int .i64 t373) := blk_cellv (HS.out.at1) 4 rfl
        have hc523 : w515.cell? ⟨g180, 5, none⟩ = some (.int .i64 t357) := blk_cellv (HS.out.at1) 5 rfl
        have hc524 : w515.cell? ⟨g180, 6, none⟩ = some (.int .i64 t416) := blk_cellv (HS.out.at1) 6 rfl
        have hc525 : w515.cell? ⟨g180, 7, none⟩ = some (.int .i64 t512) := blk_cellv (HS.out.at1) 7 rfl
        have hc526 : w515.cell? ⟨g23, 0, none⟩ = some (.int .i64 0) := blk_cellv (HS.out.at0) 0 rfl
        have hz527 : w515.frozen? ⟨g23, 0, none⟩ = false := blk_fz (HS.out.at0) 0
        have hc528 : w515.cell? ⟨g23, 1, none⟩ = some (.int .i64 0) := blk_cellv (HS.out.at0) 1 rfl
        have hz529 : w515.frozen? ⟨g23, 1, none⟩ = false := blk_fz (HS.out.at0) 1
        have hc530 : w515.cell? ⟨g23, 2, none⟩ = some (.int .i64 0) := blk_cellv (HS.out.at0) 2 rfl
        have hz531 : w515.frozen? ⟨g23, 2, none⟩ = false := blk_fz (HS.out.at0) 2
        have hc532 : w515.cell? ⟨g23, 3, none⟩ = some (.int .i64 0) := blk_cellv (HS.out.at0) 3 rfl
        have hz533 : w515.frozen? ⟨g23, 3, none⟩ = false := blk_fz (HS.out.at0) 3
        have hc534 : w515.cell? ⟨g23, 4, none⟩ = some (.int .i64 0) := blk_cellv (HS.out.at0) 4 rfl
        have hz535 : w515.frozen? ⟨g23, 4, none⟩ = false := blk_fz (HS.out.at0) 4
        have hc536 : w515.cell? ⟨g23, 5, none⟩ = some (.int .i64 0) := blk_cellv (HS.out.at0) 5 rfl
        have hz537 : w515.frozen? ⟨g23, 5, none⟩ = false := blk_fz (HS.out.at0) 5
        have hc538 : w515.cell? ⟨g23, 6, none⟩ = some (.int .i64 0) := blk_cellv (HS.out.at0) 6 rfl
        have hz539 : w515.frozen? ⟨g23, 6, none⟩ = false := blk_fz (HS.out.at0) 6
        have hc540 : w515.cell? ⟨g23, 7, none⟩ = some (.int .i64 0) := blk_cellv (HS.out.at0) 7 rfl
        have hz541 : w515.frozen? ⟨g23, 7, none⟩ = false := blk_fz (HS.out.at0) 7
        go_wp2_with (first | ((with_reducible refine gate_store (t := 120) (p := 2) rfl ?_); refine store_event (w1 := (World.setCell (World.setCell (World.setCell (World.setCell (World.setCell (World.setCell (World.setCell (World.setCell w515 ⟨g23, 0, none⟩ (.int .i64 t177)) ⟨g23, 1, none⟩ (.int .i64 (wrap64 (a17 - 8)))) ⟨g23, 2, none⟩ (.int .i64 (wrap64 ((wrap64 (a17 - 8)) + 1)))) ⟨g23, 3, none⟩ (.int .i64 t346)) ⟨g23, 4, none⟩ (.int .i64 t373)) ⟨g23, 5, none⟩ (.int .i64 t357)) ⟨g23, 6, none⟩ (.int .i64 t416)) ⟨g23, 7, none⟩ (.int .i64 t512))) rfl (t := 120) (p := 2) rfl rfl ?hr ?_; (case hr => first | (go_simp; done) | (go_simp; rfl)); intro w542 hst; clear hc518 hc519 hc520 hc521 hc522 hc523 hc524 hc525 hc526 hz527 hc528 hz529 hc530 hz531 hc532 hz533 hc534 hz535 hc536 hz537 hc538 hz539 hc540 hz541; replace HS : Aside0 (Sep (fps []) w [b2 g23 t177 (wrap64 (a17 - 8)) (wrap64 ((wrap64 (a17 - 8)) + 1)) t346 t373 t357 t416 t512, b2 g180 t177 (wrap64 (a17 - 8)) (wrap64 ((wrap64 (a17 - 8)) + 1)) t346 t373 t357 t416 t512] w542) := ⟨by rw [hst]; exact HS.out.setAll (l1 := []) (l2 := [b2 g180 t177 (wrap64 (a17 - 8)) (wrap64 ((wrap64 (a17 - 8)) + 1)) t346 t373 t357 t416 t512]) [.int .i64 t177, .int .i64 (wrap64 (a17 - 8)), .int .i64 (wrap64 ((wrap64 (a17 - 8)) + 1)), .int .i64 t346, .int .i64 t373, .int .i64 t357, .int .i64 t416, .int .i64 t512] rfl⟩; clear hst; replace HS : Aside0 (Sep (fps []) w [b2 g23 t177 (wrap64 (a17 - 8)) (wrap64 ((wrap64 (a17 - 8)) + 1)) t346 t373 t357 t416 t512] w542) := ⟨HS.out.sub (.cons_cons _ (.cons _ .slnil))⟩))
        have hc543 : w542.cell? ⟨g23, 0, none⟩ = some (.int .i64 t177) := blk_cellv (HS.out.at0) 0 rfl
        have hc544 : w542.cell? ⟨g23, 1, none⟩ = some (.int .i64 (wrap64 (a17 - 8))) := blk_cellv (HS.out.at0) 1 rfl
        have hc545 : w542.cell? ⟨g23, 2, none⟩ = some (.int .i64 (wrap64 ((wrap64 (a17 - 8)) + 1))) := blk_cellv (HS.out.at0) 2 rfl
        have hc546 : w542.cell? ⟨g23, 3, none⟩ = some (.int .i64 t346) := blk_cellv (HS.out.at0) 3 rfl
        have hc547 : w542.cell? ⟨g23, 4, none⟩ = some (.int .i64 t373) := blk_cellv (HS.out.at0) 4 rfl
        have hc548 : w542.cell? ⟨g23, 5, none⟩ = some (.int .i64 t357) := blk_cellv (HS.out.at0) 5 rfl
        have hc549 : w542.cell? ⟨g23, 6, none⟩ = some (.int .i64 t416) := blk_cellv (HS.out.at0) 6 rfl
        have hc550 : w542.cell? ⟨g23, 7, none⟩ = some (.int .i64 t512) := blk_cellv (HS.out.at0) 7 rfl
        refine bodyPost_ret (v := .tuple #[.agg #[.int .i64 t177, .int .i64 (wrap64 (a17 - 8)), .int .i64 (wrap64 ((wrap64 (a17 - 8)) + 1)), .int .i64 t346, .int .i64 t373, .int .i64 t357, .int .i64 t416, .int .i64 t512], .int .i64 0]) (by simp [results, Try.results76, go_sem, hc543, hc544, hc545, hc546, hc547, hc548, hc549, hc550]) rfl ?_
        rw [← some_eq H]
        exact ⟨(by first | rfl | (simp [IntKind.wrap_u32]; done)), HS.out.sub (.cons _ .slnil)⟩
  · have H := if_no c74 H
    have c74b0 : (t71 == 0) = false := beq_eq_false_iff_ne.mpr c74
    have c74b1 : (t71 != 0) = true := bne_iff_ne.mpr c74
    clear c74
    have hc551 : w73.cell? ⟨g23, 0, none⟩ = some (.int .i64 0) := blk_cellv (HS.out.at1) 0 rfl
    have hz552 : w73.frozen? ⟨g23, 0, none⟩ = false := blk_fz (HS.out.at1) 0
    have hc553 : w73.cell? ⟨g23, 1, none⟩ = some (.int .i64 0) := blk_cellv (HS.out.at1) 1 rfl
    have hz554 : w73.frozen? ⟨g23, 1, none⟩ = false := blk_fz (HS.out.at1) 1
    have hc555 : w73.cell? ⟨g23, 2, none⟩ = some (.int .i64 0) := blk_cellv (HS.out.at1) 2 rfl
    have hz556 : w73.frozen? ⟨g23, 2, none⟩ = false := blk_fz (HS.out.at1) 2
    have hc557 : w73.cell? ⟨g23, 3, none⟩ = some (.int .i64 0) := blk_cellv (HS.out.at1) 3 rfl
    have hz558 : w73.frozen? ⟨g23, 3, none⟩ = false := blk_fz (HS.out.at1) 3
    have hc559 : w73.cell? ⟨g23, 4, none⟩ = some (.int .i64 0) := blk_cellv (HS.out.at1) 4 rfl
    have hz560 : w73.frozen? ⟨g23, 4, none⟩ = false := blk_fz (HS.out.at1) 4
    have hc561 : w73.cell? ⟨g23, 5, none⟩ = some (.int .i64 0) := blk_cellv (HS.out.at1) 5 rfl
    have hz562 : w73.frozen? ⟨g23, 5, none⟩ = false := blk_fz (HS.out.at1) 5
    have hc563 : w73.cell? ⟨g23, 6, none⟩ = some (.int .i64 0) := blk_cellv (HS.out.at1) 6 rfl
    have hz564 : w73.frozen? ⟨g23, 6, none⟩ = false := blk_fz (HS.out.at1) 6
    have hc565 : w73.cell? ⟨g23, 7, none⟩ = some (.int .i64 0) := blk_cellv (HS.out.at1) 7 rfl
    have hz566 : w73.frozen? ⟨g23, 7, none⟩ = false := blk_fz (HS.out.at1) 7
    go_wp2_with (first | ((with_reducible refine gate_store (t := 120) (p := 2) rfl ?_); refine store_event (w1 := (World.setCell (World.setCell (World.setCell (World.setCell (World.setCell (World.setCell (World.setCell (World.setCell w73 ⟨g23, 0, none⟩ (.int .i64 0)) ⟨g23, 1, none⟩ (.int .i64 0)) ⟨g23, 2, none⟩ (.int .i64 0)) ⟨g23, 3, none⟩ (.int .i64 0)) ⟨g23, 4, none⟩ (.int .i64 0)) ⟨g23, 5, none⟩ (.int .i64 0)) ⟨g23, 6, none⟩ (.int .i64 0)) ⟨g23, 7, none⟩ (.int .i64 0))) rfl (t := 120) (p := 2) rfl rfl ?hr ?_; (case hr => first | (go_simp; done) | (go_simp; rfl)); intro w567 hst; clear hc551 hz552 hc553 hz554 hc555 hz556 hc557 hz558 hc559 hz560 hc561 hz562 hc563 hz564 hc565 hz566; replace HS : Aside0 (Sep (fps []) w [b1 g20 a16 a17 a18 a19, b2 g23 0 0 0 0 0 0 0 0] w567) := ⟨by rw [hst]; exact HS.out.setAll (l1 := [b1 g20 a16 a17 a18 a19]) (l2 := []) [.int .i64 0, .int .i64 0, .int .i64 0, .int .i64 0, .int .i64 0, .int .i64 0, .int .i64 0, .int .i64 0] rfl⟩; clear hst; replace HS : Aside0 (Sep (fps []) w [b2 g23 0 0 0 0 0 0 0 0] w567) := ⟨HS.out.sub (.cons _ (.cons_cons _ .slnil))⟩))
    have hc568 : w567.cell? ⟨g23, 0, none⟩ = some (.int .i64 0) := blk_cellv (HS.out.at0) 0 rfl
    have hc569 : w567.cell? ⟨g23, 1, none⟩ = some (.int .i64 0) := blk_cellv (HS.out.at0) 1 rfl
    have hc570 : w567.cell? ⟨g23, 2, none⟩ = some (.int .i64 0) := blk_cellv (HS.out.at0) 2 rfl
    have hc571 : w567.cell? ⟨g23, 3, none⟩ = some (.int .i64 0) := blk_cellv (HS.out.at0) 3 rfl
    have hc572 : w567.cell? ⟨g23, 4, none⟩ = some (.int .i64 0) := blk_cellv (HS.out.at0) 4 rfl
    have hc573 : w567.cell? ⟨g23, 5, none⟩ = some (.int .i64 0) := blk_cellv (HS.out.at0) 5 rfl
    have hc574 : w567.cell? ⟨g23, 6, none⟩ = some (.int .i64 0) := blk_cellv (HS.out.at0) 6 rfl
    have hc575 : w567.cell? ⟨g23, 7, none⟩ = some (.int .i64 0) := blk_cellv (HS.out.at0) 7 rfl
    refine bodyPost_ret (v := .tuple #[.agg #[.int .i64 0, .int .i64 0, .int .i64 0, .int .i64 0, .int .i64 0, .int .i64 0, .int .i64 0, .int .i64 0], .int .i64 t71]) (by simp [results, Try.results76, go_sem, hc568, hc569, hc570, hc571, hc572, hc573, hc574, hc575]) rfl ?_
    rw [← some_eq H]
    exact ⟨(by first | rfl | (simp [IntKind.wrap_u32]; done)), HS.out.sub (.cons _ .slnil)⟩

set_option maxHeartbeats 30000000 in
set_option maxRecDepth 100000 in
theorem store_New.calls (a601 : Int) (r : Unit ⊕ (List Int)) (w : World)   (HS : Aside0 (Sep (fps []) w [] w)) (H : Aside0 (store_New.f a601 = some r)) :
    Calls Try.prog 17 #[.int .i64 a601] w fun e w' => Sum.elim (fun (r : Unit) => e = .returned (.tuple #[.pointer none, .int .i64 2]) ∧ Sep (fps []) w [] w') (fun (r : List Int) => ∃ (g637 : Nat), e = .returned (.tuple #[.pointer (some ⟨g637, 0, none⟩), .int .i64 0]) ∧ ∃ (A638 : Option Addr) (m639 : Nat) (n640 : Nat), Sep (fps []) w [b6 g637 A638 m639 n640 0, r5 A638 m639 n640 r] w') r := by
  unfold store_New.f at H
  go_enter Try.func17, Try.ntmps17
  by_cases c615 : a601 < 0
  · have H := if_yes c615 H
    have c615b0 : decide (a601 < 0) = true := decide_eq_true c615
    clear c615
    go_wp2_with fail
    go_ret2
    rw [← some_eq H]
    exact ⟨(by first | rfl | (simp [IntKind.wrap_u32]; done)), HS.out⟩
  · have H := if_no c615 H
    have c615b0 : decide (a601 < 0) = false := decide_eq_false c615
    clear c615
    by_cases c616 : a601 > 8388608
    · have H := if_yes c616 H
      have c616b0 : decide (8388608 < a601) = true := decide_eq_true c616
      clear c616
      go_wp2_with fail
      go_ret2
      rw [← some_eq H]
      exact ⟨(by first | rfl | (simp [IntKind.wrap_u32]; done)), HS.out⟩
    · have H := if_no c616 H
      have c616b0 : decide (8388608 < a601) = false := decide_eq_false c616
      clear c616
      obtain ⟨m617, HA618, H⟩ := bind_some H
      obtain ⟨hm619, hn620⟩ := mkLen_eq HA618
      have hm619H := Aside0.mk hm619
      clear hm619
      go_wp2_with (first | ((with_reducible refine gate_dst (N := 11) rfl ?_); refine make_event rfl (N := 11) rfl 22 23 (.tmp 10) (.tmp 10) rfl .i64 (.int .u32 0) 4 Try.underlying22 (by kernel_rfl) rfl (by decide) (Value.int .u32) 0 rfl m617 (by show Value.int _ _ = _; rw [hm619H.out]) (by show Value.int _ _ = _; rw [hm619H.out]) (by omega) HS.out ?_; intro g621 w622 HS1; replace HS : Aside0 (Sep (fps []) w [r5 (some ⟨g621, 0, none⟩) m617 m617 (List.replicate m617 (0 : Int))] w622) := ⟨HS1⟩; clear HS1) | ((with_reducible refine gate_dst (N := 13) rfl ?_); refine box_on ?hg (N := 13) ?hd (cs := #[.slice (some ⟨g621, 0, none⟩) m617 m617, .int .u64 0]) (t := 115) ?hr ?_; (case hd => rfl); (case hg => rfl); (case hr => first | (go_simp; done) | (go_simp; rfl)); intro g625 hg w626 hbox hb; replace HS : Aside0 (Sep (fps []) w [r5 (some ⟨g621, 0, none⟩) m617 m617 (List.replicate m617 (0 : Int)), b6 g625 (some ⟨g621, 0, none⟩) m617 m617 0] w626) := ⟨HS.out.box hg hbox hb⟩; clear hg hbox hb))
      go_ret2
      rw [← some_eq H]
      exact ⟨g625, (by first | rfl | (simp [IntKind.wrap_u32]; done)), (some ⟨g621, 0, none⟩), m617, m617, ((HS.out).front 1 (by simp)).keep (l := [b6 g625 (some ⟨g621, 0, none⟩) m617 m617 0, r5 (some ⟨g621, 0, none⟩) m617 m617 (List.replicate m617 (0 : Int))]) (rest := [])⟩

set_option maxHeartbeats 30000000 in
set_option maxRecDepth 100000 in
theorem ground_New.calls (k : Nat) (a5 : Int) (a6 : Int) (a7 : Int) (a8 : Int) (r : Unit ⊕ ((Int × Int × Int × Int × List Int) ⊕ Int)) (w : World)   (HS : Aside0 (Sep (fps []) w [] w)) (H : Aside0 (ground_New.f k a5 a6 a7 a8 = some r)) :
    Calls Try.prog 29 #[.agg #[.int .i64 a5, .int .i64 a6, .int .i64 a7, .int .i64 a8]] w fun e w' => Sum.elim (fun (r : Unit) => e = .returned (.tuple #[.pointer none, .int .i64 2]) ∧ Sep (fps []) w [] w') (fun (r_ : (Int × Int × Int × Int × List Int) ⊕ Int) => Sum.elim (fun (r : Int × Int × Int × Int × List Int) => ∃ (g787 : Nat), e = .returned (.tuple #[.pointer (some ⟨g787, 0, none⟩), .int .i64 0]) ∧ ∃ (g788 : Nat) (A789 : Option Addr) (m790 : Nat) (n791 : Nat), Sep (fps []) w [b7 g787 g788 r.1 r.2.1 r.2.2.1 r.2.2.2.1, b6 g788 A789 m790 n791 0, r5 A789 m790 n791 r.2.2.2.2] w') (fun (r : Int) => e = .returned (.tuple #[.pointer none, .int .i64 r]) ∧ Sep (fps []) w [] w') r_) r := by
  unfold ground_New.f at H
  go_enter Try.func29, Try.ntmps29
  go_wp2_with (first | ((with_reducible refine gate_dst (N := 1) rfl ?_); refine box_on ?hg (N := 1) ?hd (cs := #[.int .i64 a5, .int .i64 a6, .int .i64 a7, .int .i64 a8]) (t := 49) ?hr ?_; (case hd => rfl); (case hg => rfl); (case hr => first | (go_simp; done) | (go_simp; rfl)); intro g723 hg w724 hbox hb; replace HS : Aside0 (Sep (fps []) w [b1 g723 a5 a6 a7 a8] w724) := ⟨HS.out.box hg hbox hb⟩; clear hg hbox hb; have hc726 : w724.cell? ⟨g723, 0, none⟩ = some (.int .i64 a5) := blk_cellv (HS.out.at0) 0 rfl; have hc727 : w724.cell? ⟨g723, 1, none⟩ = some (.int .i64 a6) := blk_cellv (HS.out.at0) 1 rfl; have hc728 : w724.cell? ⟨g723, 2, none⟩ = some (.int .i64 a7) := blk_cellv (HS.out.at0) 2 rfl; have hc729 : w724.cell? ⟨g723, 3, none⟩ = some (.int .i64 a8) := blk_cellv (HS.out.at0) 3 rfl))
  clear hc726 hc727 hc728 hc729
  obtain ⟨t730, HA731, H⟩ := bind_some H
  refine (plan_Of.calls _ a5 a6 a7 a8 t730 _ ⟨Sep.start _⟩ HA731).mono ?_
  rintro e_ w732 ⟨rfl, hS⟩
  replace HS : Aside0 (Sep (fps []) w [b1 g723 a5 a6 a7 a8] w732) := ⟨HS.out.call hS⟩
  clear hS
  by_cases c753 : t730.2.2.2.2.2.2.2.2 = 0
  · have H := if_yes c753 H
    have c753b0 : (t730.2.2.2.2.2.2.2.2 == 0) = true := beq_iff_eq.mpr c753
    have c753b1 : (t730.2.2.2.2.2.2.2.2 != 0) = false := bne_eq_false_iff_eq.mpr c753
    clear c753
    go_wp2_with (first | ((with_reducible refine gate_dst (N := 4) rfl ?_); refine box_on ?hg (N := 4) ?hd (cs := #[.int .i64 0, .int .i64 0, .int .i64 0, .int .i64 0, .int .i64 0, .int .i64 0, .int .i64 0, .int .i64 0]) (t := 120) ?hr ?_; (case hd => rfl); (case hg => rfl); (case hr => first | (go_simp; done) | (go_simp; rfl)); intro g733 hg w734 hbox hb; replace HS : Aside0 (Sep (fps []) w [b1 g723 a5 a6 a7 a8, b2 g733 0 0 0 0 0 0 0 0] w734) := ⟨HS.out.box hg hbox hb⟩; clear hg hbox hb; have hc736 : w734.cell? ⟨g733, 0, none⟩ = some (.int .i64 0) := blk_cellv (HS.out.at1) 0 rfl; have hz737 : w734.frozen? ⟨g733, 0, none⟩ = false := blk_fz (HS.out.at1) 0; have hc738 : w734.cell? ⟨g733, 1, none⟩ = some (.int .i64 0) := blk_cellv (HS.out.at1) 1 rfl; have hz739 : w734.frozen? ⟨g733, 1, none⟩ = false := blk_fz (HS.out.at1) 1; have hc740 : w734.cell? ⟨g733, 2, none⟩ = some (.int .i64 0) := blk_cellv (HS.out.at1) 2 rfl; have hz741 : w734.frozen? ⟨g733, 2, none⟩ = false := blk_fz (HS.out.at1) 2; have hc742 : w734.cell? ⟨g733, 3, none⟩ = some (.int .i64 0) := blk_cellv (HS.out.at1) 3 rfl; have hz743 : w734.frozen? ⟨g733, 3, none⟩ = false := blk_fz (HS.out.at1) 3; have hc744 : w734.cell? ⟨g733, 4, none⟩ = some (.int .i64 0) := blk_cellv (HS.out.at1) 4 rfl; have hz745 : w734.frozen? ⟨g733, 4, none⟩ = false := blk_fz (HS.out.at1) 4; have hc746 : w734.cell? ⟨g733, 5, none⟩ = some (.int .i64 0) := blk_cellv (HS.out.at1) 5 rfl; have hz747 : w734.frozen? ⟨g733, 5, none⟩ = false := blk_fz (HS.out.at1) 5; have hc748 : w734.cell? ⟨g733, 6, none⟩ = some (.int .i64 0) := blk_cellv (HS.out.at1) 6 rfl; have hz749 : w734.frozen? ⟨g733, 6, none⟩ = false := blk_fz (HS.out.at1) 6; have hc750 : w734.cell? ⟨g733, 7, none⟩ = some (.int .i64 0) := blk_cellv (HS.out.at1) 7 rfl; have hz751 : w734.frozen? ⟨g733, 7, none⟩ = false := blk_fz (HS.out.at1) 7) | ((with_reducible refine gate_store (t := 120) (p := 4) rfl ?_); refine store_event (w1 := (World.setCell (World.setCell (World.setCell (World.setCell (World.setCell (World.setCell (World.setCell (World.setCell w734 ⟨g733, 0, none⟩ (.int .i64 t730.1)) ⟨g733, 1, none⟩ (.int .i64 t730.2.1)) ⟨g733, 2, none⟩ (.int .i64 t730.2.2.1)) ⟨g733, 3, none⟩ (.int .i64 t730.2.2.2.1)) ⟨g733, 4, none⟩ (.int .i64 t730.2.2.2.2.1)) ⟨g733, 5, none⟩ (.int .i64 t730.2.2.2.2.2.1)) ⟨g733, 6, none⟩ (.int .i64 t730.2.2.2.2.2.2.1)) ⟨g733, 7, none⟩ (.int .i64 t730.2.2.2.2.2.2.2.1))) rfl (t := 120) (p := 4) rfl rfl ?hr ?_; (case hr => first | (go_simp; done) | (go_simp; rfl)); intro w752 hst; clear hc736 hz737 hc738 hz739 hc740 hz741 hc742 hz743 hc744 hz745 hc746 hz747 hc748 hz749 hc750 hz751; replace HS : Aside0 (Sep (fps []) w [b1 g723 a5 a6 a7 a8, b2 g733 t730.1 t730.2.1 t730.2.2.1 t730.2.2.2.1 t730.2.2.2.2.1 t730.2.2.2.2.2.1 t730.2.2.2.2.2.2.1 t730.2.2.2.2.2.2.2.1] w752) := ⟨by rw [hst]; exact HS.out.setAll (l1 := [b1 g723 a5 a6 a7 a8]) (l2 := []) [.int .i64 t730.1, .int .i64 t730.2.1, .int .i64 t730.2.2.1, .int .i64 t730.2.2.2.1, .int .i64 t730.2.2.2.2.1, .int .i64 t730.2.2.2.2.2.1, .int .i64 t730.2.2.2.2.2.2.1, .int .i64 t730.2.2.2.2.2.2.2.1] rfl⟩; clear hst; have hc754 : w752.cell? ⟨g733, 0, none⟩ = some (.int .i64 t730.1) := blk_cellv (HS.out.at1) 0 rfl))
    clear hc754
    obtain ⟨t755, HA756, H⟩ := bind_some H
    rcases t755 with t757 | t758
    · have H := sum_l H
      refine (store_New.calls t730.1 (.inl t757) _ ⟨Sep.start _⟩ HA756).mono ?_
      rintro e_ w759 ⟨rfl, hS⟩
      replace HS : Aside0 (Sep (fps []) w [b1 g723 a5 a6 a7 a8, b2 g733 t730.1 t730.2.1 t730.2.2.1 t730.2.2.2.1 t730.2.2.2.2.1 t730.2.2.2.2.2.1 t730.2.2.2.2.2.2.1 t730.2.2.2.2.2.2.2.1] w759) := ⟨HS.out.call hS⟩
      clear hS
      replace HS : Aside0 (Sep (fps []) w [b1 g723 a5 a6 a7 a8] w759) := ⟨HS.out.sub (.cons_cons _ (.cons _ .slnil))⟩
      replace HS : Aside0 (Sep (fps []) w [] w759) := ⟨HS.out.sub (.cons _ .slnil)⟩
      go_wp2_with fail
      go_ret2
      rw [← some_eq H]
      exact ⟨(by first | rfl | (simp [IntKind.wrap_u32]; done)), HS.out⟩
    · have H := sum_r H
      refine (store_New.calls t730.1 (.inr t758) _ ⟨Sep.start _⟩ HA756).mono ?_
      rintro e_ w760 ⟨g763, rfl, A764, m765, n766, hS⟩
      replace HS : Aside0 (Sep (fps []) w [b6 g763 A764 m765 n766 0, r5 A764 m765 n766 t758, b1 g723 a5 a6 a7 a8, b2 g733 t730.1 t730.2.1 t730.2.2.1 t730.2.2.2.1 t730.2.2.2.2.1 t730.2.2.2.2.2.1 t730.2.2.2.2.2.2.1 t730.2.2.2.2.2.2.2.1] w760) := ⟨HS.out.call hS⟩
      clear hS
      obtain rfl := (row_len (HS.out.at1)).symm
      replace HS : Aside0 (Sep (fps []) w [b6 g763 A764 t758.length n766 0, r5 A764 t758.length n766 t758, b1 g723 a5 a6 a7 a8] w760) := ⟨HS.out.sub (.cons_cons _ (.cons_cons _ (.cons_cons _ (.cons _ .slnil))))⟩
      have hc768 : w760.cell? ⟨g723, 0, none⟩ = some (.int .i64 a5) := blk_cellv (HS.out.at2) 0 rfl
      have hc769 : w760.cell? ⟨g723, 1, none⟩ = some (.int .i64 a6) := blk_cellv (HS.out.at2) 1 rfl
      have hc770 : w760.cell? ⟨g723, 2, none⟩ = some (.int .i64 a7) := blk_cellv (HS.out.at2) 2 rfl
      have hc771 : w760.cell? ⟨g723, 3, none⟩ = some (.int .i64 a8) := blk_cellv (HS.out.at2) 3 rfl
      go_wp2_with (first | ((with_reducible refine gate_dst (N := 28) rfl ?_); refine box_on ?hg (N := 28) ?hd (cs := #[.pointer (some ⟨g763, 0, none⟩), .int .i64 a5, .int .i64 a6, .int .i64 a7, .int .i64 a8]) (t := 126) ?hr ?_; (case hd => rfl); (case hg => rfl); (case hr => first | (go_simp; done) | (go_simp; rfl)); intro g772 hg w773 hbox hb; clear hc768 hc769 hc770 hc771; replace HS : Aside0 (Sep (fps []) w [b6 g763 A764 t758.length n766 0, r5 A764 t758.length n766 t758, b1 g723 a5 a6 a7 a8, b7 g772 g763 a5 a6 a7 a8] w773) := ⟨HS.out.box hg hbox hb⟩; clear hg hbox hb; replace HS : Aside0 (Sep (fps []) w [b6 g763 A764 t758.length n766 0, r5 A764 t758.length n766 t758, b7 g772 g763 a5 a6 a7 a8] w773) := ⟨HS.out.sub (.cons_cons _ (.cons_cons _ (.cons _ (.cons_cons _ .slnil))))⟩))
      go_ret2
      rw [← some_eq H]
      exact ⟨g772, (by first | rfl | (simp [IntKind.wrap_u32]; done)), g763, A764, t758.length, n766, ((((HS.out).front 1 (by simp)).front 1 (by simp)).front 2 (by simp)).keep (l := [b7 g772 g763 a5 a6 a7 a8, b6 g763 A764 t758.length n766 0, r5 A764 t758.length n766 t758]) (rest := [])⟩
  · have H := if_no c753 H
    have c753b0 : (t730.2.2.2.2.2.2.2.2 == 0) = false := beq_eq_false_iff_ne.mpr c753
    have c753b1 : (t730.2.2.2.2.2.2.2.2 != 0) = true := bne_iff_ne.mpr c753
    clear c753
    go_wp2_with (first | ((with_reducible refine gate_dst (N := 4) rfl ?_); refine box_on ?hg (N := 4) ?hd (cs := #[.int .i64 0, .int .i64 0, .int .i64 0, .int .i64 0, .int .i64 0, .int .i64 0, .int .i64 0, .int .i64 0]) (t := 120) ?hr ?_; (case hd => rfl); (case hg => rfl); (case hr => first | (go_simp; done) | (go_simp; rfl)); intro g733 hg w734 hbox hb; replace HS : Aside0 (Sep (fps []) w [b1 g723 a5 a6 a7 a8, b2 g733 0 0 0 0 0 0 0 0] w734) := ⟨HS.out.box hg hbox hb⟩; clear hg hbox hb; have hc736 : w734.cell? ⟨g733, 0, none⟩ = some (.int .i64 0) := blk_cellv (HS.out.at1) 0 rfl; have hz737 : w734.frozen? ⟨g733, 0, none⟩ = false := blk_fz (HS.out.at1) 0; have hc738 : w734.cell? ⟨g733, 1, none⟩ = some (.int .i64 0) := blk_cellv (HS.out.at1) 1 rfl; have hz739 : w734.frozen? ⟨g733, 1, none⟩ = false := blk_fz (HS.out.at1) 1; have hc740 : w734.cell? ⟨g733, 2, none⟩ = some (.int .i64 0) := blk_cellv (HS.out.at1) 2 rfl; have hz741 : w734.frozen? ⟨g733, 2, none⟩ = false := blk_fz (HS.out.at1) 2; have hc742 : w734.cell? ⟨g733, 3, none⟩ = some (.int .i64 0) := blk_cellv (HS.out.at1) 3 rfl; have hz743 : w734.frozen? ⟨g733, 3, none⟩ = false := blk_fz (HS.out.at1) 3; have hc744 : w734.cell? ⟨g733, 4, none⟩ = some (.int .i64 0) := blk_cellv (HS.out.at1) 4 rfl; have hz745 : w734.frozen? ⟨g733, 4, none⟩ = false := blk_fz (HS.out.at1) 4; have hc746 : w734.cell? ⟨g733, 5, none⟩ = some (.int .i64 0) := blk_cellv (HS.out.at1) 5 rfl; have hz747 : w734.frozen? ⟨g733, 5, none⟩ = false := blk_fz (HS.out.at1) 5; have hc748 : w734.cell? ⟨g733, 6, none⟩ = some (.int .i64 0) := blk_cellv (HS.out.at1) 6 rfl; have hz749 : w734.frozen? ⟨g733, 6, none⟩ = false := blk_fz (HS.out.at1) 6; have hc750 : w734.cell? ⟨g733, 7, none⟩ = some (.int .i64 0) := blk_cellv (HS.out.at1) 7 rfl; have hz751 : w734.frozen? ⟨g733, 7, none⟩ = false := blk_fz (HS.out.at1) 7) | ((with_reducible refine gate_store (t := 120) (p := 4) rfl ?_); refine store_event (w1 := (World.setCell (World.setCell (World.setCell (World.setCell (World.setCell (World.setCell (World.setCell (World.setCell w734 ⟨g733, 0, none⟩ (.int .i64 t730.1)) ⟨g733, 1, none⟩ (.int .i64 t730.2.1)) ⟨g733, 2, none⟩ (.int .i64 t730.2.2.1)) ⟨g733, 3, none⟩ (.int .i64 t730.2.2.2.1)) ⟨g733, 4, none⟩ (.int .i64 t730.2.2.2.2.1)) ⟨g733, 5, none⟩ (.int .i64 t730.2.2.2.2.2.1)) ⟨g733, 6, none⟩ (.int .i64 t730.2.2.2.2.2.2.1)) ⟨g733, 7, none⟩ (.int .i64 t730.2.2.2.2.2.2.2.1))) rfl (t := 120) (p := 4) rfl rfl ?hr ?_; (case hr => first | (go_simp; done) | (go_simp; rfl)); intro w752 hst; clear hc736 hz737 hc738 hz739 hc740 hz741 hc742 hz743 hc744 hz745 hc746 hz747 hc748 hz749 hc750 hz751; replace HS : Aside0 (Sep (fps []) w [b1 g723 a5 a6 a7 a8, b2 g733 t730.1 t730.2.1 t730.2.2.1 t730.2.2.2.1 t730.2.2.2.2.1 t730.2.2.2.2.2.1 t730.2.2.2.2.2.2.1 t730.2.2.2.2.2.2.2.1] w752) := ⟨by rw [hst]; exact HS.out.setAll (l1 := [b1 g723 a5 a6 a7 a8]) (l2 := []) [.int .i64 t730.1, .int .i64 t730.2.1, .int .i64 t730.2.2.1, .int .i64 t730.2.2.2.1, .int .i64 t730.2.2.2.2.1, .int .i64 t730.2.2.2.2.2.1, .int .i64 t730.2.2.2.2.2.2.1, .int .i64 t730.2.2.2.2.2.2.2.1] rfl⟩; clear hst; replace HS : Aside0 (Sep (fps []) w [] w752) := ⟨HS.out.sub (.cons _ (.cons _ .slnil))⟩))
    go_ret2
    rw [← some_eq H]
    exact ⟨(by first | rfl | (simp [IntKind.wrap_u32]; done)), HS.out⟩

set_option maxHeartbeats 30000000 in
set_option maxRecDepth 100000 in
theorem chain_of.calls (l861 : List Int) (a866 : Int) (a867 : Int) (a868 : Int) (a869 : Int) (a870 : Int) (a871 : Int) (g857 : Nat) (g859 : Nat) (A862 : Option Addr) (m863 : Nat) (n864 : Nat) (r : Int × Int × Int × Bool) (w : World)   (HS : Aside0 (Sep (fps [b7 g857 g859 a867 a868 a869 a870, b6 g859 A862 m863 n864 a866, r5 A862 m863 n864 l861]) w [b7 g857 g859 a867 a868 a869 a870, b6 g859 A862 m863 n864 a866, r5 A862 m863 n864 l861] w)) (H : Aside0 (chain_of.f l861 a866 a867 a868 a869 a870 a871 = some r)) :
    Calls Try.prog 91 #[.pointer (some ⟨g857, 0, none⟩), .int .i64 a871] w fun e w' => e = .returned (.tuple #[.agg #[.int .i64 r.1, .int .i64 r.2.1, .int .i64 r.2.2.1], .bool r.2.2.2]) ∧ Sep (fps [b7 g857 g859 a867 a868 a869 a870, b6 g859 A862 m863 n864 a866, r5 A862 m863 n864 l861]) w [b7 g857 g859 a867 a868 a869 a870, b6 g859 A862 m863 n864 a866, r5 A862 m863 n864 l861] w' := by
  generalize (fps [b7 g857 g859 a867 a868 a869 a870, b6 g859 A862 m863 n864 a866, r5 A862 m863 n864 l861]) = FF at HS ⊢
  obtain rfl := (row_len (HS.out.at2)).symm
  unfold chain_of.f at H
  go_enter Try.func91, Try.ntmps91
  by_cases c875 : a871 < 0
  · have H := if_yes c875 H
    have c875b0 : decide (a871 < 0) = true := decide_eq_true c875
    clear c875
    go_wp2_with (first | ((with_reducible refine gate_dst (N := 4) rfl ?_); refine box_on ?hg (N := 4) ?hd (cs := #[.int .i64 0, .int .i64 0, .int .i64 0]) (t := 134) ?hr ?_; (case hd => rfl); (case hg => rfl); (case hr => first | (go_simp; done) | (go_simp; rfl)); intro g872 hg w873 hbox hb; replace HS : Aside0 (Sep FF w [b7 g857 g859 a867 a868 a869 a870, b6 g859 A862 l861.length n864 a866, r5 A862 l861.length n864 l861, b10 g872 0 0 0] w873) := ⟨HS.out.box hg hbox hb⟩; clear hg hbox hb; have hc876 : w873.cell? ⟨g872, 0, none⟩ = some (.int .i64 0) := blk_cellv (HS.out.at3) 0 rfl; have hz877 : w873.frozen? ⟨g872, 0, none⟩ = false := blk_fz (HS.out.at3) 0; have hc878 : w873.cell? ⟨g872, 1, none⟩ = some (.int .i64 0) := blk_cellv (HS.out.at3) 1 rfl; have hz879 : w873.frozen? ⟨g872, 1, none⟩ = false := blk_fz (HS.out.at3) 1; have hc880 : w873.cell? ⟨g872, 2, none⟩ = some (.int .i64 0) := blk_cellv (HS.out.at3) 2 rfl; have hz881 : w873.frozen? ⟨g872, 2, none⟩ = false := blk_fz (HS.out.at3) 2) | ((with_reducible refine gate_store (t := 134) (p := 4) rfl ?_); refine store_event (w1 := (World.setCell (World.setCell (World.setCell w873 ⟨g872, 0, none⟩ (.int .i64 0)) ⟨g872, 1, none⟩ (.int .i64 0)) ⟨g872, 2, none⟩ (.int .i64 0))) rfl (t := 134) (p := 4) rfl rfl ?hr ?_; (case hr => first | (go_simp; done) | (go_simp; rfl)); intro w882 hst; clear hc876 hz877 hc878 hz879 hc880 hz881; replace HS : Aside0 (Sep FF w [b7 g857 g859 a867 a868 a869 a870, b6 g859 A862 l861.length n864 a866, r5 A862 l861.length n864 l861, b10 g872 0 0 0] w882) := ⟨by rw [hst]; exact HS.out.setAll (l1 := [b7 g857 g859 a867 a868 a869 a870, b6 g859 A862 l861.length n864 a866, r5 A862 l861.length n864 l861]) (l2 := []) [.int .i64 0, .int .i64 0, .int .i64 0] rfl⟩; clear hst))
    have hc883 : w882.cell? ⟨g872, 0, none⟩ = some (.int .i64 0) := blk_cellv (HS.out.at3) 0 rfl
    have hc884 : w882.cell? ⟨g872, 1, none⟩ = some (.int .i64 0) := blk_cellv (HS.out.at3) 1 rfl
    have hc885 : w882.cell? ⟨g872, 2, none⟩ = some (.int .i64 0) := blk_cellv (HS.out.at3) 2 rfl
    refine bodyPost_ret (v := .tuple #[.agg #[.int .i64 0, .int .i64 0, .int .i64 0], .bool false]) (by simp [results, Try.results91, go_sem, hc883, hc884, hc885]) rfl ?_
    rw [← some_eq H]
    exact ⟨(by first | rfl | (simp [IntKind.wrap_u32]; done)), HS.out.sub (.cons_cons _ (.cons_cons _ (.cons_cons _ (.cons _ .slnil))))⟩
  · have H := if_no c875 H
    have c875b0 : decide (a871 < 0) = false := decide_eq_false c875
    clear c875
    by_cases c886 : a871 > 1
    · have H := if_yes c886 H
      have c886b0 : decide (1 < a871) = true := decide_eq_true c886
      clear c886
      go_wp2_with (first | ((with_reducible refine gate_dst (N := 4) rfl ?_); refine box_on ?hg (N := 4) ?hd (cs := #[.int .i64 0, .int .i64 0, .int .i64 0]) (t := 134) ?hr ?_; (case hd => rfl); (case hg => rfl); (case hr => first | (go_simp; done) | (go_simp; rfl)); intro g872 hg w873 hbox hb; replace HS : Aside0 (Sep FF w [b7 g857 g859 a867 a868 a869 a870, b6 g859 A862 l861.length n864 a866, r5 A862 l861.length n864 l861, b10 g872 0 0 0] w873) := ⟨HS.out.box hg hbox hb⟩; clear hg hbox hb; have hc887 : w873.cell? ⟨g872, 0, none⟩ = some (.int .i64 0) := blk_cellv (HS.out.at3) 0 rfl; have hz888 : w873.frozen? ⟨g872, 0, none⟩ = false := blk_fz (HS.out.at3) 0; have hc889 : w873.cell? ⟨g872, 1, none⟩ = some (.int .i64 0) := blk_cellv (HS.out.at3) 1 rfl; have hz890 : w873.frozen? ⟨g872, 1, none⟩ = false := blk_fz (HS.out.at3) 1; have hc891 : w873.cell? ⟨g872, 2, none⟩ = some (.int .i64 0) := blk_cellv (HS.out.at3) 2 rfl; have hz892 : w873.frozen? ⟨g872, 2, none⟩ = false := blk_fz (HS.out.at3) 2) | ((with_reducible refine gate_store (t := 134) (p := 4) rfl ?_); refine store_event (w1 := (World.setCell (World.setCell (World.setCell w873 ⟨g872, 0, none⟩ (.int .i64 0)) ⟨g872, 1, none⟩ (.int .i64 0)) ⟨g872, 2, none⟩ (.int .i64 0))) rfl (t := 134) (p := 4) rfl rfl ?hr ?_; (case hr => first | (go_simp; done) | (go_simp; rfl)); intro w893 hst; clear hc887 hz888 hc889 hz890 hc891 hz892; replace HS : Aside0 (Sep FF w [b7 g857 g859 a867 a868 a869 a870, b6 g859 A862 l861.length n864 a866, r5 A862 l861.length n864 l861, b10 g872 0 0 0] w893) := ⟨by rw [hst]; exact HS.out.setAll (l1 := [b7 g857 g859 a867 a868 a869 a870, b6 g859 A862 l861.length n864 a866, r5 A862 l861.length n864 l861]) (l2 := []) [.int .i64 0, .int .i64 0, .int .i64 0] rfl⟩; clear hst))
      have hc894 : w893.cell? ⟨g872, 0, none⟩ = some (.int .i64 0) := blk_cellv (HS.out.at3) 0 rfl
      have hc895 : w893.cell? ⟨g872, 1, none⟩ = some (.int .i64 0) := blk_cellv (HS.out.at3) 1 rfl
      have hc896 : w893.cell? ⟨g872, 2, none⟩ = some (.int .i64 0) := blk_cellv (HS.out.at3) 2 rfl
      refine bodyPost_ret (v := .tuple #[.agg #[.int .i64 0, .int .i64 0, .int .i64 0], .bool false]) (by simp [results, Try.results91, go_sem, hc894, hc895, hc896]) rfl ?_
      rw [← some_eq H]
      exact ⟨(by first | rfl | (simp [IntKind.wrap_u32]; done)), HS.out.sub (.cons_cons _ (.cons_cons _ (.cons_cons _ (.cons _ .slnil))))⟩
    · have H := if_no c886 H
      have c886b0 : decide (1 < a871) = false := decide_eq_false c886
      clear c886
      go_wp2_with (first | ((with_reducible refine gate_dst (N := 4) rfl ?_); refine box_on ?hg (N := 4) ?hd (cs := #[.int .i64 0, .int .i64 0, .int .i64 0]) (t := 134) ?hr ?_; (case hd => rfl); (case hg => rfl); (case hr => first | (go_simp; done) | (go_simp; rfl)); intro g872 hg w873 hbox hb; replace HS : Aside0 (Sep FF w [b7 g857 g859 a867 a868 a869 a870, b6 g859 A862 l861.length n864 a866, r5 A862 l861.length n864 l861, b10 g872 0 0 0] w873) := ⟨HS.out.box hg hbox hb⟩; clear hg hbox hb; have hc897 : w873.cell? ⟨g872, 0, none⟩ = some (.int .i64 0) := blk_cellv (HS.out.at3) 0 rfl; have hz898 : w873.frozen? ⟨g872, 0, none⟩ = false := blk_fz (HS.out.at3) 0; have hc899 : w873.cell? ⟨g872, 1, none⟩ = some (.int .i64 0) := blk_cellv (HS.out.at3) 1 rfl; have hz900 : w873.frozen? ⟨g872, 1, none⟩ = false := blk_fz (HS.out.at3) 1; have hc901 : w873.cell? ⟨g872, 2, none⟩ = some (.int .i64 0) := blk_cellv (HS.out.at3) 2 rfl; have hz902 : w873.frozen? ⟨g872, 2, none⟩ = false := blk_fz (HS.out.at3) 2) | ((with_reducible refine gate_store (t := 134) (p := 4) rfl ?_); refine store_event (w1 := (World.setCell (World.setCell (World.setCell w873 ⟨g872, 0, none⟩ (.int .i64 (wrap64 (3 * a871)))) ⟨g872, 1, none⟩ (.int .i64 (wrap64 ((wrap64 (3 * a871)) + 1)))) ⟨g872, 2, none⟩ (.int .i64 (wrap64 ((wrap64 (3 * a871)) + 2))))) rfl (t := 134) (p := 4) rfl rfl ?hr ?_; (case hr => first | (go_simp; done) | (go_simp; rfl)); intro w903 hst; clear hc897 hz898 hc899 hz900 hc901 hz902; replace HS : Aside0 (Sep FF w [b7 g857 g859 a867 a868 a869 a870, b6 g859 A862 l861.length n864 a866, r5 A862 l861.length n864 l861, b10 g872 (wrap64 (3 * a871)) (wrap64 ((wrap64 (3 * a871)) + 1)) (wrap64 ((wrap64 (3 * a871)) + 2))] w903) := ⟨by rw [hst]; exact HS.out.setAll (l1 := [b7 g857 g859 a867 a868 a869 a870, b6 g859 A862 l861.length n864 a866, r5 A862 l861.length n864 l861]) (l2 := []) [.int .i64 (wrap64 (3 * a871)), .int .i64 (wrap64 ((wrap64 (3 * a871)) + 1)), .int .i64 (wrap64 ((wrap64 (3 * a871)) + 2))] rfl⟩; clear hst))
      have hc904 : w903.cell? ⟨g872, 0, none⟩ = some (.int .i64 (wrap64 (3 * a871))) := blk_cellv (HS.out.at3) 0 rfl
      have hc905 : w903.cell? ⟨g872, 1, none⟩ = some (.int .i64 (wrap64 ((wrap64 (3 * a871)) + 1))) := blk_cellv (HS.out.at3) 1 rfl
      have hc906 : w903.cell? ⟨g872, 2, none⟩ = some (.int .i64 (wrap64 ((wrap64 (3 * a871)) + 2))) := blk_cellv (HS.out.at3) 2 rfl
      refine bodyPost_ret (v := .tuple #[.agg #[.int .i64 (wrap64 (3 * a871)), .int .i64 (wrap64 ((wrap64 (3 * a871)) + 1)), .int .i64 (wrap64 ((wrap64 (3 * a871)) + 2))], .bool true]) (by simp [results, Try.results91, go_sem, hc904, hc905, hc906]) rfl ?_
      rw [← some_eq H]
      exact ⟨(by first | rfl | (simp [IntKind.wrap_u32]; done)), HS.out.sub (.cons_cons _ (.cons_cons _ (.cons_cons _ (.cons _ .slnil))))⟩

set_option maxHeartbeats 30000000 in
set_option maxRecDepth 100000 in
theorem ground_Ground_Conf.calls (l927 : List Int) (a932 : Int) (a933 : Int) (a934 : Int) (a935 : Int) (a936 : Int) (g923 : Nat) (g925 : Nat) (A928 : Option Addr) (m929 : Nat) (n930 : Nat) (r : Int × Int × Int × Int) (w : World)   (HS : Aside0 (Sep (fps [b7 g923 g925 a933 a934 a935 a936, b6 g925 A928 m929 n930 a932, r5 A928 m929 n930 l927]) w [b7 g923 g925 a933 a934 a935 a936, b6 g925 A928 m929 n930 a932, r5 A928 m929 n930 l927] w)) (H : Aside0 (ground_Ground_Conf.f l927 a932 a933 a934 a935 a936 = some r)) :
    Calls Try.prog 39 #[.pointer (some ⟨g923, 0, none⟩)] w fun e w' => e = .returned (.agg #[.int .i64 r.1, .int .i64 r.2.1, .int .i64 r.2.2.1, .int .i64 r.2.2.2]) ∧ Sep (fps [b7 g923 g925 a933 a934 a935 a936, b6 g925 A928 m929 n930 a932, r5 A928 m929 n930 l927]) w [b7 g923 g925 a933 a934 a935 a936, b6 g925 A928 m929 n930 a932, r5 A928 m929 n930 l927] w' := by
  generalize (fps [b7 g923 g925 a933 a934 a935 a936, b6 g925 A928 m929 n930 a932, r5 A928 m929 n930 l927]) = FF at HS ⊢
  obtain rfl := (row_len (HS.out.at2)).symm
  unfold ground_Ground_Conf.f at H
  go_enter Try.func39, Try.ntmps39
  go_wp2_with (first | ((with_reducible refine gate_dst (N := 2) rfl ?_); refine box_on ?hg (N := 2) ?hd (cs := #[.int .i64 0, .int .i64 0, .int .i64 0, .int .i64 0]) (t := 49) ?hr ?_; (case hd => rfl); (case hg => rfl); (case hr => first | (go_simp; done) | (go_simp; rfl)); intro g937 hg w938 hbox hb; replace HS : Aside0 (Sep FF w [b7 g923 g925 a933 a934 a935 a936, b6 g925 A928 l927.length n930 a932, r5 A928 l927.length n930 l927, b1 g937 0 0 0 0] w938) := ⟨HS.out.box hg hbox hb⟩; clear hg hbox hb; have hc940 : w938.cell? ⟨g923, 1, none⟩ = some (.int .i64 a933) := blk_cellv (HS.out.at0) 1 rfl; have hc941 : w938.cell? ⟨g923, 2, none⟩ = some (.int .i64 a934) := blk_cellv (HS.out.at0) 2 rfl; have hc942 : w938.cell? ⟨g923, 3, none⟩ = some (.int .i64 a935) := blk_cellv (HS.out.at0) 3 rfl; have hc943 : w938.cell? ⟨g923, 4, none⟩ = some (.int .i64 a936) := blk_cellv (HS.out.at0) 4 rfl; have hc944 : w938.cell? ⟨g937, 0, none⟩ = some (.int .i64 0) := blk_cellv (HS.out.at3) 0 rfl; have hz945 : w938.frozen? ⟨g937, 0, none⟩ = false := blk_fz (HS.out.at3) 0; have hc946 : w938.cell? ⟨g937, 1, none⟩ = some (.int .i64 0) := blk_cellv (HS.out.at3) 1 rfl; have hz947 : w938.frozen? ⟨g937, 1, none⟩ = false := blk_fz (HS.out.at3) 1; have hc948 : w938.cell? ⟨g937, 2, none⟩ = some (.int .i64 0) := blk_cellv (HS.out.at3) 2 rfl; have hz949 : w938.frozen? ⟨g937, 2, none⟩ = false := blk_fz (HS.out.at3) 2; have hc950 : w938.cell? ⟨g937, 3, none⟩ = some (.int .i64 0) := blk_cellv (HS.out.at3) 3 rfl; have hz951 : w938.frozen? ⟨g937, 3, none⟩ = false := blk_fz (HS.out.at3) 3) | ((with_reducible refine gate_store (t := 49) (p := 2) rfl ?_); refine store_event (w1 := (World.setCell (World.setCell (World.setCell (World.setCell w938 ⟨g937, 0, none⟩ (.int .i64 a933)) ⟨g937, 1, none⟩ (.int .i64 a934)) ⟨g937, 2, none⟩ (.int .i64 a935)) ⟨g937, 3, none⟩ (.int .i64 a936))) rfl (t := 49) (p := 2) rfl rfl ?hr ?_; (case hr => first | (go_simp; done) | (go_simp; rfl)); intro w952 hst; clear hc940 hc941 hc942 hc943 hc944 hz945 hc946 hz947 hc948 hz949 hc950 hz951; replace HS : Aside0 (Sep FF w [b7 g923 g925 a933 a934 a935 a936, b6 g925 A928 l927.length n930 a932, r5 A928 l927.length n930 l927, b1 g937 a933 a934 a935 a936] w952) := ⟨by rw [hst]; exact HS.out.setAll (l1 := [b7 g923 g925 a933 a934 a935 a936, b6 g925 A928 l927.length n930 a932, r5 A928 l927.length n930 l927]) (l2 := []) [.int .i64 a933, .int .i64 a934, .int .i64 a935, .int .i64 a936] rfl⟩; clear hst))
  have hc953 : w952.cell? ⟨g937, 0, none⟩ = some (.int .i64 a933) := blk_cellv (HS.out.at3) 0 rfl
  have hc954 : w952.cell? ⟨g937, 1, none⟩ = some (.int .i64 a934) := blk_cellv (HS.out.at3) 1 rfl
  have hc955 : w952.cell? ⟨g937, 2, none⟩ = some (.int .i64 a935) := blk_cellv (HS.out.at3) 2 rfl
  have hc956 : w952.cell? ⟨g937, 3, none⟩ = some (.int .i64 a936) := blk_cellv (HS.out.at3) 3 rfl
  refine bodyPost_ret (v := .agg #[.int .i64 a933, .int .i64 a934, .int .i64 a935, .int .i64 a936]) (by simp [results, Try.results39, go_sem, hc953, hc954, hc955, hc956]) rfl ?_
  rw [← some_eq H]
  exact ⟨(by first | rfl | (simp [IntKind.wrap_u32]; done)), HS.out.sub (.cons_cons _ (.cons_cons _ (.cons_cons _ (.cons _ .slnil))))⟩

set_option maxHeartbeats 30000000 in
set_option maxRecDepth 100000 in
theorem ground_Ground_all.calls (l984 : List Int) (a989 : Int) (a990 : Int) (a991 : Int) (a992 : Int) (a993 : Int) (g980 : Nat) (g982 : Nat) (A985 : Option Addr) (m986 : Nat) (n987 : Nat) (r : Unit) (w : World)   (HS : Aside0 (Sep (fps [b7 g980 g982 a990 a991 a992 a993, b6 g982 A985 m986 n987 a989, r5 A985 m986 n987 l984]) w [b7 g980 g982 a990 a991 a992 a993, b6 g982 A985 m986 n987 a989, r5 A985 m986 n987 l984] w)) (H : Aside0 (ground_Ground_all.f l984 a989 a990 a991 a992 a993 = some r)) :
    Calls Try.prog 77 #[.pointer (some ⟨g980, 0, none⟩)] w fun e w' => e = .returned (.pointer (some ⟨g982, 0, none⟩)) ∧ Sep (fps [b7 g980 g982 a990 a991 a992 a993, b6 g982 A985 m986 n987 a989, r5 A985 m986 n987 l984]) w [b7 g980 g982 a990 a991 a992 a993, b6 g982 A985 m986 n987 a989, r5 A985 m986 n987 l984] w' := by
  generalize (fps [b7 g980 g982 a990 a991 a992 a993, b6 g982 A985 m986 n987 a989, r5 A985 m986 n987 l984]) = FF at HS ⊢
  obtain rfl := (row_len (HS.out.at2)).symm
  unfold ground_Ground_all.f at H
  go_enter Try.func77, Try.ntmps77
  have hc994 : w.cell? ⟨g980, 0, none⟩ = some (.pointer (some ⟨g982, 0, none⟩)) := blk_cellv (HS.out.at0) 0 rfl
  go_wp2_with fail
  clear hc994
  go_ret
  clear H
  exact ⟨(by first | rfl | (simp [IntKind.wrap_u32]; done)), HS.out⟩

set_option maxHeartbeats 30000000 in
set_option maxRecDepth 100000 in
theorem ground_within.calls (a999 : Int) (a1000 : Int) (a1001 : Int) (r : Int) (w : World)   (HS : Aside0 (Sep (fps []) w [] w)) (H : Aside0 (ground_within.f a999 a1000 a1001 = some r)) :
    Calls Try.prog 109 #[.int .i64 a999, .int .i64 a1000, .int .i64 a1001] w fun e w' => e = .returned (.int .i64 r) ∧ Sep (fps []) w [] w' := by
  unfold ground_within.f at H
  go_enter Try.func109, Try.ntmps109
  by_cases c1002 : a999 < 0
  · have H := if_yes c1002 H
    have c1002b0 : decide (a999 < 0) = true := decide_eq_true c1002
    clear c1002
    go_wp2_with fail
    go_ret
    rw [← some_eq H]
    exact ⟨(by first | rfl | (simp [IntKind.wrap_u32]; done)), HS.out⟩
  · have H := if_no c1002 H
    have c1002b0 : decide (a999 < 0) = false := decide_eq_false c1002
    clear c1002
    by_cases c1003 : a999 ≥ a1000
    · have H := if_yes c1003 H
      have c1003b0 : decide (a1000 ≤ a999) = true := decide_eq_true c1003
      clear c1003
      go_wp2_with fail
      go_ret
      rw [← some_eq H]
      exact ⟨(by first | rfl | (simp [IntKind.wrap_u32]; done)), HS.out⟩
    · have H := if_no c1003 H
      have c1003b0 : decide (a1000 ≤ a999) = false := decide_eq_false c1003
      clear c1003
      go_wp2_with fail
      go_ret
      rw [← some_eq H]
      exact ⟨(by first | rfl | (simp [IntKind.wrap_u32]; done)), HS.out⟩

set_option maxHeartbeats 30000000 in
set_option maxRecDepth 100000 in
theorem ground_reg.calls (a998 : Int) (r : Int) (w : World)   (HS : Aside0 (Sep (fps []) w [] w)) (H : Aside0 (ground_reg.f a998 = some r)) :
    Calls Try.prog 78 #[.int .i64 a998] w fun e w' => e = .returned (.int .i64 r) ∧ Sep (fps []) w [] w' := by
  unfold ground_reg.f at H
  go_enter Try.func78, Try.ntmps78
  go_wp2_with fail
  obtain ⟨t1004, HA1005, H⟩ := bind_some H
  refine (ground_within.calls a998 24 0 t1004 _ ⟨Sep.start _⟩ HA1005).mono ?_
  rintro e_ w1006 ⟨rfl, hS⟩
  replace HS : Aside0 (Sep (fps []) w [] w1006) := ⟨HS.out.call hS⟩
  clear hS
  go_wp2_with fail
  go_ret
  rw [← some_eq H]
  exact ⟨(by first | rfl | (simp [IntKind.wrap_u32]; done)), HS.out⟩

set_option maxHeartbeats 30000000 in
set_option maxRecDepth 100000 in
theorem store_Store_has.calls (l1023 : List Int) (a1028 : Int) (a1029 : Int) (g1021 : Nat) (A1024 : Option Addr) (m1025 : Nat) (n1026 : Nat) (r : Bool) (w : World)   (HS : Aside0 (Sep (fps [b6 g1021 A1024 m1025 n1026 a1028, r5 A1024 m1025 n1026 l1023]) w [b6 g1021 A1024 m1025 n1026 a1028, r5 A1024 m1025 n1026 l1023] w)) (H : Aside0 (store_Store_has.f l1023 a1028 a1029 = some r)) :
    Calls Try.prog 69 #[.pointer (some ⟨g1021, 0, none⟩), .int .i64 a1029] w fun e w' => e = .returned (.bool r) ∧ Sep (fps [b6 g1021 A1024 m1025 n1026 a1028, r5 A1024 m1025 n1026 l1023]) w [b6 g1021 A1024 m1025 n1026 a1028, r5 A1024 m1025 n1026 l1023] w' := by
  generalize (fps [b6 g1021 A1024 m1025 n1026 a1028, r5 A1024 m1025 n1026 l1023]) = FF at HS ⊢
  obtain rfl := (row_len (HS.out.at1)).symm
  unfold store_Store_has.f at H
  go_enter Try.func69, Try.ntmps69
  by_cases c1030 : a1029 ≥ 0
  · have H := if_yes c1030 H
    have c1030b0 : decide (0 ≤ a1029) = true := decide_eq_true c1030
    clear c1030
    have hc1031 : w.cell? ⟨g1021, 0, none⟩ = some (.slice A1024 l1023.length n1026) := blk_cellv (HS.out.at0) 0 rfl
    go_wp2_with fail
    clear hc1031
    go_ret
    rw [← some_eq H]
    exact ⟨(by first | rfl | (simp [IntKind.wrap_u32]; done)), HS.out⟩
  · have H := if_no c1030 H
    have c1030b0 : decide (0 ≤ a1029) = false := decide_eq_false c1030
    clear c1030
    go_wp2_with fail
    go_ret
    rw [← some_eq H]
    exact ⟨(by first | rfl | (simp [IntKind.wrap_u32]; done)), HS.out⟩

set_option maxHeartbeats 30000000 in
set_option maxRecDepth 100000 in
theorem atomic_Uint64_Add.calls (l1039 : List Int) (a1044 : Int) (a1045 : Int) (g1037 : Nat) (A1040 : Option Addr) (m1041 : Nat) (n1042 : Nat) (r : Int × Int) (w : World)   (HS : Aside0 (Sep (fps [b6 g1037 A1040 m1041 n1042 a1044, r5 A1040 m1041 n1042 l1039]) w [b6 g1037 A1040 m1041 n1042 a1044, r5 A1040 m1041 n1042 l1039] w)) (H : Aside0 (atomic_Uint64_Add.f l1039 a1044 a1045 = some r)) :
    Calls Try.prog 71 #[.pointer (some ⟨g1037, 1, none⟩), .int .u64 a1045] w fun e w' => e = .returned (.int .u64 r.1) ∧ Sep (fps [b6 g1037 A1040 m1041 n1042 a1044, r5 A1040 m1041 n1042 l1039]) w [b6 g1037 A1040 m1041 n1042 r.2, r5 A1040 m1041 n1042 l1039] w' := by
  generalize (fps [b6 g1037 A1040 m1041 n1042 a1044, r5 A1040 m1041 n1042 l1039]) = FF at HS ⊢
  obtain rfl := (row_len (HS.out.at1)).symm
  unfold atomic_Uint64_Add.f at H
  go_enter Try.func71, Try.ntmps71
  obtain ⟨y1055, HA1056, H⟩ := bind_some H
  have hc1052 : w.cell? ⟨g1037, 1, none⟩ = some (.int .u64 a1044) := blk_cellv (HS.out.at0) 1 rfl
  have hz1054 : w.frozen? ⟨g1037, 1, none⟩ = false := blk_fz (HS.out.at0) 1
  have hn1053 : (callFunc 104 #[.pointer (some ⟨g1037, 1, none⟩), .int .u64 a1045]).run Try.prog w = .ok (.value (.int .u64 y1055)) ((World.setCell w ⟨g1037, 1, none⟩ (.int .u64 y1055))) := (some_eq HA1056) ▸ run_call_add Try.func104 (by kernel_rfl) (by kernel_rfl) (by kernel_rfl) .u64 (by kernel_rfl) hc1052 hz1054 (by rfl)
  go_wp2_with (first | ((with_reducible refine gate_dst (N := 9) rfl ?_); refine run_on2 (by rfl) (w1 := (World.setCell w ⟨g1037, 1, none⟩ (.int .u64 y1055))) (v := .int .u64 y1055) ?hr ?_; (case hr => first | (go_simp; done) | (go_simp; rfl)); intro w1057 hst; clear hc1052 hz1054; have hq0 : Sep FF w [b6 g1037 A1040 l1039.length n1042 y1055, r5 A1040 l1039.length n1042 l1039] (World.setCell w ⟨g1037, 1, none⟩ (.int .u64 y1055)) := (HS.out).set1 (l1 := []) (l2 := [r5 A1040 l1039.length n1042 l1039]) 1 (.int .u64 y1055); replace HS : Aside0 (Sep FF w [b6 g1037 A1040 l1039.length n1042 y1055, r5 A1040 l1039.length n1042 l1039] w1057) := ⟨by rw [hst]; exact hq0⟩; clear hst hn1053 hq0))
  go_ret
  rw [← some_eq H]
  exact ⟨(by first | rfl | (simp [IntKind.wrap_u32]; done)), HS.out⟩

set_option maxHeartbeats 30000000 in
set_option maxRecDepth 100000 in
theorem store_Store_Get.calls (l1013 : List Int) (a1018 : Int) (a1019 : Int) (g1011 : Nat) (A1014 : Option Addr) (m1015 : Nat) (n1016 : Nat) (r : Int × Int) (w : World)   (HS : Aside0 (Sep (fps [b6 g1011 A1014 m1015 n1016 a1018, r5 A1014 m1015 n1016 l1013]) w [b6 g1011 A1014 m1015 n1016 a1018, r5 A1014 m1015 n1016 l1013] w)) (H : Aside0 (store_Store_Get.f l1013 a1018 a1019 = some r)) :
    Calls Try.prog 25 #[.pointer (some ⟨g1011, 0, none⟩), .int .i64 a1019] w fun e w' => e = .returned (.int .u32 r.1) ∧ Sep (fps [b6 g1011 A1014 m1015 n1016 a1018, r5 A1014 m1015 n1016 l1013]) w [b6 g1011 A1014 m1015 n1016 r.2, r5 A1014 m1015 n1016 l1013] w' := by
  generalize (fps [b6 g1011 A1014 m1015 n1016 a1018, r5 A1014 m1015 n1016 l1013]) = FF at HS ⊢
  obtain rfl := (row_len (HS.out.at1)).symm
  unfold store_Store_Get.f at H
  go_enter Try.func25, Try.ntmps25
  go_wp2_with fail
  obtain ⟨t1067, HA1068, H⟩ := bind_some H
  refine (store_Store_has.calls l1013 a1018 a1019 g1011 A1014 l1013.length n1016 t1067 _ ⟨HS.out.begin⟩ HA1068).mono ?_
  rintro e_ w1069 ⟨rfl, hS⟩
  replace HS : Aside0 (Sep FF w [b6 g1011 A1014 l1013.length n1016 a1018, r5 A1014 l1013.length n1016 l1013] w1069) := ⟨HS.out.call hS⟩
  clear hS
  by_cases c1070 : t1067 = true
  · have H := if_yes c1070 H
    have c1070b0 : t1067 = true := c1070
    have c1070b1 : (!t1067) = false := by rw [c1070b0]; rfl
    try rw [c1070b1]
    clear c1070
    go_wp2_with fail
    obtain ⟨t1071, HA1072, H⟩ := bind_some H
    refine (atomic_Uint64_Add.calls l1013 a1018 1 g1011 A1014 l1013.length n1016 t1071 _ ⟨HS.out.begin⟩ HA1072).mono ?_
    rintro e_ w1073 ⟨rfl, hS⟩
    replace HS : Aside0 (Sep FF w [b6 g1011 A1014 l1013.length n1016 t1071.2, r5 A1014 l1013.length n1016 l1013] w1073) := ⟨HS.out.call hS⟩
    clear hS
    by_cases c1075 : 0 ≤ a1019
    · have H := if_yes c1075 H
      have c1075b0 : decide (0 ≤ a1019) = true := decide_eq_true c1075
      have c1075p : (0 ≤ a1019) = True := eq_true c1075
      clear c1075
      by_cases c1076 : a1019 < (l1013.length : Int)
      · have H := if_yes c1076 H
        have c1076b0 : decide (a1019 < (l1013.length : Int)) = true := decide_eq_true c1076
        have c1076p : (a1019 < (l1013.length : Int)) = True := eq_true c1076
        clear c1076
        have hc1074 : w1073.cell? ⟨g1011, 0, none⟩ = some (.slice A1014 l1013.length n1016) := blk_cellv (HS.out.at0) 0 rfl
        obtain ⟨g1077, ea⟩ := row_at (HS.out.at1) (by have := (of_decide_eq_true c1075b0); have := (of_decide_eq_true c1076b0); omega); cases ea
        have hx1078 := C_at_int (row_Ci (HS.out.at1)) a1019 (of_decide_eq_true c1075b0) (of_decide_eq_true c1076b0)
        have hx1079 : w1073.cell? ⟨g1077, (a1019).toNat, none⟩ = some (.int .u32 (rd l1013 a1019)) := (row_get 0 (HS.out.at1) a1019 (of_decide_eq_true c1075b0) (of_decide_eq_true c1076b0)).1
        go_wp2_with fail
        clear hc1074 hx1078 hx1079
        go_ret
        rw [← some_eq H]
        exact ⟨(by first | rfl | (simp [IntKind.wrap_u32]; done)), HS.out⟩
      · have H := if_no c1076 H
        have c1076b0 : decide (a1019 < (l1013.length : Int)) = false := decide_eq_false c1076
        clear c1076
        exact (none_no H).elim
    · have H := if_no c1075 H
      have c1075b0 : decide (0 ≤ a1019) = false := decide_eq_false c1075
      clear c1075
      exact (none_no H).elim
  · have H := if_no c1070 H
    have c1070b0 : t1067 = false := by simpa using c1070
    have c1070b1 : (!t1067) = true := by rw [c1070b0]; rfl
    try rw [c1070b1]
    clear c1070
    go_wp2_with fail
    go_ret
    rw [← some_eq H]
    exact ⟨(by first | rfl | (simp [IntKind.wrap_u32]; done)), HS.out⟩

set_option maxHeartbeats 30000000 in
set_option maxRecDepth 100000 in
theorem ground_Ground_Reg.calls (l968 : List Int) (a973 : Int) (a974 : Int) (a975 : Int) (a976 : Int) (a977 : Int) (a978 : Int) (g964 : Nat) (g966 : Nat) (A969 : Option Addr) (m970 : Nat) (n971 : Nat) (r : Int × Int) (w : World)   (HS : Aside0 (Sep (fps [b7 g964 g966 a974 a975 a976 a977, b6 g966 A969 m970 n971 a973, r5 A969 m970 n971 l968]) w [b7 g964 g966 a974 a975 a976 a977, b6 g966 A969 m970 n971 a973, r5 A969 m970 n971 l968] w)) (H : Aside0 (ground_Ground_Reg.f l968 a973 a974 a975 a976 a977 a978 = some r)) :
    Calls Try.prog 36 #[.pointer (some ⟨g964, 0, none⟩), .int .i64 a978] w fun e w' => e = .returned (.int .i64 r.1) ∧ Sep (fps [b7 g964 g966 a974 a975 a976 a977, b6 g966 A969 m970 n971 a973, r5 A969 m970 n971 l968]) w [b7 g964 g966 a974 a975 a976 a977, b6 g966 A969 m970 n971 r.2, r5 A969 m970 n971 l968] w' := by
  generalize (fps [b7 g964 g966 a974 a975 a976 a977, b6 g966 A969 m970 n971 a973, r5 A969 m970 n971 l968]) = FF at HS ⊢
  obtain rfl := (row_len (HS.out.at2)).symm
  unfold ground_Ground_Reg.f at H
  go_enter Try.func36, Try.ntmps36
  go_wp2_with fail
  obtain ⟨t1083, HA1084, H⟩ := bind_some H
  refine (ground_Ground_all.calls l968 a973 a974 a975 a976 a977 g964 g966 A969 l968.length n971 t1083 _ ⟨HS.out.begin⟩ HA1084).mono ?_
  rintro e_ w1085 ⟨rfl, hS⟩
  replace HS : Aside0 (Sep FF w [b7 g964 g966 a974 a975 a976 a977, b6 g966 A969 l968.length n971 a973, r5 A969 l968.length n971 l968] w1085) := ⟨HS.out.call hS⟩
  clear hS
  go_wp2_with fail
  obtain ⟨t1086, HA1087, H⟩ := bind_some H
  refine (ground_reg.calls a978 t1086 _ ⟨Sep.start _⟩ HA1087).mono ?_
  rintro e_ w1088 ⟨rfl, hS⟩
  replace HS : Aside0 (Sep FF w [b7 g964 g966 a974 a975 a976 a977, b6 g966 A969 l968.length n971 a973, r5 A969 l968.length n971 l968] w1088) := ⟨HS.out.call hS⟩
  clear hS
  go_wp2_with fail
  replace HS : Aside0 (Sep FF w [r5 A969 l968.length n971 l968, b7 g964 g966 a974 a975 a976 a977, b6 g966 A969 l968.length n971 a973] w1088) := ⟨HS.out.front 2 (by simp)⟩
  replace HS : Aside0 (Sep FF w [b6 g966 A969 l968.length n971 a973, r5 A969 l968.length n971 l968, b7 g964 g966 a974 a975 a976 a977] w1088) := ⟨HS.out.front 2 (by simp)⟩
  obtain ⟨t1089, HA1090, H⟩ := bind_some H
  refine (store_Store_Get.calls l968 a973 t1086 g966 A969 l968.length n971 t1089 _ ⟨HS.out.begin⟩ HA1090).mono ?_
  rintro e_ w1091 ⟨rfl, hS⟩
  replace HS : Aside0 (Sep FF w [b6 g966 A969 l968.length n971 t1089.2, r5 A969 l968.length n971 l968, b7 g964 g966 a974 a975 a976 a977] w1091) := ⟨HS.out.call hS⟩
  clear hS
  go_wp2_with fail
  go_ret
  rw [← some_eq H]
  exact ⟨(by first | rfl | (simp [IntKind.wrap_u32]; done)), ((((HS.out).front 1 (by simp)).front 1 (by simp)).front 2 (by simp)).keep (l := [b7 g964 g966 a974 a975 a976 a977, b6 g966 A969 l968.length n971 t1089.2, r5 A969 l968.length n971 l968]) (rest := [])⟩

set_option maxHeartbeats 30000000 in
set_option maxRecDepth 100000 in
theorem ground_Ground_word.calls (l1154 : List Int) (a1159 : Int) (a1160 : Int) (a1161 : Int) (a1162 : Int) (a1163 : Int) (a1164 : Int) (a1165 : Int) (g1150 : Nat) (g1152 : Nat) (A1155 : Option Addr) (m1156 : Nat) (n1157 : Nat) (r : Int) (w : World)   (HS : Aside0 (Sep (fps [b7 g1150 g1152 a1160 a1161 a1162 a1163, b6 g1152 A1155 m1156 n1157 a1159, r5 A1155 m1156 n1157 l1154]) w [b7 g1150 g1152 a1160 a1161 a1162 a1163, b6 g1152 A1155 m1156 n1157 a1159, r5 A1155 m1156 n1157 l1154] w)) (H : Aside0 (ground_Ground_word.f l1154 a1159 a1160 a1161 a1162 a1163 a1164 a1165 = some r)) :
    Calls Try.prog 87 #[.pointer (some ⟨g1150, 0, none⟩), .int .i64 a1164, .int .i64 a1165] w fun e w' => e = .returned (.int .i64 r) ∧ Sep (fps [b7 g1150 g1152 a1160 a1161 a1162 a1163, b6 g1152 A1155 m1156 n1157 a1159, r5 A1155 m1156 n1157 l1154]) w [b7 g1150 g1152 a1160 a1161 a1162 a1163, b6 g1152 A1155 m1156 n1157 a1159, r5 A1155 m1156 n1157 l1154] w' := by
  generalize (fps [b7 g1150 g1152 a1160 a1161 a1162 a1163, b6 g1152 A1155 m1156 n1157 a1159, r5 A1155 m1156 n1157 l1154]) = FF at HS ⊢
  obtain rfl := (row_len (HS.out.at2)).symm
  unfold ground_Ground_word.f at H
  go_enter Try.func87, Try.ntmps87
  go_wp2_with fail
  obtain ⟨t1166, HA1167, H⟩ := bind_some H
  refine (ground_Ground_Conf.calls l1154 a1159 a1160 a1161 a1162 a1163 g1150 g1152 A1155 l1154.length n1157 t1166 _ ⟨HS.out.begin⟩ HA1167).mono ?_
  rintro e_ w1168 ⟨rfl, hS⟩
  replace HS : Aside0 (Sep FF w [b7 g1150 g1152 a1160 a1161 a1162 a1163, b6 g1152 A1155 l1154.length n1157 a1159, r5 A1155 l1154.length n1157 l1154] w1168) := ⟨HS.out.call hS⟩
  clear hS
  go_wp2_with (first | ((with_reducible refine gate_dst (N := 7) rfl ?_); refine box_on ?hg (N := 7) ?hd (cs := #[.int .i64 0, .int .i64 0, .int .i64 0, .int .i64 0]) (t := 49) ?hr ?_; (case hd => rfl); (case hg => rfl); (case hr => first | (go_simp; done) | (go_simp; rfl)); intro g1169 hg w1170 hbox hb; replace HS : Aside0 (Sep FF w [b7 g1150 g1152 a1160 a1161 a1162 a1163, b6 g1152 A1155 l1154.length n1157 a1159, r5 A1155 l1154.length n1157 l1154, b1 g1169 0 0 0 0] w1170) := ⟨HS.out.box hg hbox hb⟩; clear hg hbox hb; have hc1172 : w1170.cell? ⟨g1169, 0, none⟩ = some (.int .i64 0) := blk_cellv (HS.out.at3) 0 rfl; have hz1173 : w1170.frozen? ⟨g1169, 0, none⟩ = false := blk_fz (HS.out.at3) 0; have hc1174 : w1170.cell? ⟨g1169, 1, none⟩ = some (.int .i64 0) := blk_cellv (HS.out.at3) 1 rfl; have hz1175 : w1170.frozen? ⟨g1169, 1, none⟩ = false := blk_fz (HS.out.at3) 1; have hc1176 : w1170.cell? ⟨g1169, 2, none⟩ = some (.int .i64 0) := blk_cellv (HS.out.at3) 2 rfl; have hz1177 : w1170.frozen? ⟨g1169, 2, none⟩ = false := blk_fz (HS.out.at3) 2; have hc1178 : w1170.cell? ⟨g1169, 3, none⟩ = some (.int .i64 0) := blk_cellv (HS.out.at3) 3 rfl; have hz1179 : w1170.frozen? ⟨g1169, 3, none⟩ = false := blk_fz (HS.out.at3) 3) | ((with_reducible refine gate_store (t := 49) (p := 7) rfl ?_); refine store_event (w1 := (World.setCell (World.setCell (World.setCell (World.setCell w1170 ⟨g1169, 0, none⟩ (.int .i64 t1166.1)) ⟨g1169, 1, none⟩ (.int .i64 t1166.2.1)) ⟨g1169, 2, none⟩ (.int .i64 t1166.2.2.1)) ⟨g1169, 3, none⟩ (.int .i64 t1166.2.2.2))) rfl (t := 49) (p := 7) rfl rfl ?hr ?_; (case hr => first | (go_simp; done) | (go_simp; rfl)); intro w1180 hst; clear hc1172 hz1173 hc1174 hz1175 hc1176 hz1177 hc1178 hz1179; replace HS : Aside0 (Sep FF w [b7 g1150 g1152 a1160 a1161 a1162 a1163, b6 g1152 A1155 l1154.length n1157 a1159, r5 A1155 l1154.length n1157 l1154, b1 g1169 t1166.1 t1166.2.1 t1166.2.2.1 t1166.2.2.2] w1180) := ⟨by rw [hst]; exact HS.out.setAll (l1 := [b7 g1150 g1152 a1160 a1161 a1162 a1163, b6 g1152 A1155 l1154.length n1157 a1159, r5 A1155 l1154.length n1157 l1154]) (l2 := []) [.int .i64 t1166.1, .int .i64 t1166.2.1, .int .i64 t1166.2.2.1, .int .i64 t1166.2.2.2] rfl⟩; clear hst; have hc1181 : w1180.cell? ⟨g1169, 0, none⟩ = some (.int .i64 t1166.1) := blk_cellv (HS.out.at3) 0 rfl))
  clear hc1181
  obtain ⟨t1182, HA1183, H⟩ := bind_some H
  refine (ground_within.calls a1164 t1166.1 0 t1182 _ ⟨Sep.start _⟩ HA1183).mono ?_
  rintro e_ w1184 ⟨rfl, hS⟩
  replace HS : Aside0 (Sep FF w [b7 g1150 g1152 a1160 a1161 a1162 a1163, b6 g1152 A1155 l1154.length n1157 a1159, r5 A1155 l1154.length n1157 l1154, b1 g1169 t1166.1 t1166.2.1 t1166.2.2.1 t1166.2.2.2] w1184) := ⟨HS.out.call hS⟩
  clear hS
  by_cases c1185 : t1182 = (-1)
  · have H := if_yes c1185 H
    have c1185b0 : (t1182 == (-1)) = true := beq_iff_eq.mpr c1185
    have c1185b1 : (t1182 != (-1)) = false := bne_eq_false_iff_eq.mpr c1185
    clear c1185
    replace HS : Aside0 (Sep FF w [b7 g1150 g1152 a1160 a1161 a1162 a1163, b6 g1152 A1155 l1154.length n1157 a1159, r5 A1155 l1154.length n1157 l1154] w1184) := ⟨HS.out.sub (.cons_cons _ (.cons_cons _ (.cons_cons _ (.cons _ .slnil))))⟩
    go_wp2_with fail
    go_ret
    rw [← some_eq H]
    exact ⟨(by first | rfl | (simp [IntKind.wrap_u32]; done)), HS.out⟩
  · have H := if_no c1185 H
    have c1185b0 : (t1182 == (-1)) = false := beq_eq_false_iff_ne.mpr c1185
    have c1185b1 : (t1182 != (-1)) = true := bne_iff_ne.mpr c1185
    clear c1185
    have hc1186 : w1184.cell? ⟨g1169, 1, none⟩ = some (.int .i64 t1166.2.1) := blk_cellv (HS.out.at3) 1 rfl
    have hc1187 : w1184.cell? ⟨g1169, 2, none⟩ = some (.int .i64 t1166.2.2.1) := blk_cellv (HS.out.at3) 2 rfl
    go_wp2_with fail
    clear hc1186 hc1187
    obtain ⟨t1188, HA1189, H⟩ := bind_some H
    refine (ground_within.calls a1165 t1166.2.1 (wrap64 ((wrap64 (24 + t1166.2.2.1)) + (wrap64 (a1164 * t1166.2.1)))) t1188 _ ⟨Sep.start _⟩ HA1189).mono ?_
    rintro e_ w1190 ⟨rfl, hS⟩
    replace HS : Aside0 (Sep FF w [b7 g1150 g1152 a1160 a1161 a1162 a1163, b6 g1152 A1155 l1154.length n1157 a1159, r5 A1155 l1154.length n1157 l1154, b1 g1169 t1166.1 t1166.2.1 t1166.2.2.1 t1166.2.2.2] w1190) := ⟨HS.out.call hS⟩
    clear hS
    replace HS : Aside0 (Sep FF w [b7 g1150 g1152 a1160 a1161 a1162 a1163, b6 g1152 A1155 l1154.length n1157 a1159, r5 A1155 l1154.length n1157 l1154] w1190) := ⟨HS.out.sub (.cons_cons _ (.cons_cons _ (.cons_cons _ (.cons _ .slnil))))⟩
    go_wp2_with fail
    go_ret
    rw [← some_eq H]
    exact ⟨(by first | rfl | (simp [IntKind.wrap_u32]; done)), HS.out⟩

set_option maxHeartbeats 30000000 in
set_option maxRecDepth 100000 in
theorem store_Store_Put.calls (l1197 : List Int) (a1202 : Int) (a1203 : Int) (a1204 : Int) (g1195 : Nat) (A1198 : Option Addr) (m1199 : Nat) (n1200 : Nat) (r : Bool × Int × List Int) (w : World)   (HS : Aside0 (Sep (fps [b6 g1195 A1198 m1199 n1200 a1202, r5 A1198 m1199 n1200 l1197]) w [b6 g1195 A1198 m1199 n1200 a1202, r5 A1198 m1199 n1200 l1197] w)) (H : Aside0 (store_Store_Put.f l1197 a1202 a1203 a1204 = some r)) :
    Calls Try.prog 22 #[.pointer (some ⟨g1195, 0, none⟩), .int .i64 a1203, .int .u32 a1204] w fun e w' => e = .returned (.bool r.1) ∧ Sep (fps [b6 g1195 A1198 m1199 n1200 a1202, r5 A1198 m1199 n1200 l1197]) w [b6 g1195 A1198 m1199 n1200 r.2.1, r5 A1198 m1199 n1200 r.2.2] w' := by
  generalize (fps [b6 g1195 A1198 m1199 n1200 a1202, r5 A1198 m1199 n1200 l1197]) = FF at HS ⊢
  obtain rfl := (row_len (HS.out.at1)).symm
  unfold store_Store_Put.f at H
  go_enter Try.func22, Try.ntmps22
  go_wp2_with fail
  obtain ⟨t1221, HA1222, H⟩ := bind_some H
  refine (store_Store_has.calls l1197 a1202 a1203 g1195 A1198 l1197.length n1200 t1221 _ ⟨HS.out.begin⟩ HA1222).mono ?_
  rintro e_ w1223 ⟨rfl, hS⟩
  replace HS : Aside0 (Sep FF w [b6 g1195 A1198 l1197.length n1200 a1202, r5 A1198 l1197.length n1200 l1197] w1223) := ⟨HS.out.call hS⟩
  clear hS
  by_cases c1224 : t1221 = true
  · have H := if_yes c1224 H
    have c1224b0 : t1221 = true := c1224
    have c1224b1 : (!t1221) = false := by rw [c1224b0]; rfl
    try rw [c1224b1]
    clear c1224
    go_wp2_with fail
    obtain ⟨t1225, HA1226, H⟩ := bind_some H
    refine (atomic_Uint64_Add.calls l1197 a1202 1 g1195 A1198 l1197.length n1200 t1225 _ ⟨HS.out.begin⟩ HA1226).mono ?_
    rintro e_ w1227 ⟨rfl, hS⟩
    replace HS : Aside0 (Sep FF w [b6 g1195 A1198 l1197.length n1200 t1225.2, r5 A1198 l1197.length n1200 l1197] w1227) := ⟨HS.out.call hS⟩
    clear hS
    by_cases c1229 : 0 ≤ a1203
    · have H := if_yes c1229 H
      have c1229b0 : decide (0 ≤ a1203) = true := decide_eq_true c1229
      have c1229p : (0 ≤ a1203) = True := eq_true c1229
      clear c1229
      by_cases c1230 : a1203 < (l1197.length : Int)
      · have H := if_yes c1230 H
        have c1230b0 : decide (a1203 < (l1197.length : Int)) = true := decide_eq_true c1230
        have c1230p : (a1203 < (l1197.length : Int)) = True := eq_true c1230
        clear c1230
        obtain ⟨y1233, HA1234, H⟩ := bind_some H
        have hc1228 : w1227.cell? ⟨g1195, 0, none⟩ = some (.slice A1198 l1197.length n1200) := blk_cellv (HS.out.at0) 0 rfl
        obtain ⟨g1231, ea⟩ := row_at (HS.out.at1) (by have := (of_decide_eq_true c1229b0); have := (of_decide_eq_true c1230b0); omega); cases ea
        have hx1235 := (row_get 0 (HS.out.at1) a1203 (of_decide_eq_true c1229b0) (of_decide_eq_true c1230b0)).1
        have hz1236 := (row_get 0 (HS.out.at1) a1203 (of_decide_eq_true c1229b0) (of_decide_eq_true c1230b0)).2
        go_wp2_with (first | ((with_reducible refine gate_store (t := 23) (p := 21) rfl ?_); refine store_event (w1 := World.setCell w1227 ⟨g1231, (a1203).toNat, none⟩ (.int .u32 a1204)) rfl (t := 23) (p := 21) rfl rfl ?hr ?_; (case hr => first | (go_simp; done) | (go_simp; rfl)); intro w1232 hst; clear hc1228 hx1235 hz1236; have hq := Sep.rowset (l1 := [b6 g1195 (some ⟨g1231, 0, none⟩) l1197.length n1200 t1225.2]) (l2 := []) HS.out a1203 a1204; rw [← hst, some_eq HA1234] at hq; replace HS : Aside0 (Sep FF w [b6 g1195 (some ⟨g1231, 0, none⟩) l1197.length n1200 t1225.2, r5 (some ⟨g1231, 0, none⟩) l1197.length n1200 y1233] w1232) := ⟨hq⟩; clear hst hq))
        go_ret
        rw [← some_eq H]
        exact ⟨(by first | rfl | (simp [IntKind.wrap_u32]; done)), HS.out⟩
      · have H := if_no c1230 H
        have c1230b0 : decide (a1203 < (l1197.length : Int)) = false := decide_eq_false c1230
        clear c1230
        exact (none_no H).elim
    · have H := if_no c1229 H
      have c1229b0 : decide (0 ≤ a1203) = false := decide_eq_false c1229
      clear c1229
      exact (none_no H).elim
  · have H := if_no c1224 H
    have c1224b0 : t1221 = false := by simpa using c1224
    have c1224b1 : (!t1221) = true := by rw [c1224b0]; rfl
    try rw [c1224b1]
    clear c1224
    go_wp2_with fail
    go_ret
    rw [← some_eq H]
    exact ⟨(by first | rfl | (simp [IntKind.wrap_u32]; done)), HS.out⟩

set_option maxHeartbeats 30000000 in
set_option maxRecDepth 100000 in
theorem ground_Ground_SetWord.calls (l1133 : List Int) (a1138 : Int) (a1139 : Int) (a1140 : Int) (a1141 : Int) (a1142 : Int) (a1143 : Int) (a1144 : Int) (a1145 : Int) (g1129 : Nat) (g1131 : Nat) (A1134 : Option Addr) (m1135 : Nat) (n1136 : Nat) (r : Bool × Int × List Int) (w : World)   (HS : Aside0 (Sep (fps [b7 g1129 g1131 a1139 a1140 a1141 a1142, b6 g1131 A1134 m1135 n1136 a1138, r5 A1134 m1135 n1136 l1133]) w [b7 g1129 g1131 a1139 a1140 a1141 a1142, b6 g1131 A1134 m1135 n1136 a1138, r5 A1134 m1135 n1136 l1133] w)) (H : Aside0 (ground_Ground_SetWord.f l1133 a1138 a1139 a1140 a1141 a1142 a1143 a1144 a1145 = some r)) :
    Calls Try.prog 46 #[.pointer (some ⟨g1129, 0, none⟩), .int .i64 a1143, .int .i64 a1144, .int .u32 a1145] w fun e w' => e = .returned (.bool r.1) ∧ Sep (fps [b7 g1129 g1131 a1139 a1140 a1141 a1142, b6 g1131 A1134 m1135 n1136 a1138, r5 A1134 m1135 n1136 l1133]) w [b7 g1129 g1131 a1139 a1140 a1141 a1142, b6 g1131 A1134 m1135 n1136 r.2.1, r5 A1134 m1135 n1136 r.2.2] w' := by
  generalize (fps [b7 g1129 g1131 a1139 a1140 a1141 a1142, b6 g1131 A1134 m1135 n1136 a1138, r5 A1134 m1135 n1136 l1133]) = FF at HS ⊢
  obtain rfl := (row_len (HS.out.at2)).symm
  unfold ground_Ground_SetWord.f at H
  go_enter Try.func46, Try.ntmps46
  go_wp2_with fail
  obtain ⟨t1240, HA1241, H⟩ := bind_some H
  refine (ground_Ground_all.calls l1133 a1138 a1139 a1140 a1141 a1142 g1129 g1131 A1134 l1133.length n1136 t1240 _ ⟨HS.out.begin⟩ HA1241).mono ?_
  rintro e_ w1242 ⟨rfl, hS⟩
  replace HS : Aside0 (Sep FF w [b7 g1129 g1131 a1139 a1140 a1141 a1142, b6 g1131 A1134 l1133.length n1136 a1138, r5 A1134 l1133.length n1136 l1133] w1242) := ⟨HS.out.call hS⟩
  clear hS
  go_wp2_with fail
  obtain ⟨t1243, HA1244, H⟩ := bind_some H
  refine (ground_Ground_word.calls l1133 a1138 a1139 a1140 a1141 a1142 a1143 a1144 g1129 g1131 A1134 l1133.length n1136 t1243 _ ⟨HS.out.begin⟩ HA1244).mono ?_
  rintro e_ w1245 ⟨rfl, hS⟩
  replace HS : Aside0 (Sep FF w [b7 g1129 g1131 a1139 a1140 a1141 a1142, b6 g1131 A1134 l1133.length n1136 a1138, r5 A1134 l1133.length n1136 l1133] w1245) := ⟨HS.out.call hS⟩
  clear hS
  go_wp2_with fail
  replace HS : Aside0 (Sep FF w [r5 A1134 l1133.length n1136 l1133, b7 g1129 g1131 a1139 a1140 a1141 a1142, b6 g1131 A1134 l1133.length n1136 a1138] w1245) := ⟨HS.out.front 2 (by simp)⟩
  replace HS : Aside0 (Sep FF w [b6 g1131 A1134 l1133.length n1136 a1138, r5 A1134 l1133.length n1136 l1133, b7 g1129 g1131 a1139 a1140 a1141 a1142] w1245) := ⟨HS.out.front 2 (by simp)⟩
  obtain ⟨t1246, HA1247, H⟩ := bind_some H
  refine (store_Store_Put.calls l1133 a1138 t1243 a1145 g1131 A1134 l1133.length n1136 t1246 _ ⟨HS.out.begin⟩ HA1247).mono ?_
  rintro e_ w1248 ⟨rfl, hS⟩
  replace HS : Aside0 (Sep FF w [b6 g1131 A1134 l1133.length n1136 t1246.2.1, r5 A1134 l1133.length n1136 t1246.2.2, b7 g1129 g1131 a1139 a1140 a1141 a1142] w1248) := ⟨HS.out.call hS⟩
  clear hS
  go_wp2_with fail
  go_ret
  rw [← some_eq H]
  exact ⟨(by first | rfl | (simp [IntKind.wrap_u32]; done)), ((((HS.out).front 1 (by simp)).front 1 (by simp)).front 2 (by simp)).keep (l := [b7 g1129 g1131 a1139 a1140 a1141 a1142, b6 g1131 A1134 l1133.length n1136 t1246.2.1, r5 A1134 l1133.length n1136 t1246.2.2]) (rest := [])⟩

set_option maxHeartbeats 30000000 in
set_option maxRecDepth 100000 in
theorem ground_Ground_set.calls (l1280 : List Int) (a1285 : Int) (a1286 : Int) (a1287 : Int) (a1288 : Int) (a1289 : Int) (a1290 : Int) (a1291 : Int) (g1276 : Nat) (g1278 : Nat) (A1281 : Option Addr) (m1282 : Nat) (n1283 : Nat) (r : Bool × Int × List Int) (w : World)   (HS : Aside0 (Sep (fps [b7 g1276 g1278 a1286 a1287 a1288 a1289, b6 g1278 A1281 m1282 n1283 a1285, r5 A1281 m1282 n1283 l1280]) w [b7 g1276 g1278 a1286 a1287 a1288 a1289, b6 g1278 A1281 m1282 n1283 a1285, r5 A1281 m1282 n1283 l1280] w)) (H : Aside0 (ground_Ground_set.f l1280 a1285 a1286 a1287 a1288 a1289 a1290 a1291 = some r)) :
    Calls Try.prog 85 #[.pointer (some ⟨g1276, 0, none⟩), .int .i64 a1290, .int .i64 a1291] w fun e w' => e = .returned (.bool r.1) ∧ Sep (fps [b7 g1276 g1278 a1286 a1287 a1288 a1289, b6 g1278 A1281 m1282 n1283 a1285, r5 A1281 m1282 n1283 l1280]) w [b7 g1276 g1278 a1286 a1287 a1288 a1289, b6 g1278 A1281 m1282 n1283 r.2.1, r5 A1281 m1282 n1283 r.2.2] w' := by
  generalize (fps [b7 g1276 g1278 a1286 a1287 a1288 a1289, b6 g1278 A1281 m1282 n1283 a1285, r5 A1281 m1282 n1283 l1280]) = FF at HS ⊢
  obtain rfl := (row_len (HS.out.at2)).symm
  unfold ground_Ground_set.f at H
  go_enter Try.func85, Try.ntmps85
  by_cases c1300 : a1291 < 0
  · have H := if_yes c1300 H
    have c1300b0 : decide (a1291 < 0) = true := decide_eq_true c1300
    clear c1300
    go_wp2_with fail
    go_ret
    rw [← some_eq H]
    exact ⟨(by first | rfl | (simp [IntKind.wrap_u32]; done)), HS.out⟩
  · have H := if_no c1300 H
    have c1300b0 : decide (a1291 < 0) = false := decide_eq_false c1300
    clear c1300
    by_cases c1301 : a1291 > 4294967295
    · have H := if_yes c1301 H
      have c1301b0 : decide (4294967295 < a1291) = true := decide_eq_true c1301
      clear c1301
      go_wp2_with fail
      go_ret
      rw [← some_eq H]
      exact ⟨(by first | rfl | (simp [IntKind.wrap_u32]; done)), HS.out⟩
    · have H := if_no c1301 H
      have c1301b0 : decide (4294967295 < a1291) = false := decide_eq_false c1301
      clear c1301
      go_wp2_with fail
      obtain ⟨t1302, HA1303, H⟩ := bind_some H
      refine (ground_Ground_all.calls l1280 a1285 a1286 a1287 a1288 a1289 g1276 g1278 A1281 l1280.length n1283 t1302 _ ⟨HS.out.begin⟩ HA1303).mono ?_
      rintro e_ w1304 ⟨rfl, hS⟩
      replace HS : Aside0 (Sep FF w [b7 g1276 g1278 a1286 a1287 a1288 a1289, b6 g1278 A1281 l1280.length n1283 a1285, r5 A1281 l1280.length n1283 l1280] w1304) := ⟨HS.out.call hS⟩
      clear hS
      go_wp2_with fail
      replace HS : Aside0 (Sep FF w [r5 A1281 l1280.length n1283 l1280, b7 g1276 g1278 a1286 a1287 a1288 a1289, b6 g1278 A1281 l1280.length n1283 a1285] w1304) := ⟨HS.out.front 2 (by simp)⟩
      replace HS : Aside0 (Sep FF w [b6 g1278 A1281 l1280.length n1283 a1285, r5 A1281 l1280.length n1283 l1280, b7 g1276 g1278 a1286 a1287 a1288 a1289] w1304) := ⟨HS.out.front 2 (by simp)⟩
      obtain ⟨t1305, HA1306, H⟩ := bind_some H
      refine (store_Store_Put.calls l1280 a1285 a1290 ((a1291) % 4294967296) g1278 A1281 l1280.length n1283 t1305 _ ⟨HS.out.begin⟩ HA1306).mono ?_
      rintro e_ w1307 ⟨rfl, hS⟩
      replace HS : Aside0 (Sep FF w [b6 g1278 A1281 l1280.length n1283 t1305.2.1, r5 A1281 l1280.length n1283 t1305.2.2, b7 g1276 g1278 a1286 a1287 a1288 a1289] w1307) := ⟨HS.out.call hS⟩
      clear hS
      go_wp2_with fail
      go_ret
      rw [← some_eq H]
      exact ⟨(by first | rfl | (simp [IntKind.wrap_u32]; done)), ((((HS.out).front 1 (by simp)).front 1 (by simp)).front 2 (by simp)).keep (l := [b7 g1276 g1278 a1286 a1287 a1288 a1289, b6 g1278 A1281 l1280.length n1283 t1305.2.1, r5 A1281 l1280.length n1283 t1305.2.2]) (rest := [])⟩

set_option maxHeartbeats 30000000 in
set_option maxRecDepth 100000 in
theorem ground_Ground_SetReg.calls (l1260 : List Int) (a1265 : Int) (a1266 : Int) (a1267 : Int) (a1268 : Int) (a1269 : Int) (a1270 : Int) (a1271 : Int) (g1256 : Nat) (g1258 : Nat) (A1261 : Option Addr) (m1262 : Nat) (n1263 : Nat) (r : Bool × Int × List Int) (w : World)   (HS : Aside0 (Sep (fps [b7 g1256 g1258 a1266 a1267 a1268 a1269, b6 g1258 A1261 m1262 n1263 a1265, r5 A1261 m1262 n1263 l1260]) w [b7 g1256 g1258 a1266 a1267 a1268 a1269, b6 g1258 A1261 m1262 n1263 a1265, r5 A1261 m1262 n1263 l1260] w)) (H : Aside0 (ground_Ground_SetReg.f l1260 a1265 a1266 a1267 a1268 a1269 a1270 a1271 = some r)) :
    Calls Try.prog 42 #[.pointer (some ⟨g1256, 0, none⟩), .int .i64 a1270, .int .i64 a1271] w fun e w' => e = .returned (.bool r.1) ∧ Sep (fps [b7 g1256 g1258 a1266 a1267 a1268 a1269, b6 g1258 A1261 m1262 n1263 a1265, r5 A1261 m1262 n1263 l1260]) w [b7 g1256 g1258 a1266 a1267 a1268 a1269, b6 g1258 A1261 m1262 n1263 r.2.1, r5 A1261 m1262 n1263 r.2.2] w' := by
  generalize (fps [b7 g1256 g1258 a1266 a1267 a1268 a1269, b6 g1258 A1261 m1262 n1263 a1265, r5 A1261 m1262 n1263 l1260]) = FF at HS ⊢
  obtain rfl := (row_len (HS.out.at2)).symm
  unfold ground_Ground_SetReg.f at H
  go_enter Try.func42, Try.ntmps42
  go_wp2_with fail
  obtain ⟨t1311, HA1312, H⟩ := bind_some H
  refine (ground_reg.calls a1270 t1311 _ ⟨Sep.start _⟩ HA1312).mono ?_
  rintro e_ w1313 ⟨rfl, hS⟩
  replace HS : Aside0 (Sep FF w [b7 g1256 g1258 a1266 a1267 a1268 a1269, b6 g1258 A1261 l1260.length n1263 a1265, r5 A1261 l1260.length n1263 l1260] w1313) := ⟨HS.out.call hS⟩
  clear hS
  go_wp2_with fail
  obtain ⟨t1314, HA1315, H⟩ := bind_some H
  refine (ground_Ground_set.calls l1260 a1265 a1266 a1267 a1268 a1269 t1311 a1271 g1256 g1258 A1261 l1260.length n1263 t1314 _ ⟨HS.out.begin⟩ HA1315).mono ?_
  rintro e_ w1316 ⟨rfl, hS⟩
  replace HS : Aside0 (Sep FF w [b7 g1256 g1258 a1266 a1267 a1268 a1269, b6 g1258 A1261 l1260.length n1263 t1314.2.1, r5 A1261 l1260.length n1263 t1314.2.2] w1316) := ⟨HS.out.call hS⟩
  clear hS
  go_wp2_with fail
  go_ret
  rw [← some_eq H]
  exact ⟨(by first | rfl | (simp [IntKind.wrap_u32]; done)), HS.out⟩

set_option maxHeartbeats 30000000 in
set_option maxRecDepth 100000 in
theorem chain_Add_1.calls (a1098 : Int) (a1099 : Int) (a1100 : Int) (a1101 : Int) (a1102 : Int) (l1110 : List Int) (a1115 : Int) (a1116 : Int) (a1117 : Int) (a1118 : Int) (a1119 : Int) (a1122 : Int) (g1104 : Nat) (g1106 : Nat) (g1108 : Nat) (A1111 : Option Addr) (m1112 : Nat) (n1113 : Nat) (g1121 : Nat) (r : Int × List Int) (w : World)   (HS : Aside0 (Sep (fps [b8 g1104 g1106, b7 g1106 g1108 a1116 a1117 a1118 a1119, b6 g1108 A1111 m1112 n1113 a1115, r5 A1111 m1112 n1113 l1110, b9 g1121 a1122]) w [b8 g1104 g1106, b7 g1106 g1108 a1116 a1117 a1118 a1119, b6 g1108 A1111 m1112 n1113 a1115, r5 A1111 m1112 n1113 l1110, b9 g1121 a1122] w)) (H : Aside0 (chain_Add_1.f a1098 a1099 a1100 a1101 a1102 l1110 a1115 a1116 a1117 a1118 a1119 a1122 = some r)) :
    Calls Try.prog 89 #[.agg #[.int .i64 a1098, .int .i64 a1099, .int .i64 a1100], .int .i64 a1101, .int .i64 a1102, .pointer (some ⟨g1104, 0, none⟩), .pointer (some ⟨g1121, 0, none⟩)] w fun e w' => e = .returned (.tuple #[]) ∧ Sep (fps [b8 g1104 g1106, b7 g1106 g1108 a1116 a1117 a1118 a1119, b6 g1108 A1111 m1112 n1113 a1115, r5 A1111 m1112 n1113 l1110, b9 g1121 a1122]) w [b8 g1104 g1106, b7 g1106 g1108 a1116 a1117 a1118 a1119, b6 g1108 A1111 m1112 n1113 r.1, r5 A1111 m1112 n1113 r.2, b9 g1121 a1122] w' := by
  generalize (fps [b8 g1104 g1106, b7 g1106 g1108 a1116 a1117 a1118 a1119, b6 g1108 A1111 m1112 n1113 a1115, r5 A1111 m1112 n1113 l1110, b9 g1121 a1122]) = FF at HS ⊢
  obtain rfl := (row_len (HS.out.at3)).symm
  unfold chain_Add_1.f at H
  go_enter Try.func89, Try.ntmps89
  go_wp2_with (first | ((with_reducible refine gate_dst (N := 5) rfl ?_); refine box_on ?hg (N := 5) ?hd (cs := #[.int .i64 a1098, .int .i64 a1099, .int .i64 a1100]) (t := 134) ?hr ?_; (case hd => rfl); (case hg => rfl); (case hr => first | (go_simp; done) | (go_simp; rfl)); intro g1325 hg w1326 hbox hb; replace HS : Aside0 (Sep FF w [b8 g1104 g1106, b7 g1106 g1108 a1116 a1117 a1118 a1119, b6 g1108 A1111 l1110.length n1113 a1115, r5 A1111 l1110.length n1113 l1110, b9 g1121 a1122, b10 g1325 a1098 a1099 a1100] w1326) := ⟨HS.out.box hg hbox hb⟩; clear hg hbox hb; have hc1328 : w1326.cell? ⟨g1104, 0, none⟩ = some (.pointer (some ⟨g1106, 0, none⟩)) := blk_cellv (HS.out.at0) 0 rfl; have hc1329 : w1326.cell? ⟨g1121, 0, none⟩ = some (.int .i64 a1122) := blk_cellv (HS.out.at4) 0 rfl))
  clear hc1328 hc1329
  replace HS : Aside0 (Sep FF w [r5 A1111 l1110.length n1113 l1110, b8 g1104 g1106, b7 g1106 g1108 a1116 a1117 a1118 a1119, b6 g1108 A1111 l1110.length n1113 a1115, b9 g1121 a1122, b10 g1325 a1098 a1099 a1100] w1326) := ⟨HS.out.front 3 (by simp)⟩
  replace HS : Aside0 (Sep FF w [b6 g1108 A1111 l1110.length n1113 a1115, r5 A1111 l1110.length n1113 l1110, b8 g1104 g1106, b7 g1106 g1108 a1116 a1117 a1118 a1119, b9 g1121 a1122, b10 g1325 a1098 a1099 a1100] w1326) := ⟨HS.out.front 3 (by simp)⟩
  replace HS : Aside0 (Sep FF w [b7 g1106 g1108 a1116 a1117 a1118 a1119, b6 g1108 A1111 l1110.length n1113 a1115, r5 A1111 l1110.length n1113 l1110, b8 g1104 g1106, b9 g1121 a1122, b10 g1325 a1098 a1099 a1100] w1326) := ⟨HS.out.front 3 (by simp)⟩
  obtain ⟨t1330, HA1331, H⟩ := bind_some H
  refine (ground_Ground_SetWord.calls l1110 a1115 a1116 a1117 a1118 a1119 a1122 5 0 g1106 g1108 A1111 l1110.length n1113 t1330 _ ⟨HS.out.begin⟩ HA1331).mono ?_
  rintro e_ w1332 ⟨rfl, hS⟩
  replace HS : Aside0 (Sep FF w [b7 g1106 g1108 a1116 a1117 a1118 a1119, b6 g1108 A1111 l1110.length n1113 t1330.2.1, r5 A1111 l1110.length n1113 t1330.2.2, b8 g1104 g1106, b9 g1121 a1122, b10 g1325 a1098 a1099 a1100] w1332) := ⟨HS.out.call hS⟩
  clear hS
  by_cases c1333 : a1102 = 0
  · have H := if_yes c1333 H
    have c1333b0 : (a1102 == 0) = true := beq_iff_eq.mpr c1333
    have c1333b1 : (a1102 != 0) = false := bne_eq_false_iff_eq.mpr c1333
    clear c1333
    have hc1334 : w1332.cell? ⟨g1104, 0, none⟩ = some (.pointer (some ⟨g1106, 0, none⟩)) := blk_cellv (HS.out.at3) 0 rfl
    have hc1335 : w1332.cell? ⟨g1325, 0, none⟩ = some (.int .i64 a1098) := blk_cellv (HS.out.at5) 0 rfl
    go_wp2_with fail
    clear hc1334 hc1335
    obtain ⟨t1336, HA1337, H⟩ := bind_some H
    refine (ground_Ground_SetReg.calls t1330.2.2 t1330.2.1 a1116 a1117 a1118 a1119 a1098 a1101 g1106 g1108 A1111 l1110.length n1113 t1336 _ ⟨HS.out.begin⟩ HA1337).mono ?_
    rintro e_ w1338 ⟨rfl, hS⟩
    replace HS : Aside0 (Sep FF w [b7 g1106 g1108 a1116 a1117 a1118 a1119, b6 g1108 A1111 l1110.length n1113 t1336.2.1, r5 A1111 l1110.length n1113 t1336.2.2, b8 g1104 g1106, b9 g1121 a1122, b10 g1325 a1098 a1099 a1100] w1338) := ⟨HS.out.call hS⟩
    clear hS
    have hc1339 : w1338.cell? ⟨g1104, 0, none⟩ = some (.pointer (some ⟨g1106, 0, none⟩)) := blk_cellv (HS.out.at3) 0 rfl
    have hc1340 : w1338.cell? ⟨g1325, 1, none⟩ = some (.int .i64 a1099) := blk_cellv (HS.out.at5) 1 rfl
    go_wp2_with fail
    clear hc1339 hc1340
    obtain ⟨t1341, HA1342, H⟩ := bind_some H
    refine (ground_Ground_SetReg.calls t1336.2.2 t1336.2.1 a1116 a1117 a1118 a1119 a1099 a1101 g1106 g1108 A1111 l1110.length n1113 t1341 _ ⟨HS.out.begin⟩ HA1342).mono ?_
    rintro e_ w1343 ⟨rfl, hS⟩
    replace HS : Aside0 (Sep FF w [b7 g1106 g1108 a1116 a1117 a1118 a1119, b6 g1108 A1111 l1110.length n1113 t1341.2.1, r5 A1111 l1110.length n1113 t1341.2.2, b8 g1104 g1106, b9 g1121 a1122, b10 g1325 a1098 a1099 a1100] w1343) := ⟨HS.out.call hS⟩
    clear hS
    replace HS : Aside0 (Sep FF w [b7 g1106 g1108 a1116 a1117 a1118 a1119, b6 g1108 A1111 l1110.length n1113 t1341.2.1, r5 A1111 l1110.length n1113 t1341.2.2, b8 g1104 g1106, b9 g1121 a1122] w1343) := ⟨HS.out.sub (.cons_cons _ (.cons_cons _ (.cons_cons _ (.cons_cons _ (.cons_cons _ (.cons _ .slnil))))))⟩
    go_wp2_with fail
    first | go_end0 | refine bodyPost_ret (results_none rfl _ _ _) rfl ?_
    rw [← some_eq H]
    exact ⟨rfl, ((((((HS.out).front 4 (by simp)).front 3 (by simp)).front 3 (by simp)).front 3 (by simp)).front 4 (by simp)).keep (l := [b8 g1104 g1106, b7 g1106 g1108 a1116 a1117 a1118 a1119, b6 g1108 A1111 l1110.length n1113 t1341.2.1, r5 A1111 l1110.length n1113 t1341.2.2, b9 g1121 a1122]) (rest := [])⟩
  · have H := if_no c1333 H
    have c1333b0 : (a1102 == 0) = false := beq_eq_false_iff_ne.mpr c1333
    have c1333b1 : (a1102 != 0) = true := bne_iff_ne.mpr c1333
    clear c1333
    go_wp2_with fail
    refine start_ (n := 9) (S := (fun w' => w'.cell? ⟨g1104, 0, none⟩ = some (.pointer (some ⟨g1106, 0, none⟩)) ∧ w'.cell? ⟨g1325, 1, none⟩ = some (.int .i64 a1099))) (ds := []) #[false, false, false, false, false, false, false, false, false] (by kernel_rfl) rfl rfl (⟨blk_cellv ((HS.out.drew).at3) 0 rfl, blk_cellv ((HS.out.drew).at5) 1 rfl⟩) (fun hHeld => ?_)
    have HS_ := Aside0.mk HS.out.drew
    clear HS
    generalize World.drew _ = w1345 at HS_ hHeld ⊢
    have HS := HS_
    clear HS_
    refine pure_ (i := 2) (N := some 20) (v := ?_) (a' := ?_) #[false, false, true, false, false, false, false, false, false] rfl rfl (by kernel_rfl) (fun _ _ _ h => h) (Or.inl ⟨by rfl, ?_⟩) ?_ ?_
    rotate_left
    · intro w'
      go_simp
      with_reducible rfl
    rotate_left
    · simp only [Act.put, List.setIfInBounds_toArray, List.set_cons_zero, List.set_cons_succ, i64_w, i32_w]
      rfl
    refine pure_ (i := 6) (N := some 24) (v := ?_) (a' := ?_) #[false, false, true, false, false, false, true, false, false] rfl rfl (by kernel_rfl) (fun _ _ _ h => h) (Or.inl ⟨by rfl, ?_⟩) ?_ ?_
    rotate_left
    · intro w'
      go_simp
      with_reducible rfl
    rotate_left
    · simp only [Act.put, List.setIfInBounds_toArray, List.set_cons_zero, List.set_cons_succ, i64_w, i32_w]
      rfl
    refine pure_ (i := 7) (N := some 25) (v := ?_) (a' := ?_) #[false, false, true, false, false, false, true, true, false] rfl rfl (by kernel_rfl) (fun _ _ _ h => h) (Or.inl ⟨by rfl, ?_⟩) ?_ ?_
    rotate_left
    · intro w'
      go_simp
      with_reducible rfl
    rotate_left
    · simp only [Act.put, List.setIfInBounds_toArray, List.set_cons_zero, List.set_cons_succ, i64_w, i32_w]
      rfl
    refine take_ (i := 0) (N := some 18) (v := ?_) (a' := ?_) #[true, false, true, false, false, false, true, true, false] rfl rfl (by kernel_rfl) (fun _ _ _ h => h) (Or.inl ⟨by rfl, ?_⟩) hHeld ?_ ?_
    rotate_left
    · rintro w' hS'
      obtain ⟨s0, s1⟩ := hS'
      go_simp
      with_reducible rfl
    rotate_left
    · simp only [Act.put, List.setIfInBounds_toArray, List.set_cons_zero, List.set_cons_succ, i64_w, i32_w]
      rfl
    refine take_ (i := 1) (N := some 19) (v := ?_) (a' := ?_) #[true, true, true, false, false, false, true, true, false] rfl rfl (by kernel_rfl) (fun _ _ _ h => h) (Or.inl ⟨by rfl, ?_⟩) hHeld ?_ ?_
    rotate_left
    · rintro w' hS'
      obtain ⟨s0, s1⟩ := hS'
      go_simp
      with_reducible rfl
    rotate_left
    · simp only [Act.put, List.setIfInBounds_toArray, List.set_cons_zero, List.set_cons_succ, i64_w, i32_w]
      rfl
    refine take_ (i := 3) (N := some 21) (v := ?_) (a' := ?_) #[true, true, true, true, false, false, true, true, false] rfl rfl (by kernel_rfl) (fun _ _ _ h => h) (Or.inl ⟨by rfl, ?_⟩) hHeld ?_ ?_
    rotate_left
    · rintro w' hS'
      obtain ⟨s0, s1⟩ := hS'
      go_simp
      with_reducible rfl
    rotate_left
    · simp only [Act.put, List.setIfInBounds_toArray, List.set_cons_zero, List.set_cons_succ, i64_w, i32_w]
      rfl
    refine one_ (i := 4) (N := some 22) #[true, true, true, true, true, false, true, true, false] rfl rfl (by kernel_rfl) (by decide) (fun K hK => ?_)
    obtain ⟨t1346, HA1347, H⟩ := bind_some H
    refine goes_ Try.func36 (by kernel_rfl) rfl #[.pointer (some ⟨g1106, 0, none⟩), .int .i64 a1099] (by rfl) rfl rfl (by (try simp only [List.map_toArray, List.map_cons, List.map_nil]); first | done | rfl) ?_
    refine (ground_Ground_Reg.calls t1330.2.2 t1330.2.1 a1116 a1117 a1118 a1119 a1099 g1106 g1108 A1111 l1110.length n1113 t1346 _ ⟨HS.out.begin⟩ HA1347).mono ?_
    rintro e_ w1348 ⟨rfl, hS⟩
    replace HS : Aside0 (Sep FF w [b7 g1106 g1108 a1116 a1117 a1118 a1119, b6 g1108 A1111 l1110.length n1113 t1346.2, r5 A1111 l1110.length n1113 t1330.2.2, b8 g1104 g1106, b9 g1121 a1122, b10 g1325 a1098 a1099 a1100] w1348) := ⟨HS.out.call hS⟩
    clear hS
    refine ⟨_, rfl, ?_⟩
    refine hK.out _ _ (⟨blk_cellv (HS.out.at3) 0 rfl, blk_cellv (HS.out.at5) 1 rfl⟩) (fun hHeld => ?_)
    clear hK K
    refine norm_ (a' := ?_) ?_ ?_
    rotate_left
    · show Act.put _ (some 22) _ = _
      simp only [Act.put, List.setIfInBounds_toArray, List.set_cons_zero, List.set_cons_succ, i64_w, i32_w]
      rfl
    refine pure_ (i := 5) (N := some 23) (v := ?_) (a' := ?_) #[true, true, true, true, true, true, true, true, false] rfl rfl (by kernel_rfl) (fun _ _ _ h => h) (Or.inl ⟨by rfl, ?_⟩) ?_ ?_
    rotate_left
    · intro w'
      go_simp
      with_reducible rfl
    rotate_left
    · simp only [Act.put, List.setIfInBounds_toArray, List.set_cons_zero, List.set_cons_succ, i64_w, i32_w]
      rfl
    refine one_ (i := 8) (N := some 26) #[true, true, true, true, true, true, true, true, true] rfl rfl (by kernel_rfl) (by decide) (fun K hK => ?_)
    obtain ⟨t1349, HA1350, H⟩ := bind_some H
    refine goes_ Try.func46 (by kernel_rfl) rfl #[.pointer (some ⟨g1106, 0, none⟩), .int .i64 (wrap64 (t1346.1 - 1)), .int .i64 5, .int .u32 ((a1101) % 4294967296)] (by rfl) rfl rfl (by (try simp only [List.map_toArray, List.map_cons, List.map_nil]); first | done | rfl) ?_
    refine (ground_Ground_SetWord.calls t1330.2.2 t1346.2 a1116 a1117 a1118 a1119 (wrap64 (t1346.1 - 1)) 5 ((a1101) % 4294967296) g1106 g1108 A1111 l1110.length n1113 t1349 _ ⟨HS.out.begin⟩ HA1350).mono ?_
    rintro e_ w1351 ⟨rfl, hS⟩
    replace HS : Aside0 (Sep FF w [b7 g1106 g1108 a1116 a1117 a1118 a1119, b6 g1108 A1111 l1110.length n1113 t1349.2.1, r5 A1111 l1110.length n1113 t1349.2.2, b8 g1104 g1106, b9 g1121 a1122, b10 g1325 a1098 a1099 a1100] w1351) := ⟨HS.out.call hS⟩
    clear hS
    refine ⟨_, rfl, ?_⟩
    refine hK.out _ _ (⟨blk_cellv (HS.out.at3) 0 rfl, blk_cellv (HS.out.at5) 1 rfl⟩) (fun hHeld => ?_)
    clear hK K
    refine norm_ (a' := ?_) ?_ ?_
    rotate_left
    · show Act.put _ (some 26) _ = _
      simp only [Act.put, List.setIfInBounds_toArray, List.set_cons_zero, List.set_cons_succ, i64_w, i32_w]
      rfl
    refine done_ (by kernel_rfl) ?_
    have hc1352 : w1351.cell? ⟨g1104, 0, none⟩ = some (.pointer (some ⟨g1106, 0, none⟩)) := blk_cellv (HS.out.at3) 0 rfl
    have hc1353 : w1351.cell? ⟨g1325, 1, none⟩ = some (.int .i64 a1099) := blk_cellv (HS.out.at5) 1 rfl
    go_wp2_with fail
    clear hc1352 hc1353
    obtain ⟨t1341, HA1354, H⟩ := bind_some H
    refine (ground_Ground_SetReg.calls t1349.2.2 t1349.2.1 a1116 a1117 a1118 a1119 a1099 a1101 g1106 g1108 A1111 l1110.length n1113 t1341 _ ⟨HS.out.begin⟩ HA1354).mono ?_
    rintro e_ w1355 ⟨rfl, hS⟩
    replace HS : Aside0 (Sep FF w [b7 g1106 g1108 a1116 a1117 a1118 a1119, b6 g1108 A1111 l1110.length n1113 t1341.2.1, r5 A1111 l1110.length n1113 t1341.2.2, b8 g1104 g1106, b9 g1121 a1122, b10 g1325 a1098 a1099 a1100] w1355) := ⟨HS.out.call hS⟩
    clear hS
    replace HS : Aside0 (Sep FF w [b7 g1106 g1108 a1116 a1117 a1118 a1119, b6 g1108 A1111 l1110.length n1113 t1341.2.1, r5 A1111 l1110.length n1113 t1341.2.2, b8 g1104 g1106, b9 g1121 a1122] w1355) := ⟨HS.out.sub (.cons_cons _ (.cons_cons _ (.cons_cons _ (.cons_cons _ (.cons_cons _ (.cons _ .slnil))))))⟩
    go_wp2_with fail
    first | go_end0 | refine bodyPost_ret (results_none rfl _ _ _) rfl ?_
    rw [← some_eq H]
    exact ⟨rfl, ((((((HS.out).front 4 (by simp)).front 3 (by simp)).front 3 (by simp)).front 3 (by simp)).front 4 (by simp)).keep (l := [b8 g1104 g1106, b7 g1106 g1108 a1116 a1117 a1118 a1119, b6 g1108 A1111 l1110.length n1113 t1341.2.1, r5 A1111 l1110.length n1113 t1341.2.2, b9 g1121 a1122]) (rest := [])⟩

set_option maxHeartbeats 30000000 in
set_option maxRecDepth 100000 in
theorem chain_put_F89.calls (l839 : List Int) (a844 : Int) (a845 : Int) (a846 : Int) (a847 : Int) (a848 : Int) (a849 : Int) (a850 : Int) (a855 : Int) (g835 : Nat) (g837 : Nat) (A840 : Option Addr) (m841 : Nat) (n842 : Nat) (g852 : Nat) (g854 : Nat) (r : Bool × Int × List Int) (w : World)   (HS : Aside0 (Sep (fps [b7 g835 g837 a845 a846 a847 a848, b6 g837 A840 m841 n842 a844, r5 A840 m841 n842 l839, b8 g852 g835, b9 g854 a855]) w [b7 g835 g837 a845 a846 a847 a848, b6 g837 A840 m841 n842 a844, r5 A840 m841 n842 l839, b8 g852 g835, b9 g854 a855] w)) (H : Aside0 (chain_put_F89.f l839 a844 a845 a846 a847 a848 a849 a850 a855 = some r)) :
    Calls Try.prog 88 #[.pointer (some ⟨g835, 0, none⟩), .int .i64 a849, .int .i64 a850, .func (.func 89) #[] #[.pointer (some ⟨g852, 0, none⟩), .pointer (some ⟨g854, 0, none⟩)]] w fun e w' => e = .returned (.bool r.1) ∧ Sep (fps [b7 g835 g837 a845 a846 a847 a848, b6 g837 A840 m841 n842 a844, r5 A840 m841 n842 l839, b8 g852 g835, b9 g854 a855]) w [b7 g835 g837 a845 a846 a847 a848, b6 g837 A840 m841 n842 r.2.1, r5 A840 m841 n842 r.2.2, b8 g852 g835, b9 g854 a855] w' := by
  generalize (fps [b7 g835 g837 a845 a846 a847 a848, b6 g837 A840 m841 n842 a844, r5 A840 m841 n842 l839, b8 g852 g835, b9 g854 a855]) = FF at HS ⊢
  obtain rfl := (row_len (HS.out.at2)).symm
  unfold chain_put_F89.f at H
  go_enter Try.func88, Try.ntmps88
  go_wp2_with fail
  obtain ⟨t1363, HA1364, H⟩ := bind_some H
  refine (chain_of.calls l839 a844 a845 a846 a847 a848 a849 g835 g837 A840 l839.length n842 t1363 _ ⟨HS.out.begin⟩ HA1364).mono ?_
  rintro e_ w1365 ⟨rfl, hS⟩
  replace HS : Aside0 (Sep FF w [b7 g835 g837 a845 a846 a847 a848, b6 g837 A840 l839.length n842 a844, r5 A840 l839.length n842 l839, b8 g852 g835, b9 g854 a855] w1365) := ⟨HS.out.call hS⟩
  clear hS
  by_cases c1376 : t1363.2.2.2 = true
  · have H := if_yes c1376 H
    have c1376b0 : t1363.2.2.2 = true := c1376
    have c1376b1 : (!t1363.2.2.2) = false := by rw [c1376b0]; rfl
    try rw [c1376b1]
    clear c1376
    by_cases c1377 : a850 < 0
    · have H := if_yes c1377 H
      have c1377b0 : decide (a850 < 0) = true := decide_eq_true c1377
      clear c1377
      go_wp2_with (first | ((with_reducible refine gate_dst (N := 9) rfl ?_); refine box_on ?hg (N := 9) ?hd (cs := #[.int .i64 0, .int .i64 0, .int .i64 0]) (t := 134) ?hr ?_; (case hd => rfl); (case hg => rfl); (case hr => first | (go_simp; done) | (go_simp; rfl)); intro g1366 hg w1367 hbox hb; replace HS : Aside0 (Sep FF w [b7 g835 g837 a845 a846 a847 a848, b6 g837 A840 l839.length n842 a844, r5 A840 l839.length n842 l839, b8 g852 g835, b9 g854 a855, b10 g1366 0 0 0] w1367) := ⟨HS.out.box hg hbox hb⟩; clear hg hbox hb; have hc1369 : w1367.cell? ⟨g1366, 0, none⟩ = some (.int .i64 0) := blk_cellv (HS.out.at5) 0 rfl; have hz1370 : w1367.frozen? ⟨g1366, 0, none⟩ = false := blk_fz (HS.out.at5) 0; have hc1371 : w1367.cell? ⟨g1366, 1, none⟩ = some (.int .i64 0) := blk_cellv (HS.out.at5) 1 rfl; have hz1372 : w1367.frozen? ⟨g1366, 1, none⟩ = false := blk_fz (HS.out.at5) 1; have hc1373 : w1367.cell? ⟨g1366, 2, none⟩ = some (.int .i64 0) := blk_cellv (HS.out.at5) 2 rfl; have hz1374 : w1367.frozen? ⟨g1366, 2, none⟩ = false := blk_fz (HS.out.at5) 2) | ((with_reducible refine gate_store (t := 134) (p := 9) rfl ?_); refine store_event (w1 := (World.setCell (World.setCell (World.setCell w1367 ⟨g1366, 0, none⟩ (.int .i64 t1363.1)) ⟨g1366, 1, none⟩ (.int .i64 t1363.2.1)) ⟨g1366, 2, none⟩ (.int .i64 t1363.2.2.1))) rfl (t := 134) (p := 9) rfl rfl ?hr ?_; (case hr => first | (go_simp; done) | (go_simp; rfl)); intro w1375 hst; clear hc1369 hz1370 hc1371 hz1372 hc1373 hz1374; replace HS : Aside0 (Sep FF w [b7 g835 g837 a845 a846 a847 a848, b6 g837 A840 l839.length n842 a844, r5 A840 l839.length n842 l839, b8 g852 g835, b9 g854 a855, b10 g1366 t1363.1 t1363.2.1 t1363.2.2.1] w1375) := ⟨by rw [hst]; exact HS.out.setAll (l1 := [b7 g835 g837 a845 a846 a847 a848, b6 g837 A840 l839.length n842 a844, r5 A840 l839.length n842 l839, b8 g852 g835, b9 g854 a855]) (l2 := []) [.int .i64 t1363.1, .int .i64 t1363.2.1, .int .i64 t1363.2.2.1] rfl⟩; clear hst; replace HS : Aside0 (Sep FF w [b7 g835 g837 a845 a846 a847 a848, b6 g837 A840 l839.length n842 a844, r5 A840 l839.length n842 l839, b8 g852 g835, b9 g854 a855] w1375) := ⟨HS.out.sub (.cons_cons _ (.cons_cons _ (.cons_cons _ (.cons_cons _ (.cons_cons _ (.cons _ .slnil))))))⟩))
      go_ret
      rw [← some_eq H]
      exact ⟨(by first | rfl | (simp [IntKind.wrap_u32]; done)), HS.out⟩
    · have H := if_no c1377 H
      have c1377b0 : decide (a850 < 0) = false := decide_eq_false c1377
      clear c1377
      go_wp2_with (first | ((with_reducible refine gate_dst (N := 9) rfl ?_); refine box_on ?hg (N := 9) ?hd (cs := #[.int .i64 0, .int .i64 0, .int .i64 0]) (t := 134) ?hr ?_; (case hd => rfl); (case hg => rfl); (case hr => first | (go_simp; done) | (go_simp; rfl)); intro g1366 hg w1367 hbox hb; replace HS : Aside0 (Sep FF w [b7 g835 g837 a845 a846 a847 a848, b6 g837 A840 l839.length n842 a844, r5 A840 l839.length n842 l839, b8 g852 g835, b9 g854 a855, b10 g1366 0 0 0] w1367) := ⟨HS.out.box hg hbox hb⟩; clear hg hbox hb; have hc1369 : w1367.cell? ⟨g1366, 0, none⟩ = some (.int .i64 0) := blk_cellv (HS.out.at5) 0 rfl; have hz1370 : w1367.frozen? ⟨g1366, 0, none⟩ = false := blk_fz (HS.out.at5) 0; have hc1371 : w1367.cell? ⟨g1366, 1, none⟩ = some (.int .i64 0) := blk_cellv (HS.out.at5) 1 rfl; have hz1372 : w1367.frozen? ⟨g1366, 1, none⟩ = false := blk_fz (HS.out.at5) 1; have hc1373 : w1367.cell? ⟨g1366, 2, none⟩ = some (.int .i64 0) := blk_cellv (HS.out.at5) 2 rfl; have hz1374 : w1367.frozen? ⟨g1366, 2, none⟩ = false := blk_fz (HS.out.at5) 2) | ((with_reducible refine gate_store (t := 134) (p := 9) rfl ?_); refine store_event (w1 := (World.setCell (World.setCell (World.setCell w1367 ⟨g1366, 0, none⟩ (.int .i64 t1363.1)) ⟨g1366, 1, none⟩ (.int .i64 t1363.2.1)) ⟨g1366, 2, none⟩ (.int .i64 t1363.2.2.1))) rfl (t := 134) (p := 9) rfl rfl ?hr ?_; (case hr => first | (go_simp; done) | (go_simp; rfl)); intro w1375 hst; clear hc1369 hz1370 hc1371 hz1372 hc1373 hz1374; replace HS : Aside0 (Sep FF w [b7 g835 g837 a845 a846 a847 a848, b6 g837 A840 l839.length n842 a844, r5 A840 l839.length n842 l839, b8 g852 g835, b9 g854 a855, b10 g1366 t1363.1 t1363.2.1 t1363.2.2.1] w1375) := ⟨by rw [hst]; exact HS.out.setAll (l1 := [b7 g835 g837 a845 a846 a847 a848, b6 g837 A840 l839.length n842 a844, r5 A840 l839.length n842 l839, b8 g852 g835, b9 g854 a855]) (l2 := []) [.int .i64 t1363.1, .int .i64 t1363.2.1, .int .i64 t1363.2.2.1] rfl⟩; clear hst))
      obtain ⟨t1378, HA1379, H⟩ := bind_some H
      refine (ground_Ground_Conf.calls l839 a844 a845 a846 a847 a848 g835 g837 A840 l839.length n842 t1378 _ ⟨HS.out.begin⟩ HA1379).mono ?_
      rintro e_ w1380 ⟨rfl, hS⟩
      replace HS : Aside0 (Sep FF w [b7 g835 g837 a845 a846 a847 a848, b6 g837 A840 l839.length n842 a844, r5 A840 l839.length n842 l839, b8 g852 g835, b9 g854 a855, b10 g1366 t1363.1 t1363.2.1 t1363.2.2.1] w1380) := ⟨HS.out.call hS⟩
      clear hS
      by_cases c1382 : a850 ≥ t1378.1
      · have H := if_yes c1382 H
        have c1382b0 : decide (t1378.1 ≤ a850) = true := decide_eq_true c1382
        clear c1382
        have fl1381 : ∀ w, (Instr.field 49 (.agg #[.int .i64 t1378.1, .int .i64 t1378.2.1, .int .i64 t1378.2.2.1, .int .i64 t1378.2.2.2]) 0).run Try.prog w = .ok (.int .i64 t1378.1) w := fun _ => by kernel_rfl
        replace HS : Aside0 (Sep FF w [b7 g835 g837 a845 a846 a847 a848, b6 g837 A840 l839.length n842 a844, r5 A840 l839.length n842 l839, b8 g852 g835, b9 g854 a855] w1380) := ⟨HS.out.sub (.cons_cons _ (.cons_cons _ (.cons_cons _ (.cons_cons _ (.cons_cons _ (.cons _ .slnil))))))⟩
        go_wp2_with fail
        clear fl1381
        go_ret
        rw [← some_eq H]
        exact ⟨(by first | rfl | (simp [IntKind.wrap_u32]; done)), HS.out⟩
      · have H := if_no c1382 H
        have c1382b0 : decide (t1378.1 ≤ a850) = false := decide_eq_false c1382
        clear c1382
        have fl1381 : ∀ w, (Instr.field 49 (.agg #[.int .i64 t1378.1, .int .i64 t1378.2.1, .int .i64 t1378.2.2.1, .int .i64 t1378.2.2.2]) 0).run Try.prog w = .ok (.int .i64 t1378.1) w := fun _ => by kernel_rfl
        have hc1383 : w1380.cell? ⟨g1366, 2, none⟩ = some (.int .i64 t1363.2.2.1) := blk_cellv (HS.out.at5) 2 rfl
        go_wp2_with fail
        clear fl1381 hc1383
        obtain ⟨t1384, HA1385, H⟩ := bind_some H
        refine (ground_Ground_Reg.calls l839 a844 a845 a846 a847 a848 t1363.2.2.1 g835 g837 A840 l839.length n842 t1384 _ ⟨HS.out.begin⟩ HA1385).mono ?_
        rintro e_ w1386 ⟨rfl, hS⟩
        replace HS : Aside0 (Sep FF w [b7 g835 g837 a845 a846 a847 a848, b6 g837 A840 l839.length n842 t1384.2, r5 A840 l839.length n842 l839, b8 g852 g835, b9 g854 a855, b10 g1366 t1363.1 t1363.2.1 t1363.2.2.1] w1386) := ⟨HS.out.call hS⟩
        clear hS
        have hc1387 : w1386.cell? ⟨g1366, 0, none⟩ = some (.int .i64 t1363.1) := blk_cellv (HS.out.at5) 0 rfl
        have hc1388 : w1386.cell? ⟨g1366, 1, none⟩ = some (.int .i64 t1363.2.1) := blk_cellv (HS.out.at5) 1 rfl
        have hc1389 : w1386.cell? ⟨g1366, 2, none⟩ = some (.int .i64 t1363.2.2.1) := blk_cellv (HS.out.at5) 2 rfl
        go_wp2_with fail
        clear hc1387 hc1388 hc1389
        replace HS : Aside0 (Sep FF w [b9 g854 a855, b7 g835 g837 a845 a846 a847 a848, b6 g837 A840 l839.length n842 t1384.2, r5 A840 l839.length n842 l839, b8 g852 g835, b10 g1366 t1363.1 t1363.2.1 t1363.2.2.1] w1386) := ⟨HS.out.front 4 (by simp)⟩
        replace HS : Aside0 (Sep FF w [r5 A840 l839.length n842 l839, b9 g854 a855, b7 g835 g837 a845 a846 a847 a848, b6 g837 A840 l839.length n842 t1384.2, b8 g852 g835, b10 g1366 t1363.1 t1363.2.1 t1363.2.2.1] w1386) := ⟨HS.out.front 3 (by simp)⟩
        replace HS : Aside0 (Sep FF w [b6 g837 A840 l839.length n842 t1384.2, r5 A840 l839.length n842 l839, b9 g854 a855, b7 g835 g837 a845 a846 a847 a848, b8 g852 g835, b10 g1366 t1363.1 t1363.2.1 t1363.2.2.1] w1386) := ⟨HS.out.front 3 (by simp)⟩
        replace HS : Aside0 (Sep FF w [b7 g835 g837 a845 a846 a847 a848, b6 g837 A840 l839.length n842 t1384.2, r5 A840 l839.length n842 l839, b9 g854 a855, b8 g852 g835, b10 g1366 t1363.1 t1363.2.1 t1363.2.2.1] w1386) := ⟨HS.out.front 3 (by simp)⟩
        replace HS : Aside0 (Sep FF w [b8 g852 g835, b7 g835 g837 a845 a846 a847 a848, b6 g837 A840 l839.length n842 t1384.2, r5 A840 l839.length n842 l839, b9 g854 a855, b10 g1366 t1363.1 t1363.2.1 t1363.2.2.1] w1386) := ⟨HS.out.front 4 (by simp)⟩
        obtain ⟨t1390, HA1391, H⟩ := bind_some H
        refine (chain_Add_1.calls t1363.1 t1363.2.1 t1363.2.2.1 (wrap64 (a850 + 1)) t1384.1 l839 t1384.2 a845 a846 a847 a848 a855 g852 g835 g837 A840 l839.length n842 g854 t1390 _ ⟨HS.out.begin⟩ HA1391).mono ?_
        rintro e_ w1392 ⟨rfl, hS⟩
        replace HS : Aside0 (Sep FF w [b8 g852 g835, b7 g835 g837 a845 a846 a847 a848, b6 g837 A840 l839.length n842 t1390.1, r5 A840 l839.length n842 t1390.2, b9 g854 a855, b10 g1366 t1363.1 t1363.2.1 t1363.2.2.1] w1392) := ⟨HS.out.call hS⟩
        clear hS
        have hc1393 : w1392.cell? ⟨g1366, 2, none⟩ = some (.int .i64 t1363.2.2.1) := blk_cellv (HS.out.at5) 2 rfl
        go_wp2_with fail
        clear hc1393
        replace HS : Aside0 (Sep FF w [r5 A840 l839.length n842 t1390.2, b8 g852 g835, b7 g835 g837 a845 a846 a847 a848, b6 g837 A840 l839.length n842 t1390.1, b9 g854 a855, b10 g1366 t1363.1 t1363.2.1 t1363.2.2.1] w1392) := ⟨HS.out.front 3 (by simp)⟩
        replace HS : Aside0 (Sep FF w [b6 g837 A840 l839.length n842 t1390.1, r5 A840 l839.length n842 t1390.2, b8 g852 g835, b7 g835 g837 a845 a846 a847 a848, b9 g854 a855, b10 g1366 t1363.1 t1363.2.1 t1363.2.2.1] w1392) := ⟨HS.out.front 3 (by simp)⟩
        replace HS : Aside0 (Sep FF w [b7 g835 g837 a845 a846 a847 a848, b6 g837 A840 l839.length n842 t1390.1, r5 A840 l839.length n842 t1390.2, b8 g852 g835, b9 g854 a855, b10 g1366 t1363.1 t1363.2.1 t1363.2.2.1] w1392) := ⟨HS.out.front 3 (by simp)⟩
        obtain ⟨t1394, HA1395, H⟩ := bind_some H
        refine (ground_Ground_SetReg.calls t1390.2 t1390.1 a845 a846 a847 a848 t1363.2.2.1 (wrap64 (t1384.1 + 1)) g835 g837 A840 l839.length n842 t1394 _ ⟨HS.out.begin⟩ HA1395).mono ?_
        rintro e_ w1396 ⟨rfl, hS⟩
        replace HS : Aside0 (Sep FF w [b7 g835 g837 a845 a846 a847 a848, b6 g837 A840 l839.length n842 t1394.2.1, r5 A840 l839.length n842 t1394.2.2, b8 g852 g835, b9 g854 a855, b10 g1366 t1363.1 t1363.2.1 t1363.2.2.1] w1396) := ⟨HS.out.call hS⟩
        clear hS
        replace HS : Aside0 (Sep FF w [b7 g835 g837 a845 a846 a847 a848, b6 g837 A840 l839.length n842 t1394.2.1, r5 A840 l839.length n842 t1394.2.2, b8 g852 g835, b9 g854 a855] w1396) := ⟨HS.out.sub (.cons_cons _ (.cons_cons _ (.cons_cons _ (.cons_cons _ (.cons_cons _ (.cons _ .slnil))))))⟩
        go_wp2_with fail
        go_ret
        rw [← some_eq H]
        exact ⟨(by first | rfl | (simp [IntKind.wrap_u32]; done)), HS.out⟩
  · have H := if_no c1376 H
    have c1376b0 : t1363.2.2.2 = false := by simpa using c1376
    have c1376b1 : (!t1363.2.2.2) = true := by rw [c1376b0]; rfl
    try rw [c1376b1]
    clear c1376
    go_wp2_with (first | ((with_reducible refine gate_dst (N := 9) rfl ?_); refine box_on ?hg (N := 9) ?hd (cs := #[.int .i64 0, .int .i64 0, .int .i64 0]) (t := 134) ?hr ?_; (case hd => rfl); (case hg => rfl); (case hr => first | (go_simp; done) | (go_simp; rfl)); intro g1366 hg w1367 hbox hb; replace HS : Aside0 (Sep FF w [b7 g835 g837 a845 a846 a847 a848, b6 g837 A840 l839.length n842 a844, r5 A840 l839.length n842 l839, b8 g852 g835, b9 g854 a855, b10 g1366 0 0 0] w1367) := ⟨HS.out.box hg hbox hb⟩; clear hg hbox hb; have hc1369 : w1367.cell? ⟨g1366, 0, none⟩ = some (.int .i64 0) := blk_cellv (HS.out.at5) 0 rfl; have hz1370 : w1367.frozen? ⟨g1366, 0, none⟩ = false := blk_fz (HS.out.at5) 0; have hc1371 : w1367.cell? ⟨g1366, 1, none⟩ = some (.int .i64 0) := blk_cellv (HS.out.at5) 1 rfl; have hz1372 : w1367.frozen? ⟨g1366, 1, none⟩ = false := blk_fz (HS.out.at5) 1; have hc1373 : w1367.cell? ⟨g1366, 2, none⟩ = some (.int .i64 0) := blk_cellv (HS.out.at5) 2 rfl; have hz1374 : w1367.frozen? ⟨g1366, 2, none⟩ = false := blk_fz (HS.out.at5) 2) | ((with_reducible refine gate_store (t := 134) (p := 9) rfl ?_); refine store_event (w1 := (World.setCell (World.setCell (World.setCell w1367 ⟨g1366, 0, none⟩ (.int .i64 t1363.1)) ⟨g1366, 1, none⟩ (.int .i64 t1363.2.1)) ⟨g1366, 2, none⟩ (.int .i64 t1363.2.2.1))) rfl (t := 134) (p := 9) rfl rfl ?hr ?_; (case hr => first | (go_simp; done) | (go_simp; rfl)); intro w1375 hst; clear hc1369 hz1370 hc1371 hz1372 hc1373 hz1374; replace HS : Aside0 (Sep FF w [b7 g835 g837 a845 a846 a847 a848, b6 g837 A840 l839.length n842 a844, r5 A840 l839.length n842 l839, b8 g852 g835, b9 g854 a855, b10 g1366 t1363.1 t1363.2.1 t1363.2.2.1] w1375) := ⟨by rw [hst]; exact HS.out.setAll (l1 := [b7 g835 g837 a845 a846 a847 a848, b6 g837 A840 l839.length n842 a844, r5 A840 l839.length n842 l839, b8 g852 g835, b9 g854 a855]) (l2 := []) [.int .i64 t1363.1, .int .i64 t1363.2.1, .int .i64 t1363.2.2.1] rfl⟩; clear hst; replace HS : Aside0 (Sep FF w [b7 g835 g837 a845 a846 a847 a848, b6 g837 A840 l839.length n842 a844, r5 A840 l839.length n842 l839, b8 g852 g835, b9 g854 a855] w1375) := ⟨HS.out.sub (.cons_cons _ (.cons_cons _ (.cons_cons _ (.cons_cons _ (.cons_cons _ (.cons _ .slnil))))))⟩))
    go_ret
    rw [← some_eq H]
    exact ⟨(by first | rfl | (simp [IntKind.wrap_u32]; done)), HS.out⟩

set_option maxHeartbeats 30000000 in
set_option maxRecDepth 100000 in
theorem chain_Add.calls (l814 : List Int) (a819 : Int) (a820 : Int) (a821 : Int) (a822 : Int) (a823 : Int) (a824 : Int) (a825 : Int) (g810 : Nat) (g812 : Nat) (A815 : Option Addr) (m816 : Nat) (n817 : Nat) (r : Bool × Int × List Int) (w : World)   (HS : Aside0 (Sep (fps [b7 g810 g812 a820 a821 a822 a823, b6 g812 A815 m816 n817 a819, r5 A815 m816 n817 l814]) w [b7 g810 g812 a820 a821 a822 a823, b6 g812 A815 m816 n817 a819, r5 A815 m816 n817 l814] w)) (H : Aside0 (chain_Add.f l814 a819 a820 a821 a822 a823 a824 a825 = some r)) :
    Calls Try.prog 52 #[.pointer (some ⟨g810, 0, none⟩), .int .i64 a824, .int .i64 a825] w fun e w' => e = .returned (.bool r.1) ∧ Sep (fps [b7 g810 g812 a820 a821 a822 a823, b6 g812 A815 m816 n817 a819, r5 A815 m816 n817 l814]) w [b7 g810 g812 a820 a821 a822 a823, b6 g812 A815 m816 n817 r.2.1, r5 A815 m816 n817 r.2.2] w' := by
  generalize (fps [b7 g810 g812 a820 a821 a822 a823, b6 g812 A815 m816 n817 a819, r5 A815 m816 n817 l814]) = FF at HS ⊢
  obtain rfl := (row_len (HS.out.at2)).symm
  unfold chain_Add.f at H
  go_enter Try.func52, Try.ntmps52
  go_wp2_with (first | ((with_reducible refine gate_dst (N := 3) rfl ?_); refine box_on ?hg (N := 3) ?hd (cs := #[.pointer (some ⟨g810, 0, none⟩)]) (t := 50) ?hr ?_; (case hd => rfl); (case hg => rfl); (case hr => first | (go_simp; done) | (go_simp; rfl)); intro g1400 hg w1401 hbox hb; replace HS : Aside0 (Sep FF w [b7 g810 g812 a820 a821 a822 a823, b6 g812 A815 l814.length n817 a819, r5 A815 l814.length n817 l814, b8 g1400 g810] w1401) := ⟨HS.out.box hg hbox hb⟩; clear hg hbox hb) | ((with_reducible refine gate_dst (N := 5) rfl ?_); refine box_on ?hg (N := 5) ?hd (cs := #[.int .i64 a825]) (t := 3) ?hr ?_; (case hd => rfl); (case hg => rfl); (case hr => first | (go_simp; done) | (go_simp; rfl)); intro g1403 hg w1404 hbox hb; replace HS : Aside0 (Sep FF w [b7 g810 g812 a820 a821 a822 a823, b6 g812 A815 l814.length n817 a819, r5 A815 l814.length n817 l814, b8 g1400 g810, b9 g1403 a825] w1404) := ⟨HS.out.box hg hbox hb⟩; clear hg hbox hb; have hc1406 : w1404.cell? ⟨g1400, 0, none⟩ = some (.pointer (some ⟨g810, 0, none⟩)) := blk_cellv (HS.out.at3) 0 rfl; have hc1407 : w1404.cell? ⟨g1403, 0, none⟩ = some (.int .i64 a825) := blk_cellv (HS.out.at4) 0 rfl))
  clear hc1406 hc1407
  obtain ⟨t1408, HA1409, H⟩ := bind_some H
  refine (chain_put_F89.calls l814 a819 a820 a821 a822 a823 a824 a825 a825 g810 g812 A815 l814.length n817 g1400 g1403 t1408 _ ⟨HS.out.begin⟩ HA1409).mono ?_
  rintro e_ w1410 ⟨rfl, hS⟩
  replace HS : Aside0 (Sep FF w [b7 g810 g812 a820 a821 a822 a823, b6 g812 A815 l814.length n817 t1408.2.1, r5 A815 l814.length n817 t1408.2.2, b8 g1400 g810, b9 g1403 a825] w1410) := ⟨HS.out.call hS⟩
  clear hS
  replace HS : Aside0 (Sep FF w [b7 g810 g812 a820 a821 a822 a823, b6 g812 A815 l814.length n817 t1408.2.1, r5 A815 l814.length n817 t1408.2.2] w1410) := ⟨HS.out.sub (.cons_cons _ (.cons_cons _ (.cons_cons _ (.cons _ (.cons _ .slnil)))))⟩
  go_wp2_with fail
  go_ret
  rw [← some_eq H]
  exact ⟨(by first | rfl | (simp [IntKind.wrap_u32]; done)), HS.out⟩
end Go.Proofs.Ytobeonkddamnoaa.C

/- Each function of the group WN does what its plain function says, and changes nothing that was there; proved by walking its code. No condition. -/
import Derived.Test.YtgkpcboaiaiahaaQw
import Derived.Test.YtgkpcboaiaiahaaMWN
import Derived.Tactics2
import Derived.Defers
import Derived.Laws.Pointers
import Derived.RegionTactic
import Derived.RegionCalls
import Derived.ChangeAlike
namespace Go.Proofs.Ytgkpcboaiaiahaa.C
open Go.RowKit Go.Proofs.YtgkpcboaiaiahaaW.PrintWords Go.Proofs.YtgkpcboaiaiahaaW.PrintLast Go.Proofs.Ytgkpcboaiaiahaa.Q Go.Proofs.Ytgkpcboaiaiahaa.M
set_option linter.unusedVariables false
set_option linter.unusedSimpArgs false
def b1 (g : Nat) (x0 : Int) (x1 : Int) (x2 : Int) (x3 : Int) : Ob := blk g #[.int .i64 x0, .int .i64 x1, .int .i64 x2, .int .i64 x3] 37
def b2 (g : Nat) (x0 : Int) (x1 : Int) (x2 : Int) (x3 : Int) (x4 : Int) (x5 : Int) (x6 : Int) (x7 : Int) : Ob := blk g #[.int .i64 x0, .int .i64 x1, .int .i64 x2, .int .i64 x3, .int .i64 x4, .int .i64 x5, .int .i64 x6, .int .i64 x7] 39
def b3 (g : Nat) (x0 : Int) (x1 : Int) : Ob := blk g #[.int .i64 x0, .int .i64 x1] 3
def b4 (g : Nat) (x0 : Int) (x1 : Int) (x2 : Int) : Ob := blk g #[.int .i64 x0, .int .i64 x1, .int .i64 x2] 3
def b5 (g : Nat) (x0 : Int) (x1 : Int) (x2 : Int) (x3 : Int) (x4 : Int) (x5 : Int) (x6 : Int) (x7 : Int) (x8 : Int) (x9 : Int) (x10 : Int) (x11 : Int) (x12 : Int) (x13 : Int) (x14 : Int) (x15 : Int) (x16 : Int) : Ob := blk g #[.int .i64 x0, .int .i64 x1, .int .i64 x2, .int .i64 x3, .int .u32 x4, .int .i32 x5, .int .u32 x6, .int .i64 x7, .int .i64 x8, .int .i64 x9, .int .i64 x10, .int .i64 x11, .int .i64 x12, .int .i64 x13, .int .i64 x14, .int .i64 x15, .int .i64 x16] 94
def b6 (g : Nat) (x0 : Nat) : Ob := blk g #[.pointer (some ⟨x0, 0, none⟩)] 74

set_option maxHeartbeats 30000000 in
set_option maxRecDepth 100000 in
theorem ratio_Clamp.calls (a38 : Int) (a39 : Int) (a40 : Int) (r : Int) (w : World)   (HS : Aside0 (Sep (fps []) w [] w)) (H : Aside0 (ratio_Clamp.f a38 a39 a40 = some r)) :
    Calls Try.prog 17 #[.int .i64 a38, .int .i64 a39, .int .i64 a40] w fun e w' => e = .returned (.int .i64 r) ∧ Sep (fps []) w [] w' := by
  unfold ratio_Clamp.f at H
  go_enter Try.func17, Try.ntmps17
  by_cases c41 : a38 > a40
  · replace H := if_yes c41 H
    have c41b0 : decide (a40 < a38) = true := decide_eq_true c41
    clear c41
    go_wp2_with fail
    go_ret
    rw [← some_eq H]
    exact ⟨(by first | rfl | (simp [IntKind.wrap_u32]; done)), HS.out⟩
  · replace H := if_no c41 H
    have c41b0 : decide (a40 < a38) = false := decide_eq_false c41
    clear c41
    by_cases c42 : a38 < a39
    · replace H := if_yes c42 H
      have c42b0 : decide (a38 < a39) = true := decide_eq_true c42
      skip
      go_wp2_with fail
      clear c42
      go_ret
      rw [← some_eq H]
      exact ⟨(by first | rfl | (simp [IntKind.wrap_u32]; done)), HS.out⟩
    · replace H := if_no c42 H
      have c42b0 : decide (a38 < a39) = false := decide_eq_false c42
      skip
      go_wp2_with fail
      clear c42
      go_ret
      rw [← some_eq H]
      exact ⟨(by first | rfl | (simp [IntKind.wrap_u32]; done)), HS.out⟩

set_option maxHeartbeats 30000000 in
set_option maxRecDepth 100000 in
theorem plan_within.calls (a35 : Int) (a36 : Int) (a37 : Int) (r : Bool) (w : World)   (HS : Aside0 (Sep (fps []) w [] w)) (H : Aside0 (plan_within.f a35 a36 a37 = some r)) :
    Calls Try.prog 69 #[.int .i64 a35, .int .i64 a36, .int .i64 a37] w fun e w' => e = .returned (.bool r) ∧ Sep (fps []) w [] w' := by
  unfold plan_within.f at H
  go_enter Try.func69, Try.ntmps69
  go_wp2_with fail
  obtain ⟨t43, HA44, H⟩ := bind_some H
  refine (ratio_Clamp.calls a35 a36 a37 t43 _ ⟨Sep.start _⟩ HA44).mono ?_
  rintro e_ w45 ⟨rfl, hS⟩
  replace HS : Aside0 (Sep (fps []) w [] w45) := ⟨HS.out.call hS⟩
  clear hS
  go_wp2_with fail
  go_ret
  rw [← some_eq H]
  exact ⟨(by first | rfl | (simp [IntKind.wrap_u32]; done)), HS.out⟩

set_option maxHeartbeats 30000000 in
set_option maxRecDepth 100000 in
theorem plan_Check.calls (a27 : Int) (a28 : Int) (a29 : Int) (a30 : Int) (r : Int) (w : World)   (HS : Aside0 (Sep (fps []) w [] w)) (H : Aside0 (plan_Check.f a27 a28 a29 a30 = some r)) :
    Calls Try.prog 63 #[.agg #[.int .i64 a27, .int .i64 a28, .int .i64 a29, .int .i64 a30]] w fun e w' => e = .returned (.int .i64 r) ∧ Sep (fps []) w [] w' := by
  unfold plan_Check.f at H
  go_enter Try.func63, Try.ntmps63
  go_wp2_with (first | ((with_reducible refine gate_dst (N := 1) rfl ?_); refine box_on ?hg (N := 1) ?hd (cs := #[.int .i64 a27, .int .i64 a28, .int .i64 a29, .int .i64 a30]) (t := 37) ?hr ?_; (case hd => rfl); (case hg => rfl); (case hr => first | (go_simp; done) | (go_simp; rfl)); intro g31 hg w32 hbox hb; replace HS : Aside0 (Sep (fps []) w [b1 g31 a27 a28 a29 a30] w32) := ⟨HS.out.box hg hbox hb⟩; clear hg hbox hb; have hc34 : w32.cell? ⟨g31, 0, none⟩ = some (.int .i64 a27) := blk_cellv (HS.out.at0) 0 rfl))
  clear hc34
  obtain ⟨t46, HA47, H⟩ := bind_some H
  refine (plan_within.calls a27 1 1048576 t46 _ ⟨Sep.start _⟩ HA47).mono ?_
  rintro e_ w48 ⟨rfl, hS⟩
  replace HS : Aside0 (Sep (fps []) w [b1 g31 a27 a28 a29 a30] w48) := ⟨HS.out.call hS⟩
  clear hS
  by_cases c49 : t46 = true
  · replace H := if_yes c49 H
    have c49b0 : t46 = true := c49
    have c49b1 : (!t46) = false := by rw [c49b0]; rfl
    clear c49
    have hc50 : w48.cell? ⟨g31, 1, none⟩ = some (.int .i64 a28) := blk_cellv (HS.out.at0) 1 rfl
    go_wp2_with fail
    clear hc50
    obtain ⟨t51, HA52, H⟩ := bind_some H
    refine (plan_within.calls a28 16 256 t51 _ ⟨Sep.start _⟩ HA52).mono ?_
    rintro e_ w53 ⟨rfl, hS⟩
    replace HS : Aside0 (Sep (fps []) w [b1 g31 a27 a28 a29 a30] w53) := ⟨HS.out.call hS⟩
    clear hS
    by_cases c54 : t51 = true
    · replace H := if_yes c54 H
      have c54b0 : t51 = true := c54
      have c54b1 : (!t51) = false := by rw [c54b0]; rfl
      clear c54
      have hc55 : w53.cell? ⟨g31, 2, none⟩ = some (.int .i64 a29) := blk_cellv (HS.out.at0) 2 rfl
      go_wp2_with fail
      clear hc55
      obtain ⟨t56, HA57, H⟩ := bind_some H
      refine (plan_within.calls a29 1 4096 t56 _ ⟨Sep.start _⟩ HA57).mono ?_
      rintro e_ w58 ⟨rfl, hS⟩
      replace HS : Aside0 (Sep (fps []) w [b1 g31 a27 a28 a29 a30] w58) := ⟨HS.out.call hS⟩
      clear hS
      by_cases c59 : t56 = true
      · replace H := if_yes c59 H
        have c59b0 : t56 = true := c59
        have c59b1 : (!t56) = false := by rw [c59b0]; rfl
        clear c59
        have hc60 : w58.cell? ⟨g31, 3, none⟩ = some (.int .i64 a30) := blk_cellv (HS.out.at0) 3 rfl
        go_wp2_with fail
        clear hc60
        obtain ⟨t61, HA62, H⟩ := bind_some H
        refine (plan_within.calls a30 1 65536 t61 _ ⟨Sep.start _⟩ HA62).mono ?_
        rintro e_ w63 ⟨rfl, hS⟩
        replace HS : Aside0 (Sep (fps []) w [b1 g31 a27 a28 a29 a30] w63) := ⟨HS.out.call hS⟩
        clear hS
        by_cases c64 : t61 = true
        · replace H := if_yes c64 H
          have c64b0 : t61 = true := c64
          have c64b1 : (!t61) = false := by rw [c64b0]; rfl
          clear c64
          by_cases c67 : (wrap64 (a27 * a28)) ≤ 4194304
          · replace H := if_yes c67 H
            have c67b0 : decide ((wrap64 (a27 * a28)) ≤ 4194304) = true := decide_eq_true c67
            clear c67
            have hc65 : w63.cell? ⟨g31, 0, none⟩ = some (.int .i64 a27) := blk_cellv (HS.out.at0) 0 rfl
            have hc66 : w63.cell? ⟨g31, 1, none⟩ = some (.int .i64 a28) := blk_cellv (HS.out.at0) 1 rfl
            replace HS : Aside0 (Sep (fps []) w [] w63) := ⟨HS.out.sub (.cons _ .slnil)⟩
            go_wp2_with fail
            clear hc65 hc66
            go_ret
            rw [← some_eq H]
            exact ⟨(by first | rfl | (simp [IntKind.wrap_u32]; done)), HS.out⟩
          · replace H := if_no c67 H
            have c67b0 : decide ((wrap64 (a27 * a28)) ≤ 4194304) = false := decide_eq_false c67
            clear c67
            have hc65 : w63.cell? ⟨g31, 0, none⟩ = some (.int .i64 a27) := blk_cellv (HS.out.at0) 0 rfl
            have hc66 : w63.cell? ⟨g31, 1, none⟩ = some (.int .i64 a28) := blk_cellv (HS.out.at0) 1 rfl
            replace HS : Aside0 (Sep (fps []) w [] w63) := ⟨HS.out.sub (.cons _ .slnil)⟩
            go_wp2_with fail
            clear hc65 hc66
            go_ret
            rw [← some_eq H]
            exact ⟨(by first | rfl | (simp [IntKind.wrap_u32]; done)), HS.out⟩
        · replace H := if_no c64 H
          have c64b0 : t61 = false := by simpa using c64
          have c64b1 : (!t61) = true := by rw [c64b0]; rfl
          clear c64
          replace HS : Aside0 (Sep (fps []) w [] w63) := ⟨HS.out.sub (.cons _ .slnil)⟩
          go_wp2_with fail
          go_ret
          rw [← some_eq H]
          exact ⟨(by first | rfl | (simp [IntKind.wrap_u32]; done)), HS.out⟩
      · replace H := if_no c59 H
        have c59b0 : t56 = false := by simpa using c59
        have c59b1 : (!t56) = true := by rw [c59b0]; rfl
        clear c59
        replace HS : Aside0 (Sep (fps []) w [] w58) := ⟨HS.out.sub (.cons _ .slnil)⟩
        go_wp2_with fail
        go_ret
        rw [← some_eq H]
        exact ⟨(by first | rfl | (simp [IntKind.wrap_u32]; done)), HS.out⟩
    · replace H := if_no c54 H
      have c54b0 : t51 = false := by simpa using c54
      have c54b1 : (!t51) = true := by rw [c54b0]; rfl
      clear c54
      replace HS : Aside0 (Sep (fps []) w [] w53) := ⟨HS.out.sub (.cons _ .slnil)⟩
      go_wp2_with fail
      go_ret
      rw [← some_eq H]
      exact ⟨(by first | rfl | (simp [IntKind.wrap_u32]; done)), HS.out⟩
  · replace H := if_no c49 H
    have c49b0 : t46 = false := by simpa using c49
    have c49b1 : (!t46) = true := by rw [c49b0]; rfl
    clear c49
    replace HS : Aside0 (Sep (fps []) w [] w48) := ⟨HS.out.sub (.cons _ .slnil)⟩
    go_wp2_with fail
    go_ret
    rw [← some_eq H]
    exact ⟨(by first | rfl | (simp [IntKind.wrap_u32]; done)), HS.out⟩

set_option maxHeartbeats 30000000 in
set_option maxRecDepth 100000 in
theorem ratio_counts.calls (a100 : Int) (r : Int) (w : World)   (HS : Aside0 (Sep (fps []) w [] w)) (H : Aside0 (ratio_counts.f a100 = some r)) :
    Calls Try.prog 51 #[.int .i64 a100] w fun e w' => e = .returned (.int .i64 r) ∧ Sep (fps []) w [] w' := by
  unfold ratio_counts.f at H
  go_enter Try.func51, Try.ntmps51
  go_wp2_with fail
  obtain ⟨t101, HA102, H⟩ := bind_some H
  refine (ratio_Clamp.calls a100 0 1125899906842624 t101 _ ⟨Sep.start _⟩ HA102).mono ?_
  rintro e_ w103 ⟨rfl, hS⟩
  replace HS : Aside0 (Sep (fps []) w [] w103) := ⟨HS.out.call hS⟩
  clear hS
  go_wp2_with fail
  go_ret
  rw [← some_eq H]
  exact ⟨(by first | rfl | (simp [IntKind.wrap_u32]; done)), HS.out⟩

set_option maxHeartbeats 30000000 in
set_option maxRecDepth 100000 in
theorem ratio_zero.calls (a99 : Int) (r : Bool) (w : World)   (HS : Aside0 (Sep (fps []) w [] w)) (H : Aside0 (ratio_zero.f a99 = some r)) :
    Calls Try.prog 53 #[.int .i64 a99] w fun e w' => e = .returned (.bool r) ∧ Sep (fps []) w [] w' := by
  unfold ratio_zero.f at H
  go_enter Try.func53, Try.ntmps53
  go_wp2_with fail
  obtain ⟨t104, HA105, H⟩ := bind_some H
  refine (ratio_counts.calls a99 t104 _ ⟨Sep.start _⟩ HA105).mono ?_
  rintro e_ w106 ⟨rfl, hS⟩
  replace HS : Aside0 (Sep (fps []) w [] w106) := ⟨HS.out.call hS⟩
  clear hS
  go_wp2_with fail
  go_ret
  rw [← some_eq H]
  exact ⟨(by first | rfl | (simp [IntKind.wrap_u32]; done)), HS.out⟩

set_option maxHeartbeats 30000000 in
set_option maxRecDepth 100000 in
theorem slices_IndexFunc_int_int_F53.calls (k : Nat) (l85 : List Int) (A86 : Option Addr) (n87 : Nat) (r : Int) (w : World) (HR88 : Aside0 (Rd (Kd.int .i64) (fps []) w A86 l85.length l85))  (HS : Aside0 (Sep (fps []) w [] w)) (H : Aside0 (slices_IndexFunc_int_int_F53.f k l85 = some r)) :
    Calls Try.prog 72 #[.slice A86 l85.length n87, .func (.func 53) #[] #[]] w fun e w' => e = .returned (.int .i64 r) ∧ Sep (fps []) w [] w' := by
  unfold slices_IndexFunc_int_int_F53.f at H
  go_enter Try.func72, Try.ntmps72
  go_wp2_with fail
  obtain ⟨o111, AL112, H⟩ := bind_some H
  go_loopg [8] k (fun kq v8 wc => ∃ (x115 : Int), v8 = .int .i64 x115 ∧ Aside0 (slices_IndexFunc_int_int_F53.lo0 kq l85 x115 = some o111) ∧ Aside0 (Sep (fps []) w [] wc))
  case atStart => exact ⟨(0), (by first | rfl | (simp [IntKind.wrap_u32]; done)), AL112, ⟨HS.out⟩⟩
  case round =>
    clear AL112 HS
    obtain ⟨x115, rfl, AL112, HS⟩ := hrel
    obtain ⟨w113, rfl⟩ : ∃ x : World, x = wr := ⟨_, rfl⟩
    cases gk with
    | zero => exact absurd AL112.out (by simp [slices_IndexFunc_int_int_F53.lo0])
    | succ k114 =>
      have AL0 := AL112.out
      rw [slices_IndexFunc_int_int_F53.lo0] at AL0
      clear AL112
      have AL112 := Aside0.mk AL0
      clear AL0
      by_cases c116 : x115 < (l85.length : Int)
      · replace AL112 := if_yes c116 AL112
        have c116b0 : decide (x115 < (l85.length : Int)) = true := decide_eq_true c116
        clear c116
        by_cases c117 : 0 ≤ x115
        · replace AL112 := if_yes c117 AL112
          have c117b0 : decide (0 ≤ x115) = true := decide_eq_true c117
          have c117p : (0 ≤ x115) = True := eq_true c117
          clear c117
          have ip118 : (x115 < (l85.length : Int)) = True := eq_true (of_decide_eq_true c116b0)
          obtain ⟨hx119a, hx119e, hx119⟩ := Kd.at_int (Rd.read (fun _ _ _ _ h => h) HR88.out HS.out.fr) x115 (of_decide_eq_true c117b0) (of_decide_eq_true c116b0); cases hx119e
          go_wp2_with fail
          clear hx119
          obtain ⟨t107, HA120, AL112⟩ := bind_some AL112
          refine (ratio_zero.calls (rd l85 x115) t107 _ ⟨Sep.start _⟩ HA120).mono ?_
          rintro e_ w121 ⟨rfl, hS⟩
          replace HS : Aside0 (Sep (fps []) w [] w121) := ⟨HS.out.call hS⟩
          clear hS
          by_cases c122 : t107 = true
          · replace AL112 := if_yes c122 AL112
            have c122b0 : t107 = true := c122
            have c122b1 : (!t107) = false := by rw [c122b0]; rfl
            clear c122
            go_wp2_with fail
            have ho := some_eq AL112
            subst ho
            have H := lp_ret H
            go_ret
            rw [← some_eq H]
            exact ⟨(by first | rfl | (simp [IntKind.wrap_u32]; done)), HS.out⟩
          · replace AL112 := if_no c122 AL112
            have c122b0 : t107 = false := by simpa using c122
            have c122b1 : (!t107) = true := by rw [c122b0]; rfl
            clear c122
            go_wp2_with fail
            go_roundg k114
            case measure => exact Nat.lt_succ_self _
            case rel => exact ⟨(wrap64 (x115 + 1)), (by first | rfl | (simp [IntKind.wrap_u32]; done)), Aside0.mk AL112.out, ⟨HS.out⟩⟩
        · replace AL112 := if_no c117 AL112
          have c117b0 : decide (0 ≤ x115) = false := decide_eq_false c117
          clear c117
          exact (none_no AL112).elim
      · replace AL112 := if_no c116 AL112
        have c116b0 : decide (x115 < (l85.length : Int)) = false := decide_eq_false c116
        clear c116
        have ho := some_eq AL112
        subst ho
        clear AL112
        have H := lp_out H
        go_wp2_with fail
        go_ret
        rw [← some_eq H]
        exact ⟨(by first | rfl | (simp [IntKind.wrap_u32]; done)), HS.out⟩

set_option maxHeartbeats 30000000 in
set_option maxRecDepth 100000 in
theorem slices_ContainsFunc_int_int_F53.calls (k : Nat) (l81 : List Int) (A82 : Option Addr) (n83 : Nat) (r : Bool) (w : World) (HR84 : Aside0 (Rd (Kd.int .i64) (fps []) w A82 l81.length l81))  (HS : Aside0 (Sep (fps []) w [] w)) (H : Aside0 (slices_ContainsFunc_int_int_F53.f k l81 = some r)) :
    Calls Try.prog 52 #[.slice A82 l81.length n83, .func (.func 53) #[] #[]] w fun e w' => e = .returned (.bool r) ∧ Sep (fps []) w [] w' := by
  unfold slices_ContainsFunc_int_int_F53.f at H
  go_enter Try.func52, Try.ntmps52
  go_wp2_with fail
  obtain ⟨t124, HA125, H⟩ := bind_some H
  refine (slices_IndexFunc_int_int_F53.calls _ l81 A82 n83 t124 _ ⟨Rd.pass (l := []) (by decide) (fun _ _ _ _ h => h) HR84.out HS.out⟩ ⟨Sep.start _⟩ HA125).mono ?_
  rintro e_ w126 ⟨rfl, hS⟩
  replace HS : Aside0 (Sep (fps []) w [] w126) := ⟨HS.out.call hS⟩
  clear hS
  go_wp2_with fail
  go_ret
  rw [← some_eq H]
  exact ⟨(by first | rfl | (simp [IntKind.wrap_u32]; done)), HS.out⟩

set_option maxHeartbeats 30000000 in
set_option maxRecDepth 100000 in
theorem ratio_Mul.calls (k : Nat) (l77 : List Int) (A78 : Option Addr) (n79 : Nat) (r : Int) (w : World) (HR80 : Aside0 (Rd (Kd.int .i64) (fps []) w A78 l77.length l77))  (HS : Aside0 (Sep (fps []) w [] w)) (H : Aside0 (ratio_Mul.f k l77 = some r)) :
    Calls Try.prog 20 #[.slice A78 l77.length n79] w fun e w' => e = .returned (.int .i64 r) ∧ Sep (fps []) w [] w' := by
  unfold ratio_Mul.f at H
  go_enter Try.func20, Try.ntmps20
  go_wp2_with fail
  obtain ⟨t127, HA128, H⟩ := bind_some H
  refine (slices_ContainsFunc_int_int_F53.calls _ l77 A78 n79 t127 _ ⟨Rd.pass (l := []) (by decide) (fun _ _ _ _ h => h) HR80.out HS.out⟩ ⟨Sep.start _⟩ HA128).mono ?_
  rintro e_ w129 ⟨rfl, hS⟩
  replace HS : Aside0 (Sep (fps []) w [] w129) := ⟨HS.out.call hS⟩
  clear hS
  by_cases c130 : t127 = true
  · replace H := if_yes c130 H
    have c130b0 : t127 = true := c130
    have c130b1 : (!t127) = false := by rw [c130b0]; rfl
    clear c130
    go_wp2_with fail
    go_ret
    rw [← some_eq H]
    exact ⟨(by first | rfl | (simp [IntKind.wrap_u32]; done)), HS.out⟩
  · replace H := if_no c130 H
    have c130b0 : t127 = false := by simpa using c130
    have c130b1 : (!t127) = true := by rw [c130b0]; rfl
    clear c130
    go_wp2_with fail
    obtain ⟨o132, AL133, H⟩ := bind_some H
    go_loopg [3, 11] k (fun kq v3 v11 wc => ∃ (x136 : Int) (x137 : Int), v3 = .int .i64 x136 ∧ v11 = .int .i64 x137 ∧ Aside0 (ratio_Mul.lo0 kq l77 x136 x137 = some o132) ∧ Aside0 (Sep (fps []) w [] wc))
    case atStart => exact ⟨(1), (0), (by first | rfl | (simp [IntKind.wrap_u32]; done)), (by first | rfl | (simp [IntKind.wrap_u32]; done)), AL133, ⟨HS.out⟩⟩
    case round =>
      clear AL133 HS
      obtain ⟨x136, x137, rfl, rfl, AL133, HS⟩ := hrel
      obtain ⟨w134, rfl⟩ : ∃ x : World, x = wr := ⟨_, rfl⟩
      cases gk with
      | zero => exact absurd AL133.out (by simp [ratio_Mul.lo0])
      | succ k135 =>
        have AL0 := AL133.out
        rw [ratio_Mul.lo0] at AL0
        clear AL133
        have AL133 := Aside0.mk AL0
        clear AL0
        by_cases c138 : x137 < (l77.length : Int)
        · replace AL133 := if_yes c138 AL133
          have c138b0 : decide (x137 < (l77.length : Int)) = true := decide_eq_true c138
          clear c138
          by_cases c139 : 0 ≤ x137
          · replace AL133 := if_yes c139 AL133
            have c139b0 : decide (0 ≤ x137) = true := decide_eq_true c139
            have c139p : (0 ≤ x137) = True := eq_true c139
            clear c139
            have ip140 : (x137 < (l77.length : Int)) = True := eq_true (of_decide_eq_true c138b0)
            obtain ⟨hx141a, hx141e, hx141⟩ := Kd.at_int (Rd.read (fun _ _ _ _ h => h) HR80.out HS.out.fr) x137 (of_decide_eq_true c139b0) (of_decide_eq_true c138b0); cases hx141e
            go_wp2_with fail
            clear hx141
            obtain ⟨t142, HA143, AL133⟩ := bind_some AL133
            refine (ratio_counts.calls (rd l77 x137) t142 _ ⟨Sep.start _⟩ HA143).mono ?_
            rintro e_ w144 ⟨rfl, hS⟩
            replace HS : Aside0 (Sep (fps []) w [] w144) := ⟨HS.out.call hS⟩
            clear hS
            by_cases c145 : t142 = 0
            · replace AL133 := if_yes c145 AL133
              have c145b0 : (t142 == 0) = true := beq_iff_eq.mpr c145
              have c145b1 : (t142 != 0) = false := bne_eq_false_iff_eq.mpr c145
              exact (none_no AL133).elim
            · replace AL133 := if_no c145 AL133
              have c145b0 : (t142 == 0) = false := beq_eq_false_iff_ne.mpr c145
              have c145b1 : (t142 != 0) = true := bne_iff_ne.mpr c145
              by_cases c146 : x136 ≤ (wrap64 (Int.tdiv (1125899906842624 : Int) t142))
              · replace AL133 := if_yes c146 AL133
                have c146b0 : decide (x136 ≤ (wrap64 (Int.tdiv (1125899906842624 : Int) t142))) = true := decide_eq_true c146
                clear c146
                skip
                go_wp2_with fail
                clear c145
                go_roundg k135
                case measure => exact Nat.lt_succ_self _
                case rel => exact ⟨(wrap64 (x136 * t142)), (wrap64 (x137 + 1)), (by first | rfl | (simp [IntKind.wrap_u32]; done)), (by first | rfl | (simp [IntKind.wrap_u32]; done)), Aside0.mk AL133.out, ⟨HS.out⟩⟩
              · replace AL133 := if_no c146 AL133
                have c146b0 : decide (x136 ≤ (wrap64 (Int.tdiv (1125899906842624 : Int) t142))) = false := decide_eq_false c146
                clear c146
                skip
                go_wp2_with fail
                clear c145
                go_roundg k135
                case measure => exact Nat.lt_succ_self _
                case rel => exact ⟨(1125899906842624), (wrap64 (x137 + 1)), (by first | rfl | (simp [IntKind.wrap_u32]; done)), (by first | rfl | (simp [IntKind.wrap_u32]; done)), Aside0.mk AL133.out, ⟨HS.out⟩⟩
          · replace AL133 := if_no c139 AL133
            have c139b0 : decide (0 ≤ x137) = false := decide_eq_false c139
            clear c139
            exact (none_no AL133).elim
        · replace AL133 := if_no c138 AL133
          have c138b0 : decide (x137 < (l77.length : Int)) = false := decide_eq_false c138
          clear c138
          have ho := some_eq AL133
          subst ho
          clear AL133
          go_wp2_with fail
          go_ret
          rw [← some_eq H]
          exact ⟨(by first | rfl | (simp [IntKind.wrap_u32]; done)), HS.out⟩

set_option maxHeartbeats 30000000 in
set_option maxRecDepth 100000 in
theorem ratio_Add.calls (k : Nat) (l154 : List Int) (A155 : Option Addr) (n156 : Nat) (r : Int) (w : World) (HR157 : Aside0 (Rd (Kd.int .i64) (fps []) w A155 l154.length l154))  (HS : Aside0 (Sep (fps []) w [] w)) (H : Aside0 (ratio_Add.f k l154 = some r)) :
    Calls Try.prog 18 #[.slice A155 l154.length n156] w fun e w' => e = .returned (.int .i64 r) ∧ Sep (fps []) w [] w' := by
  unfold ratio_Add.f at H
  go_enter Try.func18, Try.ntmps18
  go_wp2_with fail
  obtain ⟨o159, AL160, H⟩ := bind_some H
  go_loopg [3, 8] k (fun kq v3 v8 wc => ∃ (x163 : Int) (x164 : Int), v3 = .int .i64 x163 ∧ v8 = .int .i64 x164 ∧ Aside0 (ratio_Add.lo0 kq l154 x163 x164 = some o159) ∧ Aside0 (Sep (fps []) w [] wc))
  case atStart => exact ⟨(0), (0), (by first | rfl | (simp [IntKind.wrap_u32]; done)), (by first | rfl | (simp [IntKind.wrap_u32]; done)), AL160, ⟨HS.out⟩⟩
  case round =>
    clear AL160 HS
    obtain ⟨x163, x164, rfl, rfl, AL160, HS⟩ := hrel
    obtain ⟨w161, rfl⟩ : ∃ x : World, x = wr := ⟨_, rfl⟩
    cases gk with
    | zero => exact absurd AL160.out (by simp [ratio_Add.lo0])
    | succ k162 =>
      have AL0 := AL160.out
      rw [ratio_Add.lo0] at AL0
      clear AL160
      have AL160 := Aside0.mk AL0
      clear AL0
      by_cases c165 : x164 < (l154.length : Int)
      · replace AL160 := if_yes c165 AL160
        have c165b0 : decide (x164 < (l154.length : Int)) = true := decide_eq_true c165
        clear c165
        by_cases c166 : 0 ≤ x164
        · replace AL160 := if_yes c166 AL160
          have c166b0 : decide (0 ≤ x164) = true := decide_eq_true c166
          have c166p : (0 ≤ x164) = True := eq_true c166
          clear c166
          have ip167 : (x164 < (l154.length : Int)) = True := eq_true (of_decide_eq_true c165b0)
          obtain ⟨hx168a, hx168e, hx168⟩ := Kd.at_int (Rd.read (fun _ _ _ _ h => h) HR157.out HS.out.fr) x164 (of_decide_eq_true c166b0) (of_decide_eq_true c165b0); cases hx168e
          go_wp2_with fail
          clear hx168
          obtain ⟨t169, HA170, AL160⟩ := bind_some AL160
          refine (ratio_counts.calls (rd l154 x164) t169 _ ⟨Sep.start _⟩ HA170).mono ?_
          rintro e_ w171 ⟨rfl, hS⟩
          replace HS : Aside0 (Sep (fps []) w [] w171) := ⟨HS.out.call hS⟩
          clear hS
          by_cases c172 : 1125899906842624 < (wrap64 (x163 + t169))
          · replace AL160 := if_yes c172 AL160
            have c172b0 : decide (1125899906842624 < (wrap64 (x163 + t169))) = true := decide_eq_true c172
            skip
            go_wp2_with fail
            clear c172
            go_roundg k162
            case measure => exact Nat.lt_succ_self _
            case rel => exact ⟨(1125899906842624), (wrap64 (x164 + 1)), (by first | rfl | (simp [IntKind.wrap_u32]; done)), (by first | rfl | (simp [IntKind.wrap_u32]; done)), Aside0.mk AL160.out, ⟨HS.out⟩⟩
          · replace AL160 := if_no c172 AL160
            have c172b0 : decide (1125899906842624 < (wrap64 (x163 + t169))) = false := decide_eq_false c172
            skip
            go_wp2_with fail
            clear c172
            go_roundg k162
            case measure => exact Nat.lt_succ_self _
            case rel => exact ⟨(wrap64 (x163 + t169)), (wrap64 (x164 + 1)), (by first | rfl | (simp [IntKind.wrap_u32]; done)), (by first | rfl | (simp [IntKind.wrap_u32]; done)), Aside0.mk AL160.out, ⟨HS.out⟩⟩
        · replace AL160 := if_no c166 AL160
          have c166b0 : decide (0 ≤ x164) = false := decide_eq_false c166
          clear c166
          exact (none_no AL160).elim
      · replace AL160 := if_no c165 AL160
        have c165b0 : decide (x164 < (l154.length : Int)) = false := decide_eq_false c165
        clear c165
        have ho := some_eq AL160
        subst ho
        clear AL160
        go_wp2_with fail
        go_ret
        rw [← some_eq H]
        exact ⟨(by first | rfl | (simp [IntKind.wrap_u32]; done)), HS.out⟩

set_option maxHeartbeats 30000000 in
set_option maxRecDepth 100000 in
theorem ratio_by.calls (a383 : Int) (r : Int) (w : World)   (HS : Aside0 (Sep (fps []) w [] w)) (H : Aside0 (ratio_by.f a383 = some r)) :
    Calls Try.prog 54 #[.int .i64 a383] w fun e w' => e = .returned (.int .i64 r) ∧ Sep (fps []) w [] w' := by
  unfold ratio_by.f at H
  go_enter Try.func54, Try.ntmps54
  go_wp2_with fail
  obtain ⟨t384, HA385, H⟩ := bind_some H
  refine (ratio_counts.calls a383 t384 _ ⟨Sep.start _⟩ HA385).mono ?_
  rintro e_ w386 ⟨rfl, hS⟩
  replace HS : Aside0 (Sep (fps []) w [] w386) := ⟨HS.out.call hS⟩
  clear hS
  by_cases c387 : t384 < 1
  · replace H := if_yes c387 H
    have c387b0 : decide (t384 < 1) = true := decide_eq_true c387
    skip
    go_wp2_with fail
    clear c387
    go_ret
    rw [← some_eq H]
    exact ⟨(by first | rfl | (simp [IntKind.wrap_u32]; done)), HS.out⟩
  · replace H := if_no c387 H
    have c387b0 : decide (t384 < 1) = false := decide_eq_false c387
    skip
    go_wp2_with fail
    clear c387
    go_ret
    rw [← some_eq H]
    exact ⟨(by first | rfl | (simp [IntKind.wrap_u32]; done)), HS.out⟩

set_option maxHeartbeats 30000000 in
set_option maxRecDepth 100000 in
theorem ratio_Up.calls (a378 : Int) (a379 : Int) (r : Int) (w : World)   (HS : Aside0 (Sep (fps []) w [] w)) (H : Aside0 (ratio_Up.f a378 a379 = some r)) :
    Calls Try.prog 24 #[.int .i64 a378, .int .i64 a379] w fun e w' => e = .returned (.int .i64 r) ∧ Sep (fps []) w [] w' := by
  unfold ratio_Up.f at H
  go_enter Try.func24, Try.ntmps24
  go_wp2_with fail
  obtain ⟨t380, HA381, H⟩ := bind_some H
  refine (ratio_counts.calls a378 t380 _ ⟨Sep.start _⟩ HA381).mono ?_
  rintro e_ w382 ⟨rfl, hS⟩
  replace HS : Aside0 (Sep (fps []) w [] w382) := ⟨HS.out.call hS⟩
  clear hS
  go_wp2_with fail
  obtain ⟨t388, HA389, H⟩ := bind_some H
  refine (ratio_by.calls a379 t388 _ ⟨Sep.start _⟩ HA389).mono ?_
  rintro e_ w390 ⟨rfl, hS⟩
  replace HS : Aside0 (Sep (fps []) w [] w390) := ⟨HS.out.call hS⟩
  clear hS
  go_wp2_with fail
  obtain ⟨t391, HA392, H⟩ := bind_some H
  refine (ratio_by.calls a379 t391 _ ⟨Sep.start _⟩ HA392).mono ?_
  rintro e_ w393 ⟨rfl, hS⟩
  replace HS : Aside0 (Sep (fps []) w [] w393) := ⟨HS.out.call hS⟩
  clear hS
  by_cases c394 : t391 = 0
  · replace H := if_yes c394 H
    have c394b0 : (t391 == 0) = true := beq_iff_eq.mpr c394
    have c394b1 : (t391 != 0) = false := bne_eq_false_iff_eq.mpr c394
    exact (none_no H).elim
  · replace H := if_no c394 H
    have c394b0 : (t391 == 0) = false := beq_eq_false_iff_ne.mpr c394
    have c394b1 : (t391 != 0) = true := bne_iff_ne.mpr c394
    skip
    go_wp2_with fail
    clear c394
    go_ret
    rw [← some_eq H]
    exact ⟨(by first | rfl | (simp [IntKind.wrap_u32]; done)), HS.out⟩

set_option maxHeartbeats 30000000 in
set_option maxRecDepth 100000 in
theorem plan_Of.calls (k : Nat) (a13 : Int) (a14 : Int) (a15 : Int) (a16 : Int) (r : Int × Int × Int × Int × Int × Int × Int × Int × Int) (w : World)   (HS : Aside0 (Sep (fps []) w [] w)) (H : Aside0 (plan_Of.f k a13 a14 a15 a16 = some r)) :
    Calls Try.prog 32 #[.agg #[.int .i64 a13, .int .i64 a14, .int .i64 a15, .int .i64 a16]] w fun e w' => e = .returned (.tuple #[.agg #[.int .i64 r.1, .int .i64 r.2.1, .int .i64 r.2.2.1, .int .i64 r.2.2.2.1, .int .i64 r.2.2.2.2.1, .int .i64 r.2.2.2.2.2.1, .int .i64 r.2.2.2.2.2.2.1, .int .i64 r.2.2.2.2.2.2.2.1], .int .i64 r.2.2.2.2.2.2.2.2]) ∧ Sep (fps []) w [] w' := by
  unfold plan_Of.f at H
  go_enter Try.func32, Try.ntmps32
  go_wp2_with (first | ((with_reducible refine gate_dst (N := 1) rfl ?_); refine box_on ?hg (N := 1) ?hd (cs := #[.int .i64 a13, .int .i64 a14, .int .i64 a15, .int .i64 a16]) (t := 37) ?hr ?_; (case hd => rfl); (case hg => rfl); (case hr => first | (go_simp; done) | (go_simp; rfl)); intro g17 hg w18 hbox hb; replace HS : Aside0 (Sep (fps []) w [b1 g17 a13 a14 a15 a16] w18) := ⟨HS.out.box hg hbox hb⟩; clear hg hbox hb) | ((with_reducible refine gate_dst (N := 2) rfl ?_); refine box_on ?hg (N := 2) ?hd (cs := #[.int .i64 0, .int .i64 0, .int .i64 0, .int .i64 0, .int .i64 0, .int .i64 0, .int .i64 0, .int .i64 0]) (t := 39) ?hr ?_; (case hd => rfl); (case hg => rfl); (case hr => first | (go_simp; done) | (go_simp; rfl)); intro g20 hg w21 hbox hb; replace HS : Aside0 (Sep (fps []) w [b1 g17 a13 a14 a15 a16, b2 g20 0 0 0 0 0 0 0 0] w21) := ⟨HS.out.box hg hbox hb⟩; clear hg hbox hb; have hc23 : w21.cell? ⟨g17, 0, none⟩ = some (.int .i64 a13) := blk_cellv (HS.out.at0) 0 rfl; have hc24 : w21.cell? ⟨g17, 1, none⟩ = some (.int .i64 a14) := blk_cellv (HS.out.at0) 1 rfl; have hc25 : w21.cell? ⟨g17, 2, none⟩ = some (.int .i64 a15) := blk_cellv (HS.out.at0) 2 rfl; have hc26 : w21.cell? ⟨g17, 3, none⟩ = some (.int .i64 a16) := blk_cellv (HS.out.at0) 3 rfl))
  clear hc23 hc24 hc25 hc26
  obtain ⟨t68, HA69, H⟩ := bind_some H
  refine (plan_Check.calls a13 a14 a15 a16 t68 _ ⟨Sep.start _⟩ HA69).mono ?_
  rintro e_ w70 ⟨rfl, hS⟩
  replace HS : Aside0 (Sep (fps []) w [b1 g17 a13 a14 a15 a16, b2 g20 0 0 0 0 0 0 0 0] w70) := ⟨HS.out.call hS⟩
  clear hS
  by_cases c71 : t68 = 0
  · replace H := if_yes c71 H
    have c71b0 : (t68 == 0) = true := beq_iff_eq.mpr c71
    have c71b1 : (t68 != 0) = false := bne_eq_false_iff_eq.mpr c71
    clear c71
    go_wp2_with fail
    obtain ⟨t148, HA149, H⟩ := bind_some H
    obtain ⟨t174, HA175, H⟩ := bind_some H
    go_cut [5] (fun v5 wc => ∃ (g74 : Nat) (g151 : Nat) (g177 : Nat), v5 = .pointer (some ⟨g177, 0, none⟩) ∧ Aside0 (Sep (fps []) w [b1 g17 a13 a14 a15 a16, b2 g20 0 0 0 0 0 0 0 0, b3 g74 a13 a14, b4 g151 24 a15 t148, b2 g177 t174 (wrap64 (a14 - 8)) 0 0 0 0 0 0] wc))
    case first =>
      go_wp2_with fail
      refine start_ (n := 16) (S := (fun w' => w'.cell? ⟨g17, 2, none⟩ = some (.int .i64 a15) ∧ w'.cell? ⟨g17, 0, none⟩ = some (.int .i64 a13) ∧ w'.cell? ⟨g17, 1, none⟩ = some (.int .i64 a14))) (ds := []) #[false, false, false, false, false, false, false, false, false, false, false, false, false, false, false, false] (by kernel_rfl) rfl rfl (⟨blk_cellv ((HS.out.drew).at0) 2 rfl, blk_cellv ((HS.out.drew).at0) 0 rfl, blk_cellv ((HS.out.drew).at0) 1 rfl⟩) (fun hHeld => ?_)
      have HS_ := Aside0.mk HS.out.drew
      clear HS
      generalize World.drew _ = w199 at HS_ hHeld ⊢
      have HS := HS_
      clear HS_
      refine pure_ (i := 0) (N := some 12) (v := ?_) (a' := ?_) #[true, false, false, false, false, false, false, false, false, false, false, false, false, false, false, false] rfl rfl (by kernel_rfl) (fun _ _ _ h => h) (Or.inl ⟨by rfl, ?_⟩) ?_ ?_
      rotate_left
      · intro w'
        go_simp
        with_reducible rfl
      rotate_left
      · simp only [Act.put, List.setIfInBounds_toArray, List.set_cons_zero, List.set_cons_succ, i64_w, i32_w]
        rfl
      refine pure_ (i := 2) (N := some 14) (v := ?_) (a' := ?_) #[true, false, true, false, false, false, false, false, false, false, false, false, false, false, false, false] rfl rfl (by kernel_rfl) (fun _ _ _ h => h) (Or.inl ⟨by rfl, ?_⟩) ?_ ?_
      rotate_left
      · intro w'
        go_simp
        with_reducible rfl
      rotate_left
      · simp only [Act.put, List.setIfInBounds_toArray, List.set_cons_zero, List.set_cons_succ, i64_w, i32_w]
        rfl
      refine pure_ (i := 4) (N := some 16) (v := ?_) (a' := ?_) #[true, false, true, false, true, false, false, false, false, false, false, false, false, false, false, false] rfl rfl (by kernel_rfl) (fun _ _ _ h => h) (Or.inl ⟨by rfl, ?_⟩) ?_ ?_
      rotate_left
      · intro w'
        go_simp
        with_reducible rfl
      rotate_left
      · simp only [Act.put, List.setIfInBounds_toArray, List.set_cons_zero, List.set_cons_succ, i64_w, i32_w]
        rfl
      refine pure_ (i := 10) (N := some 22) (v := ?_) (a' := ?_) #[true, false, true, false, true, false, false, false, false, false, true, false, false, false, false, false] rfl rfl (by kernel_rfl) (fun _ _ _ h => h) (Or.inl ⟨by rfl, ?_⟩) ?_ ?_
      rotate_left
      · intro w'
        go_simp
        with_reducible rfl
      rotate_left
      · simp only [Act.put, List.setIfInBounds_toArray, List.set_cons_zero, List.set_cons_succ, i64_w, i32_w]
        rfl
      refine take_ (i := 1) (N := some 13) (v := ?_) (a' := ?_) #[true, true, true, false, true, false, false, false, false, false, true, false, false, false, false, false] rfl rfl (by kernel_rfl) (fun _ _ _ h => h) (Or.inl ⟨by rfl, ?_⟩) hHeld ?_ ?_
      rotate_left
      · rintro w' hS'
        obtain ⟨s0, s1, s2⟩ := hS'
        go_simp
        with_reducible rfl
      rotate_left
      · simp only [Act.put, List.setIfInBounds_toArray, List.set_cons_zero, List.set_cons_succ, i64_w, i32_w]
        rfl
      refine take_ (i := 3) (N := some 15) (v := ?_) (a' := ?_) #[true, true, true, true, true, false, false, false, false, false, true, false, false, false, false, false] rfl rfl (by kernel_rfl) (fun _ _ _ h => h) (Or.inl ⟨by rfl, ?_⟩) hHeld ?_ ?_
      rotate_left
      · rintro w' hS'
        obtain ⟨s0, s1, s2⟩ := hS'
        go_simp
        with_reducible rfl
      rotate_left
      · simp only [Act.put, List.setIfInBounds_toArray, List.set_cons_zero, List.set_cons_succ, i64_w, i32_w]
        rfl
      refine take_ (i := 5) (N := some 17) (v := ?_) (a' := ?_) #[true, true, true, true, true, true, false, false, false, false, true, false, false, false, false, false] rfl rfl (by kernel_rfl) (fun _ _ _ h => h) (Or.inl ⟨by rfl, ?_⟩) hHeld ?_ ?_
      rotate_left
      · rintro w' hS'
        obtain ⟨s0, s1, s2⟩ := hS'
        go_simp
        with_reducible rfl
      rotate_left
      · simp only [Act.put, List.setIfInBounds_toArray, List.set_cons_zero, List.set_cons_succ, i64_w, i32_w]
        rfl
      refine take_ (i := 11) (N := some 23) (v := ?_) (a' := ?_) #[true, true, true, true, true, true, false, false, false, false, true, true, false, false, false, false] rfl rfl (by kernel_rfl) (fun _ _ _ h => h) (Or.inl ⟨by rfl, ?_⟩) hHeld ?_ ?_
      rotate_left
      · rintro w' hS'
        obtain ⟨s0, s1, s2⟩ := hS'
        go_simp
        with_reducible rfl
      rotate_left
      · simp only [Act.put, List.setIfInBounds_toArray, List.set_cons_zero, List.set_cons_succ, i64_w, i32_w]
        rfl
      refine pure_ (i := 12) (N := some 24) (v := ?_) (a' := ?_) #[true, true, true, true, true, true, false, false, false, false, true, true, true, false, false, false] rfl rfl (by kernel_rfl) (fun _ _ _ h => h) (Or.inl ⟨by rfl, ?_⟩) ?_ ?_
      rotate_left
      · intro w'
        go_simp
        with_reducible rfl
      rotate_left
      · simp only [Act.put, List.setIfInBounds_toArray, List.set_cons_zero, List.set_cons_succ, i64_w, i32_w]
        rfl
      refine two_ (i := 6) (j := 14) (Ni := some 18) (Nj := some 5) #[true, true, true, true, true, true, true, false, false, false, true, true, true, false, false, false] #[true, true, true, true, true, true, false, false, false, false, true, true, true, false, true, false] rfl rfl rfl rfl (by kernel_rfl) (by decide) (by decide) (fun K hK => ?_) (fun K hK => ?_)
      · refine slice_step (n := 2) (by rfl) (N := 18) rfl (cs := #[.int .i64 a13, .int .i64 a14]) (t := 3) ?hr ?_
        case hr => first | (go_simp; done) | (go_simp; rfl)
        intro g200 hg w201 hbox hb
        replace HS : Aside0 (Sep (fps []) w [b1 g17 a13 a14 a15 a16, b2 g20 0 0 0 0 0 0 0 0, b3 g200 a13 a14] w201) := ⟨HS.out.box hg hbox hb⟩
        clear hg hbox hb
        refine hK.out _ _ (⟨blk_cellv (HS.out.at0) 2 rfl, blk_cellv (HS.out.at0) 0 rfl, blk_cellv (HS.out.at0) 1 rfl⟩) (fun hHeld => ?_)
        clear hK K
        refine norm_ (a' := ?_) ?_ ?_
        rotate_left
        · show Act.put _ (some 18) _ = _
          simp only [Act.put, List.setIfInBounds_toArray, List.set_cons_zero, List.set_cons_succ, i64_w, i32_w]
          rfl
        refine two_ (i := 7) (j := 14) (Ni := some 19) (Nj := some 5) #[true, true, true, true, true, true, true, true, false, false, true, true, true, false, false, false] #[true, true, true, true, true, true, true, false, false, false, true, true, true, false, true, false] rfl rfl rfl rfl (by kernel_rfl) (by decide) (by decide) (fun K hK => ?_) (fun K hK => ?_)
        · refine goes_ Try.func20 (by kernel_rfl) rfl #[.slice (some ⟨g200, 0, none⟩) 2 2] (by rfl) rfl rfl (by (try simp only [List.map_toArray, List.map_cons, List.map_nil]); first | done | rfl) ?_
          refine (ratio_Mul.calls _ [a13, a14] (some ⟨g200, 0, none⟩) 2 t148 _ ⟨Rd.lit (l := []) (xs := [a13, a14]) HS.out 2 rfl (by simp)⟩ ⟨Sep.start _⟩ HA149).mono ?_
          rintro e_ w204 ⟨rfl, hS⟩
          replace HS : Aside0 (Sep (fps []) w [b1 g17 a13 a14 a15 a16, b2 g20 0 0 0 0 0 0 0 0, b3 g200 a13 a14] w204) := ⟨HS.out.call hS⟩
          clear hS
          refine ⟨_, rfl, ?_⟩
          refine hK.out _ _ (⟨blk_cellv (HS.out.at0) 2 rfl, blk_cellv (HS.out.at0) 0 rfl, blk_cellv (HS.out.at0) 1 rfl⟩) (fun hHeld => ?_)
          clear hK K
          refine norm_ (a' := ?_) ?_ ?_
          rotate_left
          · show Act.put _ (some 19) _ = _
            simp only [Act.put, List.setIfInBounds_toArray, List.set_cons_zero, List.set_cons_succ, i64_w, i32_w]
            rfl
          refine two_ (i := 8) (j := 14) (Ni := some 20) (Nj := some 5) #[true, true, true, true, true, true, true, true, true, false, true, true, true, false, false, false] #[true, true, true, true, true, true, true, true, false, false, true, true, true, false, true, false] rfl rfl rfl rfl (by kernel_rfl) (by decide) (by decide) (fun K hK => ?_) (fun K hK => ?_)
          · refine slice_step (n := 3) (by rfl) (N := 20) rfl (cs := #[.int .i64 24, .int .i64 a15, .int .i64 t148]) (t := 3) ?hr ?_
            case hr => first | (go_simp; done) | (go_simp; rfl)
            intro g205 hg w206 hbox hb
            replace HS : Aside0 (Sep (fps []) w [b1 g17 a13 a14 a15 a16, b2 g20 0 0 0 0 0 0 0 0, b3 g200 a13 a14, b4 g205 24 a15 t148] w206) := ⟨HS.out.box hg hbox hb⟩
            clear hg hbox hb
            refine hK.out _ _ (⟨blk_cellv (HS.out.at0) 2 rfl, blk_cellv (HS.out.at0) 0 rfl, blk_cellv (HS.out.at0) 1 rfl⟩) (fun hHeld => ?_)
            clear hK K
            refine norm_ (a' := ?_) ?_ ?_
            rotate_left
            · show Act.put _ (some 20) _ = _
              simp only [Act.put, List.setIfInBounds_toArray, List.set_cons_zero, List.set_cons_succ, i64_w, i32_w]
              rfl
            refine two_ (i := 9) (j := 14) (Ni := some 21) (Nj := some 5) #[true, true, true, true, true, true, true, true, true, true, true, true, true, false, false, false] #[true, true, true, true, true, true, true, true, true, false, true, true, true, false, true, false] rfl rfl rfl rfl (by kernel_rfl) (by decide) (by decide) (fun K hK => ?_) (fun K hK => ?_)
            · refine goes_ Try.func18 (by kernel_rfl) rfl #[.slice (some ⟨g205, 0, none⟩) 3 3] (by rfl) rfl rfl (by (try simp only [List.map_toArray, List.map_cons, List.map_nil]); first | done | rfl) ?_
              refine (ratio_Add.calls _ [24, a15, t148] (some ⟨g205, 0, none⟩) 3 t174 _ ⟨Rd.lit (l := []) (xs := [24, a15, t148]) HS.out 3 rfl (by simp)⟩ ⟨Sep.start _⟩ HA175).mono ?_
              rintro e_ w209 ⟨rfl, hS⟩
              replace HS : Aside0 (Sep (fps []) w [b1 g17 a13 a14 a15 a16, b2 g20 0 0 0 0 0 0 0 0, b3 g200 a13 a14, b4 g205 24 a15 t148] w209) := ⟨HS.out.call hS⟩
              clear hS
              refine ⟨_, rfl, ?_⟩
              refine hK.out _ _ (⟨blk_cellv (HS.out.at0) 2 rfl, blk_cellv (HS.out.at0) 0 rfl, blk_cellv (HS.out.at0) 1 rfl⟩) (fun hHeld => ?_)
              clear hK K
              refine norm_ (a' := ?_) ?_ ?_
              rotate_left
              · show Act.put _ (some 21) _ = _
                simp only [Act.put, List.setIfInBounds_toArray, List.set_cons_zero, List.set_cons_succ, i64_w, i32_w]
                rfl
              refine pure_ (i := 13) (N := some 25) (v := ?_) (a' := ?_) #[true, true, true, true, true, true, true, true, true, true, true, true, true, true, false, false] rfl rfl (by kernel_rfl) (fun _ _ _ h => h) (Or.inl ⟨by rfl, ?_⟩) ?_ ?_
              rotate_left
              · intro w'
                go_simp
                with_reducible rfl
              rotate_left
              · simp only [Act.put, List.setIfInBounds_toArray, List.set_cons_zero, List.set_cons_succ, i64_w, i32_w]
                rfl
              refine one_ (i := 14) (N := some 5) #[true, true, true, true, true, true, true, true, true, true, true, true, true, true, true, false] rfl rfl (by kernel_rfl) (by decide) (fun K hK => ?_)
              refine box_step (by rfl) (N := 5) rfl (cs := #[.int .i64 0, .int .i64 0, .int .i64 0, .int .i64 0, .int .i64 0, .int .i64 0, .int .i64 0, .int .i64 0]) (t := 39) ?hr ?_
              case hr => first | (go_simp; done) | (go_simp; rfl)
              intro g210 hg w211 hbox hb
              replace HS : Aside0 (Sep (fps []) w [b1 g17 a13 a14 a15 a16, b2 g20 0 0 0 0 0 0 0 0, b3 g200 a13 a14, b4 g205 24 a15 t148, b2 g210 0 0 0 0 0 0 0 0] w211) := ⟨HS.out.box hg hbox hb⟩
              clear hg hbox hb
              refine hK.out _ _ (⟨blk_cellv (HS.out.at0) 2 rfl, blk_cellv (HS.out.at0) 0 rfl, blk_cellv (HS.out.at0) 1 rfl⟩) (fun hHeld => ?_)
              clear hK K
              refine norm_ (a' := ?_) ?_ ?_
              rotate_left
              · show Act.put _ (some 5) _ = _
                simp only [Act.put, List.setIfInBounds_toArray, List.set_cons_zero, List.set_cons_succ, i64_w, i32_w]
                rfl
              refine one_ (i := 15) (N := none) #[true, true, true, true, true, true, true, true, true, true, true, true, true, true, true, true] rfl rfl (by kernel_rfl) (by decide) (fun K hK => ?_)
              have hc214 := blk_cellv (v := .int .i64 0) (HS.out.at4) 0 rfl
              have hz215 := blk_fz (HS.out.at4) 0
              have hc216 := blk_cellv (v := .int .i64 0) (HS.out.at4) 1 rfl
              have hz217 := blk_fz (HS.out.at4) 1
              have hc218 := blk_cellv (v := .int .i64 0) (HS.out.at4) 2 rfl
              have hz219 := blk_fz (HS.out.at4) 2
              have hc220 := blk_cellv (v := .int .i64 0) (HS.out.at4) 3 rfl
              have hz221 := blk_fz (HS.out.at4) 3
              have hc222 := blk_cellv (v := .int .i64 0) (HS.out.at4) 4 rfl
              have hz223 := blk_fz (HS.out.at4) 4
              have hc224 := blk_cellv (v := .int .i64 0) (HS.out.at4) 5 rfl
              have hz225 := blk_fz (HS.out.at4) 5
              have hc226 := blk_cellv (v := .int .i64 0) (HS.out.at4) 6 rfl
              have hz227 := blk_fz (HS.out.at4) 6
              have hc228 := blk_cellv (v := .int .i64 0) (HS.out.at4) 7 rfl
              have hz229 := blk_fz (HS.out.at4) 7
              refine store_step (w1 := (World.setCell (World.setCell (World.setCell (World.setCell (World.setCell (World.setCell (World.setCell (World.setCell w211 ⟨g210, 0, none⟩ (.int .i64 t174)) ⟨g210, 1, none⟩ (.int .i64 (wrap64 (a14 - 8)))) ⟨g210, 2, none⟩ (.int .i64 0)) ⟨g210, 3, none⟩ (.int .i64 0)) ⟨g210, 4, none⟩ (.int .i64 0)) ⟨g210, 5, none⟩ (.int .i64 0)) ⟨g210, 6, none⟩ (.int .i64 0)) ⟨g210, 7, none⟩ (.int .i64 0))) (by rfl) rfl ?hr ?_
              case hr => first | (go_simp; done) | (go_simp; rfl)
              clear hc214 hz215 hc216 hz217 hc218 hz219 hc220 hz221 hc222 hz223 hc224 hz225 hc226 hz227 hc228 hz229
              intro w213 hst
              replace HS : Aside0 (Sep (fps []) w [b1 g17 a13 a14 a15 a16, b2 g20 0 0 0 0 0 0 0 0, b3 g200 a13 a14, b4 g205 24 a15 t148, b2 g210 t174 (wrap64 (a14 - 8)) 0 0 0 0 0 0] w213) := ⟨by rw [hst]; exact HS.out.setAll (l1 := [b1 g17 a13 a14 a15 a16, b2 g20 0 0 0 0 0 0 0 0, b3 g200 a13 a14, b4 g205 24 a15 t148]) (l2 := []) [.int .i64 t174, .int .i64 (wrap64 (a14 - 8)), .int .i64 0, .int .i64 0, .int .i64 0, .int .i64 0, .int .i64 0, .int .i64 0] rfl⟩
              clear hst
              refine hK.out _ _ (⟨blk_cellv (HS.out.at0) 2 rfl, blk_cellv (HS.out.at0) 0 rfl, blk_cellv (HS.out.at0) 1 rfl⟩) (fun hHeld => ?_)
              clear hK K
              refine done_ (by kernel_rfl) ?_
              go_wp2_with fail
              go_meet
              case rel => exact ⟨g200, g205, g210, (by first | rfl | (simp [IntKind.wrap_u32]; done)), ⟨(((((HS.out).front 4 (by simp)).front 4 (by simp)).front 4 (by simp)).front 4 (by simp)).front 4 (by simp)⟩⟩
            · refine box_step (by rfl) (N := 5) rfl (cs := #[.int .i64 0, .int .i64 0, .int .i64 0, .int .i64 0, .int .i64 0, .int .i64 0, .int .i64 0, .int .i64 0]) (t := 39) ?hr ?_
              case hr => first | (go_simp; done) | (go_simp; rfl)
              intro g230 hg w231 hbox hb
              replace HS : Aside0 (Sep (fps []) w [b1 g17 a13 a14 a15 a16, b2 g20 0 0 0 0 0 0 0 0, b3 g200 a13 a14, b4 g205 24 a15 t148, b2 g230 0 0 0 0 0 0 0 0] w231) := ⟨HS.out.box hg hbox hb⟩
              clear hg hbox hb
              refine hK.out _ _ (⟨blk_cellv (HS.out.at0) 2 rfl, blk_cellv (HS.out.at0) 0 rfl, blk_cellv (HS.out.at0) 1 rfl⟩) (fun hHeld => ?_)
              clear hK K
              refine norm_ (a' := ?_) ?_ ?_
              rotate_left
              · show Act.put _ (some 5) _ = _
                simp only [Act.put, List.setIfInBounds_toArray, List.set_cons_zero, List.set_cons_succ, i64_w, i32_w]
                rfl
              refine one_ (i := 9) (N := some 21) #[true, true, true, true, true, true, true, true, true, true, true, true, true, false, true, false] rfl rfl (by kernel_rfl) (by decide) (fun K hK => ?_)
              refine goes_ Try.func18 (by kernel_rfl) rfl #[.slice (some ⟨g205, 0, none⟩) 3 3] (by rfl) rfl rfl (by (try simp only [List.map_toArray, List.map_cons, List.map_nil]); first | done | rfl) ?_
              refine (ratio_Add.calls _ [24, a15, t148] (some ⟨g205, 0, none⟩) 3 t174 _ ⟨Rd.lit (l := []) (xs := [24, a15, t148]) HS.out 3 rfl (by simp)⟩ ⟨Sep.start _⟩ HA175).mono ?_
              rintro e_ w234 ⟨rfl, hS⟩
              replace HS : Aside0 (Sep (fps []) w [b1 g17 a13 a14 a15 a16, b2 g20 0 0 0 0 0 0 0 0, b3 g200 a13 a14, b4 g205 24 a15 t148, b2 g230 0 0 0 0 0 0 0 0] w234) := ⟨HS.out.call hS⟩
              clear hS
              refine ⟨_, rfl, ?_⟩
              refine hK.out _ _ (⟨blk_cellv (HS.out.at0) 2 rfl, blk_cellv (HS.out.at0) 0 rfl, blk_cellv (HS.out.at0) 1 rfl⟩) (fun hHeld => ?_)
              clear hK K
              refine norm_ (a' := ?_) ?_ ?_
              rotate_left
              · show Act.put _ (some 21) _ = _
                simp only [Act.put, List.setIfInBounds_toArray, List.set_cons_zero, List.set_cons_succ, i64_w, i32_w]
                rfl
              refine pure_ (i := 13) (N := some 25) (v := ?_) (a' := ?_) #[true, true, true, true, true, true, true, true, true, true, true, true, true, true, true, false] rfl rfl (by kernel_rfl) (fun _ _ _ h => h) (Or.inl ⟨by rfl, ?_⟩) ?_ ?_
              rotate_left
              · intro w'
                go_simp
                with_reducible rfl
              rotate_left
              · simp only [Act.put, List.setIfInBounds_toArray, List.set_cons_zero, List.set_cons_succ, i64_w, i32_w]
                rfl
              refine one_ (i := 15) (N := none) #[true, true, true, true, true, true, true, true, true, true, true, true, true, true, true, true] rfl rfl (by kernel_rfl) (by decide) (fun K hK => ?_)
              have hc236 := blk_cellv (v := .int .i64 0) (HS.out.at4) 0 rfl
              have hz237 := blk_fz (HS.out.at4) 0
              have hc238 := blk_cellv (v := .int .i64 0) (HS.out.at4) 1 rfl
              have hz239 := blk_fz (HS.out.at4) 1
              have hc240 := blk_cellv (v := .int .i64 0) (HS.out.at4) 2 rfl
              have hz241 := blk_fz (HS.out.at4) 2
              have hc242 := blk_cellv (v := .int .i64 0) (HS.out.at4) 3 rfl
              have hz243 := blk_fz (HS.out.at4) 3
              have hc244 := blk_cellv (v := .int .i64 0) (HS.out.at4) 4 rfl
              have hz245 := blk_fz (HS.out.at4) 4
              have hc246 := blk_cellv (v := .int .i64 0) (HS.out.at4) 5 rfl
              have hz247 := blk_fz (HS.out.at4) 5
              have hc248 := blk_cellv (v := .int .i64 0) (HS.out.at4) 6 rfl
              have hz249 := blk_fz (HS.out.at4) 6
              have hc250 := blk_cellv (v := .int .i64 0) (HS.out.at4) 7 rfl
              have hz251 := blk_fz (HS.out.at4) 7
              refine store_step (w1 := (World.setCell (World.setCell (World.setCell (World.setCell (World.setCell (World.setCell (World.setCell (World.setCell w234 ⟨g230, 0, none⟩ (.int .i64 t174)) ⟨g230, 1, none⟩ (.int .i64 (wrap64 (a14 - 8)))) ⟨g230, 2, none⟩ (.int .i64 0)) ⟨g230, 3, none⟩ (.int .i64 0)) ⟨g230, 4, none⟩ (.int .i64 0)) ⟨g230, 5, none⟩ (.int .i64 0)) ⟨g230, 6, none⟩ (.int .i64 0)) ⟨g230, 7, none⟩ (.int .i64 0))) (by rfl) rfl ?hr ?_
              case hr => first | (go_simp; done) | (go_simp; rfl)
              clear hc236 hz237 hc238 hz239 hc240 hz241 hc242 hz243 hc244 hz245 hc246 hz247 hc248 hz249 hc250 hz251
              intro w235 hst
              replace HS : Aside0 (Sep (fps []) w [b1 g17 a13 a14 a15 a16, b2 g20 0 0 0 0 0 0 0 0, b3 g200 a13 a14, b4 g205 24 a15 t148, b2 g230 t174 (wrap64 (a14 - 8)) 0 0 0 0 0 0] w235) := ⟨by rw [hst]; exact HS.out.setAll (l1 := [b1 g17 a13 a14 a15 a16, b2 g20 0 0 0 0 0 0 0 0, b3 g200 a13 a14, b4 g205 24 a15 t148]) (l2 := []) [.int .i64 t174, .int .i64 (wrap64 (a14 - 8)), .int .i64 0, .int .i64 0, .int .i64 0, .int .i64 0, .int .i64 0, .int .i64 0] rfl⟩
              clear hst
              refine hK.out _ _ (⟨blk_cellv (HS.out.at0) 2 rfl, blk_cellv (HS.out.at0) 0 rfl, blk_cellv (HS.out.at0) 1 rfl⟩) (fun hHeld => ?_)
              clear hK K
              refine done_ (by kernel_rfl) ?_
              go_wp2_with fail
              go_meet
              case rel => exact ⟨g200, g205, g230, (by first | rfl | (simp [IntKind.wrap_u32]; done)), ⟨(((((HS.out).front 4 (by simp)).front 4 (by simp)).front 4 (by simp)).front 4 (by simp)).front 4 (by simp)⟩⟩
          · refine box_step (by rfl) (N := 5) rfl (cs := #[.int .i64 0, .int .i64 0, .int .i64 0, .int .i64 0, .int .i64 0, .int .i64 0, .int .i64 0, .int .i64 0]) (t := 39) ?hr ?_
            case hr => first | (go_simp; done) | (go_simp; rfl)
            intro g252 hg w253 hbox hb
            replace HS : Aside0 (Sep (fps []) w [b1 g17 a13 a14 a15 a16, b2 g20 0 0 0 0 0 0 0 0, b3 g200 a13 a14, b2 g252 0 0 0 0 0 0 0 0] w253) := ⟨HS.out.box hg hbox hb⟩
            clear hg hbox hb
            refine hK.out _ _ (⟨blk_cellv (HS.out.at0) 2 rfl, blk_cellv (HS.out.at0) 0 rfl, blk_cellv (HS.out.at0) 1 rfl⟩) (fun hHeld => ?_)
            clear hK K
            refine norm_ (a' := ?_) ?_ ?_
            rotate_left
            · show Act.put _ (some 5) _ = _
              simp only [Act.put, List.setIfInBounds_toArray, List.set_cons_zero, List.set_cons_succ, i64_w, i32_w]
              rfl
            refine one_ (i := 8) (N := some 20) #[true, true, true, true, true, true, true, true, true, false, true, true, true, false, true, false] rfl rfl (by kernel_rfl) (by decide) (fun K hK => ?_)
            refine slice_step (n := 3) (by rfl) (N := 20) rfl (cs := #[.int .i64 24, .int .i64 a15, .int .i64 t148]) (t := 3) ?hr ?_
            case hr => first | (go_simp; done) | (go_simp; rfl)
            intro g255 hg w256 hbox hb
            replace HS : Aside0 (Sep (fps []) w [b1 g17 a13 a14 a15 a16, b2 g20 0 0 0 0 0 0 0 0, b3 g200 a13 a14, b2 g252 0 0 0 0 0 0 0 0, b4 g255 24 a15 t148] w256) := ⟨HS.out.box hg hbox hb⟩
            clear hg hbox hb
            refine hK.out _ _ (⟨blk_cellv (HS.out.at0) 2 rfl, blk_cellv (HS.out.at0) 0 rfl, blk_cellv (HS.out.at0) 1 rfl⟩) (fun hHeld => ?_)
            clear hK K
            refine norm_ (a' := ?_) ?_ ?_
            rotate_left
            · show Act.put _ (some 20) _ = _
              simp only [Act.put, List.setIfInBounds_toArray, List.set_cons_zero, List.set_cons_succ, i64_w, i32_w]
              rfl
            refine one_ (i := 9) (N := some 21) #[true, true, true, true, true, true, true, true, true, true, true, true, true, false, true, false] rfl rfl (by kernel_rfl) (by decide) (fun K hK => ?_)
            refine goes_ Try.func18 (by kernel_rfl) rfl #[.slice (some ⟨g255, 0, none⟩) 3 3] (by rfl) rfl rfl (by (try simp only [List.map_toArray, List.map_cons, List.map_nil]); first | done | rfl) ?_
            refine (ratio_Add.calls _ [24, a15, t148] (some ⟨g255, 0, none⟩) 3 t174 _ ⟨Rd.lit (l := []) (xs := [24, a15, t148]) HS.out 4 rfl (by simp)⟩ ⟨Sep.start _⟩ HA175).mono ?_
            rintro e_ w259 ⟨rfl, hS⟩
            replace HS : Aside0 (Sep (fps []) w [b1 g17 a13 a14 a15 a16, b2 g20 0 0 0 0 0 0 0 0, b3 g200 a13 a14, b2 g252 0 0 0 0 0 0 0 0, b4 g255 24 a15 t148] w259) := ⟨HS.out.call hS⟩
            clear hS
            refine ⟨_, rfl, ?_⟩
            refine hK.out _ _ (⟨blk_cellv (HS.out.at0) 2 rfl, blk_cellv (HS.out.at0) 0 rfl, blk_cellv (HS.out.at0) 1 rfl⟩) (fun hHeld => ?_)
            clear hK K
            refine norm_ (a' := ?_) ?_ ?_
            rotate_left
            · show Act.put _ (some 21) _ = _
              simp only [Act.put, List.setIfInBounds_toArray, List.set_cons_zero, List.set_cons_succ, i64_w, i32_w]
              rfl
            refine pure_ (i := 13) (N := some 25) (v := ?_) (a' := ?_) #[true, true, true, true, true, true, true, true, true, true, true, true, true, true, true, false] rfl rfl (by kernel_rfl) (fun _ _ _ h => h) (Or.inl ⟨by rfl, ?_⟩) ?_ ?_
            rotate_left
            · intro w'
              go_simp
              with_reducible rfl
            rotate_left
            · simp only [Act.put, List.setIfInBounds_toArray, List.set_cons_zero, List.set_cons_succ, i64_w, i32_w]
              rfl
            refine one_ (i := 15) (N := none) #[true, true, true, true, true, true, true, true, true, true, true, true, true, true, true, true] rfl rfl (by kernel_rfl) (by decide) (fun K hK => ?_)
            have hc261 := blk_cellv (v := .int .i64 0) (HS.out.at3) 0 rfl
            have hz262 := blk_fz (HS.out.at3) 0
            have hc263 := blk_cellv (v := .int .i64 0) (HS.out.at3) 1 rfl
            have hz264 := blk_fz (HS.out.at3) 1
            have hc265 := blk_cellv (v := .int .i64 0) (HS.out.at3) 2 rfl
            have hz266 := blk_fz (HS.out.at3) 2
            have hc267 := blk_cellv (v := .int .i64 0) (HS.out.at3) 3 rfl
            have hz268 := blk_fz (HS.out.at3) 3
            have hc269 := blk_cellv (v := .int .i64 0) (HS.out.at3) 4 rfl
            have hz270 := blk_fz (HS.out.at3) 4
            have hc271 := blk_cellv (v := .int .i64 0) (HS.out.at3) 5 rfl
            have hz272 := blk_fz (HS.out.at3) 5
            have hc273 := blk_cellv (v := .int .i64 0) (HS.out.at3) 6 rfl
            have hz274 := blk_fz (HS.out.at3) 6
            have hc275 := blk_cellv (v := .int .i64 0) (HS.out.at3) 7 rfl
            have hz276 := blk_fz (HS.out.at3) 7
            refine store_step (w1 := (World.setCell (World.setCell (World.setCell (World.setCell (World.setCell (World.setCell (World.setCell (World.setCell w259 ⟨g252, 0, none⟩ (.int .i64 t174)) ⟨g252, 1, none⟩ (.int .i64 (wrap64 (a14 - 8)))) ⟨g252, 2, none⟩ (.int .i64 0)) ⟨g252, 3, none⟩ (.int .i64 0)) ⟨g252, 4, none⟩ (.int .i64 0)) ⟨g252, 5, none⟩ (.int .i64 0)) ⟨g252, 6, none⟩ (.int .i64 0)) ⟨g252, 7, none⟩ (.int .i64 0))) (by rfl) rfl ?hr ?_
            case hr => first | (go_simp; done) | (go_simp; rfl)
            clear hc261 hz262 hc263 hz264 hc265 hz266 hc267 hz268 hc269 hz270 hc271 hz272 hc273 hz274 hc275 hz276
            intro w260 hst
            replace HS : Aside0 (Sep (fps []) w [b1 g17 a13 a14 a15 a16, b2 g20 0 0 0 0 0 0 0 0, b3 g200 a13 a14, b2 g252 t174 (wrap64 (a14 - 8)) 0 0 0 0 0 0, b4 g255 24 a15 t148] w260) := ⟨by rw [hst]; exact HS.out.setAll (l1 := [b1 g17 a13 a14 a15 a16, b2 g20 0 0 0 0 0 0 0 0, b3 g200 a13 a14]) (l2 := [b4 g255 24 a15 t148]) [.int .i64 t174, .int .i64 (wrap64 (a14 - 8)), .int .i64 0, .int .i64 0, .int .i64 0, .int .i64 0, .int .i64 0, .int .i64 0] rfl⟩
            clear hst
            refine hK.out _ _ (⟨blk_cellv (HS.out.at0) 2 rfl, blk_cellv (HS.out.at0) 0 rfl, blk_cellv (HS.out.at0) 1 rfl⟩) (fun hHeld => ?_)
            clear hK K
            refine done_ (by kernel_rfl) ?_
            go_wp2_with fail
            go_meet
            case rel => exact ⟨g200, g255, g252, (by first | rfl | (simp [IntKind.wrap_u32]; done)), ⟨(((((HS.out).front 3 (by simp)).front 4 (by simp)).front 4 (by simp)).front 4 (by simp)).front 4 (by simp)⟩⟩
        · refine box_step (by rfl) (N := 5) rfl (cs := #[.int .i64 0, .int .i64 0, .int .i64 0, .int .i64 0, .int .i64 0, .int .i64 0, .int .i64 0, .int .i64 0]) (t := 39) ?hr ?_
          case hr => first | (go_simp; done) | (go_simp; rfl)
          intro g277 hg w278 hbox hb
          replace HS : Aside0 (Sep (fps []) w [b1 g17 a13 a14 a15 a16, b2 g20 0 0 0 0 0 0 0 0, b3 g200 a13 a14, b2 g277 0 0 0 0 0 0 0 0] w278) := ⟨HS.out.box hg hbox hb⟩
          clear hg hbox hb
          refine hK.out _ _ (⟨blk_cellv (HS.out.at0) 2 rfl, blk_cellv (HS.out.at0) 0 rfl, blk_cellv (HS.out.at0) 1 rfl⟩) (fun hHeld => ?_)
          clear hK K
          refine norm_ (a' := ?_) ?_ ?_
          rotate_left
          · show Act.put _ (some 5) _ = _
            simp only [Act.put, List.setIfInBounds_toArray, List.set_cons_zero, List.set_cons_succ, i64_w, i32_w]
            rfl
          refine one_ (i := 7) (N := some 19) #[true, true, true, true, true, true, true, true, false, false, true, true, true, false, true, false] rfl rfl (by kernel_rfl) (by decide) (fun K hK => ?_)
          refine goes_ Try.func20 (by kernel_rfl) rfl #[.slice (some ⟨g200, 0, none⟩) 2 2] (by rfl) rfl rfl (by (try simp only [List.map_toArray, List.map_cons, List.map_nil]); first | done | rfl) ?_
          refine (ratio_Mul.calls _ [a13, a14] (some ⟨g200, 0, none⟩) 2 t148 _ ⟨Rd.lit (l := []) (xs := [a13, a14]) HS.out 2 rfl (by simp)⟩ ⟨Sep.start _⟩ HA149).mono ?_
          rintro e_ w281 ⟨rfl, hS⟩
          replace HS : Aside0 (Sep (fps []) w [b1 g17 a13 a14 a15 a16, b2 g20 0 0 0 0 0 0 0 0, b3 g200 a13 a14, b2 g277 0 0 0 0 0 0 0 0] w281) := ⟨HS.out.call hS⟩
          clear hS
          refine ⟨_, rfl, ?_⟩
          refine hK.out _ _ (⟨blk_cellv (HS.out.at0) 2 rfl, blk_cellv (HS.out.at0) 0 rfl, blk_cellv (HS.out.at0) 1 rfl⟩) (fun hHeld => ?_)
          clear hK K
          refine norm_ (a' := ?_) ?_ ?_
          rotate_left
          · show Act.put _ (some 19) _ = _
            simp only [Act.put, List.setIfInBounds_toArray, List.set_cons_zero, List.set_cons_succ, i64_w, i32_w]
            rfl
          refine one_ (i := 8) (N := some 20) #[true, true, true, true, true, true, true, true, true, false, true, true, true, false, true, false] rfl rfl (by kernel_rfl) (by decide) (fun K hK => ?_)
          refine slice_step (n := 3) (by rfl) (N := 20) rfl (cs := #[.int .i64 24, .int .i64 a15, .int .i64 t148]) (t := 3) ?hr ?_
          case hr => first | (go_simp; done) | (go_simp; rfl)
          intro g282 hg w283 hbox hb
          replace HS : Aside0 (Sep (fps []) w [b1 g17 a13 a14 a15 a16, b2 g20 0 0 0 0 0 0 0 0, b3 g200 a13 a14, b2 g277 0 0 0 0 0 0 0 0, b4 g282 24 a15 t148] w283) := ⟨HS.out.box hg hbox hb⟩
          clear hg hbox hb
          refine hK.out _ _ (⟨blk_cellv (HS.out.at0) 2 rfl, blk_cellv (HS.out.at0) 0 rfl, blk_cellv (HS.out.at0) 1 rfl⟩) (fun hHeld => ?_)
          clear hK K
          refine norm_ (a' := ?_) ?_ ?_
          rotate_left
          · show Act.put _ (some 20) _ = _
            simp only [Act.put, List.setIfInBounds_toArray, List.set_cons_zero, List.set_cons_succ, i64_w, i32_w]
            rfl
          refine one_ (i := 9) (N := some 21) #[true, true, true, true, true, true, true, true, true, true, true, true, true, false, true, false] rfl rfl (by kernel_rfl) (by decide) (fun K hK => ?_)
          refine goes_ Try.func18 (by kernel_rfl) rfl #[.slice (some ⟨g282, 0, none⟩) 3 3] (by rfl) rfl rfl (by (try simp only [List.map_toArray, List.map_cons, List.map_nil]); first | done | rfl) ?_
          refine (ratio_Add.calls _ [24, a15, t148] (some ⟨g282, 0, none⟩) 3 t174 _ ⟨Rd.lit (l := []) (xs := [24, a15, t148]) HS.out 4 rfl (by simp)⟩ ⟨Sep.start _⟩ HA175).mono ?_
          rintro e_ w286 ⟨rfl, hS⟩
          replace HS : Aside0 (Sep (fps []) w [b1 g17 a13 a14 a15 a16, b2 g20 0 0 0 0 0 0 0 0, b3 g200 a13 a14, b2 g277 0 0 0 0 0 0 0 0, b4 g282 24 a15 t148] w286) := ⟨HS.out.call hS⟩
          clear hS
          refine ⟨_, rfl, ?_⟩
          refine hK.out _ _ (⟨blk_cellv (HS.out.at0) 2 rfl, blk_cellv (HS.out.at0) 0 rfl, blk_cellv (HS.out.at0) 1 rfl⟩) (fun hHeld => ?_)
          clear hK K
          refine norm_ (a' := ?_) ?_ ?_
          rotate_left
          · show Act.put _ (some 21) _ = _
            simp only [Act.put, List.setIfInBounds_toArray, List.set_cons_zero, List.set_cons_succ, i64_w, i32_w]
            rfl
          refine pure_ (i := 13) (N := some 25) (v := ?_) (a' := ?_) #[true, true, true, true, true, true, true, true, true, true, true, true, true, true, true, false] rfl rfl (by kernel_rfl) (fun _ _ _ h => h) (Or.inl ⟨by rfl, ?_⟩) ?_ ?_
          rotate_left
          · intro w'
            go_simp
            with_reducible rfl
          rotate_left
          · simp only [Act.put, List.setIfInBounds_toArray, List.set_cons_zero, List.set_cons_succ, i64_w, i32_w]
            rfl
          refine one_ (i := 15) (N := none) #[true, true, true, true, true, true, true, true, true, true, true, true, true, true, true, true] rfl rfl (by kernel_rfl) (by decide) (fun K hK => ?_)
          have hc288 := blk_cellv (v := .int .i64 0) (HS.out.at3) 0 rfl
          have hz289 := blk_fz (HS.out.at3) 0
          have hc290 := blk_cellv (v := .int .i64 0) (HS.out.at3) 1 rfl
          have hz291 := blk_fz (HS.out.at3) 1
          have hc292 := blk_cellv (v := .int .i64 0) (HS.out.at3) 2 rfl
          have hz293 := blk_fz (HS.out.at3) 2
          have hc294 := blk_cellv (v := .int .i64 0) (HS.out.at3) 3 rfl
          have hz295 := blk_fz (HS.out.at3) 3
          have hc296 := blk_cellv (v := .int .i64 0) (HS.out.at3) 4 rfl
          have hz297 := blk_fz (HS.out.at3) 4
          have hc298 := blk_cellv (v := .int .i64 0) (HS.out.at3) 5 rfl
          have hz299 := blk_fz (HS.out.at3) 5
          have hc300 := blk_cellv (v := .int .i64 0) (HS.out.at3) 6 rfl
          have hz301 := blk_fz (HS.out.at3) 6
          have hc302 := blk_cellv (v := .int .i64 0) (HS.out.at3) 7 rfl
          have hz303 := blk_fz (HS.out.at3) 7
          refine store_step (w1 := (World.setCell (World.setCell (World.setCell (World.setCell (World.setCell (World.setCell (World.setCell (World.setCell w286 ⟨g277, 0, none⟩ (.int .i64 t174)) ⟨g277, 1, none⟩ (.int .i64 (wrap64 (a14 - 8)))) ⟨g277, 2, none⟩ (.int .i64 0)) ⟨g277, 3, none⟩ (.int .i64 0)) ⟨g277, 4, none⟩ (.int .i64 0)) ⟨g277, 5, none⟩ (.int .i64 0)) ⟨g277, 6, none⟩ (.int .i64 0)) ⟨g277, 7, none⟩ (.int .i64 0))) (by rfl) rfl ?hr ?_
          case hr => first | (go_simp; done) | (go_simp; rfl)
          clear hc288 hz289 hc290 hz291 hc292 hz293 hc294 hz295 hc296 hz297 hc298 hz299 hc300 hz301 hc302 hz303
          intro w287 hst
          replace HS : Aside0 (Sep (fps []) w [b1 g17 a13 a14 a15 a16, b2 g20 0 0 0 0 0 0 0 0, b3 g200 a13 a14, b2 g277 t174 (wrap64 (a14 - 8)) 0 0 0 0 0 0, b4 g282 24 a15 t148] w287) := ⟨by rw [hst]; exact HS.out.setAll (l1 := [b1 g17 a13 a14 a15 a16, b2 g20 0 0 0 0 0 0 0 0, b3 g200 a13 a14]) (l2 := [b4 g282 24 a15 t148]) [.int .i64 t174, .int .i64 (wrap64 (a14 - 8)), .int .i64 0, .int .i64 0, .int .i64 0, .int .i64 0, .int .i64 0, .int .i64 0] rfl⟩
          clear hst
          refine hK.out _ _ (⟨blk_cellv (HS.out.at0) 2 rfl, blk_cellv (HS.out.at0) 0 rfl, blk_cellv (HS.out.at0) 1 rfl⟩) (fun hHeld => ?_)
          clear hK K
          refine done_ (by kernel_rfl) ?_
          go_wp2_with fail
          go_meet
          case rel => exact ⟨g200, g282, g277, (by first | rfl | (simp [IntKind.wrap_u32]; done)), ⟨(((((HS.out).front 3 (by simp)).front 4 (by simp)).front 4 (by simp)).front 4 (by simp)).front 4 (by simp)⟩⟩
      · refine box_step (by rfl) (N := 5) rfl (cs := #[.int .i64 0, .int .i64 0, .int .i64 0, .int .i64 0, .int .i64 0, .int .i64 0, .int .i64 0, .int .i64 0]) (t := 39) ?hr ?_
        case hr => first | (go_simp; done) | (go_simp; rfl)
        intro g304 hg w305 hbox hb
        replace HS : Aside0 (Sep (fps []) w [b1 g17 a13 a14 a15 a16, b2 g20 0 0 0 0 0 0 0 0, b2 g304 0 0 0 0 0 0 0 0] w305) := ⟨HS.out.box hg hbox hb⟩
        clear hg hbox hb
        refine hK.out _ _ (⟨blk_cellv (HS.out.at0) 2 rfl, blk_cellv (HS.out.at0) 0 rfl, blk_cellv (HS.out.at0) 1 rfl⟩) (fun hHeld => ?_)
        clear hK K
        refine norm_ (a' := ?_) ?_ ?_
        rotate_left
        · show Act.put _ (some 5) _ = _
          simp only [Act.put, List.setIfInBounds_toArray, List.set_cons_zero, List.set_cons_succ, i64_w, i32_w]
          rfl
        refine one_ (i := 6) (N := some 18) #[true, true, true, true, true, true, true, false, false, false, true, true, true, false, true, false] rfl rfl (by kernel_rfl) (by decide) (fun K hK => ?_)
        refine slice_step (n := 2) (by rfl) (N := 18) rfl (cs := #[.int .i64 a13, .int .i64 a14]) (t := 3) ?hr ?_
        case hr => first | (go_simp; done) | (go_simp; rfl)
        intro g307 hg w308 hbox hb
        replace HS : Aside0 (Sep (fps []) w [b1 g17 a13 a14 a15 a16, b2 g20 0 0 0 0 0 0 0 0, b2 g304 0 0 0 0 0 0 0 0, b3 g307 a13 a14] w308) := ⟨HS.out.box hg hbox hb⟩
        clear hg hbox hb
        refine hK.out _ _ (⟨blk_cellv (HS.out.at0) 2 rfl, blk_cellv (HS.out.at0) 0 rfl, blk_cellv (HS.out.at0) 1 rfl⟩) (fun hHeld => ?_)
        clear hK K
        refine norm_ (a' := ?_) ?_ ?_
        rotate_left
        · show Act.put _ (some 18) _ = _
          simp only [Act.put, List.setIfInBounds_toArray, List.set_cons_zero, List.set_cons_succ, i64_w, i32_w]
          rfl
        refine one_ (i := 7) (N := some 19) #[true, true, true, true, true, true, true, true, false, false, true, true, true, false, true, false] rfl rfl (by kernel_rfl) (by decide) (fun K hK => ?_)
        refine goes_ Try.func20 (by kernel_rfl) rfl #[.slice (some ⟨g307, 0, none⟩) 2 2] (by rfl) rfl rfl (by (try simp only [List.map_toArray, List.map_cons, List.map_nil]); first | done | rfl) ?_
        refine (ratio_Mul.calls _ [a13, a14] (some ⟨g307, 0, none⟩) 2 t148 _ ⟨Rd.lit (l := []) (xs := [a13, a14]) HS.out 3 rfl (by simp)⟩ ⟨Sep.start _⟩ HA149).mono ?_
        rintro e_ w311 ⟨rfl, hS⟩
        replace HS : Aside0 (Sep (fps []) w [b1 g17 a13 a14 a15 a16, b2 g20 0 0 0 0 0 0 0 0, b2 g304 0 0 0 0 0 0 0 0, b3 g307 a13 a14] w311) := ⟨HS.out.call hS⟩
        clear hS
        refine ⟨_, rfl, ?_⟩
        refine hK.out _ _ (⟨blk_cellv (HS.out.at0) 2 rfl, blk_cellv (HS.out.at0) 0 rfl, blk_cellv (HS.out.at0) 1 rfl⟩) (fun hHeld => ?_)
        clear hK K
        refine norm_ (a' := ?_) ?_ ?_
        rotate_left
        · show Act.put _ (some 19) _ = _
          simp only [Act.put, List.setIfInBounds_toArray, List.set_cons_zero, List.set_cons_succ, i64_w, i32_w]
          rfl
        refine one_ (i := 8) (N := some 20) #[true, true, true, true, true, true, true, true, true, false, true, true, true, false, true, false] rfl rfl (by kernel_rfl) (by decide) (fun K hK => ?_)
        refine slice_step (n := 3) (by rfl) (N := 20) rfl (cs := #[.int .i64 24, .int .i64 a15, .int .i64 t148]) (t := 3) ?hr ?_
        case hr => first | (go_simp; done) | (go_simp; rfl)
        intro g312 hg w313 hbox hb
        replace HS : Aside0 (Sep (fps []) w [b1 g17 a13 a14 a15 a16, b2 g20 0 0 0 0 0 0 0 0, b2 g304 0 0 0 0 0 0 0 0, b3 g307 a13 a14, b4 g312 24 a15 t148] w313) := ⟨HS.out.box hg hbox hb⟩
        clear hg hbox hb
        refine hK.out _ _ (⟨blk_cellv (HS.out.at0) 2 rfl, blk_cellv (HS.out.at0) 0 rfl, blk_cellv (HS.out.at0) 1 rfl⟩) (fun hHeld => ?_)
        clear hK K
        refine norm_ (a' := ?_) ?_ ?_
        rotate_left
        · show Act.put _ (some 20) _ = _
          simp only [Act.put, List.setIfInBounds_toArray, List.set_cons_zero, List.set_cons_succ, i64_w, i32_w]
          rfl
        refine one_ (i := 9) (N := some 21) #[true, true, true, true, true, true, true, true, true, true, true, true, true, false, true, false] rfl rfl (by kernel_rfl) (by decide) (fun K hK => ?_)
        refine goes_ Try.func18 (by kernel_rfl) rfl #[.slice (some ⟨g312, 0, none⟩) 3 3] (by rfl) rfl rfl (by (try simp only [List.map_toArray, List.map_cons, List.map_nil]); first | done | rfl) ?_
        refine (ratio_Add.calls _ [24, a15, t148] (some ⟨g312, 0, none⟩) 3 t174 _ ⟨Rd.lit (l := []) (xs := [24, a15, t148]) HS.out 4 rfl (by simp)⟩ ⟨Sep.start _⟩ HA175).mono ?_
        rintro e_ w316 ⟨rfl, hS⟩
        replace HS : Aside0 (Sep (fps []) w [b1 g17 a13 a14 a15 a16, b2 g20 0 0 0 0 0 0 0 0, b2 g304 0 0 0 0 0 0 0 0, b3 g307 a13 a14, b4 g312 24 a15 t148] w316) := ⟨HS.out.call hS⟩
        clear hS
        refine ⟨_, rfl, ?_⟩
        refine hK.out _ _ (⟨blk_cellv (HS.out.at0) 2 rfl, blk_cellv (HS.out.at0) 0 rfl, blk_cellv (HS.out.at0) 1 rfl⟩) (fun hHeld => ?_)
        clear hK K
        refine norm_ (a' := ?_) ?_ ?_
        rotate_left
        · show Act.put _ (some 21) _ = _
          simp only [Act.put, List.setIfInBounds_toArray, List.set_cons_zero, List.set_cons_succ, i64_w, i32_w]
          rfl
        refine pure_ (i := 13) (N := some 25) (v := ?_) (a' := ?_) #[true, true, true, true, true, true, true, true, true, true, true, true, true, true, true, false] rfl rfl (by kernel_rfl) (fun _ _ _ h => h) (Or.inl ⟨by rfl, ?_⟩) ?_ ?_
        rotate_left
        · intro w'
          go_simp
          with_reducible rfl
        rotate_left
        · simp only [Act.put, List.setIfInBounds_toArray, List.set_cons_zero, List.set_cons_succ, i64_w, i32_w]
          rfl
        refine one_ (i := 15) (N := none) #[true, true, true, true, true, true, true, true, true, true, true, true, true, true, true, true] rfl rfl (by kernel_rfl) (by decide) (fun K hK => ?_)
        have hc318 := blk_cellv (v := .int .i64 0) (HS.out.at2) 0 rfl
        have hz319 := blk_fz (HS.out.at2) 0
        have hc320 := blk_cellv (v := .int .i64 0) (HS.out.at2) 1 rfl
        have hz321 := blk_fz (HS.out.at2) 1
        have hc322 := blk_cellv (v := .int .i64 0) (HS.out.at2) 2 rfl
        have hz323 := blk_fz (HS.out.at2) 2
        have hc324 := blk_cellv (v := .int .i64 0) (HS.out.at2) 3 rfl
        have hz325 := blk_fz (HS.out.at2) 3
        have hc326 := blk_cellv (v := .int .i64 0) (HS.out.at2) 4 rfl
        have hz327 := blk_fz (HS.out.at2) 4
        have hc328 := blk_cellv (v := .int .i64 0) (HS.out.at2) 5 rfl
        have hz329 := blk_fz (HS.out.at2) 5
        have hc330 := blk_cellv (v := .int .i64 0) (HS.out.at2) 6 rfl
        have hz331 := blk_fz (HS.out.at2) 6
        have hc332 := blk_cellv (v := .int .i64 0) (HS.out.at2) 7 rfl
        have hz333 := blk_fz (HS.out.at2) 7
        refine store_step (w1 := (World.setCell (World.setCell (World.setCell (World.setCell (World.setCell (World.setCell (World.setCell (World.setCell w316 ⟨g304, 0, none⟩ (.int .i64 t174)) ⟨g304, 1, none⟩ (.int .i64 (wrap64 (a14 - 8)))) ⟨g304, 2, none⟩ (.int .i64 0)) ⟨g304, 3, none⟩ (.int .i64 0)) ⟨g304, 4, none⟩ (.int .i64 0)) ⟨g304, 5, none⟩ (.int .i64 0)) ⟨g304, 6, none⟩ (.int .i64 0)) ⟨g304, 7, none⟩ (.int .i64 0))) (by rfl) rfl ?hr ?_
        case hr => first | (go_simp; done) | (go_simp; rfl)
        clear hc318 hz319 hc320 hz321 hc322 hz323 hc324 hz325 hc326 hz327 hc328 hz329 hc330 hz331 hc332 hz333
        intro w317 hst
        replace HS : Aside0 (Sep (fps []) w [b1 g17 a13 a14 a15 a16, b2 g20 0 0 0 0 0 0 0 0, b2 g304 t174 (wrap64 (a14 - 8)) 0 0 0 0 0 0, b3 g307 a13 a14, b4 g312 24 a15 t148] w317) := ⟨by rw [hst]; exact HS.out.setAll (l1 := [b1 g17 a13 a14 a15 a16, b2 g20 0 0 0 0 0 0 0 0]) (l2 := [b3 g307 a13 a14, b4 g312 24 a15 t148]) [.int .i64 t174, .int .i64 (wrap64 (a14 - 8)), .int .i64 0, .int .i64 0, .int .i64 0, .int .i64 0, .int .i64 0, .int .i64 0] rfl⟩
        clear hst
        refine hK.out _ _ (⟨blk_cellv (HS.out.at0) 2 rfl, blk_cellv (HS.out.at0) 0 rfl, blk_cellv (HS.out.at0) 1 rfl⟩) (fun hHeld => ?_)
        clear hK K
        refine done_ (by kernel_rfl) ?_
        go_wp2_with fail
        go_meet
        case rel => exact ⟨g307, g312, g304, (by first | rfl | (simp [IntKind.wrap_u32]; done)), ⟨(((((HS.out).front 2 (by simp)).front 4 (by simp)).front 4 (by simp)).front 4 (by simp)).front 4 (by simp)⟩⟩
    case rest =>
      clear HS
      obtain ⟨g74, g151, g177, rfl, HS⟩ := hcut
      obtain ⟨w197, rfl⟩ : ∃ x : World, x = wc := ⟨_, rfl⟩
      replace HS : Aside0 (Sep (fps []) w [b1 g17 a13 a14 a15 a16, b2 g20 0 0 0 0 0 0 0 0, b2 g177 t174 (wrap64 (a14 - 8)) 0 0 0 0 0 0] w197) := ⟨HS.out.sub (.cons_cons _ (.cons_cons _ (.cons _ (.cons _ (.cons_cons _ .slnil)))))⟩
      have hc334 : w197.cell? ⟨g177, 1, none⟩ = some (.int .i64 (wrap64 (a14 - 8))) := blk_cellv (HS.out.at2) 1 rfl
      have hc335 : w197.cell? ⟨g177, 2, none⟩ = some (.int .i64 0) := blk_cellv (HS.out.at2) 2 rfl
      have hz336 : w197.frozen? ⟨g177, 2, none⟩ = false := blk_fz (HS.out.at2) 2
      go_wp2_with (first | ((with_reducible refine gate_store (t := 3) (p := 29) rfl ?_); refine store_event (w1 := (World.setCell w197 ⟨g177, 2, none⟩ (.int .i64 (wrap64 ((wrap64 (a14 - 8)) + 1))))) rfl (t := 3) (p := 29) rfl rfl ?hr ?_; (case hr => first | (go_simp; done) | (go_simp; rfl)); intro w337 hst; clear hc334 hc335 hz336; have hq0 : Sep (fps []) w [b1 g17 a13 a14 a15 a16, b2 g20 0 0 0 0 0 0 0 0, b2 g177 t174 (wrap64 (a14 - 8)) (wrap64 ((wrap64 (a14 - 8)) + 1)) 0 0 0 0 0] (World.setCell w197 ⟨g177, 2, none⟩ (.int .i64 (wrap64 ((wrap64 (a14 - 8)) + 1)))) := (HS.out).set1 (l1 := [b1 g17 a13 a14 a15 a16, b2 g20 0 0 0 0 0 0 0 0]) (l2 := []) 2 (.int .i64 (wrap64 ((wrap64 (a14 - 8)) + 1))); replace HS : Aside0 (Sep (fps []) w [b1 g17 a13 a14 a15 a16, b2 g20 0 0 0 0 0 0 0 0, b2 g177 t174 (wrap64 (a14 - 8)) (wrap64 ((wrap64 (a14 - 8)) + 1)) 0 0 0 0 0] w337) := ⟨by rw [hst]; exact hq0⟩; clear hq0; clear hst; have hc338 : w337.cell? ⟨g177, 1, none⟩ = some (.int .i64 (wrap64 (a14 - 8))) := blk_cellv (HS.out.at2) 1 rfl; have hc339 : w337.cell? ⟨g17, 1, none⟩ = some (.int .i64 a14) := blk_cellv (HS.out.at0) 1 rfl) | ((with_reducible refine gate_dst (N := 35) rfl ?_); refine slice_on (n := 2) ?hg (N := 35) ?hd (cs := #[.int .i64 (wrap64 (a14 - 8)), .int .i64 (wrap64 (a14 - 1))]) (t := 3) ?hr ?_; (case hd => rfl); (case hg => rfl); (case hr => first | (go_simp; done) | (go_simp; rfl)); intro g340 hg w341 hbox hb; clear hc338 hc339; replace HS : Aside0 (Sep (fps []) w [b1 g17 a13 a14 a15 a16, b2 g20 0 0 0 0 0 0 0 0, b2 g177 t174 (wrap64 (a14 - 8)) (wrap64 ((wrap64 (a14 - 8)) + 1)) 0 0 0 0 0, b3 g340 (wrap64 (a14 - 8)) (wrap64 (a14 - 1))] w341) := ⟨HS.out.box hg hbox hb⟩; clear hg hbox hb))
      obtain ⟨t343, HA344, H⟩ := bind_some H
      refine (ratio_Mul.calls _ [wrap64 (a14 - 8), wrap64 (a14 - 1)] (some ⟨g340, 0, none⟩) 2 t343 _ ⟨Rd.lit (l := []) (xs := [wrap64 (a14 - 8), wrap64 (a14 - 1)]) HS.out 3 rfl (by simp)⟩ ⟨Sep.start _⟩ HA344).mono ?_
      rintro e_ w345 ⟨rfl, hS⟩
      replace HS : Aside0 (Sep (fps []) w [b1 g17 a13 a14 a15 a16, b2 g20 0 0 0 0 0 0 0 0, b2 g177 t174 (wrap64 (a14 - 8)) (wrap64 ((wrap64 (a14 - 8)) + 1)) 0 0 0 0 0, b3 g340 (wrap64 (a14 - 8)) (wrap64 (a14 - 1))] w345) := ⟨HS.out.call hS⟩
      clear hS
      have hc346 : w345.cell? ⟨g177, 3, none⟩ = some (.int .i64 0) := blk_cellv (HS.out.at2) 3 rfl
      have hz347 : w345.frozen? ⟨g177, 3, none⟩ = false := blk_fz (HS.out.at2) 3
      go_wp2_with (first | ((with_reducible refine gate_store (t := 3) (p := 37) rfl ?_); refine store_event (w1 := (World.setCell w345 ⟨g177, 3, none⟩ (.int .i64 t343))) rfl (t := 3) (p := 37) rfl rfl ?hr ?_; (case hr => first | (go_simp; done) | (go_simp; rfl)); intro w348 hst; clear hc346 hz347; have hq0 : Sep (fps []) w [b1 g17 a13 a14 a15 a16, b2 g20 0 0 0 0 0 0 0 0, b2 g177 t174 (wrap64 (a14 - 8)) (wrap64 ((wrap64 (a14 - 8)) + 1)) t343 0 0 0 0, b3 g340 (wrap64 (a14 - 8)) (wrap64 (a14 - 1))] (World.setCell w345 ⟨g177, 3, none⟩ (.int .i64 t343)) := (HS.out).set1 (l1 := [b1 g17 a13 a14 a15 a16, b2 g20 0 0 0 0 0 0 0 0]) (l2 := [b3 g340 (wrap64 (a14 - 8)) (wrap64 (a14 - 1))]) 3 (.int .i64 t343); replace HS : Aside0 (Sep (fps []) w [b1 g17 a13 a14 a15 a16, b2 g20 0 0 0 0 0 0 0 0, b2 g177 t174 (wrap64 (a14 - 8)) (wrap64 ((wrap64 (a14 - 8)) + 1)) t343 0 0 0 0, b3 g340 (wrap64 (a14 - 8)) (wrap64 (a14 - 1))] w348) := ⟨by rw [hst]; exact hq0⟩; clear hq0; clear hst; replace HS : Aside0 (Sep (fps []) w [b1 g17 a13 a14 a15 a16, b2 g20 0 0 0 0 0 0 0 0, b2 g177 t174 (wrap64 (a14 - 8)) (wrap64 ((wrap64 (a14 - 8)) + 1)) t343 0 0 0 0] w348) := ⟨HS.out.sub (.cons_cons _ (.cons_cons _ (.cons_cons _ (.cons _ .slnil))))⟩; have hc349 : w348.cell? ⟨g17, 0, none⟩ = some (.int .i64 a13) := blk_cellv (HS.out.at0) 0 rfl; have hc350 : w348.cell? ⟨g17, 1, none⟩ = some (.int .i64 a14) := blk_cellv (HS.out.at0) 1 rfl) | ((with_reducible refine gate_dst (N := 43) rfl ?_); refine slice_on (n := 2) ?hg (N := 43) ?hd (cs := #[.int .i64 a13, .int .i64 (wrap64 (a14 + 1))]) (t := 3) ?hr ?_; (case hd => rfl); (case hg => rfl); (case hr => first | (go_simp; done) | (go_simp; rfl)); intro g351 hg w352 hbox hb; clear hc349 hc350; replace HS : Aside0 (Sep (fps []) w [b1 g17 a13 a14 a15 a16, b2 g20 0 0 0 0 0 0 0 0, b2 g177 t174 (wrap64 (a14 - 8)) (wrap64 ((wrap64 (a14 - 8)) + 1)) t343 0 0 0 0, b3 g351 a13 (wrap64 (a14 + 1))] w352) := ⟨HS.out.box hg hbox hb⟩; clear hg hbox hb))
      obtain ⟨t354, HA355, H⟩ := bind_some H
      refine (ratio_Mul.calls _ [a13, wrap64 (a14 + 1)] (some ⟨g351, 0, none⟩) 2 t354 _ ⟨Rd.lit (l := []) (xs := [a13, wrap64 (a14 + 1)]) HS.out 3 rfl (by simp)⟩ ⟨Sep.start _⟩ HA355).mono ?_
      rintro e_ w356 ⟨rfl, hS⟩
      replace HS : Aside0 (Sep (fps []) w [b1 g17 a13 a14 a15 a16, b2 g20 0 0 0 0 0 0 0 0, b2 g177 t174 (wrap64 (a14 - 8)) (wrap64 ((wrap64 (a14 - 8)) + 1)) t343 0 0 0 0, b3 g351 a13 (wrap64 (a14 + 1))] w356) := ⟨HS.out.call hS⟩
      clear hS
      have hc357 : w356.cell? ⟨g177, 5, none⟩ = some (.int .i64 0) := blk_cellv (HS.out.at2) 5 rfl
      have hz358 : w356.frozen? ⟨g177, 5, none⟩ = false := blk_fz (HS.out.at2) 5
      go_wp2_with (first | ((with_reducible refine gate_store (t := 3) (p := 45) rfl ?_); refine store_event (w1 := (World.setCell w356 ⟨g177, 5, none⟩ (.int .i64 t354))) rfl (t := 3) (p := 45) rfl rfl ?hr ?_; (case hr => first | (go_simp; done) | (go_simp; rfl)); intro w359 hst; clear hc357 hz358; have hq0 : Sep (fps []) w [b1 g17 a13 a14 a15 a16, b2 g20 0 0 0 0 0 0 0 0, b2 g177 t174 (wrap64 (a14 - 8)) (wrap64 ((wrap64 (a14 - 8)) + 1)) t343 0 t354 0 0, b3 g351 a13 (wrap64 (a14 + 1))] (World.setCell w356 ⟨g177, 5, none⟩ (.int .i64 t354)) := (HS.out).set1 (l1 := [b1 g17 a13 a14 a15 a16, b2 g20 0 0 0 0 0 0 0 0]) (l2 := [b3 g351 a13 (wrap64 (a14 + 1))]) 5 (.int .i64 t354); replace HS : Aside0 (Sep (fps []) w [b1 g17 a13 a14 a15 a16, b2 g20 0 0 0 0 0 0 0 0, b2 g177 t174 (wrap64 (a14 - 8)) (wrap64 ((wrap64 (a14 - 8)) + 1)) t343 0 t354 0 0, b3 g351 a13 (wrap64 (a14 + 1))] w359) := ⟨by rw [hst]; exact hq0⟩; clear hq0; clear hst; replace HS : Aside0 (Sep (fps []) w [b1 g17 a13 a14 a15 a16, b2 g20 0 0 0 0 0 0 0 0, b2 g177 t174 (wrap64 (a14 - 8)) (wrap64 ((wrap64 (a14 - 8)) + 1)) t343 0 t354 0 0] w359) := ⟨HS.out.sub (.cons_cons _ (.cons_cons _ (.cons_cons _ (.cons _ .slnil))))⟩; have hc360 : w359.cell? ⟨g177, 5, none⟩ = some (.int .i64 t354) := blk_cellv (HS.out.at2) 5 rfl) | ((with_reducible refine gate_dst (N := 48) rfl ?_); refine slice_on (n := 2) ?hg (N := 48) ?hd (cs := #[.int .i64 3, .int .i64 t354]) (t := 3) ?hr ?_; (case hd => rfl); (case hg => rfl); (case hr => first | (go_simp; done) | (go_simp; rfl)); intro g361 hg w362 hbox hb; clear hc360; replace HS : Aside0 (Sep (fps []) w [b1 g17 a13 a14 a15 a16, b2 g20 0 0 0 0 0 0 0 0, b2 g177 t174 (wrap64 (a14 - 8)) (wrap64 ((wrap64 (a14 - 8)) + 1)) t343 0 t354 0 0, b3 g361 3 t354] w362) := ⟨HS.out.box hg hbox hb⟩; clear hg hbox hb))
      obtain ⟨t364, HA365, H⟩ := bind_some H
      refine (ratio_Mul.calls _ [3, t354] (some ⟨g361, 0, none⟩) 2 t364 _ ⟨Rd.lit (l := []) (xs := [3, t354]) HS.out 3 rfl (by simp)⟩ ⟨Sep.start _⟩ HA365).mono ?_
      rintro e_ w366 ⟨rfl, hS⟩
      replace HS : Aside0 (Sep (fps []) w [b1 g17 a13 a14 a15 a16, b2 g20 0 0 0 0 0 0 0 0, b2 g177 t174 (wrap64 (a14 - 8)) (wrap64 ((wrap64 (a14 - 8)) + 1)) t343 0 t354 0 0, b3 g361 3 t354] w366) := ⟨HS.out.call hS⟩
      clear hS
      go_wp2_with (first | ((with_reducible refine gate_dst (N := 50) rfl ?_); refine slice_on (n := 2) ?hg (N := 50) ?hd (cs := #[.int .i64 t364, .int .i64 4]) (t := 3) ?hr ?_; (case hd => rfl); (case hg => rfl); (case hr => first | (go_simp; done) | (go_simp; rfl)); intro g367 hg w368 hbox hb; replace HS : Aside0 (Sep (fps []) w [b1 g17 a13 a14 a15 a16, b2 g20 0 0 0 0 0 0 0 0, b2 g177 t174 (wrap64 (a14 - 8)) (wrap64 ((wrap64 (a14 - 8)) + 1)) t343 0 t354 0 0, b3 g361 3 t354, b3 g367 t364 4] w368) := ⟨HS.out.box hg hbox hb⟩; clear hg hbox hb))
      obtain ⟨t370, HA371, H⟩ := bind_some H
      refine (ratio_Add.calls _ [t364, 4] (some ⟨g367, 0, none⟩) 2 t370 _ ⟨Rd.lit (l := []) (xs := [t364, 4]) HS.out 4 rfl (by simp)⟩ ⟨Sep.start _⟩ HA371).mono ?_
      rintro e_ w372 ⟨rfl, hS⟩
      replace HS : Aside0 (Sep (fps []) w [b1 g17 a13 a14 a15 a16, b2 g20 0 0 0 0 0 0 0 0, b2 g177 t174 (wrap64 (a14 - 8)) (wrap64 ((wrap64 (a14 - 8)) + 1)) t343 0 t354 0 0, b3 g361 3 t354, b3 g367 t364 4] w372) := ⟨HS.out.call hS⟩
      clear hS
      have hc373 : w372.cell? ⟨g177, 4, none⟩ = some (.int .i64 0) := blk_cellv (HS.out.at2) 4 rfl
      have hz374 : w372.frozen? ⟨g177, 4, none⟩ = false := blk_fz (HS.out.at2) 4
      go_wp2_with (first | ((with_reducible refine gate_store (t := 3) (p := 52) rfl ?_); refine store_event (w1 := (World.setCell w372 ⟨g177, 4, none⟩ (.int .i64 t370))) rfl (t := 3) (p := 52) rfl rfl ?hr ?_; (case hr => first | (go_simp; done) | (go_simp; rfl)); intro w375 hst; clear hc373 hz374; have hq0 : Sep (fps []) w [b1 g17 a13 a14 a15 a16, b2 g20 0 0 0 0 0 0 0 0, b2 g177 t174 (wrap64 (a14 - 8)) (wrap64 ((wrap64 (a14 - 8)) + 1)) t343 t370 t354 0 0, b3 g361 3 t354, b3 g367 t364 4] (World.setCell w372 ⟨g177, 4, none⟩ (.int .i64 t370)) := (HS.out).set1 (l1 := [b1 g17 a13 a14 a15 a16, b2 g20 0 0 0 0 0 0 0 0]) (l2 := [b3 g361 3 t354, b3 g367 t364 4]) 4 (.int .i64 t370); replace HS : Aside0 (Sep (fps []) w [b1 g17 a13 a14 a15 a16, b2 g20 0 0 0 0 0 0 0 0, b2 g177 t174 (wrap64 (a14 - 8)) (wrap64 ((wrap64 (a14 - 8)) + 1)) t343 t370 t354 0 0, b3 g361 3 t354, b3 g367 t364 4] w375) := ⟨by rw [hst]; exact hq0⟩; clear hq0; clear hst; replace HS : Aside0 (Sep (fps []) w [b1 g17 a13 a14 a15 a16, b2 g20 0 0 0 0 0 0 0 0, b2 g177 t174 (wrap64 (a14 - 8)) (wrap64 ((wrap64 (a14 - 8)) + 1)) t343 t370 t354 0 0] w375) := ⟨HS.out.sub (.cons_cons _ (.cons_cons _ (.cons_cons _ (.cons _ (.cons _ .slnil)))))⟩))
      obtain ⟨t395, HA396, H⟩ := bind_some H
      obtain ⟨t401, HA402, H⟩ := bind_some H
      obtain ⟨t407, HA408, H⟩ := bind_some H
      obtain ⟨t413, HA414, H⟩ := bind_some H
      go_cut [] (fun wc => ∃ (g398 : Nat) (g404 : Nat) (g410 : Nat), Aside0 (Sep (fps []) w [b1 g17 a13 a14 a15 a16, b2 g20 0 0 0 0 0 0 0 0, b2 g177 t174 (wrap64 (a14 - 8)) (wrap64 ((wrap64 (a14 - 8)) + 1)) t343 t370 t354 t413 0, b3 g398 2 t395, b3 g404 2 (wrap64 ((wrap64 (a14 - 8)) + 1)), b3 g410 t401 t407] wc))
      case first =>
        go_wp2_with fail
        refine start_ (n := 15) (S := (fun w' => w'.cell? ⟨g177, 4, none⟩ = some (.int .i64 t370) ∧ w'.cell? ⟨g17, 3, none⟩ = some (.int .i64 a16) ∧ w'.cell? ⟨g177, 2, none⟩ = some (.int .i64 (wrap64 ((wrap64 (a14 - 8)) + 1))))) (ds := []) #[false, false, false, false, false, false, false, false, false, false, false, false, false, false, false] (by kernel_rfl) rfl rfl (⟨blk_cellv ((HS.out.drew).at2) 4 rfl, blk_cellv ((HS.out.drew).at0) 3 rfl, blk_cellv ((HS.out.drew).at2) 2 rfl⟩) (fun hHeld => ?_)
        have HS_ := Aside0.mk HS.out.drew
        clear HS
        generalize World.drew _ = w421 at HS_ hHeld ⊢
        have HS := HS_
        clear HS_
        refine pure_ (i := 0) (N := some 53) (v := ?_) (a' := ?_) #[true, false, false, false, false, false, false, false, false, false, false, false, false, false, false] rfl rfl (by kernel_rfl) (fun _ _ _ h => h) (Or.inl ⟨by rfl, ?_⟩) ?_ ?_
        rotate_left
        · intro w'
          go_simp
          with_reducible rfl
        rotate_left
        · simp only [Act.put, List.setIfInBounds_toArray, List.set_cons_zero, List.set_cons_succ, i64_w, i32_w]
          rfl
        refine pure_ (i := 2) (N := some 55) (v := ?_) (a' := ?_) #[true, false, true, false, false, false, false, false, false, false, false, false, false, false, false] rfl rfl (by kernel_rfl) (fun _ _ _ h => h) (Or.inl ⟨by rfl, ?_⟩) ?_ ?_
        rotate_left
        · intro w'
          go_simp
          with_reducible rfl
        rotate_left
        · simp only [Act.put, List.setIfInBounds_toArray, List.set_cons_zero, List.set_cons_succ, i64_w, i32_w]
          rfl
        refine pure_ (i := 7) (N := some 60) (v := ?_) (a' := ?_) #[true, false, true, false, false, false, false, true, false, false, false, false, false, false, false] rfl rfl (by kernel_rfl) (fun _ _ _ h => h) (Or.inl ⟨by rfl, ?_⟩) ?_ ?_
        rotate_left
        · intro w'
          go_simp
          with_reducible rfl
        rotate_left
        · simp only [Act.put, List.setIfInBounds_toArray, List.set_cons_zero, List.set_cons_succ, i64_w, i32_w]
          rfl
        refine take_ (i := 1) (N := some 54) (v := ?_) (a' := ?_) #[true, true, true, false, false, false, false, true, false, false, false, false, false, false, false] rfl rfl (by kernel_rfl) (fun _ _ _ h => h) (Or.inl ⟨by rfl, ?_⟩) hHeld ?_ ?_
        rotate_left
        · rintro w' hS'
          obtain ⟨s0, s1, s2⟩ := hS'
          go_simp
          with_reducible rfl
        rotate_left
        · simp only [Act.put, List.setIfInBounds_toArray, List.set_cons_zero, List.set_cons_succ, i64_w, i32_w]
          rfl
        refine take_ (i := 3) (N := some 56) (v := ?_) (a' := ?_) #[true, true, true, true, false, false, false, true, false, false, false, false, false, false, false] rfl rfl (by kernel_rfl) (fun _ _ _ h => h) (Or.inl ⟨by rfl, ?_⟩) hHeld ?_ ?_
        rotate_left
        · rintro w' hS'
          obtain ⟨s0, s1, s2⟩ := hS'
          go_simp
          with_reducible rfl
        rotate_left
        · simp only [Act.put, List.setIfInBounds_toArray, List.set_cons_zero, List.set_cons_succ, i64_w, i32_w]
          rfl
        refine take_ (i := 8) (N := some 61) (v := ?_) (a' := ?_) #[true, true, true, true, false, false, false, true, true, false, false, false, false, false, false] rfl rfl (by kernel_rfl) (fun _ _ _ h => h) (Or.inl ⟨by rfl, ?_⟩) hHeld ?_ ?_
        rotate_left
        · rintro w' hS'
          obtain ⟨s0, s1, s2⟩ := hS'
          go_simp
          with_reducible rfl
        rotate_left
        · simp only [Act.put, List.setIfInBounds_toArray, List.set_cons_zero, List.set_cons_succ, i64_w, i32_w]
          rfl
        refine two_ (i := 4) (j := 9) (Ni := some 57) (Nj := some 62) #[true, true, true, true, true, false, false, true, true, false, false, false, false, false, false] #[true, true, true, true, false, false, false, true, true, true, false, false, false, false, false] rfl rfl rfl rfl (by kernel_rfl) (by decide) (by decide) (fun K hK => ?_) (fun K hK => ?_)
        · refine goes_ Try.func24 (by kernel_rfl) rfl #[.int .i64 t370, .int .i64 a16] (by rfl) rfl rfl (by (try simp only [List.map_toArray, List.map_cons, List.map_nil]); first | done | rfl) ?_
          refine (ratio_Up.calls t370 a16 t395 _ ⟨Sep.start _⟩ HA396).mono ?_
          rintro e_ w423 ⟨rfl, hS⟩
          replace HS : Aside0 (Sep (fps []) w [b1 g17 a13 a14 a15 a16, b2 g20 0 0 0 0 0 0 0 0, b2 g177 t174 (wrap64 (a14 - 8)) (wrap64 ((wrap64 (a14 - 8)) + 1)) t343 t370 t354 0 0] w423) := ⟨HS.out.call hS⟩
          clear hS
          refine ⟨_, rfl, ?_⟩
          refine hK.out _ _ (⟨blk_cellv (HS.out.at2) 4 rfl, blk_cellv (HS.out.at0) 3 rfl, blk_cellv (HS.out.at2) 2 rfl⟩) (fun hHeld => ?_)
          clear hK K
          refine norm_ (a' := ?_) ?_ ?_
          rotate_left
          · show Act.put _ (some 57) _ = _
            simp only [Act.put, List.setIfInBounds_toArray, List.set_cons_zero, List.set_cons_succ, i64_w, i32_w]
            rfl
          refine two_ (i := 5) (j := 9) (Ni := some 58) (Nj := some 62) #[true, true, true, true, true, true, false, true, true, false, false, false, false, false, false] #[true, true, true, true, true, false, false, true, true, true, false, false, false, false, false] rfl rfl rfl rfl (by kernel_rfl) (by decide) (by decide) (fun K hK => ?_) (fun K hK => ?_)
          · refine slice_step (n := 2) (by rfl) (N := 58) rfl (cs := #[.int .i64 2, .int .i64 t395]) (t := 3) ?hr ?_
            case hr => first | (go_simp; done) | (go_simp; rfl)
            intro g424 hg w425 hbox hb
            replace HS : Aside0 (Sep (fps []) w [b1 g17 a13 a14 a15 a16, b2 g20 0 0 0 0 0 0 0 0, b2 g177 t174 (wrap64 (a14 - 8)) (wrap64 ((wrap64 (a14 - 8)) + 1)) t343 t370 t354 0 0, b3 g424 2 t395] w425) := ⟨HS.out.box hg hbox hb⟩
            clear hg hbox hb
            refine hK.out _ _ (⟨blk_cellv (HS.out.at2) 4 rfl, blk_cellv (HS.out.at0) 3 rfl, blk_cellv (HS.out.at2) 2 rfl⟩) (fun hHeld => ?_)
            clear hK K
            refine norm_ (a' := ?_) ?_ ?_
            rotate_left
            · show Act.put _ (some 58) _ = _
              simp only [Act.put, List.setIfInBounds_toArray, List.set_cons_zero, List.set_cons_succ, i64_w, i32_w]
              rfl
            refine two_ (i := 6) (j := 9) (Ni := some 59) (Nj := some 62) #[true, true, true, true, true, true, true, true, true, false, false, false, false, false, false] #[true, true, true, true, true, true, false, true, true, true, false, false, false, false, false] rfl rfl rfl rfl (by kernel_rfl) (by decide) (by decide) (fun K hK => ?_) (fun K hK => ?_)
            · refine goes_ Try.func20 (by kernel_rfl) rfl #[.slice (some ⟨g424, 0, none⟩) 2 2] (by rfl) rfl rfl (by (try simp only [List.map_toArray, List.map_cons, List.map_nil]); first | done | rfl) ?_
              refine (ratio_Mul.calls _ [2, t395] (some ⟨g424, 0, none⟩) 2 t401 _ ⟨Rd.lit (l := []) (xs := [2, t395]) HS.out 3 rfl (by simp)⟩ ⟨Sep.start _⟩ HA402).mono ?_
              rintro e_ w428 ⟨rfl, hS⟩
              replace HS : Aside0 (Sep (fps []) w [b1 g17 a13 a14 a15 a16, b2 g20 0 0 0 0 0 0 0 0, b2 g177 t174 (wrap64 (a14 - 8)) (wrap64 ((wrap64 (a14 - 8)) + 1)) t343 t370 t354 0 0, b3 g424 2 t395] w428) := ⟨HS.out.call hS⟩
              clear hS
              refine ⟨_, rfl, ?_⟩
              refine hK.out _ _ (⟨blk_cellv (HS.out.at2) 4 rfl, blk_cellv (HS.out.at0) 3 rfl, blk_cellv (HS.out.at2) 2 rfl⟩) (fun hHeld => ?_)
              clear hK K
              refine norm_ (a' := ?_) ?_ ?_
              rotate_left
              · show Act.put _ (some 59) _ = _
                simp only [Act.put, List.setIfInBounds_toArray, List.set_cons_zero, List.set_cons_succ, i64_w, i32_w]
                rfl
              refine one_ (i := 9) (N := some 62) #[true, true, true, true, true, true, true, true, true, true, false, false, false, false, false] rfl rfl (by kernel_rfl) (by decide) (fun K hK => ?_)
              refine slice_step (n := 2) (by rfl) (N := 62) rfl (cs := #[.int .i64 2, .int .i64 (wrap64 ((wrap64 (a14 - 8)) + 1))]) (t := 3) ?hr ?_
              case hr => first | (go_simp; done) | (go_simp; rfl)
              intro g429 hg w430 hbox hb
              replace HS : Aside0 (Sep (fps []) w [b1 g17 a13 a14 a15 a16, b2 g20 0 0 0 0 0 0 0 0, b2 g177 t174 (wrap64 (a14 - 8)) (wrap64 ((wrap64 (a14 - 8)) + 1)) t343 t370 t354 0 0, b3 g424 2 t395, b3 g429 2 (wrap64 ((wrap64 (a14 - 8)) + 1))] w430) := ⟨HS.out.box hg hbox hb⟩
              clear hg hbox hb
              refine hK.out _ _ (⟨blk_cellv (HS.out.at2) 4 rfl, blk_cellv (HS.out.at0) 3 rfl, blk_cellv (HS.out.at2) 2 rfl⟩) (fun hHeld => ?_)
              clear hK K
              refine norm_ (a' := ?_) ?_ ?_
              rotate_left
              · show Act.put _ (some 62) _ = _
                simp only [Act.put, List.setIfInBounds_toArray, List.set_cons_zero, List.set_cons_succ, i64_w, i32_w]
                rfl
              refine one_ (i := 10) (N := some 63) #[true, true, true, true, true, true, true, true, true, true, true, false, false, false, false] rfl rfl (by kernel_rfl) (by decide) (fun K hK => ?_)
              refine goes_ Try.func20 (by kernel_rfl) rfl #[.slice (some ⟨g429, 0, none⟩) 2 2] (by rfl) rfl rfl (by (try simp only [List.map_toArray, List.map_cons, List.map_nil]); first | done | rfl) ?_
              refine (ratio_Mul.calls _ [2, wrap64 ((wrap64 (a14 - 8)) + 1)] (some ⟨g429, 0, none⟩) 2 t407 _ ⟨Rd.lit (l := []) (xs := [2, wrap64 ((wrap64 (a14 - 8)) + 1)]) HS.out 4 rfl (by simp)⟩ ⟨Sep.start _⟩ HA408).mono ?_
              rintro e_ w433 ⟨rfl, hS⟩
              replace HS : Aside0 (Sep (fps []) w [b1 g17 a13 a14 a15 a16, b2 g20 0 0 0 0 0 0 0 0, b2 g177 t174 (wrap64 (a14 - 8)) (wrap64 ((wrap64 (a14 - 8)) + 1)) t343 t370 t354 0 0, b3 g424 2 t395, b3 g429 2 (wrap64 ((wrap64 (a14 - 8)) + 1))] w433) := ⟨HS.out.call hS⟩
              clear hS
              refine ⟨_, rfl, ?_⟩
              refine hK.out _ _ (⟨blk_cellv (HS.out.at2) 4 rfl, blk_cellv (HS.out.at0) 3 rfl, blk_cellv (HS.out.at2) 2 rfl⟩) (fun hHeld => ?_)
              clear hK K
              refine norm_ (a' := ?_) ?_ ?_
              rotate_left
              · show Act.put _ (some 63) _ = _
                simp only [Act.put, List.setIfInBounds_toArray, List.set_cons_zero, List.set_cons_succ, i64_w, i32_w]
                rfl
              refine one_ (i := 11) (N := some 64) #[true, true, true, true, true, true, true, true, true, true, true, true, false, false, false] rfl rfl (by kernel_rfl) (by decide) (fun K hK => ?_)
              refine slice_step (n := 2) (by rfl) (N := 64) rfl (cs := #[.int .i64 t401, .int .i64 t407]) (t := 3) ?hr ?_
              case hr => first | (go_simp; done) | (go_simp; rfl)
              intro g434 hg w435 hbox hb
              replace HS : Aside0 (Sep (fps []) w [b1 g17 a13 a14 a15 a16, b2 g20 0 0 0 0 0 0 0 0, b2 g177 t174 (wrap64 (a14 - 8)) (wrap64 ((wrap64 (a14 - 8)) + 1)) t343 t370 t354 0 0, b3 g424 2 t395, b3 g429 2 (wrap64 ((wrap64 (a14 - 8)) + 1)), b3 g434 t401 t407] w435) := ⟨HS.out.box hg hbox hb⟩
              clear hg hbox hb
              refine hK.out _ _ (⟨blk_cellv (HS.out.at2) 4 rfl, blk_cellv (HS.out.at0) 3 rfl, blk_cellv (HS.out.at2) 2 rfl⟩) (fun hHeld => ?_)
              clear hK K
              refine norm_ (a' := ?_) ?_ ?_
              rotate_left
              · show Act.put _ (some 64) _ = _
                simp only [Act.put, List.setIfInBounds_toArray, List.set_cons_zero, List.set_cons_succ, i64_w, i32_w]
                rfl
              refine one_ (i := 12) (N := some 65) #[true, true, true, true, true, true, true, true, true, true, true, true, true, false, false] rfl rfl (by kernel_rfl) (by decide) (fun K hK => ?_)
              refine goes_ Try.func18 (by kernel_rfl) rfl #[.slice (some ⟨g434, 0, none⟩) 2 2] (by rfl) rfl rfl (by (try simp only [List.map_toArray, List.map_cons, List.map_nil]); first | done | rfl) ?_
              refine (ratio_Add.calls _ [t401, t407] (some ⟨g434, 0, none⟩) 2 t413 _ ⟨Rd.lit (l := []) (xs := [t401, t407]) HS.out 5 rfl (by simp)⟩ ⟨Sep.start _⟩ HA414).mono ?_
              rintro e_ w438 ⟨rfl, hS⟩
              replace HS : Aside0 (Sep (fps []) w [b1 g17 a13 a14 a15 a16, b2 g20 0 0 0 0 0 0 0 0, b2 g177 t174 (wrap64 (a14 - 8)) (wrap64 ((wrap64 (a14 - 8)) + 1)) t343 t370 t354 0 0, b3 g424 2 t395, b3 g429 2 (wrap64 ((wrap64 (a14 - 8)) + 1)), b3 g434 t401 t407] w438) := ⟨HS.out.call hS⟩
              clear hS
              refine ⟨_, rfl, ?_⟩
              refine hK.out _ _ (⟨blk_cellv (HS.out.at2) 4 rfl, blk_cellv (HS.out.at0) 3 rfl, blk_cellv (HS.out.at2) 2 rfl⟩) (fun hHeld => ?_)
              clear hK K
              refine norm_ (a' := ?_) ?_ ?_
              rotate_left
              · show Act.put _ (some 65) _ = _
                simp only [Act.put, List.setIfInBounds_toArray, List.set_cons_zero, List.set_cons_succ, i64_w, i32_w]
                rfl
              refine pure_ (i := 13) (N := some 66) (v := ?_) (a' := ?_) #[true, true, true, true, true, true, true, true, true, true, true, true, true, true, false] rfl rfl (by kernel_rfl) (fun _ _ _ h => h) (Or.inl ⟨by rfl, ?_⟩) ?_ ?_
              rotate_left
              · intro w'
                go_simp
                with_reducible rfl
              rotate_left
              · simp only [Act.put, List.setIfInBounds_toArray, List.set_cons_zero, List.set_cons_succ, i64_w, i32_w]
                rfl
              refine one_ (i := 14) (N := none) #[true, true, true, true, true, true, true, true, true, true, true, true, true, true, true] rfl rfl (by kernel_rfl) (by decide) (fun K hK => ?_)
              have hc440 := blk_cellv (v := .int .i64 0) (HS.out.at2) 6 rfl
              have hz441 := blk_fz (HS.out.at2) 6
              refine store_step (w1 := (World.setCell w438 ⟨g177, 6, none⟩ (.int .i64 t413))) (by rfl) rfl ?hr ?_
              case hr => first | (go_simp; done) | (go_simp; rfl)
              clear hc440 hz441
              intro w439 hst
              have hq0 : Sep (fps []) w [b1 g17 a13 a14 a15 a16, b2 g20 0 0 0 0 0 0 0 0, b2 g177 t174 (wrap64 (a14 - 8)) (wrap64 ((wrap64 (a14 - 8)) + 1)) t343 t370 t354 t413 0, b3 g424 2 t395, b3 g429 2 (wrap64 ((wrap64 (a14 - 8)) + 1)), b3 g434 t401 t407] (World.setCell w438 ⟨g177, 6, none⟩ (.int .i64 t413)) := (HS.out).set1 (l1 := [b1 g17 a13 a14 a15 a16, b2 g20 0 0 0 0 0 0 0 0]) (l2 := [b3 g424 2 t395, b3 g429 2 (wrap64 ((wrap64 (a14 - 8)) + 1)), b3 g434 t401 t407]) 6 (.int .i64 t413)
              have HS_ : Aside0 (Sep (fps []) w [b1 g17 a13 a14 a15 a16, b2 g20 0 0 0 0 0 0 0 0, b2 g177 t174 (wrap64 (a14 - 8)) (wrap64 ((wrap64 (a14 - 8)) + 1)) t343 t370 t354 t413 0, b3 g424 2 t395, b3 g429 2 (wrap64 ((wrap64 (a14 - 8)) + 1)), b3 g434 t401 t407] w439) := ⟨by rw [hst]; exact hq0⟩
              clear hq0
              clear HS hst
              have HS := HS_
              clear HS_
              refine hK.out _ _ (⟨blk_cellv (HS.out.at2) 4 rfl, blk_cellv (HS.out.at0) 3 rfl, blk_cellv (HS.out.at2) 2 rfl⟩) (fun hHeld => ?_)
              clear hK K
              refine done_ (by kernel_rfl) ?_
              go_wp2_with fail
              go_meet
              case rel => exact ⟨g424, g429, g434, ⟨((((((HS.out).front 5 (by simp)).front 5 (by simp)).front 5 (by simp)).front 5 (by simp)).front 5 (by simp)).front 5 (by simp)⟩⟩
            · refine slice_step (n := 2) (by rfl) (N := 62) rfl (cs := #[.int .i64 2, .int .i64 (wrap64 ((wrap64 (a14 - 8)) + 1))]) (t := 3) ?hr ?_
              case hr => first | (go_simp; done) | (go_simp; rfl)
              intro g442 hg w443 hbox hb
              replace HS : Aside0 (Sep (fps []) w [b1 g17 a13 a14 a15 a16, b2 g20 0 0 0 0 0 0 0 0, b2 g177 t174 (wrap64 (a14 - 8)) (wrap64 ((wrap64 (a14 - 8)) + 1)) t343 t370 t354 0 0, b3 g424 2 t395, b3 g442 2 (wrap64 ((wrap64 (a14 - 8)) + 1))] w443) := ⟨HS.out.box hg hbox hb⟩
              clear hg hbox hb
              refine hK.out _ _ (⟨blk_cellv (HS.out.at2) 4 rfl, blk_cellv (HS.out.at0) 3 rfl, blk_cellv (HS.out.at2) 2 rfl⟩) (fun hHeld => ?_)
              clear hK K
              refine norm_ (a' := ?_) ?_ ?_
              rotate_left
              · show Act.put _ (some 62) _ = _
                simp only [Act.put, List.setIfInBounds_toArray, List.set_cons_zero, List.set_cons_succ, i64_w, i32_w]
                rfl
              refine one_ (i := 6) (N := some 59) #[true, true, true, true, true, true, true, true, true, true, false, false, false, false, false] rfl rfl (by kernel_rfl) (by decide) (fun K hK => ?_)
              refine goes_ Try.func20 (by kernel_rfl) rfl #[.slice (some ⟨g424, 0, none⟩) 2 2] (by rfl) rfl rfl (by (try simp only [List.map_toArray, List.map_cons, List.map_nil]); first | done | rfl) ?_
              refine (ratio_Mul.calls _ [2, t395] (some ⟨g424, 0, none⟩) 2 t401 _ ⟨Rd.lit (l := []) (xs := [2, t395]) HS.out 3 rfl (by simp)⟩ ⟨Sep.start _⟩ HA402).mono ?_
              rintro e_ w446 ⟨rfl, hS⟩
              replace HS : Aside0 (Sep (fps []) w [b1 g17 a13 a14 a15 a16, b2 g20 0 0 0 0 0 0 0 0, b2 g177 t174 (wrap64 (a14 - 8)) (wrap64 ((wrap64 (a14 - 8)) + 1)) t343 t370 t354 0 0, b3 g424 2 t395, b3 g442 2 (wrap64 ((wrap64 (a14 - 8)) + 1))] w446) := ⟨HS.out.call hS⟩
              clear hS
              refine ⟨_, rfl, ?_⟩
              refine hK.out _ _ (⟨blk_cellv (HS.out.at2) 4 rfl, blk_cellv (HS.out.at0) 3 rfl, blk_cellv (HS.out.at2) 2 rfl⟩) (fun hHeld => ?_)
              clear hK K
              refine norm_ (a' := ?_) ?_ ?_
              rotate_left
              · show Act.put _ (some 59) _ = _
                simp only [Act.put, List.setIfInBounds_toArray, List.set_cons_zero, List.set_cons_succ, i64_w, i32_w]
                rfl
              refine one_ (i := 10) (N := some 63) #[true, true, true, true, true, true, true, true, true, true, true, false, false, false, false] rfl rfl (by kernel_rfl) (by decide) (fun K hK => ?_)
              refine goes_ Try.func20 (by kernel_rfl) rfl #[.slice (some ⟨g442, 0, none⟩) 2 2] (by rfl) rfl rfl (by (try simp only [List.map_toArray, List.map_cons, List.map_nil]); first | done | rfl) ?_
              refine (ratio_Mul.calls _ [2, wrap64 ((wrap64 (a14 - 8)) + 1)] (some ⟨g442, 0, none⟩) 2 t407 _ ⟨Rd.lit (l := []) (xs := [2, wrap64 ((wrap64 (a14 - 8)) + 1)]) HS.out 4 rfl (by simp)⟩ ⟨Sep.start _⟩ HA408).mono ?_
              rintro e_ w448 ⟨rfl, hS⟩
              replace HS : Aside0 (Sep (fps []) w [b1 g17 a13 a14 a15 a16, b2 g20 0 0 0 0 0 0 0 0, b2 g177 t174 (wrap64 (a14 - 8)) (wrap64 ((wrap64 (a14 - 8)) + 1)) t343 t370 t354 0 0, b3 g424 2 t395, b3 g442 2 (wrap64 ((wrap64 (a14 - 8)) + 1))] w448) := ⟨HS.out.call hS⟩
              clear hS
              refine ⟨_, rfl, ?_⟩
              refine hK.out _ _ (⟨blk_cellv (HS.out.at2) 4 rfl, blk_cellv (HS.out.at0) 3 rfl, blk_cellv (HS.out.at2) 2 rfl⟩) (fun hHeld => ?_)
              clear hK K
              refine norm_ (a' := ?_) ?_ ?_
              rotate_left
              · show Act.put _ (some 63) _ = _
                simp only [Act.put, List.setIfInBounds_toArray, List.set_cons_zero, List.set_cons_succ, i64_w, i32_w]
                rfl
              refine one_ (i := 11) (N := some 64) #[true, true, true, true, true, true, true, true, true, true, true, true, false, false, false] rfl rfl (by kernel_rfl) (by decide) (fun K hK => ?_)
              refine slice_step (n := 2) (by rfl) (N := 64) rfl (cs := #[.int .i64 t401, .int .i64 t407]) (t := 3) ?hr ?_
              case hr => first | (go_simp; done) | (go_simp; rfl)
              intro g449 hg w450 hbox hb
              replace HS : Aside0 (Sep (fps []) w [b1 g17 a13 a14 a15 a16, b2 g20 0 0 0 0 0 0 0 0, b2 g177 t174 (wrap64 (a14 - 8)) (wrap64 ((wrap64 (a14 - 8)) + 1)) t343 t370 t354 0 0, b3 g424 2 t395, b3 g442 2 (wrap64 ((wrap64 (a14 - 8)) + 1)), b3 g449 t401 t407] w450) := ⟨HS.out.box hg hbox hb⟩
              clear hg hbox hb
              refine hK.out _ _ (⟨blk_cellv (HS.out.at2) 4 rfl, blk_cellv (HS.out.at0) 3 rfl, blk_cellv (HS.out.at2) 2 rfl⟩) (fun hHeld => ?_)
              clear hK K
              refine norm_ (a' := ?_) ?_ ?_
              rotate_left
              · show Act.put _ (some 64) _ = _
                simp only [Act.put, List.setIfInBounds_toArray, List.set_cons_zero, List.set_cons_succ, i64_w, i32_w]
                rfl
              refine one_ (i := 12) (N := some 65) #[true, true, true, true, true, true, true, true, true, true, true, true, true, false, false] rfl rfl (by kernel_rfl) (by decide) (fun K hK => ?_)
              refine goes_ Try.func18 (by kernel_rfl) rfl #[.slice (some ⟨g449, 0, none⟩) 2 2] (by rfl) rfl rfl (by (try simp only [List.map_toArray, List.map_cons, List.map_nil]); first | done | rfl) ?_
              refine (ratio_Add.calls _ [t401, t407] (some ⟨g449, 0, none⟩) 2 t413 _ ⟨Rd.lit (l := []) (xs := [t401, t407]) HS.out 5 rfl (by simp)⟩ ⟨Sep.start _⟩ HA414).mono ?_
              rintro e_ w453 ⟨rfl, hS⟩
              replace HS : Aside0 (Sep (fps []) w [b1 g17 a13 a14 a15 a16, b2 g20 0 0 0 0 0 0 0 0, b2 g177 t174 (wrap64 (a14 - 8)) (wrap64 ((wrap64 (a14 - 8)) + 1)) t343 t370 t354 0 0, b3 g424 2 t395, b3 g442 2 (wrap64 ((wrap64 (a14 - 8)) + 1)), b3 g449 t401 t407] w453) := ⟨HS.out.call hS⟩
              clear hS
              refine ⟨_, rfl, ?_⟩
              refine hK.out _ _ (⟨blk_cellv (HS.out.at2) 4 rfl, blk_cellv (HS.out.at0) 3 rfl, blk_cellv (HS.out.at2) 2 rfl⟩) (fun hHeld => ?_)
              clear hK K
              refine norm_ (a' := ?_) ?_ ?_
              rotate_left
              · show Act.put _ (some 65) _ = _
                simp only [Act.put, List.setIfInBounds_toArray, List.set_cons_zero, List.set_cons_succ, i64_w, i32_w]
                rfl
              refine pure_ (i := 13) (N := some 66) (v := ?_) (a' := ?_) #[true, true, true, true, true, true, true, true, true, true, true, true, true, true, false] rfl rfl (by kernel_rfl) (fun _ _ _ h => h) (Or.inl ⟨by rfl, ?_⟩) ?_ ?_
              rotate_left
              · intro w'
                go_simp
                with_reducible rfl
              rotate_left
              · simp only [Act.put, List.setIfInBounds_toArray, List.set_cons_zero, List.set_cons_succ, i64_w, i32_w]
                rfl
              refine one_ (i := 14) (N := none) #[true, true, true, true, true, true, true, true, true, true, true, true, true, true, true] rfl rfl (by kernel_rfl) (by decide) (fun K hK => ?_)
              have hc455 := blk_cellv (v := .int .i64 0) (HS.out.at2) 6 rfl
              have hz456 := blk_fz (HS.out.at2) 6
              refine store_step (w1 := (World.setCell w453 ⟨g177, 6, none⟩ (.int .i64 t413))) (by rfl) rfl ?hr ?_
              case hr => first | (go_simp; done) | (go_simp; rfl)
              clear hc455 hz456
              intro w454 hst
              have hq0 : Sep (fps []) w [b1 g17 a13 a14 a15 a16, b2 g20 0 0 0 0 0 0 0 0, b2 g177 t174 (wrap64 (a14 - 8)) (wrap64 ((wrap64 (a14 - 8)) + 1)) t343 t370 t354 t413 0, b3 g424 2 t395, b3 g442 2 (wrap64 ((wrap64 (a14 - 8)) + 1)), b3 g449 t401 t407] (World.setCell w453 ⟨g177, 6, none⟩ (.int .i64 t413)) := (HS.out).set1 (l1 := [b1 g17 a13 a14 a15 a16, b2 g20 0 0 0 0 0 0 0 0]) (l2 := [b3 g424 2 t395, b3 g442 2 (wrap64 ((wrap64 (a14 - 8)) + 1)), b3 g449 t401 t407]) 6 (.int .i64 t413)
              have HS_ : Aside0 (Sep (fps []) w [b1 g17 a13 a14 a15 a16, b2 g20 0 0 0 0 0 0 0 0, b2 g177 t174 (wrap64 (a14 - 8)) (wrap64 ((wrap64 (a14 - 8)) + 1)) t343 t370 t354 t413 0, b3 g424 2 t395, b3 g442 2 (wrap64 ((wrap64 (a14 - 8)) + 1)), b3 g449 t401 t407] w454) := ⟨by rw [hst]; exact hq0⟩
              clear hq0
              clear HS hst
              have HS := HS_
              clear HS_
              refine hK.out _ _ (⟨blk_cellv (HS.out.at2) 4 rfl, blk_cellv (HS.out.at0) 3 rfl, blk_cellv (HS.out.at2) 2 rfl⟩) (fun hHeld => ?_)
              clear hK K
              refine done_ (by kernel_rfl) ?_
              go_wp2_with fail
              go_meet
              case rel => exact ⟨g424, g442, g449, ⟨((((((HS.out).front 5 (by simp)).front 5 (by simp)).front 5 (by simp)).front 5 (by simp)).front 5 (by simp)).front 5 (by simp)⟩⟩
          · refine slice_step (n := 2) (by rfl) (N := 62) rfl (cs := #[.int .i64 2, .int .i64 (wrap64 ((wrap64 (a14 - 8)) + 1))]) (t := 3) ?hr ?_
            case hr => first | (go_simp; done) | (go_simp; rfl)
            intro g457 hg w458 hbox hb
            replace HS : Aside0 (Sep (fps []) w [b1 g17 a13 a14 a15 a16, b2 g20 0 0 0 0 0 0 0 0, b2 g177 t174 (wrap64 (a14 - 8)) (wrap64 ((wrap64 (a14 - 8)) + 1)) t343 t370 t354 0 0, b3 g457 2 (wrap64 ((wrap64 (a14 - 8)) + 1))] w458) := ⟨HS.out.box hg hbox hb⟩
            clear hg hbox hb
            refine hK.out _ _ (⟨blk_cellv (HS.out.at2) 4 rfl, blk_cellv (HS.out.at0) 3 rfl, blk_cellv (HS.out.at2) 2 rfl⟩) (fun hHeld => ?_)
            clear hK K
            refine norm_ (a' := ?_) ?_ ?_
            rotate_left
            · show Act.put _ (some 62) _ = _
              simp only [Act.put, List.setIfInBounds_toArray, List.set_cons_zero, List.set_cons_succ, i64_w, i32_w]
              rfl
            refine one_ (i := 5) (N := some 58) #[true, true, true, true, true, true, false, true, true, true, false, false, false, false, false] rfl rfl (by kernel_rfl) (by decide) (fun K hK => ?_)
            refine slice_step (n := 2) (by rfl) (N := 58) rfl (cs := #[.int .i64 2, .int .i64 t395]) (t := 3) ?hr ?_
            case hr => first | (go_simp; done) | (go_simp; rfl)
            intro g460 hg w461 hbox hb
            replace HS : Aside0 (Sep (fps []) w [b1 g17 a13 a14 a15 a16, b2 g20 0 0 0 0 0 0 0 0, b2 g177 t174 (wrap64 (a14 - 8)) (wrap64 ((wrap64 (a14 - 8)) + 1)) t343 t370 t354 0 0, b3 g457 2 (wrap64 ((wrap64 (a14 - 8)) + 1)), b3 g460 2 t395] w461) := ⟨HS.out.box hg hbox hb⟩
            clear hg hbox hb
            refine hK.out _ _ (⟨blk_cellv (HS.out.at2) 4 rfl, blk_cellv (HS.out.at0) 3 rfl, blk_cellv (HS.out.at2) 2 rfl⟩) (fun hHeld => ?_)
            clear hK K
            refine norm_ (a' := ?_) ?_ ?_
            rotate_left
            · show Act.put _ (some 58) _ = _
              simp only [Act.put, List.setIfInBounds_toArray, List.set_cons_zero, List.set_cons_succ, i64_w, i32_w]
              rfl
            refine one_ (i := 6) (N := some 59) #[true, true, true, true, true, true, true, true, true, true, false, false, false, false, false] rfl rfl (by kernel_rfl) (by decide) (fun K hK => ?_)
            refine goes_ Try.func20 (by kernel_rfl) rfl #[.slice (some ⟨g460, 0, none⟩) 2 2] (by rfl) rfl rfl (by (try simp only [List.map_toArray, List.map_cons, List.map_nil]); first | done | rfl) ?_
            refine (ratio_Mul.calls _ [2, t395] (some ⟨g460, 0, none⟩) 2 t401 _ ⟨Rd.lit (l := []) (xs := [2, t395]) HS.out 4 rfl (by simp)⟩ ⟨Sep.start _⟩ HA402).mono ?_
            rintro e_ w464 ⟨rfl, hS⟩
            replace HS : Aside0 (Sep (fps []) w [b1 g17 a13 a14 a15 a16, b2 g20 0 0 0 0 0 0 0 0, b2 g177 t174 (wrap64 (a14 - 8)) (wrap64 ((wrap64 (a14 - 8)) + 1)) t343 t370 t354 0 0, b3 g457 2 (wrap64 ((wrap64 (a14 - 8)) + 1)), b3 g460 2 t395] w464) := ⟨HS.out.call hS⟩
            clear hS
            refine ⟨_, rfl, ?_⟩
            refine hK.out _ _ (⟨blk_cellv (HS.out.at2) 4 rfl, blk_cellv (HS.out.at0) 3 rfl, blk_cellv (HS.out.at2) 2 rfl⟩) (fun hHeld => ?_)
            clear hK K
            refine norm_ (a' := ?_) ?_ ?_
            rotate_left
            · show Act.put _ (some 59) _ = _
              simp only [Act.put, List.setIfInBounds_toArray, List.set_cons_zero, List.set_cons_succ, i64_w, i32_w]
              rfl
            refine one_ (i := 10) (N := some 63) #[true, true, true, true, true, true, true, true, true, true, true, false, false, false, false] rfl rfl (by kernel_rfl) (by decide) (fun K hK => ?_)
            refine goes_ Try.func20 (by kernel_rfl) rfl #[.slice (some ⟨g457, 0, none⟩) 2 2] (by rfl) rfl rfl (by (try simp only [List.map_toArray, List.map_cons, List.map_nil]); first | done | rfl) ?_
            refine (ratio_Mul.calls _ [2, wrap64 ((wrap64 (a14 - 8)) + 1)] (some ⟨g457, 0, none⟩) 2 t407 _ ⟨Rd.lit (l := []) (xs := [2, wrap64 ((wrap64 (a14 - 8)) + 1)]) HS.out 3 rfl (by simp)⟩ ⟨Sep.start _⟩ HA408).mono ?_
            rintro e_ w466 ⟨rfl, hS⟩
            replace HS : Aside0 (Sep (fps []) w [b1 g17 a13 a14 a15 a16, b2 g20 0 0 0 0 0 0 0 0, b2 g177 t174 (wrap64 (a14 - 8)) (wrap64 ((wrap64 (a14 - 8)) + 1)) t343 t370 t354 0 0, b3 g457 2 (wrap64 ((wrap64 (a14 - 8)) + 1)), b3 g460 2 t395] w466) := ⟨HS.out.call hS⟩
            clear hS
            refine ⟨_, rfl, ?_⟩
            refine hK.out _ _ (⟨blk_cellv (HS.out.at2) 4 rfl, blk_cellv (HS.out.at0) 3 rfl, blk_cellv (HS.out.at2) 2 rfl⟩) (fun hHeld => ?_)
            clear hK K
            refine norm_ (a' := ?_) ?_ ?_
            rotate_left
            · show Act.put _ (some 63) _ = _
              simp only [Act.put, List.setIfInBounds_toArray, List.set_cons_zero, List.set_cons_succ, i64_w, i32_w]
              rfl
            refine one_ (i := 11) (N := some 64) #[true, true, true, true, true, true, true, true, true, true, true, true, false, false, false] rfl rfl (by kernel_rfl) (by decide) (fun K hK => ?_)
            refine slice_step (n := 2) (by rfl) (N := 64) rfl (cs := #[.int .i64 t401, .int .i64 t407]) (t := 3) ?hr ?_
            case hr => first | (go_simp; done) | (go_simp; rfl)
            intro g467 hg w468 hbox hb
            replace HS : Aside0 (Sep (fps []) w [b1 g17 a13 a14 a15 a16, b2 g20 0 0 0 0 0 0 0 0, b2 g177 t174 (wrap64 (a14 - 8)) (wrap64 ((wrap64 (a14 - 8)) + 1)) t343 t370 t354 0 0, b3 g457 2 (wrap64 ((wrap64 (a14 - 8)) + 1)), b3 g460 2 t395, b3 g467 t401 t407] w468) := ⟨HS.out.box hg hbox hb⟩
            clear hg hbox hb
            refine hK.out _ _ (⟨blk_cellv (HS.out.at2) 4 rfl, blk_cellv (HS.out.at0) 3 rfl, blk_cellv (HS.out.at2) 2 rfl⟩) (fun hHeld => ?_)
            clear hK K
            refine norm_ (a' := ?_) ?_ ?_
            rotate_left
            · show Act.put _ (some 64) _ = _
              simp only [Act.put, List.setIfInBounds_toArray, List.set_cons_zero, List.set_cons_succ, i64_w, i32_w]
              rfl
            refine one_ (i := 12) (N := some 65) #[true, true, true, true, true, true, true, true, true, true, true, true, true, false, false] rfl rfl (by kernel_rfl) (by decide) (fun K hK => ?_)
            refine goes_ Try.func18 (by kernel_rfl) rfl #[.slice (some ⟨g467, 0, none⟩) 2 2] (by rfl) rfl rfl (by (try simp only [List.map_toArray, List.map_cons, List.map_nil]); first | done | rfl) ?_
            refine (ratio_Add.calls _ [t401, t407] (some ⟨g467, 0, none⟩) 2 t413 _ ⟨Rd.lit (l := []) (xs := [t401, t407]) HS.out 5 rfl (by simp)⟩ ⟨Sep.start _⟩ HA414).mono ?_
            rintro e_ w471 ⟨rfl, hS⟩
            replace HS : Aside0 (Sep (fps []) w [b1 g17 a13 a14 a15 a16, b2 g20 0 0 0 0 0 0 0 0, b2 g177 t174 (wrap64 (a14 - 8)) (wrap64 ((wrap64 (a14 - 8)) + 1)) t343 t370 t354 0 0, b3 g457 2 (wrap64 ((wrap64 (a14 - 8)) + 1)), b3 g460 2 t395, b3 g467 t401 t407] w471) := ⟨HS.out.call hS⟩
            clear hS
            refine ⟨_, rfl, ?_⟩
            refine hK.out _ _ (⟨blk_cellv (HS.out.at2) 4 rfl, blk_cellv (HS.out.at0) 3 rfl, blk_cellv (HS.out.at2) 2 rfl⟩) (fun hHeld => ?_)
            clear hK K
            refine norm_ (a' := ?_) ?_ ?_
            rotate_left
            · show Act.put _ (some 65) _ = _
              simp only [Act.put, List.setIfInBounds_toArray, List.set_cons_zero, List.set_cons_succ, i64_w, i32_w]
              rfl
            refine pure_ (i := 13) (N := some 66) (v := ?_) (a' := ?_) #[true, true, true, true, true, true, true, true, true, true, true, true, true, true, false] rfl rfl (by kernel_rfl) (fun _ _ _ h => h) (Or.inl ⟨by rfl, ?_⟩) ?_ ?_
            rotate_left
            · intro w'
              go_simp
              with_reducible rfl
            rotate_left
            · simp only [Act.put, List.setIfInBounds_toArray, List.set_cons_zero, List.set_cons_succ, i64_w, i32_w]
              rfl
            refine one_ (i := 14) (N := none) #[true, true, true, true, true, true, true, true, true, true, true, true, true, true, true] rfl rfl (by kernel_rfl) (by decide) (fun K hK => ?_)
            have hc473 := blk_cellv (v := .int .i64 0) (HS.out.at2) 6 rfl
            have hz474 := blk_fz (HS.out.at2) 6
            refine store_step (w1 := (World.setCell w471 ⟨g177, 6, none⟩ (.int .i64 t413))) (by rfl) rfl ?hr ?_
            case hr => first | (go_simp; done) | (go_simp; rfl)
            clear hc473 hz474
            intro w472 hst
            have hq0 : Sep (fps []) w [b1 g17 a13 a14 a15 a16, b2 g20 0 0 0 0 0 0 0 0, b2 g177 t174 (wrap64 (a14 - 8)) (wrap64 ((wrap64 (a14 - 8)) + 1)) t343 t370 t354 t413 0, b3 g457 2 (wrap64 ((wrap64 (a14 - 8)) + 1)), b3 g460 2 t395, b3 g467 t401 t407] (World.setCell w471 ⟨g177, 6, none⟩ (.int .i64 t413)) := (HS.out).set1 (l1 := [b1 g17 a13 a14 a15 a16, b2 g20 0 0 0 0 0 0 0 0]) (l2 := [b3 g457 2 (wrap64 ((wrap64 (a14 - 8)) + 1)), b3 g460 2 t395, b3 g467 t401 t407]) 6 (.int .i64 t413)
            have HS_ : Aside0 (Sep (fps []) w [b1 g17 a13 a14 a15 a16, b2 g20 0 0 0 0 0 0 0 0, b2 g177 t174 (wrap64 (a14 - 8)) (wrap64 ((wrap64 (a14 - 8)) + 1)) t343 t370 t354 t413 0, b3 g457 2 (wrap64 ((wrap64 (a14 - 8)) + 1)), b3 g460 2 t395, b3 g467 t401 t407] w472) := ⟨by rw [hst]; exact hq0⟩
            clear hq0
            clear HS hst
            have HS := HS_
            clear HS_
            refine hK.out _ _ (⟨blk_cellv (HS.out.at2) 4 rfl, blk_cellv (HS.out.at0) 3 rfl, blk_cellv (HS.out.at2) 2 rfl⟩) (fun hHeld => ?_)
            clear hK K
            refine done_ (by kernel_rfl) ?_
            go_wp2_with fail
            go_meet
            case rel => exact ⟨g460, g457, g467, ⟨((((((HS.out).front 5 (by simp)).front 4 (by simp)).front 5 (by simp)).front 5 (by simp)).front 5 (by simp)).front 5 (by simp)⟩⟩
        · refine slice_step (n := 2) (by rfl) (N := 62) rfl (cs := #[.int .i64 2, .int .i64 (wrap64 ((wrap64 (a14 - 8)) + 1))]) (t := 3) ?hr ?_
          case hr => first | (go_simp; done) | (go_simp; rfl)
          intro g475 hg w476 hbox hb
          replace HS : Aside0 (Sep (fps []) w [b1 g17 a13 a14 a15 a16, b2 g20 0 0 0 0 0 0 0 0, b2 g177 t174 (wrap64 (a14 - 8)) (wrap64 ((wrap64 (a14 - 8)) + 1)) t343 t370 t354 0 0, b3 g475 2 (wrap64 ((wrap64 (a14 - 8)) + 1))] w476) := ⟨HS.out.box hg hbox hb⟩
          clear hg hbox hb
          refine hK.out _ _ (⟨blk_cellv (HS.out.at2) 4 rfl, blk_cellv (HS.out.at0) 3 rfl, blk_cellv (HS.out.at2) 2 rfl⟩) (fun hHeld => ?_)
          clear hK K
          refine norm_ (a' := ?_) ?_ ?_
          rotate_left
          · show Act.put _ (some 62) _ = _
            simp only [Act.put, List.setIfInBounds_toArray, List.set_cons_zero, List.set_cons_succ, i64_w, i32_w]
            rfl
          refine one_ (i := 4) (N := some 57) #[true, true, true, true, true, false, false, true, true, true, false, false, false, false, false] rfl rfl (by kernel_rfl) (by decide) (fun K hK => ?_)
          refine goes_ Try.func24 (by kernel_rfl) rfl #[.int .i64 t370, .int .i64 a16] (by rfl) rfl rfl (by (try simp only [List.map_toArray, List.map_cons, List.map_nil]); first | done | rfl) ?_
          refine (ratio_Up.calls t370 a16 t395 _ ⟨Sep.start _⟩ HA396).mono ?_
          rintro e_ w479 ⟨rfl, hS⟩
          replace HS : Aside0 (Sep (fps []) w [b1 g17 a13 a14 a15 a16, b2 g20 0 0 0 0 0 0 0 0, b2 g177 t174 (wrap64 (a14 - 8)) (wrap64 ((wrap64 (a14 - 8)) + 1)) t343 t370 t354 0 0, b3 g475 2 (wrap64 ((wrap64 (a14 - 8)) + 1))] w479) := ⟨HS.out.call hS⟩
          clear hS
          refine ⟨_, rfl, ?_⟩
          refine hK.out _ _ (⟨blk_cellv (HS.out.at2) 4 rfl, blk_cellv (HS.out.at0) 3 rfl, blk_cellv (HS.out.at2) 2 rfl⟩) (fun hHeld => ?_)
          clear hK K
          refine norm_ (a' := ?_) ?_ ?_
          rotate_left
          · show Act.put _ (some 57) _ = _
            simp only [Act.put, List.setIfInBounds_toArray, List.set_cons_zero, List.set_cons_succ, i64_w, i32_w]
            rfl
          refine one_ (i := 5) (N := some 58) #[true, true, true, true, true, true, false, true, true, true, false, false, false, false, false] rfl rfl (by kernel_rfl) (by decide) (fun K hK => ?_)
          refine slice_step (n := 2) (by rfl) (N := 58) rfl (cs := #[.int .i64 2, .int .i64 t395]) (t := 3) ?hr ?_
          case hr => first | (go_simp; done) | (go_simp; rfl)
          intro g480 hg w481 hbox hb
          replace HS : Aside0 (Sep (fps []) w [b1 g17 a13 a14 a15 a16, b2 g20 0 0 0 0 0 0 0 0, b2 g177 t174 (wrap64 (a14 - 8)) (wrap64 ((wrap64 (a14 - 8)) + 1)) t343 t370 t354 0 0, b3 g475 2 (wrap64 ((wrap64 (a14 - 8)) + 1)), b3 g480 2 t395] w481) := ⟨HS.out.box hg hbox hb⟩
          clear hg hbox hb
          refine hK.out _ _ (⟨blk_cellv (HS.out.at2) 4 rfl, blk_cellv (HS.out.at0) 3 rfl, blk_cellv (HS.out.at2) 2 rfl⟩) (fun hHeld => ?_)
          clear hK K
          refine norm_ (a' := ?_) ?_ ?_
          rotate_left
          · show Act.put _ (some 58) _ = _
            simp only [Act.put, List.setIfInBounds_toArray, List.set_cons_zero, List.set_cons_succ, i64_w, i32_w]
            rfl
          refine one_ (i := 6) (N := some 59) #[true, true, true, true, true, true, true, true, true, true, false, false, false, false, false] rfl rfl (by kernel_rfl) (by decide) (fun K hK => ?_)
          refine goes_ Try.func20 (by kernel_rfl) rfl #[.slice (some ⟨g480, 0, none⟩) 2 2] (by rfl) rfl rfl (by (try simp only [List.map_toArray, List.map_cons, List.map_nil]); first | done | rfl) ?_
          refine (ratio_Mul.calls _ [2, t395] (some ⟨g480, 0, none⟩) 2 t401 _ ⟨Rd.lit (l := []) (xs := [2, t395]) HS.out 4 rfl (by simp)⟩ ⟨Sep.start _⟩ HA402).mono ?_
          rintro e_ w484 ⟨rfl, hS⟩
          replace HS : Aside0 (Sep (fps []) w [b1 g17 a13 a14 a15 a16, b2 g20 0 0 0 0 0 0 0 0, b2 g177 t174 (wrap64 (a14 - 8)) (wrap64 ((wrap64 (a14 - 8)) + 1)) t343 t370 t354 0 0, b3 g475 2 (wrap64 ((wrap64 (a14 - 8)) + 1)), b3 g480 2 t395] w484) := ⟨HS.out.call hS⟩
          clear hS
          refine ⟨_, rfl, ?_⟩
          refine hK.out _ _ (⟨blk_cellv (HS.out.at2) 4 rfl, blk_cellv (HS.out.at0) 3 rfl, blk_cellv (HS.out.at2) 2 rfl⟩) (fun hHeld => ?_)
          clear hK K
          refine norm_ (a' := ?_) ?_ ?_
          rotate_left
          · show Act.put _ (some 59) _ = _
            simp only [Act.put, List.setIfInBounds_toArray, List.set_cons_zero, List.set_cons_succ, i64_w, i32_w]
            rfl
          refine one_ (i := 10) (N := some 63) #[true, true, true, true, true, true, true, true, true, true, true, false, false, false, false] rfl rfl (by kernel_rfl) (by decide) (fun K hK => ?_)
          refine goes_ Try.func20 (by kernel_rfl) rfl #[.slice (some ⟨g475, 0, none⟩) 2 2] (by rfl) rfl rfl (by (try simp only [List.map_toArray, List.map_cons, List.map_nil]); first | done | rfl) ?_
          refine (ratio_Mul.calls _ [2, wrap64 ((wrap64 (a14 - 8)) + 1)] (some ⟨g475, 0, none⟩) 2 t407 _ ⟨Rd.lit (l := []) (xs := [2, wrap64 ((wrap64 (a14 - 8)) + 1)]) HS.out 3 rfl (by simp)⟩ ⟨Sep.start _⟩ HA408).mono ?_
          rintro e_ w486 ⟨rfl, hS⟩
          replace HS : Aside0 (Sep (fps []) w [b1 g17 a13 a14 a15 a16, b2 g20 0 0 0 0 0 0 0 0, b2 g177 t174 (wrap64 (a14 - 8)) (wrap64 ((wrap64 (a14 - 8)) + 1)) t343 t370 t354 0 0, b3 g475 2 (wrap64 ((wrap64 (a14 - 8)) + 1)), b3 g480 2 t395] w486) := ⟨HS.out.call hS⟩
          clear hS
          refine ⟨_, rfl, ?_⟩
          refine hK.out _ _ (⟨blk_cellv (HS.out.at2) 4 rfl, blk_cellv (HS.out.at0) 3 rfl, blk_cellv (HS.out.at2) 2 rfl⟩) (fun hHeld => ?_)
          clear hK K
          refine norm_ (a' := ?_) ?_ ?_
          rotate_left
          · show Act.put _ (some 63) _ = _
            simp only [Act.put, List.setIfInBounds_toArray, List.set_cons_zero, List.set_cons_succ, i64_w, i32_w]
            rfl
          refine one_ (i := 11) (N := some 64) #[true, true, true, true, true, true, true, true, true, true, true, true, false, false, false] rfl rfl (by kernel_rfl) (by decide) (fun K hK => ?_)
          refine slice_step (n := 2) (by rfl) (N := 64) rfl (cs := #[.int .i64 t401, .int .i64 t407]) (t := 3) ?hr ?_
          case hr => first | (go_simp; done) | (go_simp; rfl)
          intro g487 hg w488 hbox hb
          replace HS : Aside0 (Sep (fps []) w [b1 g17 a13 a14 a15 a16, b2 g20 0 0 0 0 0 0 0 0, b2 g177 t174 (wrap64 (a14 - 8)) (wrap64 ((wrap64 (a14 - 8)) + 1)) t343 t370 t354 0 0, b3 g475 2 (wrap64 ((wrap64 (a14 - 8)) + 1)), b3 g480 2 t395, b3 g487 t401 t407] w488) := ⟨HS.out.box hg hbox hb⟩
          clear hg hbox hb
          refine hK.out _ _ (⟨blk_cellv (HS.out.at2) 4 rfl, blk_cellv (HS.out.at0) 3 rfl, blk_cellv (HS.out.at2) 2 rfl⟩) (fun hHeld => ?_)
          clear hK K
          refine norm_ (a' := ?_) ?_ ?_
          rotate_left
          · show Act.put _ (some 64) _ = _
            simp only [Act.put, List.setIfInBounds_toArray, List.set_cons_zero, List.set_cons_succ, i64_w, i32_w]
            rfl
          refine one_ (i := 12) (N := some 65) #[true, true, true, true, true, true, true, true, true, true, true, true, true, false, false] rfl rfl (by kernel_rfl) (by decide) (fun K hK => ?_)
          refine goes_ Try.func18 (by kernel_rfl) rfl #[.slice (some ⟨g487, 0, none⟩) 2 2] (by rfl) rfl rfl (by (try simp only [List.map_toArray, List.map_cons, List.map_nil]); first | done | rfl) ?_
          refine (ratio_Add.calls _ [t401, t407] (some ⟨g487, 0, none⟩) 2 t413 _ ⟨Rd.lit (l := []) (xs := [t401, t407]) HS.out 5 rfl (by simp)⟩ ⟨Sep.start _⟩ HA414).mono ?_
          rintro e_ w491 ⟨rfl, hS⟩
          replace HS : Aside0 (Sep (fps []) w [b1 g17 a13 a14 a15 a16, b2 g20 0 0 0 0 0 0 0 0, b2 g177 t174 (wrap64 (a14 - 8)) (wrap64 ((wrap64 (a14 - 8)) + 1)) t343 t370 t354 0 0, b3 g475 2 (wrap64 ((wrap64 (a14 - 8)) + 1)), b3 g480 2 t395, b3 g487 t401 t407] w491) := ⟨HS.out.call hS⟩
          clear hS
          refine ⟨_, rfl, ?_⟩
          refine hK.out _ _ (⟨blk_cellv (HS.out.at2) 4 rfl, blk_cellv (HS.out.at0) 3 rfl, blk_cellv (HS.out.at2) 2 rfl⟩) (fun hHeld => ?_)
          clear hK K
          refine norm_ (a' := ?_) ?_ ?_
          rotate_left
          · show Act.put _ (some 65) _ = _
            simp only [Act.put, List.setIfInBounds_toArray, List.set_cons_zero, List.set_cons_succ, i64_w, i32_w]
            rfl
          refine pure_ (i := 13) (N := some 66) (v := ?_) (a' := ?_) #[true, true, true, true, true, true, true, true, true, true, true, true, true, true, false] rfl rfl (by kernel_rfl) (fun _ _ _ h => h) (Or.inl ⟨by rfl, ?_⟩) ?_ ?_
          rotate_left
          · intro w'
            go_simp
            with_reducible rfl
          rotate_left
          · simp only [Act.put, List.setIfInBounds_toArray, List.set_cons_zero, List.set_cons_succ, i64_w, i32_w]
            rfl
          refine one_ (i := 14) (N := none) #[true, true, true, true, true, true, true, true, true, true, true, true, true, true, true] rfl rfl (by kernel_rfl) (by decide) (fun K hK => ?_)
          have hc493 := blk_cellv (v := .int .i64 0) (HS.out.at2) 6 rfl
          have hz494 := blk_fz (HS.out.at2) 6
          refine store_step (w1 := (World.setCell w491 ⟨g177, 6, none⟩ (.int .i64 t413))) (by rfl) rfl ?hr ?_
          case hr => first | (go_simp; done) | (go_simp; rfl)
          clear hc493 hz494
          intro w492 hst
          have hq0 : Sep (fps []) w [b1 g17 a13 a14 a15 a16, b2 g20 0 0 0 0 0 0 0 0, b2 g177 t174 (wrap64 (a14 - 8)) (wrap64 ((wrap64 (a14 - 8)) + 1)) t343 t370 t354 t413 0, b3 g475 2 (wrap64 ((wrap64 (a14 - 8)) + 1)), b3 g480 2 t395, b3 g487 t401 t407] (World.setCell w491 ⟨g177, 6, none⟩ (.int .i64 t413)) := (HS.out).set1 (l1 := [b1 g17 a13 a14 a15 a16, b2 g20 0 0 0 0 0 0 0 0]) (l2 := [b3 g475 2 (wrap64 ((wrap64 (a14 - 8)) + 1)), b3 g480 2 t395, b3 g487 t401 t407]) 6 (.int .i64 t413)
          have HS_ : Aside0 (Sep (fps []) w [b1 g17 a13 a14 a15 a16, b2 g20 0 0 0 0 0 0 0 0, b2 g177 t174 (wrap64 (a14 - 8)) (wrap64 ((wrap64 (a14 - 8)) + 1)) t343 t370 t354 t413 0, b3 g475 2 (wrap64 ((wrap64 (a14 - 8)) + 1)), b3 g480 2 t395, b3 g487 t401 t407] w492) := ⟨by rw [hst]; exact hq0⟩
          clear hq0
          clear HS hst
          have HS := HS_
          clear HS_
          refine hK.out _ _ (⟨blk_cellv (HS.out.at2) 4 rfl, blk_cellv (HS.out.at0) 3 rfl, blk_cellv (HS.out.at2) 2 rfl⟩) (fun hHeld => ?_)
          clear hK K
          refine done_ (by kernel_rfl) ?_
          go_wp2_with fail
          go_meet
          case rel => exact ⟨g480, g475, g487, ⟨((((((HS.out).front 5 (by simp)).front 4 (by simp)).front 5 (by simp)).front 5 (by simp)).front 5 (by simp)).front 5 (by simp)⟩⟩
      case rest =>
        clear HS
        obtain ⟨g398, g404, g410, HS⟩ := hcut
        obtain ⟨w419, rfl⟩ : ∃ x : World, x = wc := ⟨_, rfl⟩
        replace HS : Aside0 (Sep (fps []) w [b1 g17 a13 a14 a15 a16, b2 g20 0 0 0 0 0 0 0 0, b2 g177 t174 (wrap64 (a14 - 8)) (wrap64 ((wrap64 (a14 - 8)) + 1)) t343 t370 t354 t413 0] w419) := ⟨HS.out.sub (.cons_cons _ (.cons_cons _ (.cons_cons _ (.cons _ (.cons _ (.cons _ .slnil))))))⟩
        go_wp2_with fail
        refine start_ (n := 15) (S := (fun w' => w'.cell? ⟨g177, 4, none⟩ = some (.int .i64 t370) ∧ w'.cell? ⟨g177, 5, none⟩ = some (.int .i64 t354) ∧ w'.cell? ⟨g17, 3, none⟩ = some (.int .i64 a16))) (ds := []) #[false, false, false, false, false, false, false, false, false, false, false, false, false, false, false] (by kernel_rfl) rfl rfl (⟨blk_cellv ((HS.out.drew).at2) 4 rfl, blk_cellv ((HS.out.drew).at2) 5 rfl, blk_cellv ((HS.out.drew).at0) 3 rfl⟩) (fun hHeld => ?_)
        have HS_ := Aside0.mk HS.out.drew
        clear HS
        generalize World.drew _ = w496 at HS_ hHeld ⊢
        have HS := HS_
        clear HS_
        refine pure_ (i := 0) (N := some 67) (v := ?_) (a' := ?_) #[true, false, false, false, false, false, false, false, false, false, false, false, false, false, false] rfl rfl (by kernel_rfl) (fun _ _ _ h => h) (Or.inl ⟨by rfl, ?_⟩) ?_ ?_
        rotate_left
        · intro w'
          go_simp
          with_reducible rfl
        rotate_left
        · simp only [Act.put, List.setIfInBounds_toArray, List.set_cons_zero, List.set_cons_succ, i64_w, i32_w]
          rfl
        refine pure_ (i := 2) (N := some 69) (v := ?_) (a' := ?_) #[true, false, true, false, false, false, false, false, false, false, false, false, false, false, false] rfl rfl (by kernel_rfl) (fun _ _ _ h => h) (Or.inl ⟨by rfl, ?_⟩) ?_ ?_
        rotate_left
        · intro w'
          go_simp
          with_reducible rfl
        rotate_left
        · simp only [Act.put, List.setIfInBounds_toArray, List.set_cons_zero, List.set_cons_succ, i64_w, i32_w]
          rfl
        refine pure_ (i := 4) (N := some 71) (v := ?_) (a' := ?_) #[true, false, true, false, true, false, false, false, false, false, false, false, false, false, false] rfl rfl (by kernel_rfl) (fun _ _ _ h => h) (Or.inl ⟨by rfl, ?_⟩) ?_ ?_
        rotate_left
        · intro w'
          go_simp
          with_reducible rfl
        rotate_left
        · simp only [Act.put, List.setIfInBounds_toArray, List.set_cons_zero, List.set_cons_succ, i64_w, i32_w]
          rfl
        refine pure_ (i := 8) (N := some 75) (v := ?_) (a' := ?_) #[true, false, true, false, true, false, false, false, true, false, false, false, false, false, false] rfl rfl (by kernel_rfl) (fun _ _ _ h => h) (Or.inl ⟨by rfl, ?_⟩) ?_ ?_
        rotate_left
        · intro w'
          go_simp
          with_reducible rfl
        rotate_left
        · simp only [Act.put, List.setIfInBounds_toArray, List.set_cons_zero, List.set_cons_succ, i64_w, i32_w]
          rfl
        refine take_ (i := 1) (N := some 68) (v := ?_) (a' := ?_) #[true, true, true, false, true, false, false, false, true, false, false, false, false, false, false] rfl rfl (by kernel_rfl) (fun _ _ _ h => h) (Or.inl ⟨by rfl, ?_⟩) hHeld ?_ ?_
        rotate_left
        · rintro w' hS'
          obtain ⟨s0, s1, s2⟩ := hS'
          go_simp
          with_reducible rfl
        rotate_left
        · simp only [Act.put, List.setIfInBounds_toArray, List.set_cons_zero, List.set_cons_succ, i64_w, i32_w]
          rfl
        refine take_ (i := 3) (N := some 70) (v := ?_) (a' := ?_) #[true, true, true, true, true, false, false, false, true, false, false, false, false, false, false] rfl rfl (by kernel_rfl) (fun _ _ _ h => h) (Or.inl ⟨by rfl, ?_⟩) hHeld ?_ ?_
        rotate_left
        · rintro w' hS'
          obtain ⟨s0, s1, s2⟩ := hS'
          go_simp
          with_reducible rfl
        rotate_left
        · simp only [Act.put, List.setIfInBounds_toArray, List.set_cons_zero, List.set_cons_succ, i64_w, i32_w]
          rfl
        refine take_ (i := 5) (N := some 72) (v := ?_) (a' := ?_) #[true, true, true, true, true, true, false, false, true, false, false, false, false, false, false] rfl rfl (by kernel_rfl) (fun _ _ _ h => h) (Or.inl ⟨by rfl, ?_⟩) hHeld ?_ ?_
        rotate_left
        · rintro w' hS'
          obtain ⟨s0, s1, s2⟩ := hS'
          go_simp
          with_reducible rfl
        rotate_left
        · simp only [Act.put, List.setIfInBounds_toArray, List.set_cons_zero, List.set_cons_succ, i64_w, i32_w]
          rfl
        refine take_ (i := 9) (N := some 76) (v := ?_) (a' := ?_) #[true, true, true, true, true, true, false, false, true, true, false, false, false, false, false] rfl rfl (by kernel_rfl) (fun _ _ _ h => h) (Or.inl ⟨by rfl, ?_⟩) hHeld ?_ ?_
        rotate_left
        · rintro w' hS'
          obtain ⟨s0, s1, s2⟩ := hS'
          go_simp
          with_reducible rfl
        rotate_left
        · simp only [Act.put, List.setIfInBounds_toArray, List.set_cons_zero, List.set_cons_succ, i64_w, i32_w]
          rfl
        refine one_ (i := 6) (N := some 73) #[true, true, true, true, true, true, true, false, true, true, false, false, false, false, false] rfl rfl (by kernel_rfl) (by decide) (fun K hK => ?_)
        refine slice_step (n := 3) (by rfl) (N := 73) rfl (cs := #[.int .i64 t370, .int .i64 t370, .int .i64 t354]) (t := 3) ?hr ?_
        case hr => first | (go_simp; done) | (go_simp; rfl)
        intro g497 hg w498 hbox hb
        replace HS : Aside0 (Sep (fps []) w [b1 g17 a13 a14 a15 a16, b2 g20 0 0 0 0 0 0 0 0, b2 g177 t174 (wrap64 (a14 - 8)) (wrap64 ((wrap64 (a14 - 8)) + 1)) t343 t370 t354 t413 0, b4 g497 t370 t370 t354] w498) := ⟨HS.out.box hg hbox hb⟩
        clear hg hbox hb
        refine hK.out _ _ (⟨blk_cellv (HS.out.at2) 4 rfl, blk_cellv (HS.out.at2) 5 rfl, blk_cellv (HS.out.at0) 3 rfl⟩) (fun hHeld => ?_)
        clear hK K
        refine norm_ (a' := ?_) ?_ ?_
        rotate_left
        · show Act.put _ (some 73) _ = _
          simp only [Act.put, List.setIfInBounds_toArray, List.set_cons_zero, List.set_cons_succ, i64_w, i32_w]
          rfl
        refine one_ (i := 7) (N := some 74) #[true, true, true, true, true, true, true, true, true, true, false, false, false, false, false] rfl rfl (by kernel_rfl) (by decide) (fun K hK => ?_)
        obtain ⟨t500, HA501, H⟩ := bind_some H
        refine goes_ Try.func18 (by kernel_rfl) rfl #[.slice (some ⟨g497, 0, none⟩) 3 3] (by rfl) rfl rfl (by (try simp only [List.map_toArray, List.map_cons, List.map_nil]); first | done | rfl) ?_
        refine (ratio_Add.calls _ [t370, t370, t354] (some ⟨g497, 0, none⟩) 3 t500 _ ⟨Rd.lit (l := []) (xs := [t370, t370, t354]) HS.out 3 rfl (by simp)⟩ ⟨Sep.start _⟩ HA501).mono ?_
        rintro e_ w502 ⟨rfl, hS⟩
        replace HS : Aside0 (Sep (fps []) w [b1 g17 a13 a14 a15 a16, b2 g20 0 0 0 0 0 0 0 0, b2 g177 t174 (wrap64 (a14 - 8)) (wrap64 ((wrap64 (a14 - 8)) + 1)) t343 t370 t354 t413 0, b4 g497 t370 t370 t354] w502) := ⟨HS.out.call hS⟩
        clear hS
        refine ⟨_, rfl, ?_⟩
        refine hK.out _ _ (⟨blk_cellv (HS.out.at2) 4 rfl, blk_cellv (HS.out.at2) 5 rfl, blk_cellv (HS.out.at0) 3 rfl⟩) (fun hHeld => ?_)
        clear hK K
        refine norm_ (a' := ?_) ?_ ?_
        rotate_left
        · show Act.put _ (some 74) _ = _
          simp only [Act.put, List.setIfInBounds_toArray, List.set_cons_zero, List.set_cons_succ, i64_w, i32_w]
          rfl
        refine one_ (i := 10) (N := some 77) #[true, true, true, true, true, true, true, true, true, true, true, false, false, false, false] rfl rfl (by kernel_rfl) (by decide) (fun K hK => ?_)
        obtain ⟨t503, HA504, H⟩ := bind_some H
        refine goes_ Try.func24 (by kernel_rfl) rfl #[.int .i64 t500, .int .i64 a16] (by rfl) rfl rfl (by (try simp only [List.map_toArray, List.map_cons, List.map_nil]); first | done | rfl) ?_
        refine (ratio_Up.calls t500 a16 t503 _ ⟨Sep.start _⟩ HA504).mono ?_
        rintro e_ w505 ⟨rfl, hS⟩
        replace HS : Aside0 (Sep (fps []) w [b1 g17 a13 a14 a15 a16, b2 g20 0 0 0 0 0 0 0 0, b2 g177 t174 (wrap64 (a14 - 8)) (wrap64 ((wrap64 (a14 - 8)) + 1)) t343 t370 t354 t413 0, b4 g497 t370 t370 t354] w505) := ⟨HS.out.call hS⟩
        clear hS
        refine ⟨_, rfl, ?_⟩
        refine hK.out _ _ (⟨blk_cellv (HS.out.at2) 4 rfl, blk_cellv (HS.out.at2) 5 rfl, blk_cellv (HS.out.at0) 3 rfl⟩) (fun hHeld => ?_)
        clear hK K
        refine norm_ (a' := ?_) ?_ ?_
        rotate_left
        · show Act.put _ (some 77) _ = _
          simp only [Act.put, List.setIfInBounds_toArray, List.set_cons_zero, List.set_cons_succ, i64_w, i32_w]
          rfl
        refine one_ (i := 11) (N := some 78) #[true, true, true, true, true, true, true, true, true, true, true, true, false, false, false] rfl rfl (by kernel_rfl) (by decide) (fun K hK => ?_)
        refine slice_step (n := 2) (by rfl) (N := 78) rfl (cs := #[.int .i64 t503, .int .i64 2]) (t := 3) ?hr ?_
        case hr => first | (go_simp; done) | (go_simp; rfl)
        intro g506 hg w507 hbox hb
        replace HS : Aside0 (Sep (fps []) w [b1 g17 a13 a14 a15 a16, b2 g20 0 0 0 0 0 0 0 0, b2 g177 t174 (wrap64 (a14 - 8)) (wrap64 ((wrap64 (a14 - 8)) + 1)) t343 t370 t354 t413 0, b4 g497 t370 t370 t354, b3 g506 t503 2] w507) := ⟨HS.out.box hg hbox hb⟩
        clear hg hbox hb
        refine hK.out _ _ (⟨blk_cellv (HS.out.at2) 4 rfl, blk_cellv (HS.out.at2) 5 rfl, blk_cellv (HS.out.at0) 3 rfl⟩) (fun hHeld => ?_)
        clear hK K
        refine norm_ (a' := ?_) ?_ ?_
        rotate_left
        · show Act.put _ (some 78) _ = _
          simp only [Act.put, List.setIfInBounds_toArray, List.set_cons_zero, List.set_cons_succ, i64_w, i32_w]
          rfl
        refine one_ (i := 12) (N := some 79) #[true, true, true, true, true, true, true, true, true, true, true, true, true, false, false] rfl rfl (by kernel_rfl) (by decide) (fun K hK => ?_)
        obtain ⟨t509, HA510, H⟩ := bind_some H
        refine goes_ Try.func18 (by kernel_rfl) rfl #[.slice (some ⟨g506, 0, none⟩) 2 2] (by rfl) rfl rfl (by (try simp only [List.map_toArray, List.map_cons, List.map_nil]); first | done | rfl) ?_
        refine (ratio_Add.calls _ [t503, 2] (some ⟨g506, 0, none⟩) 2 t509 _ ⟨Rd.lit (l := []) (xs := [t503, 2]) HS.out 4 rfl (by simp)⟩ ⟨Sep.start _⟩ HA510).mono ?_
        rintro e_ w511 ⟨rfl, hS⟩
        replace HS : Aside0 (Sep (fps []) w [b1 g17 a13 a14 a15 a16, b2 g20 0 0 0 0 0 0 0 0, b2 g177 t174 (wrap64 (a14 - 8)) (wrap64 ((wrap64 (a14 - 8)) + 1)) t343 t370 t354 t413 0, b4 g497 t370 t370 t354, b3 g506 t503 2] w511) := ⟨HS.out.call hS⟩
        clear hS
        refine ⟨_, rfl, ?_⟩
        refine hK.out _ _ (⟨blk_cellv (HS.out.at2) 4 rfl, blk_cellv (HS.out.at2) 5 rfl, blk_cellv (HS.out.at0) 3 rfl⟩) (fun hHeld => ?_)
        clear hK K
        refine norm_ (a' := ?_) ?_ ?_
        rotate_left
        · show Act.put _ (some 79) _ = _
          simp only [Act.put, List.setIfInBounds_toArray, List.set_cons_zero, List.set_cons_succ, i64_w, i32_w]
          rfl
        refine pure_ (i := 13) (N := some 80) (v := ?_) (a' := ?_) #[true, true, true, true, true, true, true, true, true, true, true, true, true, true, false] rfl rfl (by kernel_rfl) (fun _ _ _ h => h) (Or.inl ⟨by rfl, ?_⟩) ?_ ?_
        rotate_left
        · intro w'
          go_simp
          with_reducible rfl
        rotate_left
        · simp only [Act.put, List.setIfInBounds_toArray, List.set_cons_zero, List.set_cons_succ, i64_w, i32_w]
          rfl
        refine one_ (i := 14) (N := none) #[true, true, true, true, true, true, true, true, true, true, true, true, true, true, true] rfl rfl (by kernel_rfl) (by decide) (fun K hK => ?_)
        have hc513 := blk_cellv (v := .int .i64 0) (HS.out.at2) 7 rfl
        have hz514 := blk_fz (HS.out.at2) 7
        refine store_step (w1 := (World.setCell w511 ⟨g177, 7, none⟩ (.int .i64 t509))) (by rfl) rfl ?hr ?_
        case hr => first | (go_simp; done) | (go_simp; rfl)
        clear hc513 hz514
        intro w512 hst
        have hq0 : Sep (fps []) w [b1 g17 a13 a14 a15 a16, b2 g20 0 0 0 0 0 0 0 0, b2 g177 t174 (wrap64 (a14 - 8)) (wrap64 ((wrap64 (a14 - 8)) + 1)) t343 t370 t354 t413 t509, b4 g497 t370 t370 t354, b3 g506 t503 2] (World.setCell w511 ⟨g177, 7, none⟩ (.int .i64 t509)) := (HS.out).set1 (l1 := [b1 g17 a13 a14 a15 a16, b2 g20 0 0 0 0 0 0 0 0]) (l2 := [b4 g497 t370 t370 t354, b3 g506 t503 2]) 7 (.int .i64 t509)
        have HS_ : Aside0 (Sep (fps []) w [b1 g17 a13 a14 a15 a16, b2 g20 0 0 0 0 0 0 0 0, b2 g177 t174 (wrap64 (a14 - 8)) (wrap64 ((wrap64 (a14 - 8)) + 1)) t343 t370 t354 t413 t509, b4 g497 t370 t370 t354, b3 g506 t503 2] w512) := ⟨by rw [hst]; exact hq0⟩
        clear hq0
        clear HS hst
        have HS := HS_
        clear HS_
        refine hK.out _ _ (⟨blk_cellv (HS.out.at2) 4 rfl, blk_cellv (HS.out.at2) 5 rfl, blk_cellv (HS.out.at0) 3 rfl⟩) (fun hHeld => ?_)
        clear hK K
        refine done_ (by kernel_rfl) ?_
        replace HS : Aside0 (Sep (fps []) w [b2 g20 0 0 0 0 0 0 0 0, b2 g177 t174 (wrap64 (a14 - 8)) (wrap64 ((wrap64 (a14 - 8)) + 1)) t343 t370 t354 t413 t509] w512) := ⟨HS.out.sub (.cons _ (.cons_cons _ (.cons_cons _ (.cons _ (.cons _ .slnil)))))⟩
        have hc515 : w512.cell? ⟨g177, 0, none⟩ = some (.int .i64 t174) := blk_cellv (HS.out.at1) 0 rfl
        have hc516 : w512.cell? ⟨g177, 1, none⟩ = some (.int .i64 (wrap64 (a14 - 8))) := blk_cellv (HS.out.at1) 1 rfl
        have hc517 : w512.cell? ⟨g177, 2, none⟩ = some (.int .i64 (wrap64 ((wrap64 (a14 - 8)) + 1))) := blk_cellv (HS.out.at1) 2 rfl
        have hc518 : w512.cell? ⟨g177, 3, none⟩ = some (.int .i64 t343) := blk_cellv (HS.out.at1) 3 rfl
        have hc519 : w512.cell? ⟨g177, 4, none⟩ = some (.int .i64 t370) := blk_cellv (HS.out.at1) 4 rfl
        have hc520 : w512.cell? ⟨g177, 5, none⟩ = some (.int .i64 t354) := blk_cellv (HS.out.at1) 5 rfl
        have hc521 : w512.cell? ⟨g177, 6, none⟩ = some (.int .i64 t413) := blk_cellv (HS.out.at1) 6 rfl
        have hc522 : w512.cell? ⟨g177, 7, none⟩ = some (.int .i64 t509) := blk_cellv (HS.out.at1) 7 rfl
        have hc523 : w512.cell? ⟨g20, 0, none⟩ = some (.int .i64 0) := blk_cellv (HS.out.at0) 0 rfl
        have hz524 : w512.frozen? ⟨g20, 0, none⟩ = false := blk_fz (HS.out.at0) 0
        have hc525 : w512.cell? ⟨g20, 1, none⟩ = some (.int .i64 0) := blk_cellv (HS.out.at0) 1 rfl
        have hz526 : w512.frozen? ⟨g20, 1, none⟩ = false := blk_fz (HS.out.at0) 1
        have hc527 : w512.cell? ⟨g20, 2, none⟩ = some (.int .i64 0) := blk_cellv (HS.out.at0) 2 rfl
        have hz528 : w512.frozen? ⟨g20, 2, none⟩ = false := blk_fz (HS.out.at0) 2
        have hc529 : w512.cell? ⟨g20, 3, none⟩ = some (.int .i64 0) := blk_cellv (HS.out.at0) 3 rfl
        have hz530 : w512.frozen? ⟨g20, 3, none⟩ = false := blk_fz (HS.out.at0) 3
        have hc531 : w512.cell? ⟨g20, 4, none⟩ = some (.int .i64 0) := blk_cellv (HS.out.at0) 4 rfl
        have hz532 : w512.frozen? ⟨g20, 4, none⟩ = false := blk_fz (HS.out.at0) 4
        have hc533 : w512.cell? ⟨g20, 5, none⟩ = some (.int .i64 0) := blk_cellv (HS.out.at0) 5 rfl
        have hz534 : w512.frozen? ⟨g20, 5, none⟩ = false := blk_fz (HS.out.at0) 5
        have hc535 : w512.cell? ⟨g20, 6, none⟩ = some (.int .i64 0) := blk_cellv (HS.out.at0) 6 rfl
        have hz536 : w512.frozen? ⟨g20, 6, none⟩ = false := blk_fz (HS.out.at0) 6
        have hc537 : w512.cell? ⟨g20, 7, none⟩ = some (.int .i64 0) := blk_cellv (HS.out.at0) 7 rfl
        have hz538 : w512.frozen? ⟨g20, 7, none⟩ = false := blk_fz (HS.out.at0) 7
        go_wp2_with (first | ((with_reducible refine gate_store (t := 39) (p := 2) rfl ?_); refine store_event (w1 := (World.setCell (World.setCell (World.setCell (World.setCell (World.setCell (World.setCell (World.setCell (World.setCell w512 ⟨g20, 0, none⟩ (.int .i64 t174)) ⟨g20, 1, none⟩ (.int .i64 (wrap64 (a14 - 8)))) ⟨g20, 2, none⟩ (.int .i64 (wrap64 ((wrap64 (a14 - 8)) + 1)))) ⟨g20, 3, none⟩ (.int .i64 t343)) ⟨g20, 4, none⟩ (.int .i64 t370)) ⟨g20, 5, none⟩ (.int .i64 t354)) ⟨g20, 6, none⟩ (.int .i64 t413)) ⟨g20, 7, none⟩ (.int .i64 t509))) rfl (t := 39) (p := 2) rfl rfl ?hr ?_; (case hr => first | (go_simp; done) | (go_simp; rfl)); intro w539 hst; clear hc515 hc516 hc517 hc518 hc519 hc520 hc521 hc522 hc523 hz524 hc525 hz526 hc527 hz528 hc529 hz530 hc531 hz532 hc533 hz534 hc535 hz536 hc537 hz538; replace HS : Aside0 (Sep (fps []) w [b2 g20 t174 (wrap64 (a14 - 8)) (wrap64 ((wrap64 (a14 - 8)) + 1)) t343 t370 t354 t413 t509, b2 g177 t174 (wrap64 (a14 - 8)) (wrap64 ((wrap64 (a14 - 8)) + 1)) t343 t370 t354 t413 t509] w539) := ⟨by rw [hst]; exact HS.out.setAll (l1 := []) (l2 := [b2 g177 t174 (wrap64 (a14 - 8)) (wrap64 ((wrap64 (a14 - 8)) + 1)) t343 t370 t354 t413 t509]) [.int .i64 t174, .int .i64 (wrap64 (a14 - 8)), .int .i64 (wrap64 ((wrap64 (a14 - 8)) + 1)), .int .i64 t343, .int .i64 t370, .int .i64 t354, .int .i64 t413, .int .i64 t509] rfl⟩; clear hst; replace HS : Aside0 (Sep (fps []) w [b2 g20 t174 (wrap64 (a14 - 8)) (wrap64 ((wrap64 (a14 - 8)) + 1)) t343 t370 t354 t413 t509] w539) := ⟨HS.out.sub (.cons_cons _ (.cons _ .slnil))⟩))
        have hc540 : w539.cell? ⟨g20, 0, none⟩ = some (.int .i64 t174) := blk_cellv (HS.out.at0) 0 rfl
        have hc541 : w539.cell? ⟨g20, 1, none⟩ = some (.int .i64 (wrap64 (a14 - 8))) := blk_cellv (HS.out.at0) 1 rfl
        have hc542 : w539.cell? ⟨g20, 2, none⟩ = some (.int .i64 (wrap64 ((wrap64 (a14 - 8)) + 1))) := blk_cellv (HS.out.at0) 2 rfl
        have hc543 : w539.cell? ⟨g20, 3, none⟩ = some (.int .i64 t343) := blk_cellv (HS.out.at0) 3 rfl
        have hc544 : w539.cell? ⟨g20, 4, none⟩ = some (.int .i64 t370) := blk_cellv (HS.out.at0) 4 rfl
        have hc545 : w539.cell? ⟨g20, 5, none⟩ = some (.int .i64 t354) := blk_cellv (HS.out.at0) 5 rfl
        have hc546 : w539.cell? ⟨g20, 6, none⟩ = some (.int .i64 t413) := blk_cellv (HS.out.at0) 6 rfl
        have hc547 : w539.cell? ⟨g20, 7, none⟩ = some (.int .i64 t509) := blk_cellv (HS.out.at0) 7 rfl
        refine bodyPost_ret (v := .tuple #[.agg #[.int .i64 t174, .int .i64 (wrap64 (a14 - 8)), .int .i64 (wrap64 ((wrap64 (a14 - 8)) + 1)), .int .i64 t343, .int .i64 t370, .int .i64 t354, .int .i64 t413, .int .i64 t509], .int .i64 0]) (by simp [results, Try.results32, go_sem, hc540, hc541, hc542, hc543, hc544, hc545, hc546, hc547]) rfl ?_
        rw [← some_eq H]
        exact ⟨(by first | rfl | (simp [IntKind.wrap_u32]; done)), HS.out.sub (.cons _ .slnil)⟩
  · replace H := if_no c71 H
    have c71b0 : (t68 == 0) = false := beq_eq_false_iff_ne.mpr c71
    have c71b1 : (t68 != 0) = true := bne_iff_ne.mpr c71
    clear c71
    have hc548 : w70.cell? ⟨g20, 0, none⟩ = some (.int .i64 0) := blk_cellv (HS.out.at1) 0 rfl
    have hz549 : w70.frozen? ⟨g20, 0, none⟩ = false := blk_fz (HS.out.at1) 0
    have hc550 : w70.cell? ⟨g20, 1, none⟩ = some (.int .i64 0) := blk_cellv (HS.out.at1) 1 rfl
    have hz551 : w70.frozen? ⟨g20, 1, none⟩ = false := blk_fz (HS.out.at1) 1
    have hc552 : w70.cell? ⟨g20, 2, none⟩ = some (.int .i64 0) := blk_cellv (HS.out.at1) 2 rfl
    have hz553 : w70.frozen? ⟨g20, 2, none⟩ = false := blk_fz (HS.out.at1) 2
    have hc554 : w70.cell? ⟨g20, 3, none⟩ = some (.int .i64 0) := blk_cellv (HS.out.at1) 3 rfl
    have hz555 : w70.frozen? ⟨g20, 3, none⟩ = false := blk_fz (HS.out.at1) 3
    have hc556 : w70.cell? ⟨g20, 4, none⟩ = some (.int .i64 0) := blk_cellv (HS.out.at1) 4 rfl
    have hz557 : w70.frozen? ⟨g20, 4, none⟩ = false := blk_fz (HS.out.at1) 4
    have hc558 : w70.cell? ⟨g20, 5, none⟩ = some (.int .i64 0) := blk_cellv (HS.out.at1) 5 rfl
    have hz559 : w70.frozen? ⟨g20, 5, none⟩ = false := blk_fz (HS.out.at1) 5
    have hc560 : w70.cell? ⟨g20, 6, none⟩ = some (.int .i64 0) := blk_cellv (HS.out.at1) 6 rfl
    have hz561 : w70.frozen? ⟨g20, 6, none⟩ = false := blk_fz (HS.out.at1) 6
    have hc562 : w70.cell? ⟨g20, 7, none⟩ = some (.int .i64 0) := blk_cellv (HS.out.at1) 7 rfl
    have hz563 : w70.frozen? ⟨g20, 7, none⟩ = false := blk_fz (HS.out.at1) 7
    go_wp2_with (first | ((with_reducible refine gate_store (t := 39) (p := 2) rfl ?_); refine store_event (w1 := (World.setCell (World.setCell (World.setCell (World.setCell (World.setCell (World.setCell (World.setCell (World.setCell w70 ⟨g20, 0, none⟩ (.int .i64 0)) ⟨g20, 1, none⟩ (.int .i64 0)) ⟨g20, 2, none⟩ (.int .i64 0)) ⟨g20, 3, none⟩ (.int .i64 0)) ⟨g20, 4, none⟩ (.int .i64 0)) ⟨g20, 5, none⟩ (.int .i64 0)) ⟨g20, 6, none⟩ (.int .i64 0)) ⟨g20, 7, none⟩ (.int .i64 0))) rfl (t := 39) (p := 2) rfl rfl ?hr ?_; (case hr => first | (go_simp; done) | (go_simp; rfl)); intro w564 hst; clear hc548 hz549 hc550 hz551 hc552 hz553 hc554 hz555 hc556 hz557 hc558 hz559 hc560 hz561 hc562 hz563; replace HS : Aside0 (Sep (fps []) w [b1 g17 a13 a14 a15 a16, b2 g20 0 0 0 0 0 0 0 0] w564) := ⟨by rw [hst]; exact HS.out.setAll (l1 := [b1 g17 a13 a14 a15 a16]) (l2 := []) [.int .i64 0, .int .i64 0, .int .i64 0, .int .i64 0, .int .i64 0, .int .i64 0, .int .i64 0, .int .i64 0] rfl⟩; clear hst; replace HS : Aside0 (Sep (fps []) w [b2 g20 0 0 0 0 0 0 0 0] w564) := ⟨HS.out.sub (.cons _ (.cons_cons _ .slnil))⟩))
    have hc565 : w564.cell? ⟨g20, 0, none⟩ = some (.int .i64 0) := blk_cellv (HS.out.at0) 0 rfl
    have hc566 : w564.cell? ⟨g20, 1, none⟩ = some (.int .i64 0) := blk_cellv (HS.out.at0) 1 rfl
    have hc567 : w564.cell? ⟨g20, 2, none⟩ = some (.int .i64 0) := blk_cellv (HS.out.at0) 2 rfl
    have hc568 : w564.cell? ⟨g20, 3, none⟩ = some (.int .i64 0) := blk_cellv (HS.out.at0) 3 rfl
    have hc569 : w564.cell? ⟨g20, 4, none⟩ = some (.int .i64 0) := blk_cellv (HS.out.at0) 4 rfl
    have hc570 : w564.cell? ⟨g20, 5, none⟩ = some (.int .i64 0) := blk_cellv (HS.out.at0) 5 rfl
    have hc571 : w564.cell? ⟨g20, 6, none⟩ = some (.int .i64 0) := blk_cellv (HS.out.at0) 6 rfl
    have hc572 : w564.cell? ⟨g20, 7, none⟩ = some (.int .i64 0) := blk_cellv (HS.out.at0) 7 rfl
    refine bodyPost_ret (v := .tuple #[.agg #[.int .i64 0, .int .i64 0, .int .i64 0, .int .i64 0, .int .i64 0, .int .i64 0, .int .i64 0, .int .i64 0], .int .i64 t68]) (by simp [results, Try.results32, go_sem, hc565, hc566, hc567, hc568, hc569, hc570, hc571, hc572]) rfl ?_
    rw [← some_eq H]
    exact ⟨(by first | rfl | (simp [IntKind.wrap_u32]; done)), HS.out.sub (.cons _ .slnil)⟩

set_option maxHeartbeats 30000000 in
set_option maxRecDepth 100000 in
theorem plan_New.calls (a596 : Int) (a597 : Int) (a598 : Int) (a599 : Int) (r : Int × Int × Int × Int) (w : World)   (HS : Aside0 (Sep (fps []) w [] w)) (H : Aside0 (plan_New.f a596 a597 a598 a599 = some r)) :
    Calls Try.prog 67 #[.agg #[.int .i64 a596, .int .i64 a597, .int .i64 a598, .int .i64 a599]] w fun e w' => ∃ (g613 : Nat), e = .returned (.pointer (some ⟨g613, 0, none⟩)) ∧ Sep (fps []) w [b5 g613 r.1 r.2.1 r.2.2.1 r.2.2.2 0 0 0 0 0 0 0 0 0 0 0 0 0] w' := by
  unfold plan_New.f at H
  go_enter Try.func67, Try.ntmps67
  go_wp2_with (first | ((with_reducible refine gate_dst (N := 1) rfl ?_); refine box_on ?hg (N := 1) ?hd (cs := #[.int .i64 a596, .int .i64 a597, .int .i64 a598, .int .i64 a599]) (t := 37) ?hr ?_; (case hd => rfl); (case hg => rfl); (case hr => first | (go_simp; done) | (go_simp; rfl)); intro g600 hg w601 hbox hb; replace HS : Aside0 (Sep (fps []) w [b1 g600 a596 a597 a598 a599] w601) := ⟨HS.out.box hg hbox hb⟩; clear hg hbox hb; have hc603 : w601.cell? ⟨g600, 0, none⟩ = some (.int .i64 a596) := blk_cellv (HS.out.at0) 0 rfl; have hc604 : w601.cell? ⟨g600, 1, none⟩ = some (.int .i64 a597) := blk_cellv (HS.out.at0) 1 rfl; have hc605 : w601.cell? ⟨g600, 2, none⟩ = some (.int .i64 a598) := blk_cellv (HS.out.at0) 2 rfl; have hc606 : w601.cell? ⟨g600, 3, none⟩ = some (.int .i64 a599) := blk_cellv (HS.out.at0) 3 rfl) | ((with_reducible refine gate_dst (N := 5) rfl ?_); refine box_on ?hg (N := 5) ?hd (cs := #[.int .i64 a596, .int .i64 a597, .int .i64 a598, .int .i64 a599, .int .u32 0, .int .i32 0, .int .u32 0, .int .i64 0, .int .i64 0, .int .i64 0, .int .i64 0, .int .i64 0, .int .i64 0, .int .i64 0, .int .i64 0, .int .i64 0, .int .i64 0]) (t := 94) ?hr ?_; (case hd => rfl); (case hg => rfl); (case hr => first | (go_simp; done) | (go_simp; rfl)); intro g607 hg w608 hbox hb; clear hc603 hc604 hc605 hc606; replace HS : Aside0 (Sep (fps []) w [b1 g600 a596 a597 a598 a599, b5 g607 a596 a597 a598 a599 0 0 0 0 0 0 0 0 0 0 0 0 0] w608) := ⟨HS.out.box hg hbox hb⟩; clear hg hbox hb; replace HS : Aside0 (Sep (fps []) w [b5 g607 a596 a597 a598 a599 0 0 0 0 0 0 0 0 0 0 0 0 0] w608) := ⟨HS.out.sub (.cons _ (.cons_cons _ .slnil))⟩))
  go_ret
  rw [← some_eq H]
  exact ⟨g607, (by first | rfl | (simp [IntKind.wrap_u32]; done)), HS.out⟩

set_option maxHeartbeats 30000000 in
set_option maxRecDepth 100000 in
theorem atomic_Int64_Add.calls (a647 : Int) (a648 : Int) (a649 : Int) (a650 : Int) (a651 : Int) (a652 : Int) (a653 : Int) (a654 : Int) (a655 : Int) (a656 : Int) (a657 : Int) (a658 : Int) (a659 : Int) (a660 : Int) (a661 : Int) (a662 : Int) (a663 : Int) (a664 : Int) (g646 : Nat) (r : Int × Int) (w : World)   (HS : Aside0 (Sep (fps [b5 g646 a647 a648 a649 a650 a651 a652 a653 a654 a655 a656 a657 a658 a659 a660 a661 a662 a663]) w [b5 g646 a647 a648 a649 a650 a651 a652 a653 a654 a655 a656 a657 a658 a659 a660 a661 a662 a663] w)) (H : Aside0 (atomic_Int64_Add.f a647 a648 a649 a650 a651 a652 a653 a654 a655 a656 a657 a658 a659 a660 a661 a662 a663 a664 = some r)) :
    Calls Try.prog 78 #[.pointer (some ⟨g646, 16, none⟩), .int .i64 a664] w fun e w' => e = .returned (.int .i64 r.1) ∧ Sep (fps [b5 g646 a647 a648 a649 a650 a651 a652 a653 a654 a655 a656 a657 a658 a659 a660 a661 a662 a663]) w [b5 g646 a647 a648 a649 a650 a651 a652 a653 a654 a655 a656 a657 a658 a659 a660 a661 a662 r.2] w' := by
  generalize (fps [b5 g646 a647 a648 a649 a650 a651 a652 a653 a654 a655 a656 a657 a658 a659 a660 a661 a662 a663]) = FF at HS ⊢
  unfold atomic_Int64_Add.f at H
  go_enter Try.func78, Try.ntmps78
  obtain ⟨y674, HA675, H⟩ := bind_some H
  have hc671 : w.cell? ⟨g646, 16, none⟩ = some (.int .i64 a663) := blk_cellv (HS.out.at0) 16 rfl
  have hz673 : w.frozen? ⟨g646, 16, none⟩ = false := blk_fz (HS.out.at0) 16
  have hn672 : (callFunc 81 #[.pointer (some ⟨g646, 16, none⟩), .int .i64 a664]).run Try.prog w = .ok (.value (.int .i64 y674)) ((World.setCell w ⟨g646, 16, none⟩ (.int .i64 y674))) := (some_eq HA675) ▸ run_call_add Try.func81 (by kernel_rfl) (by kernel_rfl) (by kernel_rfl) .i64 (by kernel_rfl) hc671 hz673 (by rfl)
  go_wp2_with (first | ((with_reducible refine gate_dst (N := 9) rfl ?_); refine run_on2 (by rfl) (w1 := (World.setCell w ⟨g646, 16, none⟩ (.int .i64 y674))) (v := .int .i64 y674) ?hr ?_; (case hr => first | (go_simp; done) | (go_simp; rfl)); intro w676 hst; clear hc671 hz673; have hq0 : Sep FF w [b5 g646 a647 a648 a649 a650 a651 a652 a653 a654 a655 a656 a657 a658 a659 a660 a661 a662 y674] (World.setCell w ⟨g646, 16, none⟩ (.int .i64 y674)) := (HS.out).set1 (l1 := []) (l2 := []) 16 (.int .i64 y674); replace HS : Aside0 (Sep FF w [b5 g646 a647 a648 a649 a650 a651 a652 a653 a654 a655 a656 a657 a658 a659 a660 a661 a662 y674] w676) := ⟨by rw [hst]; exact hq0⟩; clear hst hn672 hq0))
  go_ret
  rw [← some_eq H]
  exact ⟨(by first | rfl | (simp [IntKind.wrap_u32]; done)), HS.out⟩

set_option maxHeartbeats 30000000 in
set_option maxRecDepth 100000 in
theorem atomic_Bool_Load.calls (a704 : Int) (a705 : Int) (a706 : Int) (a707 : Int) (a708 : Int) (a709 : Int) (a710 : Int) (a711 : Int) (a712 : Int) (a713 : Int) (a714 : Int) (a715 : Int) (a716 : Int) (a717 : Int) (a718 : Int) (a719 : Int) (a720 : Int) (g703 : Nat) (r : Bool) (w : World)   (HS : Aside0 (Sep (fps [b5 g703 a704 a705 a706 a707 a708 a709 a710 a711 a712 a713 a714 a715 a716 a717 a718 a719 a720]) w [b5 g703 a704 a705 a706 a707 a708 a709 a710 a711 a712 a713 a714 a715 a716 a717 a718 a719 a720] w)) (H : Aside0 (atomic_Bool_Load.f a704 a705 a706 a707 a708 a709 a710 a711 a712 a713 a714 a715 a716 a717 a718 a719 a720 = some r)) :
    Calls Try.prog 82 #[.pointer (some ⟨g703, 4, none⟩)] w fun e w' => e = .returned (.bool r) ∧ Sep (fps [b5 g703 a704 a705 a706 a707 a708 a709 a710 a711 a712 a713 a714 a715 a716 a717 a718 a719 a720]) w [b5 g703 a704 a705 a706 a707 a708 a709 a710 a711 a712 a713 a714 a715 a716 a717 a718 a719 a720] w' := by
  generalize (fps [b5 g703 a704 a705 a706 a707 a708 a709 a710 a711 a712 a713 a714 a715 a716 a717 a718 a719 a720]) = FF at HS ⊢
  unfold atomic_Bool_Load.f at H
  go_enter Try.func82, Try.ntmps82
  have hc721 : w.cell? ⟨g703, 4, none⟩ = some (.int .u32 a708) := blk_cellv (HS.out.at0) 4 rfl
  have hn722 : (callFunc 84 #[.pointer (some ⟨g703, 4, none⟩)]).run Try.prog w = .ok (.value (.int .u32 a708)) w := run_call_load Try.func84 (by kernel_rfl) (by kernel_rfl) (by kernel_rfl) .u32 (by kernel_rfl) hc721
  go_wp2_with (first | ((with_reducible refine gate_dst (N := 6) rfl ?_); refine run_on2 (by rfl) (w1 := w) (v := .int .u32 a708) ?hr ?_; (case hr => first | (go_simp; done) | (go_simp; rfl)); intro w723 hst; clear hc721; replace HS : Aside0 (Sep FF w [b5 g703 a704 a705 a706 a707 a708 a709 a710 a711 a712 a713 a714 a715 a716 a717 a718 a719 a720] w723) := ⟨by rw [hst]; exact HS.out⟩; clear hst hn722))
  go_ret
  rw [← some_eq H]
  exact ⟨(by first | rfl | (simp [IntKind.wrap_u32]; done)), HS.out⟩

set_option maxHeartbeats 30000000 in
set_option maxRecDepth 100000 in
theorem plan_Sheet_Numbers_1.calls (k : Nat) (a753 : Int) (a754 : Int) (a755 : Int) (a756 : Int) (a757 : Int) (a758 : Int) (a759 : Int) (a760 : Int) (a761 : Int) (a762 : Int) (a763 : Int) (a764 : Int) (a765 : Int) (a766 : Int) (a767 : Int) (a768 : Int) (a769 : Int) (g750 : Nat) (g752 : Nat) (r : Int × Int × Int × Int × Int × Int × Int × Int × Int) (w : World)   (HS : Aside0 (Sep (fps [b6 g750 g752, b5 g752 a753 a754 a755 a756 a757 a758 a759 a760 a761 a762 a763 a764 a765 a766 a767 a768 a769]) w [b6 g750 g752, b5 g752 a753 a754 a755 a756 a757 a758 a759 a760 a761 a762 a763 a764 a765 a766 a767 a768 a769] w)) (H : Aside0 (plan_Sheet_Numbers_1.f k a753 a754 a755 a756 a757 a758 a759 a760 a761 a762 a763 a764 a765 a766 a767 a768 a769 = some r)) :
    Calls Try.prog 80 #[.pointer (some ⟨g750, 0, none⟩)] w fun e w' => e = .returned (.tuple #[]) ∧ Sep (fps [b6 g750 g752, b5 g752 a753 a754 a755 a756 a757 a758 a759 a760 a761 a762 a763 a764 a765 a766 a767 a768 a769]) w [b6 g750 g752, b5 g752 a753 a754 a755 a756 a757 a758 a759 r.1 r.2.1 r.2.2.1 r.2.2.2.1 r.2.2.2.2.1 r.2.2.2.2.2.1 r.2.2.2.2.2.2.1 r.2.2.2.2.2.2.2.1 r.2.2.2.2.2.2.2.2 a769] w' := by
  generalize (fps [b6 g750 g752, b5 g752 a753 a754 a755 a756 a757 a758 a759 a760 a761 a762 a763 a764 a765 a766 a767 a768 a769]) = FF at HS ⊢
  unfold plan_Sheet_Numbers_1.f at H
  go_enter Try.func80, Try.ntmps80
  go_wp2_with fail
  refine start_ (n := 16) (S := (fun w' => w'.cell? ⟨g750, 0, none⟩ = some (.pointer (some ⟨g752, 0, none⟩)) ∧ w'.cell? ⟨g752, 0, none⟩ = some (.int .i64 a753) ∧ w'.cell? ⟨g752, 1, none⟩ = some (.int .i64 a754) ∧ w'.cell? ⟨g752, 2, none⟩ = some (.int .i64 a755) ∧ w'.cell? ⟨g752, 3, none⟩ = some (.int .i64 a756))) (ds := []) #[false, false, false, false, false, false, false, false, false, false, false, false, false, false, false, false] (by kernel_rfl) rfl rfl (⟨blk_cellv ((HS.out.drew).at0) 0 rfl, blk_cellv ((HS.out.drew).at1) 0 rfl, blk_cellv ((HS.out.drew).at1) 1 rfl, blk_cellv ((HS.out.drew).at1) 2 rfl, blk_cellv ((HS.out.drew).at1) 3 rfl⟩) (fun hHeld => ?_)
  have HS_ := Aside0.mk HS.out.drew
  clear HS
  generalize World.drew _ = w796 at HS_ hHeld ⊢
  have HS := HS_
  clear HS_
  refine take_ (i := 0) (N := some 2) (v := ?_) (a' := ?_) #[true, false, false, false, false, false, false, false, false, false, false, false, false, false, false, false] rfl rfl (by kernel_rfl) (fun _ _ _ h => h) (Or.inl ⟨by rfl, ?_⟩) hHeld ?_ ?_
  rotate_left
  · rintro w' hS'
    obtain ⟨s0, s1, s2, s3, s4⟩ := hS'
    go_simp
    with_reducible rfl
  rotate_left
  · simp only [Act.put, List.setIfInBounds_toArray, List.set_cons_zero, List.set_cons_succ, i64_w, i32_w]
    rfl
  refine take_ (i := 1) (N := some 3) (v := ?_) (a' := ?_) #[true, true, false, false, false, false, false, false, false, false, false, false, false, false, false, false] rfl rfl (by kernel_rfl) (fun _ _ _ h => h) (Or.inl ⟨by rfl, ?_⟩) hHeld ?_ ?_
  rotate_left
  · rintro w' hS'
    obtain ⟨s0, s1, s2, s3, s4⟩ := hS'
    go_simp
    with_reducible rfl
  rotate_left
  · simp only [Act.put, List.setIfInBounds_toArray, List.set_cons_zero, List.set_cons_succ, i64_w, i32_w]
    rfl
  refine take_ (i := 2) (N := some 4) (v := ?_) (a' := ?_) #[true, true, true, false, false, false, false, false, false, false, false, false, false, false, false, false] rfl rfl (by kernel_rfl) (fun _ _ _ h => h) (Or.inl ⟨by rfl, ?_⟩) hHeld ?_ ?_
  rotate_left
  · rintro w' hS'
    obtain ⟨s0, s1, s2, s3, s4⟩ := hS'
    go_simp
    with_reducible rfl
  rotate_left
  · simp only [Act.put, List.setIfInBounds_toArray, List.set_cons_zero, List.set_cons_succ, i64_w, i32_w]
    rfl
  refine pure_ (i := 3) (N := some 5) (v := ?_) (a' := ?_) #[true, true, true, true, false, false, false, false, false, false, false, false, false, false, false, false] rfl rfl (by kernel_rfl) (fun _ _ _ h => h) (Or.inl ⟨by rfl, ?_⟩) ?_ ?_
  rotate_left
  · intro w'
    go_simp
    with_reducible rfl
  rotate_left
  · simp only [Act.put, List.setIfInBounds_toArray, List.set_cons_zero, List.set_cons_succ, i64_w, i32_w]
    rfl
  refine pure_ (i := 4) (N := some 6) (v := ?_) (a' := ?_) #[true, true, true, true, true, false, false, false, false, false, false, false, false, false, false, false] rfl rfl (by kernel_rfl) (fun _ _ _ h => h) (Or.inl ⟨by rfl, ?_⟩) ?_ ?_
  rotate_left
  · intro w'
    go_simp
    with_reducible rfl
  rotate_left
  · simp only [Act.put, List.setIfInBounds_toArray, List.set_cons_zero, List.set_cons_succ, i64_w, i32_w]
    rfl
  refine take_ (i := 5) (N := some 7) (v := ?_) (a' := ?_) #[true, true, true, true, true, true, false, false, false, false, false, false, false, false, false, false] rfl rfl (by kernel_rfl) (fun _ _ _ h => h) (Or.inl ⟨by rfl, ?_⟩) hHeld ?_ ?_
  rotate_left
  · rintro w' hS'
    obtain ⟨s0, s1, s2, s3, s4⟩ := hS'
    go_simp
    with_reducible rfl
  rotate_left
  · simp only [Act.put, List.setIfInBounds_toArray, List.set_cons_zero, List.set_cons_succ, i64_w, i32_w]
    rfl
  refine one_ (i := 6) (N := some 8) #[true, true, true, true, true, true, true, false, false, false, false, false, false, false, false, false] rfl rfl (by kernel_rfl) (by decide) (fun K hK => ?_)
  obtain ⟨t797, HA798, H⟩ := bind_some H
  refine goes_ Try.func32 (by kernel_rfl) rfl #[.agg #[.int .i64 a753, .int .i64 a754, .int .i64 a755, .int .i64 a756]] (by rfl) rfl rfl (by (try simp only [List.map_toArray, List.map_cons, List.map_nil]); first | done | rfl) ?_
  refine (plan_Of.calls _ a753 a754 a755 a756 t797 _ ⟨Sep.start _⟩ HA798).mono ?_
  rintro e_ w799 ⟨rfl, hS⟩
  replace HS : Aside0 (Sep FF w [b6 g750 g752, b5 g752 a753 a754 a755 a756 a757 a758 a759 a760 a761 a762 a763 a764 a765 a766 a767 a768 a769] w799) := ⟨HS.out.call hS⟩
  clear hS
  refine ⟨_, rfl, ?_⟩
  refine hK.out _ _ (⟨blk_cellv (HS.out.at0) 0 rfl, blk_cellv (HS.out.at1) 0 rfl, blk_cellv (HS.out.at1) 1 rfl, blk_cellv (HS.out.at1) 2 rfl, blk_cellv (HS.out.at1) 3 rfl⟩) (fun hHeld => ?_)
  clear hK K
  refine norm_ (a' := ?_) ?_ ?_
  rotate_left
  · show Act.put _ (some 8) _ = _
    simp only [Act.put, List.setIfInBounds_toArray, List.set_cons_zero, List.set_cons_succ, i64_w, i32_w]
    rfl
  refine pure_ (i := 7) (N := some 1) (v := ?_) (a' := ?_) #[true, true, true, true, true, true, true, true, false, false, false, false, false, false, false, false] rfl rfl (by kernel_rfl) (fun _ _ _ h => h) (Or.inl ⟨by rfl, ?_⟩) ?_ ?_
  rotate_left
  · intro w'
    go_simp
    with_reducible rfl
  rotate_left
  · simp only [Act.put, List.setIfInBounds_toArray, List.set_cons_zero, List.set_cons_succ, i64_w, i32_w]
    rfl
  refine pure_ (i := 8) (N := some 9) (v := ?_) (a' := ?_) #[true, true, true, true, true, true, true, true, true, false, false, false, false, false, false, false] rfl rfl (by kernel_rfl) (fun _ _ _ h => h) (Or.inl ⟨by rfl, ?_⟩) ?_ ?_
  rotate_left
  · intro w'
    go_simp
    with_reducible rfl
  rotate_left
  · simp only [Act.put, List.setIfInBounds_toArray, List.set_cons_zero, List.set_cons_succ, i64_w, i32_w]
    rfl
  refine pure_ (i := 9) (N := some 10) (v := ?_) (a' := ?_) #[true, true, true, true, true, true, true, true, true, true, false, false, false, false, false, false] rfl rfl (by kernel_rfl) (fun _ _ _ h => h) (Or.inl ⟨by rfl, ?_⟩) ?_ ?_
  rotate_left
  · intro w'
    go_simp
    with_reducible rfl
  rotate_left
  · simp only [Act.put, List.setIfInBounds_toArray, List.set_cons_zero, List.set_cons_succ, i64_w, i32_w]
    rfl
  refine pure_ (i := 10) (N := some 11) (v := ?_) (a' := ?_) #[true, true, true, true, true, true, true, true, true, true, true, false, false, false, false, false] rfl rfl (by kernel_rfl) (fun _ _ _ h => h) (Or.inl ⟨by rfl, ?_⟩) ?_ ?_
  rotate_left
  · intro w'
    go_simp
    with_reducible rfl
  rotate_left
  · simp only [Act.put, List.setIfInBounds_toArray, List.set_cons_zero, List.set_cons_succ, i64_w, i32_w]
    rfl
  refine pure_ (i := 11) (N := some 12) (v := ?_) (a' := ?_) #[true, true, true, true, true, true, true, true, true, true, true, true, false, false, false, false] rfl rfl (by kernel_rfl) (fun _ _ _ h => h) (Or.inl ⟨by rfl, ?_⟩) ?_ ?_
  rotate_left
  · intro w'
    go_simp
    with_reducible rfl
  rotate_left
  · simp only [Act.put, List.setIfInBounds_toArray, List.set_cons_zero, List.set_cons_succ, i64_w, i32_w]
    rfl
  refine one_ (i := 12) (N := none) #[true, true, true, true, true, true, true, true, true, true, true, true, true, false, false, false] rfl rfl (by kernel_rfl) (by decide) (fun K hK => ?_)
  have hc801 := blk_cellv (v := .int .i64 a760) (HS.out.at1) 7 rfl
  have hz802 := blk_fz (HS.out.at1) 7
  have hc803 := blk_cellv (v := .int .i64 a761) (HS.out.at1) 8 rfl
  have hz804 := blk_fz (HS.out.at1) 8
  have hc805 := blk_cellv (v := .int .i64 a762) (HS.out.at1) 9 rfl
  have hz806 := blk_fz (HS.out.at1) 9
  have hc807 := blk_cellv (v := .int .i64 a763) (HS.out.at1) 10 rfl
  have hz808 := blk_fz (HS.out.at1) 10
  have hc809 := blk_cellv (v := .int .i64 a764) (HS.out.at1) 11 rfl
  have hz810 := blk_fz (HS.out.at1) 11
  have hc811 := blk_cellv (v := .int .i64 a765) (HS.out.at1) 12 rfl
  have hz812 := blk_fz (HS.out.at1) 12
  have hc813 := blk_cellv (v := .int .i64 a766) (HS.out.at1) 13 rfl
  have hz814 := blk_fz (HS.out.at1) 13
  have hc815 := blk_cellv (v := .int .i64 a767) (HS.out.at1) 14 rfl
  have hz816 := blk_fz (HS.out.at1) 14
  refine store_step (w1 := (World.setCell (World.setCell (World.setCell (World.setCell (World.setCell (World.setCell (World.setCell (World.setCell w799 ⟨g752, 7, none⟩ (.int .i64 t797.1)) ⟨g752, 8, none⟩ (.int .i64 t797.2.1)) ⟨g752, 9, none⟩ (.int .i64 t797.2.2.1)) ⟨g752, 10, none⟩ (.int .i64 t797.2.2.2.1)) ⟨g752, 11, none⟩ (.int .i64 t797.2.2.2.2.1)) ⟨g752, 12, none⟩ (.int .i64 t797.2.2.2.2.2.1)) ⟨g752, 13, none⟩ (.int .i64 t797.2.2.2.2.2.2.1)) ⟨g752, 14, none⟩ (.int .i64 t797.2.2.2.2.2.2.2.1))) (by rfl) rfl ?hr ?_
  case hr => first | (go_simp; done) | (go_simp; rfl)
  clear hc801 hz802 hc803 hz804 hc805 hz806 hc807 hz808 hc809 hz810 hc811 hz812 hc813 hz814 hc815 hz816
  intro w800 hst
  have hq0 : Sep FF w [b6 g750 g752, b5 g752 a753 a754 a755 a756 a757 a758 a759 t797.1 a761 a762 a763 a764 a765 a766 a767 a768 a769] (World.setCell w799 ⟨g752, 7, none⟩ (.int .i64 t797.1)) := (HS.out).set1 (l1 := [b6 g750 g752]) (l2 := []) 7 (.int .i64 t797.1)
  have hq1 : Sep FF w [b6 g750 g752, b5 g752 a753 a754 a755 a756 a757 a758 a759 t797.1 t797.2.1 a762 a763 a764 a765 a766 a767 a768 a769] (World.setCell (World.setCell w799 ⟨g752, 7, none⟩ (.int .i64 t797.1)) ⟨g752, 8, none⟩ (.int .i64 t797.2.1)) := (hq0).set1 (l1 := [b6 g750 g752]) (l2 := []) 8 (.int .i64 t797.2.1)
  have hq2 : Sep FF w [b6 g750 g752, b5 g752 a753 a754 a755 a756 a757 a758 a759 t797.1 t797.2.1 t797.2.2.1 a763 a764 a765 a766 a767 a768 a769] (World.setCell (World.setCell (World.setCell w799 ⟨g752, 7, none⟩ (.int .i64 t797.1)) ⟨g752, 8, none⟩ (.int .i64 t797.2.1)) ⟨g752, 9, none⟩ (.int .i64 t797.2.2.1)) := (hq1).set1 (l1 := [b6 g750 g752]) (l2 := []) 9 (.int .i64 t797.2.2.1)
  have hq3 : Sep FF w [b6 g750 g752, b5 g752 a753 a754 a755 a756 a757 a758 a759 t797.1 t797.2.1 t797.2.2.1 t797.2.2.2.1 a764 a765 a766 a767 a768 a769] (World.setCell (World.setCell (World.setCell (World.setCell w799 ⟨g752, 7, none⟩ (.int .i64 t797.1)) ⟨g752, 8, none⟩ (.int .i64 t797.2.1)) ⟨g752, 9, none⟩ (.int .i64 t797.2.2.1)) ⟨g752, 10, none⟩ (.int .i64 t797.2.2.2.1)) := (hq2).set1 (l1 := [b6 g750 g752]) (l2 := []) 10 (.int .i64 t797.2.2.2.1)
  have hq4 : Sep FF w [b6 g750 g752, b5 g752 a753 a754 a755 a756 a757 a758 a759 t797.1 t797.2.1 t797.2.2.1 t797.2.2.2.1 t797.2.2.2.2.1 a765 a766 a767 a768 a769] (World.setCell (World.setCell (World.setCell (World.setCell (World.setCell w799 ⟨g752, 7, none⟩ (.int .i64 t797.1)) ⟨g752, 8, none⟩ (.int .i64 t797.2.1)) ⟨g752, 9, none⟩ (.int .i64 t797.2.2.1)) ⟨g752, 10, none⟩ (.int .i64 t797.2.2.2.1)) ⟨g752, 11, none⟩ (.int .i64 t797.2.2.2.2.1)) := (hq3).set1 (l1 := [b6 g750 g752]) (l2 := []) 11 (.int .i64 t797.2.2.2.2.1)
  have hq5 : Sep FF w [b6 g750 g752, b5 g752 a753 a754 a755 a756 a757 a758 a759 t797.1 t797.2.1 t797.2.2.1 t797.2.2.2.1 t797.2.2.2.2.1 t797.2.2.2.2.2.1 a766 a767 a768 a769] (World.setCell (World.setCell (World.setCell (World.setCell (World.setCell (World.setCell w799 ⟨g752, 7, none⟩ (.int .i64 t797.1)) ⟨g752, 8, none⟩ (.int .i64 t797.2.1)) ⟨g752, 9, none⟩ (.int .i64 t797.2.2.1)) ⟨g752, 10, none⟩ (.int .i64 t797.2.2.2.1)) ⟨g752, 11, none⟩ (.int .i64 t797.2.2.2.2.1)) ⟨g752, 12, none⟩ (.int .i64 t797.2.2.2.2.2.1)) := (hq4).set1 (l1 := [b6 g750 g752]) (l2 := []) 12 (.int .i64 t797.2.2.2.2.2.1)
  have hq6 : Sep FF w [b6 g750 g752, b5 g752 a753 a754 a755 a756 a757 a758 a759 t797.1 t797.2.1 t797.2.2.1 t797.2.2.2.1 t797.2.2.2.2.1 t797.2.2.2.2.2.1 t797.2.2.2.2.2.2.1 a767 a768 a769] (World.setCell (World.setCell (World.setCell (World.setCell (World.setCell (World.setCell (World.setCell w799 ⟨g752, 7, none⟩ (.int .i64 t797.1)) ⟨g752, 8, none⟩ (.int .i64 t797.2.1)) ⟨g752, 9, none⟩ (.int .i64 t797.2.2.1)) ⟨g752, 10, none⟩ (.int .i64 t797.2.2.2.1)) ⟨g752, 11, none⟩ (.int .i64 t797.2.2.2.2.1)) ⟨g752, 12, none⟩ (.int .i64 t797.2.2.2.2.2.1)) ⟨g752, 13, none⟩ (.int .i64 t797.2.2.2.2.2.2.1)) := (hq5).set1 (l1 := [b6 g750 g752]) (l2 := []) 13 (.int .i64 t797.2.2.2.2.2.2.1)
  have hq7 : Sep FF w [b6 g750 g752, b5 g752 a753 a754 a755 a756 a757 a758 a759 t797.1 t797.2.1 t797.2.2.1 t797.2.2.2.1 t797.2.2.2.2.1 t797.2.2.2.2.2.1 t797.2.2.2.2.2.2.1 t797.2.2.2.2.2.2.2.1 a768 a769] (World.setCell (World.setCell (World.setCell (World.setCell (World.setCell (World.setCell (World.setCell (World.setCell w799 ⟨g752, 7, none⟩ (.int .i64 t797.1)) ⟨g752, 8, none⟩ (.int .i64 t797.2.1)) ⟨g752, 9, none⟩ (.int .i64 t797.2.2.1)) ⟨g752, 10, none⟩ (.int .i64 t797.2.2.2.1)) ⟨g752, 11, none⟩ (.int .i64 t797.2.2.2.2.1)) ⟨g752, 12, none⟩ (.int .i64 t797.2.2.2.2.2.1)) ⟨g752, 13, none⟩ (.int .i64 t797.2.2.2.2.2.2.1)) ⟨g752, 14, none⟩ (.int .i64 t797.2.2.2.2.2.2.2.1)) := (hq6).set1 (l1 := [b6 g750 g752]) (l2 := []) 14 (.int .i64 t797.2.2.2.2.2.2.2.1)
  have HS_ : Aside0 (Sep FF w [b6 g750 g752, b5 g752 a753 a754 a755 a756 a757 a758 a759 t797.1 t797.2.1 t797.2.2.1 t797.2.2.2.1 t797.2.2.2.2.1 t797.2.2.2.2.2.1 t797.2.2.2.2.2.2.1 t797.2.2.2.2.2.2.2.1 a768 a769] w800) := ⟨by rw [hst]; exact hq7⟩
  clear hq0 hq1 hq2 hq3 hq4 hq5 hq6 hq7
  clear HS hst
  have HS := HS_
  clear HS_
  refine hK.out _ _ (⟨blk_cellv (HS.out.at0) 0 rfl, blk_cellv (HS.out.at1) 0 rfl, blk_cellv (HS.out.at1) 1 rfl, blk_cellv (HS.out.at1) 2 rfl, blk_cellv (HS.out.at1) 3 rfl⟩) (fun hHeld => ?_)
  clear hK K
  refine pure_ (i := 13) (N := some 13) (v := ?_) (a' := ?_) #[true, true, true, true, true, true, true, true, true, true, true, true, true, true, false, false] rfl rfl (by kernel_rfl) (fun _ _ _ h => h) (Or.inl ⟨by rfl, ?_⟩) ?_ ?_
  rotate_left
  · intro w'
    go_simp
    with_reducible rfl
  rotate_left
  · simp only [Act.put, List.setIfInBounds_toArray, List.set_cons_zero, List.set_cons_succ, i64_w, i32_w]
    rfl
  refine pure_ (i := 14) (N := some 14) (v := ?_) (a' := ?_) #[true, true, true, true, true, true, true, true, true, true, true, true, true, true, true, false] rfl rfl (by kernel_rfl) (fun _ _ _ h => h) (Or.inl ⟨by rfl, ?_⟩) ?_ ?_
  rotate_left
  · intro w'
    go_simp
    with_reducible rfl
  rotate_left
  · simp only [Act.put, List.setIfInBounds_toArray, List.set_cons_zero, List.set_cons_succ, i64_w, i32_w]
    rfl
  refine one_ (i := 15) (N := none) #[true, true, true, true, true, true, true, true, true, true, true, true, true, true, true, true] rfl rfl (by kernel_rfl) (by decide) (fun K hK => ?_)
  have hc818 := blk_cellv (v := .int .i64 a768) (HS.out.at1) 15 rfl
  have hz819 := blk_fz (HS.out.at1) 15
  refine store_step (w1 := (World.setCell w800 ⟨g752, 15, none⟩ (.int .i64 t797.2.2.2.2.2.2.2.2))) (by rfl) rfl ?hr ?_
  case hr => first | (go_simp; done) | (go_simp; rfl)
  clear hc818 hz819
  intro w817 hst
  have hq0 : Sep FF w [b6 g750 g752, b5 g752 a753 a754 a755 a756 a757 a758 a759 t797.1 t797.2.1 t797.2.2.1 t797.2.2.2.1 t797.2.2.2.2.1 t797.2.2.2.2.2.1 t797.2.2.2.2.2.2.1 t797.2.2.2.2.2.2.2.1 t797.2.2.2.2.2.2.2.2 a769] (World.setCell w800 ⟨g752, 15, none⟩ (.int .i64 t797.2.2.2.2.2.2.2.2)) := (HS.out).set1 (l1 := [b6 g750 g752]) (l2 := []) 15 (.int .i64 t797.2.2.2.2.2.2.2.2)
  have HS_ : Aside0 (Sep FF w [b6 g750 g752, b5 g752 a753 a754 a755 a756 a757 a758 a759 t797.1 t797.2.1 t797.2.2.1 t797.2.2.2.1 t797.2.2.2.2.1 t797.2.2.2.2.2.1 t797.2.2.2.2.2.2.1 t797.2.2.2.2.2.2.2.1 t797.2.2.2.2.2.2.2.2 a769] w817) := ⟨by rw [hst]; exact hq0⟩
  clear hq0
  clear HS hst
  have HS := HS_
  clear HS_
  refine hK.out _ _ (⟨blk_cellv (HS.out.at0) 0 rfl, blk_cellv (HS.out.at1) 0 rfl, blk_cellv (HS.out.at1) 1 rfl, blk_cellv (HS.out.at1) 2 rfl, blk_cellv (HS.out.at1) 3 rfl⟩) (fun hHeld => ?_)
  clear hK K
  refine done_ (by kernel_rfl) ?_
  go_wp2_with fail
  first | go_end0 | refine bodyPost_ret (results_none rfl _ _ _) rfl ?_
  rw [← some_eq H]
  exact ⟨rfl, HS.out⟩

theorem disable (w : World) : (callFunc 92 #[]).run Try.prog w = .ok (.value (.tuple #[])) w := run_call_mark0 Try.func92 (by kernel_rfl) (by kernel_rfl) (by kernel_rfl) .disable (by kernel_rfl) w
theorem enable (w : World) : (callFunc 94 #[]).run Try.prog w = .ok (.value (.tuple #[])) w := run_call_mark0 Try.func94 (by kernel_rfl) (by kernel_rfl) (by kernel_rfl) .enable (by kernel_rfl) w
theorem acquire (a : Addr) (w : World) : (callFunc 95 #[.pointer (some a)]).run Try.prog w = .ok (.value (.tuple #[])) w := run_call_marked Try.func95 (by kernel_rfl) (by kernel_rfl) (by kernel_rfl) .acquire (by kernel_rfl) a w
theorem releaseMerge (a : Addr) (w : World) : (callFunc 97 #[.pointer (some a)]).run Try.prog w = .ok (.value (.tuple #[])) w := run_call_marked Try.func97 (by kernel_rfl) (by kernel_rfl) (by kernel_rfl) .releaseMerge (by kernel_rfl) a w
/-- '(*sync/atomic.Bool).Store(true)', entered as a deferred call: the cell holds 1. -/
theorem store_deferred (a : Addr) (x : Value) (u : FrameMode) (w : World) (hc : w.cell? a = some x) (hz : w.frozen? a = false) :
    CallsD Try.prog 87 #[.pointer (some a), .bool true] u w fun e u' w' => u' = u ∧ (e = .returned (.tuple #[]) ∧ w' = w.drew.setCell a (.int .u32 1)) := by
  have hc' : w.drew.cell? a = some x := by go_simp
  have hz' : w.drew.frozen? a = false := by go_simp
  have hst := run_call_store (P := Try.prog) Try.func90 (by kernel_rfl) (by kernel_rfl) (by kernel_rfl) (by kernel_rfl) (k := .u32) (y := 1) hc' hz'
  go_enter_d Try.func87, Try.ntmps87
  go_wp2
  go_region_calls
  all_goals (go_end0; exact ⟨rfl, rfl⟩)
set_option maxRecDepth 100000 in
set_option maxHeartbeats 1600000 in
/-- '(*sync.Mutex).Unlock', entered as a deferred call, the lock held and nobody waiting (state 1): state 0. -/
theorem unlock_deferred (a : Addr) (u : FrameMode) (w : World) (hc : w.cell? a = some (.int .i32 1)) (hz : w.frozen? a = false) :
    CallsD Try.prog 86 #[.pointer (some a)] u w fun e u' w' => u' = u ∧ (e = .returned (.tuple #[]) ∧ w' = w.setCell a (.int .i32 0)) := by
  have hd := disable
  have he := enable
  have hr := releaseMerge
  have hadd := run_call_add (P := Try.prog) Try.func98 (by kernel_rfl) (by kernel_rfl) (by kernel_rfl) .i32 (by kernel_rfl) (y := -1) (s := 0) hc hz (by simp [go_sem]; rfl)
  have hcv := run_convert_to_unsafe (P := Try.prog) (src := 108) (dst := 112) Try.underlying108 Try.underlying112 (by kernel_rfl) hc
  go_enter_d Try.func86, Try.ntmps86
  go_wp2
  go_end0
  go_wp2
  go_end0
  exact ⟨rfl, rfl⟩
set_option maxRecDepth 100000 in
set_option maxHeartbeats 1600000 in
/-- '(*sync.Mutex).Lock', the lock free (state 0): state 1. -/
theorem lock_free (a : Addr) (w : World) (hc : w.cell? a = some (.int .i32 0)) (hz : w.frozen? a = false) :
    Calls Try.prog 85 #[.pointer (some a)] w fun e w' => e = .returned (.tuple #[]) ∧ w' = w.setCell a (.int .i32 1) := by
  have hd := disable
  have he := enable
  have ha := acquire
  have hcas := run_call_cas_hit (P := Try.prog) Try.func93 (by kernel_rfl) (by kernel_rfl) (by kernel_rfl) .i32 (by kernel_rfl) (y := 1) hc hz
  have hc' : (w.setCell a (.int .i32 1)).cell? a = some (.int .i32 1) := World.cell?_setCell_same w a _ hc
  have hcv := run_convert_to_unsafe (P := Try.prog) (src := 108) (dst := 112) Try.underlying108 Try.underlying112 (by kernel_rfl) hc'
  go_enter Try.func85, Try.ntmps85
  go_wp2
  first | go_end0 | (simp only [Exit.inBlock, Exit.then]; refine bodyPost_ret (results_none rfl _ _ _) rfl ?_) | refine bodyPost_ret (results_none rfl _ _ _) rfl ?_
  go_wp2
  go_end0
  exact ⟨rfl, rfl⟩

set_option maxHeartbeats 30000000 in
set_option maxRecDepth 100000 in
theorem sync_Once_doSlow_F80.calls (k : Nat) (a730 : Int) (a731 : Int) (a732 : Int) (a733 : Int) (a734 : Int) (a735 : Int) (a736 : Int) (a737 : Int) (a738 : Int) (a739 : Int) (a740 : Int) (a741 : Int) (a742 : Int) (a743 : Int) (a744 : Int) (a745 : Int) (a746 : Int) (g729 : Nat) (g748 : Nat) (r : Int × Int × Int × Int × Int × Int × Int × Int × Int × Int) (w : World) (HS : Aside0 (Sep (fps [b5 g729 a730 a731 a732 a733 a734 a735 a736 a737 a738 a739 a740 a741 a742 a743 a744 a745 a746, b6 g748 g729]) w [b5 g729 a730 a731 a732 a733 a734 a735 a736 a737 a738 a739 a740 a741 a742 a743 a744 a745 a746, b6 g748 g729] w)) (H : Aside0 (sync_Once_doSlow_F80.f k a730 a731 a732 a733 a734 a735 a736 a737 a738 a739 a740 a741 a742 a743 a744 a745 a746 = some r)) :
    Calls Try.prog 83 #[.pointer (some ⟨g729, 4, none⟩), .func (.func 80) #[] #[.pointer (some ⟨g748, 0, none⟩)]] w fun e w' => e = .returned (.tuple #[]) ∧ Sep (fps [b5 g729 a730 a731 a732 a733 a734 a735 a736 a737 a738 a739 a740 a741 a742 a743 a744 a745 a746, b6 g748 g729]) w [b5 g729 a730 a731 a732 a733 r.1 a735 a736 r.2.1 r.2.2.1 r.2.2.2.1 r.2.2.2.2.1 r.2.2.2.2.2.1 r.2.2.2.2.2.2.1 r.2.2.2.2.2.2.2.1 r.2.2.2.2.2.2.2.2.1 r.2.2.2.2.2.2.2.2.2 a746, b6 g748 g729] w' := by
  unfold sync_Once_doSlow_F80.f at H
  by_cases hd : a734 = 0
  · replace H := if_yes hd H
    by_cases hs : a735 = 0
    · replace H := if_yes hs H
      obtain ⟨t, HA, H2⟩ := bind_some H
      subst hd
      subst hs
      have f0 : w.frozen? ⟨g729, 4, none⟩ = false := blk_fz HS.out.at0 4
      have f1 : w.frozen? ⟨g729, 5, none⟩ = false := blk_fz HS.out.at0 5
      have c0 : w.cell? ⟨g729, 4, none⟩ = some (.int .u32 0) := blk_cellv HS.out.at0 4 rfl
      have c1 : w.cell? ⟨g729, 5, none⟩ = some (.int .i32 0) := blk_cellv HS.out.at0 5 rfl
      have HS1 : Sep (fps [b5 g729 a730 a731 a732 a733 0 0 a736 a737 a738 a739 a740 a741 a742 a743 a744 a745 a746, b6 g748 g729]) w [b5 g729 a730 a731 a732 a733 0 1 a736 a737 a738 a739 a740 a741 a742 a743 a744 a745 a746, b6 g748 g729] (w.setCell ⟨g729, 5, none⟩ (.int .i32 1)) := HS.out.set1 (l1 := []) (l2 := [b6 g748 g729]) 5 (.int .i32 1)
      have HP : Sep (fps [b5 g729 a730 a731 a732 a733 0 0 a736 a737 a738 a739 a740 a741 a742 a743 a744 a745 a746, b6 g748 g729]) w [b6 g748 g729, b5 g729 a730 a731 a732 a733 0 1 a736 a737 a738 a739 a740 a741 a742 a743 a744 a745 a746] (w.setCell ⟨g729, 5, none⟩ (.int .i32 1)) := HS1.perm (.swap _ _ _)
      have hl := run_call_load (P := Try.prog) Try.func84 (by kernel_rfl) (by kernel_rfl) (by kernel_rfl) .u32 (by kernel_rfl) (w := w.setCell ⟨g729, 5, none⟩ (.int .i32 1)) (a := ⟨g729, 4, none⟩) (x := 0) (blk_cellv HS1.at0 4 rfl)
      have hnot : ∀ (x : Bool) (w : World), (Op.unary .not (.bool x)).run Try.prog w = .ok (.bool (!x)) w := fun _ _ => rfl
      go_enter_defers Try.func83, Try.ntmps83
      go_wp2_with (go_at_call 85; refine (lock_free ⟨g729, 5, none⟩ _ (by go_simp) (by go_simp)).mono ?_; rintro e w' ⟨rfl, rfl⟩)
      go_wp2_with (first | (go_at_call 82; go_in) | (go_at_call 80; refine (plan_Sheet_Numbers_1.calls _ a730 a731 a732 a733 0 1 a736 a737 a738 a739 a740 a741 a742 a743 a744 a745 a746 g748 g729 t _ ⟨HP.begin (rest := [])⟩ HA).mono ?_; rintro e w' ⟨rfl, hS⟩))
      have HS2 : Sep (fps [b5 g729 a730 a731 a732 a733 0 0 a736 a737 a738 a739 a740 a741 a742 a743 a744 a745 a746, b6 g748 g729]) w [b6 g748 g729, b5 g729 a730 a731 a732 a733 0 1 a736 t.1 t.2.1 t.2.2.1 t.2.2.2.1 t.2.2.2.2.1 t.2.2.2.2.2.1 t.2.2.2.2.2.2.1 t.2.2.2.2.2.2.2.1 t.2.2.2.2.2.2.2.2 a746] w' := HP.call (rest := []) hS
      refine leaves_cons (f := 87) (args := #[.pointer (some ⟨g729, 4, none⟩), .bool true]) (by simp) (by simp [go_sem]) ?_
      refine (store_deferred ⟨g729, 4, none⟩ (.int .u32 0) .returning _ (blk_cellv HS2.at1 4 rfl) (blk_fz HS2.at1 4)).mono ?_
      rintro e u' w'' ⟨rfl, rfl, rfl⟩
      have HS3 : Sep (fps [b5 g729 a730 a731 a732 a733 0 0 a736 a737 a738 a739 a740 a741 a742 a743 a744 a745 a746, b6 g748 g729]) w [b6 g748 g729, b5 g729 a730 a731 a732 a733 1 1 a736 t.1 t.2.1 t.2.2.1 t.2.2.2.1 t.2.2.2.2.1 t.2.2.2.2.2.1 t.2.2.2.2.2.2.1 t.2.2.2.2.2.2.2.1 t.2.2.2.2.2.2.2.2 a746] (w'.drew.setCell ⟨g729, 4, none⟩ (.int .u32 1)) := HS2.drew.set1 (l1 := [b6 g748 g729]) (l2 := []) 4 (.int .u32 1)
      refine leaves_cons (f := 86) (args := #[.pointer (some ⟨g729, 5, none⟩)]) (by simp [settle]) (by simp [go_sem]) ?_
      refine (unlock_deferred ⟨g729, 5, none⟩ _ _ (blk_cellv HS3.at1 5 rfl) (blk_fz HS3.at1 5)).mono ?_
      rintro e u' w'' ⟨rfl, rfl, rfl⟩
      have HS4 : Sep (fps [b5 g729 a730 a731 a732 a733 0 0 a736 a737 a738 a739 a740 a741 a742 a743 a744 a745 a746, b6 g748 g729]) w [b6 g748 g729, b5 g729 a730 a731 a732 a733 1 0 a736 t.1 t.2.1 t.2.2.1 t.2.2.2.1 t.2.2.2.2.1 t.2.2.2.2.2.1 t.2.2.2.2.2.2.1 t.2.2.2.2.2.2.2.1 t.2.2.2.2.2.2.2.2 a746] ((w'.drew.setCell ⟨g729, 4, none⟩ (.int .u32 1)).setCell ⟨g729, 5, none⟩ (.int .i32 0)) := HS3.set1 (l1 := [b6 g748 g729]) (l2 := []) 5 (.int .i32 0)
      rw [← some_eq H2]
      have HS5 := HS4.perm (.swap _ _ _)
      generalize (w'.drew.setCell ⟨g729, 4, none⟩ (.int .u32 1)).setCell ⟨g729, 5, none⟩ (.int .i32 0) = W at HS5 ⊢
      simp [Leaves, settle, results, Try.results83]
      exact HS5
    · exact (none_no (if_no hs H)).elim
  · exact (none_no (if_no hd H)).elim

set_option maxHeartbeats 30000000 in
set_option maxRecDepth 100000 in
theorem sync_Once_Do_F80.calls (k : Nat) (a683 : Int) (a684 : Int) (a685 : Int) (a686 : Int) (a687 : Int) (a688 : Int) (a689 : Int) (a690 : Int) (a691 : Int) (a692 : Int) (a693 : Int) (a694 : Int) (a695 : Int) (a696 : Int) (a697 : Int) (a698 : Int) (a699 : Int) (g682 : Nat) (g701 : Nat) (r : Int × Int × Int × Int × Int × Int × Int × Int × Int × Int) (w : World)   (HS : Aside0 (Sep (fps [b5 g682 a683 a684 a685 a686 a687 a688 a689 a690 a691 a692 a693 a694 a695 a696 a697 a698 a699, b6 g701 g682]) w [b5 g682 a683 a684 a685 a686 a687 a688 a689 a690 a691 a692 a693 a694 a695 a696 a697 a698 a699, b6 g701 g682] w)) (H : Aside0 (sync_Once_Do_F80.f k a683 a684 a685 a686 a687 a688 a689 a690 a691 a692 a693 a694 a695 a696 a697 a698 a699 = some r)) :
    Calls Try.prog 79 #[.pointer (some ⟨g682, 4, none⟩), .func (.func 80) #[] #[.pointer (some ⟨g701, 0, none⟩)]] w fun e w' => e = .returned (.tuple #[]) ∧ Sep (fps [b5 g682 a683 a684 a685 a686 a687 a688 a689 a690 a691 a692 a693 a694 a695 a696 a697 a698 a699, b6 g701 g682]) w [b5 g682 a683 a684 a685 a686 r.1 a688 a689 r.2.1 r.2.2.1 r.2.2.2.1 r.2.2.2.2.1 r.2.2.2.2.2.1 r.2.2.2.2.2.2.1 r.2.2.2.2.2.2.2.1 r.2.2.2.2.2.2.2.2.1 r.2.2.2.2.2.2.2.2.2 a699, b6 g701 g682] w' := by
  generalize (fps [b5 g682 a683 a684 a685 a686 a687 a688 a689 a690 a691 a692 a693 a694 a695 a696 a697 a698 a699, b6 g701 g682]) = FF at HS ⊢
  unfold sync_Once_Do_F80.f at H
  go_enter Try.func79, Try.ntmps79
  go_wp2_with fail
  obtain ⟨t823, HA824, H⟩ := bind_some H
  refine (atomic_Bool_Load.calls a683 a684 a685 a686 a687 a688 a689 a690 a691 a692 a693 a694 a695 a696 a697 a698 a699 g682 t823 _ ⟨HS.out.begin⟩ HA824).mono ?_
  rintro e_ w825 ⟨rfl, hS⟩
  replace HS : Aside0 (Sep FF w [b5 g682 a683 a684 a685 a686 a687 a688 a689 a690 a691 a692 a693 a694 a695 a696 a697 a698 a699, b6 g701 g682] w825) := ⟨HS.out.call hS⟩
  clear hS
  by_cases c826 : t823 = true
  · replace H := if_yes c826 H
    have c826b0 : t823 = true := c826
    have c826b1 : (!t823) = false := by rw [c826b0]; rfl
    try rw [c826b1]
    clear c826
    go_wp2_with fail
    first | go_end0 | refine bodyPost_ret (results_none rfl _ _ _) rfl ?_
    rw [← some_eq H]
    exact ⟨rfl, HS.out⟩
  · replace H := if_no c826 H
    have c826b0 : t823 = false := by simpa using c826
    have c826b1 : (!t823) = true := by rw [c826b0]; rfl
    try rw [c826b1]
    clear c826
    go_wp2_with fail
    obtain ⟨t827, HA828, H⟩ := bind_some H
    refine (sync_Once_doSlow_F80.calls _ a683 a684 a685 a686 a687 a688 a689 a690 a691 a692 a693 a694 a695 a696 a697 a698 a699 g682 g701 t827 _ ⟨HS.out.begin⟩ HA828).mono ?_
    rintro e_ w829 ⟨rfl, hS⟩
    replace HS : Aside0 (Sep FF w [b5 g682 a683 a684 a685 a686 t827.1 a688 a689 t827.2.1 t827.2.2.1 t827.2.2.2.1 t827.2.2.2.2.1 t827.2.2.2.2.2.1 t827.2.2.2.2.2.2.1 t827.2.2.2.2.2.2.2.1 t827.2.2.2.2.2.2.2.2.1 t827.2.2.2.2.2.2.2.2.2 a699, b6 g701 g682] w829) := ⟨HS.out.call hS⟩
    clear hS
    go_wp2_with fail
    first | go_end0 | refine bodyPost_ret (results_none rfl _ _ _) rfl ?_
    rw [← some_eq H]
    exact ⟨rfl, HS.out⟩

set_option maxHeartbeats 30000000 in
set_option maxRecDepth 100000 in
theorem plan_Sheet_Numbers.calls (k : Nat) (a621 : Int) (a622 : Int) (a623 : Int) (a624 : Int) (a625 : Int) (a626 : Int) (a627 : Int) (a628 : Int) (a629 : Int) (a630 : Int) (a631 : Int) (a632 : Int) (a633 : Int) (a634 : Int) (a635 : Int) (a636 : Int) (a637 : Int) (g620 : Nat) (r : Int × Int × Int × Int × Int × Int × Int × Int × Int × Int × Int × Int × Int × Int × Int × Int × Int × Int × Int × Int) (w : World)   (HS : Aside0 (Sep (fps [b5 g620 a621 a622 a623 a624 a625 a626 a627 a628 a629 a630 a631 a632 a633 a634 a635 a636 a637]) w [b5 g620 a621 a622 a623 a624 a625 a626 a627 a628 a629 a630 a631 a632 a633 a634 a635 a636 a637] w)) (H : Aside0 (plan_Sheet_Numbers.f k a621 a622 a623 a624 a625 a626 a627 a628 a629 a630 a631 a632 a633 a634 a635 a636 a637 = some r)) :
    Calls Try.prog 68 #[.pointer (some ⟨g620, 0, none⟩)] w fun e w' => e = .returned (.tuple #[.agg #[.int .i64 r.1, .int .i64 r.2.1, .int .i64 r.2.2.1, .int .i64 r.2.2.2.1, .int .i64 r.2.2.2.2.1, .int .i64 r.2.2.2.2.2.1, .int .i64 r.2.2.2.2.2.2.1, .int .i64 r.2.2.2.2.2.2.2.1], .int .i64 r.2.2.2.2.2.2.2.2.1]) ∧ Sep (fps [b5 g620 a621 a622 a623 a624 a625 a626 a627 a628 a629 a630 a631 a632 a633 a634 a635 a636 a637]) w [b5 g620 a621 a622 a623 a624 r.2.2.2.2.2.2.2.2.2.1 a626 a627 r.2.2.2.2.2.2.2.2.2.2.1 r.2.2.2.2.2.2.2.2.2.2.2.1 r.2.2.2.2.2.2.2.2.2.2.2.2.1 r.2.2.2.2.2.2.2.2.2.2.2.2.2.1 r.2.2.2.2.2.2.2.2.2.2.2.2.2.2.1 r.2.2.2.2.2.2.2.2.2.2.2.2.2.2.2.1 r.2.2.2.2.2.2.2.2.2.2.2.2.2.2.2.2.1 r.2.2.2.2.2.2.2.2.2.2.2.2.2.2.2.2.2.1 r.2.2.2.2.2.2.2.2.2.2.2.2.2.2.2.2.2.2.1 r.2.2.2.2.2.2.2.2.2.2.2.2.2.2.2.2.2.2.2] w' := by
  generalize (fps [b5 g620 a621 a622 a623 a624 a625 a626 a627 a628 a629 a630 a631 a632 a633 a634 a635 a636 a637]) = FF at HS ⊢
  unfold plan_Sheet_Numbers.f at H
  go_enter Try.func68, Try.ntmps68
  go_wp2_with (first | ((with_reducible refine gate_dst (N := 1) rfl ?_); refine box_on ?hg (N := 1) ?hd (cs := #[.pointer (some ⟨g620, 0, none⟩)]) (t := 74) ?hr ?_; (case hd => rfl); (case hg => rfl); (case hr => first | (go_simp; done) | (go_simp; rfl)); intro g860 hg w861 hbox hb; replace HS : Aside0 (Sep FF w [b5 g620 a621 a622 a623 a624 a625 a626 a627 a628 a629 a630 a631 a632 a633 a634 a635 a636 a637, b6 g860 g620] w861) := ⟨HS.out.box hg hbox hb⟩; clear hg hbox hb) | ((with_reducible refine gate_dst (N := 2) rfl ?_); refine box_on ?hg (N := 2) ?hd (cs := #[.int .i64 0, .int .i64 0, .int .i64 0, .int .i64 0, .int .i64 0, .int .i64 0, .int .i64 0, .int .i64 0]) (t := 39) ?hr ?_; (case hd => rfl); (case hg => rfl); (case hr => first | (go_simp; done) | (go_simp; rfl)); intro g863 hg w864 hbox hb; replace HS : Aside0 (Sep FF w [b5 g620 a621 a622 a623 a624 a625 a626 a627 a628 a629 a630 a631 a632 a633 a634 a635 a636 a637, b6 g860 g620, b2 g863 0 0 0 0 0 0 0 0] w864) := ⟨HS.out.box hg hbox hb⟩; clear hg hbox hb; have hc866 : w864.cell? ⟨g860, 0, none⟩ = some (.pointer (some ⟨g620, 0, none⟩)) := blk_cellv (HS.out.at1) 0 rfl))
  clear hc866
  obtain ⟨t867, HA868, H⟩ := bind_some H
  refine (atomic_Int64_Add.calls a621 a622 a623 a624 a625 a626 a627 a628 a629 a630 a631 a632 a633 a634 a635 a636 a637 1 g620 t867 _ ⟨HS.out.begin⟩ HA868).mono ?_
  rintro e_ w869 ⟨rfl, hS⟩
  replace HS : Aside0 (Sep FF w [b5 g620 a621 a622 a623 a624 a625 a626 a627 a628 a629 a630 a631 a632 a633 a634 a635 a636 t867.2, b6 g860 g620, b2 g863 0 0 0 0 0 0 0 0] w869) := ⟨HS.out.call hS⟩
  clear hS
  have hc870 : w869.cell? ⟨g860, 0, none⟩ = some (.pointer (some ⟨g620, 0, none⟩)) := blk_cellv (HS.out.at1) 0 rfl
  go_wp2_with fail
  clear hc870
  obtain ⟨t871, HA872, H⟩ := bind_some H
  refine (sync_Once_Do_F80.calls _ a621 a622 a623 a624 a625 a626 a627 a628 a629 a630 a631 a632 a633 a634 a635 a636 t867.2 g620 g860 t871 _ ⟨HS.out.begin⟩ HA872).mono ?_
  rintro e_ w873 ⟨rfl, hS⟩
  replace HS : Aside0 (Sep FF w [b5 g620 a621 a622 a623 a624 t871.1 a626 a627 t871.2.1 t871.2.2.1 t871.2.2.2.1 t871.2.2.2.2.1 t871.2.2.2.2.2.1 t871.2.2.2.2.2.2.1 t871.2.2.2.2.2.2.2.1 t871.2.2.2.2.2.2.2.2.1 t871.2.2.2.2.2.2.2.2.2 t867.2, b6 g860 g620, b2 g863 0 0 0 0 0 0 0 0] w873) := ⟨HS.out.call hS⟩
  clear hS
  go_wp2_with fail
  refine start_ (n := 10) (S := (fun w' => w'.cell? ⟨g860, 0, none⟩ = some (.pointer (some ⟨g620, 0, none⟩)) ∧ w'.cell? ⟨g620, 7, none⟩ = some (.int .i64 t871.2.1) ∧ w'.cell? ⟨g620, 8, none⟩ = some (.int .i64 t871.2.2.1) ∧ w'.cell? ⟨g620, 9, none⟩ = some (.int .i64 t871.2.2.2.1) ∧ w'.cell? ⟨g620, 10, none⟩ = some (.int .i64 t871.2.2.2.2.1) ∧ w'.cell? ⟨g620, 11, none⟩ = some (.int .i64 t871.2.2.2.2.2.1) ∧ w'.cell? ⟨g620, 12, none⟩ = some (.int .i64 t871.2.2.2.2.2.2.1) ∧ w'.cell? ⟨g620, 13, none⟩ = some (.int .i64 t871.2.2.2.2.2.2.2.1) ∧ w'.cell? ⟨g620, 14, none⟩ = some (.int .i64 t871.2.2.2.2.2.2.2.2.1) ∧ w'.cell? ⟨g620, 15, none⟩ = some (.int .i64 t871.2.2.2.2.2.2.2.2.2))) (ds := []) #[false, false, false, false, false, false, false, false, false, false] (by kernel_rfl) rfl rfl (⟨blk_cellv ((HS.out.drew).at1) 0 rfl, blk_cellv ((HS.out.drew).at0) 7 rfl, blk_cellv ((HS.out.drew).at0) 8 rfl, blk_cellv ((HS.out.drew).at0) 9 rfl, blk_cellv ((HS.out.drew).at0) 10 rfl, blk_cellv ((HS.out.drew).at0) 11 rfl, blk_cellv ((HS.out.drew).at0) 12 rfl, blk_cellv ((HS.out.drew).at0) 13 rfl, blk_cellv ((HS.out.drew).at0) 14 rfl, blk_cellv ((HS.out.drew).at0) 15 rfl⟩) (fun hHeld => ?_)
  have HS_ := Aside0.mk HS.out.drew
  clear HS
  generalize World.drew _ = w875 at HS_ hHeld ⊢
  have HS := HS_
  clear HS_
  refine take_ (i := 0) (N := some 16) (v := ?_) (a' := ?_) #[true, false, false, false, false, false, false, false, false, false] rfl rfl (by kernel_rfl) (fun _ _ _ h => h) (Or.inl ⟨by rfl, ?_⟩) hHeld ?_ ?_
  rotate_left
  · rintro w' hS'
    obtain ⟨s0, s1, s2, s3, s4, s5, s6, s7, s8, s9⟩ := hS'
    go_simp
    with_reducible rfl
  rotate_left
  · simp only [Act.put, List.setIfInBounds_toArray, List.set_cons_zero, List.set_cons_succ, i64_w, i32_w]
    rfl
  refine pure_ (i := 1) (N := some 17) (v := ?_) (a' := ?_) #[true, true, false, false, false, false, false, false, false, false] rfl rfl (by kernel_rfl) (fun _ _ _ h => h) (Or.inl ⟨by rfl, ?_⟩) ?_ ?_
  rotate_left
  · intro w'
    go_simp
    with_reducible rfl
  rotate_left
  · simp only [Act.put, List.setIfInBounds_toArray, List.set_cons_zero, List.set_cons_succ, i64_w, i32_w]
    rfl
  refine pure_ (i := 2) (N := some 18) (v := ?_) (a' := ?_) #[true, true, true, false, false, false, false, false, false, false] rfl rfl (by kernel_rfl) (fun _ _ _ h => h) (Or.inl ⟨by rfl, ?_⟩) ?_ ?_
  rotate_left
  · intro w'
    go_simp
    with_reducible rfl
  rotate_left
  · simp only [Act.put, List.setIfInBounds_toArray, List.set_cons_zero, List.set_cons_succ, i64_w, i32_w]
    rfl
  refine take_ (i := 3) (N := some 19) (v := ?_) (a' := ?_) #[true, true, true, true, false, false, false, false, false, false] rfl rfl (by kernel_rfl) (fun _ _ _ h => h) (Or.inl ⟨by rfl, ?_⟩) hHeld ?_ ?_
  rotate_left
  · rintro w' hS'
    obtain ⟨s0, s1, s2, s3, s4, s5, s6, s7, s8, s9⟩ := hS'
    go_simp
    with_reducible rfl
  rotate_left
  · simp only [Act.put, List.setIfInBounds_toArray, List.set_cons_zero, List.set_cons_succ, i64_w, i32_w]
    rfl
  refine take_ (i := 4) (N := some 20) (v := ?_) (a' := ?_) #[true, true, true, true, true, false, false, false, false, false] rfl rfl (by kernel_rfl) (fun _ _ _ h => h) (Or.inl ⟨by rfl, ?_⟩) hHeld ?_ ?_
  rotate_left
  · rintro w' hS'
    obtain ⟨s0, s1, s2, s3, s4, s5, s6, s7, s8, s9⟩ := hS'
    go_simp
    with_reducible rfl
  rotate_left
  · simp only [Act.put, List.setIfInBounds_toArray, List.set_cons_zero, List.set_cons_succ, i64_w, i32_w]
    rfl
  refine pure_ (i := 5) (N := some 21) (v := ?_) (a' := ?_) #[true, true, true, true, true, true, false, false, false, false] rfl rfl (by kernel_rfl) (fun _ _ _ h => h) (Or.inl ⟨by rfl, ?_⟩) ?_ ?_
  rotate_left
  · intro w'
    go_simp
    with_reducible rfl
  rotate_left
  · simp only [Act.put, List.setIfInBounds_toArray, List.set_cons_zero, List.set_cons_succ, i64_w, i32_w]
    rfl
  refine pure_ (i := 6) (N := some 22) (v := ?_) (a' := ?_) #[true, true, true, true, true, true, true, false, false, false] rfl rfl (by kernel_rfl) (fun _ _ _ h => h) (Or.inl ⟨by rfl, ?_⟩) ?_ ?_
  rotate_left
  · intro w'
    go_simp
    with_reducible rfl
  rotate_left
  · simp only [Act.put, List.setIfInBounds_toArray, List.set_cons_zero, List.set_cons_succ, i64_w, i32_w]
    rfl
  refine take_ (i := 7) (N := some 23) (v := ?_) (a' := ?_) #[true, true, true, true, true, true, true, true, false, false] rfl rfl (by kernel_rfl) (fun _ _ _ h => h) (Or.inl ⟨by rfl, ?_⟩) hHeld ?_ ?_
  rotate_left
  · rintro w' hS'
    obtain ⟨s0, s1, s2, s3, s4, s5, s6, s7, s8, s9⟩ := hS'
    go_simp
    with_reducible rfl
  rotate_left
  · simp only [Act.put, List.setIfInBounds_toArray, List.set_cons_zero, List.set_cons_succ, i64_w, i32_w]
    rfl
  refine one_ (i := 8) (N := none) #[true, true, true, true, true, true, true, true, true, false] rfl rfl (by kernel_rfl) (by decide) (fun K hK => ?_)
  have hc877 := blk_cellv (v := .int .i64 0) (HS.out.at2) 0 rfl
  have hz878 := blk_fz (HS.out.at2) 0
  have hc879 := blk_cellv (v := .int .i64 0) (HS.out.at2) 1 rfl
  have hz880 := blk_fz (HS.out.at2) 1
  have hc881 := blk_cellv (v := .int .i64 0) (HS.out.at2) 2 rfl
  have hz882 := blk_fz (HS.out.at2) 2
  have hc883 := blk_cellv (v := .int .i64 0) (HS.out.at2) 3 rfl
  have hz884 := blk_fz (HS.out.at2) 3
  have hc885 := blk_cellv (v := .int .i64 0) (HS.out.at2) 4 rfl
  have hz886 := blk_fz (HS.out.at2) 4
  have hc887 := blk_cellv (v := .int .i64 0) (HS.out.at2) 5 rfl
  have hz888 := blk_fz (HS.out.at2) 5
  have hc889 := blk_cellv (v := .int .i64 0) (HS.out.at2) 6 rfl
  have hz890 := blk_fz (HS.out.at2) 6
  have hc891 := blk_cellv (v := .int .i64 0) (HS.out.at2) 7 rfl
  have hz892 := blk_fz (HS.out.at2) 7
  refine store_step (w1 := (World.setCell (World.setCell (World.setCell (World.setCell (World.setCell (World.setCell (World.setCell (World.setCell w875 ⟨g863, 0, none⟩ (.int .i64 t871.2.1)) ⟨g863, 1, none⟩ (.int .i64 t871.2.2.1)) ⟨g863, 2, none⟩ (.int .i64 t871.2.2.2.1)) ⟨g863, 3, none⟩ (.int .i64 t871.2.2.2.2.1)) ⟨g863, 4, none⟩ (.int .i64 t871.2.2.2.2.2.1)) ⟨g863, 5, none⟩ (.int .i64 t871.2.2.2.2.2.2.1)) ⟨g863, 6, none⟩ (.int .i64 t871.2.2.2.2.2.2.2.1)) ⟨g863, 7, none⟩ (.int .i64 t871.2.2.2.2.2.2.2.2.1))) (by rfl) rfl ?hr ?_
  case hr => first | (go_simp; done) | (go_simp; rfl)
  clear hc877 hz878 hc879 hz880 hc881 hz882 hc883 hz884 hc885 hz886 hc887 hz888 hc889 hz890 hc891 hz892
  intro w876 hst
  replace HS : Aside0 (Sep FF w [b5 g620 a621 a622 a623 a624 t871.1 a626 a627 t871.2.1 t871.2.2.1 t871.2.2.2.1 t871.2.2.2.2.1 t871.2.2.2.2.2.1 t871.2.2.2.2.2.2.1 t871.2.2.2.2.2.2.2.1 t871.2.2.2.2.2.2.2.2.1 t871.2.2.2.2.2.2.2.2.2 t867.2, b6 g860 g620, b2 g863 t871.2.1 t871.2.2.1 t871.2.2.2.1 t871.2.2.2.2.1 t871.2.2.2.2.2.1 t871.2.2.2.2.2.2.1 t871.2.2.2.2.2.2.2.1 t871.2.2.2.2.2.2.2.2.1] w876) := ⟨by rw [hst]; exact HS.out.setAll (l1 := [b5 g620 a621 a622 a623 a624 t871.1 a626 a627 t871.2.1 t871.2.2.1 t871.2.2.2.1 t871.2.2.2.2.1 t871.2.2.2.2.2.1 t871.2.2.2.2.2.2.1 t871.2.2.2.2.2.2.2.1 t871.2.2.2.2.2.2.2.2.1 t871.2.2.2.2.2.2.2.2.2 t867.2, b6 g860 g620]) (l2 := []) [.int .i64 t871.2.1, .int .i64 t871.2.2.1, .int .i64 t871.2.2.2.1, .int .i64 t871.2.2.2.2.1, .int .i64 t871.2.2.2.2.2.1, .int .i64 t871.2.2.2.2.2.2.1, .int .i64 t871.2.2.2.2.2.2.2.1, .int .i64 t871.2.2.2.2.2.2.2.2.1] rfl⟩
  clear hst
  refine hK.out _ _ (⟨blk_cellv (HS.out.at1) 0 rfl, blk_cellv (HS.out.at0) 7 rfl, blk_cellv (HS.out.at0) 8 rfl, blk_cellv (HS.out.at0) 9 rfl, blk_cellv (HS.out.at0) 10 rfl, blk_cellv (HS.out.at0) 11 rfl, blk_cellv (HS.out.at0) 12 rfl, blk_cellv (HS.out.at0) 13 rfl, blk_cellv (HS.out.at0) 14 rfl, blk_cellv (HS.out.at0) 15 rfl⟩) (fun hHeld => ?_)
  clear hK K
  refine pure_ (i := 9) (N := some 3) (v := ?_) (a' := ?_) #[true, true, true, true, true, true, true, true, true, true] rfl rfl (by kernel_rfl) (fun _ _ _ h => h) (Or.inl ⟨by rfl, ?_⟩) ?_ ?_
  rotate_left
  · intro w'
    go_simp
    with_reducible rfl
  rotate_left
  · simp only [Act.put, List.setIfInBounds_toArray, List.set_cons_zero, List.set_cons_succ, i64_w, i32_w]
    rfl
  refine done_ (by kernel_rfl) ?_
  replace HS : Aside0 (Sep FF w [b5 g620 a621 a622 a623 a624 t871.1 a626 a627 t871.2.1 t871.2.2.1 t871.2.2.2.1 t871.2.2.2.2.1 t871.2.2.2.2.2.1 t871.2.2.2.2.2.2.1 t871.2.2.2.2.2.2.2.1 t871.2.2.2.2.2.2.2.2.1 t871.2.2.2.2.2.2.2.2.2 t867.2, b2 g863 t871.2.1 t871.2.2.1 t871.2.2.2.1 t871.2.2.2.2.1 t871.2.2.2.2.2.1 t871.2.2.2.2.2.2.1 t871.2.2.2.2.2.2.2.1 t871.2.2.2.2.2.2.2.2.1] w876) := ⟨HS.out.sub (.cons_cons _ (.cons _ (.cons_cons _ .slnil)))⟩
  go_wp2_with fail
  have hc893 : w876.cell? ⟨g863, 0, none⟩ = some (.int .i64 t871.2.1) := blk_cellv (HS.out.at1) 0 rfl
  have hc894 : w876.cell? ⟨g863, 1, none⟩ = some (.int .i64 t871.2.2.1) := blk_cellv (HS.out.at1) 1 rfl
  have hc895 : w876.cell? ⟨g863, 2, none⟩ = some (.int .i64 t871.2.2.2.1) := blk_cellv (HS.out.at1) 2 rfl
  have hc896 : w876.cell? ⟨g863, 3, none⟩ = some (.int .i64 t871.2.2.2.2.1) := blk_cellv (HS.out.at1) 3 rfl
  have hc897 : w876.cell? ⟨g863, 4, none⟩ = some (.int .i64 t871.2.2.2.2.2.1) := blk_cellv (HS.out.at1) 4 rfl
  have hc898 : w876.cell? ⟨g863, 5, none⟩ = some (.int .i64 t871.2.2.2.2.2.2.1) := blk_cellv (HS.out.at1) 5 rfl
  have hc899 : w876.cell? ⟨g863, 6, none⟩ = some (.int .i64 t871.2.2.2.2.2.2.2.1) := blk_cellv (HS.out.at1) 6 rfl
  have hc900 : w876.cell? ⟨g863, 7, none⟩ = some (.int .i64 t871.2.2.2.2.2.2.2.2.1) := blk_cellv (HS.out.at1) 7 rfl
  refine bodyPost_ret (v := .tuple #[.agg #[.int .i64 t871.2.1, .int .i64 t871.2.2.1, .int .i64 t871.2.2.2.1, .int .i64 t871.2.2.2.2.1, .int .i64 t871.2.2.2.2.2.1, .int .i64 t871.2.2.2.2.2.2.1, .int .i64 t871.2.2.2.2.2.2.2.1, .int .i64 t871.2.2.2.2.2.2.2.2.1], .int .i64 t871.2.2.2.2.2.2.2.2.2]) (by simp [results, Try.results68, go_sem, hc893, hc894, hc895, hc896, hc897, hc898, hc899, hc900]) rfl ?_
  rw [← some_eq H]
  exact ⟨(by first | rfl | (simp [IntKind.wrap_u32]; done)), HS.out.sub (.cons_cons _ (.cons _ .slnil))⟩

set_option maxHeartbeats 30000000 in
set_option maxRecDepth 100000 in
theorem quitrenttop_awakePlan.calls (k : Nat)  (r : Bool) (w : World)   (HS : Aside0 (Sep (fps []) w [] w)) (H : Aside0 (quitrenttop_awakePlan.f k = some r)) :
    Calls Try.prog 44 #[] w fun e w' => e = .returned (.bool r) ∧ Sep (fps []) w [] w' := by
  unfold quitrenttop_awakePlan.f at H
  go_enter Try.func44, Try.ntmps44
  go_wp2_with fail
  obtain ⟨t614, HA615, H⟩ := bind_some H
  refine (plan_New.calls 10 20 2 7 t614 _ ⟨Sep.start _⟩ HA615).mono ?_
  rintro e_ w616 ⟨g618, rfl, hS⟩
  replace HS : Aside0 (Sep (fps []) w [b5 g618 t614.1 t614.2.1 t614.2.2.1 t614.2.2.2 0 0 0 0 0 0 0 0 0 0 0 0 0] w616) := ⟨HS.out.call hS⟩
  clear hS
  go_wp2_with fail
  obtain ⟨t901, HA902, H⟩ := bind_some H
  refine (plan_Sheet_Numbers.calls _ t614.1 t614.2.1 t614.2.2.1 t614.2.2.2 0 0 0 0 0 0 0 0 0 0 0 0 0 g618 t901 _ ⟨HS.out.begin⟩ HA902).mono ?_
  rintro e_ w903 ⟨rfl, hS⟩
  replace HS : Aside0 (Sep (fps []) w [b5 g618 t614.1 t614.2.1 t614.2.2.1 t614.2.2.2 t901.2.2.2.2.2.2.2.2.2.1 0 0 t901.2.2.2.2.2.2.2.2.2.2.1 t901.2.2.2.2.2.2.2.2.2.2.2.1 t901.2.2.2.2.2.2.2.2.2.2.2.2.1 t901.2.2.2.2.2.2.2.2.2.2.2.2.2.1 t901.2.2.2.2.2.2.2.2.2.2.2.2.2.2.1 t901.2.2.2.2.2.2.2.2.2.2.2.2.2.2.2.1 t901.2.2.2.2.2.2.2.2.2.2.2.2.2.2.2.2.1 t901.2.2.2.2.2.2.2.2.2.2.2.2.2.2.2.2.2.1 t901.2.2.2.2.2.2.2.2.2.2.2.2.2.2.2.2.2.2.1 t901.2.2.2.2.2.2.2.2.2.2.2.2.2.2.2.2.2.2.2] w903) := ⟨HS.out.call hS⟩
  clear hS
  by_cases c924 : t901.2.2.2.2.2.2.2.2.1 = 0
  · replace H := if_yes c924 H
    have c924b0 : (t901.2.2.2.2.2.2.2.2.1 == 0) = true := beq_iff_eq.mpr c924
    have c924b1 : (t901.2.2.2.2.2.2.2.2.1 != 0) = false := bne_eq_false_iff_eq.mpr c924
    clear c924
    by_cases c926 : t901.2.2.2.2.1 = 634
    · replace H := if_yes c926 H
      have c926b0 : (t901.2.2.2.2.1 == 634) = true := beq_iff_eq.mpr c926
      have c926b1 : (t901.2.2.2.2.1 != 634) = false := bne_eq_false_iff_eq.mpr c926
      clear c926
      go_wp2_with (first | ((with_reducible refine gate_dst (N := 1) rfl ?_); refine box_on ?hg (N := 1) ?hd (cs := #[.int .i64 0, .int .i64 0, .int .i64 0, .int .i64 0, .int .i64 0, .int .i64 0, .int .i64 0, .int .i64 0]) (t := 39) ?hr ?_; (case hd => rfl); (case hg => rfl); (case hr => first | (go_simp; done) | (go_simp; rfl)); intro g904 hg w905 hbox hb; replace HS : Aside0 (Sep (fps []) w [b5 g618 t614.1 t614.2.1 t614.2.2.1 t614.2.2.2 t901.2.2.2.2.2.2.2.2.2.1 0 0 t901.2.2.2.2.2.2.2.2.2.2.1 t901.2.2.2.2.2.2.2.2.2.2.2.1 t901.2.2.2.2.2.2.2.2.2.2.2.2.1 t901.2.2.2.2.2.2.2.2.2.2.2.2.2.1 t901.2.2.2.2.2.2.2.2.2.2.2.2.2.2.1 t901.2.2.2.2.2.2.2.2.2.2.2.2.2.2.2.1 t901.2.2.2.2.2.2.2.2.2.2.2.2.2.2.2.2.1 t901.2.2.2.2.2.2.2.2.2.2.2.2.2.2.2.2.2.1 t901.2.2.2.2.2.2.2.2.2.2.2.2.2.2.2.2.2.2.1 t901.2.2.2.2.2.2.2.2.2.2.2.2.2.2.2.2.2.2.2, b2 g904 0 0 0 0 0 0 0 0] w905) := ⟨HS.out.box hg hbox hb⟩; clear hg hbox hb; have hc907 : w905.cell? ⟨g904, 0, none⟩ = some (.int .i64 0) := blk_cellv (HS.out.at1) 0 rfl; have hz908 : w905.frozen? ⟨g904, 0, none⟩ = false := blk_fz (HS.out.at1) 0; have hc909 : w905.cell? ⟨g904, 1, none⟩ = some (.int .i64 0) := blk_cellv (HS.out.at1) 1 rfl; have hz910 : w905.frozen? ⟨g904, 1, none⟩ = false := blk_fz (HS.out.at1) 1; have hc911 : w905.cell? ⟨g904, 2, none⟩ = some (.int .i64 0) := blk_cellv (HS.out.at1) 2 rfl; have hz912 : w905.frozen? ⟨g904, 2, none⟩ = false := blk_fz (HS.out.at1) 2; have hc913 : w905.cell? ⟨g904, 3, none⟩ = some (.int .i64 0) := blk_cellv (HS.out.at1) 3 rfl; have hz914 : w905.frozen? ⟨g904, 3, none⟩ = false := blk_fz (HS.out.at1) 3; have hc915 : w905.cell? ⟨g904, 4, none⟩ = some (.int .i64 0) := blk_cellv (HS.out.at1) 4 rfl; have hz916 : w905.frozen? ⟨g904, 4, none⟩ = false := blk_fz (HS.out.at1) 4; have hc917 : w905.cell? ⟨g904, 5, none⟩ = some (.int .i64 0) := blk_cellv (HS.out.at1) 5 rfl; have hz918 : w905.frozen? ⟨g904, 5, none⟩ = false := blk_fz (HS.out.at1) 5; have hc919 : w905.cell? ⟨g904, 6, none⟩ = some (.int .i64 0) := blk_cellv (HS.out.at1) 6 rfl; have hz920 : w905.frozen? ⟨g904, 6, none⟩ = false := blk_fz (HS.out.at1) 6; have hc921 : w905.cell? ⟨g904, 7, none⟩ = some (.int .i64 0) := blk_cellv (HS.out.at1) 7 rfl; have hz922 : w905.frozen? ⟨g904, 7, none⟩ = false := blk_fz (HS.out.at1) 7) | ((with_reducible refine gate_store (t := 39) (p := 1) rfl ?_); refine store_event (w1 := (World.setCell (World.setCell (World.setCell (World.setCell (World.setCell (World.setCell (World.setCell (World.setCell w905 ⟨g904, 0, none⟩ (.int .i64 t901.1)) ⟨g904, 1, none⟩ (.int .i64 t901.2.1)) ⟨g904, 2, none⟩ (.int .i64 t901.2.2.1)) ⟨g904, 3, none⟩ (.int .i64 t901.2.2.2.1)) ⟨g904, 4, none⟩ (.int .i64 t901.2.2.2.2.1)) ⟨g904, 5, none⟩ (.int .i64 t901.2.2.2.2.2.1)) ⟨g904, 6, none⟩ (.int .i64 t901.2.2.2.2.2.2.1)) ⟨g904, 7, none⟩ (.int .i64 t901.2.2.2.2.2.2.2.1))) rfl (t := 39) (p := 1) rfl rfl ?hr ?_; (case hr => first | (go_simp; done) | (go_simp; rfl)); intro w923 hst; clear hc907 hz908 hc909 hz910 hc911 hz912 hc913 hz914 hc915 hz916 hc917 hz918 hc919 hz920 hc921 hz922; replace HS : Aside0 (Sep (fps []) w [b5 g618 t614.1 t614.2.1 t614.2.2.1 t614.2.2.2 t901.2.2.2.2.2.2.2.2.2.1 0 0 t901.2.2.2.2.2.2.2.2.2.2.1 t901.2.2.2.2.2.2.2.2.2.2.2.1 t901.2.2.2.2.2.2.2.2.2.2.2.2.1 t901.2.2.2.2.2.2.2.2.2.2.2.2.2.1 t901.2.2.2.2.2.2.2.2.2.2.2.2.2.2.1 t901.2.2.2.2.2.2.2.2.2.2.2.2.2.2.2.1 t901.2.2.2.2.2.2.2.2.2.2.2.2.2.2.2.2.1 t901.2.2.2.2.2.2.2.2.2.2.2.2.2.2.2.2.2.1 t901.2.2.2.2.2.2.2.2.2.2.2.2.2.2.2.2.2.2.1 t901.2.2.2.2.2.2.2.2.2.2.2.2.2.2.2.2.2.2.2, b2 g904 t901.1 t901.2.1 t901.2.2.1 t901.2.2.2.1 t901.2.2.2.2.1 t901.2.2.2.2.2.1 t901.2.2.2.2.2.2.1 t901.2.2.2.2.2.2.2.1] w923) := ⟨by rw [hst]; exact HS.out.setAll (l1 := [b5 g618 t614.1 t614.2.1 t614.2.2.1 t614.2.2.2 t901.2.2.2.2.2.2.2.2.2.1 0 0 t901.2.2.2.2.2.2.2.2.2.2.1 t901.2.2.2.2.2.2.2.2.2.2.2.1 t901.2.2.2.2.2.2.2.2.2.2.2.2.1 t901.2.2.2.2.2.2.2.2.2.2.2.2.2.1 t901.2.2.2.2.2.2.2.2.2.2.2.2.2.2.1 t901.2.2.2.2.2.2.2.2.2.2.2.2.2.2.2.1 t901.2.2.2.2.2.2.2.2.2.2.2.2.2.2.2.2.1 t901.2.2.2.2.2.2.2.2.2.2.2.2.2.2.2.2.2.1 t901.2.2.2.2.2.2.2.2.2.2.2.2.2.2.2.2.2.2.1 t901.2.2.2.2.2.2.2.2.2.2.2.2.2.2.2.2.2.2.2]) (l2 := []) [.int .i64 t901.1, .int .i64 t901.2.1, .int .i64 t901.2.2.1, .int .i64 t901.2.2.2.1, .int .i64 t901.2.2.2.2.1, .int .i64 t901.2.2.2.2.2.1, .int .i64 t901.2.2.2.2.2.2.1, .int .i64 t901.2.2.2.2.2.2.2.1] rfl⟩; clear hst; replace HS : Aside0 (Sep (fps []) w [b2 g904 t901.1 t901.2.1 t901.2.2.1 t901.2.2.2.1 t901.2.2.2.2.1 t901.2.2.2.2.2.1 t901.2.2.2.2.2.2.1 t901.2.2.2.2.2.2.2.1] w923) := ⟨HS.out.sub (.cons _ (.cons_cons _ .slnil))⟩; have hc925 : w923.cell? ⟨g904, 4, none⟩ = some (.int .i64 t901.2.2.2.2.1) := blk_cellv (HS.out.at0) 4 rfl))
      clear hc925
      obtain ⟨t927, HA928, H⟩ := bind_some H
      refine (ratio_Up.calls t901.2.2.2.2.1 7 t927 _ ⟨Sep.start _⟩ HA928).mono ?_
      rintro e_ w929 ⟨rfl, hS⟩
      replace HS : Aside0 (Sep (fps []) w [b2 g904 t901.1 t901.2.1 t901.2.2.1 t901.2.2.2.1 t901.2.2.2.2.1 t901.2.2.2.2.2.1 t901.2.2.2.2.2.2.1 t901.2.2.2.2.2.2.2.1] w929) := ⟨HS.out.call hS⟩
      clear hS
      replace HS : Aside0 (Sep (fps []) w [] w929) := ⟨HS.out.sub (.cons _ .slnil)⟩
      go_wp2_with fail
      go_ret
      rw [← some_eq H]
      exact ⟨(by first | rfl | (simp [IntKind.wrap_u32]; done)), HS.out⟩
    · replace H := if_no c926 H
      have c926b0 : (t901.2.2.2.2.1 == 634) = false := beq_eq_false_iff_ne.mpr c926
      have c926b1 : (t901.2.2.2.2.1 != 634) = true := bne_iff_ne.mpr c926
      clear c926
      go_wp2_with (first | ((with_reducible refine gate_dst (N := 1) rfl ?_); refine box_on ?hg (N := 1) ?hd (cs := #[.int .i64 0, .int .i64 0, .int .i64 0, .int .i64 0, .int .i64 0, .int .i64 0, .int .i64 0, .int .i64 0]) (t := 39) ?hr ?_; (case hd => rfl); (case hg => rfl); (case hr => first | (go_simp; done) | (go_simp; rfl)); intro g904 hg w905 hbox hb; replace HS : Aside0 (Sep (fps []) w [b5 g618 t614.1 t614.2.1 t614.2.2.1 t614.2.2.2 t901.2.2.2.2.2.2.2.2.2.1 0 0 t901.2.2.2.2.2.2.2.2.2.2.1 t901.2.2.2.2.2.2.2.2.2.2.2.1 t901.2.2.2.2.2.2.2.2.2.2.2.2.1 t901.2.2.2.2.2.2.2.2.2.2.2.2.2.1 t901.2.2.2.2.2.2.2.2.2.2.2.2.2.2.1 t901.2.2.2.2.2.2.2.2.2.2.2.2.2.2.2.1 t901.2.2.2.2.2.2.2.2.2.2.2.2.2.2.2.2.1 t901.2.2.2.2.2.2.2.2.2.2.2.2.2.2.2.2.2.1 t901.2.2.2.2.2.2.2.2.2.2.2.2.2.2.2.2.2.2.1 t901.2.2.2.2.2.2.2.2.2.2.2.2.2.2.2.2.2.2.2, b2 g904 0 0 0 0 0 0 0 0] w905) := ⟨HS.out.box hg hbox hb⟩; clear hg hbox hb; have hc907 : w905.cell? ⟨g904, 0, none⟩ = some (.int .i64 0) := blk_cellv (HS.out.at1) 0 rfl; have hz908 : w905.frozen? ⟨g904, 0, none⟩ = false := blk_fz (HS.out.at1) 0; have hc909 : w905.cell? ⟨g904, 1, none⟩ = some (.int .i64 0) := blk_cellv (HS.out.at1) 1 rfl; have hz910 : w905.frozen? ⟨g904, 1, none⟩ = false := blk_fz (HS.out.at1) 1; have hc911 : w905.cell? ⟨g904, 2, none⟩ = some (.int .i64 0) := blk_cellv (HS.out.at1) 2 rfl; have hz912 : w905.frozen? ⟨g904, 2, none⟩ = false := blk_fz (HS.out.at1) 2; have hc913 : w905.cell? ⟨g904, 3, none⟩ = some (.int .i64 0) := blk_cellv (HS.out.at1) 3 rfl; have hz914 : w905.frozen? ⟨g904, 3, none⟩ = false := blk_fz (HS.out.at1) 3; have hc915 : w905.cell? ⟨g904, 4, none⟩ = some (.int .i64 0) := blk_cellv (HS.out.at1) 4 rfl; have hz916 : w905.frozen? ⟨g904, 4, none⟩ = false := blk_fz (HS.out.at1) 4; have hc917 : w905.cell? ⟨g904, 5, none⟩ = some (.int .i64 0) := blk_cellv (HS.out.at1) 5 rfl; have hz918 : w905.frozen? ⟨g904, 5, none⟩ = false := blk_fz (HS.out.at1) 5; have hc919 : w905.cell? ⟨g904, 6, none⟩ = some (.int .i64 0) := blk_cellv (HS.out.at1) 6 rfl; have hz920 : w905.frozen? ⟨g904, 6, none⟩ = false := blk_fz (HS.out.at1) 6; have hc921 : w905.cell? ⟨g904, 7, none⟩ = some (.int .i64 0) := blk_cellv (HS.out.at1) 7 rfl; have hz922 : w905.frozen? ⟨g904, 7, none⟩ = false := blk_fz (HS.out.at1) 7) | ((with_reducible refine gate_store (t := 39) (p := 1) rfl ?_); refine store_event (w1 := (World.setCell (World.setCell (World.setCell (World.setCell (World.setCell (World.setCell (World.setCell (World.setCell w905 ⟨g904, 0, none⟩ (.int .i64 t901.1)) ⟨g904, 1, none⟩ (.int .i64 t901.2.1)) ⟨g904, 2, none⟩ (.int .i64 t901.2.2.1)) ⟨g904, 3, none⟩ (.int .i64 t901.2.2.2.1)) ⟨g904, 4, none⟩ (.int .i64 t901.2.2.2.2.1)) ⟨g904, 5, none⟩ (.int .i64 t901.2.2.2.2.2.1)) ⟨g904, 6, none⟩ (.int .i64 t901.2.2.2.2.2.2.1)) ⟨g904, 7, none⟩ (.int .i64 t901.2.2.2.2.2.2.2.1))) rfl (t := 39) (p := 1) rfl rfl ?hr ?_; (case hr => first | (go_simp; done) | (go_simp; rfl)); intro w923 hst; clear hc907 hz908 hc909 hz910 hc911 hz912 hc913 hz914 hc915 hz916 hc917 hz918 hc919 hz920 hc921 hz922; replace HS : Aside0 (Sep (fps []) w [b5 g618 t614.1 t614.2.1 t614.2.2.1 t614.2.2.2 t901.2.2.2.2.2.2.2.2.2.1 0 0 t901.2.2.2.2.2.2.2.2.2.2.1 t901.2.2.2.2.2.2.2.2.2.2.2.1 t901.2.2.2.2.2.2.2.2.2.2.2.2.1 t901.2.2.2.2.2.2.2.2.2.2.2.2.2.1 t901.2.2.2.2.2.2.2.2.2.2.2.2.2.2.1 t901.2.2.2.2.2.2.2.2.2.2.2.2.2.2.2.1 t901.2.2.2.2.2.2.2.2.2.2.2.2.2.2.2.2.1 t901.2.2.2.2.2.2.2.2.2.2.2.2.2.2.2.2.2.1 t901.2.2.2.2.2.2.2.2.2.2.2.2.2.2.2.2.2.2.1 t901.2.2.2.2.2.2.2.2.2.2.2.2.2.2.2.2.2.2.2, b2 g904 t901.1 t901.2.1 t901.2.2.1 t901.2.2.2.1 t901.2.2.2.2.1 t901.2.2.2.2.2.1 t901.2.2.2.2.2.2.1 t901.2.2.2.2.2.2.2.1] w923) := ⟨by rw [hst]; exact HS.out.setAll (l1 := [b5 g618 t614.1 t614.2.1 t614.2.2.1 t614.2.2.2 t901.2.2.2.2.2.2.2.2.2.1 0 0 t901.2.2.2.2.2.2.2.2.2.2.1 t901.2.2.2.2.2.2.2.2.2.2.2.1 t901.2.2.2.2.2.2.2.2.2.2.2.2.1 t901.2.2.2.2.2.2.2.2.2.2.2.2.2.1 t901.2.2.2.2.2.2.2.2.2.2.2.2.2.2.1 t901.2.2.2.2.2.2.2.2.2.2.2.2.2.2.2.1 t901.2.2.2.2.2.2.2.2.2.2.2.2.2.2.2.2.1 t901.2.2.2.2.2.2.2.2.2.2.2.2.2.2.2.2.2.1 t901.2.2.2.2.2.2.2.2.2.2.2.2.2.2.2.2.2.2.1 t901.2.2.2.2.2.2.2.2.2.2.2.2.2.2.2.2.2.2.2]) (l2 := []) [.int .i64 t901.1, .int .i64 t901.2.1, .int .i64 t901.2.2.1, .int .i64 t901.2.2.2.1, .int .i64 t901.2.2.2.2.1, .int .i64 t901.2.2.2.2.2.1, .int .i64 t901.2.2.2.2.2.2.1, .int .i64 t901.2.2.2.2.2.2.2.1] rfl⟩; clear hst; replace HS : Aside0 (Sep (fps []) w [b2 g904 t901.1 t901.2.1 t901.2.2.1 t901.2.2.2.1 t901.2.2.2.2.1 t901.2.2.2.2.2.1 t901.2.2.2.2.2.2.1 t901.2.2.2.2.2.2.2.1] w923) := ⟨HS.out.sub (.cons _ (.cons_cons _ .slnil))⟩; have hc925 : w923.cell? ⟨g904, 4, none⟩ = some (.int .i64 t901.2.2.2.2.1) := blk_cellv (HS.out.at0) 4 rfl; replace HS : Aside0 (Sep (fps []) w [] w923) := ⟨HS.out.sub (.cons _ .slnil)⟩))
      clear hc925
      go_ret
      rw [← some_eq H]
      exact ⟨(by first | rfl | (simp [IntKind.wrap_u32]; done)), HS.out⟩
  · replace H := if_no c924 H
    have c924b0 : (t901.2.2.2.2.2.2.2.2.1 == 0) = false := beq_eq_false_iff_ne.mpr c924
    have c924b1 : (t901.2.2.2.2.2.2.2.2.1 != 0) = true := bne_iff_ne.mpr c924
    clear c924
    go_wp2_with (first | ((with_reducible refine gate_dst (N := 1) rfl ?_); refine box_on ?hg (N := 1) ?hd (cs := #[.int .i64 0, .int .i64 0, .int .i64 0, .int .i64 0, .int .i64 0, .int .i64 0, .int .i64 0, .int .i64 0]) (t := 39) ?hr ?_; (case hd => rfl); (case hg => rfl); (case hr => first | (go_simp; done) | (go_simp; rfl)); intro g904 hg w905 hbox hb; replace HS : Aside0 (Sep (fps []) w [b5 g618 t614.1 t614.2.1 t614.2.2.1 t614.2.2.2 t901.2.2.2.2.2.2.2.2.2.1 0 0 t901.2.2.2.2.2.2.2.2.2.2.1 t901.2.2.2.2.2.2.2.2.2.2.2.1 t901.2.2.2.2.2.2.2.2.2.2.2.2.1 t901.2.2.2.2.2.2.2.2.2.2.2.2.2.1 t901.2.2.2.2.2.2.2.2.2.2.2.2.2.2.1 t901.2.2.2.2.2.2.2.2.2.2.2.2.2.2.2.1 t901.2.2.2.2.2.2.2.2.2.2.2.2.2.2.2.2.1 t901.2.2.2.2.2.2.2.2.2.2.2.2.2.2.2.2.2.1 t901.2.2.2.2.2.2.2.2.2.2.2.2.2.2.2.2.2.2.1 t901.2.2.2.2.2.2.2.2.2.2.2.2.2.2.2.2.2.2.2, b2 g904 0 0 0 0 0 0 0 0] w905) := ⟨HS.out.box hg hbox hb⟩; clear hg hbox hb; have hc907 : w905.cell? ⟨g904, 0, none⟩ = some (.int .i64 0) := blk_cellv (HS.out.at1) 0 rfl; have hz908 : w905.frozen? ⟨g904, 0, none⟩ = false := blk_fz (HS.out.at1) 0; have hc909 : w905.cell? ⟨g904, 1, none⟩ = some (.int .i64 0) := blk_cellv (HS.out.at1) 1 rfl; have hz910 : w905.frozen? ⟨g904, 1, none⟩ = false := blk_fz (HS.out.at1) 1; have hc911 : w905.cell? ⟨g904, 2, none⟩ = some (.int .i64 0) := blk_cellv (HS.out.at1) 2 rfl; have hz912 : w905.frozen? ⟨g904, 2, none⟩ = false := blk_fz (HS.out.at1) 2; have hc913 : w905.cell? ⟨g904, 3, none⟩ = some (.int .i64 0) := blk_cellv (HS.out.at1) 3 rfl; have hz914 : w905.frozen? ⟨g904, 3, none⟩ = false := blk_fz (HS.out.at1) 3; have hc915 : w905.cell? ⟨g904, 4, none⟩ = some (.int .i64 0) := blk_cellv (HS.out.at1) 4 rfl; have hz916 : w905.frozen? ⟨g904, 4, none⟩ = false := blk_fz (HS.out.at1) 4; have hc917 : w905.cell? ⟨g904, 5, none⟩ = some (.int .i64 0) := blk_cellv (HS.out.at1) 5 rfl; have hz918 : w905.frozen? ⟨g904, 5, none⟩ = false := blk_fz (HS.out.at1) 5; have hc919 : w905.cell? ⟨g904, 6, none⟩ = some (.int .i64 0) := blk_cellv (HS.out.at1) 6 rfl; have hz920 : w905.frozen? ⟨g904, 6, none⟩ = false := blk_fz (HS.out.at1) 6; have hc921 : w905.cell? ⟨g904, 7, none⟩ = some (.int .i64 0) := blk_cellv (HS.out.at1) 7 rfl; have hz922 : w905.frozen? ⟨g904, 7, none⟩ = false := blk_fz (HS.out.at1) 7) | ((with_reducible refine gate_store (t := 39) (p := 1) rfl ?_); refine store_event (w1 := (World.setCell (World.setCell (World.setCell (World.setCell (World.setCell (World.setCell (World.setCell (World.setCell w905 ⟨g904, 0, none⟩ (.int .i64 t901.1)) ⟨g904, 1, none⟩ (.int .i64 t901.2.1)) ⟨g904, 2, none⟩ (.int .i64 t901.2.2.1)) ⟨g904, 3, none⟩ (.int .i64 t901.2.2.2.1)) ⟨g904, 4, none⟩ (.int .i64 t901.2.2.2.2.1)) ⟨g904, 5, none⟩ (.int .i64 t901.2.2.2.2.2.1)) ⟨g904, 6, none⟩ (.int .i64 t901.2.2.2.2.2.2.1)) ⟨g904, 7, none⟩ (.int .i64 t901.2.2.2.2.2.2.2.1))) rfl (t := 39) (p := 1) rfl rfl ?hr ?_; (case hr => first | (go_simp; done) | (go_simp; rfl)); intro w923 hst; clear hc907 hz908 hc909 hz910 hc911 hz912 hc913 hz914 hc915 hz916 hc917 hz918 hc919 hz920 hc921 hz922; replace HS : Aside0 (Sep (fps []) w [b5 g618 t614.1 t614.2.1 t614.2.2.1 t614.2.2.2 t901.2.2.2.2.2.2.2.2.2.1 0 0 t901.2.2.2.2.2.2.2.2.2.2.1 t901.2.2.2.2.2.2.2.2.2.2.2.1 t901.2.2.2.2.2.2.2.2.2.2.2.2.1 t901.2.2.2.2.2.2.2.2.2.2.2.2.2.1 t901.2.2.2.2.2.2.2.2.2.2.2.2.2.2.1 t901.2.2.2.2.2.2.2.2.2.2.2.2.2.2.2.1 t901.2.2.2.2.2.2.2.2.2.2.2.2.2.2.2.2.1 t901.2.2.2.2.2.2.2.2.2.2.2.2.2.2.2.2.2.1 t901.2.2.2.2.2.2.2.2.2.2.2.2.2.2.2.2.2.2.1 t901.2.2.2.2.2.2.2.2.2.2.2.2.2.2.2.2.2.2.2, b2 g904 t901.1 t901.2.1 t901.2.2.1 t901.2.2.2.1 t901.2.2.2.2.1 t901.2.2.2.2.2.1 t901.2.2.2.2.2.2.1 t901.2.2.2.2.2.2.2.1] w923) := ⟨by rw [hst]; exact HS.out.setAll (l1 := [b5 g618 t614.1 t614.2.1 t614.2.2.1 t614.2.2.2 t901.2.2.2.2.2.2.2.2.2.1 0 0 t901.2.2.2.2.2.2.2.2.2.2.1 t901.2.2.2.2.2.2.2.2.2.2.2.1 t901.2.2.2.2.2.2.2.2.2.2.2.2.1 t901.2.2.2.2.2.2.2.2.2.2.2.2.2.1 t901.2.2.2.2.2.2.2.2.2.2.2.2.2.2.1 t901.2.2.2.2.2.2.2.2.2.2.2.2.2.2.2.1 t901.2.2.2.2.2.2.2.2.2.2.2.2.2.2.2.2.1 t901.2.2.2.2.2.2.2.2.2.2.2.2.2.2.2.2.2.1 t901.2.2.2.2.2.2.2.2.2.2.2.2.2.2.2.2.2.2.1 t901.2.2.2.2.2.2.2.2.2.2.2.2.2.2.2.2.2.2.2]) (l2 := []) [.int .i64 t901.1, .int .i64 t901.2.1, .int .i64 t901.2.2.1, .int .i64 t901.2.2.2.1, .int .i64 t901.2.2.2.2.1, .int .i64 t901.2.2.2.2.2.1, .int .i64 t901.2.2.2.2.2.2.1, .int .i64 t901.2.2.2.2.2.2.2.1] rfl⟩; clear hst; replace HS : Aside0 (Sep (fps []) w [b2 g904 t901.1 t901.2.1 t901.2.2.1 t901.2.2.2.1 t901.2.2.2.2.1 t901.2.2.2.2.2.1 t901.2.2.2.2.2.2.1 t901.2.2.2.2.2.2.2.1] w923) := ⟨HS.out.sub (.cons _ (.cons_cons _ .slnil))⟩; replace HS : Aside0 (Sep (fps []) w [] w923) := ⟨HS.out.sub (.cons _ .slnil)⟩))
    go_ret
    rw [← some_eq H]
    exact ⟨(by first | rfl | (simp [IntKind.wrap_u32]; done)), HS.out⟩

set_option maxHeartbeats 30000000 in
set_option maxRecDepth 100000 in
theorem plan_Pause.calls (k : Nat) (a961 : Int) (a962 : Int) (a963 : Int) (a964 : Int) (a965 : Int) (a966 : Int) (r : Int) (w : World)   (HS : Aside0 (Sep (fps []) w [] w)) (H : Aside0 (plan_Pause.f k a961 a962 a963 a964 a965 a966 = some r)) :
    Calls Try.prog 45 #[.agg #[.int .i64 a961, .int .i64 a962, .int .i64 a963, .int .i64 a964], .int .i64 a965, .int .i64 a966] w fun e w' => e = .returned (.int .i64 r) ∧ Sep (fps []) w [] w' := by
  unfold plan_Pause.f at H
  go_enter Try.func45, Try.ntmps45
  go_wp2_with (first | ((with_reducible refine gate_dst (N := 3) rfl ?_); refine box_on ?hg (N := 3) ?hd (cs := #[.int .i64 a961, .int .i64 a962, .int .i64 a963, .int .i64 a964]) (t := 37) ?hr ?_; (case hd => rfl); (case hg => rfl); (case hr => first | (go_simp; done) | (go_simp; rfl)); intro g967 hg w968 hbox hb; replace HS : Aside0 (Sep (fps []) w [b1 g967 a961 a962 a963 a964] w968) := ⟨HS.out.box hg hbox hb⟩; clear hg hbox hb; have hc970 : w968.cell? ⟨g967, 0, none⟩ = some (.int .i64 a961) := blk_cellv (HS.out.at0) 0 rfl; have hc971 : w968.cell? ⟨g967, 1, none⟩ = some (.int .i64 a962) := blk_cellv (HS.out.at0) 1 rfl; have hc972 : w968.cell? ⟨g967, 2, none⟩ = some (.int .i64 a963) := blk_cellv (HS.out.at0) 2 rfl; have hc973 : w968.cell? ⟨g967, 3, none⟩ = some (.int .i64 a964) := blk_cellv (HS.out.at0) 3 rfl))
  clear hc970 hc971 hc972 hc973
  obtain ⟨t974, HA975, H⟩ := bind_some H
  refine (plan_Of.calls _ a961 a962 a963 a964 t974 _ ⟨Sep.start _⟩ HA975).mono ?_
  rintro e_ w976 ⟨rfl, hS⟩
  replace HS : Aside0 (Sep (fps []) w [b1 g967 a961 a962 a963 a964] w976) := ⟨HS.out.call hS⟩
  clear hS
  by_cases c997 : t974.2.2.2.2.2.2.2.2 = 0
  · replace H := if_yes c997 H
    have c997b0 : (t974.2.2.2.2.2.2.2.2 == 0) = true := beq_iff_eq.mpr c997
    have c997b1 : (t974.2.2.2.2.2.2.2.2 != 0) = false := bne_eq_false_iff_eq.mpr c997
    clear c997
    go_wp2_with (first | ((with_reducible refine gate_dst (N := 7) rfl ?_); refine box_on ?hg (N := 7) ?hd (cs := #[.int .i64 0, .int .i64 0, .int .i64 0, .int .i64 0, .int .i64 0, .int .i64 0, .int .i64 0, .int .i64 0]) (t := 39) ?hr ?_; (case hd => rfl); (case hg => rfl); (case hr => first | (go_simp; done) | (go_simp; rfl)); intro g977 hg w978 hbox hb; replace HS : Aside0 (Sep (fps []) w [b1 g967 a961 a962 a963 a964, b2 g977 0 0 0 0 0 0 0 0] w978) := ⟨HS.out.box hg hbox hb⟩; clear hg hbox hb; have hc980 : w978.cell? ⟨g977, 0, none⟩ = some (.int .i64 0) := blk_cellv (HS.out.at1) 0 rfl; have hz981 : w978.frozen? ⟨g977, 0, none⟩ = false := blk_fz (HS.out.at1) 0; have hc982 : w978.cell? ⟨g977, 1, none⟩ = some (.int .i64 0) := blk_cellv (HS.out.at1) 1 rfl; have hz983 : w978.frozen? ⟨g977, 1, none⟩ = false := blk_fz (HS.out.at1) 1; have hc984 : w978.cell? ⟨g977, 2, none⟩ = some (.int .i64 0) := blk_cellv (HS.out.at1) 2 rfl; have hz985 : w978.frozen? ⟨g977, 2, none⟩ = false := blk_fz (HS.out.at1) 2; have hc986 : w978.cell? ⟨g977, 3, none⟩ = some (.int .i64 0) := blk_cellv (HS.out.at1) 3 rfl; have hz987 : w978.frozen? ⟨g977, 3, none⟩ = false := blk_fz (HS.out.at1) 3; have hc988 : w978.cell? ⟨g977, 4, none⟩ = some (.int .i64 0) := blk_cellv (HS.out.at1) 4 rfl; have hz989 : w978.frozen? ⟨g977, 4, none⟩ = false := blk_fz (HS.out.at1) 4; have hc990 : w978.cell? ⟨g977, 5, none⟩ = some (.int .i64 0) := blk_cellv (HS.out.at1) 5 rfl; have hz991 : w978.frozen? ⟨g977, 5, none⟩ = false := blk_fz (HS.out.at1) 5; have hc992 : w978.cell? ⟨g977, 6, none⟩ = some (.int .i64 0) := blk_cellv (HS.out.at1) 6 rfl; have hz993 : w978.frozen? ⟨g977, 6, none⟩ = false := blk_fz (HS.out.at1) 6; have hc994 : w978.cell? ⟨g977, 7, none⟩ = some (.int .i64 0) := blk_cellv (HS.out.at1) 7 rfl; have hz995 : w978.frozen? ⟨g977, 7, none⟩ = false := blk_fz (HS.out.at1) 7) | ((with_reducible refine gate_store (t := 39) (p := 7) rfl ?_); refine store_event (w1 := (World.setCell (World.setCell (World.setCell (World.setCell (World.setCell (World.setCell (World.setCell (World.setCell w978 ⟨g977, 0, none⟩ (.int .i64 t974.1)) ⟨g977, 1, none⟩ (.int .i64 t974.2.1)) ⟨g977, 2, none⟩ (.int .i64 t974.2.2.1)) ⟨g977, 3, none⟩ (.int .i64 t974.2.2.2.1)) ⟨g977, 4, none⟩ (.int .i64 t974.2.2.2.2.1)) ⟨g977, 5, none⟩ (.int .i64 t974.2.2.2.2.2.1)) ⟨g977, 6, none⟩ (.int .i64 t974.2.2.2.2.2.2.1)) ⟨g977, 7, none⟩ (.int .i64 t974.2.2.2.2.2.2.2.1))) rfl (t := 39) (p := 7) rfl rfl ?hr ?_; (case hr => first | (go_simp; done) | (go_simp; rfl)); intro w996 hst; clear hc980 hz981 hc982 hz983 hc984 hz985 hc986 hz987 hc988 hz989 hc990 hz991 hc992 hz993 hc994 hz995; replace HS : Aside0 (Sep (fps []) w [b1 g967 a961 a962 a963 a964, b2 g977 t974.1 t974.2.1 t974.2.2.1 t974.2.2.2.1 t974.2.2.2.2.1 t974.2.2.2.2.2.1 t974.2.2.2.2.2.2.1 t974.2.2.2.2.2.2.2.1] w996) := ⟨by rw [hst]; exact HS.out.setAll (l1 := [b1 g967 a961 a962 a963 a964]) (l2 := []) [.int .i64 t974.1, .int .i64 t974.2.1, .int .i64 t974.2.2.1, .int .i64 t974.2.2.2.1, .int .i64 t974.2.2.2.2.1, .int .i64 t974.2.2.2.2.2.1, .int .i64 t974.2.2.2.2.2.2.1, .int .i64 t974.2.2.2.2.2.2.2.1] rfl⟩; clear hst))
    obtain ⟨t998, HA999, H⟩ := bind_some H
    refine (plan_within.calls a965 1 10 t998 _ ⟨Sep.start _⟩ HA999).mono ?_
    rintro e_ w1000 ⟨rfl, hS⟩
    replace HS : Aside0 (Sep (fps []) w [b1 g967 a961 a962 a963 a964, b2 g977 t974.1 t974.2.1 t974.2.2.1 t974.2.2.2.1 t974.2.2.2.2.1 t974.2.2.2.2.2.1 t974.2.2.2.2.2.2.1 t974.2.2.2.2.2.2.2.1] w1000) := ⟨HS.out.call hS⟩
    clear hS
    by_cases c1001 : t998 = true
    · replace H := if_yes c1001 H
      have c1001b0 : t998 = true := c1001
      have c1001b1 : (!t998) = false := by rw [c1001b0]; rfl
      try rw [c1001b1]
      clear c1001
      by_cases c1002 : a965 = 1
      · replace H := if_yes c1002 H
        have c1002b0 : (a965 == 1) = true := beq_iff_eq.mpr c1002
        have c1002b1 : (a965 != 1) = false := bne_eq_false_iff_eq.mpr c1002
        clear c1002
        go_wp2_with fail
        refine start_ (n := 16) (S := (fun w' => w'.cell? ⟨g977, 2, none⟩ = some (.int .i64 t974.2.2.1) ∧ w'.cell? ⟨g967, 1, none⟩ = some (.int .i64 a962) ∧ w'.cell? ⟨g967, 3, none⟩ = some (.int .i64 a964))) (ds := []) #[false, false, false, false, false, false, false, false, false, false, false, false, false, false, false, false] (by kernel_rfl) rfl rfl (⟨blk_cellv ((HS.out.drew).at1) 2 rfl, blk_cellv ((HS.out.drew).at0) 1 rfl, blk_cellv ((HS.out.drew).at0) 3 rfl⟩) (fun hHeld => ?_)
        have HS_ := Aside0.mk HS.out.drew
        clear HS
        generalize World.drew _ = w1004 at HS_ hHeld ⊢
        have HS := HS_
        clear HS_
        refine pure_ (i := 0) (N := some 24) (v := ?_) (a' := ?_) #[true, false, false, false, false, false, false, false, false, false, false, false, false, false, false, false] rfl rfl (by kernel_rfl) (fun _ _ _ h => h) (Or.inl ⟨by rfl, ?_⟩) ?_ ?_
        rotate_left
        · intro w'
          go_simp
          with_reducible rfl
        rotate_left
        · simp only [Act.put, List.setIfInBounds_toArray, List.set_cons_zero, List.set_cons_succ, i64_w, i32_w]
          rfl
        refine pure_ (i := 1) (N := some 25) (v := ?_) (a' := ?_) #[true, true, false, false, false, false, false, false, false, false, false, false, false, false, false, false] rfl rfl (by kernel_rfl) (fun _ _ _ h => h) (Or.inl ⟨by rfl, ?_⟩) ?_ ?_
        rotate_left
        · intro w'
          go_simp
          with_reducible rfl
        rotate_left
        · simp only [Act.put, List.setIfInBounds_toArray, List.set_cons_zero, List.set_cons_succ, i64_w, i32_w]
          rfl
        refine pure_ (i := 4) (N := some 28) (v := ?_) (a' := ?_) #[true, true, false, false, true, false, false, false, false, false, false, false, false, false, false, false] rfl rfl (by kernel_rfl) (fun _ _ _ h => h) (Or.inl ⟨by rfl, ?_⟩) ?_ ?_
        rotate_left
        · intro w'
          go_simp
          with_reducible rfl
        rotate_left
        · simp only [Act.put, List.setIfInBounds_toArray, List.set_cons_zero, List.set_cons_succ, i64_w, i32_w]
          rfl
        refine pure_ (i := 6) (N := some 30) (v := ?_) (a' := ?_) #[true, true, false, false, true, false, true, false, false, false, false, false, false, false, false, false] rfl rfl (by kernel_rfl) (fun _ _ _ h => h) (Or.inl ⟨by rfl, ?_⟩) ?_ ?_
        rotate_left
        · intro w'
          go_simp
          with_reducible rfl
        rotate_left
        · simp only [Act.put, List.setIfInBounds_toArray, List.set_cons_zero, List.set_cons_succ, i64_w, i32_w]
          rfl
        refine take_ (i := 2) (N := some 26) (v := ?_) (a' := ?_) #[true, true, true, false, true, false, true, false, false, false, false, false, false, false, false, false] rfl rfl (by kernel_rfl) (fun _ _ _ h => h) (Or.inl ⟨by rfl, ?_⟩) hHeld ?_ ?_
        rotate_left
        · rintro w' hS'
          obtain ⟨s0, s1, s2⟩ := hS'
          go_simp
          with_reducible rfl
        rotate_left
        · simp only [Act.put, List.setIfInBounds_toArray, List.set_cons_zero, List.set_cons_succ, i64_w, i32_w]
          rfl
        refine take_ (i := 5) (N := some 29) (v := ?_) (a' := ?_) #[true, true, true, false, true, true, true, false, false, false, false, false, false, false, false, false] rfl rfl (by kernel_rfl) (fun _ _ _ h => h) (Or.inl ⟨by rfl, ?_⟩) hHeld ?_ ?_
        rotate_left
        · rintro w' hS'
          obtain ⟨s0, s1, s2⟩ := hS'
          go_simp
          with_reducible rfl
        rotate_left
        · simp only [Act.put, List.setIfInBounds_toArray, List.set_cons_zero, List.set_cons_succ, i64_w, i32_w]
          rfl
        refine take_ (i := 7) (N := some 31) (v := ?_) (a' := ?_) #[true, true, true, false, true, true, true, true, false, false, false, false, false, false, false, false] rfl rfl (by kernel_rfl) (fun _ _ _ h => h) (Or.inl ⟨by rfl, ?_⟩) hHeld ?_ ?_
        rotate_left
        · rintro w' hS'
          obtain ⟨s0, s1, s2⟩ := hS'
          go_simp
          with_reducible rfl
        rotate_left
        · simp only [Act.put, List.setIfInBounds_toArray, List.set_cons_zero, List.set_cons_succ, i64_w, i32_w]
          rfl
        refine pure_ (i := 8) (N := some 32) (v := ?_) (a' := ?_) #[true, true, true, false, true, true, true, true, true, false, false, false, false, false, false, false] rfl rfl (by kernel_rfl) (fun _ _ _ h => h) (Or.inl ⟨by rfl, ?_⟩) ?_ ?_
        rotate_left
        · intro w'
          go_simp
          with_reducible rfl
        rotate_left
        · simp only [Act.put, List.setIfInBounds_toArray, List.set_cons_zero, List.set_cons_succ, i64_w, i32_w]
          rfl
        refine pure_ (i := 9) (N := some 33) (v := ?_) (a' := ?_) #[true, true, true, false, true, true, true, true, true, true, false, false, false, false, false, false] rfl rfl (by kernel_rfl) (fun _ _ _ h => h) (Or.inl ⟨by rfl, ?_⟩) ?_ ?_
        rotate_left
        · intro w'
          go_simp
          with_reducible rfl
        rotate_left
        · simp only [Act.put, List.setIfInBounds_toArray, List.set_cons_zero, List.set_cons_succ, i64_w, i32_w]
          rfl
        refine pure_ (i := 10) (N := some 34) (v := ?_) (a' := ?_) #[true, true, true, false, true, true, true, true, true, true, true, false, false, false, false, false] rfl rfl (by kernel_rfl) (fun _ _ _ h => h) (Or.inl ⟨by rfl, ?_⟩) ?_ ?_
        rotate_left
        · intro w'
          go_simp
          with_reducible rfl
        rotate_left
        · simp only [Act.put, List.setIfInBounds_toArray, List.set_cons_zero, List.set_cons_succ, i64_w, i32_w]
          rfl
        refine one_ (i := 3) (N := some 27) #[true, true, true, true, true, true, true, true, true, true, true, false, false, false, false, false] rfl rfl (by kernel_rfl) (by decide) (fun K hK => ?_)
        obtain ⟨t1005, HA1006, H⟩ := bind_some H
        refine goes_ Try.func17 (by kernel_rfl) rfl #[.int .i64 a966, .int .i64 0, .int .i64 t974.2.2.1] (by rfl) rfl rfl (by (try simp only [List.map_toArray, List.map_cons, List.map_nil]); first | done | rfl) ?_
        refine (ratio_Clamp.calls a966 0 t974.2.2.1 t1005 _ ⟨Sep.start _⟩ HA1006).mono ?_
        rintro e_ w1007 ⟨rfl, hS⟩
        replace HS : Aside0 (Sep (fps []) w [b1 g967 a961 a962 a963 a964, b2 g977 t974.1 t974.2.1 t974.2.2.1 t974.2.2.2.1 t974.2.2.2.2.1 t974.2.2.2.2.2.1 t974.2.2.2.2.2.2.1 t974.2.2.2.2.2.2.2.1] w1007) := ⟨HS.out.call hS⟩
        clear hS
        refine ⟨_, rfl, ?_⟩
        refine hK.out _ _ (⟨blk_cellv (HS.out.at1) 2 rfl, blk_cellv (HS.out.at0) 1 rfl, blk_cellv (HS.out.at0) 3 rfl⟩) (fun hHeld => ?_)
        clear hK K
        refine norm_ (a' := ?_) ?_ ?_
        rotate_left
        · show Act.put _ (some 27) _ = _
          simp only [Act.put, List.setIfInBounds_toArray, List.set_cons_zero, List.set_cons_succ, i64_w, i32_w]
          rfl
        refine one_ (i := 11) (N := some 35) #[true, true, true, true, true, true, true, true, true, true, true, true, false, false, false, false] rfl rfl (by kernel_rfl) (by decide) (fun K hK => ?_)
        refine slice_step (n := 2) (by rfl) (N := 35) rfl (cs := #[.int .i64 t1005, .int .i64 (wrap64 (256 + (wrap64 (100 * (wrap64 (a962 + a964))))))]) (t := 3) ?hr ?_
        case hr => first | (go_simp; done) | (go_simp; rfl)
        intro g1008 hg w1009 hbox hb
        replace HS : Aside0 (Sep (fps []) w [b1 g967 a961 a962 a963 a964, b2 g977 t974.1 t974.2.1 t974.2.2.1 t974.2.2.2.1 t974.2.2.2.2.1 t974.2.2.2.2.2.1 t974.2.2.2.2.2.2.1 t974.2.2.2.2.2.2.2.1, b3 g1008 t1005 (wrap64 (256 + (wrap64 (100 * (wrap64 (a962 + a964))))))] w1009) := ⟨HS.out.box hg hbox hb⟩
        clear hg hbox hb
        refine hK.out _ _ (⟨blk_cellv (HS.out.at1) 2 rfl, blk_cellv (HS.out.at0) 1 rfl, blk_cellv (HS.out.at0) 3 rfl⟩) (fun hHeld => ?_)
        clear hK K
        refine norm_ (a' := ?_) ?_ ?_
        rotate_left
        · show Act.put _ (some 35) _ = _
          simp only [Act.put, List.setIfInBounds_toArray, List.set_cons_zero, List.set_cons_succ, i64_w, i32_w]
          rfl
        refine one_ (i := 12) (N := some 36) #[true, true, true, true, true, true, true, true, true, true, true, true, true, false, false, false] rfl rfl (by kernel_rfl) (by decide) (fun K hK => ?_)
        obtain ⟨t1011, HA1012, H⟩ := bind_some H
        refine goes_ Try.func20 (by kernel_rfl) rfl #[.slice (some ⟨g1008, 0, none⟩) 2 2] (by rfl) rfl rfl (by (try simp only [List.map_toArray, List.map_cons, List.map_nil]); first | done | rfl) ?_
        refine (ratio_Mul.calls _ [t1005, wrap64 (256 + (wrap64 (100 * (wrap64 (a962 + a964)))))] (some ⟨g1008, 0, none⟩) 2 t1011 _ ⟨Rd.lit (l := []) (xs := [t1005, wrap64 (256 + (wrap64 (100 * (wrap64 (a962 + a964)))))]) HS.out 2 rfl (by simp)⟩ ⟨Sep.start _⟩ HA1012).mono ?_
        rintro e_ w1013 ⟨rfl, hS⟩
        replace HS : Aside0 (Sep (fps []) w [b1 g967 a961 a962 a963 a964, b2 g977 t974.1 t974.2.1 t974.2.2.1 t974.2.2.2.1 t974.2.2.2.2.1 t974.2.2.2.2.2.1 t974.2.2.2.2.2.2.1 t974.2.2.2.2.2.2.2.1, b3 g1008 t1005 (wrap64 (256 + (wrap64 (100 * (wrap64 (a962 + a964))))))] w1013) := ⟨HS.out.call hS⟩
        clear hS
        refine ⟨_, rfl, ?_⟩
        refine hK.out _ _ (⟨blk_cellv (HS.out.at1) 2 rfl, blk_cellv (HS.out.at0) 1 rfl, blk_cellv (HS.out.at0) 3 rfl⟩) (fun hHeld => ?_)
        clear hK K
        refine norm_ (a' := ?_) ?_ ?_
        rotate_left
        · show Act.put _ (some 36) _ = _
          simp only [Act.put, List.setIfInBounds_toArray, List.set_cons_zero, List.set_cons_succ, i64_w, i32_w]
          rfl
        refine one_ (i := 13) (N := some 37) #[true, true, true, true, true, true, true, true, true, true, true, true, true, true, false, false] rfl rfl (by kernel_rfl) (by decide) (fun K hK => ?_)
        refine slice_step (n := 2) (by rfl) (N := 37) rfl (cs := #[.int .i64 512, .int .i64 t1011]) (t := 3) ?hr ?_
        case hr => first | (go_simp; done) | (go_simp; rfl)
        intro g1014 hg w1015 hbox hb
        replace HS : Aside0 (Sep (fps []) w [b1 g967 a961 a962 a963 a964, b2 g977 t974.1 t974.2.1 t974.2.2.1 t974.2.2.2.1 t974.2.2.2.2.1 t974.2.2.2.2.2.1 t974.2.2.2.2.2.2.1 t974.2.2.2.2.2.2.2.1, b3 g1008 t1005 (wrap64 (256 + (wrap64 (100 * (wrap64 (a962 + a964)))))), b3 g1014 512 t1011] w1015) := ⟨HS.out.box hg hbox hb⟩
        clear hg hbox hb
        refine hK.out _ _ (⟨blk_cellv (HS.out.at1) 2 rfl, blk_cellv (HS.out.at0) 1 rfl, blk_cellv (HS.out.at0) 3 rfl⟩) (fun hHeld => ?_)
        clear hK K
        refine norm_ (a' := ?_) ?_ ?_
        rotate_left
        · show Act.put _ (some 37) _ = _
          simp only [Act.put, List.setIfInBounds_toArray, List.set_cons_zero, List.set_cons_succ, i64_w, i32_w]
          rfl
        refine one_ (i := 14) (N := some 38) #[true, true, true, true, true, true, true, true, true, true, true, true, true, true, true, false] rfl rfl (by kernel_rfl) (by decide) (fun K hK => ?_)
        obtain ⟨t1017, HA1018, H⟩ := bind_some H
        refine goes_ Try.func18 (by kernel_rfl) rfl #[.slice (some ⟨g1014, 0, none⟩) 2 2] (by rfl) rfl rfl (by (try simp only [List.map_toArray, List.map_cons, List.map_nil]); first | done | rfl) ?_
        refine (ratio_Add.calls _ [512, t1011] (some ⟨g1014, 0, none⟩) 2 t1017 _ ⟨Rd.lit (l := []) (xs := [512, t1011]) HS.out 3 rfl (by simp)⟩ ⟨Sep.start _⟩ HA1018).mono ?_
        rintro e_ w1019 ⟨rfl, hS⟩
        replace HS : Aside0 (Sep (fps []) w [b1 g967 a961 a962 a963 a964, b2 g977 t974.1 t974.2.1 t974.2.2.1 t974.2.2.2.1 t974.2.2.2.2.1 t974.2.2.2.2.2.1 t974.2.2.2.2.2.2.1 t974.2.2.2.2.2.2.2.1, b3 g1008 t1005 (wrap64 (256 + (wrap64 (100 * (wrap64 (a962 + a964)))))), b3 g1014 512 t1011] w1019) := ⟨HS.out.call hS⟩
        clear hS
        refine ⟨_, rfl, ?_⟩
        refine hK.out _ _ (⟨blk_cellv (HS.out.at1) 2 rfl, blk_cellv (HS.out.at0) 1 rfl, blk_cellv (HS.out.at0) 3 rfl⟩) (fun hHeld => ?_)
        clear hK K
        refine norm_ (a' := ?_) ?_ ?_
        rotate_left
        · show Act.put _ (some 38) _ = _
          simp only [Act.put, List.setIfInBounds_toArray, List.set_cons_zero, List.set_cons_succ, i64_w, i32_w]
          rfl
        refine pure_ (i := 15) (N := some 6) (v := ?_) (a' := ?_) #[true, true, true, true, true, true, true, true, true, true, true, true, true, true, true, true] rfl rfl (by kernel_rfl) (fun _ _ _ h => h) (Or.inl ⟨by rfl, ?_⟩) ?_ ?_
        rotate_left
        · intro w'
          go_simp
          with_reducible rfl
        rotate_left
        · simp only [Act.put, List.setIfInBounds_toArray, List.set_cons_zero, List.set_cons_succ, i64_w, i32_w]
          rfl
        refine done_ (by kernel_rfl) ?_
        replace HS : Aside0 (Sep (fps []) w [] w1019) := ⟨HS.out.sub (.cons _ (.cons _ (.cons _ (.cons _ .slnil))))⟩
        go_wp2_with fail
        go_ret
        rw [← some_eq H]
        exact ⟨(by first | rfl | (simp [IntKind.wrap_u32]; done)), HS.out⟩
      · replace H := if_no c1002 H
        have c1002b0 : (a965 == 1) = false := beq_eq_false_iff_ne.mpr c1002
        have c1002b1 : (a965 != 1) = true := bne_iff_ne.mpr c1002
        clear c1002
        by_cases c1020 : a965 = 10
        · replace H := if_yes c1020 H
          have c1020b0 : (a965 == 10) = true := beq_iff_eq.mpr c1020
          have c1020b1 : (a965 != 10) = false := bne_eq_false_iff_eq.mpr c1020
          clear c1020
          replace HS : Aside0 (Sep (fps []) w [b1 g967 a961 a962 a963 a964] w1000) := ⟨HS.out.sub (.cons_cons _ (.cons _ .slnil))⟩
          have hc1021 : w1000.cell? ⟨g967, 3, none⟩ = some (.int .i64 a964) := blk_cellv (HS.out.at0) 3 rfl
          go_wp2_with (first | ((with_reducible refine gate_dst (N := 43) rfl ?_); refine slice_on (n := 2) ?hg (N := 43) ?hd (cs := #[.int .i64 200, .int .i64 a964]) (t := 3) ?hr ?_; (case hd => rfl); (case hg => rfl); (case hr => first | (go_simp; done) | (go_simp; rfl)); intro g1022 hg w1023 hbox hb; clear hc1021; replace HS : Aside0 (Sep (fps []) w [b1 g967 a961 a962 a963 a964, b3 g1022 200 a964] w1023) := ⟨HS.out.box hg hbox hb⟩; clear hg hbox hb))
          obtain ⟨t1025, HA1026, H⟩ := bind_some H
          refine (ratio_Mul.calls _ [200, a964] (some ⟨g1022, 0, none⟩) 2 t1025 _ ⟨Rd.lit (l := []) (xs := [200, a964]) HS.out 1 rfl (by simp)⟩ ⟨Sep.start _⟩ HA1026).mono ?_
          rintro e_ w1027 ⟨rfl, hS⟩
          replace HS : Aside0 (Sep (fps []) w [b1 g967 a961 a962 a963 a964, b3 g1022 200 a964] w1027) := ⟨HS.out.call hS⟩
          clear hS
          go_wp2_with (first | ((with_reducible refine gate_dst (N := 45) rfl ?_); refine slice_on (n := 2) ?hg (N := 45) ?hd (cs := #[.int .i64 256, .int .i64 t1025]) (t := 3) ?hr ?_; (case hd => rfl); (case hg => rfl); (case hr => first | (go_simp; done) | (go_simp; rfl)); intro g1028 hg w1029 hbox hb; replace HS : Aside0 (Sep (fps []) w [b1 g967 a961 a962 a963 a964, b3 g1022 200 a964, b3 g1028 256 t1025] w1029) := ⟨HS.out.box hg hbox hb⟩; clear hg hbox hb))
          obtain ⟨t1031, HA1032, H⟩ := bind_some H
          refine (ratio_Add.calls _ [256, t1025] (some ⟨g1028, 0, none⟩) 2 t1031 _ ⟨Rd.lit (l := []) (xs := [256, t1025]) HS.out 2 rfl (by simp)⟩ ⟨Sep.start _⟩ HA1032).mono ?_
          rintro e_ w1033 ⟨rfl, hS⟩
          replace HS : Aside0 (Sep (fps []) w [b1 g967 a961 a962 a963 a964, b3 g1022 200 a964, b3 g1028 256 t1025] w1033) := ⟨HS.out.call hS⟩
          clear hS
          replace HS : Aside0 (Sep (fps []) w [] w1033) := ⟨HS.out.sub (.cons _ (.cons _ (.cons _ .slnil)))⟩
          go_wp2_with fail
          go_ret
          rw [← some_eq H]
          exact ⟨(by first | rfl | (simp [IntKind.wrap_u32]; done)), HS.out⟩
        · replace H := if_no c1020 H
          have c1020b0 : (a965 == 10) = false := beq_eq_false_iff_ne.mpr c1020
          have c1020b1 : (a965 != 10) = true := bne_iff_ne.mpr c1020
          clear c1020
          replace HS : Aside0 (Sep (fps []) w [b1 g967 a961 a962 a963 a964] w1000) := ⟨HS.out.sub (.cons_cons _ (.cons _ .slnil))⟩
          replace HS : Aside0 (Sep (fps []) w [] w1000) := ⟨HS.out.sub (.cons _ .slnil)⟩
          go_wp2_with fail
          go_ret
          rw [← some_eq H]
          exact ⟨(by first | rfl | (simp [IntKind.wrap_u32]; done)), HS.out⟩
    · replace H := if_no c1001 H
      have c1001b0 : t998 = false := by simpa using c1001
      have c1001b1 : (!t998) = true := by rw [c1001b0]; rfl
      try rw [c1001b1]
      clear c1001
      replace HS : Aside0 (Sep (fps []) w [] w1000) := ⟨HS.out.sub (.cons _ (.cons _ .slnil))⟩
      go_wp2_with fail
      go_ret
      rw [← some_eq H]
      exact ⟨(by first | rfl | (simp [IntKind.wrap_u32]; done)), HS.out⟩
  · replace H := if_no c997 H
    have c997b0 : (t974.2.2.2.2.2.2.2.2 == 0) = false := beq_eq_false_iff_ne.mpr c997
    have c997b1 : (t974.2.2.2.2.2.2.2.2 != 0) = true := bne_iff_ne.mpr c997
    clear c997
    go_wp2_with (first | ((with_reducible refine gate_dst (N := 7) rfl ?_); refine box_on ?hg (N := 7) ?hd (cs := #[.int .i64 0, .int .i64 0, .int .i64 0, .int .i64 0, .int .i64 0, .int .i64 0, .int .i64 0, .int .i64 0]) (t := 39) ?hr ?_; (case hd => rfl); (case hg => rfl); (case hr => first | (go_simp; done) | (go_simp; rfl)); intro g977 hg w978 hbox hb; replace HS : Aside0 (Sep (fps []) w [b1 g967 a961 a962 a963 a964, b2 g977 0 0 0 0 0 0 0 0] w978) := ⟨HS.out.box hg hbox hb⟩; clear hg hbox hb; have hc980 : w978.cell? ⟨g977, 0, none⟩ = some (.int .i64 0) := blk_cellv (HS.out.at1) 0 rfl; have hz981 : w978.frozen? ⟨g977, 0, none⟩ = false := blk_fz (HS.out.at1) 0; have hc982 : w978.cell? ⟨g977, 1, none⟩ = some (.int .i64 0) := blk_cellv (HS.out.at1) 1 rfl; have hz983 : w978.frozen? ⟨g977, 1, none⟩ = false := blk_fz (HS.out.at1) 1; have hc984 : w978.cell? ⟨g977, 2, none⟩ = some (.int .i64 0) := blk_cellv (HS.out.at1) 2 rfl; have hz985 : w978.frozen? ⟨g977, 2, none⟩ = false := blk_fz (HS.out.at1) 2; have hc986 : w978.cell? ⟨g977, 3, none⟩ = some (.int .i64 0) := blk_cellv (HS.out.at1) 3 rfl; have hz987 : w978.frozen? ⟨g977, 3, none⟩ = false := blk_fz (HS.out.at1) 3; have hc988 : w978.cell? ⟨g977, 4, none⟩ = some (.int .i64 0) := blk_cellv (HS.out.at1) 4 rfl; have hz989 : w978.frozen? ⟨g977, 4, none⟩ = false := blk_fz (HS.out.at1) 4; have hc990 : w978.cell? ⟨g977, 5, none⟩ = some (.int .i64 0) := blk_cellv (HS.out.at1) 5 rfl; have hz991 : w978.frozen? ⟨g977, 5, none⟩ = false := blk_fz (HS.out.at1) 5; have hc992 : w978.cell? ⟨g977, 6, none⟩ = some (.int .i64 0) := blk_cellv (HS.out.at1) 6 rfl; have hz993 : w978.frozen? ⟨g977, 6, none⟩ = false := blk_fz (HS.out.at1) 6; have hc994 : w978.cell? ⟨g977, 7, none⟩ = some (.int .i64 0) := blk_cellv (HS.out.at1) 7 rfl; have hz995 : w978.frozen? ⟨g977, 7, none⟩ = false := blk_fz (HS.out.at1) 7) | ((with_reducible refine gate_store (t := 39) (p := 7) rfl ?_); refine store_event (w1 := (World.setCell (World.setCell (World.setCell (World.setCell (World.setCell (World.setCell (World.setCell (World.setCell w978 ⟨g977, 0, none⟩ (.int .i64 t974.1)) ⟨g977, 1, none⟩ (.int .i64 t974.2.1)) ⟨g977, 2, none⟩ (.int .i64 t974.2.2.1)) ⟨g977, 3, none⟩ (.int .i64 t974.2.2.2.1)) ⟨g977, 4, none⟩ (.int .i64 t974.2.2.2.2.1)) ⟨g977, 5, none⟩ (.int .i64 t974.2.2.2.2.2.1)) ⟨g977, 6, none⟩ (.int .i64 t974.2.2.2.2.2.2.1)) ⟨g977, 7, none⟩ (.int .i64 t974.2.2.2.2.2.2.2.1))) rfl (t := 39) (p := 7) rfl rfl ?hr ?_; (case hr => first | (go_simp; done) | (go_simp; rfl)); intro w996 hst; clear hc980 hz981 hc982 hz983 hc984 hz985 hc986 hz987 hc988 hz989 hc990 hz991 hc992 hz993 hc994 hz995; replace HS : Aside0 (Sep (fps []) w [b1 g967 a961 a962 a963 a964, b2 g977 t974.1 t974.2.1 t974.2.2.1 t974.2.2.2.1 t974.2.2.2.2.1 t974.2.2.2.2.2.1 t974.2.2.2.2.2.2.1 t974.2.2.2.2.2.2.2.1] w996) := ⟨by rw [hst]; exact HS.out.setAll (l1 := [b1 g967 a961 a962 a963 a964]) (l2 := []) [.int .i64 t974.1, .int .i64 t974.2.1, .int .i64 t974.2.2.1, .int .i64 t974.2.2.2.1, .int .i64 t974.2.2.2.2.1, .int .i64 t974.2.2.2.2.2.1, .int .i64 t974.2.2.2.2.2.2.1, .int .i64 t974.2.2.2.2.2.2.2.1] rfl⟩; clear hst; replace HS : Aside0 (Sep (fps []) w [] w996) := ⟨HS.out.sub (.cons _ (.cons _ .slnil))⟩))
    go_ret
    rw [← some_eq H]
    exact ⟨(by first | rfl | (simp [IntKind.wrap_u32]; done)), HS.out⟩
end Go.Proofs.Ytgkpcboaiaiahaa.C

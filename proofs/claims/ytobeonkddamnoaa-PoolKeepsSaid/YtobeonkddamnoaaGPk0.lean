/- Each function of the group Pk does what its plain function says, and changes nothing that was there; proved by walking its code. No condition. -/
import Derived.Test.YtobeonkddamnoaaQw
import Derived.Test.YtobeonkddamnoaaMPk
namespace Go.Proofs.Ytobeonkddamnoaa.C
open Go.RowKit Go.Proofs.YtobeonkddamnoaaW.PrintWords Go.Proofs.YtobeonkddamnoaaW.PrintLast Go.Proofs.Ytobeonkddamnoaa.Q Go.Proofs.Ytobeonkddamnoaa.M
set_option linter.unusedVariables false
set_option linter.unusedSimpArgs false
def b1 (g : Nat) (x0 : Int) (x1 : Int) (x2 : Int) (x3 : Int) : Ob := blk g #[.int .i64 x0, .int .i64 x1, .int .i64 x2, .int .i64 x3] 49
def b2 (g : Nat) (x0 : Int) (x1 : Int) (x2 : Int) (x3 : Int) (x4 : Int) (x5 : Int) (x6 : Int) (x7 : Int) : Ob := blk g #[.int .i64 x0, .int .i64 x1, .int .i64 x2, .int .i64 x3, .int .i64 x4, .int .i64 x5, .int .i64 x6, .int .i64 x7] 120
def b3 (g : Nat) (x0 : Int) (x1 : Int) : Ob := blk g #[.int .i64 x0, .int .i64 x1] 3
def b4 (g : Nat) (x0 : Int) (x1 : Int) (x2 : Int) : Ob := blk g #[.int .i64 x0, .int .i64 x1, .int .i64 x2] 3
def r5 (A : Option Addr) (n c : Nat) (l : List Int) : Ob := row 23 (Value.int .u32) (.slice A n c) l
def b6 (g : Nat) (x0 : Option Addr) (x1 : Nat) (x2 : Nat) (x3 : Int) : Ob := blk g #[.slice x0 x1 x2, .int .u64 x3] 115
def b7 (g : Nat) (x0 : Nat) (x1 : Int) (x2 : Int) (x3 : Int) (x4 : Int) : Ob := blk g #[.pointer (some ⟨x0, 0, none⟩), .int .i64 x1, .int .i64 x2, .int .i64 x3, .int .i64 x4] 126
def b8 (g : Nat) (x0 : Int) (x1 : Int) (x2 : Int) : Ob := blk g #[.int .i64 x0, .int .i64 x1, .int .i64 x2] 134
def b9 (g : Nat) (x0 : Nat) : Ob := blk g #[.pointer (some ⟨x0, 0, none⟩)] 50
def b10 (g : Nat) (x0 : Int) : Ob := blk g #[.int .i64 x0] 3
def b11 (g : Nat) (x0 : Int) : Ob := blk g #[.int .u32 x0] 23
def b12 (g : Nat) (x0 : Int) (x1 : Int) (x2 : Int) (x3 : Int) (x4 : Int) (x5 : Int) (x6 : Int) : Ob := blk g #[.int .i64 x0, .int .i64 x1, .int .i64 x2, .int .i64 x3, .int .i64 x4, .int .i64 x5, .int .i64 x6] 102
def r13 (A : Option Addr) (n c : Nat) (l : List Int) : Ob := row 3 (Value.int .i64) (.slice A n c) l
def r14 (A : Option Addr) (n c : Nat) (l : List Bool) : Ob := row 4 (Value.bool) (.slice A n c) l

set_option maxHeartbeats 30000000 in
set_option maxRecDepth 100000 in
theorem ratio_Clamp.calls (a43 : Int) (a44 : Int) (a45 : Int) (r : Int) (w : World)   (HS : Aside0 (Sep (fps []) w [] w)) (H : Aside0 (ratio_Clamp.f a43 a44 a45 = some r)) :
    Calls Try.prog 123 #[.int .i64 a43, .int .i64 a44, .int .i64 a45] w fun e w' => e = .returned (.int .i64 r) ∧ Sep (fps []) w [] w' := by
  unfold ratio_Clamp.f at H
  go_enter Try.func123, Try.ntmps123
  by_cases c46 : a43 > a45
  · replace H := if_yes c46 H
    have c46b0 : decide (a45 < a43) = true := decide_eq_true c46
    clear c46
    go_wp2_with fail
    go_ret
    rw [← some_eq H]
    exact ⟨(by first | rfl | (simp [IntKind.wrap_u32]; done)), HS.out⟩
  · replace H := if_no c46 H
    have c46b0 : decide (a45 < a43) = false := decide_eq_false c46
    clear c46
    by_cases c47 : a43 < a44
    · replace H := if_yes c47 H
      have c47b0 : decide (a43 < a44) = true := decide_eq_true c47
      skip
      go_wp2_with fail
      clear c47
      go_ret
      rw [← some_eq H]
      exact ⟨(by first | rfl | (simp [IntKind.wrap_u32]; done)), HS.out⟩
    · replace H := if_no c47 H
      have c47b0 : decide (a43 < a44) = false := decide_eq_false c47
      skip
      go_wp2_with fail
      clear c47
      go_ret
      rw [← some_eq H]
      exact ⟨(by first | rfl | (simp [IntKind.wrap_u32]; done)), HS.out⟩

set_option maxHeartbeats 30000000 in
set_option maxRecDepth 100000 in
theorem plan_within.calls (a40 : Int) (a41 : Int) (a42 : Int) (r : Bool) (w : World)   (HS : Aside0 (Sep (fps []) w [] w)) (H : Aside0 (plan_within.f a40 a41 a42 = some r)) :
    Calls Try.prog 115 #[.int .i64 a40, .int .i64 a41, .int .i64 a42] w fun e w' => e = .returned (.bool r) ∧ Sep (fps []) w [] w' := by
  unfold plan_within.f at H
  go_enter Try.func115, Try.ntmps115
  go_wp2_with fail
  obtain ⟨t48, HA49, H⟩ := bind_some H
  refine (ratio_Clamp.calls a40 a41 a42 t48 _ ⟨Sep.start _⟩ HA49).mono ?_
  rintro e_ w50 ⟨rfl, hS⟩
  replace HS : Aside0 (Sep (fps []) w [] w50) := ⟨HS.out.call hS⟩
  clear hS
  go_wp2_with fail
  go_ret
  rw [← some_eq H]
  exact ⟨(by first | rfl | (simp [IntKind.wrap_u32]; done)), HS.out⟩

set_option maxHeartbeats 30000000 in
set_option maxRecDepth 100000 in
theorem plan_Check.calls (a32 : Int) (a33 : Int) (a34 : Int) (a35 : Int) (r : Int) (w : World)   (HS : Aside0 (Sep (fps []) w [] w)) (H : Aside0 (plan_Check.f a32 a33 a34 a35 = some r)) :
    Calls Try.prog 105 #[.agg #[.int .i64 a32, .int .i64 a33, .int .i64 a34, .int .i64 a35]] w fun e w' => e = .returned (.int .i64 r) ∧ Sep (fps []) w [] w' := by
  unfold plan_Check.f at H
  go_enter Try.func105, Try.ntmps105
  go_wp2_with (first | ((with_reducible refine gate_dst (N := 1) rfl ?_); refine box_on ?hg (N := 1) ?hd (cs := #[.int .i64 a32, .int .i64 a33, .int .i64 a34, .int .i64 a35]) (t := 49) ?hr ?_; (case hd => rfl); (case hg => rfl); (case hr => first | (go_simp; done) | (go_simp; rfl)); intro g36 hg w37 hbox hb; replace HS : Aside0 (Sep (fps []) w [b1 g36 a32 a33 a34 a35] w37) := ⟨HS.out.box hg hbox hb⟩; clear hg hbox hb; have hc39 : w37.cell? ⟨g36, 0, none⟩ = some (.int .i64 a32) := blk_cellv (HS.out.at0) 0 rfl))
  clear hc39
  obtain ⟨t51, HA52, H⟩ := bind_some H
  refine (plan_within.calls a32 1 1048576 t51 _ ⟨Sep.start _⟩ HA52).mono ?_
  rintro e_ w53 ⟨rfl, hS⟩
  replace HS : Aside0 (Sep (fps []) w [b1 g36 a32 a33 a34 a35] w53) := ⟨HS.out.call hS⟩
  clear hS
  by_cases c54 : t51 = true
  · replace H := if_yes c54 H
    have c54b0 : t51 = true := c54
    have c54b1 : (!t51) = false := by rw [c54b0]; rfl
    clear c54
    have hc55 : w53.cell? ⟨g36, 1, none⟩ = some (.int .i64 a33) := blk_cellv (HS.out.at0) 1 rfl
    go_wp2_with fail
    clear hc55
    obtain ⟨t56, HA57, H⟩ := bind_some H
    refine (plan_within.calls a33 16 256 t56 _ ⟨Sep.start _⟩ HA57).mono ?_
    rintro e_ w58 ⟨rfl, hS⟩
    replace HS : Aside0 (Sep (fps []) w [b1 g36 a32 a33 a34 a35] w58) := ⟨HS.out.call hS⟩
    clear hS
    by_cases c59 : t56 = true
    · replace H := if_yes c59 H
      have c59b0 : t56 = true := c59
      have c59b1 : (!t56) = false := by rw [c59b0]; rfl
      clear c59
      have hc60 : w58.cell? ⟨g36, 2, none⟩ = some (.int .i64 a34) := blk_cellv (HS.out.at0) 2 rfl
      go_wp2_with fail
      clear hc60
      obtain ⟨t61, HA62, H⟩ := bind_some H
      refine (plan_within.calls a34 1 4096 t61 _ ⟨Sep.start _⟩ HA62).mono ?_
      rintro e_ w63 ⟨rfl, hS⟩
      replace HS : Aside0 (Sep (fps []) w [b1 g36 a32 a33 a34 a35] w63) := ⟨HS.out.call hS⟩
      clear hS
      by_cases c64 : t61 = true
      · replace H := if_yes c64 H
        have c64b0 : t61 = true := c64
        have c64b1 : (!t61) = false := by rw [c64b0]; rfl
        clear c64
        have hc65 : w63.cell? ⟨g36, 3, none⟩ = some (.int .i64 a35) := blk_cellv (HS.out.at0) 3 rfl
        go_wp2_with fail
        clear hc65
        obtain ⟨t66, HA67, H⟩ := bind_some H
        refine (plan_within.calls a35 1 65536 t66 _ ⟨Sep.start _⟩ HA67).mono ?_
        rintro e_ w68 ⟨rfl, hS⟩
        replace HS : Aside0 (Sep (fps []) w [b1 g36 a32 a33 a34 a35] w68) := ⟨HS.out.call hS⟩
        clear hS
        by_cases c69 : t66 = true
        · replace H := if_yes c69 H
          have c69b0 : t66 = true := c69
          have c69b1 : (!t66) = false := by rw [c69b0]; rfl
          clear c69
          by_cases c72 : (wrap64 (a32 * a33)) ≤ 4194304
          · replace H := if_yes c72 H
            have c72b0 : decide ((wrap64 (a32 * a33)) ≤ 4194304) = true := decide_eq_true c72
            clear c72
            have hc70 : w68.cell? ⟨g36, 0, none⟩ = some (.int .i64 a32) := blk_cellv (HS.out.at0) 0 rfl
            have hc71 : w68.cell? ⟨g36, 1, none⟩ = some (.int .i64 a33) := blk_cellv (HS.out.at0) 1 rfl
            replace HS : Aside0 (Sep (fps []) w [] w68) := ⟨HS.out.sub (.cons _ .slnil)⟩
            go_wp2_with fail
            clear hc70 hc71
            go_ret
            rw [← some_eq H]
            exact ⟨(by first | rfl | (simp [IntKind.wrap_u32]; done)), HS.out⟩
          · replace H := if_no c72 H
            have c72b0 : decide ((wrap64 (a32 * a33)) ≤ 4194304) = false := decide_eq_false c72
            clear c72
            have hc70 : w68.cell? ⟨g36, 0, none⟩ = some (.int .i64 a32) := blk_cellv (HS.out.at0) 0 rfl
            have hc71 : w68.cell? ⟨g36, 1, none⟩ = some (.int .i64 a33) := blk_cellv (HS.out.at0) 1 rfl
            replace HS : Aside0 (Sep (fps []) w [] w68) := ⟨HS.out.sub (.cons _ .slnil)⟩
            go_wp2_with fail
            clear hc70 hc71
            go_ret
            rw [← some_eq H]
            exact ⟨(by first | rfl | (simp [IntKind.wrap_u32]; done)), HS.out⟩
        · replace H := if_no c69 H
          have c69b0 : t66 = false := by simpa using c69
          have c69b1 : (!t66) = true := by rw [c69b0]; rfl
          clear c69
          replace HS : Aside0 (Sep (fps []) w [] w68) := ⟨HS.out.sub (.cons _ .slnil)⟩
          go_wp2_with fail
          go_ret
          rw [← some_eq H]
          exact ⟨(by first | rfl | (simp [IntKind.wrap_u32]; done)), HS.out⟩
      · replace H := if_no c64 H
        have c64b0 : t61 = false := by simpa using c64
        have c64b1 : (!t61) = true := by rw [c64b0]; rfl
        clear c64
        replace HS : Aside0 (Sep (fps []) w [] w63) := ⟨HS.out.sub (.cons _ .slnil)⟩
        go_wp2_with fail
        go_ret
        rw [← some_eq H]
        exact ⟨(by first | rfl | (simp [IntKind.wrap_u32]; done)), HS.out⟩
    · replace H := if_no c59 H
      have c59b0 : t56 = false := by simpa using c59
      have c59b1 : (!t56) = true := by rw [c59b0]; rfl
      clear c59
      replace HS : Aside0 (Sep (fps []) w [] w58) := ⟨HS.out.sub (.cons _ .slnil)⟩
      go_wp2_with fail
      go_ret
      rw [← some_eq H]
      exact ⟨(by first | rfl | (simp [IntKind.wrap_u32]; done)), HS.out⟩
  · replace H := if_no c54 H
    have c54b0 : t51 = false := by simpa using c54
    have c54b1 : (!t51) = true := by rw [c54b0]; rfl
    clear c54
    replace HS : Aside0 (Sep (fps []) w [] w53) := ⟨HS.out.sub (.cons _ .slnil)⟩
    go_wp2_with fail
    go_ret
    rw [← some_eq H]
    exact ⟨(by first | rfl | (simp [IntKind.wrap_u32]; done)), HS.out⟩

set_option maxHeartbeats 30000000 in
set_option maxRecDepth 100000 in
theorem ratio_counts.calls (a105 : Int) (r : Int) (w : World)   (HS : Aside0 (Sep (fps []) w [] w)) (H : Aside0 (ratio_counts.f a105 = some r)) :
    Calls Try.prog 116 #[.int .i64 a105] w fun e w' => e = .returned (.int .i64 r) ∧ Sep (fps []) w [] w' := by
  unfold ratio_counts.f at H
  go_enter Try.func116, Try.ntmps116
  go_wp2_with fail
  obtain ⟨t106, HA107, H⟩ := bind_some H
  refine (ratio_Clamp.calls a105 0 1125899906842624 t106 _ ⟨Sep.start _⟩ HA107).mono ?_
  rintro e_ w108 ⟨rfl, hS⟩
  replace HS : Aside0 (Sep (fps []) w [] w108) := ⟨HS.out.call hS⟩
  clear hS
  go_wp2_with fail
  go_ret
  rw [← some_eq H]
  exact ⟨(by first | rfl | (simp [IntKind.wrap_u32]; done)), HS.out⟩

set_option maxHeartbeats 30000000 in
set_option maxRecDepth 100000 in
theorem ratio_zero.calls (a104 : Int) (r : Bool) (w : World)   (HS : Aside0 (Sep (fps []) w [] w)) (H : Aside0 (ratio_zero.f a104 = some r)) :
    Calls Try.prog 118 #[.int .i64 a104] w fun e w' => e = .returned (.bool r) ∧ Sep (fps []) w [] w' := by
  unfold ratio_zero.f at H
  go_enter Try.func118, Try.ntmps118
  go_wp2_with fail
  obtain ⟨t109, HA110, H⟩ := bind_some H
  refine (ratio_counts.calls a104 t109 _ ⟨Sep.start _⟩ HA110).mono ?_
  rintro e_ w111 ⟨rfl, hS⟩
  replace HS : Aside0 (Sep (fps []) w [] w111) := ⟨HS.out.call hS⟩
  clear hS
  go_wp2_with fail
  go_ret
  rw [← some_eq H]
  exact ⟨(by first | rfl | (simp [IntKind.wrap_u32]; done)), HS.out⟩

set_option maxHeartbeats 30000000 in
set_option maxRecDepth 100000 in
theorem slices_IndexFunc_int_int_F118.calls (k : Nat) (l90 : List Int) (A91 : Option Addr) (n92 : Nat) (r : Int) (w : World) (HR93 : Aside0 (Rd (Kd.int .i64) (fps []) w A91 l90.length l90))  (HS : Aside0 (Sep (fps []) w [] w)) (H : Aside0 (slices_IndexFunc_int_int_F118.f k l90 = some r)) :
    Calls Try.prog 124 #[.slice A91 l90.length n92, .func (.func 118) #[] #[]] w fun e w' => e = .returned (.int .i64 r) ∧ Sep (fps []) w [] w' := by
  unfold slices_IndexFunc_int_int_F118.f at H
  go_enter Try.func124, Try.ntmps124
  go_wp2_with fail
  obtain ⟨o116, AL117, H⟩ := bind_some H
  go_loopg [8] k (fun kq v8 wc => ∃ (x120 : Int), v8 = .int .i64 x120 ∧ Aside0 (slices_IndexFunc_int_int_F118.lo0 kq l90 x120 = some o116) ∧ Aside0 (Sep (fps []) w [] wc))
  case atStart => exact ⟨(0), (by first | rfl | (simp [IntKind.wrap_u32]; done)), AL117, ⟨HS.out⟩⟩
  case round =>
    clear AL117 HS
    obtain ⟨x120, rfl, AL117, HS⟩ := hrel
    obtain ⟨w118, rfl⟩ : ∃ x : World, x = wr := ⟨_, rfl⟩
    cases gk with
    | zero => exact absurd AL117.out (by simp [slices_IndexFunc_int_int_F118.lo0])
    | succ k119 =>
      have AL0 := AL117.out
      rw [slices_IndexFunc_int_int_F118.lo0] at AL0
      clear AL117
      have AL117 := Aside0.mk AL0
      clear AL0
      by_cases c121 : x120 < (l90.length : Int)
      · replace AL117 := if_yes c121 AL117
        have c121b0 : decide (x120 < (l90.length : Int)) = true := decide_eq_true c121
        clear c121
        by_cases c122 : 0 ≤ x120
        · replace AL117 := if_yes c122 AL117
          have c122b0 : decide (0 ≤ x120) = true := decide_eq_true c122
          have c122p : (0 ≤ x120) = True := eq_true c122
          clear c122
          have ip123 : (x120 < (l90.length : Int)) = True := eq_true (of_decide_eq_true c121b0)
          obtain ⟨hx124a, hx124e, hx124⟩ := Kd.at_int (Rd.read (fun _ _ _ _ h => h) HR93.out HS.out.fr) x120 (of_decide_eq_true c122b0) (of_decide_eq_true c121b0); cases hx124e
          go_wp2_with fail
          clear hx124
          obtain ⟨t112, HA125, AL117⟩ := bind_some AL117
          refine (ratio_zero.calls (rd l90 x120) t112 _ ⟨Sep.start _⟩ HA125).mono ?_
          rintro e_ w126 ⟨rfl, hS⟩
          replace HS : Aside0 (Sep (fps []) w [] w126) := ⟨HS.out.call hS⟩
          clear hS
          by_cases c127 : t112 = true
          · replace AL117 := if_yes c127 AL117
            have c127b0 : t112 = true := c127
            have c127b1 : (!t112) = false := by rw [c127b0]; rfl
            clear c127
            go_wp2_with fail
            have ho := some_eq AL117
            subst ho
            have H := lp_ret H
            go_ret
            rw [← some_eq H]
            exact ⟨(by first | rfl | (simp [IntKind.wrap_u32]; done)), HS.out⟩
          · replace AL117 := if_no c127 AL117
            have c127b0 : t112 = false := by simpa using c127
            have c127b1 : (!t112) = true := by rw [c127b0]; rfl
            clear c127
            go_wp2_with fail
            go_roundg k119
            case measure => exact Nat.lt_succ_self _
            case rel => exact ⟨(wrap64 (x120 + 1)), (by first | rfl | (simp [IntKind.wrap_u32]; done)), Aside0.mk AL117.out, ⟨HS.out⟩⟩
        · replace AL117 := if_no c122 AL117
          have c122b0 : decide (0 ≤ x120) = false := decide_eq_false c122
          clear c122
          exact (none_no AL117).elim
      · replace AL117 := if_no c121 AL117
        have c121b0 : decide (x120 < (l90.length : Int)) = false := decide_eq_false c121
        clear c121
        have ho := some_eq AL117
        subst ho
        clear AL117
        have H := lp_out H
        go_wp2_with fail
        go_ret
        rw [← some_eq H]
        exact ⟨(by first | rfl | (simp [IntKind.wrap_u32]; done)), HS.out⟩

set_option maxHeartbeats 30000000 in
set_option maxRecDepth 100000 in
theorem slices_ContainsFunc_int_int_F118.calls (k : Nat) (l86 : List Int) (A87 : Option Addr) (n88 : Nat) (r : Bool) (w : World) (HR89 : Aside0 (Rd (Kd.int .i64) (fps []) w A87 l86.length l86))  (HS : Aside0 (Sep (fps []) w [] w)) (H : Aside0 (slices_ContainsFunc_int_int_F118.f k l86 = some r)) :
    Calls Try.prog 117 #[.slice A87 l86.length n88, .func (.func 118) #[] #[]] w fun e w' => e = .returned (.bool r) ∧ Sep (fps []) w [] w' := by
  unfold slices_ContainsFunc_int_int_F118.f at H
  go_enter Try.func117, Try.ntmps117
  go_wp2_with fail
  obtain ⟨t129, HA130, H⟩ := bind_some H
  refine (slices_IndexFunc_int_int_F118.calls _ l86 A87 n88 t129 _ ⟨Rd.pass (l := []) (by decide) (fun _ _ _ _ h => h) HR89.out HS.out⟩ ⟨Sep.start _⟩ HA130).mono ?_
  rintro e_ w131 ⟨rfl, hS⟩
  replace HS : Aside0 (Sep (fps []) w [] w131) := ⟨HS.out.call hS⟩
  clear hS
  go_wp2_with fail
  go_ret
  rw [← some_eq H]
  exact ⟨(by first | rfl | (simp [IntKind.wrap_u32]; done)), HS.out⟩

set_option maxHeartbeats 30000000 in
set_option maxRecDepth 100000 in
theorem ratio_Mul.calls (k : Nat) (l82 : List Int) (A83 : Option Addr) (n84 : Nat) (r : Int) (w : World) (HR85 : Aside0 (Rd (Kd.int .i64) (fps []) w A83 l82.length l82))  (HS : Aside0 (Sep (fps []) w [] w)) (H : Aside0 (ratio_Mul.f k l82 = some r)) :
    Calls Try.prog 107 #[.slice A83 l82.length n84] w fun e w' => e = .returned (.int .i64 r) ∧ Sep (fps []) w [] w' := by
  unfold ratio_Mul.f at H
  go_enter Try.func107, Try.ntmps107
  go_wp2_with fail
  obtain ⟨t132, HA133, H⟩ := bind_some H
  refine (slices_ContainsFunc_int_int_F118.calls _ l82 A83 n84 t132 _ ⟨Rd.pass (l := []) (by decide) (fun _ _ _ _ h => h) HR85.out HS.out⟩ ⟨Sep.start _⟩ HA133).mono ?_
  rintro e_ w134 ⟨rfl, hS⟩
  replace HS : Aside0 (Sep (fps []) w [] w134) := ⟨HS.out.call hS⟩
  clear hS
  by_cases c135 : t132 = true
  · replace H := if_yes c135 H
    have c135b0 : t132 = true := c135
    have c135b1 : (!t132) = false := by rw [c135b0]; rfl
    clear c135
    go_wp2_with fail
    go_ret
    rw [← some_eq H]
    exact ⟨(by first | rfl | (simp [IntKind.wrap_u32]; done)), HS.out⟩
  · replace H := if_no c135 H
    have c135b0 : t132 = false := by simpa using c135
    have c135b1 : (!t132) = true := by rw [c135b0]; rfl
    clear c135
    go_wp2_with fail
    obtain ⟨o137, AL138, H⟩ := bind_some H
    go_loopg [3, 11] k (fun kq v3 v11 wc => ∃ (x141 : Int) (x142 : Int), v3 = .int .i64 x141 ∧ v11 = .int .i64 x142 ∧ Aside0 (ratio_Mul.lo0 kq l82 x141 x142 = some o137) ∧ Aside0 (Sep (fps []) w [] wc))
    case atStart => exact ⟨(1), (0), (by first | rfl | (simp [IntKind.wrap_u32]; done)), (by first | rfl | (simp [IntKind.wrap_u32]; done)), AL138, ⟨HS.out⟩⟩
    case round =>
      clear AL138 HS
      obtain ⟨x141, x142, rfl, rfl, AL138, HS⟩ := hrel
      obtain ⟨w139, rfl⟩ : ∃ x : World, x = wr := ⟨_, rfl⟩
      cases gk with
      | zero => exact absurd AL138.out (by simp [ratio_Mul.lo0])
      | succ k140 =>
        have AL0 := AL138.out
        rw [ratio_Mul.lo0] at AL0
        clear AL138
        have AL138 := Aside0.mk AL0
        clear AL0
        by_cases c143 : x142 < (l82.length : Int)
        · replace AL138 := if_yes c143 AL138
          have c143b0 : decide (x142 < (l82.length : Int)) = true := decide_eq_true c143
          clear c143
          by_cases c144 : 0 ≤ x142
          · replace AL138 := if_yes c144 AL138
            have c144b0 : decide (0 ≤ x142) = true := decide_eq_true c144
            have c144p : (0 ≤ x142) = True := eq_true c144
            clear c144
            have ip145 : (x142 < (l82.length : Int)) = True := eq_true (of_decide_eq_true c143b0)
            obtain ⟨hx146a, hx146e, hx146⟩ := Kd.at_int (Rd.read (fun _ _ _ _ h => h) HR85.out HS.out.fr) x142 (of_decide_eq_true c144b0) (of_decide_eq_true c143b0); cases hx146e
            go_wp2_with fail
            clear hx146
            obtain ⟨t147, HA148, AL138⟩ := bind_some AL138
            refine (ratio_counts.calls (rd l82 x142) t147 _ ⟨Sep.start _⟩ HA148).mono ?_
            rintro e_ w149 ⟨rfl, hS⟩
            replace HS : Aside0 (Sep (fps []) w [] w149) := ⟨HS.out.call hS⟩
            clear hS
            by_cases c150 : t147 = 0
            · replace AL138 := if_yes c150 AL138
              have c150b0 : (t147 == 0) = true := beq_iff_eq.mpr c150
              have c150b1 : (t147 != 0) = false := bne_eq_false_iff_eq.mpr c150
              exact (none_no AL138).elim
            · replace AL138 := if_no c150 AL138
              have c150b0 : (t147 == 0) = false := beq_eq_false_iff_ne.mpr c150
              have c150b1 : (t147 != 0) = true := bne_iff_ne.mpr c150
              by_cases c151 : x141 ≤ (wrap64 (Int.tdiv (1125899906842624 : Int) t147))
              · replace AL138 := if_yes c151 AL138
                have c151b0 : decide (x141 ≤ (wrap64 (Int.tdiv (1125899906842624 : Int) t147))) = true := decide_eq_true c151
                clear c151
                skip
                go_wp2_with fail
                clear c150
                go_roundg k140
                case measure => exact Nat.lt_succ_self _
                case rel => exact ⟨(wrap64 (x141 * t147)), (wrap64 (x142 + 1)), (by first | rfl | (simp [IntKind.wrap_u32]; done)), (by first | rfl | (simp [IntKind.wrap_u32]; done)), Aside0.mk AL138.out, ⟨HS.out⟩⟩
              · replace AL138 := if_no c151 AL138
                have c151b0 : decide (x141 ≤ (wrap64 (Int.tdiv (1125899906842624 : Int) t147))) = false := decide_eq_false c151
                clear c151
                skip
                go_wp2_with fail
                clear c150
                go_roundg k140
                case measure => exact Nat.lt_succ_self _
                case rel => exact ⟨(1125899906842624), (wrap64 (x142 + 1)), (by first | rfl | (simp [IntKind.wrap_u32]; done)), (by first | rfl | (simp [IntKind.wrap_u32]; done)), Aside0.mk AL138.out, ⟨HS.out⟩⟩
          · replace AL138 := if_no c144 AL138
            have c144b0 : decide (0 ≤ x142) = false := decide_eq_false c144
            clear c144
            exact (none_no AL138).elim
        · replace AL138 := if_no c143 AL138
          have c143b0 : decide (x142 < (l82.length : Int)) = false := decide_eq_false c143
          clear c143
          have ho := some_eq AL138
          subst ho
          clear AL138
          go_wp2_with fail
          go_ret
          rw [← some_eq H]
          exact ⟨(by first | rfl | (simp [IntKind.wrap_u32]; done)), HS.out⟩

set_option maxHeartbeats 30000000 in
set_option maxRecDepth 100000 in
theorem ratio_Add.calls (k : Nat) (l159 : List Int) (A160 : Option Addr) (n161 : Nat) (r : Int) (w : World) (HR162 : Aside0 (Rd (Kd.int .i64) (fps []) w A160 l159.length l159))  (HS : Aside0 (Sep (fps []) w [] w)) (H : Aside0 (ratio_Add.f k l159 = some r)) :
    Calls Try.prog 106 #[.slice A160 l159.length n161] w fun e w' => e = .returned (.int .i64 r) ∧ Sep (fps []) w [] w' := by
  unfold ratio_Add.f at H
  go_enter Try.func106, Try.ntmps106
  go_wp2_with fail
  obtain ⟨o164, AL165, H⟩ := bind_some H
  go_loopg [3, 8] k (fun kq v3 v8 wc => ∃ (x168 : Int) (x169 : Int), v3 = .int .i64 x168 ∧ v8 = .int .i64 x169 ∧ Aside0 (ratio_Add.lo0 kq l159 x168 x169 = some o164) ∧ Aside0 (Sep (fps []) w [] wc))
  case atStart => exact ⟨(0), (0), (by first | rfl | (simp [IntKind.wrap_u32]; done)), (by first | rfl | (simp [IntKind.wrap_u32]; done)), AL165, ⟨HS.out⟩⟩
  case round =>
    clear AL165 HS
    obtain ⟨x168, x169, rfl, rfl, AL165, HS⟩ := hrel
    obtain ⟨w166, rfl⟩ : ∃ x : World, x = wr := ⟨_, rfl⟩
    cases gk with
    | zero => exact absurd AL165.out (by simp [ratio_Add.lo0])
    | succ k167 =>
      have AL0 := AL165.out
      rw [ratio_Add.lo0] at AL0
      clear AL165
      have AL165 := Aside0.mk AL0
      clear AL0
      by_cases c170 : x169 < (l159.length : Int)
      · replace AL165 := if_yes c170 AL165
        have c170b0 : decide (x169 < (l159.length : Int)) = true := decide_eq_true c170
        clear c170
        by_cases c171 : 0 ≤ x169
        · replace AL165 := if_yes c171 AL165
          have c171b0 : decide (0 ≤ x169) = true := decide_eq_true c171
          have c171p : (0 ≤ x169) = True := eq_true c171
          clear c171
          have ip172 : (x169 < (l159.length : Int)) = True := eq_true (of_decide_eq_true c170b0)
          obtain ⟨hx173a, hx173e, hx173⟩ := Kd.at_int (Rd.read (fun _ _ _ _ h => h) HR162.out HS.out.fr) x169 (of_decide_eq_true c171b0) (of_decide_eq_true c170b0); cases hx173e
          go_wp2_with fail
          clear hx173
          obtain ⟨t174, HA175, AL165⟩ := bind_some AL165
          refine (ratio_counts.calls (rd l159 x169) t174 _ ⟨Sep.start _⟩ HA175).mono ?_
          rintro e_ w176 ⟨rfl, hS⟩
          replace HS : Aside0 (Sep (fps []) w [] w176) := ⟨HS.out.call hS⟩
          clear hS
          by_cases c177 : 1125899906842624 < (wrap64 (x168 + t174))
          · replace AL165 := if_yes c177 AL165
            have c177b0 : decide (1125899906842624 < (wrap64 (x168 + t174))) = true := decide_eq_true c177
            skip
            go_wp2_with fail
            clear c177
            go_roundg k167
            case measure => exact Nat.lt_succ_self _
            case rel => exact ⟨(1125899906842624), (wrap64 (x169 + 1)), (by first | rfl | (simp [IntKind.wrap_u32]; done)), (by first | rfl | (simp [IntKind.wrap_u32]; done)), Aside0.mk AL165.out, ⟨HS.out⟩⟩
          · replace AL165 := if_no c177 AL165
            have c177b0 : decide (1125899906842624 < (wrap64 (x168 + t174))) = false := decide_eq_false c177
            skip
            go_wp2_with fail
            clear c177
            go_roundg k167
            case measure => exact Nat.lt_succ_self _
            case rel => exact ⟨(wrap64 (x168 + t174)), (wrap64 (x169 + 1)), (by first | rfl | (simp [IntKind.wrap_u32]; done)), (by first | rfl | (simp [IntKind.wrap_u32]; done)), Aside0.mk AL165.out, ⟨HS.out⟩⟩
        · replace AL165 := if_no c171 AL165
          have c171b0 : decide (0 ≤ x169) = false := decide_eq_false c171
          clear c171
          exact (none_no AL165).elim
      · replace AL165 := if_no c170 AL165
        have c170b0 : decide (x169 < (l159.length : Int)) = false := decide_eq_false c170
        clear c170
        have ho := some_eq AL165
        subst ho
        clear AL165
        go_wp2_with fail
        go_ret
        rw [← some_eq H]
        exact ⟨(by first | rfl | (simp [IntKind.wrap_u32]; done)), HS.out⟩

set_option maxHeartbeats 30000000 in
set_option maxRecDepth 100000 in
theorem ratio_by.calls (a388 : Int) (r : Int) (w : World)   (HS : Aside0 (Sep (fps []) w [] w)) (H : Aside0 (ratio_by.f a388 = some r)) :
    Calls Try.prog 119 #[.int .i64 a388] w fun e w' => e = .returned (.int .i64 r) ∧ Sep (fps []) w [] w' := by
  unfold ratio_by.f at H
  go_enter Try.func119, Try.ntmps119
  go_wp2_with fail
  obtain ⟨t389, HA390, H⟩ := bind_some H
  refine (ratio_counts.calls a388 t389 _ ⟨Sep.start _⟩ HA390).mono ?_
  rintro e_ w391 ⟨rfl, hS⟩
  replace HS : Aside0 (Sep (fps []) w [] w391) := ⟨HS.out.call hS⟩
  clear hS
  by_cases c392 : t389 < 1
  · replace H := if_yes c392 H
    have c392b0 : decide (t389 < 1) = true := decide_eq_true c392
    skip
    go_wp2_with fail
    clear c392
    go_ret
    rw [← some_eq H]
    exact ⟨(by first | rfl | (simp [IntKind.wrap_u32]; done)), HS.out⟩
  · replace H := if_no c392 H
    have c392b0 : decide (t389 < 1) = false := decide_eq_false c392
    skip
    go_wp2_with fail
    clear c392
    go_ret
    rw [← some_eq H]
    exact ⟨(by first | rfl | (simp [IntKind.wrap_u32]; done)), HS.out⟩

set_option maxHeartbeats 30000000 in
set_option maxRecDepth 100000 in
theorem ratio_Up.calls (a383 : Int) (a384 : Int) (r : Int) (w : World)   (HS : Aside0 (Sep (fps []) w [] w)) (H : Aside0 (ratio_Up.f a383 a384 = some r)) :
    Calls Try.prog 108 #[.int .i64 a383, .int .i64 a384] w fun e w' => e = .returned (.int .i64 r) ∧ Sep (fps []) w [] w' := by
  unfold ratio_Up.f at H
  go_enter Try.func108, Try.ntmps108
  go_wp2_with fail
  obtain ⟨t385, HA386, H⟩ := bind_some H
  refine (ratio_counts.calls a383 t385 _ ⟨Sep.start _⟩ HA386).mono ?_
  rintro e_ w387 ⟨rfl, hS⟩
  replace HS : Aside0 (Sep (fps []) w [] w387) := ⟨HS.out.call hS⟩
  clear hS
  go_wp2_with fail
  obtain ⟨t393, HA394, H⟩ := bind_some H
  refine (ratio_by.calls a384 t393 _ ⟨Sep.start _⟩ HA394).mono ?_
  rintro e_ w395 ⟨rfl, hS⟩
  replace HS : Aside0 (Sep (fps []) w [] w395) := ⟨HS.out.call hS⟩
  clear hS
  go_wp2_with fail
  obtain ⟨t396, HA397, H⟩ := bind_some H
  refine (ratio_by.calls a384 t396 _ ⟨Sep.start _⟩ HA397).mono ?_
  rintro e_ w398 ⟨rfl, hS⟩
  replace HS : Aside0 (Sep (fps []) w [] w398) := ⟨HS.out.call hS⟩
  clear hS
  by_cases c399 : t396 = 0
  · replace H := if_yes c399 H
    have c399b0 : (t396 == 0) = true := beq_iff_eq.mpr c399
    have c399b1 : (t396 != 0) = false := bne_eq_false_iff_eq.mpr c399
    exact (none_no H).elim
  · replace H := if_no c399 H
    have c399b0 : (t396 == 0) = false := beq_eq_false_iff_ne.mpr c399
    have c399b1 : (t396 != 0) = true := bne_iff_ne.mpr c399
    skip
    go_wp2_with fail
    clear c399
    go_ret
    rw [← some_eq H]
    exact ⟨(by first | rfl | (simp [IntKind.wrap_u32]; done)), HS.out⟩

set_option maxHeartbeats 30000000 in
set_option maxRecDepth 100000 in
theorem plan_Of.calls (k : Nat) (a18 : Int) (a19 : Int) (a20 : Int) (a21 : Int) (r : Int × Int × Int × Int × Int × Int × Int × Int × Int) (w : World)   (HS : Aside0 (Sep (fps []) w [] w)) (H : Aside0 (plan_Of.f k a18 a19 a20 a21 = some r)) :
    Calls Try.prog 76 #[.agg #[.int .i64 a18, .int .i64 a19, .int .i64 a20, .int .i64 a21]] w fun e w' => e = .returned (.tuple #[.agg #[.int .i64 r.1, .int .i64 r.2.1, .int .i64 r.2.2.1, .int .i64 r.2.2.2.1, .int .i64 r.2.2.2.2.1, .int .i64 r.2.2.2.2.2.1, .int .i64 r.2.2.2.2.2.2.1, .int .i64 r.2.2.2.2.2.2.2.1], .int .i64 r.2.2.2.2.2.2.2.2]) ∧ Sep (fps []) w [] w' := by
  unfold plan_Of.f at H
  go_enter Try.func76, Try.ntmps76
  go_wp2_with (first | ((with_reducible refine gate_dst (N := 1) rfl ?_); refine box_on ?hg (N := 1) ?hd (cs := #[.int .i64 a18, .int .i64 a19, .int .i64 a20, .int .i64 a21]) (t := 49) ?hr ?_; (case hd => rfl); (case hg => rfl); (case hr => first | (go_simp; done) | (go_simp; rfl)); intro g22 hg w23 hbox hb; replace HS : Aside0 (Sep (fps []) w [b1 g22 a18 a19 a20 a21] w23) := ⟨HS.out.box hg hbox hb⟩; clear hg hbox hb) | ((with_reducible refine gate_dst (N := 2) rfl ?_); refine box_on ?hg (N := 2) ?hd (cs := #[.int .i64 0, .int .i64 0, .int .i64 0, .int .i64 0, .int .i64 0, .int .i64 0, .int .i64 0, .int .i64 0]) (t := 120) ?hr ?_; (case hd => rfl); (case hg => rfl); (case hr => first | (go_simp; done) | (go_simp; rfl)); intro g25 hg w26 hbox hb; replace HS : Aside0 (Sep (fps []) w [b1 g22 a18 a19 a20 a21, b2 g25 0 0 0 0 0 0 0 0] w26) := ⟨HS.out.box hg hbox hb⟩; clear hg hbox hb; have hc28 : w26.cell? ⟨g22, 0, none⟩ = some (.int .i64 a18) := blk_cellv (HS.out.at0) 0 rfl; have hc29 : w26.cell? ⟨g22, 1, none⟩ = some (.int .i64 a19) := blk_cellv (HS.out.at0) 1 rfl; have hc30 : w26.cell? ⟨g22, 2, none⟩ = some (.int .i64 a20) := blk_cellv (HS.out.at0) 2 rfl; have hc31 : w26.cell? ⟨g22, 3, none⟩ = some (.int .i64 a21) := blk_cellv (HS.out.at0) 3 rfl))
  clear hc28 hc29 hc30 hc31
  obtain ⟨t73, HA74, H⟩ := bind_some H
  refine (plan_Check.calls a18 a19 a20 a21 t73 _ ⟨Sep.start _⟩ HA74).mono ?_
  rintro e_ w75 ⟨rfl, hS⟩
  replace HS : Aside0 (Sep (fps []) w [b1 g22 a18 a19 a20 a21, b2 g25 0 0 0 0 0 0 0 0] w75) := ⟨HS.out.call hS⟩
  clear hS
  by_cases c76 : t73 = 0
  · replace H := if_yes c76 H
    have c76b0 : (t73 == 0) = true := beq_iff_eq.mpr c76
    have c76b1 : (t73 != 0) = false := bne_eq_false_iff_eq.mpr c76
    clear c76
    go_wp2_with fail
    obtain ⟨t153, HA154, H⟩ := bind_some H
    obtain ⟨t179, HA180, H⟩ := bind_some H
    go_cut [5] (fun v5 wc => ∃ (g79 : Nat) (g156 : Nat) (g182 : Nat), v5 = .pointer (some ⟨g182, 0, none⟩) ∧ Aside0 (Sep (fps []) w [b1 g22 a18 a19 a20 a21, b2 g25 0 0 0 0 0 0 0 0, b3 g79 a18 a19, b4 g156 24 a20 t153, b2 g182 t179 (wrap64 (a19 - 8)) 0 0 0 0 0 0] wc))
    case first =>
      go_wp2_with fail
      refine start_ (n := 16) (S := (fun w' => w'.cell? ⟨g22, 2, none⟩ = some (.int .i64 a20) ∧ w'.cell? ⟨g22, 0, none⟩ = some (.int .i64 a18) ∧ w'.cell? ⟨g22, 1, none⟩ = some (.int .i64 a19))) (ds := []) #[false, false, false, false, false, false, false, false, false, false, false, false, false, false, false, false] (by kernel_rfl) rfl rfl (⟨blk_cellv ((HS.out.drew).at0) 2 rfl, blk_cellv ((HS.out.drew).at0) 0 rfl, blk_cellv ((HS.out.drew).at0) 1 rfl⟩) (fun hHeld => ?_)
      have HS_ := Aside0.mk HS.out.drew
      clear HS
      generalize World.drew _ = w204 at HS_ hHeld ⊢
      have HS := HS_
      clear HS_
      refine pure_ (i := 0) (N := some 12) (v := ?_) (a' := ?_) #[true, false, false, false, false, false, false, false, false, false, false, false, false, false, false, false] rfl rfl (by kernel_rfl) (fun _ _ _ h => h) (Or.inl ⟨by rfl, ?_⟩) ?_ ?_
      rotate_left
      · intro w'
        go_simp
        with_reducible rfl
      rotate_left
      · simp only [Act.put, List.setIfInBounds_toArray, List.set_cons_zero, List.set_cons_succ, i64_w, i32_w]
        rfl
      refine pure_ (i := 2) (N := some 14) (v := ?_) (a' := ?_) #[true, false, true, false, false, false, false, false, false, false, false, false, false, false, false, false] rfl rfl (by kernel_rfl) (fun _ _ _ h => h) (Or.inl ⟨by rfl, ?_⟩) ?_ ?_
      rotate_left
      · intro w'
        go_simp
        with_reducible rfl
      rotate_left
      · simp only [Act.put, List.setIfInBounds_toArray, List.set_cons_zero, List.set_cons_succ, i64_w, i32_w]
        rfl
      refine pure_ (i := 4) (N := some 16) (v := ?_) (a' := ?_) #[true, false, true, false, true, false, false, false, false, false, false, false, false, false, false, false] rfl rfl (by kernel_rfl) (fun _ _ _ h => h) (Or.inl ⟨by rfl, ?_⟩) ?_ ?_
      rotate_left
      · intro w'
        go_simp
        with_reducible rfl
      rotate_left
      · simp only [Act.put, List.setIfInBounds_toArray, List.set_cons_zero, List.set_cons_succ, i64_w, i32_w]
        rfl
      refine pure_ (i := 10) (N := some 22) (v := ?_) (a' := ?_) #[true, false, true, false, true, false, false, false, false, false, true, false, false, false, false, false] rfl rfl (by kernel_rfl) (fun _ _ _ h => h) (Or.inl ⟨by rfl, ?_⟩) ?_ ?_
      rotate_left
      · intro w'
        go_simp
        with_reducible rfl
      rotate_left
      · simp only [Act.put, List.setIfInBounds_toArray, List.set_cons_zero, List.set_cons_succ, i64_w, i32_w]
        rfl
      refine take_ (i := 1) (N := some 13) (v := ?_) (a' := ?_) #[true, true, true, false, true, false, false, false, false, false, true, false, false, false, false, false] rfl rfl (by kernel_rfl) (fun _ _ _ h => h) (Or.inl ⟨by rfl, ?_⟩) hHeld ?_ ?_
      rotate_left
      · rintro w' hS'
        obtain ⟨s0, s1, s2⟩ := hS'
        go_simp
        with_reducible rfl
      rotate_left
      · simp only [Act.put, List.setIfInBounds_toArray, List.set_cons_zero, List.set_cons_succ, i64_w, i32_w]
        rfl
      refine take_ (i := 3) (N := some 15) (v := ?_) (a' := ?_) #[true, true, true, true, true, false, false, false, false, false, true, false, false, false, false, false] rfl rfl (by kernel_rfl) (fun _ _ _ h => h) (Or.inl ⟨by rfl, ?_⟩) hHeld ?_ ?_
      rotate_left
      · rintro w' hS'
        obtain ⟨s0, s1, s2⟩ := hS'
        go_simp
        with_reducible rfl
      rotate_left
      · simp only [Act.put, List.setIfInBounds_toArray, List.set_cons_zero, List.set_cons_succ, i64_w, i32_w]
        rfl
      refine take_ (i := 5) (N := some 17) (v := ?_) (a' := ?_) #[true, true, true, true, true, true, false, false, false, false, true, false, false, false, false, false] rfl rfl (by kernel_rfl) (fun _ _ _ h => h) (Or.inl ⟨by rfl, ?_⟩) hHeld ?_ ?_
      rotate_left
      · rintro w' hS'
        obtain ⟨s0, s1, s2⟩ := hS'
        go_simp
        with_reducible rfl
      rotate_left
      · simp only [Act.put, List.setIfInBounds_toArray, List.set_cons_zero, List.set_cons_succ, i64_w, i32_w]
        rfl
      refine take_ (i := 11) (N := some 23) (v := ?_) (a' := ?_) #[true, true, true, true, true, true, false, false, false, false, true, true, false, false, false, false] rfl rfl (by kernel_rfl) (fun _ _ _ h => h) (Or.inl ⟨by rfl, ?_⟩) hHeld ?_ ?_
      rotate_left
      · rintro w' hS'
        obtain ⟨s0, s1, s2⟩ := hS'
        go_simp
        with_reducible rfl
      rotate_left
      · simp only [Act.put, List.setIfInBounds_toArray, List.set_cons_zero, List.set_cons_succ, i64_w, i32_w]
        rfl
      refine pure_ (i := 12) (N := some 24) (v := ?_) (a' := ?_) #[true, true, true, true, true, true, false, false, false, false, true, true, true, false, false, false] rfl rfl (by kernel_rfl) (fun _ _ _ h => h) (Or.inl ⟨by rfl, ?_⟩) ?_ ?_
      rotate_left
      · intro w'
        go_simp
        with_reducible rfl
      rotate_left
      · simp only [Act.put, List.setIfInBounds_toArray, List.set_cons_zero, List.set_cons_succ, i64_w, i32_w]
        rfl
      refine two_ (i := 6) (j := 14) (Ni := some 18) (Nj := some 5) #[true, true, true, true, true, true, true, false, false, false, true, true, true, false, false, false] #[true, true, true, true, true, true, false, false, false, false, true, true, true, false, true, false] rfl rfl rfl rfl (by kernel_rfl) (by decide) (by decide) (fun K hK => ?_) (fun K hK => ?_)
      · refine slice_step (n := 2) (by rfl) (N := 18) rfl (cs := #[.int .i64 a18, .int .i64 a19]) (t := 3) ?hr ?_
        case hr => first | (go_simp; done) | (go_simp; rfl)
        intro g205 hg w206 hbox hb
        replace HS : Aside0 (Sep (fps []) w [b1 g22 a18 a19 a20 a21, b2 g25 0 0 0 0 0 0 0 0, b3 g205 a18 a19] w206) := ⟨HS.out.box hg hbox hb⟩
        clear hg hbox hb
        refine hK.out _ _ (⟨blk_cellv (HS.out.at0) 2 rfl, blk_cellv (HS.out.at0) 0 rfl, blk_cellv (HS.out.at0) 1 rfl⟩) (fun hHeld => ?_)
        clear hK K
        refine norm_ (a' := ?_) ?_ ?_
        rotate_left
        · show Act.put _ (some 18) _ = _
          simp only [Act.put, List.setIfInBounds_toArray, List.set_cons_zero, List.set_cons_succ, i64_w, i32_w]
          rfl
        refine two_ (i := 7) (j := 14) (Ni := some 19) (Nj := some 5) #[true, true, true, true, true, true, true, true, false, false, true, true, true, false, false, false] #[true, true, true, true, true, true, true, false, false, false, true, true, true, false, true, false] rfl rfl rfl rfl (by kernel_rfl) (by decide) (by decide) (fun K hK => ?_) (fun K hK => ?_)
        · refine goes_ Try.func107 (by kernel_rfl) rfl #[.slice (some ⟨g205, 0, none⟩) 2 2] (by rfl) rfl rfl (by (try simp only [List.map_toArray, List.map_cons, List.map_nil]); first | done | rfl) ?_
          refine (ratio_Mul.calls _ [a18, a19] (some ⟨g205, 0, none⟩) 2 t153 _ ⟨Rd.lit (l := []) (xs := [a18, a19]) HS.out 2 rfl (by simp)⟩ ⟨Sep.start _⟩ HA154).mono ?_
          rintro e_ w209 ⟨rfl, hS⟩
          replace HS : Aside0 (Sep (fps []) w [b1 g22 a18 a19 a20 a21, b2 g25 0 0 0 0 0 0 0 0, b3 g205 a18 a19] w209) := ⟨HS.out.call hS⟩
          clear hS
          refine ⟨_, rfl, ?_⟩
          refine hK.out _ _ (⟨blk_cellv (HS.out.at0) 2 rfl, blk_cellv (HS.out.at0) 0 rfl, blk_cellv (HS.out.at0) 1 rfl⟩) (fun hHeld => ?_)
          clear hK K
          refine norm_ (a' := ?_) ?_ ?_
          rotate_left
          · show Act.put _ (some 19) _ = _
            simp only [Act.put, List.setIfInBounds_toArray, List.set_cons_zero, List.set_cons_succ, i64_w, i32_w]
            rfl
          refine two_ (i := 8) (j := 14) (Ni := some 20) (Nj := some 5) #[true, true, true, true, true, true, true, true, true, false, true, true, true, false, false, false] #[true, true, true, true, true, true, true, true, false, false, true, true, true, false, true, false] rfl rfl rfl rfl (by kernel_rfl) (by decide) (by decide) (fun K hK => ?_) (fun K hK => ?_)
          · refine slice_step (n := 3) (by rfl) (N := 20) rfl (cs := #[.int .i64 24, .int .i64 a20, .int .i64 t153]) (t := 3) ?hr ?_
            case hr => first | (go_simp; done) | (go_simp; rfl)
            intro g210 hg w211 hbox hb
            replace HS : Aside0 (Sep (fps []) w [b1 g22 a18 a19 a20 a21, b2 g25 0 0 0 0 0 0 0 0, b3 g205 a18 a19, b4 g210 24 a20 t153] w211) := ⟨HS.out.box hg hbox hb⟩
            clear hg hbox hb
            refine hK.out _ _ (⟨blk_cellv (HS.out.at0) 2 rfl, blk_cellv (HS.out.at0) 0 rfl, blk_cellv (HS.out.at0) 1 rfl⟩) (fun hHeld => ?_)
            clear hK K
            refine norm_ (a' := ?_) ?_ ?_
            rotate_left
            · show Act.put _ (some 20) _ = _
              simp only [Act.put, List.setIfInBounds_toArray, List.set_cons_zero, List.set_cons_succ, i64_w, i32_w]
              rfl
            refine two_ (i := 9) (j := 14) (Ni := some 21) (Nj := some 5) #[true, true, true, true, true, true, true, true, true, true, true, true, true, false, false, false] #[true, true, true, true, true, true, true, true, true, false, true, true, true, false, true, false] rfl rfl rfl rfl (by kernel_rfl) (by decide) (by decide) (fun K hK => ?_) (fun K hK => ?_)
            · refine goes_ Try.func106 (by kernel_rfl) rfl #[.slice (some ⟨g210, 0, none⟩) 3 3] (by rfl) rfl rfl (by (try simp only [List.map_toArray, List.map_cons, List.map_nil]); first | done | rfl) ?_
              refine (ratio_Add.calls _ [24, a20, t153] (some ⟨g210, 0, none⟩) 3 t179 _ ⟨Rd.lit (l := []) (xs := [24, a20, t153]) HS.out 3 rfl (by simp)⟩ ⟨Sep.start _⟩ HA180).mono ?_
              rintro e_ w214 ⟨rfl, hS⟩
              replace HS : Aside0 (Sep (fps []) w [b1 g22 a18 a19 a20 a21, b2 g25 0 0 0 0 0 0 0 0, b3 g205 a18 a19, b4 g210 24 a20 t153] w214) := ⟨HS.out.call hS⟩
              clear hS
              refine ⟨_, rfl, ?_⟩
              refine hK.out _ _ (⟨blk_cellv (HS.out.at0) 2 rfl, blk_cellv (HS.out.at0) 0 rfl, blk_cellv (HS.out.at0) 1 rfl⟩) (fun hHeld => ?_)
              clear hK K
              refine norm_ (a' := ?_) ?_ ?_
              rotate_left
              · show Act.put _ (some 21) _ = _
                simp only [Act.put, List.setIfInBounds_toArray, List.set_cons_zero, List.set_cons_succ, i64_w, i32_w]
                rfl
              refine pure_ (i := 13) (N := some 25) (v := ?_) (a' := ?_) #[true, true, true, true, true, true, true, true, true, true, true, true, true, true, false, false] rfl rfl (by kernel_rfl) (fun _ _ _ h => h) (Or.inl ⟨by rfl, ?_⟩) ?_ ?_
              rotate_left
              · intro w'
                go_simp
                with_reducible rfl
              rotate_left
              · simp only [Act.put, List.setIfInBounds_toArray, List.set_cons_zero, List.set_cons_succ, i64_w, i32_w]
                rfl
              refine one_ (i := 14) (N := some 5) #[true, true, true, true, true, true, true, true, true, true, true, true, true, true, true, false] rfl rfl (by kernel_rfl) (by decide) (fun K hK => ?_)
              refine box_step (by rfl) (N := 5) rfl (cs := #[.int .i64 0, .int .i64 0, .int .i64 0, .int .i64 0, .int .i64 0, .int .i64 0, .int .i64 0, .int .i64 0]) (t := 120) ?hr ?_
              case hr => first | (go_simp; done) | (go_simp; rfl)
              intro g215 hg w216 hbox hb
              replace HS : Aside0 (Sep (fps []) w [b1 g22 a18 a19 a20 a21, b2 g25 0 0 0 0 0 0 0 0, b3 g205 a18 a19, b4 g210 24 a20 t153, b2 g215 0 0 0 0 0 0 0 0] w216) := ⟨HS.out.box hg hbox hb⟩
              clear hg hbox hb
              refine hK.out _ _ (⟨blk_cellv (HS.out.at0) 2 rfl, blk_cellv (HS.out.at0) 0 rfl, blk_cellv (HS.out.at0) 1 rfl⟩) (fun hHeld => ?_)
              clear hK K
              refine norm_ (a' := ?_) ?_ ?_
              rotate_left
              · show Act.put _ (some 5) _ = _
                simp only [Act.put, List.setIfInBounds_toArray, List.set_cons_zero, List.set_cons_succ, i64_w, i32_w]
                rfl
              refine one_ (i := 15) (N := none) #[true, true, true, true, true, true, true, true, true, true, true, true, true, true, true, true] rfl rfl (by kernel_rfl) (by decide) (fun K hK => ?_)
              have hc219 := blk_cellv (v := .int .i64 0) (HS.out.at4) 0 rfl
              have hz220 := blk_fz (HS.out.at4) 0
              have hc221 := blk_cellv (v := .int .i64 0) (HS.out.at4) 1 rfl
              have hz222 := blk_fz (HS.out.at4) 1
              have hc223 := blk_cellv (v := .int .i64 0) (HS.out.at4) 2 rfl
              have hz224 := blk_fz (HS.out.at4) 2
              have hc225 := blk_cellv (v := .int .i64 0) (HS.out.at4) 3 rfl
              have hz226 := blk_fz (HS.out.at4) 3
              have hc227 := blk_cellv (v := .int .i64 0) (HS.out.at4) 4 rfl
              have hz228 := blk_fz (HS.out.at4) 4
              have hc229 := blk_cellv (v := .int .i64 0) (HS.out.at4) 5 rfl
              have hz230 := blk_fz (HS.out.at4) 5
              have hc231 := blk_cellv (v := .int .i64 0) (HS.out.at4) 6 rfl
              have hz232 := blk_fz (HS.out.at4) 6
              have hc233 := blk_cellv (v := .int .i64 0) (HS.out.at4) 7 rfl
              have hz234 := blk_fz (HS.out.at4) 7
              refine store_step (w1 := (World.setCell (World.setCell (World.setCell (World.setCell (World.setCell (World.setCell (World.setCell (World.setCell w216 ⟨g215, 0, none⟩ (.int .i64 t179)) ⟨g215, 1, none⟩ (.int .i64 (wrap64 (a19 - 8)))) ⟨g215, 2, none⟩ (.int .i64 0)) ⟨g215, 3, none⟩ (.int .i64 0)) ⟨g215, 4, none⟩ (.int .i64 0)) ⟨g215, 5, none⟩ (.int .i64 0)) ⟨g215, 6, none⟩ (.int .i64 0)) ⟨g215, 7, none⟩ (.int .i64 0))) (by rfl) rfl ?hr ?_
              case hr => first | (go_simp; done) | (go_simp; rfl)
              clear hc219 hz220 hc221 hz222 hc223 hz224 hc225 hz226 hc227 hz228 hc229 hz230 hc231 hz232 hc233 hz234
              intro w218 hst
              replace HS : Aside0 (Sep (fps []) w [b1 g22 a18 a19 a20 a21, b2 g25 0 0 0 0 0 0 0 0, b3 g205 a18 a19, b4 g210 24 a20 t153, b2 g215 t179 (wrap64 (a19 - 8)) 0 0 0 0 0 0] w218) := ⟨by rw [hst]; exact HS.out.setAll (l1 := [b1 g22 a18 a19 a20 a21, b2 g25 0 0 0 0 0 0 0 0, b3 g205 a18 a19, b4 g210 24 a20 t153]) (l2 := []) [.int .i64 t179, .int .i64 (wrap64 (a19 - 8)), .int .i64 0, .int .i64 0, .int .i64 0, .int .i64 0, .int .i64 0, .int .i64 0] rfl⟩
              clear hst
              refine hK.out _ _ (⟨blk_cellv (HS.out.at0) 2 rfl, blk_cellv (HS.out.at0) 0 rfl, blk_cellv (HS.out.at0) 1 rfl⟩) (fun hHeld => ?_)
              clear hK K
              refine done_ (by kernel_rfl) ?_
              go_wp2_with fail
              go_meet
              case rel => exact ⟨g205, g210, g215, (by first | rfl | (simp [IntKind.wrap_u32]; done)), ⟨(((((HS.out).front 4 (by simp)).front 4 (by simp)).front 4 (by simp)).front 4 (by simp)).front 4 (by simp)⟩⟩
            · refine box_step (by rfl) (N := 5) rfl (cs := #[.int .i64 0, .int .i64 0, .int .i64 0, .int .i64 0, .int .i64 0, .int .i64 0, .int .i64 0, .int .i64 0]) (t := 120) ?hr ?_
              case hr => first | (go_simp; done) | (go_simp; rfl)
              intro g235 hg w236 hbox hb
              replace HS : Aside0 (Sep (fps []) w [b1 g22 a18 a19 a20 a21, b2 g25 0 0 0 0 0 0 0 0, b3 g205 a18 a19, b4 g210 24 a20 t153, b2 g235 0 0 0 0 0 0 0 0] w236) := ⟨HS.out.box hg hbox hb⟩
              clear hg hbox hb
              refine hK.out _ _ (⟨blk_cellv (HS.out.at0) 2 rfl, blk_cellv (HS.out.at0) 0 rfl, blk_cellv (HS.out.at0) 1 rfl⟩) (fun hHeld => ?_)
              clear hK K
              refine norm_ (a' := ?_) ?_ ?_
              rotate_left
              · show Act.put _ (some 5) _ = _
                simp only [Act.put, List.setIfInBounds_toArray, List.set_cons_zero, List.set_cons_succ, i64_w, i32_w]
                rfl
              refine one_ (i := 9) (N := some 21) #[true, true, true, true, true, true, true, true, true, true, true, true, true, false, true, false] rfl rfl (by kernel_rfl) (by decide) (fun K hK => ?_)
              refine goes_ Try.func106 (by kernel_rfl) rfl #[.slice (some ⟨g210, 0, none⟩) 3 3] (by rfl) rfl rfl (by (try simp only [List.map_toArray, List.map_cons, List.map_nil]); first | done | rfl) ?_
              refine (ratio_Add.calls _ [24, a20, t153] (some ⟨g210, 0, none⟩) 3 t179 _ ⟨Rd.lit (l := []) (xs := [24, a20, t153]) HS.out 3 rfl (by simp)⟩ ⟨Sep.start _⟩ HA180).mono ?_
              rintro e_ w239 ⟨rfl, hS⟩
              replace HS : Aside0 (Sep (fps []) w [b1 g22 a18 a19 a20 a21, b2 g25 0 0 0 0 0 0 0 0, b3 g205 a18 a19, b4 g210 24 a20 t153, b2 g235 0 0 0 0 0 0 0 0] w239) := ⟨HS.out.call hS⟩
              clear hS
              refine ⟨_, rfl, ?_⟩
              refine hK.out _ _ (⟨blk_cellv (HS.out.at0) 2 rfl, blk_cellv (HS.out.at0) 0 rfl, blk_cellv (HS.out.at0) 1 rfl⟩) (fun hHeld => ?_)
              clear hK K
              refine norm_ (a' := ?_) ?_ ?_
              rotate_left
              · show Act.put _ (some 21) _ = _
                simp only [Act.put, List.setIfInBounds_toArray, List.set_cons_zero, List.set_cons_succ, i64_w, i32_w]
                rfl
              refine pure_ (i := 13) (N := some 25) (v := ?_) (a' := ?_) #[true, true, true, true, true, true, true, true, true, true, true, true, true, true, true, false] rfl rfl (by kernel_rfl) (fun _ _ _ h => h) (Or.inl ⟨by rfl, ?_⟩) ?_ ?_
              rotate_left
              · intro w'
                go_simp
                with_reducible rfl
              rotate_left
              · simp only [Act.put, List.setIfInBounds_toArray, List.set_cons_zero, List.set_cons_succ, i64_w, i32_w]
                rfl
              refine one_ (i := 15) (N := none) #[true, true, true, true, true, true, true, true, true, true, true, true, true, true, true, true] rfl rfl (by kernel_rfl) (by decide) (fun K hK => ?_)
              have hc241 := blk_cellv (v := .int .i64 0) (HS.out.at4) 0 rfl
              have hz242 := blk_fz (HS.out.at4) 0
              have hc243 := blk_cellv (v := .int .i64 0) (HS.out.at4) 1 rfl
              have hz244 := blk_fz (HS.out.at4) 1
              have hc245 := blk_cellv (v := .int .i64 0) (HS.out.at4) 2 rfl
              have hz246 := blk_fz (HS.out.at4) 2
              have hc247 := blk_cellv (v := .int .i64 0) (HS.out.at4) 3 rfl
              have hz248 := blk_fz (HS.out.at4) 3
              have hc249 := blk_cellv (v := .int .i64 0) (HS.out.at4) 4 rfl
              have hz250 := blk_fz (HS.out.at4) 4
              have hc251 := blk_cellv (v := .int .i64 0) (HS.out.at4) 5 rfl
              have hz252 := blk_fz (HS.out.at4) 5
              have hc253 := blk_cellv (v := .int .i64 0) (HS.out.at4) 6 rfl
              have hz254 := blk_fz (HS.out.at4) 6
              have hc255 := blk_cellv (v := .int .i64 0) (HS.out.at4) 7 rfl
              have hz256 := blk_fz (HS.out.at4) 7
              refine store_step (w1 := (World.setCell (World.setCell (World.setCell (World.setCell (World.setCell (World.setCell (World.setCell (World.setCell w239 ⟨g235, 0, none⟩ (.int .i64 t179)) ⟨g235, 1, none⟩ (.int .i64 (wrap64 (a19 - 8)))) ⟨g235, 2, none⟩ (.int .i64 0)) ⟨g235, 3, none⟩ (.int .i64 0)) ⟨g235, 4, none⟩ (.int .i64 0)) ⟨g235, 5, none⟩ (.int .i64 0)) ⟨g235, 6, none⟩ (.int .i64 0)) ⟨g235, 7, none⟩ (.int .i64 0))) (by rfl) rfl ?hr ?_
              case hr => first | (go_simp; done) | (go_simp; rfl)
              clear hc241 hz242 hc243 hz244 hc245 hz246 hc247 hz248 hc249 hz250 hc251 hz252 hc253 hz254 hc255 hz256
              intro w240 hst
              replace HS : Aside0 (Sep (fps []) w [b1 g22 a18 a19 a20 a21, b2 g25 0 0 0 0 0 0 0 0, b3 g205 a18 a19, b4 g210 24 a20 t153, b2 g235 t179 (wrap64 (a19 - 8)) 0 0 0 0 0 0] w240) := ⟨by rw [hst]; exact HS.out.setAll (l1 := [b1 g22 a18 a19 a20 a21, b2 g25 0 0 0 0 0 0 0 0, b3 g205 a18 a19, b4 g210 24 a20 t153]) (l2 := []) [.int .i64 t179, .int .i64 (wrap64 (a19 - 8)), .int .i64 0, .int .i64 0, .int .i64 0, .int .i64 0, .int .i64 0, .int .i64 0] rfl⟩
              clear hst
              refine hK.out _ _ (⟨blk_cellv (HS.out.at0) 2 rfl, blk_cellv (HS.out.at0) 0 rfl, blk_cellv (HS.out.at0) 1 rfl⟩) (fun hHeld => ?_)
              clear hK K
              refine done_ (by kernel_rfl) ?_
              go_wp2_with fail
              go_meet
              case rel => exact ⟨g205, g210, g235, (by first | rfl | (simp [IntKind.wrap_u32]; done)), ⟨(((((HS.out).front 4 (by simp)).front 4 (by simp)).front 4 (by simp)).front 4 (by simp)).front 4 (by simp)⟩⟩
          · refine box_step (by rfl) (N := 5) rfl (cs := #[.int .i64 0, .int .i64 0, .int .i64 0, .int .i64 0, .int .i64 0, .int .i64 0, .int .i64 0, .int .i64 0]) (t := 120) ?hr ?_
            case hr => first | (go_simp; done) | (go_simp; rfl)
            intro g257 hg w258 hbox hb
            replace HS : Aside0 (Sep (fps []) w [b1 g22 a18 a19 a20 a21, b2 g25 0 0 0 0 0 0 0 0, b3 g205 a18 a19, b2 g257 0 0 0 0 0 0 0 0] w258) := ⟨HS.out.box hg hbox hb⟩
            clear hg hbox hb
            refine hK.out _ _ (⟨blk_cellv (HS.out.at0) 2 rfl, blk_cellv (HS.out.at0) 0 rfl, blk_cellv (HS.out.at0) 1 rfl⟩) (fun hHeld => ?_)
            clear hK K
            refine norm_ (a' := ?_) ?_ ?_
            rotate_left
            · show Act.put _ (some 5) _ = _
              simp only [Act.put, List.setIfInBounds_toArray, List.set_cons_zero, List.set_cons_succ, i64_w, i32_w]
              rfl
            refine one_ (i := 8) (N := some 20) #[true, true, true, true, true, true, true, true, true, false, true, true, true, false, true, false] rfl rfl (by kernel_rfl) (by decide) (fun K hK => ?_)
            refine slice_step (n := 3) (by rfl) (N := 20) rfl (cs := #[.int .i64 24, .int .i64 a20, .int .i64 t153]) (t := 3) ?hr ?_
            case hr => first | (go_simp; done) | (go_simp; rfl)
            intro g260 hg w261 hbox hb
            replace HS : Aside0 (Sep (fps []) w [b1 g22 a18 a19 a20 a21, b2 g25 0 0 0 0 0 0 0 0, b3 g205 a18 a19, b2 g257 0 0 0 0 0 0 0 0, b4 g260 24 a20 t153] w261) := ⟨HS.out.box hg hbox hb⟩
            clear hg hbox hb
            refine hK.out _ _ (⟨blk_cellv (HS.out.at0) 2 rfl, blk_cellv (HS.out.at0) 0 rfl, blk_cellv (HS.out.at0) 1 rfl⟩) (fun hHeld => ?_)
            clear hK K
            refine norm_ (a' := ?_) ?_ ?_
            rotate_left
            · show Act.put _ (some 20) _ = _
              simp only [Act.put, List.setIfInBounds_toArray, List.set_cons_zero, List.set_cons_succ, i64_w, i32_w]
              rfl
            refine one_ (i := 9) (N := some 21) #[true, true, true, true, true, true, true, true, true, true, true, true, true, false, true, false] rfl rfl (by kernel_rfl) (by decide) (fun K hK => ?_)
            refine goes_ Try.func106 (by kernel_rfl) rfl #[.slice (some ⟨g260, 0, none⟩) 3 3] (by rfl) rfl rfl (by (try simp only [List.map_toArray, List.map_cons, List.map_nil]); first | done | rfl) ?_
            refine (ratio_Add.calls _ [24, a20, t153] (some ⟨g260, 0, none⟩) 3 t179 _ ⟨Rd.lit (l := []) (xs := [24, a20, t153]) HS.out 4 rfl (by simp)⟩ ⟨Sep.start _⟩ HA180).mono ?_
            rintro e_ w264 ⟨rfl, hS⟩
            replace HS : Aside0 (Sep (fps []) w [b1 g22 a18 a19 a20 a21, b2 g25 0 0 0 0 0 0 0 0, b3 g205 a18 a19, b2 g257 0 0 0 0 0 0 0 0, b4 g260 24 a20 t153] w264) := ⟨HS.out.call hS⟩
            clear hS
            refine ⟨_, rfl, ?_⟩
            refine hK.out _ _ (⟨blk_cellv (HS.out.at0) 2 rfl, blk_cellv (HS.out.at0) 0 rfl, blk_cellv (HS.out.at0) 1 rfl⟩) (fun hHeld => ?_)
            clear hK K
            refine norm_ (a' := ?_) ?_ ?_
            rotate_left
            · show Act.put _ (some 21) _ = _
              simp only [Act.put, List.setIfInBounds_toArray, List.set_cons_zero, List.set_cons_succ, i64_w, i32_w]
              rfl
            refine pure_ (i := 13) (N := some 25) (v := ?_) (a' := ?_) #[true, true, true, true, true, true, true, true, true, true, true, true, true, true, true, false] rfl rfl (by kernel_rfl) (fun _ _ _ h => h) (Or.inl ⟨by rfl, ?_⟩) ?_ ?_
            rotate_left
            · intro w'
              go_simp
              with_reducible rfl
            rotate_left
            · simp only [Act.put, List.setIfInBounds_toArray, List.set_cons_zero, List.set_cons_succ, i64_w, i32_w]
              rfl
            refine one_ (i := 15) (N := none) #[true, true, true, true, true, true, true, true, true, true, true, true, true, true, true, true] rfl rfl (by kernel_rfl) (by decide) (fun K hK => ?_)
            have hc266 := blk_cellv (v := .int .i64 0) (HS.out.at3) 0 rfl
            have hz267 := blk_fz (HS.out.at3) 0
            have hc268 := blk_cellv (v := .int .i64 0) (HS.out.at3) 1 rfl
            have hz269 := blk_fz (HS.out.at3) 1
            have hc270 := blk_cellv (v := .int .i64 0) (HS.out.at3) 2 rfl
            have hz271 := blk_fz (HS.out.at3) 2
            have hc272 := blk_cellv (v := .int .i64 0) (HS.out.at3) 3 rfl
            have hz273 := blk_fz (HS.out.at3) 3
            have hc274 := blk_cellv (v := .int .i64 0) (HS.out.at3) 4 rfl
            have hz275 := blk_fz (HS.out.at3) 4
            have hc276 := blk_cellv (v := .int .i64 0) (HS.out.at3) 5 rfl
            have hz277 := blk_fz (HS.out.at3) 5
            have hc278 := blk_cellv (v := .int .i64 0) (HS.out.at3) 6 rfl
            have hz279 := blk_fz (HS.out.at3) 6
            have hc280 := blk_cellv (v := .int .i64 0) (HS.out.at3) 7 rfl
            have hz281 := blk_fz (HS.out.at3) 7
            refine store_step (w1 := (World.setCell (World.setCell (World.setCell (World.setCell (World.setCell (World.setCell (World.setCell (World.setCell w264 ⟨g257, 0, none⟩ (.int .i64 t179)) ⟨g257, 1, none⟩ (.int .i64 (wrap64 (a19 - 8)))) ⟨g257, 2, none⟩ (.int .i64 0)) ⟨g257, 3, none⟩ (.int .i64 0)) ⟨g257, 4, none⟩ (.int .i64 0)) ⟨g257, 5, none⟩ (.int .i64 0)) ⟨g257, 6, none⟩ (.int .i64 0)) ⟨g257, 7, none⟩ (.int .i64 0))) (by rfl) rfl ?hr ?_
            case hr => first | (go_simp; done) | (go_simp; rfl)
            clear hc266 hz267 hc268 hz269 hc270 hz271 hc272 hz273 hc274 hz275 hc276 hz277 hc278 hz279 hc280 hz281
            intro w265 hst
            replace HS : Aside0 (Sep (fps []) w [b1 g22 a18 a19 a20 a21, b2 g25 0 0 0 0 0 0 0 0, b3 g205 a18 a19, b2 g257 t179 (wrap64 (a19 - 8)) 0 0 0 0 0 0, b4 g260 24 a20 t153] w265) := ⟨by rw [hst]; exact HS.out.setAll (l1 := [b1 g22 a18 a19 a20 a21, b2 g25 0 0 0 0 0 0 0 0, b3 g205 a18 a19]) (l2 := [b4 g260 24 a20 t153]) [.int .i64 t179, .int .i64 (wrap64 (a19 - 8)), .int .i64 0, .int .i64 0, .int .i64 0, .int .i64 0, .int .i64 0, .int .i64 0] rfl⟩
            clear hst
            refine hK.out _ _ (⟨blk_cellv (HS.out.at0) 2 rfl, blk_cellv (HS.out.at0) 0 rfl, blk_cellv (HS.out.at0) 1 rfl⟩) (fun hHeld => ?_)
            clear hK K
            refine done_ (by kernel_rfl) ?_
            go_wp2_with fail
            go_meet
            case rel => exact ⟨g205, g260, g257, (by first | rfl | (simp [IntKind.wrap_u32]; done)), ⟨(((((HS.out).front 3 (by simp)).front 4 (by simp)).front 4 (by simp)).front 4 (by simp)).front 4 (by simp)⟩⟩
        · refine box_step (by rfl) (N := 5) rfl (cs := #[.int .i64 0, .int .i64 0, .int .i64 0, .int .i64 0, .int .i64 0, .int .i64 0, .int .i64 0, .int .i64 0]) (t := 120) ?hr ?_
          case hr => first | (go_simp; done) | (go_simp; rfl)
          intro g282 hg w283 hbox hb
          replace HS : Aside0 (Sep (fps []) w [b1 g22 a18 a19 a20 a21, b2 g25 0 0 0 0 0 0 0 0, b3 g205 a18 a19, b2 g282 0 0 0 0 0 0 0 0] w283) := ⟨HS.out.box hg hbox hb⟩
          clear hg hbox hb
          refine hK.out _ _ (⟨blk_cellv (HS.out.at0) 2 rfl, blk_cellv (HS.out.at0) 0 rfl, blk_cellv (HS.out.at0) 1 rfl⟩) (fun hHeld => ?_)
          clear hK K
          refine norm_ (a' := ?_) ?_ ?_
          rotate_left
          · show Act.put _ (some 5) _ = _
            simp only [Act.put, List.setIfInBounds_toArray, List.set_cons_zero, List.set_cons_succ, i64_w, i32_w]
            rfl
          refine one_ (i := 7) (N := some 19) #[true, true, true, true, true, true, true, true, false, false, true, true, true, false, true, false] rfl rfl (by kernel_rfl) (by decide) (fun K hK => ?_)
          refine goes_ Try.func107 (by kernel_rfl) rfl #[.slice (some ⟨g205, 0, none⟩) 2 2] (by rfl) rfl rfl (by (try simp only [List.map_toArray, List.map_cons, List.map_nil]); first | done | rfl) ?_
          refine (ratio_Mul.calls _ [a18, a19] (some ⟨g205, 0, none⟩) 2 t153 _ ⟨Rd.lit (l := []) (xs := [a18, a19]) HS.out 2 rfl (by simp)⟩ ⟨Sep.start _⟩ HA154).mono ?_
          rintro e_ w286 ⟨rfl, hS⟩
          replace HS : Aside0 (Sep (fps []) w [b1 g22 a18 a19 a20 a21, b2 g25 0 0 0 0 0 0 0 0, b3 g205 a18 a19, b2 g282 0 0 0 0 0 0 0 0] w286) := ⟨HS.out.call hS⟩
          clear hS
          refine ⟨_, rfl, ?_⟩
          refine hK.out _ _ (⟨blk_cellv (HS.out.at0) 2 rfl, blk_cellv (HS.out.at0) 0 rfl, blk_cellv (HS.out.at0) 1 rfl⟩) (fun hHeld => ?_)
          clear hK K
          refine norm_ (a' := ?_) ?_ ?_
          rotate_left
          · show Act.put _ (some 19) _ = _
            simp only [Act.put, List.setIfInBounds_toArray, List.set_cons_zero, List.set_cons_succ, i64_w, i32_w]
            rfl
          refine one_ (i := 8) (N := some 20) #[true, true, true, true, true, true, true, true, true, false, true, true, true, false, true, false] rfl rfl (by kernel_rfl) (by decide) (fun K hK => ?_)
          refine slice_step (n := 3) (by rfl) (N := 20) rfl (cs := #[.int .i64 24, .int .i64 a20, .int .i64 t153]) (t := 3) ?hr ?_
          case hr => first | (go_simp; done) | (go_simp; rfl)
          intro g287 hg w288 hbox hb
          replace HS : Aside0 (Sep (fps []) w [b1 g22 a18 a19 a20 a21, b2 g25 0 0 0 0 0 0 0 0, b3 g205 a18 a19, b2 g282 0 0 0 0 0 0 0 0, b4 g287 24 a20 t153] w288) := ⟨HS.out.box hg hbox hb⟩
          clear hg hbox hb
          refine hK.out _ _ (⟨blk_cellv (HS.out.at0) 2 rfl, blk_cellv (HS.out.at0) 0 rfl, blk_cellv (HS.out.at0) 1 rfl⟩) (fun hHeld => ?_)
          clear hK K
          refine norm_ (a' := ?_) ?_ ?_
          rotate_left
          · show Act.put _ (some 20) _ = _
            simp only [Act.put, List.setIfInBounds_toArray, List.set_cons_zero, List.set_cons_succ, i64_w, i32_w]
            rfl
          refine one_ (i := 9) (N := some 21) #[true, true, true, true, true, true, true, true, true, true, true, true, true, false, true, false] rfl rfl (by kernel_rfl) (by decide) (fun K hK => ?_)
          refine goes_ Try.func106 (by kernel_rfl) rfl #[.slice (some ⟨g287, 0, none⟩) 3 3] (by rfl) rfl rfl (by (try simp only [List.map_toArray, List.map_cons, List.map_nil]); first | done | rfl) ?_
          refine (ratio_Add.calls _ [24, a20, t153] (some ⟨g287, 0, none⟩) 3 t179 _ ⟨Rd.lit (l := []) (xs := [24, a20, t153]) HS.out 4 rfl (by simp)⟩ ⟨Sep.start _⟩ HA180).mono ?_
          rintro e_ w291 ⟨rfl, hS⟩
          replace HS : Aside0 (Sep (fps []) w [b1 g22 a18 a19 a20 a21, b2 g25 0 0 0 0 0 0 0 0, b3 g205 a18 a19, b2 g282 0 0 0 0 0 0 0 0, b4 g287 24 a20 t153] w291) := ⟨HS.out.call hS⟩
          clear hS
          refine ⟨_, rfl, ?_⟩
          refine hK.out _ _ (⟨blk_cellv (HS.out.at0) 2 rfl, blk_cellv (HS.out.at0) 0 rfl, blk_cellv (HS.out.at0) 1 rfl⟩) (fun hHeld => ?_)
          clear hK K
          refine norm_ (a' := ?_) ?_ ?_
          rotate_left
          · show Act.put _ (some 21) _ = _
            simp only [Act.put, List.setIfInBounds_toArray, List.set_cons_zero, List.set_cons_succ, i64_w, i32_w]
            rfl
          refine pure_ (i := 13) (N := some 25) (v := ?_) (a' := ?_) #[true, true, true, true, true, true, true, true, true, true, true, true, true, true, true, false] rfl rfl (by kernel_rfl) (fun _ _ _ h => h) (Or.inl ⟨by rfl, ?_⟩) ?_ ?_
          rotate_left
          · intro w'
            go_simp
            with_reducible rfl
          rotate_left
          · simp only [Act.put, List.setIfInBounds_toArray, List.set_cons_zero, List.set_cons_succ, i64_w, i32_w]
            rfl
          refine one_ (i := 15) (N := none) #[true, true, true, true, true, true, true, true, true, true, true, true, true, true, true, true] rfl rfl (by kernel_rfl) (by decide) (fun K hK => ?_)
          have hc293 := blk_cellv (v := .int .i64 0) (HS.out.at3) 0 rfl
          have hz294 := blk_fz (HS.out.at3) 0
          have hc295 := blk_cellv (v := .int .i64 0) (HS.out.at3) 1 rfl
          have hz296 := blk_fz (HS.out.at3) 1
          have hc297 := blk_cellv (v := .int .i64 0) (HS.out.at3) 2 rfl
          have hz298 := blk_fz (HS.out.at3) 2
          have hc299 := blk_cellv (v := .int .i64 0) (HS.out.at3) 3 rfl
          have hz300 := blk_fz (HS.out.at3) 3
          have hc301 := blk_cellv (v := .int .i64 0) (HS.out.at3) 4 rfl
          have hz302 := blk_fz (HS.out.at3) 4
          have hc303 := blk_cellv (v := .int .i64 0) (HS.out.at3) 5 rfl
          have hz304 := blk_fz (HS.out.at3) 5
          have hc305 := blk_cellv (v := .int .i64 0) (HS.out.at3) 6 rfl
          have hz306 := blk_fz (HS.out.at3) 6
          have hc307 := blk_cellv (v := .int .i64 0) (HS.out.at3) 7 rfl
          have hz308 := blk_fz (HS.out.at3) 7
          refine store_step (w1 := (World.setCell (World.setCell (World.setCell (World.setCell (World.setCell (World.setCell (World.setCell (World.setCell w291 ⟨g282, 0, none⟩ (.int .i64 t179)) ⟨g282, 1, none⟩ (.int .i64 (wrap64 (a19 - 8)))) ⟨g282, 2, none⟩ (.int .i64 0)) ⟨g282, 3, none⟩ (.int .i64 0)) ⟨g282, 4, none⟩ (.int .i64 0)) ⟨g282, 5, none⟩ (.int .i64 0)) ⟨g282, 6, none⟩ (.int .i64 0)) ⟨g282, 7, none⟩ (.int .i64 0))) (by rfl) rfl ?hr ?_
          case hr => first | (go_simp; done) | (go_simp; rfl)
          clear hc293 hz294 hc295 hz296 hc297 hz298 hc299 hz300 hc301 hz302 hc303 hz304 hc305 hz306 hc307 hz308
          intro w292 hst
          replace HS : Aside0 (Sep (fps []) w [b1 g22 a18 a19 a20 a21, b2 g25 0 0 0 0 0 0 0 0, b3 g205 a18 a19, b2 g282 t179 (wrap64 (a19 - 8)) 0 0 0 0 0 0, b4 g287 24 a20 t153] w292) := ⟨by rw [hst]; exact HS.out.setAll (l1 := [b1 g22 a18 a19 a20 a21, b2 g25 0 0 0 0 0 0 0 0, b3 g205 a18 a19]) (l2 := [b4 g287 24 a20 t153]) [.int .i64 t179, .int .i64 (wrap64 (a19 - 8)), .int .i64 0, .int .i64 0, .int .i64 0, .int .i64 0, .int .i64 0, .int .i64 0] rfl⟩
          clear hst
          refine hK.out _ _ (⟨blk_cellv (HS.out.at0) 2 rfl, blk_cellv (HS.out.at0) 0 rfl, blk_cellv (HS.out.at0) 1 rfl⟩) (fun hHeld => ?_)
          clear hK K
          refine done_ (by kernel_rfl) ?_
          go_wp2_with fail
          go_meet
          case rel => exact ⟨g205, g287, g282, (by first | rfl | (simp [IntKind.wrap_u32]; done)), ⟨(((((HS.out).front 3 (by simp)).front 4 (by simp)).front 4 (by simp)).front 4 (by simp)).front 4 (by simp)⟩⟩
      · refine box_step (by rfl) (N := 5) rfl (cs := #[.int .i64 0, .int .i64 0, .int .i64 0, .int .i64 0, .int .i64 0, .int .i64 0, .int .i64 0, .int .i64 0]) (t := 120) ?hr ?_
        case hr => first | (go_simp; done) | (go_simp; rfl)
        intro g309 hg w310 hbox hb
        replace HS : Aside0 (Sep (fps []) w [b1 g22 a18 a19 a20 a21, b2 g25 0 0 0 0 0 0 0 0, b2 g309 0 0 0 0 0 0 0 0] w310) := ⟨HS.out.box hg hbox hb⟩
        clear hg hbox hb
        refine hK.out _ _ (⟨blk_cellv (HS.out.at0) 2 rfl, blk_cellv (HS.out.at0) 0 rfl, blk_cellv (HS.out.at0) 1 rfl⟩) (fun hHeld => ?_)
        clear hK K
        refine norm_ (a' := ?_) ?_ ?_
        rotate_left
        · show Act.put _ (some 5) _ = _
          simp only [Act.put, List.setIfInBounds_toArray, List.set_cons_zero, List.set_cons_succ, i64_w, i32_w]
          rfl
        refine one_ (i := 6) (N := some 18) #[true, true, true, true, true, true, true, false, false, false, true, true, true, false, true, false] rfl rfl (by kernel_rfl) (by decide) (fun K hK => ?_)
        refine slice_step (n := 2) (by rfl) (N := 18) rfl (cs := #[.int .i64 a18, .int .i64 a19]) (t := 3) ?hr ?_
        case hr => first | (go_simp; done) | (go_simp; rfl)
        intro g312 hg w313 hbox hb
        replace HS : Aside0 (Sep (fps []) w [b1 g22 a18 a19 a20 a21, b2 g25 0 0 0 0 0 0 0 0, b2 g309 0 0 0 0 0 0 0 0, b3 g312 a18 a19] w313) := ⟨HS.out.box hg hbox hb⟩
        clear hg hbox hb
        refine hK.out _ _ (⟨blk_cellv (HS.out.at0) 2 rfl, blk_cellv (HS.out.at0) 0 rfl, blk_cellv (HS.out.at0) 1 rfl⟩) (fun hHeld => ?_)
        clear hK K
        refine norm_ (a' := ?_) ?_ ?_
        rotate_left
        · show Act.put _ (some 18) _ = _
          simp only [Act.put, List.setIfInBounds_toArray, List.set_cons_zero, List.set_cons_succ, i64_w, i32_w]
          rfl
        refine one_ (i := 7) (N := some 19) #[true, true, true, true, true, true, true, true, false, false, true, true, true, false, true, false] rfl rfl (by kernel_rfl) (by decide) (fun K hK => ?_)
        refine goes_ Try.func107 (by kernel_rfl) rfl #[.slice (some ⟨g312, 0, none⟩) 2 2] (by rfl) rfl rfl (by (try simp only [List.map_toArray, List.map_cons, List.map_nil]); first | done | rfl) ?_
        refine (ratio_Mul.calls _ [a18, a19] (some ⟨g312, 0, none⟩) 2 t153 _ ⟨Rd.lit (l := []) (xs := [a18, a19]) HS.out 3 rfl (by simp)⟩ ⟨Sep.start _⟩ HA154).mono ?_
        rintro e_ w316 ⟨rfl, hS⟩
        replace HS : Aside0 (Sep (fps []) w [b1 g22 a18 a19 a20 a21, b2 g25 0 0 0 0 0 0 0 0, b2 g309 0 0 0 0 0 0 0 0, b3 g312 a18 a19] w316) := ⟨HS.out.call hS⟩
        clear hS
        refine ⟨_, rfl, ?_⟩
        refine hK.out _ _ (⟨blk_cellv (HS.out.at0) 2 rfl, blk_cellv (HS.out.at0) 0 rfl, blk_cellv (HS.out.at0) 1 rfl⟩) (fun hHeld => ?_)
        clear hK K
        refine norm_ (a' := ?_) ?_ ?_
        rotate_left
        · show Act.put _ (some 19) _ = _
          simp only [Act.put, List.setIfInBounds_toArray, List.set_cons_zero, List.set_cons_succ, i64_w, i32_w]
          rfl
        refine one_ (i := 8) (N := some 20) #[true, true, true, true, true, true, true, true, true, false, true, true, true, false, true, false] rfl rfl (by kernel_rfl) (by decide) (fun K hK => ?_)
        refine slice_step (n := 3) (by rfl) (N := 20) rfl (cs := #[.int .i64 24, .int .i64 a20, .int .i64 t153]) (t := 3) ?hr ?_
        case hr => first | (go_simp; done) | (go_simp; rfl)
        intro g317 hg w318 hbox hb
        replace HS : Aside0 (Sep (fps []) w [b1 g22 a18 a19 a20 a21, b2 g25 0 0 0 0 0 0 0 0, b2 g309 0 0 0 0 0 0 0 0, b3 g312 a18 a19, b4 g317 24 a20 t153] w318) := ⟨HS.out.box hg hbox hb⟩
        clear hg hbox hb
        refine hK.out _ _ (⟨blk_cellv (HS.out.at0) 2 rfl, blk_cellv (HS.out.at0) 0 rfl, blk_cellv (HS.out.at0) 1 rfl⟩) (fun hHeld => ?_)
        clear hK K
        refine norm_ (a' := ?_) ?_ ?_
        rotate_left
        · show Act.put _ (some 20) _ = _
          simp only [Act.put, List.setIfInBounds_toArray, List.set_cons_zero, List.set_cons_succ, i64_w, i32_w]
          rfl
        refine one_ (i := 9) (N := some 21) #[true, true, true, true, true, true, true, true, true, true, true, true, true, false, true, false] rfl rfl (by kernel_rfl) (by decide) (fun K hK => ?_)
        refine goes_ Try.func106 (by kernel_rfl) rfl #[.slice (some ⟨g317, 0, none⟩) 3 3] (by rfl) rfl rfl (by (try simp only [List.map_toArray, List.map_cons, List.map_nil]); first | done | rfl) ?_
        refine (ratio_Add.calls _ [24, a20, t153] (some ⟨g317, 0, none⟩) 3 t179 _ ⟨Rd.lit (l := []) (xs := [24, a20, t153]) HS.out 4 rfl (by simp)⟩ ⟨Sep.start _⟩ HA180).mono ?_
        rintro e_ w321 ⟨rfl, hS⟩
        replace HS : Aside0 (Sep (fps []) w [b1 g22 a18 a19 a20 a21, b2 g25 0 0 0 0 0 0 0 0, b2 g309 0 0 0 0 0 0 0 0, b3 g312 a18 a19, b4 g317 24 a20 t153] w321) := ⟨HS.out.call hS⟩
        clear hS
        refine ⟨_, rfl, ?_⟩
        refine hK.out _ _ (⟨blk_cellv (HS.out.at0) 2 rfl, blk_cellv (HS.out.at0) 0 rfl, blk_cellv (HS.out.at0) 1 rfl⟩) (fun hHeld => ?_)
        clear hK K
        refine norm_ (a' := ?_) ?_ ?_
        rotate_left
        · show Act.put _ (some 21) _ = _
          simp only [Act.put, List.setIfInBounds_toArray, List.set_cons_zero, List.set_cons_succ, i64_w, i32_w]
          rfl
        refine pure_ (i := 13) (N := some 25) (v := ?_) (a' := ?_) #[true, true, true, true, true, true, true, true, true, true, true, true, true, true, true, false] rfl rfl (by kernel_rfl) (fun _ _ _ h => h) (Or.inl ⟨by rfl, ?_⟩) ?_ ?_
        rotate_left
        · intro w'
          go_simp
          with_reducible rfl
        rotate_left
        · simp only [Act.put, List.setIfInBounds_toArray, List.set_cons_zero, List.set_cons_succ, i64_w, i32_w]
          rfl
        refine one_ (i := 15) (N := none) #[true, true, true, true, true, true, true, true, true, true, true, true, true, true, true, true] rfl rfl (by kernel_rfl) (by decide) (fun K hK => ?_)
        have hc323 := blk_cellv (v := .int .i64 0) (HS.out.at2) 0 rfl
        have hz324 := blk_fz (HS.out.at2) 0
        have hc325 := blk_cellv (v := .int .i64 0) (HS.out.at2) 1 rfl
        have hz326 := blk_fz (HS.out.at2) 1
        have hc327 := blk_cellv (v := .int .i64 0) (HS.out.at2) 2 rfl
        have hz328 := blk_fz (HS.out.at2) 2
        have hc329 := blk_cellv (v := .int .i64 0) (HS.out.at2) 3 rfl
        have hz330 := blk_fz (HS.out.at2) 3
        have hc331 := blk_cellv (v := .int .i64 0) (HS.out.at2) 4 rfl
        have hz332 := blk_fz (HS.out.at2) 4
        have hc333 := blk_cellv (v := .int .i64 0) (HS.out.at2) 5 rfl
        have hz334 := blk_fz (HS.out.at2) 5
        have hc335 := blk_cellv (v := .int .i64 0) (HS.out.at2) 6 rfl
        have hz336 := blk_fz (HS.out.at2) 6
        have hc337 := blk_cellv (v := .int .i64 0) (HS.out.at2) 7 rfl
        have hz338 := blk_fz (HS.out.at2) 7
        refine store_step (w1 := (World.setCell (World.setCell (World.setCell (World.setCell (World.setCell (World.setCell (World.setCell (World.setCell w321 ⟨g309, 0, none⟩ (.int .i64 t179)) ⟨g309, 1, none⟩ (.int .i64 (wrap64 (a19 - 8)))) ⟨g309, 2, none⟩ (.int .i64 0)) ⟨g309, 3, none⟩ (.int .i64 0)) ⟨g309, 4, none⟩ (.int .i64 0)) ⟨g309, 5, none⟩ (.int .i64 0)) ⟨g309, 6, none⟩ (.int .i64 0)) ⟨g309, 7, none⟩ (.int .i64 0))) (by rfl) rfl ?hr ?_
        case hr => first | (go_simp; done) | (go_simp; rfl)
        clear hc323 hz324 hc325 hz326 hc327 hz328 hc329 hz330 hc331 hz332 hc333 hz334 hc335 hz336 hc337 hz338
        intro w322 hst
        replace HS : Aside0 (Sep (fps []) w [b1 g22 a18 a19 a20 a21, b2 g25 0 0 0 0 0 0 0 0, b2 g309 t179 (wrap64 (a19 - 8)) 0 0 0 0 0 0, b3 g312 a18 a19, b4 g317 24 a20 t153] w322) := ⟨by rw [hst]; exact HS.out.setAll (l1 := [b1 g22 a18 a19 a20 a21, b2 g25 0 0 0 0 0 0 0 0]) (l2 := [b3 g312 a18 a19, b4 g317 24 a20 t153]) [.int .i64 t179, .int .i64 (wrap64 (a19 - 8)), .int .i64 0, .int .i64 0, .int .i64 0, .int .i64 0, .int .i64 0, .int .i64 0] rfl⟩
        clear hst
        refine hK.out _ _ (⟨blk_cellv (HS.out.at0) 2 rfl, blk_cellv (HS.out.at0) 0 rfl, blk_cellv (HS.out.at0) 1 rfl⟩) (fun hHeld => ?_)
        clear hK K
        refine done_ (by kernel_rfl) ?_
        go_wp2_with fail
        go_meet
        case rel => exact ⟨g312, g317, g309, (by first | rfl | (simp [IntKind.wrap_u32]; done)), ⟨(((((HS.out).front 2 (by simp)).front 4 (by simp)).front 4 (by simp)).front 4 (by simp)).front 4 (by simp)⟩⟩
    case rest =>
      clear HS
      obtain ⟨g79, g156, g182, rfl, HS⟩ := hcut
      obtain ⟨w202, rfl⟩ : ∃ x : World, x = wc := ⟨_, rfl⟩
      replace HS : Aside0 (Sep (fps []) w [b1 g22 a18 a19 a20 a21, b2 g25 0 0 0 0 0 0 0 0, b2 g182 t179 (wrap64 (a19 - 8)) 0 0 0 0 0 0] w202) := ⟨HS.out.sub (.cons_cons _ (.cons_cons _ (.cons _ (.cons _ (.cons_cons _ .slnil)))))⟩
      have hc339 : w202.cell? ⟨g182, 1, none⟩ = some (.int .i64 (wrap64 (a19 - 8))) := blk_cellv (HS.out.at2) 1 rfl
      have hc340 : w202.cell? ⟨g182, 2, none⟩ = some (.int .i64 0) := blk_cellv (HS.out.at2) 2 rfl
      have hz341 : w202.frozen? ⟨g182, 2, none⟩ = false := blk_fz (HS.out.at2) 2
      go_wp2_with (first | ((with_reducible refine gate_store (t := 3) (p := 29) rfl ?_); refine store_event (w1 := (World.setCell w202 ⟨g182, 2, none⟩ (.int .i64 (wrap64 ((wrap64 (a19 - 8)) + 1))))) rfl (t := 3) (p := 29) rfl rfl ?hr ?_; (case hr => first | (go_simp; done) | (go_simp; rfl)); intro w342 hst; clear hc339 hc340 hz341; have hq0 : Sep (fps []) w [b1 g22 a18 a19 a20 a21, b2 g25 0 0 0 0 0 0 0 0, b2 g182 t179 (wrap64 (a19 - 8)) (wrap64 ((wrap64 (a19 - 8)) + 1)) 0 0 0 0 0] (World.setCell w202 ⟨g182, 2, none⟩ (.int .i64 (wrap64 ((wrap64 (a19 - 8)) + 1)))) := (HS.out).set1 (l1 := [b1 g22 a18 a19 a20 a21, b2 g25 0 0 0 0 0 0 0 0]) (l2 := []) 2 (.int .i64 (wrap64 ((wrap64 (a19 - 8)) + 1))); replace HS : Aside0 (Sep (fps []) w [b1 g22 a18 a19 a20 a21, b2 g25 0 0 0 0 0 0 0 0, b2 g182 t179 (wrap64 (a19 - 8)) (wrap64 ((wrap64 (a19 - 8)) + 1)) 0 0 0 0 0] w342) := ⟨by rw [hst]; exact hq0⟩; clear hq0; clear hst; have hc343 : w342.cell? ⟨g182, 1, none⟩ = some (.int .i64 (wrap64 (a19 - 8))) := blk_cellv (HS.out.at2) 1 rfl; have hc344 : w342.cell? ⟨g22, 1, none⟩ = some (.int .i64 a19) := blk_cellv (HS.out.at0) 1 rfl) | ((with_reducible refine gate_dst (N := 35) rfl ?_); refine slice_on (n := 2) ?hg (N := 35) ?hd (cs := #[.int .i64 (wrap64 (a19 - 8)), .int .i64 (wrap64 (a19 - 1))]) (t := 3) ?hr ?_; (case hd => rfl); (case hg => rfl); (case hr => first | (go_simp; done) | (go_simp; rfl)); intro g345 hg w346 hbox hb; clear hc343 hc344; replace HS : Aside0 (Sep (fps []) w [b1 g22 a18 a19 a20 a21, b2 g25 0 0 0 0 0 0 0 0, b2 g182 t179 (wrap64 (a19 - 8)) (wrap64 ((wrap64 (a19 - 8)) + 1)) 0 0 0 0 0, b3 g345 (wrap64 (a19 - 8)) (wrap64 (a19 - 1))] w346) := ⟨HS.out.box hg hbox hb⟩; clear hg hbox hb))
      obtain ⟨t348, HA349, H⟩ := bind_some H
      refine (ratio_Mul.calls _ [wrap64 (a19 - 8), wrap64 (a19 - 1)] (some ⟨g345, 0, none⟩) 2 t348 _ ⟨Rd.lit (l := []) (xs := [wrap64 (a19 - 8), wrap64 (a19 - 1)]) HS.out 3 rfl (by simp)⟩ ⟨Sep.start _⟩ HA349).mono ?_
      rintro e_ w350 ⟨rfl, hS⟩
      replace HS : Aside0 (Sep (fps []) w [b1 g22 a18 a19 a20 a21, b2 g25 0 0 0 0 0 0 0 0, b2 g182 t179 (wrap64 (a19 - 8)) (wrap64 ((wrap64 (a19 - 8)) + 1)) 0 0 0 0 0, b3 g345 (wrap64 (a19 - 8)) (wrap64 (a19 - 1))] w350) := ⟨HS.out.call hS⟩
      clear hS
      have hc351 : w350.cell? ⟨g182, 3, none⟩ = some (.int .i64 0) := blk_cellv (HS.out.at2) 3 rfl
      have hz352 : w350.frozen? ⟨g182, 3, none⟩ = false := blk_fz (HS.out.at2) 3
      go_wp2_with (first | ((with_reducible refine gate_store (t := 3) (p := 37) rfl ?_); refine store_event (w1 := (World.setCell w350 ⟨g182, 3, none⟩ (.int .i64 t348))) rfl (t := 3) (p := 37) rfl rfl ?hr ?_; (case hr => first | (go_simp; done) | (go_simp; rfl)); intro w353 hst; clear hc351 hz352; have hq0 : Sep (fps []) w [b1 g22 a18 a19 a20 a21, b2 g25 0 0 0 0 0 0 0 0, b2 g182 t179 (wrap64 (a19 - 8)) (wrap64 ((wrap64 (a19 - 8)) + 1)) t348 0 0 0 0, b3 g345 (wrap64 (a19 - 8)) (wrap64 (a19 - 1))] (World.setCell w350 ⟨g182, 3, none⟩ (.int .i64 t348)) := (HS.out).set1 (l1 := [b1 g22 a18 a19 a20 a21, b2 g25 0 0 0 0 0 0 0 0]) (l2 := [b3 g345 (wrap64 (a19 - 8)) (wrap64 (a19 - 1))]) 3 (.int .i64 t348); replace HS : Aside0 (Sep (fps []) w [b1 g22 a18 a19 a20 a21, b2 g25 0 0 0 0 0 0 0 0, b2 g182 t179 (wrap64 (a19 - 8)) (wrap64 ((wrap64 (a19 - 8)) + 1)) t348 0 0 0 0, b3 g345 (wrap64 (a19 - 8)) (wrap64 (a19 - 1))] w353) := ⟨by rw [hst]; exact hq0⟩; clear hq0; clear hst; replace HS : Aside0 (Sep (fps []) w [b1 g22 a18 a19 a20 a21, b2 g25 0 0 0 0 0 0 0 0, b2 g182 t179 (wrap64 (a19 - 8)) (wrap64 ((wrap64 (a19 - 8)) + 1)) t348 0 0 0 0] w353) := ⟨HS.out.sub (.cons_cons _ (.cons_cons _ (.cons_cons _ (.cons _ .slnil))))⟩; have hc354 : w353.cell? ⟨g22, 0, none⟩ = some (.int .i64 a18) := blk_cellv (HS.out.at0) 0 rfl; have hc355 : w353.cell? ⟨g22, 1, none⟩ = some (.int .i64 a19) := blk_cellv (HS.out.at0) 1 rfl) | ((with_reducible refine gate_dst (N := 43) rfl ?_); refine slice_on (n := 2) ?hg (N := 43) ?hd (cs := #[.int .i64 a18, .int .i64 (wrap64 (a19 + 1))]) (t := 3) ?hr ?_; (case hd => rfl); (case hg => rfl); (case hr => first | (go_simp; done) | (go_simp; rfl)); intro g356 hg w357 hbox hb; clear hc354 hc355; replace HS : Aside0 (Sep (fps []) w [b1 g22 a18 a19 a20 a21, b2 g25 0 0 0 0 0 0 0 0, b2 g182 t179 (wrap64 (a19 - 8)) (wrap64 ((wrap64 (a19 - 8)) + 1)) t348 0 0 0 0, b3 g356 a18 (wrap64 (a19 + 1))] w357) := ⟨HS.out.box hg hbox hb⟩; clear hg hbox hb))
      obtain ⟨t359, HA360, H⟩ := bind_some H
      refine (ratio_Mul.calls _ [a18, wrap64 (a19 + 1)] (some ⟨g356, 0, none⟩) 2 t359 _ ⟨Rd.lit (l := []) (xs := [a18, wrap64 (a19 + 1)]) HS.out 3 rfl (by simp)⟩ ⟨Sep.start _⟩ HA360).mono ?_
      rintro e_ w361 ⟨rfl, hS⟩
      replace HS : Aside0 (Sep (fps []) w [b1 g22 a18 a19 a20 a21, b2 g25 0 0 0 0 0 0 0 0, b2 g182 t179 (wrap64 (a19 - 8)) (wrap64 ((wrap64 (a19 - 8)) + 1)) t348 0 0 0 0, b3 g356 a18 (wrap64 (a19 + 1))] w361) := ⟨HS.out.call hS⟩
      clear hS
      have hc362 : w361.cell? ⟨g182, 5, none⟩ = some (.int .i64 0) := blk_cellv (HS.out.at2) 5 rfl
      have hz363 : w361.frozen? ⟨g182, 5, none⟩ = false := blk_fz (HS.out.at2) 5
      go_wp2_with (first | ((with_reducible refine gate_store (t := 3) (p := 45) rfl ?_); refine store_event (w1 := (World.setCell w361 ⟨g182, 5, none⟩ (.int .i64 t359))) rfl (t := 3) (p := 45) rfl rfl ?hr ?_; (case hr => first | (go_simp; done) | (go_simp; rfl)); intro w364 hst; clear hc362 hz363; have hq0 : Sep (fps []) w [b1 g22 a18 a19 a20 a21, b2 g25 0 0 0 0 0 0 0 0, b2 g182 t179 (wrap64 (a19 - 8)) (wrap64 ((wrap64 (a19 - 8)) + 1)) t348 0 t359 0 0, b3 g356 a18 (wrap64 (a19 + 1))] (World.setCell w361 ⟨g182, 5, none⟩ (.int .i64 t359)) := (HS.out).set1 (l1 := [b1 g22 a18 a19 a20 a21, b2 g25 0 0 0 0 0 0 0 0]) (l2 := [b3 g356 a18 (wrap64 (a19 + 1))]) 5 (.int .i64 t359); replace HS : Aside0 (Sep (fps []) w [b1 g22 a18 a19 a20 a21, b2 g25 0 0 0 0 0 0 0 0, b2 g182 t179 (wrap64 (a19 - 8)) (wrap64 ((wrap64 (a19 - 8)) + 1)) t348 0 t359 0 0, b3 g356 a18 (wrap64 (a19 + 1))] w364) := ⟨by rw [hst]; exact hq0⟩; clear hq0; clear hst; replace HS : Aside0 (Sep (fps []) w [b1 g22 a18 a19 a20 a21, b2 g25 0 0 0 0 0 0 0 0, b2 g182 t179 (wrap64 (a19 - 8)) (wrap64 ((wrap64 (a19 - 8)) + 1)) t348 0 t359 0 0] w364) := ⟨HS.out.sub (.cons_cons _ (.cons_cons _ (.cons_cons _ (.cons _ .slnil))))⟩; have hc365 : w364.cell? ⟨g182, 5, none⟩ = some (.int .i64 t359) := blk_cellv (HS.out.at2) 5 rfl) | ((with_reducible refine gate_dst (N := 48) rfl ?_); refine slice_on (n := 2) ?hg (N := 48) ?hd (cs := #[.int .i64 3, .int .i64 t359]) (t := 3) ?hr ?_; (case hd => rfl); (case hg => rfl); (case hr => first | (go_simp; done) | (go_simp; rfl)); intro g366 hg w367 hbox hb; clear hc365; replace HS : Aside0 (Sep (fps []) w [b1 g22 a18 a19 a20 a21, b2 g25 0 0 0 0 0 0 0 0, b2 g182 t179 (wrap64 (a19 - 8)) (wrap64 ((wrap64 (a19 - 8)) + 1)) t348 0 t359 0 0, b3 g366 3 t359] w367) := ⟨HS.out.box hg hbox hb⟩; clear hg hbox hb))
      obtain ⟨t369, HA370, H⟩ := bind_some H
      refine (ratio_Mul.calls _ [3, t359] (some ⟨g366, 0, none⟩) 2 t369 _ ⟨Rd.lit (l := []) (xs := [3, t359]) HS.out 3 rfl (by simp)⟩ ⟨Sep.start _⟩ HA370).mono ?_
      rintro e_ w371 ⟨rfl, hS⟩
      replace HS : Aside0 (Sep (fps []) w [b1 g22 a18 a19 a20 a21, b2 g25 0 0 0 0 0 0 0 0, b2 g182 t179 (wrap64 (a19 - 8)) (wrap64 ((wrap64 (a19 - 8)) + 1)) t348 0 t359 0 0, b3 g366 3 t359] w371) := ⟨HS.out.call hS⟩
      clear hS
      go_wp2_with (first | ((with_reducible refine gate_dst (N := 50) rfl ?_); refine slice_on (n := 2) ?hg (N := 50) ?hd (cs := #[.int .i64 t369, .int .i64 4]) (t := 3) ?hr ?_; (case hd => rfl); (case hg => rfl); (case hr => first | (go_simp; done) | (go_simp; rfl)); intro g372 hg w373 hbox hb; replace HS : Aside0 (Sep (fps []) w [b1 g22 a18 a19 a20 a21, b2 g25 0 0 0 0 0 0 0 0, b2 g182 t179 (wrap64 (a19 - 8)) (wrap64 ((wrap64 (a19 - 8)) + 1)) t348 0 t359 0 0, b3 g366 3 t359, b3 g372 t369 4] w373) := ⟨HS.out.box hg hbox hb⟩; clear hg hbox hb))
      obtain ⟨t375, HA376, H⟩ := bind_some H
      refine (ratio_Add.calls _ [t369, 4] (some ⟨g372, 0, none⟩) 2 t375 _ ⟨Rd.lit (l := []) (xs := [t369, 4]) HS.out 4 rfl (by simp)⟩ ⟨Sep.start _⟩ HA376).mono ?_
      rintro e_ w377 ⟨rfl, hS⟩
      replace HS : Aside0 (Sep (fps []) w [b1 g22 a18 a19 a20 a21, b2 g25 0 0 0 0 0 0 0 0, b2 g182 t179 (wrap64 (a19 - 8)) (wrap64 ((wrap64 (a19 - 8)) + 1)) t348 0 t359 0 0, b3 g366 3 t359, b3 g372 t369 4] w377) := ⟨HS.out.call hS⟩
      clear hS
      have hc378 : w377.cell? ⟨g182, 4, none⟩ = some (.int .i64 0) := blk_cellv (HS.out.at2) 4 rfl
      have hz379 : w377.frozen? ⟨g182, 4, none⟩ = false := blk_fz (HS.out.at2) 4
      go_wp2_with (first | ((with_reducible refine gate_store (t := 3) (p := 52) rfl ?_); refine store_event (w1 := (World.setCell w377 ⟨g182, 4, none⟩ (.int .i64 t375))) rfl (t := 3) (p := 52) rfl rfl ?hr ?_; (case hr => first | (go_simp; done) | (go_simp; rfl)); intro w380 hst; clear hc378 hz379; have hq0 : Sep (fps []) w [b1 g22 a18 a19 a20 a21, b2 g25 0 0 0 0 0 0 0 0, b2 g182 t179 (wrap64 (a19 - 8)) (wrap64 ((wrap64 (a19 - 8)) + 1)) t348 t375 t359 0 0, b3 g366 3 t359, b3 g372 t369 4] (World.setCell w377 ⟨g182, 4, none⟩ (.int .i64 t375)) := (HS.out).set1 (l1 := [b1 g22 a18 a19 a20 a21, b2 g25 0 0 0 0 0 0 0 0]) (l2 := [b3 g366 3 t359, b3 g372 t369 4]) 4 (.int .i64 t375); replace HS : Aside0 (Sep (fps []) w [b1 g22 a18 a19 a20 a21, b2 g25 0 0 0 0 0 0 0 0, b2 g182 t179 (wrap64 (a19 - 8)) (wrap64 ((wrap64 (a19 - 8)) + 1)) t348 t375 t359 0 0, b3 g366 3 t359, b3 g372 t369 4] w380) := ⟨by rw [hst]; exact hq0⟩; clear hq0; clear hst; replace HS : Aside0 (Sep (fps []) w [b1 g22 a18 a19 a20 a21, b2 g25 0 0 0 0 0 0 0 0, b2 g182 t179 (wrap64 (a19 - 8)) (wrap64 ((wrap64 (a19 - 8)) + 1)) t348 t375 t359 0 0] w380) := ⟨HS.out.sub (.cons_cons _ (.cons_cons _ (.cons_cons _ (.cons _ (.cons _ .slnil)))))⟩))
      obtain ⟨t400, HA401, H⟩ := bind_some H
      obtain ⟨t406, HA407, H⟩ := bind_some H
      obtain ⟨t412, HA413, H⟩ := bind_some H
      obtain ⟨t418, HA419, H⟩ := bind_some H
      go_cut [] (fun wc => ∃ (g403 : Nat) (g409 : Nat) (g415 : Nat), Aside0 (Sep (fps []) w [b1 g22 a18 a19 a20 a21, b2 g25 0 0 0 0 0 0 0 0, b2 g182 t179 (wrap64 (a19 - 8)) (wrap64 ((wrap64 (a19 - 8)) + 1)) t348 t375 t359 t418 0, b3 g403 2 t400, b3 g409 2 (wrap64 ((wrap64 (a19 - 8)) + 1)), b3 g415 t406 t412] wc))
      case first =>
        go_wp2_with fail
        refine start_ (n := 15) (S := (fun w' => w'.cell? ⟨g182, 4, none⟩ = some (.int .i64 t375) ∧ w'.cell? ⟨g22, 3, none⟩ = some (.int .i64 a21) ∧ w'.cell? ⟨g182, 2, none⟩ = some (.int .i64 (wrap64 ((wrap64 (a19 - 8)) + 1))))) (ds := []) #[false, false, false, false, false, false, false, false, false, false, false, false, false, false, false] (by kernel_rfl) rfl rfl (⟨blk_cellv ((HS.out.drew).at2) 4 rfl, blk_cellv ((HS.out.drew).at0) 3 rfl, blk_cellv ((HS.out.drew).at2) 2 rfl⟩) (fun hHeld => ?_)
        have HS_ := Aside0.mk HS.out.drew
        clear HS
        generalize World.drew _ = w426 at HS_ hHeld ⊢
        have HS := HS_
        clear HS_
        refine pure_ (i := 0) (N := some 53) (v := ?_) (a' := ?_) #[true, false, false, false, false, false, false, false, false, false, false, false, false, false, false] rfl rfl (by kernel_rfl) (fun _ _ _ h => h) (Or.inl ⟨by rfl, ?_⟩) ?_ ?_
        rotate_left
        · intro w'
          go_simp
          with_reducible rfl
        rotate_left
        · simp only [Act.put, List.setIfInBounds_toArray, List.set_cons_zero, List.set_cons_succ, i64_w, i32_w]
          rfl
        refine pure_ (i := 2) (N := some 55) (v := ?_) (a' := ?_) #[true, false, true, false, false, false, false, false, false, false, false, false, false, false, false] rfl rfl (by kernel_rfl) (fun _ _ _ h => h) (Or.inl ⟨by rfl, ?_⟩) ?_ ?_
        rotate_left
        · intro w'
          go_simp
          with_reducible rfl
        rotate_left
        · simp only [Act.put, List.setIfInBounds_toArray, List.set_cons_zero, List.set_cons_succ, i64_w, i32_w]
          rfl
        refine pure_ (i := 7) (N := some 60) (v := ?_) (a' := ?_) #[true, false, true, false, false, false, false, true, false, false, false, false, false, false, false] rfl rfl (by kernel_rfl) (fun _ _ _ h => h) (Or.inl ⟨by rfl, ?_⟩) ?_ ?_
        rotate_left
        · intro w'
          go_simp
          with_reducible rfl
        rotate_left
        · simp only [Act.put, List.setIfInBounds_toArray, List.set_cons_zero, List.set_cons_succ, i64_w, i32_w]
          rfl
        refine take_ (i := 1) (N := some 54) (v := ?_) (a' := ?_) #[true, true, true, false, false, false, false, true, false, false, false, false, false, false, false] rfl rfl (by kernel_rfl) (fun _ _ _ h => h) (Or.inl ⟨by rfl, ?_⟩) hHeld ?_ ?_
        rotate_left
        · rintro w' hS'
          obtain ⟨s0, s1, s2⟩ := hS'
          go_simp
          with_reducible rfl
        rotate_left
        · simp only [Act.put, List.setIfInBounds_toArray, List.set_cons_zero, List.set_cons_succ, i64_w, i32_w]
          rfl
        refine take_ (i := 3) (N := some 56) (v := ?_) (a' := ?_) #[true, true, true, true, false, false, false, true, false, false, false, false, false, false, false] rfl rfl (by kernel_rfl) (fun _ _ _ h => h) (Or.inl ⟨by rfl, ?_⟩) hHeld ?_ ?_
        rotate_left
        · rintro w' hS'
          obtain ⟨s0, s1, s2⟩ := hS'
          go_simp
          with_reducible rfl
        rotate_left
        · simp only [Act.put, List.setIfInBounds_toArray, List.set_cons_zero, List.set_cons_succ, i64_w, i32_w]
          rfl
        refine take_ (i := 8) (N := some 61) (v := ?_) (a' := ?_) #[true, true, true, true, false, false, false, true, true, false, false, false, false, false, false] rfl rfl (by kernel_rfl) (fun _ _ _ h => h) (Or.inl ⟨by rfl, ?_⟩) hHeld ?_ ?_
        rotate_left
        · rintro w' hS'
          obtain ⟨s0, s1, s2⟩ := hS'
          go_simp
          with_reducible rfl
        rotate_left
        · simp only [Act.put, List.setIfInBounds_toArray, List.set_cons_zero, List.set_cons_succ, i64_w, i32_w]
          rfl
        refine two_ (i := 4) (j := 9) (Ni := some 57) (Nj := some 62) #[true, true, true, true, true, false, false, true, true, false, false, false, false, false, false] #[true, true, true, true, false, false, false, true, true, true, false, false, false, false, false] rfl rfl rfl rfl (by kernel_rfl) (by decide) (by decide) (fun K hK => ?_) (fun K hK => ?_)
        · refine goes_ Try.func108 (by kernel_rfl) rfl #[.int .i64 t375, .int .i64 a21] (by rfl) rfl rfl (by (try simp only [List.map_toArray, List.map_cons, List.map_nil]); first | done | rfl) ?_
          refine (ratio_Up.calls t375 a21 t400 _ ⟨Sep.start _⟩ HA401).mono ?_
          rintro e_ w428 ⟨rfl, hS⟩
          replace HS : Aside0 (Sep (fps []) w [b1 g22 a18 a19 a20 a21, b2 g25 0 0 0 0 0 0 0 0, b2 g182 t179 (wrap64 (a19 - 8)) (wrap64 ((wrap64 (a19 - 8)) + 1)) t348 t375 t359 0 0] w428) := ⟨HS.out.call hS⟩
          clear hS
          refine ⟨_, rfl, ?_⟩
          refine hK.out _ _ (⟨blk_cellv (HS.out.at2) 4 rfl, blk_cellv (HS.out.at0) 3 rfl, blk_cellv (HS.out.at2) 2 rfl⟩) (fun hHeld => ?_)
          clear hK K
          refine norm_ (a' := ?_) ?_ ?_
          rotate_left
          · show Act.put _ (some 57) _ = _
            simp only [Act.put, List.setIfInBounds_toArray, List.set_cons_zero, List.set_cons_succ, i64_w, i32_w]
            rfl
          refine two_ (i := 5) (j := 9) (Ni := some 58) (Nj := some 62) #[true, true, true, true, true, true, false, true, true, false, false, false, false, false, false] #[true, true, true, true, true, false, false, true, true, true, false, false, false, false, false] rfl rfl rfl rfl (by kernel_rfl) (by decide) (by decide) (fun K hK => ?_) (fun K hK => ?_)
          · refine slice_step (n := 2) (by rfl) (N := 58) rfl (cs := #[.int .i64 2, .int .i64 t400]) (t := 3) ?hr ?_
            case hr => first | (go_simp; done) | (go_simp; rfl)
            intro g429 hg w430 hbox hb
            replace HS : Aside0 (Sep (fps []) w [b1 g22 a18 a19 a20 a21, b2 g25 0 0 0 0 0 0 0 0, b2 g182 t179 (wrap64 (a19 - 8)) (wrap64 ((wrap64 (a19 - 8)) + 1)) t348 t375 t359 0 0, b3 g429 2 t400] w430) := ⟨HS.out.box hg hbox hb⟩
            clear hg hbox hb
            refine hK.out _ _ (⟨blk_cellv (HS.out.at2) 4 rfl, blk_cellv (HS.out.at0) 3 rfl, blk_cellv (HS.out.at2) 2 rfl⟩) (fun hHeld => ?_)
            clear hK K
            refine norm_ (a' := ?_) ?_ ?_
            rotate_left
            · show Act.put _ (some 58) _ = _
              simp only [Act.put, List.setIfInBounds_toArray, List.set_cons_zero, List.set_cons_succ, i64_w, i32_w]
              rfl
            refine two_ (i := 6) (j := 9) (Ni := some 59) (Nj := some 62) #[true, true, true, true, true, true, true, true, true, false, false, false, false, false, false] #[true, true, true, true, true, true, false, true, true, true, false, false, false, false, false] rfl rfl rfl rfl (by kernel_rfl) (by decide) (by decide) (fun K hK => ?_) (fun K hK => ?_)
            · refine goes_ Try.func107 (by kernel_rfl) rfl #[.slice (some ⟨g429, 0, none⟩) 2 2] (by rfl) rfl rfl (by (try simp only [List.map_toArray, List.map_cons, List.map_nil]); first | done | rfl) ?_
              refine (ratio_Mul.calls _ [2, t400] (some ⟨g429, 0, none⟩) 2 t406 _ ⟨Rd.lit (l := []) (xs := [2, t400]) HS.out 3 rfl (by simp)⟩ ⟨Sep.start _⟩ HA407).mono ?_
              rintro e_ w433 ⟨rfl, hS⟩
              replace HS : Aside0 (Sep (fps []) w [b1 g22 a18 a19 a20 a21, b2 g25 0 0 0 0 0 0 0 0, b2 g182 t179 (wrap64 (a19 - 8)) (wrap64 ((wrap64 (a19 - 8)) + 1)) t348 t375 t359 0 0, b3 g429 2 t400] w433) := ⟨HS.out.call hS⟩
              clear hS
              refine ⟨_, rfl, ?_⟩
              refine hK.out _ _ (⟨blk_cellv (HS.out.at2) 4 rfl, blk_cellv (HS.out.at0) 3 rfl, blk_cellv (HS.out.at2) 2 rfl⟩) (fun hHeld => ?_)
              clear hK K
              refine norm_ (a' := ?_) ?_ ?_
              rotate_left
              · show Act.put _ (some 59) _ = _
                simp only [Act.put, List.setIfInBounds_toArray, List.set_cons_zero, List.set_cons_succ, i64_w, i32_w]
                rfl
              refine one_ (i := 9) (N := some 62) #[true, true, true, true, true, true, true, true, true, true, false, false, false, false, false] rfl rfl (by kernel_rfl) (by decide) (fun K hK => ?_)
              refine slice_step (n := 2) (by rfl) (N := 62) rfl (cs := #[.int .i64 2, .int .i64 (wrap64 ((wrap64 (a19 - 8)) + 1))]) (t := 3) ?hr ?_
              case hr => first | (go_simp; done) | (go_simp; rfl)
              intro g434 hg w435 hbox hb
              replace HS : Aside0 (Sep (fps []) w [b1 g22 a18 a19 a20 a21, b2 g25 0 0 0 0 0 0 0 0, b2 g182 t179 (wrap64 (a19 - 8)) (wrap64 ((wrap64 (a19 - 8)) + 1)) t348 t375 t359 0 0, b3 g429 2 t400, b3 g434 2 (wrap64 ((wrap64 (a19 - 8)) + 1))] w435) := ⟨HS.out.box hg hbox hb⟩
              clear hg hbox hb
              refine hK.out _ _ (⟨blk_cellv (HS.out.at2) 4 rfl, blk_cellv (HS.out.at0) 3 rfl, blk_cellv (HS.out.at2) 2 rfl⟩) (fun hHeld => ?_)
              clear hK K
              refine norm_ (a' := ?_) ?_ ?_
              rotate_left
              · show Act.put _ (some 62) _ = _
                simp only [Act.put, List.setIfInBounds_toArray, List.set_cons_zero, List.set_cons_succ, i64_w, i32_w]
                rfl
              refine one_ (i := 10) (N := some 63) #[true, true, true, true, true, true, true, true, true, true, true, false, false, false, false] rfl rfl (by kernel_rfl) (by decide) (fun K hK => ?_)
              refine goes_ Try.func107 (by kernel_rfl) rfl #[.slice (some ⟨g434, 0, none⟩) 2 2] (by rfl) rfl rfl (by (try simp only [List.map_toArray, List.map_cons, List.map_nil]); first | done | rfl) ?_
              refine (ratio_Mul.calls _ [2, wrap64 ((wrap64 (a19 - 8)) + 1)] (some ⟨g434, 0, none⟩) 2 t412 _ ⟨Rd.lit (l := []) (xs := [2, wrap64 ((wrap64 (a19 - 8)) + 1)]) HS.out 4 rfl (by simp)⟩ ⟨Sep.start _⟩ HA413).mono ?_
              rintro e_ w438 ⟨rfl, hS⟩
              replace HS : Aside0 (Sep (fps []) w [b1 g22 a18 a19 a20 a21, b2 g25 0 0 0 0 0 0 0 0, b2 g182 t179 (wrap64 (a19 - 8)) (wrap64 ((wrap64 (a19 - 8)) + 1)) t348 t375 t359 0 0, b3 g429 2 t400, b3 g434 2 (wrap64 ((wrap64 (a19 - 8)) + 1))] w438) := ⟨HS.out.call hS⟩
              clear hS
              refine ⟨_, rfl, ?_⟩
              refine hK.out _ _ (⟨blk_cellv (HS.out.at2) 4 rfl, blk_cellv (HS.out.at0) 3 rfl, blk_cellv (HS.out.at2) 2 rfl⟩) (fun hHeld => ?_)
              clear hK K
              refine norm_ (a' := ?_) ?_ ?_
              rotate_left
              · show Act.put _ (some 63) _ = _
                simp only [Act.put, List.setIfInBounds_toArray, List.set_cons_zero, List.set_cons_succ, i64_w, i32_w]
                rfl
              refine one_ (i := 11) (N := some 64) #[true, true, true, true, true, true, true, true, true, true, true, true, false, false, false] rfl rfl (by kernel_rfl) (by decide) (fun K hK => ?_)
              refine slice_step (n := 2) (by rfl) (N := 64) rfl (cs := #[.int .i64 t406, .int .i64 t412]) (t := 3) ?hr ?_
              case hr => first | (go_simp; done) | (go_simp; rfl)
              intro g439 hg w440 hbox hb
              replace HS : Aside0 (Sep (fps []) w [b1 g22 a18 a19 a20 a21, b2 g25 0 0 0 0 0 0 0 0, b2 g182 t179 (wrap64 (a19 - 8)) (wrap64 ((wrap64 (a19 - 8)) + 1)) t348 t375 t359 0 0, b3 g429 2 t400, b3 g434 2 (wrap64 ((wrap64 (a19 - 8)) + 1)), b3 g439 t406 t412] w440) := ⟨HS.out.box hg hbox hb⟩
              clear hg hbox hb
              refine hK.out _ _ (⟨blk_cellv (HS.out.at2) 4 rfl, blk_cellv (HS.out.at0) 3 rfl, blk_cellv (HS.out.at2) 2 rfl⟩) (fun hHeld => ?_)
              clear hK K
              refine norm_ (a' := ?_) ?_ ?_
              rotate_left
              · show Act.put _ (some 64) _ = _
                simp only [Act.put, List.setIfInBounds_toArray, List.set_cons_zero, List.set_cons_succ, i64_w, i32_w]
                rfl
              refine one_ (i := 12) (N := some 65) #[true, true, true, true, true, true, true, true, true, true, true, true, true, false, false] rfl rfl (by kernel_rfl) (by decide) (fun K hK => ?_)
              refine goes_ Try.func106 (by kernel_rfl) rfl #[.slice (some ⟨g439, 0, none⟩) 2 2] (by rfl) rfl rfl (by (try simp only [List.map_toArray, List.map_cons, List.map_nil]); first | done | rfl) ?_
              refine (ratio_Add.calls _ [t406, t412] (some ⟨g439, 0, none⟩) 2 t418 _ ⟨Rd.lit (l := []) (xs := [t406, t412]) HS.out 5 rfl (by simp)⟩ ⟨Sep.start _⟩ HA419).mono ?_
              rintro e_ w443 ⟨rfl, hS⟩
              replace HS : Aside0 (Sep (fps []) w [b1 g22 a18 a19 a20 a21, b2 g25 0 0 0 0 0 0 0 0, b2 g182 t179 (wrap64 (a19 - 8)) (wrap64 ((wrap64 (a19 - 8)) + 1)) t348 t375 t359 0 0, b3 g429 2 t400, b3 g434 2 (wrap64 ((wrap64 (a19 - 8)) + 1)), b3 g439 t406 t412] w443) := ⟨HS.out.call hS⟩
              clear hS
              refine ⟨_, rfl, ?_⟩
              refine hK.out _ _ (⟨blk_cellv (HS.out.at2) 4 rfl, blk_cellv (HS.out.at0) 3 rfl, blk_cellv (HS.out.at2) 2 rfl⟩) (fun hHeld => ?_)
              clear hK K
              refine norm_ (a' := ?_) ?_ ?_
              rotate_left
              · show Act.put _ (some 65) _ = _
                simp only [Act.put, List.setIfInBounds_toArray, List.set_cons_zero, List.set_cons_succ, i64_w, i32_w]
                rfl
              refine pure_ (i := 13) (N := some 66) (v := ?_) (a' := ?_) #[true, true, true, true, true, true, true, true, true, true, true, true, true, true, false] rfl rfl (by kernel_rfl) (fun _ _ _ h => h) (Or.inl ⟨by rfl, ?_⟩) ?_ ?_
              rotate_left
              · intro w'
                go_simp
                with_reducible rfl
              rotate_left
              · simp only [Act.put, List.setIfInBounds_toArray, List.set_cons_zero, List.set_cons_succ, i64_w, i32_w]
                rfl
              refine one_ (i := 14) (N := none) #[true, true, true, true, true, true, true, true, true, true, true, true, true, true, true] rfl rfl (by kernel_rfl) (by decide) (fun K hK => ?_)
              have hc445 := blk_cellv (v := .int .i64 0) (HS.out.at2) 6 rfl
              have hz446 := blk_fz (HS.out.at2) 6
              refine store_step (w1 := (World.setCell w443 ⟨g182, 6, none⟩ (.int .i64 t418))) (by rfl) rfl ?hr ?_
              case hr => first | (go_simp; done) | (go_simp; rfl)
              clear hc445 hz446
              intro w444 hst
              have hq0 : Sep (fps []) w [b1 g22 a18 a19 a20 a21, b2 g25 0 0 0 0 0 0 0 0, b2 g182 t179 (wrap64 (a19 - 8)) (wrap64 ((wrap64 (a19 - 8)) + 1)) t348 t375 t359 t418 0, b3 g429 2 t400, b3 g434 2 (wrap64 ((wrap64 (a19 - 8)) + 1)), b3 g439 t406 t412] (World.setCell w443 ⟨g182, 6, none⟩ (.int .i64 t418)) := (HS.out).set1 (l1 := [b1 g22 a18 a19 a20 a21, b2 g25 0 0 0 0 0 0 0 0]) (l2 := [b3 g429 2 t400, b3 g434 2 (wrap64 ((wrap64 (a19 - 8)) + 1)), b3 g439 t406 t412]) 6 (.int .i64 t418)
              have HS_ : Aside0 (Sep (fps []) w [b1 g22 a18 a19 a20 a21, b2 g25 0 0 0 0 0 0 0 0, b2 g182 t179 (wrap64 (a19 - 8)) (wrap64 ((wrap64 (a19 - 8)) + 1)) t348 t375 t359 t418 0, b3 g429 2 t400, b3 g434 2 (wrap64 ((wrap64 (a19 - 8)) + 1)), b3 g439 t406 t412] w444) := ⟨by rw [hst]; exact hq0⟩
              clear hq0
              clear HS hst
              have HS := HS_
              clear HS_
              refine hK.out _ _ (⟨blk_cellv (HS.out.at2) 4 rfl, blk_cellv (HS.out.at0) 3 rfl, blk_cellv (HS.out.at2) 2 rfl⟩) (fun hHeld => ?_)
              clear hK K
              refine done_ (by kernel_rfl) ?_
              go_wp2_with fail
              go_meet
              case rel => exact ⟨g429, g434, g439, ⟨((((((HS.out).front 5 (by simp)).front 5 (by simp)).front 5 (by simp)).front 5 (by simp)).front 5 (by simp)).front 5 (by simp)⟩⟩
            · refine slice_step (n := 2) (by rfl) (N := 62) rfl (cs := #[.int .i64 2, .int .i64 (wrap64 ((wrap64 (a19 - 8)) + 1))]) (t := 3) ?hr ?_
              case hr => first | (go_simp; done) | (go_simp; rfl)
              intro g447 hg w448 hbox hb
              replace HS : Aside0 (Sep (fps []) w [b1 g22 a18 a19 a20 a21, b2 g25 0 0 0 0 0 0 0 0, b2 g182 t179 (wrap64 (a19 - 8)) (wrap64 ((wrap64 (a19 - 8)) + 1)) t348 t375 t359 0 0, b3 g429 2 t400, b3 g447 2 (wrap64 ((wrap64 (a19 - 8)) + 1))] w448) := ⟨HS.out.box hg hbox hb⟩
              clear hg hbox hb
              refine hK.out _ _ (⟨blk_cellv (HS.out.at2) 4 rfl, blk_cellv (HS.out.at0) 3 rfl, blk_cellv (HS.out.at2) 2 rfl⟩) (fun hHeld => ?_)
              clear hK K
              refine norm_ (a' := ?_) ?_ ?_
              rotate_left
              · show Act.put _ (some 62) _ = _
                simp only [Act.put, List.setIfInBounds_toArray, List.set_cons_zero, List.set_cons_succ, i64_w, i32_w]
                rfl
              refine one_ (i := 6) (N := some 59) #[true, true, true, true, true, true, true, true, true, true, false, false, false, false, false] rfl rfl (by kernel_rfl) (by decide) (fun K hK => ?_)
              refine goes_ Try.func107 (by kernel_rfl) rfl #[.slice (some ⟨g429, 0, none⟩) 2 2] (by rfl) rfl rfl (by (try simp only [List.map_toArray, List.map_cons, List.map_nil]); first | done | rfl) ?_
              refine (ratio_Mul.calls _ [2, t400] (some ⟨g429, 0, none⟩) 2 t406 _ ⟨Rd.lit (l := []) (xs := [2, t400]) HS.out 3 rfl (by simp)⟩ ⟨Sep.start _⟩ HA407).mono ?_
              rintro e_ w451 ⟨rfl, hS⟩
              replace HS : Aside0 (Sep (fps []) w [b1 g22 a18 a19 a20 a21, b2 g25 0 0 0 0 0 0 0 0, b2 g182 t179 (wrap64 (a19 - 8)) (wrap64 ((wrap64 (a19 - 8)) + 1)) t348 t375 t359 0 0, b3 g429 2 t400, b3 g447 2 (wrap64 ((wrap64 (a19 - 8)) + 1))] w451) := ⟨HS.out.call hS⟩
              clear hS
              refine ⟨_, rfl, ?_⟩
              refine hK.out _ _ (⟨blk_cellv (HS.out.at2) 4 rfl, blk_cellv (HS.out.at0) 3 rfl, blk_cellv (HS.out.at2) 2 rfl⟩) (fun hHeld => ?_)
              clear hK K
              refine norm_ (a' := ?_) ?_ ?_
              rotate_left
              · show Act.put _ (some 59) _ = _
                simp only [Act.put, List.setIfInBounds_toArray, List.set_cons_zero, List.set_cons_succ, i64_w, i32_w]
                rfl
              refine one_ (i := 10) (N := some 63) #[true, true, true, true, true, true, true, true, true, true, true, false, false, false, false] rfl rfl (by kernel_rfl) (by decide) (fun K hK => ?_)
              refine goes_ Try.func107 (by kernel_rfl) rfl #[.slice (some ⟨g447, 0, none⟩) 2 2] (by rfl) rfl rfl (by (try simp only [List.map_toArray, List.map_cons, List.map_nil]); first | done | rfl) ?_
              refine (ratio_Mul.calls _ [2, wrap64 ((wrap64 (a19 - 8)) + 1)] (some ⟨g447, 0, none⟩) 2 t412 _ ⟨Rd.lit (l := []) (xs := [2, wrap64 ((wrap64 (a19 - 8)) + 1)]) HS.out 4 rfl (by simp)⟩ ⟨Sep.start _⟩ HA413).mono ?_
              rintro e_ w453 ⟨rfl, hS⟩
              replace HS : Aside0 (Sep (fps []) w [b1 g22 a18 a19 a20 a21, b2 g25 0 0 0 0 0 0 0 0, b2 g182 t179 (wrap64 (a19 - 8)) (wrap64 ((wrap64 (a19 - 8)) + 1)) t348 t375 t359 0 0, b3 g429 2 t400, b3 g447 2 (wrap64 ((wrap64 (a19 - 8)) + 1))] w453) := ⟨HS.out.call hS⟩
              clear hS
              refine ⟨_, rfl, ?_⟩
              refine hK.out _ _ (⟨blk_cellv (HS.out.at2) 4 rfl, blk_cellv (HS.out.at0) 3 rfl, blk_cellv (HS.out.at2) 2 rfl⟩) (fun hHeld => ?_)
              clear hK K
              refine norm_ (a' := ?_) ?_ ?_
              rotate_left
              · show Act.put _ (some 63) _ = _
                simp only [Act.put, List.setIfInBounds_toArray, List.set_cons_zero, List.set_cons_succ, i64_w, i32_w]
                rfl
              refine one_ (i := 11) (N := some 64) #[true, true, true, true, true, true, true, true, true, true, true, true, false, false, false] rfl rfl (by kernel_rfl) (by decide) (fun K hK => ?_)
              refine slice_step (n := 2) (by rfl) (N := 64) rfl (cs := #[.int .i64 t406, .int .i64 t412]) (t := 3) ?hr ?_
              case hr => first | (go_simp; done) | (go_simp; rfl)
              intro g454 hg w455 hbox hb
              replace HS : Aside0 (Sep (fps []) w [b1 g22 a18 a19 a20 a21, b2 g25 0 0 0 0 0 0 0 0, b2 g182 t179 (wrap64 (a19 - 8)) (wrap64 ((wrap64 (a19 - 8)) + 1)) t348 t375 t359 0 0, b3 g429 2 t400, b3 g447 2 (wrap64 ((wrap64 (a19 - 8)) + 1)), b3 g454 t406 t412] w455) := ⟨HS.out.box hg hbox hb⟩
              clear hg hbox hb
              refine hK.out _ _ (⟨blk_cellv (HS.out.at2) 4 rfl, blk_cellv (HS.out.at0) 3 rfl, blk_cellv (HS.out.at2) 2 rfl⟩) (fun hHeld => ?_)
              clear hK K
              refine norm_ (a' := ?_) ?_ ?_
              rotate_left
              · show Act.put _ (some 64) _ = _
                simp only [Act.put, List.setIfInBounds_toArray, List.set_cons_zero, List.set_cons_succ, i64_w, i32_w]
                rfl
              refine one_ (i := 12) (N := some 65) #[true, true, true, true, true, true, true, true, true, true, true, true, true, false, false] rfl rfl (by kernel_rfl) (by decide) (fun K hK => ?_)
              refine goes_ Try.func106 (by kernel_rfl) rfl #[.slice (some ⟨g454, 0, none⟩) 2 2] (by rfl) rfl rfl (by (try simp only [List.map_toArray, List.map_cons, List.map_nil]); first | done | rfl) ?_
              refine (ratio_Add.calls _ [t406, t412] (some ⟨g454, 0, none⟩) 2 t418 _ ⟨Rd.lit (l := []) (xs := [t406, t412]) HS.out 5 rfl (by simp)⟩ ⟨Sep.start _⟩ HA419).mono ?_
              rintro e_ w458 ⟨rfl, hS⟩
              replace HS : Aside0 (Sep (fps []) w [b1 g22 a18 a19 a20 a21, b2 g25 0 0 0 0 0 0 0 0, b2 g182 t179 (wrap64 (a19 - 8)) (wrap64 ((wrap64 (a19 - 8)) + 1)) t348 t375 t359 0 0, b3 g429 2 t400, b3 g447 2 (wrap64 ((wrap64 (a19 - 8)) + 1)), b3 g454 t406 t412] w458) := ⟨HS.out.call hS⟩
              clear hS
              refine ⟨_, rfl, ?_⟩
              refine hK.out _ _ (⟨blk_cellv (HS.out.at2) 4 rfl, blk_cellv (HS.out.at0) 3 rfl, blk_cellv (HS.out.at2) 2 rfl⟩) (fun hHeld => ?_)
              clear hK K
              refine norm_ (a' := ?_) ?_ ?_
              rotate_left
              · show Act.put _ (some 65) _ = _
                simp only [Act.put, List.setIfInBounds_toArray, List.set_cons_zero, List.set_cons_succ, i64_w, i32_w]
                rfl
              refine pure_ (i := 13) (N := some 66) (v := ?_) (a' := ?_) #[true, true, true, true, true, true, true, true, true, true, true, true, true, true, false] rfl rfl (by kernel_rfl) (fun _ _ _ h => h) (Or.inl ⟨by rfl, ?_⟩) ?_ ?_
              rotate_left
              · intro w'
                go_simp
                with_reducible rfl
              rotate_left
              · simp only [Act.put, List.setIfInBounds_toArray, List.set_cons_zero, List.set_cons_succ, i64_w, i32_w]
                rfl
              refine one_ (i := 14) (N := none) #[true, true, true, true, true, true, true, true, true, true, true, true, true, true, true] rfl rfl (by kernel_rfl) (by decide) (fun K hK => ?_)
              have hc460 := blk_cellv (v := .int .i64 0) (HS.out.at2) 6 rfl
              have hz461 := blk_fz (HS.out.at2) 6
              refine store_step (w1 := (World.setCell w458 ⟨g182, 6, none⟩ (.int .i64 t418))) (by rfl) rfl ?hr ?_
              case hr => first | (go_simp; done) | (go_simp; rfl)
              clear hc460 hz461
              intro w459 hst
              have hq0 : Sep (fps []) w [b1 g22 a18 a19 a20 a21, b2 g25 0 0 0 0 0 0 0 0, b2 g182 t179 (wrap64 (a19 - 8)) (wrap64 ((wrap64 (a19 - 8)) + 1)) t348 t375 t359 t418 0, b3 g429 2 t400, b3 g447 2 (wrap64 ((wrap64 (a19 - 8)) + 1)), b3 g454 t406 t412] (World.setCell w458 ⟨g182, 6, none⟩ (.int .i64 t418)) := (HS.out).set1 (l1 := [b1 g22 a18 a19 a20 a21, b2 g25 0 0 0 0 0 0 0 0]) (l2 := [b3 g429 2 t400, b3 g447 2 (wrap64 ((wrap64 (a19 - 8)) + 1)), b3 g454 t406 t412]) 6 (.int .i64 t418)
              have HS_ : Aside0 (Sep (fps []) w [b1 g22 a18 a19 a20 a21, b2 g25 0 0 0 0 0 0 0 0, b2 g182 t179 (wrap64 (a19 - 8)) (wrap64 ((wrap64 (a19 - 8)) + 1)) t348 t375 t359 t418 0, b3 g429 2 t400, b3 g447 2 (wrap64 ((wrap64 (a19 - 8)) + 1)), b3 g454 t406 t412] w459) := ⟨by rw [hst]; exact hq0⟩
              clear hq0
              clear HS hst
              have HS := HS_
              clear HS_
              refine hK.out _ _ (⟨blk_cellv (HS.out.at2) 4 rfl, blk_cellv (HS.out.at0) 3 rfl, blk_cellv (HS.out.at2) 2 rfl⟩) (fun hHeld => ?_)
              clear hK K
              refine done_ (by kernel_rfl) ?_
              go_wp2_with fail
              go_meet
              case rel => exact ⟨g429, g447, g454, ⟨((((((HS.out).front 5 (by simp)).front 5 (by simp)).front 5 (by simp)).front 5 (by simp)).front 5 (by simp)).front 5 (by simp)⟩⟩
          · refine slice_step (n := 2) (by rfl) (N := 62) rfl (cs := #[.int .i64 2, .int .i64 (wrap64 ((wrap64 (a19 - 8)) + 1))]) (t := 3) ?hr ?_
            case hr => first | (go_simp; done) | (go_simp; rfl)
            intro g462 hg w463 hbox hb
            replace HS : Aside0 (Sep (fps []) w [b1 g22 a18 a19 a20 a21, b2 g25 0 0 0 0 0 0 0 0, b2 g182 t179 (wrap64 (a19 - 8)) (wrap64 ((wrap64 (a19 - 8)) + 1)) t348 t375 t359 0 0, b3 g462 2 (wrap64 ((wrap64 (a19 - 8)) + 1))] w463) := ⟨HS.out.box hg hbox hb⟩
            clear hg hbox hb
            refine hK.out _ _ (⟨blk_cellv (HS.out.at2) 4 rfl, blk_cellv (HS.out.at0) 3 rfl, blk_cellv (HS.out.at2) 2 rfl⟩) (fun hHeld => ?_)
            clear hK K
            refine norm_ (a' := ?_) ?_ ?_
            rotate_left
            · show Act.put _ (some 62) _ = _
              simp only [Act.put, List.setIfInBounds_toArray, List.set_cons_zero, List.set_cons_succ, i64_w, i32_w]
              rfl
            refine one_ (i := 5) (N := some 58) #[true, true, true, true, true, true, false, true, true, true, false, false, false, false, false] rfl rfl (by kernel_rfl) (by decide) (fun K hK => ?_)
            refine slice_step (n := 2) (by rfl) (N := 58) rfl (cs := #[.int .i64 2, .int .i64 t400]) (t := 3) ?hr ?_
            case hr => first | (go_simp; done) | (go_simp; rfl)
            intro g465 hg w466 hbox hb
            replace HS : Aside0 (Sep (fps []) w [b1 g22 a18 a19 a20 a21, b2 g25 0 0 0 0 0 0 0 0, b2 g182 t179 (wrap64 (a19 - 8)) (wrap64 ((wrap64 (a19 - 8)) + 1)) t348 t375 t359 0 0, b3 g462 2 (wrap64 ((wrap64 (a19 - 8)) + 1)), b3 g465 2 t400] w466) := ⟨HS.out.box hg hbox hb⟩
            clear hg hbox hb
            refine hK.out _ _ (⟨blk_cellv (HS.out.at2) 4 rfl, blk_cellv (HS.out.at0) 3 rfl, blk_cellv (HS.out.at2) 2 rfl⟩) (fun hHeld => ?_)
            clear hK K
            refine norm_ (a' := ?_) ?_ ?_
            rotate_left
            · show Act.put _ (some 58) _ = _
              simp only [Act.put, List.setIfInBounds_toArray, List.set_cons_zero, List.set_cons_succ, i64_w, i32_w]
              rfl
            refine one_ (i := 6) (N := some 59) #[true, true, true, true, true, true, true, true, true, true, false, false, false, false, false] rfl rfl (by kernel_rfl) (by decide) (fun K hK => ?_)
            refine goes_ Try.func107 (by kernel_rfl) rfl #[.slice (some ⟨g465, 0, none⟩) 2 2] (by rfl) rfl rfl (by (try simp only [List.map_toArray, List.map_cons, List.map_nil]); first | done | rfl) ?_
            refine (ratio_Mul.calls _ [2, t400] (some ⟨g465, 0, none⟩) 2 t406 _ ⟨Rd.lit (l := []) (xs := [2, t400]) HS.out 4 rfl (by simp)⟩ ⟨Sep.start _⟩ HA407).mono ?_
            rintro e_ w469 ⟨rfl, hS⟩
            replace HS : Aside0 (Sep (fps []) w [b1 g22 a18 a19 a20 a21, b2 g25 0 0 0 0 0 0 0 0, b2 g182 t179 (wrap64 (a19 - 8)) (wrap64 ((wrap64 (a19 - 8)) + 1)) t348 t375 t359 0 0, b3 g462 2 (wrap64 ((wrap64 (a19 - 8)) + 1)), b3 g465 2 t400] w469) := ⟨HS.out.call hS⟩
            clear hS
            refine ⟨_, rfl, ?_⟩
            refine hK.out _ _ (⟨blk_cellv (HS.out.at2) 4 rfl, blk_cellv (HS.out.at0) 3 rfl, blk_cellv (HS.out.at2) 2 rfl⟩) (fun hHeld => ?_)
            clear hK K
            refine norm_ (a' := ?_) ?_ ?_
            rotate_left
            · show Act.put _ (some 59) _ = _
              simp only [Act.put, List.setIfInBounds_toArray, List.set_cons_zero, List.set_cons_succ, i64_w, i32_w]
              rfl
            refine one_ (i := 10) (N := some 63) #[true, true, true, true, true, true, true, true, true, true, true, false, false, false, false] rfl rfl (by kernel_rfl) (by decide) (fun K hK => ?_)
            refine goes_ Try.func107 (by kernel_rfl) rfl #[.slice (some ⟨g462, 0, none⟩) 2 2] (by rfl) rfl rfl (by (try simp only [List.map_toArray, List.map_cons, List.map_nil]); first | done | rfl) ?_
            refine (ratio_Mul.calls _ [2, wrap64 ((wrap64 (a19 - 8)) + 1)] (some ⟨g462, 0, none⟩) 2 t412 _ ⟨Rd.lit (l := []) (xs := [2, wrap64 ((wrap64 (a19 - 8)) + 1)]) HS.out 3 rfl (by simp)⟩ ⟨Sep.start _⟩ HA413).mono ?_
            rintro e_ w471 ⟨rfl, hS⟩
            replace HS : Aside0 (Sep (fps []) w [b1 g22 a18 a19 a20 a21, b2 g25 0 0 0 0 0 0 0 0, b2 g182 t179 (wrap64 (a19 - 8)) (wrap64 ((wrap64 (a19 - 8)) + 1)) t348 t375 t359 0 0, b3 g462 2 (wrap64 ((wrap64 (a19 - 8)) + 1)), b3 g465 2 t400] w471) := ⟨HS.out.call hS⟩
            clear hS
            refine ⟨_, rfl, ?_⟩
            refine hK.out _ _ (⟨blk_cellv (HS.out.at2) 4 rfl, blk_cellv (HS.out.at0) 3 rfl, blk_cellv (HS.out.at2) 2 rfl⟩) (fun hHeld => ?_)
            clear hK K
            refine norm_ (a' := ?_) ?_ ?_
            rotate_left
            · show Act.put _ (some 63) _ = _
              simp only [Act.put, List.setIfInBounds_toArray, List.set_cons_zero, List.set_cons_succ, i64_w, i32_w]
              rfl
            refine one_ (i := 11) (N := some 64) #[true, true, true, true, true, true, true, true, true, true, true, true, false, false, false] rfl rfl (by kernel_rfl) (by decide) (fun K hK => ?_)
            refine slice_step (n := 2) (by rfl) (N := 64) rfl (cs := #[.int .i64 t406, .int .i64 t412]) (t := 3) ?hr ?_
            case hr => first | (go_simp; done) | (go_simp; rfl)
            intro g472 hg w473 hbox hb
            replace HS : Aside0 (Sep (fps []) w [b1 g22 a18 a19 a20 a21, b2 g25 0 0 0 0 0 0 0 0, b2 g182 t179 (wrap64 (a19 - 8)) (wrap64 ((wrap64 (a19 - 8)) + 1)) t348 t375 t359 0 0, b3 g462 2 (wrap64 ((wrap64 (a19 - 8)) + 1)), b3 g465 2 t400, b3 g472 t406 t412] w473) := ⟨HS.out.box hg hbox hb⟩
            clear hg hbox hb
            refine hK.out _ _ (⟨blk_cellv (HS.out.at2) 4 rfl, blk_cellv (HS.out.at0) 3 rfl, blk_cellv (HS.out.at2) 2 rfl⟩) (fun hHeld => ?_)
            clear hK K
            refine norm_ (a' := ?_) ?_ ?_
            rotate_left
            · show Act.put _ (some 64) _ = _
              simp only [Act.put, List.setIfInBounds_toArray, List.set_cons_zero, List.set_cons_succ, i64_w, i32_w]
              rfl
            refine one_ (i := 12) (N := some 65) #[true, true, true, true, true, true, true, true, true, true, true, true, true, false, false] rfl rfl (by kernel_rfl) (by decide) (fun K hK => ?_)
            refine goes_ Try.func106 (by kernel_rfl) rfl #[.slice (some ⟨g472, 0, none⟩) 2 2] (by rfl) rfl rfl (by (try simp only [List.map_toArray, List.map_cons, List.map_nil]); first | done | rfl) ?_
            refine (ratio_Add.calls _ [t406, t412] (some ⟨g472, 0, none⟩) 2 t418 _ ⟨Rd.lit (l := []) (xs := [t406, t412]) HS.out 5 rfl (by simp)⟩ ⟨Sep.start _⟩ HA419).mono ?_
            rintro e_ w476 ⟨rfl, hS⟩
            replace HS : Aside0 (Sep (fps []) w [b1 g22 a18 a19 a20 a21, b2 g25 0 0 0 0 0 0 0 0, b2 g182 t179 (wrap64 (a19 - 8)) (wrap64 ((wrap64 (a19 - 8)) + 1)) t348 t375 t359 0 0, b3 g462 2 (wrap64 ((wrap64 (a19 - 8)) + 1)), b3 g465 2 t400, b3 g472 t406 t412] w476) := ⟨HS.out.call hS⟩
            clear hS
            refine ⟨_, rfl, ?_⟩
            refine hK.out _ _ (⟨blk_cellv (HS.out.at2) 4 rfl, blk_cellv (HS.out.at0) 3 rfl, blk_cellv (HS.out.at2) 2 rfl⟩) (fun hHeld => ?_)
            clear hK K
            refine norm_ (a' := ?_) ?_ ?_
            rotate_left
            · show Act.put _ (some 65) _ = _
              simp only [Act.put, List.setIfInBounds_toArray, List.set_cons_zero, List.set_cons_succ, i64_w, i32_w]
              rfl
            refine pure_ (i := 13) (N := some 66) (v := ?_) (a' := ?_) #[true, true, true, true, true, true, true, true, true, true, true, true, true, true, false] rfl rfl (by kernel_rfl) (fun _ _ _ h => h) (Or.inl ⟨by rfl, ?_⟩) ?_ ?_
            rotate_left
            · intro w'
              go_simp
              with_reducible rfl
            rotate_left
            · simp only [Act.put, List.setIfInBounds_toArray, List.set_cons_zero, List.set_cons_succ, i64_w, i32_w]
              rfl
            refine one_ (i := 14) (N := none) #[true, true, true, true, true, true, true, true, true, true, true, true, true, true, true] rfl rfl (by kernel_rfl) (by decide) (fun K hK => ?_)
            have hc478 := blk_cellv (v := .int .i64 0) (HS.out.at2) 6 rfl
            have hz479 := blk_fz (HS.out.at2) 6
            refine store_step (w1 := (World.setCell w476 ⟨g182, 6, none⟩ (.int .i64 t418))) (by rfl) rfl ?hr ?_
            case hr => first | (go_simp; done) | (go_simp; rfl)
            clear hc478 hz479
            intro w477 hst
            have hq0 : Sep (fps []) w [b1 g22 a18 a19 a20 a21, b2 g25 0 0 0 0 0 0 0 0, b2 g182 t179 (wrap64 (a19 - 8)) (wrap64 ((wrap64 (a19 - 8)) + 1)) t348 t375 t359 t418 0, b3 g462 2 (wrap64 ((wrap64 (a19 - 8)) + 1)), b3 g465 2 t400, b3 g472 t406 t412] (World.setCell w476 ⟨g182, 6, none⟩ (.int .i64 t418)) := (HS.out).set1 (l1 := [b1 g22 a18 a19 a20 a21, b2 g25 0 0 0 0 0 0 0 0]) (l2 := [b3 g462 2 (wrap64 ((wrap64 (a19 - 8)) + 1)), b3 g465 2 t400, b3 g472 t406 t412]) 6 (.int .i64 t418)
            have HS_ : Aside0 (Sep (fps []) w [b1 g22 a18 a19 a20 a21, b2 g25 0 0 0 0 0 0 0 0, b2 g182 t179 (wrap64 (a19 - 8)) (wrap64 ((wrap64 (a19 - 8)) + 1)) t348 t375 t359 t418 0, b3 g462 2 (wrap64 ((wrap64 (a19 - 8)) + 1)), b3 g465 2 t400, b3 g472 t406 t412] w477) := ⟨by rw [hst]; exact hq0⟩
            clear hq0
            clear HS hst
            have HS := HS_
            clear HS_
            refine hK.out _ _ (⟨blk_cellv (HS.out.at2) 4 rfl, blk_cellv (HS.out.at0) 3 rfl, blk_cellv (HS.out.at2) 2 rfl⟩) (fun hHeld => ?_)
            clear hK K
            refine done_ (by kernel_rfl) ?_
            go_wp2_with fail
            go_meet
            case rel => exact ⟨g465, g462, g472, ⟨((((((HS.out).front 5 (by simp)).front 4 (by simp)).front 5 (by simp)).front 5 (by simp)).front 5 (by simp)).front 5 (by simp)⟩⟩
        · refine slice_step (n := 2) (by rfl) (N := 62) rfl (cs := #[.int .i64 2, .int .i64 (wrap64 ((wrap64 (a19 - 8)) + 1))]) (t := 3) ?hr ?_
          case hr => first | (go_simp; done) | (go_simp; rfl)
          intro g480 hg w481 hbox hb
          replace HS : Aside0 (Sep (fps []) w [b1 g22 a18 a19 a20 a21, b2 g25 0 0 0 0 0 0 0 0, b2 g182 t179 (wrap64 (a19 - 8)) (wrap64 ((wrap64 (a19 - 8)) + 1)) t348 t375 t359 0 0, b3 g480 2 (wrap64 ((wrap64 (a19 - 8)) + 1))] w481) := ⟨HS.out.box hg hbox hb⟩
          clear hg hbox hb
          refine hK.out _ _ (⟨blk_cellv (HS.out.at2) 4 rfl, blk_cellv (HS.out.at0) 3 rfl, blk_cellv (HS.out.at2) 2 rfl⟩) (fun hHeld => ?_)
          clear hK K
          refine norm_ (a' := ?_) ?_ ?_
          rotate_left
          · show Act.put _ (some 62) _ = _
            simp only [Act.put, List.setIfInBounds_toArray, List.set_cons_zero, List.set_cons_succ, i64_w, i32_w]
            rfl
          refine one_ (i := 4) (N := some 57) #[true, true, true, true, true, false, false, true, true, true, false, false, false, false, false] rfl rfl (by kernel_rfl) (by decide) (fun K hK => ?_)
          refine goes_ Try.func108 (by kernel_rfl) rfl #[.int .i64 t375, .int .i64 a21] (by rfl) rfl rfl (by (try simp only [List.map_toArray, List.map_cons, List.map_nil]); first | done | rfl) ?_
          refine (ratio_Up.calls t375 a21 t400 _ ⟨Sep.start _⟩ HA401).mono ?_
          rintro e_ w484 ⟨rfl, hS⟩
          replace HS : Aside0 (Sep (fps []) w [b1 g22 a18 a19 a20 a21, b2 g25 0 0 0 0 0 0 0 0, b2 g182 t179 (wrap64 (a19 - 8)) (wrap64 ((wrap64 (a19 - 8)) + 1)) t348 t375 t359 0 0, b3 g480 2 (wrap64 ((wrap64 (a19 - 8)) + 1))] w484) := ⟨HS.out.call hS⟩
          clear hS
          refine ⟨_, rfl, ?_⟩
          refine hK.out _ _ (⟨blk_cellv (HS.out.at2) 4 rfl, blk_cellv (HS.out.at0) 3 rfl, blk_cellv (HS.out.at2) 2 rfl⟩) (fun hHeld => ?_)
          clear hK K
          refine norm_ (a' := ?_) ?_ ?_
          rotate_left
          · show Act.put _ (some 57) _ = _
            simp only [Act.put, List.setIfInBounds_toArray, List.set_cons_zero, List.set_cons_succ, i64_w, i32_w]
            rfl
          refine one_ (i := 5) (N := some 58) #[true, true, true, true, true, true, false, true, true, true, false, false, false, false, false] rfl rfl (by kernel_rfl) (by decide) (fun K hK => ?_)
          refine slice_step (n := 2) (by rfl) (N := 58) rfl (cs := #[.int .i64 2, .int .i64 t400]) (t := 3) ?hr ?_
          case hr => first | (go_simp; done) | (go_simp; rfl)
          intro g485 hg w486 hbox hb
          replace HS : Aside0 (Sep (fps []) w [b1 g22 a18 a19 a20 a21, b2 g25 0 0 0 0 0 0 0 0, b2 g182 t179 (wrap64 (a19 - 8)) (wrap64 ((wrap64 (a19 - 8)) + 1)) t348 t375 t359 0 0, b3 g480 2 (wrap64 ((wrap64 (a19 - 8)) + 1)), b3 g485 2 t400] w486) := ⟨HS.out.box hg hbox hb⟩
          clear hg hbox hb
          refine hK.out _ _ (⟨blk_cellv (HS.out.at2) 4 rfl, blk_cellv (HS.out.at0) 3 rfl, blk_cellv (HS.out.at2) 2 rfl⟩) (fun hHeld => ?_)
          clear hK K
          refine norm_ (a' := ?_) ?_ ?_
          rotate_left
          · show Act.put _ (some 58) _ = _
            simp only [Act.put, List.setIfInBounds_toArray, List.set_cons_zero, List.set_cons_succ, i64_w, i32_w]
            rfl
          refine one_ (i := 6) (N := some 59) #[true, true, true, true, true, true, true, true, true, true, false, false, false, false, false] rfl rfl (by kernel_rfl) (by decide) (fun K hK => ?_)
          refine goes_ Try.func107 (by kernel_rfl) rfl #[.slice (some ⟨g485, 0, none⟩) 2 2] (by rfl) rfl rfl (by (try simp only [List.map_toArray, List.map_cons, List.map_nil]); first | done | rfl) ?_
          refine (ratio_Mul.calls _ [2, t400] (some ⟨g485, 0, none⟩) 2 t406 _ ⟨Rd.lit (l := []) (xs := [2, t400]) HS.out 4 rfl (by simp)⟩ ⟨Sep.start _⟩ HA407).mono ?_
          rintro e_ w489 ⟨rfl, hS⟩
          replace HS : Aside0 (Sep (fps []) w [b1 g22 a18 a19 a20 a21, b2 g25 0 0 0 0 0 0 0 0, b2 g182 t179 (wrap64 (a19 - 8)) (wrap64 ((wrap64 (a19 - 8)) + 1)) t348 t375 t359 0 0, b3 g480 2 (wrap64 ((wrap64 (a19 - 8)) + 1)), b3 g485 2 t400] w489) := ⟨HS.out.call hS⟩
          clear hS
          refine ⟨_, rfl, ?_⟩
          refine hK.out _ _ (⟨blk_cellv (HS.out.at2) 4 rfl, blk_cellv (HS.out.at0) 3 rfl, blk_cellv (HS.out.at2) 2 rfl⟩) (fun hHeld => ?_)
          clear hK K
          refine norm_ (a' := ?_) ?_ ?_
          rotate_left
          · show Act.put _ (some 59) _ = _
            simp only [Act.put, List.setIfInBounds_toArray, List.set_cons_zero, List.set_cons_succ, i64_w, i32_w]
            rfl
          refine one_ (i := 10) (N := some 63) #[true, true, true, true, true, true, true, true, true, true, true, false, false, false, false] rfl rfl (by kernel_rfl) (by decide) (fun K hK => ?_)
          refine goes_ Try.func107 (by kernel_rfl) rfl #[.slice (some ⟨g480, 0, none⟩) 2 2] (by rfl) rfl rfl (by (try simp only [List.map_toArray, List.map_cons, List.map_nil]); first | done | rfl) ?_
          refine (ratio_Mul.calls _ [2, wrap64 ((wrap64 (a19 - 8)) + 1)] (some ⟨g480, 0, none⟩) 2 t412 _ ⟨Rd.lit (l := []) (xs := [2, wrap64 ((wrap64 (a19 - 8)) + 1)]) HS.out 3 rfl (by simp)⟩ ⟨Sep.start _⟩ HA413).mono ?_
          rintro e_ w491 ⟨rfl, hS⟩
          replace HS : Aside0 (Sep (fps []) w [b1 g22 a18 a19 a20 a21, b2 g25 0 0 0 0 0 0 0 0, b2 g182 t179 (wrap64 (a19 - 8)) (wrap64 ((wrap64 (a19 - 8)) + 1)) t348 t375 t359 0 0, b3 g480 2 (wrap64 ((wrap64 (a19 - 8)) + 1)), b3 g485 2 t400] w491) := ⟨HS.out.call hS⟩
          clear hS
          refine ⟨_, rfl, ?_⟩
          refine hK.out _ _ (⟨blk_cellv (HS.out.at2) 4 rfl, blk_cellv (HS.out.at0) 3 rfl, blk_cellv (HS.out.at2) 2 rfl⟩) (fun hHeld => ?_)
          clear hK K
          refine norm_ (a' := ?_) ?_ ?_
          rotate_left
          · show Act.put _ (some 63) _ = _
            simp only [Act.put, List.setIfInBounds_toArray, List.set_cons_zero, List.set_cons_succ, i64_w, i32_w]
            rfl
          refine one_ (i := 11) (N := some 64) #[true, true, true, true, true, true, true, true, true, true, true, true, false, false, false] rfl rfl (by kernel_rfl) (by decide) (fun K hK => ?_)
          refine slice_step (n := 2) (by rfl) (N := 64) rfl (cs := #[.int .i64 t406, .int .i64 t412]) (t := 3) ?hr ?_
          case hr => first | (go_simp; done) | (go_simp; rfl)
          intro g492 hg w493 hbox hb
          replace HS : Aside0 (Sep (fps []) w [b1 g22 a18 a19 a20 a21, b2 g25 0 0 0 0 0 0 0 0, b2 g182 t179 (wrap64 (a19 - 8)) (wrap64 ((wrap64 (a19 - 8)) + 1)) t348 t375 t359 0 0, b3 g480 2 (wrap64 ((wrap64 (a19 - 8)) + 1)), b3 g485 2 t400, b3 g492 t406 t412] w493) := ⟨HS.out.box hg hbox hb⟩
          clear hg hbox hb
          refine hK.out _ _ (⟨blk_cellv (HS.out.at2) 4 rfl, blk_cellv (HS.out.at0) 3 rfl, blk_cellv (HS.out.at2) 2 rfl⟩) (fun hHeld => ?_)
          clear hK K
          refine norm_ (a' := ?_) ?_ ?_
          rotate_left
          · show Act.put _ (some 64) _ = _
            simp only [Act.put, List.setIfInBounds_toArray, List.set_cons_zero, List.set_cons_succ, i64_w, i32_w]
            rfl
          refine one_ (i := 12) (N := some 65) #[true, true, true, true, true, true, true, true, true, true, true, true, true, false, false] rfl rfl (by kernel_rfl) (by decide) (fun K hK => ?_)
          refine goes_ Try.func106 (by kernel_rfl) rfl #[.slice (some ⟨g492, 0, none⟩) 2 2] (by rfl) rfl rfl (by (try simp only [List.map_toArray, List.map_cons, List.map_nil]); first | done | rfl) ?_
          refine (ratio_Add.calls _ [t406, t412] (some ⟨g492, 0, none⟩) 2 t418 _ ⟨Rd.lit (l := []) (xs := [t406, t412]) HS.out 5 rfl (by simp)⟩ ⟨Sep.start _⟩ HA419).mono ?_
          rintro e_ w496 ⟨rfl, hS⟩
          replace HS : Aside0 (Sep (fps []) w [b1 g22 a18 a19 a20 a21, b2 g25 0 0 0 0 0 0 0 0, b2 g182 t179 (wrap64 (a19 - 8)) (wrap64 ((wrap64 (a19 - 8)) + 1)) t348 t375 t359 0 0, b3 g480 2 (wrap64 ((wrap64 (a19 - 8)) + 1)), b3 g485 2 t400, b3 g492 t406 t412] w496) := ⟨HS.out.call hS⟩
          clear hS
          refine ⟨_, rfl, ?_⟩
          refine hK.out _ _ (⟨blk_cellv (HS.out.at2) 4 rfl, blk_cellv (HS.out.at0) 3 rfl, blk_cellv (HS.out.at2) 2 rfl⟩) (fun hHeld => ?_)
          clear hK K
          refine norm_ (a' := ?_) ?_ ?_
          rotate_left
          · show Act.put _ (some 65) _ = _
            simp only [Act.put, List.setIfInBounds_toArray, List.set_cons_zero, List.set_cons_succ, i64_w, i32_w]
            rfl
          refine pure_ (i := 13) (N := some 66) (v := ?_) (a' := ?_) #[true, true, true, true, true, true, true, true, true, true, true, true, true, true, false] rfl rfl (by kernel_rfl) (fun _ _ _ h => h) (Or.inl ⟨by rfl, ?_⟩) ?_ ?_
          rotate_left
          · intro w'
            go_simp
            with_reducible rfl
          rotate_left
          · simp only [Act.put, List.setIfInBounds_toArray, List.set_cons_zero, List.set_cons_succ, i64_w, i32_w]
            rfl
          refine one_ (i := 14) (N := none) #[true, true, true, true, true, true, true, true, true, true, true, true, true, true, true] rfl rfl (by kernel_rfl) (by decide) (fun K hK => ?_)
          have hc498 := blk_cellv (v := .int .i64 0) (HS.out.at2) 6 rfl
          have hz499 := blk_fz (HS.out.at2) 6
          refine store_step (w1 := (World.setCell w496 ⟨g182, 6, none⟩ (.int .i64 t418))) (by rfl) rfl ?hr ?_
          case hr => first | (go_simp; done) | (go_simp; rfl)
          clear hc498 hz499
          intro w497 hst
          have hq0 : Sep (fps []) w [b1 g22 a18 a19 a20 a21, b2 g25 0 0 0 0 0 0 0 0, b2 g182 t179 (wrap64 (a19 - 8)) (wrap64 ((wrap64 (a19 - 8)) + 1)) t348 t375 t359 t418 0, b3 g480 2 (wrap64 ((wrap64 (a19 - 8)) + 1)), b3 g485 2 t400, b3 g492 t406 t412] (World.setCell w496 ⟨g182, 6, none⟩ (.int .i64 t418)) := (HS.out).set1 (l1 := [b1 g22 a18 a19 a20 a21, b2 g25 0 0 0 0 0 0 0 0]) (l2 := [b3 g480 2 (wrap64 ((wrap64 (a19 - 8)) + 1)), b3 g485 2 t400, b3 g492 t406 t412]) 6 (.int .i64 t418)
          have HS_ : Aside0 (Sep (fps []) w [b1 g22 a18 a19 a20 a21, b2 g25 0 0 0 0 0 0 0 0, b2 g182 t179 (wrap64 (a19 - 8)) (wrap64 ((wrap64 (a19 - 8)) + 1)) t348 t375 t359 t418 0, b3 g480 2 (wrap64 ((wrap64 (a19 - 8)) + 1)), b3 g485 2 t400, b3 g492 t406 t412] w497) := ⟨by rw [hst]; exact hq0⟩
          clear hq0
          clear HS hst
          have HS := HS_
          clear HS_
          refine hK.out _ _ (⟨blk_cellv (HS.out.at2) 4 rfl, blk_cellv (HS.out.at0) 3 rfl, blk_cellv (HS.out.at2) 2 rfl⟩) (fun hHeld => ?_)
          clear hK K
          refine done_ (by kernel_rfl) ?_
          go_wp2_with fail
          go_meet
          case rel => exact ⟨g485, g480, g492, ⟨((((((HS.out).front 5 (by simp)).front 4 (by simp)).front 5 (by simp)).front 5 (by simp)).front 5 (by simp)).front 5 (by simp)⟩⟩
      case rest =>
        clear HS
        obtain ⟨g403, g409, g415, HS⟩ := hcut
        obtain ⟨w424, rfl⟩ : ∃ x : World, x = wc := ⟨_, rfl⟩
        replace HS : Aside0 (Sep (fps []) w [b1 g22 a18 a19 a20 a21, b2 g25 0 0 0 0 0 0 0 0, b2 g182 t179 (wrap64 (a19 - 8)) (wrap64 ((wrap64 (a19 - 8)) + 1)) t348 t375 t359 t418 0] w424) := ⟨HS.out.sub (.cons_cons _ (.cons_cons _ (.cons_cons _ (.cons _ (.cons _ (.cons _ .slnil))))))⟩
        go_wp2_with fail
        refine start_ (n := 15) (S := (fun w' => w'.cell? ⟨g182, 4, none⟩ = some (.int .i64 t375) ∧ w'.cell? ⟨g182, 5, none⟩ = some (.int .i64 t359) ∧ w'.cell? ⟨g22, 3, none⟩ = some (.int .i64 a21))) (ds := []) #[false, false, false, false, false, false, false, false, false, false, false, false, false, false, false] (by kernel_rfl) rfl rfl (⟨blk_cellv ((HS.out.drew).at2) 4 rfl, blk_cellv ((HS.out.drew).at2) 5 rfl, blk_cellv ((HS.out.drew).at0) 3 rfl⟩) (fun hHeld => ?_)
        have HS_ := Aside0.mk HS.out.drew
        clear HS
        generalize World.drew _ = w501 at HS_ hHeld ⊢
        have HS := HS_
        clear HS_
        refine pure_ (i := 0) (N := some 67) (v := ?_) (a' := ?_) #[true, false, false, false, false, false, false, false, false, false, false, false, false, false, false] rfl rfl (by kernel_rfl) (fun _ _ _ h => h) (Or.inl ⟨by rfl, ?_⟩) ?_ ?_
        rotate_left
        · intro w'
          go_simp
          with_reducible rfl
        rotate_left
        · simp only [Act.put, List.setIfInBounds_toArray, List.set_cons_zero, List.set_cons_succ, i64_w, i32_w]
          rfl
        refine pure_ (i := 2) (N := some 69) (v := ?_) (a' := ?_) #[true, false, true, false, false, false, false, false, false, false, false, false, false, false, false] rfl rfl (by kernel_rfl) (fun _ _ _ h => h) (Or.inl ⟨by rfl, ?_⟩) ?_ ?_
        rotate_left
        · intro w'
          go_simp
          with_reducible rfl
        rotate_left
        · simp only [Act.put, List.setIfInBounds_toArray, List.set_cons_zero, List.set_cons_succ, i64_w, i32_w]
          rfl
        refine pure_ (i := 4) (N := some 71) (v := ?_) (a' := ?_) #[true, false, true, false, true, false, false, false, false, false, false, false, false, false, false] rfl rfl (by kernel_rfl) (fun _ _ _ h => h) (Or.inl ⟨by rfl, ?_⟩) ?_ ?_
        rotate_left
        · intro w'
          go_simp
          with_reducible rfl
        rotate_left
        · simp only [Act.put, List.setIfInBounds_toArray, List.set_cons_zero, List.set_cons_succ, i64_w, i32_w]
          rfl
        refine pure_ (i := 8) (N := some 75) (v := ?_) (a' := ?_) #[true, false, true, false, true, false, false, false, true, false, false, false, false, false, false] rfl rfl (by kernel_rfl) (fun _ _ _ h => h) (Or.inl ⟨by rfl, ?_⟩) ?_ ?_
        rotate_left
        · intro w'
          go_simp
          with_reducible rfl
        rotate_left
        · simp only [Act.put, List.setIfInBounds_toArray, List.set_cons_zero, List.set_cons_succ, i64_w, i32_w]
          rfl
        refine take_ (i := 1) (N := some 68) (v := ?_) (a' := ?_) #[true, true, true, false, true, false, false, false, true, false, false, false, false, false, false] rfl rfl (by kernel_rfl) (fun _ _ _ h => h) (Or.inl ⟨by rfl, ?_⟩) hHeld ?_ ?_
        rotate_left
        · rintro w' hS'
          obtain ⟨s0, s1, s2⟩ := hS'
          go_simp
          with_reducible rfl
        rotate_left
        · simp only [Act.put, List.setIfInBounds_toArray, List.set_cons_zero, List.set_cons_succ, i64_w, i32_w]
          rfl
        refine take_ (i := 3) (N := some 70) (v := ?_) (a' := ?_) #[true, true, true, true, true, false, false, false, true, false, false, false, false, false, false] rfl rfl (by kernel_rfl) (fun _ _ _ h => h) (Or.inl ⟨by rfl, ?_⟩) hHeld ?_ ?_
        rotate_left
        · rintro w' hS'
          obtain ⟨s0, s1, s2⟩ := hS'
          go_simp
          with_reducible rfl
        rotate_left
        · simp only [Act.put, List.setIfInBounds_toArray, List.set_cons_zero, List.set_cons_succ, i64_w, i32_w]
          rfl
        refine take_ (i := 5) (N := some 72) (v := ?_) (a' := ?_) #[true, true, true, true, true, true, false, false, true, false, false, false, false, false, false] rfl rfl (by kernel_rfl) (fun _ _ _ h => h) (Or.inl ⟨by rfl, ?_⟩) hHeld ?_ ?_
        rotate_left
        · rintro w' hS'
          obtain ⟨s0, s1, s2⟩ := hS'
          go_simp
          with_reducible rfl
        rotate_left
        · simp only [Act.put, List.setIfInBounds_toArray, List.set_cons_zero, List.set_cons_succ, i64_w, i32_w]
          rfl
        refine take_ (i := 9) (N := some 76) (v := ?_) (a' := ?_) #[true, true, true, true, true, true, false, false, true, true, false, false, false, false, false] rfl rfl (by kernel_rfl) (fun _ _ _ h => h) (Or.inl ⟨by rfl, ?_⟩) hHeld ?_ ?_
        rotate_left
        · rintro w' hS'
          obtain ⟨s0, s1, s2⟩ := hS'
          go_simp
          with_reducible rfl
        rotate_left
        · simp only [Act.put, List.setIfInBounds_toArray, List.set_cons_zero, List.set_cons_succ, i64_w, i32_w]
          rfl
        refine one_ (i := 6) (N := some 73) #[true, true, true, true, true, true, true, false, true, true, false, false, false, false, false] rfl rfl (by kernel_rfl) (by decide) (fun K hK => ?_)
        refine slice_step (n := 3) (by rfl) (N := 73) rfl (cs := #[.int .i64 t375, .int .i64 t375, .int .i64 t359]) (t := 3) ?hr ?_
        case hr => first | (go_simp; done) | (go_simp; rfl)
        intro g502 hg w503 hbox hb
        replace HS : Aside0 (Sep (fps []) w [b1 g22 a18 a19 a20 a21, b2 g25 0 0 0 0 0 0 0 0, b2 g182 t179 (wrap64 (a19 - 8)) (wrap64 ((wrap64 (a19 - 8)) + 1)) t348 t375 t359 t418 0, b4 g502 t375 t375 t359] w503) := ⟨HS.out.box hg hbox hb⟩
        clear hg hbox hb
        refine hK.out _ _ (⟨blk_cellv (HS.out.at2) 4 rfl, blk_cellv (HS.out.at2) 5 rfl, blk_cellv (HS.out.at0) 3 rfl⟩) (fun hHeld => ?_)
        clear hK K
        refine norm_ (a' := ?_) ?_ ?_
        rotate_left
        · show Act.put _ (some 73) _ = _
          simp only [Act.put, List.setIfInBounds_toArray, List.set_cons_zero, List.set_cons_succ, i64_w, i32_w]
          rfl
        refine one_ (i := 7) (N := some 74) #[true, true, true, true, true, true, true, true, true, true, false, false, false, false, false] rfl rfl (by kernel_rfl) (by decide) (fun K hK => ?_)
        obtain ⟨t505, HA506, H⟩ := bind_some H
        refine goes_ Try.func106 (by kernel_rfl) rfl #[.slice (some ⟨g502, 0, none⟩) 3 3] (by rfl) rfl rfl (by (try simp only [List.map_toArray, List.map_cons, List.map_nil]); first | done | rfl) ?_
        refine (ratio_Add.calls _ [t375, t375, t359] (some ⟨g502, 0, none⟩) 3 t505 _ ⟨Rd.lit (l := []) (xs := [t375, t375, t359]) HS.out 3 rfl (by simp)⟩ ⟨Sep.start _⟩ HA506).mono ?_
        rintro e_ w507 ⟨rfl, hS⟩
        replace HS : Aside0 (Sep (fps []) w [b1 g22 a18 a19 a20 a21, b2 g25 0 0 0 0 0 0 0 0, b2 g182 t179 (wrap64 (a19 - 8)) (wrap64 ((wrap64 (a19 - 8)) + 1)) t348 t375 t359 t418 0, b4 g502 t375 t375 t359] w507) := ⟨HS.out.call hS⟩
        clear hS
        refine ⟨_, rfl, ?_⟩
        refine hK.out _ _ (⟨blk_cellv (HS.out.at2) 4 rfl, blk_cellv (HS.out.at2) 5 rfl, blk_cellv (HS.out.at0) 3 rfl⟩) (fun hHeld => ?_)
        clear hK K
        refine norm_ (a' := ?_) ?_ ?_
        rotate_left
        · show Act.put _ (some 74) _ = _
          simp only [Act.put, List.setIfInBounds_toArray, List.set_cons_zero, List.set_cons_succ, i64_w, i32_w]
          rfl
        refine one_ (i := 10) (N := some 77) #[true, true, true, true, true, true, true, true, true, true, true, false, false, false, false] rfl rfl (by kernel_rfl) (by decide) (fun K hK => ?_)
        obtain ⟨t508, HA509, H⟩ := bind_some H
        refine goes_ Try.func108 (by kernel_rfl) rfl #[.int .i64 t505, .int .i64 a21] (by rfl) rfl rfl (by (try simp only [List.map_toArray, List.map_cons, List.map_nil]); first | done | rfl) ?_
        refine (ratio_Up.calls t505 a21 t508 _ ⟨Sep.start _⟩ HA509).mono ?_
        rintro e_ w510 ⟨rfl, hS⟩
        replace HS : Aside0 (Sep (fps []) w [b1 g22 a18 a19 a20 a21, b2 g25 0 0 0 0 0 0 0 0, b2 g182 t179 (wrap64 (a19 - 8)) (wrap64 ((wrap64 (a19 - 8)) + 1)) t348 t375 t359 t418 0, b4 g502 t375 t375 t359] w510) := ⟨HS.out.call hS⟩
        clear hS
        refine ⟨_, rfl, ?_⟩
        refine hK.out _ _ (⟨blk_cellv (HS.out.at2) 4 rfl, blk_cellv (HS.out.at2) 5 rfl, blk_cellv (HS.out.at0) 3 rfl⟩) (fun hHeld => ?_)
        clear hK K
        refine norm_ (a' := ?_) ?_ ?_
        rotate_left
        · show Act.put _ (some 77) _ = _
          simp only [Act.put, List.setIfInBounds_toArray, List.set_cons_zero, List.set_cons_succ, i64_w, i32_w]
          rfl
        refine one_ (i := 11) (N := some 78) #[true, true, true, true, true, true, true, true, true, true, true, true, false, false, false] rfl rfl (by kernel_rfl) (by decide) (fun K hK => ?_)
        refine slice_step (n := 2) (by rfl) (N := 78) rfl (cs := #[.int .i64 t508, .int .i64 2]) (t := 3) ?hr ?_
        case hr => first | (go_simp; done) | (go_simp; rfl)
        intro g511 hg w512 hbox hb
        replace HS : Aside0 (Sep (fps []) w [b1 g22 a18 a19 a20 a21, b2 g25 0 0 0 0 0 0 0 0, b2 g182 t179 (wrap64 (a19 - 8)) (wrap64 ((wrap64 (a19 - 8)) + 1)) t348 t375 t359 t418 0, b4 g502 t375 t375 t359, b3 g511 t508 2] w512) := ⟨HS.out.box hg hbox hb⟩
        clear hg hbox hb
        refine hK.out _ _ (⟨blk_cellv (HS.out.at2) 4 rfl, blk_cellv (HS.out.at2) 5 rfl, blk_cellv (HS.out.at0) 3 rfl⟩) (fun hHeld => ?_)
        clear hK K
        refine norm_ (a' := ?_) ?_ ?_
        rotate_left
        · show Act.put _ (some 78) _ = _
          simp only [Act.put, List.setIfInBounds_toArray, List.set_cons_zero, List.set_cons_succ, i64_w, i32_w]
          rfl
        refine one_ (i := 12) (N := some 79) #[true, true, true, true, true, true, true, true, true, true, true, true, true, false, false] rfl rfl (by kernel_rfl) (by decide) (fun K hK => ?_)
        obtain ⟨t514, HA515, H⟩ := bind_some H
        refine goes_ Try.func106 (by kernel_rfl) rfl #[.slice (some ⟨g511, 0, none⟩) 2 2] (by rfl) rfl rfl (by (try simp only [List.map_toArray, List.map_cons, List.map_nil]); first | done | rfl) ?_
        refine (ratio_Add.calls _ [t508, 2] (some ⟨g511, 0, none⟩) 2 t514 _ ⟨Rd.lit (l := []) (xs := [t508, 2]) HS.out 4 rfl (by simp)⟩ ⟨Sep.start _⟩ HA515).mono ?_
        rintro e_ w516 ⟨rfl, hS⟩
        replace HS : Aside0 (Sep (fps []) w [b1 g22 a18 a19 a20 a21, b2 g25 0 0 0 0 0 0 0 0, b2 g182 t179 (wrap64 (a19 - 8)) (wrap64 ((wrap64 (a19 - 8)) + 1)) t348 t375 t359 t418 0, b4 g502 t375 t375 t359, b3 g511 t508 2] w516) := ⟨HS.out.call hS⟩
        clear hS
        refine ⟨_, rfl, ?_⟩
        refine hK.out _ _ (⟨blk_cellv (HS.out.at2) 4 rfl, blk_cellv (HS.out.at2) 5 rfl, blk_cellv (HS.out.at0) 3 rfl⟩) (fun hHeld => ?_)
        clear hK K
        refine norm_ (a' := ?_) ?_ ?_
        rotate_left
        · show Act.put _ (some 79) _ = _
          simp only [Act.put, List.setIfInBounds_toArray, List.set_cons_zero, List.set_cons_succ, i64_w, i32_w]
          rfl
        refine pure_ (i := 13) (N := some 80) (v := ?_) (a' := ?_) #[true, true, true, true, true, true, true, true, true, true, true, true, true, true, false] rfl rfl (by kernel_rfl) (fun _ _ _ h => h) (Or.inl ⟨by rfl, ?_⟩) ?_ ?_
        rotate_left
        · intro w'
          go_simp
          with_reducible rfl
        rotate_left
        · simp only [Act.put, List.setIfInBounds_toArray, List.set_cons_zero, List.set_cons_succ, i64_w, i32_w]
          rfl
        refine one_ (i := 14) (N := none) #[true, true, true, true, true, true, true, true, true, true, true, true, true, true, true] rfl rfl (by kernel_rfl) (by decide) (fun K hK => ?_)
        have hc518 := blk_cellv (v := .int .i64 0) (HS.out.at2) 7 rfl
        have hz519 := blk_fz (HS.out.at2) 7
        refine store_step (w1 := (World.setCell w516 ⟨g182, 7, none⟩ (.int .i64 t514))) (by rfl) rfl ?hr ?_
        case hr => first | (go_simp; done) | (go_simp; rfl)
        clear hc518 hz519
        intro w517 hst
        have hq0 : Sep (fps []) w [b1 g22 a18 a19 a20 a21, b2 g25 0 0 0 0 0 0 0 0, b2 g182 t179 (wrap64 (a19 - 8)) (wrap64 ((wrap64 (a19 - 8)) + 1)) t348 t375 t359 t418 t514, b4 g502 t375 t375 t359, b3 g511 t508 2] (World.setCell w516 ⟨g182, 7, none⟩ (.int .i64 t514)) := (HS.out).set1 (l1 := [b1 g22 a18 a19 a20 a21, b2 g25 0 0 0 0 0 0 0 0]) (l2 := [b4 g502 t375 t375 t359, b3 g511 t508 2]) 7 (.int .i64 t514)
        have HS_ : Aside0 (Sep (fps []) w [b1 g22 a18 a19 a20 a21, b2 g25 0 0 0 0 0 0 0 0, b2 g182 t179 (wrap64 (a19 - 8)) (wrap64 ((wrap64 (a19 - 8)) + 1)) t348 t375 t359 t418 t514, b4 g502 t375 t375 t359, b3 g511 t508 2] w517) := ⟨by rw [hst]; exact hq0⟩
        clear hq0
        clear HS hst
        have HS := HS_
        clear HS_
        refine hK.out _ _ (⟨blk_cellv (HS.out.at2) 4 rfl, blk_cellv (HS.out.at2) 5 rfl, blk_cellv (HS.out.at0) 3 rfl⟩) (fun hHeld => ?_)
        clear hK K
        refine done_ (by kernel_rfl) ?_
        replace HS : Aside0 (Sep (fps []) w [b2 g25 0 0 0 0 0 0 0 0, b2 g182 t179 (wrap64 (a19 - 8)) (wrap64 ((wrap64 (a19 - 8)) + 1)) t348 t375 t359 t418 t514] w517) := ⟨HS.out.sub (.cons _ (.cons_cons _ (.cons_cons _ (.cons _ (.cons _ .slnil)))))⟩
        have hc520 : w517.cell? ⟨g182, 0, none⟩ = some (.int .i64 t179) := blk_cellv (HS.out.at1) 0 rfl
        have hc521 : w517.cell? ⟨g182, 1, none⟩ = some (.int .i64 (wrap64 (a19 - 8))) := blk_cellv (HS.out.at1) 1 rfl
        have hc522 : w517.cell? ⟨g182, 2, none⟩ = some (.int .i64 (wrap64 ((wrap64 (a19 - 8)) + 1))) := blk_cellv (HS.out.at1) 2 rfl
        have hc523 : w517.cell? ⟨g182, 3, none⟩ = some (.int .i64 t348) := blk_cellv (HS.out.at1) 3 rfl
        have hc524 : w517.cell? ⟨g182, 4, none⟩ = some (.int .i64 t375) := blk_cellv (HS.out.at1) 4 rfl
        have hc525 : w517.cell? ⟨g182, 5, none⟩ = some (.int .i64 t359) := blk_cellv (HS.out.at1) 5 rfl
        have hc526 : w517.cell? ⟨g182, 6, none⟩ = some (.int .i64 t418) := blk_cellv (HS.out.at1) 6 rfl
        have hc527 : w517.cell? ⟨g182, 7, none⟩ = some (.int .i64 t514) := blk_cellv (HS.out.at1) 7 rfl
        have hc528 : w517.cell? ⟨g25, 0, none⟩ = some (.int .i64 0) := blk_cellv (HS.out.at0) 0 rfl
        have hz529 : w517.frozen? ⟨g25, 0, none⟩ = false := blk_fz (HS.out.at0) 0
        have hc530 : w517.cell? ⟨g25, 1, none⟩ = some (.int .i64 0) := blk_cellv (HS.out.at0) 1 rfl
        have hz531 : w517.frozen? ⟨g25, 1, none⟩ = false := blk_fz (HS.out.at0) 1
        have hc532 : w517.cell? ⟨g25, 2, none⟩ = some (.int .i64 0) := blk_cellv (HS.out.at0) 2 rfl
        have hz533 : w517.frozen? ⟨g25, 2, none⟩ = false := blk_fz (HS.out.at0) 2
        have hc534 : w517.cell? ⟨g25, 3, none⟩ = some (.int .i64 0) := blk_cellv (HS.out.at0) 3 rfl
        have hz535 : w517.frozen? ⟨g25, 3, none⟩ = false := blk_fz (HS.out.at0) 3
        have hc536 : w517.cell? ⟨g25, 4, none⟩ = some (.int .i64 0) := blk_cellv (HS.out.at0) 4 rfl
        have hz537 : w517.frozen? ⟨g25, 4, none⟩ = false := blk_fz (HS.out.at0) 4
        have hc538 : w517.cell? ⟨g25, 5, none⟩ = some (.int .i64 0) := blk_cellv (HS.out.at0) 5 rfl
        have hz539 : w517.frozen? ⟨g25, 5, none⟩ = false := blk_fz (HS.out.at0) 5
        have hc540 : w517.cell? ⟨g25, 6, none⟩ = some (.int .i64 0) := blk_cellv (HS.out.at0) 6 rfl
        have hz541 : w517.frozen? ⟨g25, 6, none⟩ = false := blk_fz (HS.out.at0) 6
        have hc542 : w517.cell? ⟨g25, 7, none⟩ = some (.int .i64 0) := blk_cellv (HS.out.at0) 7 rfl
        have hz543 : w517.frozen? ⟨g25, 7, none⟩ = false := blk_fz (HS.out.at0) 7
        go_wp2_with (first | ((with_reducible refine gate_store (t := 120) (p := 2) rfl ?_); refine store_event (w1 := (World.setCell (World.setCell (World.setCell (World.setCell (World.setCell (World.setCell (World.setCell (World.setCell w517 ⟨g25, 0, none⟩ (.int .i64 t179)) ⟨g25, 1, none⟩ (.int .i64 (wrap64 (a19 - 8)))) ⟨g25, 2, none⟩ (.int .i64 (wrap64 ((wrap64 (a19 - 8)) + 1)))) ⟨g25, 3, none⟩ (.int .i64 t348)) ⟨g25, 4, none⟩ (.int .i64 t375)) ⟨g25, 5, none⟩ (.int .i64 t359)) ⟨g25, 6, none⟩ (.int .i64 t418)) ⟨g25, 7, none⟩ (.int .i64 t514))) rfl (t := 120) (p := 2) rfl rfl ?hr ?_; (case hr => first | (go_simp; done) | (go_simp; rfl)); intro w544 hst; clear hc520 hc521 hc522 hc523 hc524 hc525 hc526 hc527 hc528 hz529 hc530 hz531 hc532 hz533 hc534 hz535 hc536 hz537 hc538 hz539 hc540 hz541 hc542 hz543; replace HS : Aside0 (Sep (fps []) w [b2 g25 t179 (wrap64 (a19 - 8)) (wrap64 ((wrap64 (a19 - 8)) + 1)) t348 t375 t359 t418 t514, b2 g182 t179 (wrap64 (a19 - 8)) (wrap64 ((wrap64 (a19 - 8)) + 1)) t348 t375 t359 t418 t514] w544) := ⟨by rw [hst]; exact HS.out.setAll (l1 := []) (l2 := [b2 g182 t179 (wrap64 (a19 - 8)) (wrap64 ((wrap64 (a19 - 8)) + 1)) t348 t375 t359 t418 t514]) [.int .i64 t179, .int .i64 (wrap64 (a19 - 8)), .int .i64 (wrap64 ((wrap64 (a19 - 8)) + 1)), .int .i64 t348, .int .i64 t375, .int .i64 t359, .int .i64 t418, .int .i64 t514] rfl⟩; clear hst; replace HS : Aside0 (Sep (fps []) w [b2 g25 t179 (wrap64 (a19 - 8)) (wrap64 ((wrap64 (a19 - 8)) + 1)) t348 t375 t359 t418 t514] w544) := ⟨HS.out.sub (.cons_cons _ (.cons _ .slnil))⟩))
        have hc545 : w544.cell? ⟨g25, 0, none⟩ = some (.int .i64 t179) := blk_cellv (HS.out.at0) 0 rfl
        have hc546 : w544.cell? ⟨g25, 1, none⟩ = some (.int .i64 (wrap64 (a19 - 8))) := blk_cellv (HS.out.at0) 1 rfl
        have hc547 : w544.cell? ⟨g25, 2, none⟩ = some (.int .i64 (wrap64 ((wrap64 (a19 - 8)) + 1))) := blk_cellv (HS.out.at0) 2 rfl
        have hc548 : w544.cell? ⟨g25, 3, none⟩ = some (.int .i64 t348) := blk_cellv (HS.out.at0) 3 rfl
        have hc549 : w544.cell? ⟨g25, 4, none⟩ = some (.int .i64 t375) := blk_cellv (HS.out.at0) 4 rfl
        have hc550 : w544.cell? ⟨g25, 5, none⟩ = some (.int .i64 t359) := blk_cellv (HS.out.at0) 5 rfl
        have hc551 : w544.cell? ⟨g25, 6, none⟩ = some (.int .i64 t418) := blk_cellv (HS.out.at0) 6 rfl
        have hc552 : w544.cell? ⟨g25, 7, none⟩ = some (.int .i64 t514) := blk_cellv (HS.out.at0) 7 rfl
        refine bodyPost_ret (v := .tuple #[.agg #[.int .i64 t179, .int .i64 (wrap64 (a19 - 8)), .int .i64 (wrap64 ((wrap64 (a19 - 8)) + 1)), .int .i64 t348, .int .i64 t375, .int .i64 t359, .int .i64 t418, .int .i64 t514], .int .i64 0]) (by simp [results, Try.results76, go_sem, hc545, hc546, hc547, hc548, hc549, hc550, hc551, hc552]) rfl ?_
        rw [← some_eq H]
        exact ⟨(by first | rfl | (simp [IntKind.wrap_u32]; done)), HS.out.sub (.cons _ .slnil)⟩
  · replace H := if_no c76 H
    have c76b0 : (t73 == 0) = false := beq_eq_false_iff_ne.mpr c76
    have c76b1 : (t73 != 0) = true := bne_iff_ne.mpr c76
    clear c76
    have hc553 : w75.cell? ⟨g25, 0, none⟩ = some (.int .i64 0) := blk_cellv (HS.out.at1) 0 rfl
    have hz554 : w75.frozen? ⟨g25, 0, none⟩ = false := blk_fz (HS.out.at1) 0
    have hc555 : w75.cell? ⟨g25, 1, none⟩ = some (.int .i64 0) := blk_cellv (HS.out.at1) 1 rfl
    have hz556 : w75.frozen? ⟨g25, 1, none⟩ = false := blk_fz (HS.out.at1) 1
    have hc557 : w75.cell? ⟨g25, 2, none⟩ = some (.int .i64 0) := blk_cellv (HS.out.at1) 2 rfl
    have hz558 : w75.frozen? ⟨g25, 2, none⟩ = false := blk_fz (HS.out.at1) 2
    have hc559 : w75.cell? ⟨g25, 3, none⟩ = some (.int .i64 0) := blk_cellv (HS.out.at1) 3 rfl
    have hz560 : w75.frozen? ⟨g25, 3, none⟩ = false := blk_fz (HS.out.at1) 3
    have hc561 : w75.cell? ⟨g25, 4, none⟩ = some (.int .i64 0) := blk_cellv (HS.out.at1) 4 rfl
    have hz562 : w75.frozen? ⟨g25, 4, none⟩ = false := blk_fz (HS.out.at1) 4
    have hc563 : w75.cell? ⟨g25, 5, none⟩ = some (.int .i64 0) := blk_cellv (HS.out.at1) 5 rfl
    have hz564 : w75.frozen? ⟨g25, 5, none⟩ = false := blk_fz (HS.out.at1) 5
    have hc565 : w75.cell? ⟨g25, 6, none⟩ = some (.int .i64 0) := blk_cellv (HS.out.at1) 6 rfl
    have hz566 : w75.frozen? ⟨g25, 6, none⟩ = false := blk_fz (HS.out.at1) 6
    have hc567 : w75.cell? ⟨g25, 7, none⟩ = some (.int .i64 0) := blk_cellv (HS.out.at1) 7 rfl
    have hz568 : w75.frozen? ⟨g25, 7, none⟩ = false := blk_fz (HS.out.at1) 7
    go_wp2_with (first | ((with_reducible refine gate_store (t := 120) (p := 2) rfl ?_); refine store_event (w1 := (World.setCell (World.setCell (World.setCell (World.setCell (World.setCell (World.setCell (World.setCell (World.setCell w75 ⟨g25, 0, none⟩ (.int .i64 0)) ⟨g25, 1, none⟩ (.int .i64 0)) ⟨g25, 2, none⟩ (.int .i64 0)) ⟨g25, 3, none⟩ (.int .i64 0)) ⟨g25, 4, none⟩ (.int .i64 0)) ⟨g25, 5, none⟩ (.int .i64 0)) ⟨g25, 6, none⟩ (.int .i64 0)) ⟨g25, 7, none⟩ (.int .i64 0))) rfl (t := 120) (p := 2) rfl rfl ?hr ?_; (case hr => first | (go_simp; done) | (go_simp; rfl)); intro w569 hst; clear hc553 hz554 hc555 hz556 hc557 hz558 hc559 hz560 hc561 hz562 hc563 hz564 hc565 hz566 hc567 hz568; replace HS : Aside0 (Sep (fps []) w [b1 g22 a18 a19 a20 a21, b2 g25 0 0 0 0 0 0 0 0] w569) := ⟨by rw [hst]; exact HS.out.setAll (l1 := [b1 g22 a18 a19 a20 a21]) (l2 := []) [.int .i64 0, .int .i64 0, .int .i64 0, .int .i64 0, .int .i64 0, .int .i64 0, .int .i64 0, .int .i64 0] rfl⟩; clear hst; replace HS : Aside0 (Sep (fps []) w [b2 g25 0 0 0 0 0 0 0 0] w569) := ⟨HS.out.sub (.cons _ (.cons_cons _ .slnil))⟩))
    have hc570 : w569.cell? ⟨g25, 0, none⟩ = some (.int .i64 0) := blk_cellv (HS.out.at0) 0 rfl
    have hc571 : w569.cell? ⟨g25, 1, none⟩ = some (.int .i64 0) := blk_cellv (HS.out.at0) 1 rfl
    have hc572 : w569.cell? ⟨g25, 2, none⟩ = some (.int .i64 0) := blk_cellv (HS.out.at0) 2 rfl
    have hc573 : w569.cell? ⟨g25, 3, none⟩ = some (.int .i64 0) := blk_cellv (HS.out.at0) 3 rfl
    have hc574 : w569.cell? ⟨g25, 4, none⟩ = some (.int .i64 0) := blk_cellv (HS.out.at0) 4 rfl
    have hc575 : w569.cell? ⟨g25, 5, none⟩ = some (.int .i64 0) := blk_cellv (HS.out.at0) 5 rfl
    have hc576 : w569.cell? ⟨g25, 6, none⟩ = some (.int .i64 0) := blk_cellv (HS.out.at0) 6 rfl
    have hc577 : w569.cell? ⟨g25, 7, none⟩ = some (.int .i64 0) := blk_cellv (HS.out.at0) 7 rfl
    refine bodyPost_ret (v := .tuple #[.agg #[.int .i64 0, .int .i64 0, .int .i64 0, .int .i64 0, .int .i64 0, .int .i64 0, .int .i64 0, .int .i64 0], .int .i64 t73]) (by simp [results, Try.results76, go_sem, hc570, hc571, hc572, hc573, hc574, hc575, hc576, hc577]) rfl ?_
    rw [← some_eq H]
    exact ⟨(by first | rfl | (simp [IntKind.wrap_u32]; done)), HS.out.sub (.cons _ .slnil)⟩

set_option maxHeartbeats 30000000 in
set_option maxRecDepth 100000 in
theorem store_New.calls (a603 : Int) (r : Unit ⊕ (List Int)) (w : World)   (HS : Aside0 (Sep (fps []) w [] w)) (H : Aside0 (store_New.f a603 = some r)) :
    Calls Try.prog 17 #[.int .i64 a603] w fun e w' => Sum.elim (fun (r : Unit) => e = .returned (.tuple #[.pointer none, .int .i64 2]) ∧ Sep (fps []) w [] w') (fun (r : List Int) => ∃ (g639 : Nat), e = .returned (.tuple #[.pointer (some ⟨g639, 0, none⟩), .int .i64 0]) ∧ ∃ (A640 : Option Addr) (m641 : Nat) (n642 : Nat), Sep (fps []) w [b6 g639 A640 m641 n642 0, r5 A640 m641 n642 r] w') r := by
  unfold store_New.f at H
  go_enter Try.func17, Try.ntmps17
  by_cases c617 : a603 < 0
  · replace H := if_yes c617 H
    have c617b0 : decide (a603 < 0) = true := decide_eq_true c617
    clear c617
    go_wp2_with fail
    go_ret2
    rw [← some_eq H]
    exact ⟨(by first | rfl | (simp [IntKind.wrap_u32]; done)), HS.out⟩
  · replace H := if_no c617 H
    have c617b0 : decide (a603 < 0) = false := decide_eq_false c617
    clear c617
    by_cases c618 : a603 > 8388608
    · replace H := if_yes c618 H
      have c618b0 : decide (8388608 < a603) = true := decide_eq_true c618
      clear c618
      go_wp2_with fail
      go_ret2
      rw [← some_eq H]
      exact ⟨(by first | rfl | (simp [IntKind.wrap_u32]; done)), HS.out⟩
    · replace H := if_no c618 H
      have c618b0 : decide (8388608 < a603) = false := decide_eq_false c618
      clear c618
      obtain ⟨m619, HA620, H⟩ := bind_some H
      obtain ⟨hm621, hn622⟩ := mkLen_eq HA620
      have hm621H := Aside0.mk hm621
      clear hm621
      go_wp2_with (first | ((with_reducible refine gate_dst (N := 11) rfl ?_); refine make_event rfl (N := 11) rfl 22 23 (.tmp 10) (.tmp 10) rfl .i64 (.int .u32 0) 4 Try.underlying22 (by kernel_rfl) rfl (by decide) (Value.int .u32) 0 rfl m619 (by show Value.int _ _ = _; rw [hm621H.out]) (by show Value.int _ _ = _; rw [hm621H.out]) (by omega) HS.out ?_; intro g623 w624 HS1; replace HS : Aside0 (Sep (fps []) w [r5 (some ⟨g623, 0, none⟩) m619 m619 (List.replicate m619 (0 : Int))] w624) := ⟨HS1⟩; clear HS1) | ((with_reducible refine gate_dst (N := 13) rfl ?_); refine box_on ?hg (N := 13) ?hd (cs := #[.slice (some ⟨g623, 0, none⟩) m619 m619, .int .u64 0]) (t := 115) ?hr ?_; (case hd => rfl); (case hg => rfl); (case hr => first | (go_simp; done) | (go_simp; rfl)); intro g627 hg w628 hbox hb; replace HS : Aside0 (Sep (fps []) w [r5 (some ⟨g623, 0, none⟩) m619 m619 (List.replicate m619 (0 : Int)), b6 g627 (some ⟨g623, 0, none⟩) m619 m619 0] w628) := ⟨HS.out.box hg hbox hb⟩; clear hg hbox hb))
      go_ret2
      rw [← some_eq H]
      exact ⟨g627, (by first | rfl | (simp [IntKind.wrap_u32]; done)), (some ⟨g623, 0, none⟩), m619, m619, ((HS.out).front 1 (by simp)).keep (l := [b6 g627 (some ⟨g623, 0, none⟩) m619 m619 0, r5 (some ⟨g623, 0, none⟩) m619 m619 (List.replicate m619 (0 : Int))]) (rest := [])⟩

set_option maxHeartbeats 30000000 in
set_option maxRecDepth 100000 in
theorem ground_New.calls (k : Nat) (a7 : Int) (a8 : Int) (a9 : Int) (a10 : Int) (r : Unit ⊕ ((Int × Int × Int × Int × List Int) ⊕ Int)) (w : World)   (HS : Aside0 (Sep (fps []) w [] w)) (H : Aside0 (ground_New.f k a7 a8 a9 a10 = some r)) :
    Calls Try.prog 29 #[.agg #[.int .i64 a7, .int .i64 a8, .int .i64 a9, .int .i64 a10]] w fun e w' => Sum.elim (fun (r : Unit) => e = .returned (.tuple #[.pointer none, .int .i64 2]) ∧ Sep (fps []) w [] w') (fun (r_ : (Int × Int × Int × Int × List Int) ⊕ Int) => Sum.elim (fun (r : Int × Int × Int × Int × List Int) => ∃ (g789 : Nat), e = .returned (.tuple #[.pointer (some ⟨g789, 0, none⟩), .int .i64 0]) ∧ ∃ (g790 : Nat) (A791 : Option Addr) (m792 : Nat) (n793 : Nat), Sep (fps []) w [b7 g789 g790 r.1 r.2.1 r.2.2.1 r.2.2.2.1, b6 g790 A791 m792 n793 0, r5 A791 m792 n793 r.2.2.2.2] w') (fun (r : Int) => e = .returned (.tuple #[.pointer none, .int .i64 r]) ∧ Sep (fps []) w [] w') r_) r := by
  unfold ground_New.f at H
  go_enter Try.func29, Try.ntmps29
  go_wp2_with (first | ((with_reducible refine gate_dst (N := 1) rfl ?_); refine box_on ?hg (N := 1) ?hd (cs := #[.int .i64 a7, .int .i64 a8, .int .i64 a9, .int .i64 a10]) (t := 49) ?hr ?_; (case hd => rfl); (case hg => rfl); (case hr => first | (go_simp; done) | (go_simp; rfl)); intro g725 hg w726 hbox hb; replace HS : Aside0 (Sep (fps []) w [b1 g725 a7 a8 a9 a10] w726) := ⟨HS.out.box hg hbox hb⟩; clear hg hbox hb; have hc728 : w726.cell? ⟨g725, 0, none⟩ = some (.int .i64 a7) := blk_cellv (HS.out.at0) 0 rfl; have hc729 : w726.cell? ⟨g725, 1, none⟩ = some (.int .i64 a8) := blk_cellv (HS.out.at0) 1 rfl; have hc730 : w726.cell? ⟨g725, 2, none⟩ = some (.int .i64 a9) := blk_cellv (HS.out.at0) 2 rfl; have hc731 : w726.cell? ⟨g725, 3, none⟩ = some (.int .i64 a10) := blk_cellv (HS.out.at0) 3 rfl))
  clear hc728 hc729 hc730 hc731
  obtain ⟨t732, HA733, H⟩ := bind_some H
  refine (plan_Of.calls _ a7 a8 a9 a10 t732 _ ⟨Sep.start _⟩ HA733).mono ?_
  rintro e_ w734 ⟨rfl, hS⟩
  replace HS : Aside0 (Sep (fps []) w [b1 g725 a7 a8 a9 a10] w734) := ⟨HS.out.call hS⟩
  clear hS
  by_cases c755 : t732.2.2.2.2.2.2.2.2 = 0
  · replace H := if_yes c755 H
    have c755b0 : (t732.2.2.2.2.2.2.2.2 == 0) = true := beq_iff_eq.mpr c755
    have c755b1 : (t732.2.2.2.2.2.2.2.2 != 0) = false := bne_eq_false_iff_eq.mpr c755
    clear c755
    go_wp2_with (first | ((with_reducible refine gate_dst (N := 4) rfl ?_); refine box_on ?hg (N := 4) ?hd (cs := #[.int .i64 0, .int .i64 0, .int .i64 0, .int .i64 0, .int .i64 0, .int .i64 0, .int .i64 0, .int .i64 0]) (t := 120) ?hr ?_; (case hd => rfl); (case hg => rfl); (case hr => first | (go_simp; done) | (go_simp; rfl)); intro g735 hg w736 hbox hb; replace HS : Aside0 (Sep (fps []) w [b1 g725 a7 a8 a9 a10, b2 g735 0 0 0 0 0 0 0 0] w736) := ⟨HS.out.box hg hbox hb⟩; clear hg hbox hb; have hc738 : w736.cell? ⟨g735, 0, none⟩ = some (.int .i64 0) := blk_cellv (HS.out.at1) 0 rfl; have hz739 : w736.frozen? ⟨g735, 0, none⟩ = false := blk_fz (HS.out.at1) 0; have hc740 : w736.cell? ⟨g735, 1, none⟩ = some (.int .i64 0) := blk_cellv (HS.out.at1) 1 rfl; have hz741 : w736.frozen? ⟨g735, 1, none⟩ = false := blk_fz (HS.out.at1) 1; have hc742 : w736.cell? ⟨g735, 2, none⟩ = some (.int .i64 0) := blk_cellv (HS.out.at1) 2 rfl; have hz743 : w736.frozen? ⟨g735, 2, none⟩ = false := blk_fz (HS.out.at1) 2; have hc744 : w736.cell? ⟨g735, 3, none⟩ = some (.int .i64 0) := blk_cellv (HS.out.at1) 3 rfl; have hz745 : w736.frozen? ⟨g735, 3, none⟩ = false := blk_fz (HS.out.at1) 3; have hc746 : w736.cell? ⟨g735, 4, none⟩ = some (.int .i64 0) := blk_cellv (HS.out.at1) 4 rfl; have hz747 : w736.frozen? ⟨g735, 4, none⟩ = false := blk_fz (HS.out.at1) 4; have hc748 : w736.cell? ⟨g735, 5, none⟩ = some (.int .i64 0) := blk_cellv (HS.out.at1) 5 rfl; have hz749 : w736.frozen? ⟨g735, 5, none⟩ = false := blk_fz (HS.out.at1) 5; have hc750 : w736.cell? ⟨g735, 6, none⟩ = some (.int .i64 0) := blk_cellv (HS.out.at1) 6 rfl; have hz751 : w736.frozen? ⟨g735, 6, none⟩ = false := blk_fz (HS.out.at1) 6; have hc752 : w736.cell? ⟨g735, 7, none⟩ = some (.int .i64 0) := blk_cellv (HS.out.at1) 7 rfl; have hz753 : w736.frozen? ⟨g735, 7, none⟩ = false := blk_fz (HS.out.at1) 7) | ((with_reducible refine gate_store (t := 120) (p := 4) rfl ?_); refine store_event (w1 := (World.setCell (World.setCell (World.setCell (World.setCell (World.setCell (World.setCell (World.setCell (World.setCell w736 ⟨g735, 0, none⟩ (.int .i64 t732.1)) ⟨g735, 1, none⟩ (.int .i64 t732.2.1)) ⟨g735, 2, none⟩ (.int .i64 t732.2.2.1)) ⟨g735, 3, none⟩ (.int .i64 t732.2.2.2.1)) ⟨g735, 4, none⟩ (.int .i64 t732.2.2.2.2.1)) ⟨g735, 5, none⟩ (.int .i64 t732.2.2.2.2.2.1)) ⟨g735, 6, none⟩ (.int .i64 t732.2.2.2.2.2.2.1)) ⟨g735, 7, none⟩ (.int .i64 t732.2.2.2.2.2.2.2.1))) rfl (t := 120) (p := 4) rfl rfl ?hr ?_; (case hr => first | (go_simp; done) | (go_simp; rfl)); intro w754 hst; clear hc738 hz739 hc740 hz741 hc742 hz743 hc744 hz745 hc746 hz747 hc748 hz749 hc750 hz751 hc752 hz753; replace HS : Aside0 (Sep (fps []) w [b1 g725 a7 a8 a9 a10, b2 g735 t732.1 t732.2.1 t732.2.2.1 t732.2.2.2.1 t732.2.2.2.2.1 t732.2.2.2.2.2.1 t732.2.2.2.2.2.2.1 t732.2.2.2.2.2.2.2.1] w754) := ⟨by rw [hst]; exact HS.out.setAll (l1 := [b1 g725 a7 a8 a9 a10]) (l2 := []) [.int .i64 t732.1, .int .i64 t732.2.1, .int .i64 t732.2.2.1, .int .i64 t732.2.2.2.1, .int .i64 t732.2.2.2.2.1, .int .i64 t732.2.2.2.2.2.1, .int .i64 t732.2.2.2.2.2.2.1, .int .i64 t732.2.2.2.2.2.2.2.1] rfl⟩; clear hst; have hc756 : w754.cell? ⟨g735, 0, none⟩ = some (.int .i64 t732.1) := blk_cellv (HS.out.at1) 0 rfl))
    clear hc756
    obtain ⟨t757, HA758, H⟩ := bind_some H
    rcases t757 with t759 | t760
    · have H := sum_l H
      refine (store_New.calls t732.1 (.inl t759) _ ⟨Sep.start _⟩ HA758).mono ?_
      rintro e_ w761 ⟨rfl, hS⟩
      replace HS : Aside0 (Sep (fps []) w [b1 g725 a7 a8 a9 a10, b2 g735 t732.1 t732.2.1 t732.2.2.1 t732.2.2.2.1 t732.2.2.2.2.1 t732.2.2.2.2.2.1 t732.2.2.2.2.2.2.1 t732.2.2.2.2.2.2.2.1] w761) := ⟨HS.out.call hS⟩
      clear hS
      replace HS : Aside0 (Sep (fps []) w [b1 g725 a7 a8 a9 a10] w761) := ⟨HS.out.sub (.cons_cons _ (.cons _ .slnil))⟩
      replace HS : Aside0 (Sep (fps []) w [] w761) := ⟨HS.out.sub (.cons _ .slnil)⟩
      go_wp2_with fail
      go_ret2
      rw [← some_eq H]
      exact ⟨(by first | rfl | (simp [IntKind.wrap_u32]; done)), HS.out⟩
    · have H := sum_r H
      refine (store_New.calls t732.1 (.inr t760) _ ⟨Sep.start _⟩ HA758).mono ?_
      rintro e_ w762 ⟨g765, rfl, A766, m767, n768, hS⟩
      replace HS : Aside0 (Sep (fps []) w [b6 g765 A766 m767 n768 0, r5 A766 m767 n768 t760, b1 g725 a7 a8 a9 a10, b2 g735 t732.1 t732.2.1 t732.2.2.1 t732.2.2.2.1 t732.2.2.2.2.1 t732.2.2.2.2.2.1 t732.2.2.2.2.2.2.1 t732.2.2.2.2.2.2.2.1] w762) := ⟨HS.out.call hS⟩
      clear hS
      obtain rfl := (row_len (HS.out.at1)).symm
      replace HS : Aside0 (Sep (fps []) w [b6 g765 A766 t760.length n768 0, r5 A766 t760.length n768 t760, b1 g725 a7 a8 a9 a10] w762) := ⟨HS.out.sub (.cons_cons _ (.cons_cons _ (.cons_cons _ (.cons _ .slnil))))⟩
      have hc770 : w762.cell? ⟨g725, 0, none⟩ = some (.int .i64 a7) := blk_cellv (HS.out.at2) 0 rfl
      have hc771 : w762.cell? ⟨g725, 1, none⟩ = some (.int .i64 a8) := blk_cellv (HS.out.at2) 1 rfl
      have hc772 : w762.cell? ⟨g725, 2, none⟩ = some (.int .i64 a9) := blk_cellv (HS.out.at2) 2 rfl
      have hc773 : w762.cell? ⟨g725, 3, none⟩ = some (.int .i64 a10) := blk_cellv (HS.out.at2) 3 rfl
      go_wp2_with (first | ((with_reducible refine gate_dst (N := 28) rfl ?_); refine box_on ?hg (N := 28) ?hd (cs := #[.pointer (some ⟨g765, 0, none⟩), .int .i64 a7, .int .i64 a8, .int .i64 a9, .int .i64 a10]) (t := 126) ?hr ?_; (case hd => rfl); (case hg => rfl); (case hr => first | (go_simp; done) | (go_simp; rfl)); intro g774 hg w775 hbox hb; clear hc770 hc771 hc772 hc773; replace HS : Aside0 (Sep (fps []) w [b6 g765 A766 t760.length n768 0, r5 A766 t760.length n768 t760, b1 g725 a7 a8 a9 a10, b7 g774 g765 a7 a8 a9 a10] w775) := ⟨HS.out.box hg hbox hb⟩; clear hg hbox hb; replace HS : Aside0 (Sep (fps []) w [b6 g765 A766 t760.length n768 0, r5 A766 t760.length n768 t760, b7 g774 g765 a7 a8 a9 a10] w775) := ⟨HS.out.sub (.cons_cons _ (.cons_cons _ (.cons _ (.cons_cons _ .slnil))))⟩))
      go_ret2
      rw [← some_eq H]
      exact ⟨g774, (by first | rfl | (simp [IntKind.wrap_u32]; done)), g765, A766, t760.length, n768, ((((HS.out).front 1 (by simp)).front 1 (by simp)).front 2 (by simp)).keep (l := [b7 g774 g765 a7 a8 a9 a10, b6 g765 A766 t760.length n768 0, r5 A766 t760.length n768 t760]) (rest := [])⟩
  · replace H := if_no c755 H
    have c755b0 : (t732.2.2.2.2.2.2.2.2 == 0) = false := beq_eq_false_iff_ne.mpr c755
    have c755b1 : (t732.2.2.2.2.2.2.2.2 != 0) = true := bne_iff_ne.mpr c755
    clear c755
    go_wp2_with (first | ((with_reducible refine gate_dst (N := 4) rfl ?_); refine box_on ?hg (N := 4) ?hd (cs := #[.int .i64 0, .int .i64 0, .int .i64 0, .int .i64 0, .int .i64 0, .int .i64 0, .int .i64 0, .int .i64 0]) (t := 120) ?hr ?_; (case hd => rfl); (case hg => rfl); (case hr => first | (go_simp; done) | (go_simp; rfl)); intro g735 hg w736 hbox hb; replace HS : Aside0 (Sep (fps []) w [b1 g725 a7 a8 a9 a10, b2 g735 0 0 0 0 0 0 0 0] w736) := ⟨HS.out.box hg hbox hb⟩; clear hg hbox hb; have hc738 : w736.cell? ⟨g735, 0, none⟩ = some (.int .i64 0) := blk_cellv (HS.out.at1) 0 rfl; have hz739 : w736.frozen? ⟨g735, 0, none⟩ = false := blk_fz (HS.out.at1) 0; have hc740 : w736.cell? ⟨g735, 1, none⟩ = some (.int .i64 0) := blk_cellv (HS.out.at1) 1 rfl; have hz741 : w736.frozen? ⟨g735, 1, none⟩ = false := blk_fz (HS.out.at1) 1; have hc742 : w736.cell? ⟨g735, 2, none⟩ = some (.int .i64 0) := blk_cellv (HS.out.at1) 2 rfl; have hz743 : w736.frozen? ⟨g735, 2, none⟩ = false := blk_fz (HS.out.at1) 2; have hc744 : w736.cell? ⟨g735, 3, none⟩ = some (.int .i64 0) := blk_cellv (HS.out.at1) 3 rfl; have hz745 : w736.frozen? ⟨g735, 3, none⟩ = false := blk_fz (HS.out.at1) 3; have hc746 : w736.cell? ⟨g735, 4, none⟩ = some (.int .i64 0) := blk_cellv (HS.out.at1) 4 rfl; have hz747 : w736.frozen? ⟨g735, 4, none⟩ = false := blk_fz (HS.out.at1) 4; have hc748 : w736.cell? ⟨g735, 5, none⟩ = some (.int .i64 0) := blk_cellv (HS.out.at1) 5 rfl; have hz749 : w736.frozen? ⟨g735, 5, none⟩ = false := blk_fz (HS.out.at1) 5; have hc750 : w736.cell? ⟨g735, 6, none⟩ = some (.int .i64 0) := blk_cellv (HS.out.at1) 6 rfl; have hz751 : w736.frozen? ⟨g735, 6, none⟩ = false := blk_fz (HS.out.at1) 6; have hc752 : w736.cell? ⟨g735, 7, none⟩ = some (.int .i64 0) := blk_cellv (HS.out.at1) 7 rfl; have hz753 : w736.frozen? ⟨g735, 7, none⟩ = false := blk_fz (HS.out.at1) 7) | ((with_reducible refine gate_store (t := 120) (p := 4) rfl ?_); refine store_event (w1 := (World.setCell (World.setCell (World.setCell (World.setCell (World.setCell (World.setCell (World.setCell (World.setCell w736 ⟨g735, 0, none⟩ (.int .i64 t732.1)) ⟨g735, 1, none⟩ (.int .i64 t732.2.1)) ⟨g735, 2, none⟩ (.int .i64 t732.2.2.1)) ⟨g735, 3, none⟩ (.int .i64 t732.2.2.2.1)) ⟨g735, 4, none⟩ (.int .i64 t732.2.2.2.2.1)) ⟨g735, 5, none⟩ (.int .i64 t732.2.2.2.2.2.1)) ⟨g735, 6, none⟩ (.int .i64 t732.2.2.2.2.2.2.1)) ⟨g735, 7, none⟩ (.int .i64 t732.2.2.2.2.2.2.2.1))) rfl (t := 120) (p := 4) rfl rfl ?hr ?_; (case hr => first | (go_simp; done) | (go_simp; rfl)); intro w754 hst; clear hc738 hz739 hc740 hz741 hc742 hz743 hc744 hz745 hc746 hz747 hc748 hz749 hc750 hz751 hc752 hz753; replace HS : Aside0 (Sep (fps []) w [b1 g725 a7 a8 a9 a10, b2 g735 t732.1 t732.2.1 t732.2.2.1 t732.2.2.2.1 t732.2.2.2.2.1 t732.2.2.2.2.2.1 t732.2.2.2.2.2.2.1 t732.2.2.2.2.2.2.2.1] w754) := ⟨by rw [hst]; exact HS.out.setAll (l1 := [b1 g725 a7 a8 a9 a10]) (l2 := []) [.int .i64 t732.1, .int .i64 t732.2.1, .int .i64 t732.2.2.1, .int .i64 t732.2.2.2.1, .int .i64 t732.2.2.2.2.1, .int .i64 t732.2.2.2.2.2.1, .int .i64 t732.2.2.2.2.2.2.1, .int .i64 t732.2.2.2.2.2.2.2.1] rfl⟩; clear hst; replace HS : Aside0 (Sep (fps []) w [] w754) := ⟨HS.out.sub (.cons _ (.cons _ .slnil))⟩))
    go_ret2
    rw [← some_eq H]
    exact ⟨(by first | rfl | (simp [IntKind.wrap_u32]; done)), HS.out⟩

set_option maxHeartbeats 30000000 in
set_option maxRecDepth 100000 in
theorem chain_of.calls (l847 : List Int) (a852 : Int) (a853 : Int) (a854 : Int) (a855 : Int) (a856 : Int) (a857 : Int) (g843 : Nat) (g845 : Nat) (A848 : Option Addr) (m849 : Nat) (n850 : Nat) (r : Int × Int × Int × Bool) (w : World)   (HS : Aside0 (Sep (fps [b7 g843 g845 a853 a854 a855 a856, b6 g845 A848 m849 n850 a852, r5 A848 m849 n850 l847]) w [b7 g843 g845 a853 a854 a855 a856, b6 g845 A848 m849 n850 a852, r5 A848 m849 n850 l847] w)) (H : Aside0 (chain_of.f l847 a852 a853 a854 a855 a856 a857 = some r)) :
    Calls Try.prog 91 #[.pointer (some ⟨g843, 0, none⟩), .int .i64 a857] w fun e w' => e = .returned (.tuple #[.agg #[.int .i64 r.1, .int .i64 r.2.1, .int .i64 r.2.2.1], .bool r.2.2.2]) ∧ Sep (fps [b7 g843 g845 a853 a854 a855 a856, b6 g845 A848 m849 n850 a852, r5 A848 m849 n850 l847]) w [b7 g843 g845 a853 a854 a855 a856, b6 g845 A848 m849 n850 a852, r5 A848 m849 n850 l847] w' := by
  generalize (fps [b7 g843 g845 a853 a854 a855 a856, b6 g845 A848 m849 n850 a852, r5 A848 m849 n850 l847]) = FF at HS ⊢
  obtain rfl := (row_len (HS.out.at2)).symm
  unfold chain_of.f at H
  go_enter Try.func91, Try.ntmps91
  by_cases c861 : a857 < 0
  · replace H := if_yes c861 H
    have c861b0 : decide (a857 < 0) = true := decide_eq_true c861
    clear c861
    go_wp2_with (first | ((with_reducible refine gate_dst (N := 4) rfl ?_); refine box_on ?hg (N := 4) ?hd (cs := #[.int .i64 0, .int .i64 0, .int .i64 0]) (t := 134) ?hr ?_; (case hd => rfl); (case hg => rfl); (case hr => first | (go_simp; done) | (go_simp; rfl)); intro g858 hg w859 hbox hb; replace HS : Aside0 (Sep FF w [b7 g843 g845 a853 a854 a855 a856, b6 g845 A848 l847.length n850 a852, r5 A848 l847.length n850 l847, b8 g858 0 0 0] w859) := ⟨HS.out.box hg hbox hb⟩; clear hg hbox hb; have hc862 : w859.cell? ⟨g858, 0, none⟩ = some (.int .i64 0) := blk_cellv (HS.out.at3) 0 rfl; have hz863 : w859.frozen? ⟨g858, 0, none⟩ = false := blk_fz (HS.out.at3) 0; have hc864 : w859.cell? ⟨g858, 1, none⟩ = some (.int .i64 0) := blk_cellv (HS.out.at3) 1 rfl; have hz865 : w859.frozen? ⟨g858, 1, none⟩ = false := blk_fz (HS.out.at3) 1; have hc866 : w859.cell? ⟨g858, 2, none⟩ = some (.int .i64 0) := blk_cellv (HS.out.at3) 2 rfl; have hz867 : w859.frozen? ⟨g858, 2, none⟩ = false := blk_fz (HS.out.at3) 2) | ((with_reducible refine gate_store (t := 134) (p := 4) rfl ?_); refine store_event (w1 := (World.setCell (World.setCell (World.setCell w859 ⟨g858, 0, none⟩ (.int .i64 0)) ⟨g858, 1, none⟩ (.int .i64 0)) ⟨g858, 2, none⟩ (.int .i64 0))) rfl (t := 134) (p := 4) rfl rfl ?hr ?_; (case hr => first | (go_simp; done) | (go_simp; rfl)); intro w868 hst; clear hc862 hz863 hc864 hz865 hc866 hz867; replace HS : Aside0 (Sep FF w [b7 g843 g845 a853 a854 a855 a856, b6 g845 A848 l847.length n850 a852, r5 A848 l847.length n850 l847, b8 g858 0 0 0] w868) := ⟨by rw [hst]; exact HS.out.setAll (l1 := [b7 g843 g845 a853 a854 a855 a856, b6 g845 A848 l847.length n850 a852, r5 A848 l847.length n850 l847]) (l2 := []) [.int .i64 0, .int .i64 0, .int .i64 0] rfl⟩; clear hst))
    have hc869 : w868.cell? ⟨g858, 0, none⟩ = some (.int .i64 0) := blk_cellv (HS.out.at3) 0 rfl
    have hc870 : w868.cell? ⟨g858, 1, none⟩ = some (.int .i64 0) := blk_cellv (HS.out.at3) 1 rfl
    have hc871 : w868.cell? ⟨g858, 2, none⟩ = some (.int .i64 0) := blk_cellv (HS.out.at3) 2 rfl
    refine bodyPost_ret (v := .tuple #[.agg #[.int .i64 0, .int .i64 0, .int .i64 0], .bool false]) (by simp [results, Try.results91, go_sem, hc869, hc870, hc871]) rfl ?_
    rw [← some_eq H]
    exact ⟨(by first | rfl | (simp [IntKind.wrap_u32]; done)), HS.out.sub (.cons_cons _ (.cons_cons _ (.cons_cons _ (.cons _ .slnil))))⟩
  · replace H := if_no c861 H
    have c861b0 : decide (a857 < 0) = false := decide_eq_false c861
    clear c861
    by_cases c872 : a857 > 1
    · replace H := if_yes c872 H
      have c872b0 : decide (1 < a857) = true := decide_eq_true c872
      clear c872
      go_wp2_with (first | ((with_reducible refine gate_dst (N := 4) rfl ?_); refine box_on ?hg (N := 4) ?hd (cs := #[.int .i64 0, .int .i64 0, .int .i64 0]) (t := 134) ?hr ?_; (case hd => rfl); (case hg => rfl); (case hr => first | (go_simp; done) | (go_simp; rfl)); intro g858 hg w859 hbox hb; replace HS : Aside0 (Sep FF w [b7 g843 g845 a853 a854 a855 a856, b6 g845 A848 l847.length n850 a852, r5 A848 l847.length n850 l847, b8 g858 0 0 0] w859) := ⟨HS.out.box hg hbox hb⟩; clear hg hbox hb; have hc873 : w859.cell? ⟨g858, 0, none⟩ = some (.int .i64 0) := blk_cellv (HS.out.at3) 0 rfl; have hz874 : w859.frozen? ⟨g858, 0, none⟩ = false := blk_fz (HS.out.at3) 0; have hc875 : w859.cell? ⟨g858, 1, none⟩ = some (.int .i64 0) := blk_cellv (HS.out.at3) 1 rfl; have hz876 : w859.frozen? ⟨g858, 1, none⟩ = false := blk_fz (HS.out.at3) 1; have hc877 : w859.cell? ⟨g858, 2, none⟩ = some (.int .i64 0) := blk_cellv (HS.out.at3) 2 rfl; have hz878 : w859.frozen? ⟨g858, 2, none⟩ = false := blk_fz (HS.out.at3) 2) | ((with_reducible refine gate_store (t := 134) (p := 4) rfl ?_); refine store_event (w1 := (World.setCell (World.setCell (World.setCell w859 ⟨g858, 0, none⟩ (.int .i64 0)) ⟨g858, 1, none⟩ (.int .i64 0)) ⟨g858, 2, none⟩ (.int .i64 0))) rfl (t := 134) (p := 4) rfl rfl ?hr ?_; (case hr => first | (go_simp; done) | (go_simp; rfl)); intro w879 hst; clear hc873 hz874 hc875 hz876 hc877 hz878; replace HS : Aside0 (Sep FF w [b7 g843 g845 a853 a854 a855 a856, b6 g845 A848 l847.length n850 a852, r5 A848 l847.length n850 l847, b8 g858 0 0 0] w879) := ⟨by rw [hst]; exact HS.out.setAll (l1 := [b7 g843 g845 a853 a854 a855 a856, b6 g845 A848 l847.length n850 a852, r5 A848 l847.length n850 l847]) (l2 := []) [.int .i64 0, .int .i64 0, .int .i64 0] rfl⟩; clear hst))
      have hc880 : w879.cell? ⟨g858, 0, none⟩ = some (.int .i64 0) := blk_cellv (HS.out.at3) 0 rfl
      have hc881 : w879.cell? ⟨g858, 1, none⟩ = some (.int .i64 0) := blk_cellv (HS.out.at3) 1 rfl
      have hc882 : w879.cell? ⟨g858, 2, none⟩ = some (.int .i64 0) := blk_cellv (HS.out.at3) 2 rfl
      refine bodyPost_ret (v := .tuple #[.agg #[.int .i64 0, .int .i64 0, .int .i64 0], .bool false]) (by simp [results, Try.results91, go_sem, hc880, hc881, hc882]) rfl ?_
      rw [← some_eq H]
      exact ⟨(by first | rfl | (simp [IntKind.wrap_u32]; done)), HS.out.sub (.cons_cons _ (.cons_cons _ (.cons_cons _ (.cons _ .slnil))))⟩
    · replace H := if_no c872 H
      have c872b0 : decide (1 < a857) = false := decide_eq_false c872
      clear c872
      go_wp2_with (first | ((with_reducible refine gate_dst (N := 4) rfl ?_); refine box_on ?hg (N := 4) ?hd (cs := #[.int .i64 0, .int .i64 0, .int .i64 0]) (t := 134) ?hr ?_; (case hd => rfl); (case hg => rfl); (case hr => first | (go_simp; done) | (go_simp; rfl)); intro g858 hg w859 hbox hb; replace HS : Aside0 (Sep FF w [b7 g843 g845 a853 a854 a855 a856, b6 g845 A848 l847.length n850 a852, r5 A848 l847.length n850 l847, b8 g858 0 0 0] w859) := ⟨HS.out.box hg hbox hb⟩; clear hg hbox hb; have hc883 : w859.cell? ⟨g858, 0, none⟩ = some (.int .i64 0) := blk_cellv (HS.out.at3) 0 rfl; have hz884 : w859.frozen? ⟨g858, 0, none⟩ = false := blk_fz (HS.out.at3) 0; have hc885 : w859.cell? ⟨g858, 1, none⟩ = some (.int .i64 0) := blk_cellv (HS.out.at3) 1 rfl; have hz886 : w859.frozen? ⟨g858, 1, none⟩ = false := blk_fz (HS.out.at3) 1; have hc887 : w859.cell? ⟨g858, 2, none⟩ = some (.int .i64 0) := blk_cellv (HS.out.at3) 2 rfl; have hz888 : w859.frozen? ⟨g858, 2, none⟩ = false := blk_fz (HS.out.at3) 2) | ((with_reducible refine gate_store (t := 134) (p := 4) rfl ?_); refine store_event (w1 := (World.setCell (World.setCell (World.setCell w859 ⟨g858, 0, none⟩ (.int .i64 (wrap64 (3 * a857)))) ⟨g858, 1, none⟩ (.int .i64 (wrap64 ((wrap64 (3 * a857)) + 1)))) ⟨g858, 2, none⟩ (.int .i64 (wrap64 ((wrap64 (3 * a857)) + 2))))) rfl (t := 134) (p := 4) rfl rfl ?hr ?_; (case hr => first | (go_simp; done) | (go_simp; rfl)); intro w889 hst; clear hc883 hz884 hc885 hz886 hc887 hz888; replace HS : Aside0 (Sep FF w [b7 g843 g845 a853 a854 a855 a856, b6 g845 A848 l847.length n850 a852, r5 A848 l847.length n850 l847, b8 g858 (wrap64 (3 * a857)) (wrap64 ((wrap64 (3 * a857)) + 1)) (wrap64 ((wrap64 (3 * a857)) + 2))] w889) := ⟨by rw [hst]; exact HS.out.setAll (l1 := [b7 g843 g845 a853 a854 a855 a856, b6 g845 A848 l847.length n850 a852, r5 A848 l847.length n850 l847]) (l2 := []) [.int .i64 (wrap64 (3 * a857)), .int .i64 (wrap64 ((wrap64 (3 * a857)) + 1)), .int .i64 (wrap64 ((wrap64 (3 * a857)) + 2))] rfl⟩; clear hst))
      have hc890 : w889.cell? ⟨g858, 0, none⟩ = some (.int .i64 (wrap64 (3 * a857))) := blk_cellv (HS.out.at3) 0 rfl
      have hc891 : w889.cell? ⟨g858, 1, none⟩ = some (.int .i64 (wrap64 ((wrap64 (3 * a857)) + 1))) := blk_cellv (HS.out.at3) 1 rfl
      have hc892 : w889.cell? ⟨g858, 2, none⟩ = some (.int .i64 (wrap64 ((wrap64 (3 * a857)) + 2))) := blk_cellv (HS.out.at3) 2 rfl
      refine bodyPost_ret (v := .tuple #[.agg #[.int .i64 (wrap64 (3 * a857)), .int .i64 (wrap64 ((wrap64 (3 * a857)) + 1)), .int .i64 (wrap64 ((wrap64 (3 * a857)) + 2))], .bool true]) (by simp [results, Try.results91, go_sem, hc890, hc891, hc892]) rfl ?_
      rw [← some_eq H]
      exact ⟨(by first | rfl | (simp [IntKind.wrap_u32]; done)), HS.out.sub (.cons_cons _ (.cons_cons _ (.cons_cons _ (.cons _ .slnil))))⟩

set_option maxHeartbeats 30000000 in
set_option maxRecDepth 100000 in
theorem ground_Ground_all.calls (l929 : List Int) (a934 : Int) (a935 : Int) (a936 : Int) (a937 : Int) (a938 : Int) (g925 : Nat) (g927 : Nat) (A930 : Option Addr) (m931 : Nat) (n932 : Nat) (r : Unit) (w : World)   (HS : Aside0 (Sep (fps [b7 g925 g927 a935 a936 a937 a938, b6 g927 A930 m931 n932 a934, r5 A930 m931 n932 l929]) w [b7 g925 g927 a935 a936 a937 a938, b6 g927 A930 m931 n932 a934, r5 A930 m931 n932 l929] w)) (H : Aside0 (ground_Ground_all.f l929 a934 a935 a936 a937 a938 = some r)) :
    Calls Try.prog 77 #[.pointer (some ⟨g925, 0, none⟩)] w fun e w' => e = .returned (.pointer (some ⟨g927, 0, none⟩)) ∧ Sep (fps [b7 g925 g927 a935 a936 a937 a938, b6 g927 A930 m931 n932 a934, r5 A930 m931 n932 l929]) w [b7 g925 g927 a935 a936 a937 a938, b6 g927 A930 m931 n932 a934, r5 A930 m931 n932 l929] w' := by
  generalize (fps [b7 g925 g927 a935 a936 a937 a938, b6 g927 A930 m931 n932 a934, r5 A930 m931 n932 l929]) = FF at HS ⊢
  obtain rfl := (row_len (HS.out.at2)).symm
  unfold ground_Ground_all.f at H
  go_enter Try.func77, Try.ntmps77
  have hc939 : w.cell? ⟨g925, 0, none⟩ = some (.pointer (some ⟨g927, 0, none⟩)) := blk_cellv (HS.out.at0) 0 rfl
  go_wp2_with fail
  clear hc939
  go_ret
  clear H
  exact ⟨(by first | rfl | (simp [IntKind.wrap_u32]; done)), HS.out⟩

set_option maxHeartbeats 30000000 in
set_option maxRecDepth 100000 in
theorem ground_within.calls (a944 : Int) (a945 : Int) (a946 : Int) (r : Int) (w : World)   (HS : Aside0 (Sep (fps []) w [] w)) (H : Aside0 (ground_within.f a944 a945 a946 = some r)) :
    Calls Try.prog 109 #[.int .i64 a944, .int .i64 a945, .int .i64 a946] w fun e w' => e = .returned (.int .i64 r) ∧ Sep (fps []) w [] w' := by
  unfold ground_within.f at H
  go_enter Try.func109, Try.ntmps109
  by_cases c947 : a944 < 0
  · replace H := if_yes c947 H
    have c947b0 : decide (a944 < 0) = true := decide_eq_true c947
    clear c947
    go_wp2_with fail
    go_ret
    rw [← some_eq H]
    exact ⟨(by first | rfl | (simp [IntKind.wrap_u32]; done)), HS.out⟩
  · replace H := if_no c947 H
    have c947b0 : decide (a944 < 0) = false := decide_eq_false c947
    clear c947
    by_cases c948 : a944 ≥ a945
    · replace H := if_yes c948 H
      have c948b0 : decide (a945 ≤ a944) = true := decide_eq_true c948
      clear c948
      go_wp2_with fail
      go_ret
      rw [← some_eq H]
      exact ⟨(by first | rfl | (simp [IntKind.wrap_u32]; done)), HS.out⟩
    · replace H := if_no c948 H
      have c948b0 : decide (a945 ≤ a944) = false := decide_eq_false c948
      clear c948
      go_wp2_with fail
      go_ret
      rw [← some_eq H]
      exact ⟨(by first | rfl | (simp [IntKind.wrap_u32]; done)), HS.out⟩

set_option maxHeartbeats 30000000 in
set_option maxRecDepth 100000 in
theorem ground_reg.calls (a943 : Int) (r : Int) (w : World)   (HS : Aside0 (Sep (fps []) w [] w)) (H : Aside0 (ground_reg.f a943 = some r)) :
    Calls Try.prog 78 #[.int .i64 a943] w fun e w' => e = .returned (.int .i64 r) ∧ Sep (fps []) w [] w' := by
  unfold ground_reg.f at H
  go_enter Try.func78, Try.ntmps78
  go_wp2_with fail
  obtain ⟨t949, HA950, H⟩ := bind_some H
  refine (ground_within.calls a943 24 0 t949 _ ⟨Sep.start _⟩ HA950).mono ?_
  rintro e_ w951 ⟨rfl, hS⟩
  replace HS : Aside0 (Sep (fps []) w [] w951) := ⟨HS.out.call hS⟩
  clear hS
  go_wp2_with fail
  go_ret
  rw [← some_eq H]
  exact ⟨(by first | rfl | (simp [IntKind.wrap_u32]; done)), HS.out⟩

set_option maxHeartbeats 30000000 in
set_option maxRecDepth 100000 in
theorem store_Store_has.calls (l968 : List Int) (a973 : Int) (a974 : Int) (g966 : Nat) (A969 : Option Addr) (m970 : Nat) (n971 : Nat) (r : Bool) (w : World)   (HS : Aside0 (Sep (fps [b6 g966 A969 m970 n971 a973, r5 A969 m970 n971 l968]) w [b6 g966 A969 m970 n971 a973, r5 A969 m970 n971 l968] w)) (H : Aside0 (store_Store_has.f l968 a973 a974 = some r)) :
    Calls Try.prog 69 #[.pointer (some ⟨g966, 0, none⟩), .int .i64 a974] w fun e w' => e = .returned (.bool r) ∧ Sep (fps [b6 g966 A969 m970 n971 a973, r5 A969 m970 n971 l968]) w [b6 g966 A969 m970 n971 a973, r5 A969 m970 n971 l968] w' := by
  generalize (fps [b6 g966 A969 m970 n971 a973, r5 A969 m970 n971 l968]) = FF at HS ⊢
  obtain rfl := (row_len (HS.out.at1)).symm
  unfold store_Store_has.f at H
  go_enter Try.func69, Try.ntmps69
  by_cases c975 : a974 ≥ 0
  · replace H := if_yes c975 H
    have c975b0 : decide (0 ≤ a974) = true := decide_eq_true c975
    clear c975
    have hc976 : w.cell? ⟨g966, 0, none⟩ = some (.slice A969 l968.length n971) := blk_cellv (HS.out.at0) 0 rfl
    go_wp2_with fail
    clear hc976
    go_ret
    rw [← some_eq H]
    exact ⟨(by first | rfl | (simp [IntKind.wrap_u32]; done)), HS.out⟩
  · replace H := if_no c975 H
    have c975b0 : decide (0 ≤ a974) = false := decide_eq_false c975
    clear c975
    go_wp2_with fail
    go_ret
    rw [← some_eq H]
    exact ⟨(by first | rfl | (simp [IntKind.wrap_u32]; done)), HS.out⟩

set_option maxHeartbeats 30000000 in
set_option maxRecDepth 100000 in
theorem atomic_Uint64_Add.calls (l984 : List Int) (a989 : Int) (a990 : Int) (g982 : Nat) (A985 : Option Addr) (m986 : Nat) (n987 : Nat) (r : Int × Int) (w : World)   (HS : Aside0 (Sep (fps [b6 g982 A985 m986 n987 a989, r5 A985 m986 n987 l984]) w [b6 g982 A985 m986 n987 a989, r5 A985 m986 n987 l984] w)) (H : Aside0 (atomic_Uint64_Add.f l984 a989 a990 = some r)) :
    Calls Try.prog 71 #[.pointer (some ⟨g982, 1, none⟩), .int .u64 a990] w fun e w' => e = .returned (.int .u64 r.1) ∧ Sep (fps [b6 g982 A985 m986 n987 a989, r5 A985 m986 n987 l984]) w [b6 g982 A985 m986 n987 r.2, r5 A985 m986 n987 l984] w' := by
  generalize (fps [b6 g982 A985 m986 n987 a989, r5 A985 m986 n987 l984]) = FF at HS ⊢
  obtain rfl := (row_len (HS.out.at1)).symm
  unfold atomic_Uint64_Add.f at H
  go_enter Try.func71, Try.ntmps71
  obtain ⟨y1000, HA1001, H⟩ := bind_some H
  have hc997 : w.cell? ⟨g982, 1, none⟩ = some (.int .u64 a989) := blk_cellv (HS.out.at0) 1 rfl
  have hz999 : w.frozen? ⟨g982, 1, none⟩ = false := blk_fz (HS.out.at0) 1
  have hn998 : (callFunc 104 #[.pointer (some ⟨g982, 1, none⟩), .int .u64 a990]).run Try.prog w = .ok (.value (.int .u64 y1000)) ((World.setCell w ⟨g982, 1, none⟩ (.int .u64 y1000))) := (some_eq HA1001) ▸ run_call_add Try.func104 (by kernel_rfl) (by kernel_rfl) (by kernel_rfl) .u64 (by kernel_rfl) hc997 hz999 (by rfl)
  go_wp2_with (first | ((with_reducible refine gate_dst (N := 9) rfl ?_); refine run_on2 (by rfl) (w1 := (World.setCell w ⟨g982, 1, none⟩ (.int .u64 y1000))) (v := .int .u64 y1000) ?hr ?_; (case hr => first | (go_simp; done) | (go_simp; rfl)); intro w1002 hst; clear hc997 hz999; have hq0 : Sep FF w [b6 g982 A985 l984.length n987 y1000, r5 A985 l984.length n987 l984] (World.setCell w ⟨g982, 1, none⟩ (.int .u64 y1000)) := (HS.out).set1 (l1 := []) (l2 := [r5 A985 l984.length n987 l984]) 1 (.int .u64 y1000); replace HS : Aside0 (Sep FF w [b6 g982 A985 l984.length n987 y1000, r5 A985 l984.length n987 l984] w1002) := ⟨by rw [hst]; exact hq0⟩; clear hst hn998 hq0))
  go_ret
  rw [← some_eq H]
  exact ⟨(by first | rfl | (simp [IntKind.wrap_u32]; done)), HS.out⟩

set_option maxHeartbeats 30000000 in
set_option maxRecDepth 100000 in
theorem store_Store_Get.calls (l958 : List Int) (a963 : Int) (a964 : Int) (g956 : Nat) (A959 : Option Addr) (m960 : Nat) (n961 : Nat) (r : Int × Int) (w : World)   (HS : Aside0 (Sep (fps [b6 g956 A959 m960 n961 a963, r5 A959 m960 n961 l958]) w [b6 g956 A959 m960 n961 a963, r5 A959 m960 n961 l958] w)) (H : Aside0 (store_Store_Get.f l958 a963 a964 = some r)) :
    Calls Try.prog 25 #[.pointer (some ⟨g956, 0, none⟩), .int .i64 a964] w fun e w' => e = .returned (.int .u32 r.1) ∧ Sep (fps [b6 g956 A959 m960 n961 a963, r5 A959 m960 n961 l958]) w [b6 g956 A959 m960 n961 r.2, r5 A959 m960 n961 l958] w' := by
  generalize (fps [b6 g956 A959 m960 n961 a963, r5 A959 m960 n961 l958]) = FF at HS ⊢
  obtain rfl := (row_len (HS.out.at1)).symm
  unfold store_Store_Get.f at H
  go_enter Try.func25, Try.ntmps25
  go_wp2_with fail
  obtain ⟨t1012, HA1013, H⟩ := bind_some H
  refine (store_Store_has.calls l958 a963 a964 g956 A959 l958.length n961 t1012 _ ⟨HS.out.begin⟩ HA1013).mono ?_
  rintro e_ w1014 ⟨rfl, hS⟩
  replace HS : Aside0 (Sep FF w [b6 g956 A959 l958.length n961 a963, r5 A959 l958.length n961 l958] w1014) := ⟨HS.out.call hS⟩
  clear hS
  by_cases c1015 : t1012 = true
  · replace H := if_yes c1015 H
    have c1015b0 : t1012 = true := c1015
    have c1015b1 : (!t1012) = false := by rw [c1015b0]; rfl
    try rw [c1015b1]
    clear c1015
    go_wp2_with fail
    obtain ⟨t1016, HA1017, H⟩ := bind_some H
    refine (atomic_Uint64_Add.calls l958 a963 1 g956 A959 l958.length n961 t1016 _ ⟨HS.out.begin⟩ HA1017).mono ?_
    rintro e_ w1018 ⟨rfl, hS⟩
    replace HS : Aside0 (Sep FF w [b6 g956 A959 l958.length n961 t1016.2, r5 A959 l958.length n961 l958] w1018) := ⟨HS.out.call hS⟩
    clear hS
    by_cases c1020 : 0 ≤ a964
    · replace H := if_yes c1020 H
      have c1020b0 : decide (0 ≤ a964) = true := decide_eq_true c1020
      have c1020p : (0 ≤ a964) = True := eq_true c1020
      clear c1020
      by_cases c1021 : a964 < (l958.length : Int)
      · replace H := if_yes c1021 H
        have c1021b0 : decide (a964 < (l958.length : Int)) = true := decide_eq_true c1021
        have c1021p : (a964 < (l958.length : Int)) = True := eq_true c1021
        clear c1021
        have hc1019 : w1018.cell? ⟨g956, 0, none⟩ = some (.slice A959 l958.length n961) := blk_cellv (HS.out.at0) 0 rfl
        obtain ⟨g1022, ea⟩ := row_at (HS.out.at1) (by have := (of_decide_eq_true c1020b0); have := (of_decide_eq_true c1021b0); omega); cases ea
        have hx1023 := C_at_int (row_Ci (HS.out.at1)) a964 (of_decide_eq_true c1020b0) (of_decide_eq_true c1021b0)
        have hx1024 : w1018.cell? ⟨g1022, (a964).toNat, none⟩ = some (.int .u32 (rd l958 a964)) := (row_get 0 (HS.out.at1) a964 (of_decide_eq_true c1020b0) (of_decide_eq_true c1021b0)).1
        go_wp2_with fail
        clear hc1019 hx1023 hx1024
        go_ret
        rw [← some_eq H]
        exact ⟨(by first | rfl | (simp [IntKind.wrap_u32]; done)), HS.out⟩
      · replace H := if_no c1021 H
        have c1021b0 : decide (a964 < (l958.length : Int)) = false := decide_eq_false c1021
        clear c1021
        exact (none_no H).elim
    · replace H := if_no c1020 H
      have c1020b0 : decide (0 ≤ a964) = false := decide_eq_false c1020
      clear c1020
      exact (none_no H).elim
  · replace H := if_no c1015 H
    have c1015b0 : t1012 = false := by simpa using c1015
    have c1015b1 : (!t1012) = true := by rw [c1015b0]; rfl
    try rw [c1015b1]
    clear c1015
    go_wp2_with fail
    go_ret
    rw [← some_eq H]
    exact ⟨(by first | rfl | (simp [IntKind.wrap_u32]; done)), HS.out⟩

set_option maxHeartbeats 30000000 in
set_option maxRecDepth 100000 in
theorem ground_Ground_Reg.calls (l913 : List Int) (a918 : Int) (a919 : Int) (a920 : Int) (a921 : Int) (a922 : Int) (a923 : Int) (g909 : Nat) (g911 : Nat) (A914 : Option Addr) (m915 : Nat) (n916 : Nat) (r : Int × Int) (w : World)   (HS : Aside0 (Sep (fps [b7 g909 g911 a919 a920 a921 a922, b6 g911 A914 m915 n916 a918, r5 A914 m915 n916 l913]) w [b7 g909 g911 a919 a920 a921 a922, b6 g911 A914 m915 n916 a918, r5 A914 m915 n916 l913] w)) (H : Aside0 (ground_Ground_Reg.f l913 a918 a919 a920 a921 a922 a923 = some r)) :
    Calls Try.prog 36 #[.pointer (some ⟨g909, 0, none⟩), .int .i64 a923] w fun e w' => e = .returned (.int .i64 r.1) ∧ Sep (fps [b7 g909 g911 a919 a920 a921 a922, b6 g911 A914 m915 n916 a918, r5 A914 m915 n916 l913]) w [b7 g909 g911 a919 a920 a921 a922, b6 g911 A914 m915 n916 r.2, r5 A914 m915 n916 l913] w' := by
  generalize (fps [b7 g909 g911 a919 a920 a921 a922, b6 g911 A914 m915 n916 a918, r5 A914 m915 n916 l913]) = FF at HS ⊢
  obtain rfl := (row_len (HS.out.at2)).symm
  unfold ground_Ground_Reg.f at H
  go_enter Try.func36, Try.ntmps36
  go_wp2_with fail
  obtain ⟨t1028, HA1029, H⟩ := bind_some H
  refine (ground_Ground_all.calls l913 a918 a919 a920 a921 a922 g909 g911 A914 l913.length n916 t1028 _ ⟨HS.out.begin⟩ HA1029).mono ?_
  rintro e_ w1030 ⟨rfl, hS⟩
  replace HS : Aside0 (Sep FF w [b7 g909 g911 a919 a920 a921 a922, b6 g911 A914 l913.length n916 a918, r5 A914 l913.length n916 l913] w1030) := ⟨HS.out.call hS⟩
  clear hS
  go_wp2_with fail
  obtain ⟨t1031, HA1032, H⟩ := bind_some H
  refine (ground_reg.calls a923 t1031 _ ⟨Sep.start _⟩ HA1032).mono ?_
  rintro e_ w1033 ⟨rfl, hS⟩
  replace HS : Aside0 (Sep FF w [b7 g909 g911 a919 a920 a921 a922, b6 g911 A914 l913.length n916 a918, r5 A914 l913.length n916 l913] w1033) := ⟨HS.out.call hS⟩
  clear hS
  go_wp2_with fail
  replace HS : Aside0 (Sep FF w [r5 A914 l913.length n916 l913, b7 g909 g911 a919 a920 a921 a922, b6 g911 A914 l913.length n916 a918] w1033) := ⟨HS.out.front 2 (by simp)⟩
  replace HS : Aside0 (Sep FF w [b6 g911 A914 l913.length n916 a918, r5 A914 l913.length n916 l913, b7 g909 g911 a919 a920 a921 a922] w1033) := ⟨HS.out.front 2 (by simp)⟩
  obtain ⟨t1034, HA1035, H⟩ := bind_some H
  refine (store_Store_Get.calls l913 a918 t1031 g911 A914 l913.length n916 t1034 _ ⟨HS.out.begin⟩ HA1035).mono ?_
  rintro e_ w1036 ⟨rfl, hS⟩
  replace HS : Aside0 (Sep FF w [b6 g911 A914 l913.length n916 t1034.2, r5 A914 l913.length n916 l913, b7 g909 g911 a919 a920 a921 a922] w1036) := ⟨HS.out.call hS⟩
  clear hS
  go_wp2_with fail
  go_ret
  rw [← some_eq H]
  exact ⟨(by first | rfl | (simp [IntKind.wrap_u32]; done)), ((((HS.out).front 1 (by simp)).front 1 (by simp)).front 2 (by simp)).keep (l := [b7 g909 g911 a919 a920 a921 a922, b6 g911 A914 l913.length n916 t1034.2, r5 A914 l913.length n916 l913]) (rest := [])⟩

set_option maxHeartbeats 30000000 in
set_option maxRecDepth 100000 in
theorem chain_Len.calls (l831 : List Int) (a836 : Int) (a837 : Int) (a838 : Int) (a839 : Int) (a840 : Int) (a841 : Int) (g827 : Nat) (g829 : Nat) (A832 : Option Addr) (m833 : Nat) (n834 : Nat) (r : Int × Int) (w : World)   (HS : Aside0 (Sep (fps [b7 g827 g829 a837 a838 a839 a840, b6 g829 A832 m833 n834 a836, r5 A832 m833 n834 l831]) w [b7 g827 g829 a837 a838 a839 a840, b6 g829 A832 m833 n834 a836, r5 A832 m833 n834 l831] w)) (H : Aside0 (chain_Len.f l831 a836 a837 a838 a839 a840 a841 = some r)) :
    Calls Try.prog 55 #[.pointer (some ⟨g827, 0, none⟩), .int .i64 a841] w fun e w' => e = .returned (.int .i64 r.1) ∧ Sep (fps [b7 g827 g829 a837 a838 a839 a840, b6 g829 A832 m833 n834 a836, r5 A832 m833 n834 l831]) w [b7 g827 g829 a837 a838 a839 a840, b6 g829 A832 m833 n834 r.2, r5 A832 m833 n834 l831] w' := by
  generalize (fps [b7 g827 g829 a837 a838 a839 a840, b6 g829 A832 m833 n834 a836, r5 A832 m833 n834 l831]) = FF at HS ⊢
  obtain rfl := (row_len (HS.out.at2)).symm
  unfold chain_Len.f at H
  go_enter Try.func55, Try.ntmps55
  go_wp2_with fail
  obtain ⟨t1040, HA1041, H⟩ := bind_some H
  refine (chain_of.calls l831 a836 a837 a838 a839 a840 a841 g827 g829 A832 l831.length n834 t1040 _ ⟨HS.out.begin⟩ HA1041).mono ?_
  rintro e_ w1042 ⟨rfl, hS⟩
  replace HS : Aside0 (Sep FF w [b7 g827 g829 a837 a838 a839 a840, b6 g829 A832 l831.length n834 a836, r5 A832 l831.length n834 l831] w1042) := ⟨HS.out.call hS⟩
  clear hS
  by_cases c1053 : t1040.2.2.2 = true
  · replace H := if_yes c1053 H
    have c1053b0 : t1040.2.2.2 = true := c1053
    have c1053b1 : (!t1040.2.2.2) = false := by rw [c1053b0]; rfl
    try rw [c1053b1]
    clear c1053
    go_wp2_with (first | ((with_reducible refine gate_dst (N := 5) rfl ?_); refine box_on ?hg (N := 5) ?hd (cs := #[.int .i64 0, .int .i64 0, .int .i64 0]) (t := 134) ?hr ?_; (case hd => rfl); (case hg => rfl); (case hr => first | (go_simp; done) | (go_simp; rfl)); intro g1043 hg w1044 hbox hb; replace HS : Aside0 (Sep FF w [b7 g827 g829 a837 a838 a839 a840, b6 g829 A832 l831.length n834 a836, r5 A832 l831.length n834 l831, b8 g1043 0 0 0] w1044) := ⟨HS.out.box hg hbox hb⟩; clear hg hbox hb; have hc1046 : w1044.cell? ⟨g1043, 0, none⟩ = some (.int .i64 0) := blk_cellv (HS.out.at3) 0 rfl; have hz1047 : w1044.frozen? ⟨g1043, 0, none⟩ = false := blk_fz (HS.out.at3) 0; have hc1048 : w1044.cell? ⟨g1043, 1, none⟩ = some (.int .i64 0) := blk_cellv (HS.out.at3) 1 rfl; have hz1049 : w1044.frozen? ⟨g1043, 1, none⟩ = false := blk_fz (HS.out.at3) 1; have hc1050 : w1044.cell? ⟨g1043, 2, none⟩ = some (.int .i64 0) := blk_cellv (HS.out.at3) 2 rfl; have hz1051 : w1044.frozen? ⟨g1043, 2, none⟩ = false := blk_fz (HS.out.at3) 2) | ((with_reducible refine gate_store (t := 134) (p := 5) rfl ?_); refine store_event (w1 := (World.setCell (World.setCell (World.setCell w1044 ⟨g1043, 0, none⟩ (.int .i64 t1040.1)) ⟨g1043, 1, none⟩ (.int .i64 t1040.2.1)) ⟨g1043, 2, none⟩ (.int .i64 t1040.2.2.1))) rfl (t := 134) (p := 5) rfl rfl ?hr ?_; (case hr => first | (go_simp; done) | (go_simp; rfl)); intro w1052 hst; clear hc1046 hz1047 hc1048 hz1049 hc1050 hz1051; replace HS : Aside0 (Sep FF w [b7 g827 g829 a837 a838 a839 a840, b6 g829 A832 l831.length n834 a836, r5 A832 l831.length n834 l831, b8 g1043 t1040.1 t1040.2.1 t1040.2.2.1] w1052) := ⟨by rw [hst]; exact HS.out.setAll (l1 := [b7 g827 g829 a837 a838 a839 a840, b6 g829 A832 l831.length n834 a836, r5 A832 l831.length n834 l831]) (l2 := []) [.int .i64 t1040.1, .int .i64 t1040.2.1, .int .i64 t1040.2.2.1] rfl⟩; clear hst; have hc1054 : w1052.cell? ⟨g1043, 2, none⟩ = some (.int .i64 t1040.2.2.1) := blk_cellv (HS.out.at3) 2 rfl))
    clear hc1054
    obtain ⟨t1055, HA1056, H⟩ := bind_some H
    refine (ground_Ground_Reg.calls l831 a836 a837 a838 a839 a840 t1040.2.2.1 g827 g829 A832 l831.length n834 t1055 _ ⟨HS.out.begin⟩ HA1056).mono ?_
    rintro e_ w1057 ⟨rfl, hS⟩
    replace HS : Aside0 (Sep FF w [b7 g827 g829 a837 a838 a839 a840, b6 g829 A832 l831.length n834 t1055.2, r5 A832 l831.length n834 l831, b8 g1043 t1040.1 t1040.2.1 t1040.2.2.1] w1057) := ⟨HS.out.call hS⟩
    clear hS
    replace HS : Aside0 (Sep FF w [b7 g827 g829 a837 a838 a839 a840, b6 g829 A832 l831.length n834 t1055.2, r5 A832 l831.length n834 l831] w1057) := ⟨HS.out.sub (.cons_cons _ (.cons_cons _ (.cons_cons _ (.cons _ .slnil))))⟩
    go_wp2_with fail
    go_ret
    rw [← some_eq H]
    exact ⟨(by first | rfl | (simp [IntKind.wrap_u32]; done)), HS.out⟩
  · replace H := if_no c1053 H
    have c1053b0 : t1040.2.2.2 = false := by simpa using c1053
    have c1053b1 : (!t1040.2.2.2) = true := by rw [c1053b0]; rfl
    try rw [c1053b1]
    clear c1053
    go_wp2_with (first | ((with_reducible refine gate_dst (N := 5) rfl ?_); refine box_on ?hg (N := 5) ?hd (cs := #[.int .i64 0, .int .i64 0, .int .i64 0]) (t := 134) ?hr ?_; (case hd => rfl); (case hg => rfl); (case hr => first | (go_simp; done) | (go_simp; rfl)); intro g1043 hg w1044 hbox hb; replace HS : Aside0 (Sep FF w [b7 g827 g829 a837 a838 a839 a840, b6 g829 A832 l831.length n834 a836, r5 A832 l831.length n834 l831, b8 g1043 0 0 0] w1044) := ⟨HS.out.box hg hbox hb⟩; clear hg hbox hb; have hc1046 : w1044.cell? ⟨g1043, 0, none⟩ = some (.int .i64 0) := blk_cellv (HS.out.at3) 0 rfl; have hz1047 : w1044.frozen? ⟨g1043, 0, none⟩ = false := blk_fz (HS.out.at3) 0; have hc1048 : w1044.cell? ⟨g1043, 1, none⟩ = some (.int .i64 0) := blk_cellv (HS.out.at3) 1 rfl; have hz1049 : w1044.frozen? ⟨g1043, 1, none⟩ = false := blk_fz (HS.out.at3) 1; have hc1050 : w1044.cell? ⟨g1043, 2, none⟩ = some (.int .i64 0) := blk_cellv (HS.out.at3) 2 rfl; have hz1051 : w1044.frozen? ⟨g1043, 2, none⟩ = false := blk_fz (HS.out.at3) 2) | ((with_reducible refine gate_store (t := 134) (p := 5) rfl ?_); refine store_event (w1 := (World.setCell (World.setCell (World.setCell w1044 ⟨g1043, 0, none⟩ (.int .i64 t1040.1)) ⟨g1043, 1, none⟩ (.int .i64 t1040.2.1)) ⟨g1043, 2, none⟩ (.int .i64 t1040.2.2.1))) rfl (t := 134) (p := 5) rfl rfl ?hr ?_; (case hr => first | (go_simp; done) | (go_simp; rfl)); intro w1052 hst; clear hc1046 hz1047 hc1048 hz1049 hc1050 hz1051; replace HS : Aside0 (Sep FF w [b7 g827 g829 a837 a838 a839 a840, b6 g829 A832 l831.length n834 a836, r5 A832 l831.length n834 l831, b8 g1043 t1040.1 t1040.2.1 t1040.2.2.1] w1052) := ⟨by rw [hst]; exact HS.out.setAll (l1 := [b7 g827 g829 a837 a838 a839 a840, b6 g829 A832 l831.length n834 a836, r5 A832 l831.length n834 l831]) (l2 := []) [.int .i64 t1040.1, .int .i64 t1040.2.1, .int .i64 t1040.2.2.1] rfl⟩; clear hst; replace HS : Aside0 (Sep FF w [b7 g827 g829 a837 a838 a839 a840, b6 g829 A832 l831.length n834 a836, r5 A832 l831.length n834 l831] w1052) := ⟨HS.out.sub (.cons_cons _ (.cons_cons _ (.cons_cons _ (.cons _ .slnil))))⟩))
    go_ret
    rw [← some_eq H]
    exact ⟨(by first | rfl | (simp [IntKind.wrap_u32]; done)), HS.out⟩

set_option maxHeartbeats 30000000 in
set_option maxRecDepth 100000 in
theorem ground_Ground_Conf.calls (l1071 : List Int) (a1076 : Int) (a1077 : Int) (a1078 : Int) (a1079 : Int) (a1080 : Int) (g1067 : Nat) (g1069 : Nat) (A1072 : Option Addr) (m1073 : Nat) (n1074 : Nat) (r : Int × Int × Int × Int) (w : World)   (HS : Aside0 (Sep (fps [b7 g1067 g1069 a1077 a1078 a1079 a1080, b6 g1069 A1072 m1073 n1074 a1076, r5 A1072 m1073 n1074 l1071]) w [b7 g1067 g1069 a1077 a1078 a1079 a1080, b6 g1069 A1072 m1073 n1074 a1076, r5 A1072 m1073 n1074 l1071] w)) (H : Aside0 (ground_Ground_Conf.f l1071 a1076 a1077 a1078 a1079 a1080 = some r)) :
    Calls Try.prog 39 #[.pointer (some ⟨g1067, 0, none⟩)] w fun e w' => e = .returned (.agg #[.int .i64 r.1, .int .i64 r.2.1, .int .i64 r.2.2.1, .int .i64 r.2.2.2]) ∧ Sep (fps [b7 g1067 g1069 a1077 a1078 a1079 a1080, b6 g1069 A1072 m1073 n1074 a1076, r5 A1072 m1073 n1074 l1071]) w [b7 g1067 g1069 a1077 a1078 a1079 a1080, b6 g1069 A1072 m1073 n1074 a1076, r5 A1072 m1073 n1074 l1071] w' := by
  generalize (fps [b7 g1067 g1069 a1077 a1078 a1079 a1080, b6 g1069 A1072 m1073 n1074 a1076, r5 A1072 m1073 n1074 l1071]) = FF at HS ⊢
  obtain rfl := (row_len (HS.out.at2)).symm
  unfold ground_Ground_Conf.f at H
  go_enter Try.func39, Try.ntmps39
  go_wp2_with (first | ((with_reducible refine gate_dst (N := 2) rfl ?_); refine box_on ?hg (N := 2) ?hd (cs := #[.int .i64 0, .int .i64 0, .int .i64 0, .int .i64 0]) (t := 49) ?hr ?_; (case hd => rfl); (case hg => rfl); (case hr => first | (go_simp; done) | (go_simp; rfl)); intro g1081 hg w1082 hbox hb; replace HS : Aside0 (Sep FF w [b7 g1067 g1069 a1077 a1078 a1079 a1080, b6 g1069 A1072 l1071.length n1074 a1076, r5 A1072 l1071.length n1074 l1071, b1 g1081 0 0 0 0] w1082) := ⟨HS.out.box hg hbox hb⟩; clear hg hbox hb; have hc1084 : w1082.cell? ⟨g1067, 1, none⟩ = some (.int .i64 a1077) := blk_cellv (HS.out.at0) 1 rfl; have hc1085 : w1082.cell? ⟨g1067, 2, none⟩ = some (.int .i64 a1078) := blk_cellv (HS.out.at0) 2 rfl; have hc1086 : w1082.cell? ⟨g1067, 3, none⟩ = some (.int .i64 a1079) := blk_cellv (HS.out.at0) 3 rfl; have hc1087 : w1082.cell? ⟨g1067, 4, none⟩ = some (.int .i64 a1080) := blk_cellv (HS.out.at0) 4 rfl; have hc1088 : w1082.cell? ⟨g1081, 0, none⟩ = some (.int .i64 0) := blk_cellv (HS.out.at3) 0 rfl; have hz1089 : w1082.frozen? ⟨g1081, 0, none⟩ = false := blk_fz (HS.out.at3) 0; have hc1090 : w1082.cell? ⟨g1081, 1, none⟩ = some (.int .i64 0) := blk_cellv (HS.out.at3) 1 rfl; have hz1091 : w1082.frozen? ⟨g1081, 1, none⟩ = false := blk_fz (HS.out.at3) 1; have hc1092 : w1082.cell? ⟨g1081, 2, none⟩ = some (.int .i64 0) := blk_cellv (HS.out.at3) 2 rfl; have hz1093 : w1082.frozen? ⟨g1081, 2, none⟩ = false := blk_fz (HS.out.at3) 2; have hc1094 : w1082.cell? ⟨g1081, 3, none⟩ = some (.int .i64 0) := blk_cellv (HS.out.at3) 3 rfl; have hz1095 : w1082.frozen? ⟨g1081, 3, none⟩ = false := blk_fz (HS.out.at3) 3) | ((with_reducible refine gate_store (t := 49) (p := 2) rfl ?_); refine store_event (w1 := (World.setCell (World.setCell (World.setCell (World.setCell w1082 ⟨g1081, 0, none⟩ (.int .i64 a1077)) ⟨g1081, 1, none⟩ (.int .i64 a1078)) ⟨g1081, 2, none⟩ (.int .i64 a1079)) ⟨g1081, 3, none⟩ (.int .i64 a1080))) rfl (t := 49) (p := 2) rfl rfl ?hr ?_; (case hr => first | (go_simp; done) | (go_simp; rfl)); intro w1096 hst; clear hc1084 hc1085 hc1086 hc1087 hc1088 hz1089 hc1090 hz1091 hc1092 hz1093 hc1094 hz1095; replace HS : Aside0 (Sep FF w [b7 g1067 g1069 a1077 a1078 a1079 a1080, b6 g1069 A1072 l1071.length n1074 a1076, r5 A1072 l1071.length n1074 l1071, b1 g1081 a1077 a1078 a1079 a1080] w1096) := ⟨by rw [hst]; exact HS.out.setAll (l1 := [b7 g1067 g1069 a1077 a1078 a1079 a1080, b6 g1069 A1072 l1071.length n1074 a1076, r5 A1072 l1071.length n1074 l1071]) (l2 := []) [.int .i64 a1077, .int .i64 a1078, .int .i64 a1079, .int .i64 a1080] rfl⟩; clear hst))
  have hc1097 : w1096.cell? ⟨g1081, 0, none⟩ = some (.int .i64 a1077) := blk_cellv (HS.out.at3) 0 rfl
  have hc1098 : w1096.cell? ⟨g1081, 1, none⟩ = some (.int .i64 a1078) := blk_cellv (HS.out.at3) 1 rfl
  have hc1099 : w1096.cell? ⟨g1081, 2, none⟩ = some (.int .i64 a1079) := blk_cellv (HS.out.at3) 2 rfl
  have hc1100 : w1096.cell? ⟨g1081, 3, none⟩ = some (.int .i64 a1080) := blk_cellv (HS.out.at3) 3 rfl
  refine bodyPost_ret (v := .agg #[.int .i64 a1077, .int .i64 a1078, .int .i64 a1079, .int .i64 a1080]) (by simp [results, Try.results39, go_sem, hc1097, hc1098, hc1099, hc1100]) rfl ?_
  rw [← some_eq H]
  exact ⟨(by first | rfl | (simp [IntKind.wrap_u32]; done)), HS.out.sub (.cons_cons _ (.cons_cons _ (.cons_cons _ (.cons _ .slnil))))⟩

set_option maxHeartbeats 30000000 in
set_option maxRecDepth 100000 in
theorem ground_Ground_word.calls (l1242 : List Int) (a1247 : Int) (a1248 : Int) (a1249 : Int) (a1250 : Int) (a1251 : Int) (a1252 : Int) (a1253 : Int) (g1238 : Nat) (g1240 : Nat) (A1243 : Option Addr) (m1244 : Nat) (n1245 : Nat) (r : Int) (w : World)   (HS : Aside0 (Sep (fps [b7 g1238 g1240 a1248 a1249 a1250 a1251, b6 g1240 A1243 m1244 n1245 a1247, r5 A1243 m1244 n1245 l1242]) w [b7 g1238 g1240 a1248 a1249 a1250 a1251, b6 g1240 A1243 m1244 n1245 a1247, r5 A1243 m1244 n1245 l1242] w)) (H : Aside0 (ground_Ground_word.f l1242 a1247 a1248 a1249 a1250 a1251 a1252 a1253 = some r)) :
    Calls Try.prog 87 #[.pointer (some ⟨g1238, 0, none⟩), .int .i64 a1252, .int .i64 a1253] w fun e w' => e = .returned (.int .i64 r) ∧ Sep (fps [b7 g1238 g1240 a1248 a1249 a1250 a1251, b6 g1240 A1243 m1244 n1245 a1247, r5 A1243 m1244 n1245 l1242]) w [b7 g1238 g1240 a1248 a1249 a1250 a1251, b6 g1240 A1243 m1244 n1245 a1247, r5 A1243 m1244 n1245 l1242] w' := by
  generalize (fps [b7 g1238 g1240 a1248 a1249 a1250 a1251, b6 g1240 A1243 m1244 n1245 a1247, r5 A1243 m1244 n1245 l1242]) = FF at HS ⊢
  obtain rfl := (row_len (HS.out.at2)).symm
  unfold ground_Ground_word.f at H
  go_enter Try.func87, Try.ntmps87
  go_wp2_with fail
  obtain ⟨t1254, HA1255, H⟩ := bind_some H
  refine (ground_Ground_Conf.calls l1242 a1247 a1248 a1249 a1250 a1251 g1238 g1240 A1243 l1242.length n1245 t1254 _ ⟨HS.out.begin⟩ HA1255).mono ?_
  rintro e_ w1256 ⟨rfl, hS⟩
  replace HS : Aside0 (Sep FF w [b7 g1238 g1240 a1248 a1249 a1250 a1251, b6 g1240 A1243 l1242.length n1245 a1247, r5 A1243 l1242.length n1245 l1242] w1256) := ⟨HS.out.call hS⟩
  clear hS
  go_wp2_with (first | ((with_reducible refine gate_dst (N := 7) rfl ?_); refine box_on ?hg (N := 7) ?hd (cs := #[.int .i64 0, .int .i64 0, .int .i64 0, .int .i64 0]) (t := 49) ?hr ?_; (case hd => rfl); (case hg => rfl); (case hr => first | (go_simp; done) | (go_simp; rfl)); intro g1257 hg w1258 hbox hb; replace HS : Aside0 (Sep FF w [b7 g1238 g1240 a1248 a1249 a1250 a1251, b6 g1240 A1243 l1242.length n1245 a1247, r5 A1243 l1242.length n1245 l1242, b1 g1257 0 0 0 0] w1258) := ⟨HS.out.box hg hbox hb⟩; clear hg hbox hb; have hc1260 : w1258.cell? ⟨g1257, 0, none⟩ = some (.int .i64 0) := blk_cellv (HS.out.at3) 0 rfl; have hz1261 : w1258.frozen? ⟨g1257, 0, none⟩ = false := blk_fz (HS.out.at3) 0; have hc1262 : w1258.cell? ⟨g1257, 1, none⟩ = some (.int .i64 0) := blk_cellv (HS.out.at3) 1 rfl; have hz1263 : w1258.frozen? ⟨g1257, 1, none⟩ = false := blk_fz (HS.out.at3) 1; have hc1264 : w1258.cell? ⟨g1257, 2, none⟩ = some (.int .i64 0) := blk_cellv (HS.out.at3) 2 rfl; have hz1265 : w1258.frozen? ⟨g1257, 2, none⟩ = false := blk_fz (HS.out.at3) 2; have hc1266 : w1258.cell? ⟨g1257, 3, none⟩ = some (.int .i64 0) := blk_cellv (HS.out.at3) 3 rfl; have hz1267 : w1258.frozen? ⟨g1257, 3, none⟩ = false := blk_fz (HS.out.at3) 3) | ((with_reducible refine gate_store (t := 49) (p := 7) rfl ?_); refine store_event (w1 := (World.setCell (World.setCell (World.setCell (World.setCell w1258 ⟨g1257, 0, none⟩ (.int .i64 t1254.1)) ⟨g1257, 1, none⟩ (.int .i64 t1254.2.1)) ⟨g1257, 2, none⟩ (.int .i64 t1254.2.2.1)) ⟨g1257, 3, none⟩ (.int .i64 t1254.2.2.2))) rfl (t := 49) (p := 7) rfl rfl ?hr ?_; (case hr => first | (go_simp; done) | (go_simp; rfl)); intro w1268 hst; clear hc1260 hz1261 hc1262 hz1263 hc1264 hz1265 hc1266 hz1267; replace HS : Aside0 (Sep FF w [b7 g1238 g1240 a1248 a1249 a1250 a1251, b6 g1240 A1243 l1242.length n1245 a1247, r5 A1243 l1242.length n1245 l1242, b1 g1257 t1254.1 t1254.2.1 t1254.2.2.1 t1254.2.2.2] w1268) := ⟨by rw [hst]; exact HS.out.setAll (l1 := [b7 g1238 g1240 a1248 a1249 a1250 a1251, b6 g1240 A1243 l1242.length n1245 a1247, r5 A1243 l1242.length n1245 l1242]) (l2 := []) [.int .i64 t1254.1, .int .i64 t1254.2.1, .int .i64 t1254.2.2.1, .int .i64 t1254.2.2.2] rfl⟩; clear hst; have hc1269 : w1268.cell? ⟨g1257, 0, none⟩ = some (.int .i64 t1254.1) := blk_cellv (HS.out.at3) 0 rfl))
  clear hc1269
  obtain ⟨t1270, HA1271, H⟩ := bind_some H
  refine (ground_within.calls a1252 t1254.1 0 t1270 _ ⟨Sep.start _⟩ HA1271).mono ?_
  rintro e_ w1272 ⟨rfl, hS⟩
  replace HS : Aside0 (Sep FF w [b7 g1238 g1240 a1248 a1249 a1250 a1251, b6 g1240 A1243 l1242.length n1245 a1247, r5 A1243 l1242.length n1245 l1242, b1 g1257 t1254.1 t1254.2.1 t1254.2.2.1 t1254.2.2.2] w1272) := ⟨HS.out.call hS⟩
  clear hS
  by_cases c1273 : t1270 = (-1)
  · replace H := if_yes c1273 H
    have c1273b0 : (t1270 == (-1)) = true := beq_iff_eq.mpr c1273
    have c1273b1 : (t1270 != (-1)) = false := bne_eq_false_iff_eq.mpr c1273
    clear c1273
    replace HS : Aside0 (Sep FF w [b7 g1238 g1240 a1248 a1249 a1250 a1251, b6 g1240 A1243 l1242.length n1245 a1247, r5 A1243 l1242.length n1245 l1242] w1272) := ⟨HS.out.sub (.cons_cons _ (.cons_cons _ (.cons_cons _ (.cons _ .slnil))))⟩
    go_wp2_with fail
    go_ret
    rw [← some_eq H]
    exact ⟨(by first | rfl | (simp [IntKind.wrap_u32]; done)), HS.out⟩
  · replace H := if_no c1273 H
    have c1273b0 : (t1270 == (-1)) = false := beq_eq_false_iff_ne.mpr c1273
    have c1273b1 : (t1270 != (-1)) = true := bne_iff_ne.mpr c1273
    clear c1273
    have hc1274 : w1272.cell? ⟨g1257, 1, none⟩ = some (.int .i64 t1254.2.1) := blk_cellv (HS.out.at3) 1 rfl
    have hc1275 : w1272.cell? ⟨g1257, 2, none⟩ = some (.int .i64 t1254.2.2.1) := blk_cellv (HS.out.at3) 2 rfl
    go_wp2_with fail
    clear hc1274 hc1275
    obtain ⟨t1276, HA1277, H⟩ := bind_some H
    refine (ground_within.calls a1253 t1254.2.1 (wrap64 ((wrap64 (24 + t1254.2.2.1)) + (wrap64 (a1252 * t1254.2.1)))) t1276 _ ⟨Sep.start _⟩ HA1277).mono ?_
    rintro e_ w1278 ⟨rfl, hS⟩
    replace HS : Aside0 (Sep FF w [b7 g1238 g1240 a1248 a1249 a1250 a1251, b6 g1240 A1243 l1242.length n1245 a1247, r5 A1243 l1242.length n1245 l1242, b1 g1257 t1254.1 t1254.2.1 t1254.2.2.1 t1254.2.2.2] w1278) := ⟨HS.out.call hS⟩
    clear hS
    replace HS : Aside0 (Sep FF w [b7 g1238 g1240 a1248 a1249 a1250 a1251, b6 g1240 A1243 l1242.length n1245 a1247, r5 A1243 l1242.length n1245 l1242] w1278) := ⟨HS.out.sub (.cons_cons _ (.cons_cons _ (.cons_cons _ (.cons _ .slnil))))⟩
    go_wp2_with fail
    go_ret
    rw [← some_eq H]
    exact ⟨(by first | rfl | (simp [IntKind.wrap_u32]; done)), HS.out⟩

set_option maxHeartbeats 30000000 in
set_option maxRecDepth 100000 in
theorem store_Store_Put.calls (l1285 : List Int) (a1290 : Int) (a1291 : Int) (a1292 : Int) (g1283 : Nat) (A1286 : Option Addr) (m1287 : Nat) (n1288 : Nat) (r : Bool × Int × List Int) (w : World)   (HS : Aside0 (Sep (fps [b6 g1283 A1286 m1287 n1288 a1290, r5 A1286 m1287 n1288 l1285]) w [b6 g1283 A1286 m1287 n1288 a1290, r5 A1286 m1287 n1288 l1285] w)) (H : Aside0 (store_Store_Put.f l1285 a1290 a1291 a1292 = some r)) :
    Calls Try.prog 22 #[.pointer (some ⟨g1283, 0, none⟩), .int .i64 a1291, .int .u32 a1292] w fun e w' => e = .returned (.bool r.1) ∧ Sep (fps [b6 g1283 A1286 m1287 n1288 a1290, r5 A1286 m1287 n1288 l1285]) w [b6 g1283 A1286 m1287 n1288 r.2.1, r5 A1286 m1287 n1288 r.2.2] w' := by
  generalize (fps [b6 g1283 A1286 m1287 n1288 a1290, r5 A1286 m1287 n1288 l1285]) = FF at HS ⊢
  obtain rfl := (row_len (HS.out.at1)).symm
  unfold store_Store_Put.f at H
  go_enter Try.func22, Try.ntmps22
  go_wp2_with fail
  obtain ⟨t1309, HA1310, H⟩ := bind_some H
  refine (store_Store_has.calls l1285 a1290 a1291 g1283 A1286 l1285.length n1288 t1309 _ ⟨HS.out.begin⟩ HA1310).mono ?_
  rintro e_ w1311 ⟨rfl, hS⟩
  replace HS : Aside0 (Sep FF w [b6 g1283 A1286 l1285.length n1288 a1290, r5 A1286 l1285.length n1288 l1285] w1311) := ⟨HS.out.call hS⟩
  clear hS
  by_cases c1312 : t1309 = true
  · replace H := if_yes c1312 H
    have c1312b0 : t1309 = true := c1312
    have c1312b1 : (!t1309) = false := by rw [c1312b0]; rfl
    try rw [c1312b1]
    clear c1312
    go_wp2_with fail
    obtain ⟨t1313, HA1314, H⟩ := bind_some H
    refine (atomic_Uint64_Add.calls l1285 a1290 1 g1283 A1286 l1285.length n1288 t1313 _ ⟨HS.out.begin⟩ HA1314).mono ?_
    rintro e_ w1315 ⟨rfl, hS⟩
    replace HS : Aside0 (Sep FF w [b6 g1283 A1286 l1285.length n1288 t1313.2, r5 A1286 l1285.length n1288 l1285] w1315) := ⟨HS.out.call hS⟩
    clear hS
    by_cases c1317 : 0 ≤ a1291
    · replace H := if_yes c1317 H
      have c1317b0 : decide (0 ≤ a1291) = true := decide_eq_true c1317
      have c1317p : (0 ≤ a1291) = True := eq_true c1317
      clear c1317
      by_cases c1318 : a1291 < (l1285.length : Int)
      · replace H := if_yes c1318 H
        have c1318b0 : decide (a1291 < (l1285.length : Int)) = true := decide_eq_true c1318
        have c1318p : (a1291 < (l1285.length : Int)) = True := eq_true c1318
        clear c1318
        obtain ⟨y1321, HA1322, H⟩ := bind_some H
        have hc1316 : w1315.cell? ⟨g1283, 0, none⟩ = some (.slice A1286 l1285.length n1288) := blk_cellv (HS.out.at0) 0 rfl
        obtain ⟨g1319, ea⟩ := row_at (HS.out.at1) (by have := (of_decide_eq_true c1317b0); have := (of_decide_eq_true c1318b0); omega); cases ea
        have hx1323 := (row_get 0 (HS.out.at1) a1291 (of_decide_eq_true c1317b0) (of_decide_eq_true c1318b0)).1
        have hz1324 := (row_get 0 (HS.out.at1) a1291 (of_decide_eq_true c1317b0) (of_decide_eq_true c1318b0)).2
        go_wp2_with (first | ((with_reducible refine gate_store (t := 23) (p := 21) rfl ?_); refine store_event (w1 := World.setCell w1315 ⟨g1319, (a1291).toNat, none⟩ (.int .u32 a1292)) rfl (t := 23) (p := 21) rfl rfl ?hr ?_; (case hr => first | (go_simp; done) | (go_simp; rfl)); intro w1320 hst; clear hc1316 hx1323 hz1324; have hq := Sep.rowset (l1 := [b6 g1283 (some ⟨g1319, 0, none⟩) l1285.length n1288 t1313.2]) (l2 := []) HS.out a1291 a1292; rw [← hst, some_eq HA1322] at hq; replace HS : Aside0 (Sep FF w [b6 g1283 (some ⟨g1319, 0, none⟩) l1285.length n1288 t1313.2, r5 (some ⟨g1319, 0, none⟩) l1285.length n1288 y1321] w1320) := ⟨hq⟩; clear hst hq))
        go_ret
        rw [← some_eq H]
        exact ⟨(by first | rfl | (simp [IntKind.wrap_u32]; done)), HS.out⟩
      · replace H := if_no c1318 H
        have c1318b0 : decide (a1291 < (l1285.length : Int)) = false := decide_eq_false c1318
        clear c1318
        exact (none_no H).elim
    · replace H := if_no c1317 H
      have c1317b0 : decide (0 ≤ a1291) = false := decide_eq_false c1317
      clear c1317
      exact (none_no H).elim
  · replace H := if_no c1312 H
    have c1312b0 : t1309 = false := by simpa using c1312
    have c1312b1 : (!t1309) = true := by rw [c1312b0]; rfl
    try rw [c1312b1]
    clear c1312
    go_wp2_with fail
    go_ret
    rw [← some_eq H]
    exact ⟨(by first | rfl | (simp [IntKind.wrap_u32]; done)), HS.out⟩

set_option maxHeartbeats 30000000 in
set_option maxRecDepth 100000 in
theorem ground_Ground_SetWord.calls (l1221 : List Int) (a1226 : Int) (a1227 : Int) (a1228 : Int) (a1229 : Int) (a1230 : Int) (a1231 : Int) (a1232 : Int) (a1233 : Int) (g1217 : Nat) (g1219 : Nat) (A1222 : Option Addr) (m1223 : Nat) (n1224 : Nat) (r : Bool × Int × List Int) (w : World)   (HS : Aside0 (Sep (fps [b7 g1217 g1219 a1227 a1228 a1229 a1230, b6 g1219 A1222 m1223 n1224 a1226, r5 A1222 m1223 n1224 l1221]) w [b7 g1217 g1219 a1227 a1228 a1229 a1230, b6 g1219 A1222 m1223 n1224 a1226, r5 A1222 m1223 n1224 l1221] w)) (H : Aside0 (ground_Ground_SetWord.f l1221 a1226 a1227 a1228 a1229 a1230 a1231 a1232 a1233 = some r)) :
    Calls Try.prog 46 #[.pointer (some ⟨g1217, 0, none⟩), .int .i64 a1231, .int .i64 a1232, .int .u32 a1233] w fun e w' => e = .returned (.bool r.1) ∧ Sep (fps [b7 g1217 g1219 a1227 a1228 a1229 a1230, b6 g1219 A1222 m1223 n1224 a1226, r5 A1222 m1223 n1224 l1221]) w [b7 g1217 g1219 a1227 a1228 a1229 a1230, b6 g1219 A1222 m1223 n1224 r.2.1, r5 A1222 m1223 n1224 r.2.2] w' := by
  generalize (fps [b7 g1217 g1219 a1227 a1228 a1229 a1230, b6 g1219 A1222 m1223 n1224 a1226, r5 A1222 m1223 n1224 l1221]) = FF at HS ⊢
  obtain rfl := (row_len (HS.out.at2)).symm
  unfold ground_Ground_SetWord.f at H
  go_enter Try.func46, Try.ntmps46
  go_wp2_with fail
  obtain ⟨t1328, HA1329, H⟩ := bind_some H
  refine (ground_Ground_all.calls l1221 a1226 a1227 a1228 a1229 a1230 g1217 g1219 A1222 l1221.length n1224 t1328 _ ⟨HS.out.begin⟩ HA1329).mono ?_
  rintro e_ w1330 ⟨rfl, hS⟩
  replace HS : Aside0 (Sep FF w [b7 g1217 g1219 a1227 a1228 a1229 a1230, b6 g1219 A1222 l1221.length n1224 a1226, r5 A1222 l1221.length n1224 l1221] w1330) := ⟨HS.out.call hS⟩
  clear hS
  go_wp2_with fail
  obtain ⟨t1331, HA1332, H⟩ := bind_some H
  refine (ground_Ground_word.calls l1221 a1226 a1227 a1228 a1229 a1230 a1231 a1232 g1217 g1219 A1222 l1221.length n1224 t1331 _ ⟨HS.out.begin⟩ HA1332).mono ?_
  rintro e_ w1333 ⟨rfl, hS⟩
  replace HS : Aside0 (Sep FF w [b7 g1217 g1219 a1227 a1228 a1229 a1230, b6 g1219 A1222 l1221.length n1224 a1226, r5 A1222 l1221.length n1224 l1221] w1333) := ⟨HS.out.call hS⟩
  clear hS
  go_wp2_with fail
  replace HS : Aside0 (Sep FF w [r5 A1222 l1221.length n1224 l1221, b7 g1217 g1219 a1227 a1228 a1229 a1230, b6 g1219 A1222 l1221.length n1224 a1226] w1333) := ⟨HS.out.front 2 (by simp)⟩
  replace HS : Aside0 (Sep FF w [b6 g1219 A1222 l1221.length n1224 a1226, r5 A1222 l1221.length n1224 l1221, b7 g1217 g1219 a1227 a1228 a1229 a1230] w1333) := ⟨HS.out.front 2 (by simp)⟩
  obtain ⟨t1334, HA1335, H⟩ := bind_some H
  refine (store_Store_Put.calls l1221 a1226 t1331 a1233 g1219 A1222 l1221.length n1224 t1334 _ ⟨HS.out.begin⟩ HA1335).mono ?_
  rintro e_ w1336 ⟨rfl, hS⟩
  replace HS : Aside0 (Sep FF w [b6 g1219 A1222 l1221.length n1224 t1334.2.1, r5 A1222 l1221.length n1224 t1334.2.2, b7 g1217 g1219 a1227 a1228 a1229 a1230] w1336) := ⟨HS.out.call hS⟩
  clear hS
  go_wp2_with fail
  go_ret
  rw [← some_eq H]
  exact ⟨(by first | rfl | (simp [IntKind.wrap_u32]; done)), ((((HS.out).front 1 (by simp)).front 1 (by simp)).front 2 (by simp)).keep (l := [b7 g1217 g1219 a1227 a1228 a1229 a1230, b6 g1219 A1222 l1221.length n1224 t1334.2.1, r5 A1222 l1221.length n1224 t1334.2.2]) (rest := [])⟩

set_option maxHeartbeats 30000000 in
set_option maxRecDepth 100000 in
theorem ground_Ground_set.calls (l1368 : List Int) (a1373 : Int) (a1374 : Int) (a1375 : Int) (a1376 : Int) (a1377 : Int) (a1378 : Int) (a1379 : Int) (g1364 : Nat) (g1366 : Nat) (A1369 : Option Addr) (m1370 : Nat) (n1371 : Nat) (r : Bool × Int × List Int) (w : World)   (HS : Aside0 (Sep (fps [b7 g1364 g1366 a1374 a1375 a1376 a1377, b6 g1366 A1369 m1370 n1371 a1373, r5 A1369 m1370 n1371 l1368]) w [b7 g1364 g1366 a1374 a1375 a1376 a1377, b6 g1366 A1369 m1370 n1371 a1373, r5 A1369 m1370 n1371 l1368] w)) (H : Aside0 (ground_Ground_set.f l1368 a1373 a1374 a1375 a1376 a1377 a1378 a1379 = some r)) :
    Calls Try.prog 85 #[.pointer (some ⟨g1364, 0, none⟩), .int .i64 a1378, .int .i64 a1379] w fun e w' => e = .returned (.bool r.1) ∧ Sep (fps [b7 g1364 g1366 a1374 a1375 a1376 a1377, b6 g1366 A1369 m1370 n1371 a1373, r5 A1369 m1370 n1371 l1368]) w [b7 g1364 g1366 a1374 a1375 a1376 a1377, b6 g1366 A1369 m1370 n1371 r.2.1, r5 A1369 m1370 n1371 r.2.2] w' := by
  generalize (fps [b7 g1364 g1366 a1374 a1375 a1376 a1377, b6 g1366 A1369 m1370 n1371 a1373, r5 A1369 m1370 n1371 l1368]) = FF at HS ⊢
  obtain rfl := (row_len (HS.out.at2)).symm
  unfold ground_Ground_set.f at H
  go_enter Try.func85, Try.ntmps85
  by_cases c1388 : a1379 < 0
  · replace H := if_yes c1388 H
    have c1388b0 : decide (a1379 < 0) = true := decide_eq_true c1388
    clear c1388
    go_wp2_with fail
    go_ret
    rw [← some_eq H]
    exact ⟨(by first | rfl | (simp [IntKind.wrap_u32]; done)), HS.out⟩
  · replace H := if_no c1388 H
    have c1388b0 : decide (a1379 < 0) = false := decide_eq_false c1388
    clear c1388
    by_cases c1389 : a1379 > 4294967295
    · replace H := if_yes c1389 H
      have c1389b0 : decide (4294967295 < a1379) = true := decide_eq_true c1389
      clear c1389
      go_wp2_with fail
      go_ret
      rw [← some_eq H]
      exact ⟨(by first | rfl | (simp [IntKind.wrap_u32]; done)), HS.out⟩
    · replace H := if_no c1389 H
      have c1389b0 : decide (4294967295 < a1379) = false := decide_eq_false c1389
      clear c1389
      go_wp2_with fail
      obtain ⟨t1390, HA1391, H⟩ := bind_some H
      refine (ground_Ground_all.calls l1368 a1373 a1374 a1375 a1376 a1377 g1364 g1366 A1369 l1368.length n1371 t1390 _ ⟨HS.out.begin⟩ HA1391).mono ?_
      rintro e_ w1392 ⟨rfl, hS⟩
      replace HS : Aside0 (Sep FF w [b7 g1364 g1366 a1374 a1375 a1376 a1377, b6 g1366 A1369 l1368.length n1371 a1373, r5 A1369 l1368.length n1371 l1368] w1392) := ⟨HS.out.call hS⟩
      clear hS
      go_wp2_with fail
      replace HS : Aside0 (Sep FF w [r5 A1369 l1368.length n1371 l1368, b7 g1364 g1366 a1374 a1375 a1376 a1377, b6 g1366 A1369 l1368.length n1371 a1373] w1392) := ⟨HS.out.front 2 (by simp)⟩
      replace HS : Aside0 (Sep FF w [b6 g1366 A1369 l1368.length n1371 a1373, r5 A1369 l1368.length n1371 l1368, b7 g1364 g1366 a1374 a1375 a1376 a1377] w1392) := ⟨HS.out.front 2 (by simp)⟩
      obtain ⟨t1393, HA1394, H⟩ := bind_some H
      refine (store_Store_Put.calls l1368 a1373 a1378 ((a1379) % 4294967296) g1366 A1369 l1368.length n1371 t1393 _ ⟨HS.out.begin⟩ HA1394).mono ?_
      rintro e_ w1395 ⟨rfl, hS⟩
      replace HS : Aside0 (Sep FF w [b6 g1366 A1369 l1368.length n1371 t1393.2.1, r5 A1369 l1368.length n1371 t1393.2.2, b7 g1364 g1366 a1374 a1375 a1376 a1377] w1395) := ⟨HS.out.call hS⟩
      clear hS
      go_wp2_with fail
      go_ret
      rw [← some_eq H]
      exact ⟨(by first | rfl | (simp [IntKind.wrap_u32]; done)), ((((HS.out).front 1 (by simp)).front 1 (by simp)).front 2 (by simp)).keep (l := [b7 g1364 g1366 a1374 a1375 a1376 a1377, b6 g1366 A1369 l1368.length n1371 t1393.2.1, r5 A1369 l1368.length n1371 t1393.2.2]) (rest := [])⟩

set_option maxHeartbeats 30000000 in
set_option maxRecDepth 100000 in
theorem ground_Ground_SetReg.calls (l1348 : List Int) (a1353 : Int) (a1354 : Int) (a1355 : Int) (a1356 : Int) (a1357 : Int) (a1358 : Int) (a1359 : Int) (g1344 : Nat) (g1346 : Nat) (A1349 : Option Addr) (m1350 : Nat) (n1351 : Nat) (r : Bool × Int × List Int) (w : World)   (HS : Aside0 (Sep (fps [b7 g1344 g1346 a1354 a1355 a1356 a1357, b6 g1346 A1349 m1350 n1351 a1353, r5 A1349 m1350 n1351 l1348]) w [b7 g1344 g1346 a1354 a1355 a1356 a1357, b6 g1346 A1349 m1350 n1351 a1353, r5 A1349 m1350 n1351 l1348] w)) (H : Aside0 (ground_Ground_SetReg.f l1348 a1353 a1354 a1355 a1356 a1357 a1358 a1359 = some r)) :
    Calls Try.prog 42 #[.pointer (some ⟨g1344, 0, none⟩), .int .i64 a1358, .int .i64 a1359] w fun e w' => e = .returned (.bool r.1) ∧ Sep (fps [b7 g1344 g1346 a1354 a1355 a1356 a1357, b6 g1346 A1349 m1350 n1351 a1353, r5 A1349 m1350 n1351 l1348]) w [b7 g1344 g1346 a1354 a1355 a1356 a1357, b6 g1346 A1349 m1350 n1351 r.2.1, r5 A1349 m1350 n1351 r.2.2] w' := by
  generalize (fps [b7 g1344 g1346 a1354 a1355 a1356 a1357, b6 g1346 A1349 m1350 n1351 a1353, r5 A1349 m1350 n1351 l1348]) = FF at HS ⊢
  obtain rfl := (row_len (HS.out.at2)).symm
  unfold ground_Ground_SetReg.f at H
  go_enter Try.func42, Try.ntmps42
  go_wp2_with fail
  obtain ⟨t1399, HA1400, H⟩ := bind_some H
  refine (ground_reg.calls a1358 t1399 _ ⟨Sep.start _⟩ HA1400).mono ?_
  rintro e_ w1401 ⟨rfl, hS⟩
  replace HS : Aside0 (Sep FF w [b7 g1344 g1346 a1354 a1355 a1356 a1357, b6 g1346 A1349 l1348.length n1351 a1353, r5 A1349 l1348.length n1351 l1348] w1401) := ⟨HS.out.call hS⟩
  clear hS
  go_wp2_with fail
  obtain ⟨t1402, HA1403, H⟩ := bind_some H
  refine (ground_Ground_set.calls l1348 a1353 a1354 a1355 a1356 a1357 t1399 a1359 g1344 g1346 A1349 l1348.length n1351 t1402 _ ⟨HS.out.begin⟩ HA1403).mono ?_
  rintro e_ w1404 ⟨rfl, hS⟩
  replace HS : Aside0 (Sep FF w [b7 g1344 g1346 a1354 a1355 a1356 a1357, b6 g1346 A1349 l1348.length n1351 t1402.2.1, r5 A1349 l1348.length n1351 t1402.2.2] w1404) := ⟨HS.out.call hS⟩
  clear hS
  go_wp2_with fail
  go_ret
  rw [← some_eq H]
  exact ⟨(by first | rfl | (simp [IntKind.wrap_u32]; done)), HS.out⟩

set_option maxHeartbeats 30000000 in
set_option maxRecDepth 100000 in
theorem chain_Add_1.calls (a1186 : Int) (a1187 : Int) (a1188 : Int) (a1189 : Int) (a1190 : Int) (l1198 : List Int) (a1203 : Int) (a1204 : Int) (a1205 : Int) (a1206 : Int) (a1207 : Int) (a1210 : Int) (g1192 : Nat) (g1194 : Nat) (g1196 : Nat) (A1199 : Option Addr) (m1200 : Nat) (n1201 : Nat) (g1209 : Nat) (r : Int × List Int) (w : World)   (HS : Aside0 (Sep (fps [b9 g1192 g1194, b7 g1194 g1196 a1204 a1205 a1206 a1207, b6 g1196 A1199 m1200 n1201 a1203, r5 A1199 m1200 n1201 l1198, b10 g1209 a1210]) w [b9 g1192 g1194, b7 g1194 g1196 a1204 a1205 a1206 a1207, b6 g1196 A1199 m1200 n1201 a1203, r5 A1199 m1200 n1201 l1198, b10 g1209 a1210] w)) (H : Aside0 (chain_Add_1.f a1186 a1187 a1188 a1189 a1190 l1198 a1203 a1204 a1205 a1206 a1207 a1210 = some r)) :
    Calls Try.prog 89 #[.agg #[.int .i64 a1186, .int .i64 a1187, .int .i64 a1188], .int .i64 a1189, .int .i64 a1190, .pointer (some ⟨g1192, 0, none⟩), .pointer (some ⟨g1209, 0, none⟩)] w fun e w' => e = .returned (.tuple #[]) ∧ Sep (fps [b9 g1192 g1194, b7 g1194 g1196 a1204 a1205 a1206 a1207, b6 g1196 A1199 m1200 n1201 a1203, r5 A1199 m1200 n1201 l1198, b10 g1209 a1210]) w [b9 g1192 g1194, b7 g1194 g1196 a1204 a1205 a1206 a1207, b6 g1196 A1199 m1200 n1201 r.1, r5 A1199 m1200 n1201 r.2, b10 g1209 a1210] w' := by
  generalize (fps [b9 g1192 g1194, b7 g1194 g1196 a1204 a1205 a1206 a1207, b6 g1196 A1199 m1200 n1201 a1203, r5 A1199 m1200 n1201 l1198, b10 g1209 a1210]) = FF at HS ⊢
  obtain rfl := (row_len (HS.out.at3)).symm
  unfold chain_Add_1.f at H
  go_enter Try.func89, Try.ntmps89
  go_wp2_with (first | ((with_reducible refine gate_dst (N := 5) rfl ?_); refine box_on ?hg (N := 5) ?hd (cs := #[.int .i64 a1186, .int .i64 a1187, .int .i64 a1188]) (t := 134) ?hr ?_; (case hd => rfl); (case hg => rfl); (case hr => first | (go_simp; done) | (go_simp; rfl)); intro g1413 hg w1414 hbox hb; replace HS : Aside0 (Sep FF w [b9 g1192 g1194, b7 g1194 g1196 a1204 a1205 a1206 a1207, b6 g1196 A1199 l1198.length n1201 a1203, r5 A1199 l1198.length n1201 l1198, b10 g1209 a1210, b8 g1413 a1186 a1187 a1188] w1414) := ⟨HS.out.box hg hbox hb⟩; clear hg hbox hb; have hc1416 : w1414.cell? ⟨g1192, 0, none⟩ = some (.pointer (some ⟨g1194, 0, none⟩)) := blk_cellv (HS.out.at0) 0 rfl; have hc1417 : w1414.cell? ⟨g1209, 0, none⟩ = some (.int .i64 a1210) := blk_cellv (HS.out.at4) 0 rfl))
  clear hc1416 hc1417
  replace HS : Aside0 (Sep FF w [r5 A1199 l1198.length n1201 l1198, b9 g1192 g1194, b7 g1194 g1196 a1204 a1205 a1206 a1207, b6 g1196 A1199 l1198.length n1201 a1203, b10 g1209 a1210, b8 g1413 a1186 a1187 a1188] w1414) := ⟨HS.out.front 3 (by simp)⟩
  replace HS : Aside0 (Sep FF w [b6 g1196 A1199 l1198.length n1201 a1203, r5 A1199 l1198.length n1201 l1198, b9 g1192 g1194, b7 g1194 g1196 a1204 a1205 a1206 a1207, b10 g1209 a1210, b8 g1413 a1186 a1187 a1188] w1414) := ⟨HS.out.front 3 (by simp)⟩
  replace HS : Aside0 (Sep FF w [b7 g1194 g1196 a1204 a1205 a1206 a1207, b6 g1196 A1199 l1198.length n1201 a1203, r5 A1199 l1198.length n1201 l1198, b9 g1192 g1194, b10 g1209 a1210, b8 g1413 a1186 a1187 a1188] w1414) := ⟨HS.out.front 3 (by simp)⟩
  obtain ⟨t1418, HA1419, H⟩ := bind_some H
  refine (ground_Ground_SetWord.calls l1198 a1203 a1204 a1205 a1206 a1207 a1210 5 0 g1194 g1196 A1199 l1198.length n1201 t1418 _ ⟨HS.out.begin⟩ HA1419).mono ?_
  rintro e_ w1420 ⟨rfl, hS⟩
  replace HS : Aside0 (Sep FF w [b7 g1194 g1196 a1204 a1205 a1206 a1207, b6 g1196 A1199 l1198.length n1201 t1418.2.1, r5 A1199 l1198.length n1201 t1418.2.2, b9 g1192 g1194, b10 g1209 a1210, b8 g1413 a1186 a1187 a1188] w1420) := ⟨HS.out.call hS⟩
  clear hS
  by_cases c1421 : a1190 = 0
  · replace H := if_yes c1421 H
    have c1421b0 : (a1190 == 0) = true := beq_iff_eq.mpr c1421
    have c1421b1 : (a1190 != 0) = false := bne_eq_false_iff_eq.mpr c1421
    clear c1421
    have hc1422 : w1420.cell? ⟨g1192, 0, none⟩ = some (.pointer (some ⟨g1194, 0, none⟩)) := blk_cellv (HS.out.at3) 0 rfl
    have hc1423 : w1420.cell? ⟨g1413, 0, none⟩ = some (.int .i64 a1186) := blk_cellv (HS.out.at5) 0 rfl
    go_wp2_with fail
    clear hc1422 hc1423
    obtain ⟨t1424, HA1425, H⟩ := bind_some H
    refine (ground_Ground_SetReg.calls t1418.2.2 t1418.2.1 a1204 a1205 a1206 a1207 a1186 a1189 g1194 g1196 A1199 l1198.length n1201 t1424 _ ⟨HS.out.begin⟩ HA1425).mono ?_
    rintro e_ w1426 ⟨rfl, hS⟩
    replace HS : Aside0 (Sep FF w [b7 g1194 g1196 a1204 a1205 a1206 a1207, b6 g1196 A1199 l1198.length n1201 t1424.2.1, r5 A1199 l1198.length n1201 t1424.2.2, b9 g1192 g1194, b10 g1209 a1210, b8 g1413 a1186 a1187 a1188] w1426) := ⟨HS.out.call hS⟩
    clear hS
    have hc1427 : w1426.cell? ⟨g1192, 0, none⟩ = some (.pointer (some ⟨g1194, 0, none⟩)) := blk_cellv (HS.out.at3) 0 rfl
    have hc1428 : w1426.cell? ⟨g1413, 1, none⟩ = some (.int .i64 a1187) := blk_cellv (HS.out.at5) 1 rfl
    go_wp2_with fail
    clear hc1427 hc1428
    obtain ⟨t1429, HA1430, H⟩ := bind_some H
    refine (ground_Ground_SetReg.calls t1424.2.2 t1424.2.1 a1204 a1205 a1206 a1207 a1187 a1189 g1194 g1196 A1199 l1198.length n1201 t1429 _ ⟨HS.out.begin⟩ HA1430).mono ?_
    rintro e_ w1431 ⟨rfl, hS⟩
    replace HS : Aside0 (Sep FF w [b7 g1194 g1196 a1204 a1205 a1206 a1207, b6 g1196 A1199 l1198.length n1201 t1429.2.1, r5 A1199 l1198.length n1201 t1429.2.2, b9 g1192 g1194, b10 g1209 a1210, b8 g1413 a1186 a1187 a1188] w1431) := ⟨HS.out.call hS⟩
    clear hS
    replace HS : Aside0 (Sep FF w [b7 g1194 g1196 a1204 a1205 a1206 a1207, b6 g1196 A1199 l1198.length n1201 t1429.2.1, r5 A1199 l1198.length n1201 t1429.2.2, b9 g1192 g1194, b10 g1209 a1210] w1431) := ⟨HS.out.sub (.cons_cons _ (.cons_cons _ (.cons_cons _ (.cons_cons _ (.cons_cons _ (.cons _ .slnil))))))⟩
    go_wp2_with fail
    first | go_end0 | refine bodyPost_ret (results_none rfl _ _ _) rfl ?_
    rw [← some_eq H]
    exact ⟨rfl, ((((((HS.out).front 4 (by simp)).front 3 (by simp)).front 3 (by simp)).front 3 (by simp)).front 4 (by simp)).keep (l := [b9 g1192 g1194, b7 g1194 g1196 a1204 a1205 a1206 a1207, b6 g1196 A1199 l1198.length n1201 t1429.2.1, r5 A1199 l1198.length n1201 t1429.2.2, b10 g1209 a1210]) (rest := [])⟩
  · replace H := if_no c1421 H
    have c1421b0 : (a1190 == 0) = false := beq_eq_false_iff_ne.mpr c1421
    have c1421b1 : (a1190 != 0) = true := bne_iff_ne.mpr c1421
    clear c1421
    go_wp2_with fail
    refine start_ (n := 9) (S := (fun w' => w'.cell? ⟨g1192, 0, none⟩ = some (.pointer (some ⟨g1194, 0, none⟩)) ∧ w'.cell? ⟨g1413, 1, none⟩ = some (.int .i64 a1187))) (ds := []) #[false, false, false, false, false, false, false, false, false] (by kernel_rfl) rfl rfl (⟨blk_cellv ((HS.out.drew).at3) 0 rfl, blk_cellv ((HS.out.drew).at5) 1 rfl⟩) (fun hHeld => ?_)
    have HS_ := Aside0.mk HS.out.drew
    clear HS
    generalize World.drew _ = w1433 at HS_ hHeld ⊢
    have HS := HS_
    clear HS_
    refine pure_ (i := 2) (N := some 20) (v := ?_) (a' := ?_) #[false, false, true, false, false, false, false, false, false] rfl rfl (by kernel_rfl) (fun _ _ _ h => h) (Or.inl ⟨by rfl, ?_⟩) ?_ ?_
    rotate_left
    · intro w'
      go_simp
      with_reducible rfl
    rotate_left
    · simp only [Act.put, List.setIfInBounds_toArray, List.set_cons_zero, List.set_cons_succ, i64_w, i32_w]
      rfl
    refine pure_ (i := 6) (N := some 24) (v := ?_) (a' := ?_) #[false, false, true, false, false, false, true, false, false] rfl rfl (by kernel_rfl) (fun _ _ _ h => h) (Or.inl ⟨by rfl, ?_⟩) ?_ ?_
    rotate_left
    · intro w'
      go_simp
      with_reducible rfl
    rotate_left
    · simp only [Act.put, List.setIfInBounds_toArray, List.set_cons_zero, List.set_cons_succ, i64_w, i32_w]
      rfl
    refine pure_ (i := 7) (N := some 25) (v := ?_) (a' := ?_) #[false, false, true, false, false, false, true, true, false] rfl rfl (by kernel_rfl) (fun _ _ _ h => h) (Or.inl ⟨by rfl, ?_⟩) ?_ ?_
    rotate_left
    · intro w'
      go_simp
      with_reducible rfl
    rotate_left
    · simp only [Act.put, List.setIfInBounds_toArray, List.set_cons_zero, List.set_cons_succ, i64_w, i32_w]
      rfl
    refine take_ (i := 0) (N := some 18) (v := ?_) (a' := ?_) #[true, false, true, false, false, false, true, true, false] rfl rfl (by kernel_rfl) (fun _ _ _ h => h) (Or.inl ⟨by rfl, ?_⟩) hHeld ?_ ?_
    rotate_left
    · rintro w' hS'
      obtain ⟨s0, s1⟩ := hS'
      go_simp
      with_reducible rfl
    rotate_left
    · simp only [Act.put, List.setIfInBounds_toArray, List.set_cons_zero, List.set_cons_succ, i64_w, i32_w]
      rfl
    refine take_ (i := 1) (N := some 19) (v := ?_) (a' := ?_) #[true, true, true, false, false, false, true, true, false] rfl rfl (by kernel_rfl) (fun _ _ _ h => h) (Or.inl ⟨by rfl, ?_⟩) hHeld ?_ ?_
    rotate_left
    · rintro w' hS'
      obtain ⟨s0, s1⟩ := hS'
      go_simp
      with_reducible rfl
    rotate_left
    · simp only [Act.put, List.setIfInBounds_toArray, List.set_cons_zero, List.set_cons_succ, i64_w, i32_w]
      rfl
    refine take_ (i := 3) (N := some 21) (v := ?_) (a' := ?_) #[true, true, true, true, false, false, true, true, false] rfl rfl (by kernel_rfl) (fun _ _ _ h => h) (Or.inl ⟨by rfl, ?_⟩) hHeld ?_ ?_
    rotate_left
    · rintro w' hS'
      obtain ⟨s0, s1⟩ := hS'
      go_simp
      with_reducible rfl
    rotate_left
    · simp only [Act.put, List.setIfInBounds_toArray, List.set_cons_zero, List.set_cons_succ, i64_w, i32_w]
      rfl
    refine one_ (i := 4) (N := some 22) #[true, true, true, true, true, false, true, true, false] rfl rfl (by kernel_rfl) (by decide) (fun K hK => ?_)
    obtain ⟨t1434, HA1435, H⟩ := bind_some H
    refine goes_ Try.func36 (by kernel_rfl) rfl #[.pointer (some ⟨g1194, 0, none⟩), .int .i64 a1187] (by rfl) rfl rfl (by (try simp only [List.map_toArray, List.map_cons, List.map_nil]); first | done | rfl) ?_
    refine (ground_Ground_Reg.calls t1418.2.2 t1418.2.1 a1204 a1205 a1206 a1207 a1187 g1194 g1196 A1199 l1198.length n1201 t1434 _ ⟨HS.out.begin⟩ HA1435).mono ?_
    rintro e_ w1436 ⟨rfl, hS⟩
    replace HS : Aside0 (Sep FF w [b7 g1194 g1196 a1204 a1205 a1206 a1207, b6 g1196 A1199 l1198.length n1201 t1434.2, r5 A1199 l1198.length n1201 t1418.2.2, b9 g1192 g1194, b10 g1209 a1210, b8 g1413 a1186 a1187 a1188] w1436) := ⟨HS.out.call hS⟩
    clear hS
    refine ⟨_, rfl, ?_⟩
    refine hK.out _ _ (⟨blk_cellv (HS.out.at3) 0 rfl, blk_cellv (HS.out.at5) 1 rfl⟩) (fun hHeld => ?_)
    clear hK K
    refine norm_ (a' := ?_) ?_ ?_
    rotate_left
    · show Act.put _ (some 22) _ = _
      simp only [Act.put, List.setIfInBounds_toArray, List.set_cons_zero, List.set_cons_succ, i64_w, i32_w]
      rfl
    refine pure_ (i := 5) (N := some 23) (v := ?_) (a' := ?_) #[true, true, true, true, true, true, true, true, false] rfl rfl (by kernel_rfl) (fun _ _ _ h => h) (Or.inl ⟨by rfl, ?_⟩) ?_ ?_
    rotate_left
    · intro w'
      go_simp
      with_reducible rfl
    rotate_left
    · simp only [Act.put, List.setIfInBounds_toArray, List.set_cons_zero, List.set_cons_succ, i64_w, i32_w]
      rfl
    refine one_ (i := 8) (N := some 26) #[true, true, true, true, true, true, true, true, true] rfl rfl (by kernel_rfl) (by decide) (fun K hK => ?_)
    obtain ⟨t1437, HA1438, H⟩ := bind_some H
    refine goes_ Try.func46 (by kernel_rfl) rfl #[.pointer (some ⟨g1194, 0, none⟩), .int .i64 (wrap64 (t1434.1 - 1)), .int .i64 5, .int .u32 ((a1189) % 4294967296)] (by rfl) rfl rfl (by (try simp only [List.map_toArray, List.map_cons, List.map_nil]); first | done | rfl) ?_
    refine (ground_Ground_SetWord.calls t1418.2.2 t1434.2 a1204 a1205 a1206 a1207 (wrap64 (t1434.1 - 1)) 5 ((a1189) % 4294967296) g1194 g1196 A1199 l1198.length n1201 t1437 _ ⟨HS.out.begin⟩ HA1438).mono ?_
    rintro e_ w1439 ⟨rfl, hS⟩
    replace HS : Aside0 (Sep FF w [b7 g1194 g1196 a1204 a1205 a1206 a1207, b6 g1196 A1199 l1198.length n1201 t1437.2.1, r5 A1199 l1198.length n1201 t1437.2.2, b9 g1192 g1194, b10 g1209 a1210, b8 g1413 a1186 a1187 a1188] w1439) := ⟨HS.out.call hS⟩
    clear hS
    refine ⟨_, rfl, ?_⟩
    refine hK.out _ _ (⟨blk_cellv (HS.out.at3) 0 rfl, blk_cellv (HS.out.at5) 1 rfl⟩) (fun hHeld => ?_)
    clear hK K
    refine norm_ (a' := ?_) ?_ ?_
    rotate_left
    · show Act.put _ (some 26) _ = _
      simp only [Act.put, List.setIfInBounds_toArray, List.set_cons_zero, List.set_cons_succ, i64_w, i32_w]
      rfl
    refine done_ (by kernel_rfl) ?_
    have hc1440 : w1439.cell? ⟨g1192, 0, none⟩ = some (.pointer (some ⟨g1194, 0, none⟩)) := blk_cellv (HS.out.at3) 0 rfl
    have hc1441 : w1439.cell? ⟨g1413, 1, none⟩ = some (.int .i64 a1187) := blk_cellv (HS.out.at5) 1 rfl
    go_wp2_with fail
    clear hc1440 hc1441
    obtain ⟨t1429, HA1442, H⟩ := bind_some H
    refine (ground_Ground_SetReg.calls t1437.2.2 t1437.2.1 a1204 a1205 a1206 a1207 a1187 a1189 g1194 g1196 A1199 l1198.length n1201 t1429 _ ⟨HS.out.begin⟩ HA1442).mono ?_
    rintro e_ w1443 ⟨rfl, hS⟩
    replace HS : Aside0 (Sep FF w [b7 g1194 g1196 a1204 a1205 a1206 a1207, b6 g1196 A1199 l1198.length n1201 t1429.2.1, r5 A1199 l1198.length n1201 t1429.2.2, b9 g1192 g1194, b10 g1209 a1210, b8 g1413 a1186 a1187 a1188] w1443) := ⟨HS.out.call hS⟩
    clear hS
    replace HS : Aside0 (Sep FF w [b7 g1194 g1196 a1204 a1205 a1206 a1207, b6 g1196 A1199 l1198.length n1201 t1429.2.1, r5 A1199 l1198.length n1201 t1429.2.2, b9 g1192 g1194, b10 g1209 a1210] w1443) := ⟨HS.out.sub (.cons_cons _ (.cons_cons _ (.cons_cons _ (.cons_cons _ (.cons_cons _ (.cons _ .slnil))))))⟩
    go_wp2_with fail
    first | go_end0 | refine bodyPost_ret (results_none rfl _ _ _) rfl ?_
    rw [← some_eq H]
    exact ⟨rfl, ((((((HS.out).front 4 (by simp)).front 3 (by simp)).front 3 (by simp)).front 3 (by simp)).front 4 (by simp)).keep (l := [b9 g1192 g1194, b7 g1194 g1196 a1204 a1205 a1206 a1207, b6 g1196 A1199 l1198.length n1201 t1429.2.1, r5 A1199 l1198.length n1201 t1429.2.2, b10 g1209 a1210]) (rest := [])⟩

set_option maxHeartbeats 30000000 in
set_option maxRecDepth 100000 in
theorem chain_put_F89.calls (l1142 : List Int) (a1147 : Int) (a1148 : Int) (a1149 : Int) (a1150 : Int) (a1151 : Int) (a1152 : Int) (a1153 : Int) (a1158 : Int) (g1138 : Nat) (g1140 : Nat) (A1143 : Option Addr) (m1144 : Nat) (n1145 : Nat) (g1155 : Nat) (g1157 : Nat) (r : Bool × Int × List Int) (w : World)   (HS : Aside0 (Sep (fps [b7 g1138 g1140 a1148 a1149 a1150 a1151, b6 g1140 A1143 m1144 n1145 a1147, r5 A1143 m1144 n1145 l1142, b9 g1155 g1138, b10 g1157 a1158]) w [b7 g1138 g1140 a1148 a1149 a1150 a1151, b6 g1140 A1143 m1144 n1145 a1147, r5 A1143 m1144 n1145 l1142, b9 g1155 g1138, b10 g1157 a1158] w)) (H : Aside0 (chain_put_F89.f l1142 a1147 a1148 a1149 a1150 a1151 a1152 a1153 a1158 = some r)) :
    Calls Try.prog 88 #[.pointer (some ⟨g1138, 0, none⟩), .int .i64 a1152, .int .i64 a1153, .func (.func 89) #[] #[.pointer (some ⟨g1155, 0, none⟩), .pointer (some ⟨g1157, 0, none⟩)]] w fun e w' => e = .returned (.bool r.1) ∧ Sep (fps [b7 g1138 g1140 a1148 a1149 a1150 a1151, b6 g1140 A1143 m1144 n1145 a1147, r5 A1143 m1144 n1145 l1142, b9 g1155 g1138, b10 g1157 a1158]) w [b7 g1138 g1140 a1148 a1149 a1150 a1151, b6 g1140 A1143 m1144 n1145 r.2.1, r5 A1143 m1144 n1145 r.2.2, b9 g1155 g1138, b10 g1157 a1158] w' := by
  generalize (fps [b7 g1138 g1140 a1148 a1149 a1150 a1151, b6 g1140 A1143 m1144 n1145 a1147, r5 A1143 m1144 n1145 l1142, b9 g1155 g1138, b10 g1157 a1158]) = FF at HS ⊢
  obtain rfl := (row_len (HS.out.at2)).symm
  unfold chain_put_F89.f at H
  go_enter Try.func88, Try.ntmps88
  go_wp2_with fail
  obtain ⟨t1451, HA1452, H⟩ := bind_some H
  refine (chain_of.calls l1142 a1147 a1148 a1149 a1150 a1151 a1152 g1138 g1140 A1143 l1142.length n1145 t1451 _ ⟨HS.out.begin⟩ HA1452).mono ?_
  rintro e_ w1453 ⟨rfl, hS⟩
  replace HS : Aside0 (Sep FF w [b7 g1138 g1140 a1148 a1149 a1150 a1151, b6 g1140 A1143 l1142.length n1145 a1147, r5 A1143 l1142.length n1145 l1142, b9 g1155 g1138, b10 g1157 a1158] w1453) := ⟨HS.out.call hS⟩
  clear hS
  by_cases c1464 : t1451.2.2.2 = true
  · replace H := if_yes c1464 H
    have c1464b0 : t1451.2.2.2 = true := c1464
    have c1464b1 : (!t1451.2.2.2) = false := by rw [c1464b0]; rfl
    try rw [c1464b1]
    clear c1464
    by_cases c1465 : a1153 < 0
    · replace H := if_yes c1465 H
      have c1465b0 : decide (a1153 < 0) = true := decide_eq_true c1465
      clear c1465
      go_wp2_with (first | ((with_reducible refine gate_dst (N := 9) rfl ?_); refine box_on ?hg (N := 9) ?hd (cs := #[.int .i64 0, .int .i64 0, .int .i64 0]) (t := 134) ?hr ?_; (case hd => rfl); (case hg => rfl); (case hr => first | (go_simp; done) | (go_simp; rfl)); intro g1454 hg w1455 hbox hb; replace HS : Aside0 (Sep FF w [b7 g1138 g1140 a1148 a1149 a1150 a1151, b6 g1140 A1143 l1142.length n1145 a1147, r5 A1143 l1142.length n1145 l1142, b9 g1155 g1138, b10 g1157 a1158, b8 g1454 0 0 0] w1455) := ⟨HS.out.box hg hbox hb⟩; clear hg hbox hb; have hc1457 : w1455.cell? ⟨g1454, 0, none⟩ = some (.int .i64 0) := blk_cellv (HS.out.at5) 0 rfl; have hz1458 : w1455.frozen? ⟨g1454, 0, none⟩ = false := blk_fz (HS.out.at5) 0; have hc1459 : w1455.cell? ⟨g1454, 1, none⟩ = some (.int .i64 0) := blk_cellv (HS.out.at5) 1 rfl; have hz1460 : w1455.frozen? ⟨g1454, 1, none⟩ = false := blk_fz (HS.out.at5) 1; have hc1461 : w1455.cell? ⟨g1454, 2, none⟩ = some (.int .i64 0) := blk_cellv (HS.out.at5) 2 rfl; have hz1462 : w1455.frozen? ⟨g1454, 2, none⟩ = false := blk_fz (HS.out.at5) 2) | ((with_reducible refine gate_store (t := 134) (p := 9) rfl ?_); refine store_event (w1 := (World.setCell (World.setCell (World.setCell w1455 ⟨g1454, 0, none⟩ (.int .i64 t1451.1)) ⟨g1454, 1, none⟩ (.int .i64 t1451.2.1)) ⟨g1454, 2, none⟩ (.int .i64 t1451.2.2.1))) rfl (t := 134) (p := 9) rfl rfl ?hr ?_; (case hr => first | (go_simp; done) | (go_simp; rfl)); intro w1463 hst; clear hc1457 hz1458 hc1459 hz1460 hc1461 hz1462; replace HS : Aside0 (Sep FF w [b7 g1138 g1140 a1148 a1149 a1150 a1151, b6 g1140 A1143 l1142.length n1145 a1147, r5 A1143 l1142.length n1145 l1142, b9 g1155 g1138, b10 g1157 a1158, b8 g1454 t1451.1 t1451.2.1 t1451.2.2.1] w1463) := ⟨by rw [hst]; exact HS.out.setAll (l1 := [b7 g1138 g1140 a1148 a1149 a1150 a1151, b6 g1140 A1143 l1142.length n1145 a1147, r5 A1143 l1142.length n1145 l1142, b9 g1155 g1138, b10 g1157 a1158]) (l2 := []) [.int .i64 t1451.1, .int .i64 t1451.2.1, .int .i64 t1451.2.2.1] rfl⟩; clear hst; replace HS : Aside0 (Sep FF w [b7 g1138 g1140 a1148 a1149 a1150 a1151, b6 g1140 A1143 l1142.length n1145 a1147, r5 A1143 l1142.length n1145 l1142, b9 g1155 g1138, b10 g1157 a1158] w1463) := ⟨HS.out.sub (.cons_cons _ (.cons_cons _ (.cons_cons _ (.cons_cons _ (.cons_cons _ (.cons _ .slnil))))))⟩))
      go_ret
      rw [← some_eq H]
      exact ⟨(by first | rfl | (simp [IntKind.wrap_u32]; done)), HS.out⟩
    · replace H := if_no c1465 H
      have c1465b0 : decide (a1153 < 0) = false := decide_eq_false c1465
      clear c1465
      go_wp2_with (first | ((with_reducible refine gate_dst (N := 9) rfl ?_); refine box_on ?hg (N := 9) ?hd (cs := #[.int .i64 0, .int .i64 0, .int .i64 0]) (t := 134) ?hr ?_; (case hd => rfl); (case hg => rfl); (case hr => first | (go_simp; done) | (go_simp; rfl)); intro g1454 hg w1455 hbox hb; replace HS : Aside0 (Sep FF w [b7 g1138 g1140 a1148 a1149 a1150 a1151, b6 g1140 A1143 l1142.length n1145 a1147, r5 A1143 l1142.length n1145 l1142, b9 g1155 g1138, b10 g1157 a1158, b8 g1454 0 0 0] w1455) := ⟨HS.out.box hg hbox hb⟩; clear hg hbox hb; have hc1457 : w1455.cell? ⟨g1454, 0, none⟩ = some (.int .i64 0) := blk_cellv (HS.out.at5) 0 rfl; have hz1458 : w1455.frozen? ⟨g1454, 0, none⟩ = false := blk_fz (HS.out.at5) 0; have hc1459 : w1455.cell? ⟨g1454, 1, none⟩ = some (.int .i64 0) := blk_cellv (HS.out.at5) 1 rfl; have hz1460 : w1455.frozen? ⟨g1454, 1, none⟩ = false := blk_fz (HS.out.at5) 1; have hc1461 : w1455.cell? ⟨g1454, 2, none⟩ = some (.int .i64 0) := blk_cellv (HS.out.at5) 2 rfl; have hz1462 : w1455.frozen? ⟨g1454, 2, none⟩ = false := blk_fz (HS.out.at5) 2) | ((with_reducible refine gate_store (t := 134) (p := 9) rfl ?_); refine store_event (w1 := (World.setCell (World.setCell (World.setCell w1455 ⟨g1454, 0, none⟩ (.int .i64 t1451.1)) ⟨g1454, 1, none⟩ (.int .i64 t1451.2.1)) ⟨g1454, 2, none⟩ (.int .i64 t1451.2.2.1))) rfl (t := 134) (p := 9) rfl rfl ?hr ?_; (case hr => first | (go_simp; done) | (go_simp; rfl)); intro w1463 hst; clear hc1457 hz1458 hc1459 hz1460 hc1461 hz1462; replace HS : Aside0 (Sep FF w [b7 g1138 g1140 a1148 a1149 a1150 a1151, b6 g1140 A1143 l1142.length n1145 a1147, r5 A1143 l1142.length n1145 l1142, b9 g1155 g1138, b10 g1157 a1158, b8 g1454 t1451.1 t1451.2.1 t1451.2.2.1] w1463) := ⟨by rw [hst]; exact HS.out.setAll (l1 := [b7 g1138 g1140 a1148 a1149 a1150 a1151, b6 g1140 A1143 l1142.length n1145 a1147, r5 A1143 l1142.length n1145 l1142, b9 g1155 g1138, b10 g1157 a1158]) (l2 := []) [.int .i64 t1451.1, .int .i64 t1451.2.1, .int .i64 t1451.2.2.1] rfl⟩; clear hst))
      obtain ⟨t1466, HA1467, H⟩ := bind_some H
      refine (ground_Ground_Conf.calls l1142 a1147 a1148 a1149 a1150 a1151 g1138 g1140 A1143 l1142.length n1145 t1466 _ ⟨HS.out.begin⟩ HA1467).mono ?_
      rintro e_ w1468 ⟨rfl, hS⟩
      replace HS : Aside0 (Sep FF w [b7 g1138 g1140 a1148 a1149 a1150 a1151, b6 g1140 A1143 l1142.length n1145 a1147, r5 A1143 l1142.length n1145 l1142, b9 g1155 g1138, b10 g1157 a1158, b8 g1454 t1451.1 t1451.2.1 t1451.2.2.1] w1468) := ⟨HS.out.call hS⟩
      clear hS
      by_cases c1470 : a1153 ≥ t1466.1
      · replace H := if_yes c1470 H
        have c1470b0 : decide (t1466.1 ≤ a1153) = true := decide_eq_true c1470
        clear c1470
        have fl1469 : ∀ w, (Instr.field 49 (.agg #[.int .i64 t1466.1, .int .i64 t1466.2.1, .int .i64 t1466.2.2.1, .int .i64 t1466.2.2.2]) 0).run Try.prog w = .ok (.int .i64 t1466.1) w := fun _ => by kernel_rfl
        replace HS : Aside0 (Sep FF w [b7 g1138 g1140 a1148 a1149 a1150 a1151, b6 g1140 A1143 l1142.length n1145 a1147, r5 A1143 l1142.length n1145 l1142, b9 g1155 g1138, b10 g1157 a1158] w1468) := ⟨HS.out.sub (.cons_cons _ (.cons_cons _ (.cons_cons _ (.cons_cons _ (.cons_cons _ (.cons _ .slnil))))))⟩
        go_wp2_with fail
        clear fl1469
        go_ret
        rw [← some_eq H]
        exact ⟨(by first | rfl | (simp [IntKind.wrap_u32]; done)), HS.out⟩
      · replace H := if_no c1470 H
        have c1470b0 : decide (t1466.1 ≤ a1153) = false := decide_eq_false c1470
        clear c1470
        have fl1469 : ∀ w, (Instr.field 49 (.agg #[.int .i64 t1466.1, .int .i64 t1466.2.1, .int .i64 t1466.2.2.1, .int .i64 t1466.2.2.2]) 0).run Try.prog w = .ok (.int .i64 t1466.1) w := fun _ => by kernel_rfl
        have hc1471 : w1468.cell? ⟨g1454, 2, none⟩ = some (.int .i64 t1451.2.2.1) := blk_cellv (HS.out.at5) 2 rfl
        go_wp2_with fail
        clear fl1469 hc1471
        obtain ⟨t1472, HA1473, H⟩ := bind_some H
        refine (ground_Ground_Reg.calls l1142 a1147 a1148 a1149 a1150 a1151 t1451.2.2.1 g1138 g1140 A1143 l1142.length n1145 t1472 _ ⟨HS.out.begin⟩ HA1473).mono ?_
        rintro e_ w1474 ⟨rfl, hS⟩
        replace HS : Aside0 (Sep FF w [b7 g1138 g1140 a1148 a1149 a1150 a1151, b6 g1140 A1143 l1142.length n1145 t1472.2, r5 A1143 l1142.length n1145 l1142, b9 g1155 g1138, b10 g1157 a1158, b8 g1454 t1451.1 t1451.2.1 t1451.2.2.1] w1474) := ⟨HS.out.call hS⟩
        clear hS
        have hc1475 : w1474.cell? ⟨g1454, 0, none⟩ = some (.int .i64 t1451.1) := blk_cellv (HS.out.at5) 0 rfl
        have hc1476 : w1474.cell? ⟨g1454, 1, none⟩ = some (.int .i64 t1451.2.1) := blk_cellv (HS.out.at5) 1 rfl
        have hc1477 : w1474.cell? ⟨g1454, 2, none⟩ = some (.int .i64 t1451.2.2.1) := blk_cellv (HS.out.at5) 2 rfl
        go_wp2_with fail
        clear hc1475 hc1476 hc1477
        replace HS : Aside0 (Sep FF w [b10 g1157 a1158, b7 g1138 g1140 a1148 a1149 a1150 a1151, b6 g1140 A1143 l1142.length n1145 t1472.2, r5 A1143 l1142.length n1145 l1142, b9 g1155 g1138, b8 g1454 t1451.1 t1451.2.1 t1451.2.2.1] w1474) := ⟨HS.out.front 4 (by simp)⟩
        replace HS : Aside0 (Sep FF w [r5 A1143 l1142.length n1145 l1142, b10 g1157 a1158, b7 g1138 g1140 a1148 a1149 a1150 a1151, b6 g1140 A1143 l1142.length n1145 t1472.2, b9 g1155 g1138, b8 g1454 t1451.1 t1451.2.1 t1451.2.2.1] w1474) := ⟨HS.out.front 3 (by simp)⟩
        replace HS : Aside0 (Sep FF w [b6 g1140 A1143 l1142.length n1145 t1472.2, r5 A1143 l1142.length n1145 l1142, b10 g1157 a1158, b7 g1138 g1140 a1148 a1149 a1150 a1151, b9 g1155 g1138, b8 g1454 t1451.1 t1451.2.1 t1451.2.2.1] w1474) := ⟨HS.out.front 3 (by simp)⟩
        replace HS : Aside0 (Sep FF w [b7 g1138 g1140 a1148 a1149 a1150 a1151, b6 g1140 A1143 l1142.length n1145 t1472.2, r5 A1143 l1142.length n1145 l1142, b10 g1157 a1158, b9 g1155 g1138, b8 g1454 t1451.1 t1451.2.1 t1451.2.2.1] w1474) := ⟨HS.out.front 3 (by simp)⟩
        replace HS : Aside0 (Sep FF w [b9 g1155 g1138, b7 g1138 g1140 a1148 a1149 a1150 a1151, b6 g1140 A1143 l1142.length n1145 t1472.2, r5 A1143 l1142.length n1145 l1142, b10 g1157 a1158, b8 g1454 t1451.1 t1451.2.1 t1451.2.2.1] w1474) := ⟨HS.out.front 4 (by simp)⟩
        obtain ⟨t1478, HA1479, H⟩ := bind_some H
        refine (chain_Add_1.calls t1451.1 t1451.2.1 t1451.2.2.1 (wrap64 (a1153 + 1)) t1472.1 l1142 t1472.2 a1148 a1149 a1150 a1151 a1158 g1155 g1138 g1140 A1143 l1142.length n1145 g1157 t1478 _ ⟨HS.out.begin⟩ HA1479).mono ?_
        rintro e_ w1480 ⟨rfl, hS⟩
        replace HS : Aside0 (Sep FF w [b9 g1155 g1138, b7 g1138 g1140 a1148 a1149 a1150 a1151, b6 g1140 A1143 l1142.length n1145 t1478.1, r5 A1143 l1142.length n1145 t1478.2, b10 g1157 a1158, b8 g1454 t1451.1 t1451.2.1 t1451.2.2.1] w1480) := ⟨HS.out.call hS⟩
        clear hS
        have hc1481 : w1480.cell? ⟨g1454, 2, none⟩ = some (.int .i64 t1451.2.2.1) := blk_cellv (HS.out.at5) 2 rfl
        go_wp2_with fail
        clear hc1481
        replace HS : Aside0 (Sep FF w [r5 A1143 l1142.length n1145 t1478.2, b9 g1155 g1138, b7 g1138 g1140 a1148 a1149 a1150 a1151, b6 g1140 A1143 l1142.length n1145 t1478.1, b10 g1157 a1158, b8 g1454 t1451.1 t1451.2.1 t1451.2.2.1] w1480) := ⟨HS.out.front 3 (by simp)⟩
        replace HS : Aside0 (Sep FF w [b6 g1140 A1143 l1142.length n1145 t1478.1, r5 A1143 l1142.length n1145 t1478.2, b9 g1155 g1138, b7 g1138 g1140 a1148 a1149 a1150 a1151, b10 g1157 a1158, b8 g1454 t1451.1 t1451.2.1 t1451.2.2.1] w1480) := ⟨HS.out.front 3 (by simp)⟩
        replace HS : Aside0 (Sep FF w [b7 g1138 g1140 a1148 a1149 a1150 a1151, b6 g1140 A1143 l1142.length n1145 t1478.1, r5 A1143 l1142.length n1145 t1478.2, b9 g1155 g1138, b10 g1157 a1158, b8 g1454 t1451.1 t1451.2.1 t1451.2.2.1] w1480) := ⟨HS.out.front 3 (by simp)⟩
        obtain ⟨t1482, HA1483, H⟩ := bind_some H
        refine (ground_Ground_SetReg.calls t1478.2 t1478.1 a1148 a1149 a1150 a1151 t1451.2.2.1 (wrap64 (t1472.1 + 1)) g1138 g1140 A1143 l1142.length n1145 t1482 _ ⟨HS.out.begin⟩ HA1483).mono ?_
        rintro e_ w1484 ⟨rfl, hS⟩
        replace HS : Aside0 (Sep FF w [b7 g1138 g1140 a1148 a1149 a1150 a1151, b6 g1140 A1143 l1142.length n1145 t1482.2.1, r5 A1143 l1142.length n1145 t1482.2.2, b9 g1155 g1138, b10 g1157 a1158, b8 g1454 t1451.1 t1451.2.1 t1451.2.2.1] w1484) := ⟨HS.out.call hS⟩
        clear hS
        replace HS : Aside0 (Sep FF w [b7 g1138 g1140 a1148 a1149 a1150 a1151, b6 g1140 A1143 l1142.length n1145 t1482.2.1, r5 A1143 l1142.length n1145 t1482.2.2, b9 g1155 g1138, b10 g1157 a1158] w1484) := ⟨HS.out.sub (.cons_cons _ (.cons_cons _ (.cons_cons _ (.cons_cons _ (.cons_cons _ (.cons _ .slnil))))))⟩
        go_wp2_with fail
        go_ret
        rw [← some_eq H]
        exact ⟨(by first | rfl | (simp [IntKind.wrap_u32]; done)), HS.out⟩
  · replace H := if_no c1464 H
    have c1464b0 : t1451.2.2.2 = false := by simpa using c1464
    have c1464b1 : (!t1451.2.2.2) = true := by rw [c1464b0]; rfl
    try rw [c1464b1]
    clear c1464
    go_wp2_with (first | ((with_reducible refine gate_dst (N := 9) rfl ?_); refine box_on ?hg (N := 9) ?hd (cs := #[.int .i64 0, .int .i64 0, .int .i64 0]) (t := 134) ?hr ?_; (case hd => rfl); (case hg => rfl); (case hr => first | (go_simp; done) | (go_simp; rfl)); intro g1454 hg w1455 hbox hb; replace HS : Aside0 (Sep FF w [b7 g1138 g1140 a1148 a1149 a1150 a1151, b6 g1140 A1143 l1142.length n1145 a1147, r5 A1143 l1142.length n1145 l1142, b9 g1155 g1138, b10 g1157 a1158, b8 g1454 0 0 0] w1455) := ⟨HS.out.box hg hbox hb⟩; clear hg hbox hb; have hc1457 : w1455.cell? ⟨g1454, 0, none⟩ = some (.int .i64 0) := blk_cellv (HS.out.at5) 0 rfl; have hz1458 : w1455.frozen? ⟨g1454, 0, none⟩ = false := blk_fz (HS.out.at5) 0; have hc1459 : w1455.cell? ⟨g1454, 1, none⟩ = some (.int .i64 0) := blk_cellv (HS.out.at5) 1 rfl; have hz1460 : w1455.frozen? ⟨g1454, 1, none⟩ = false := blk_fz (HS.out.at5) 1; have hc1461 : w1455.cell? ⟨g1454, 2, none⟩ = some (.int .i64 0) := blk_cellv (HS.out.at5) 2 rfl; have hz1462 : w1455.frozen? ⟨g1454, 2, none⟩ = false := blk_fz (HS.out.at5) 2) | ((with_reducible refine gate_store (t := 134) (p := 9) rfl ?_); refine store_event (w1 := (World.setCell (World.setCell (World.setCell w1455 ⟨g1454, 0, none⟩ (.int .i64 t1451.1)) ⟨g1454, 1, none⟩ (.int .i64 t1451.2.1)) ⟨g1454, 2, none⟩ (.int .i64 t1451.2.2.1))) rfl (t := 134) (p := 9) rfl rfl ?hr ?_; (case hr => first | (go_simp; done) | (go_simp; rfl)); intro w1463 hst; clear hc1457 hz1458 hc1459 hz1460 hc1461 hz1462; replace HS : Aside0 (Sep FF w [b7 g1138 g1140 a1148 a1149 a1150 a1151, b6 g1140 A1143 l1142.length n1145 a1147, r5 A1143 l1142.length n1145 l1142, b9 g1155 g1138, b10 g1157 a1158, b8 g1454 t1451.1 t1451.2.1 t1451.2.2.1] w1463) := ⟨by rw [hst]; exact HS.out.setAll (l1 := [b7 g1138 g1140 a1148 a1149 a1150 a1151, b6 g1140 A1143 l1142.length n1145 a1147, r5 A1143 l1142.length n1145 l1142, b9 g1155 g1138, b10 g1157 a1158]) (l2 := []) [.int .i64 t1451.1, .int .i64 t1451.2.1, .int .i64 t1451.2.2.1] rfl⟩; clear hst; replace HS : Aside0 (Sep FF w [b7 g1138 g1140 a1148 a1149 a1150 a1151, b6 g1140 A1143 l1142.length n1145 a1147, r5 A1143 l1142.length n1145 l1142, b9 g1155 g1138, b10 g1157 a1158] w1463) := ⟨HS.out.sub (.cons_cons _ (.cons_cons _ (.cons_cons _ (.cons_cons _ (.cons_cons _ (.cons _ .slnil))))))⟩))
    go_ret
    rw [← some_eq H]
    exact ⟨(by first | rfl | (simp [IntKind.wrap_u32]; done)), HS.out⟩
end Go.Proofs.Ytobeonkddamnoaa.C

/- Each function of the group RO does what its plain function says, and changes nothing that was there; proved by walking its code. No condition. -/
import Derived.Test.YtobeonkddamnoaaDoorQw
import Derived.Test.YtobeonkddamnoaaDoorMRO
namespace Go.Proofs.YtobeonkddamnoaaDoor.C
open Go.RowKit Go.Proofs.YtobeonkddamnoaaDoorW.PrintWords Go.Proofs.YtobeonkddamnoaaDoorW.PrintLast Go.Proofs.YtobeonkddamnoaaDoor.Q Go.Proofs.YtobeonkddamnoaaDoor.M
set_option linter.unusedVariables false
set_option linter.unusedSimpArgs false
def b1 (g : Nat) (x0 : Int) (x1 : Int) (x2 : Int) (x3 : Int) (x4 : Int) (x5 : Int) : Ob := blk g #[.int .u8 x0, .int .u8 x1, .int .u8 x2, .int .u8 x3, .int .u8 x4, .int .u8 x5] 5
def b2 (g : Nat) (x0 : Int) (x1 : Int) (x2 : Int) (x3 : Int) : Ob := blk g #[.int .i64 x0, .int .i64 x1, .int .i64 x2, .int .i64 x3] 30
def b3 (g : Nat) (x0 : Int) (x1 : Int) (x2 : Int) (x3 : Int) (x4 : Int) (x5 : Int) (x6 : Int) (x7 : Int) : Ob := blk g #[.int .i64 x0, .int .i64 x1, .int .i64 x2, .int .i64 x3, .int .i64 x4, .int .i64 x5, .int .i64 x6, .int .i64 x7] 97
def b4 (g : Nat) (x0 : Int) (x1 : Int) : Ob := blk g #[.int .i64 x0, .int .i64 x1] 3
def b5 (g : Nat) (x0 : Int) (x1 : Int) (x2 : Int) : Ob := blk g #[.int .i64 x0, .int .i64 x1, .int .i64 x2] 3
def r6 (A : Option Addr) (n c : Nat) (l : List Int) : Ob := row 33 (Value.int .u32) (.slice A n c) l
def b7 (g : Nat) (x0 : Option Addr) (x1 : Nat) (x2 : Nat) (x3 : Int) : Ob := blk g #[.slice x0 x1 x2, .int .u64 x3] 154
def b8 (g : Nat) (x0 : Nat) (x1 : Int) (x2 : Int) (x3 : Int) (x4 : Int) : Ob := blk g #[.pointer (some ⟨x0, 0, none⟩), .int .i64 x1, .int .i64 x2, .int .i64 x3, .int .i64 x4] 106
def b9 (g : Nat) (x0 : Int) (x1 : Int) (x2 : Int) (x3 : Int) (x4 : Int) (x5 : Int) (x6 : Int) : Ob := blk g #[.int .i64 x0, .int .i64 x1, .int .i64 x2, .int .i64 x3, .int .i64 x4, .int .i64 x5, .int .i64 x6] 32
def b10 (g : Nat) (x0 : Int) : Ob := blk g #[.int .u32 x0] 33
def b11 (g : Nat) (x0 : Int) (x1 : Int) (x2 : Int) (x3 : Int) (x4 : Int) : Ob := blk g #[.int .i64 x0, .int .i64 x1, .int .i64 x2, .int .i64 x3, .int .i64 x4] 108
def b12 (g : Nat) (x0 : Int) (x1 : Int) : Ob := blk g #[.int .u32 x0, .int .u32 x1] 33
def b13 (g : Nat) (x0 : Int) (x1 : Int) (x2 : Int) (x3 : Int) (x4 : Int) (x5 : Int) (x6 : Int) (x7 : Int) : Ob := blk g #[.int .i64 x0, .int .i64 x1, .int .i64 x2, .int .i64 x3, .int .i64 x4, .int .i64 x5, .int .i64 x6, .int .i64 x7] 3
def r14 (A : Option Addr) (n c : Nat) (l : List Int) : Ob := row 3 (Value.int .i64) (.slice A n c) l
def b15 (g : Nat) (x0 : Int) : Ob := blk g #[.int .i64 x0] 3
def r16 (A : Option Addr) (n c : Nat) (l : List Int) : Ob := row 5 (Value.int .u8) (.slice A n c) l
def r17 (A : Option Addr) (n c : Nat) (l : List Bool) : Ob := row 4 (Value.bool) (.slice A n c) l

set_option maxHeartbeats 30000000 in
set_option maxRecDepth 100000 in
theorem ratio_Clamp.calls (a50 : Int) (a51 : Int) (a52 : Int) (r : Int) (w : World)  (HGl0 : Aside0 (Gl 0 #[.int .i64 0, .int .i64 0, .int .i64 0, .int .i64 0, .int .i64 0] (fps []) w)) (HS : Aside0 (Sep (fps []) w [] w)) (H : Aside0 (ratio_Clamp.f a50 a51 a52 = some r)) :
    Calls Tryd.prog 157 #[.int .i64 a50, .int .i64 a51, .int .i64 a52] w fun e w' => e = .returned (.int .i64 r) ∧ Sep (fps []) w [] w' := by
  unfold ratio_Clamp.f at H
  go_enter Tryd.func157, Tryd.ntmps157
  by_cases c53 : a50 > a52
  · replace H := if_yes c53 H
    have c53b0 : decide (a52 < a50) = true := decide_eq_true c53
    clear c53
    go_wp2_with fail
    go_ret
    rw [← some_eq H]
    exact ⟨(by first | rfl | (simp [IntKind.wrap_u32]; done)), HS.out⟩
  · replace H := if_no c53 H
    have c53b0 : decide (a52 < a50) = false := decide_eq_false c53
    clear c53
    by_cases c54 : a50 < a51
    · replace H := if_yes c54 H
      have c54b0 : decide (a50 < a51) = true := decide_eq_true c54
      skip
      go_wp2_with fail
      clear c54
      go_ret
      rw [← some_eq H]
      exact ⟨(by first | rfl | (simp [IntKind.wrap_u32]; done)), HS.out⟩
    · replace H := if_no c54 H
      have c54b0 : decide (a50 < a51) = false := decide_eq_false c54
      skip
      go_wp2_with fail
      clear c54
      go_ret
      rw [← some_eq H]
      exact ⟨(by first | rfl | (simp [IntKind.wrap_u32]; done)), HS.out⟩

set_option maxHeartbeats 30000000 in
set_option maxRecDepth 100000 in
theorem plan_within.calls (a47 : Int) (a48 : Int) (a49 : Int) (r : Bool) (w : World)  (HGl0 : Aside0 (Gl 0 #[.int .i64 0, .int .i64 0, .int .i64 0, .int .i64 0, .int .i64 0] (fps []) w)) (HS : Aside0 (Sep (fps []) w [] w)) (H : Aside0 (plan_within.f a47 a48 a49 = some r)) :
    Calls Tryd.prog 147 #[.int .i64 a47, .int .i64 a48, .int .i64 a49] w fun e w' => e = .returned (.bool r) ∧ Sep (fps []) w [] w' := by
  unfold plan_within.f at H
  go_enter Tryd.func147, Tryd.ntmps147
  go_wp2_with fail
  obtain ⟨t55, HA56, H⟩ := bind_some H
  refine (ratio_Clamp.calls a47 a48 a49 t55 _ ⟨HGl0.out.pass (l := []) HS.out⟩ ⟨Sep.start _⟩ HA56).mono ?_
  rintro e_ w57 ⟨rfl, hS⟩
  replace HS : Aside0 (Sep (fps []) w [] w57) := ⟨HS.out.call hS⟩
  clear hS
  go_wp2_with fail
  go_ret
  rw [← some_eq H]
  exact ⟨(by first | rfl | (simp [IntKind.wrap_u32]; done)), HS.out⟩

set_option maxHeartbeats 30000000 in
set_option maxRecDepth 100000 in
theorem plan_Check.calls (a39 : Int) (a40 : Int) (a41 : Int) (a42 : Int) (r : Int) (w : World)  (HGl0 : Aside0 (Gl 0 #[.int .i64 0, .int .i64 0, .int .i64 0, .int .i64 0, .int .i64 0] (fps []) w)) (HS : Aside0 (Sep (fps []) w [] w)) (H : Aside0 (plan_Check.f a39 a40 a41 a42 = some r)) :
    Calls Tryd.prog 121 #[.agg #[.int .i64 a39, .int .i64 a40, .int .i64 a41, .int .i64 a42]] w fun e w' => e = .returned (.int .i64 r) ∧ Sep (fps []) w [] w' := by
  unfold plan_Check.f at H
  go_enter Tryd.func121, Tryd.ntmps121
  go_wp2_with (first | ((with_reducible refine gate_dst (N := 1) rfl ?_); refine box_on ?hg (N := 1) ?hd (cs := #[.int .i64 a39, .int .i64 a40, .int .i64 a41, .int .i64 a42]) (t := 30) ?hr ?_; (case hd => rfl); (case hg => rfl); (case hr => first | (go_simp; done) | (go_simp; rfl)); intro g43 hg w44 hbox hb; replace HS : Aside0 (Sep (fps []) w [b2 g43 a39 a40 a41 a42] w44) := ⟨HS.out.box hg hbox hb⟩; clear hg hbox hb; have hc46 : w44.cell? ⟨g43, 0, none⟩ = some (.int .i64 a39) := blk_cellv (HS.out.at0) 0 rfl))
  clear hc46
  obtain ⟨t58, HA59, H⟩ := bind_some H
  refine (plan_within.calls a39 1 1048576 t58 _ ⟨HGl0.out.pass (l := []) HS.out⟩ ⟨Sep.start _⟩ HA59).mono ?_
  rintro e_ w60 ⟨rfl, hS⟩
  replace HS : Aside0 (Sep (fps []) w [b2 g43 a39 a40 a41 a42] w60) := ⟨HS.out.call hS⟩
  clear hS
  by_cases c61 : t58 = true
  · replace H := if_yes c61 H
    have c61b0 : t58 = true := c61
    have c61b1 : (!t58) = false := by rw [c61b0]; rfl
    clear c61
    have hc62 : w60.cell? ⟨g43, 1, none⟩ = some (.int .i64 a40) := blk_cellv (HS.out.at0) 1 rfl
    go_wp2_with fail
    clear hc62
    obtain ⟨t63, HA64, H⟩ := bind_some H
    refine (plan_within.calls a40 16 256 t63 _ ⟨HGl0.out.pass (l := []) HS.out⟩ ⟨Sep.start _⟩ HA64).mono ?_
    rintro e_ w65 ⟨rfl, hS⟩
    replace HS : Aside0 (Sep (fps []) w [b2 g43 a39 a40 a41 a42] w65) := ⟨HS.out.call hS⟩
    clear hS
    by_cases c66 : t63 = true
    · replace H := if_yes c66 H
      have c66b0 : t63 = true := c66
      have c66b1 : (!t63) = false := by rw [c66b0]; rfl
      clear c66
      have hc67 : w65.cell? ⟨g43, 2, none⟩ = some (.int .i64 a41) := blk_cellv (HS.out.at0) 2 rfl
      go_wp2_with fail
      clear hc67
      obtain ⟨t68, HA69, H⟩ := bind_some H
      refine (plan_within.calls a41 1 4096 t68 _ ⟨HGl0.out.pass (l := []) HS.out⟩ ⟨Sep.start _⟩ HA69).mono ?_
      rintro e_ w70 ⟨rfl, hS⟩
      replace HS : Aside0 (Sep (fps []) w [b2 g43 a39 a40 a41 a42] w70) := ⟨HS.out.call hS⟩
      clear hS
      by_cases c71 : t68 = true
      · replace H := if_yes c71 H
        have c71b0 : t68 = true := c71
        have c71b1 : (!t68) = false := by rw [c71b0]; rfl
        clear c71
        have hc72 : w70.cell? ⟨g43, 3, none⟩ = some (.int .i64 a42) := blk_cellv (HS.out.at0) 3 rfl
        go_wp2_with fail
        clear hc72
        obtain ⟨t73, HA74, H⟩ := bind_some H
        refine (plan_within.calls a42 1 65536 t73 _ ⟨HGl0.out.pass (l := []) HS.out⟩ ⟨Sep.start _⟩ HA74).mono ?_
        rintro e_ w75 ⟨rfl, hS⟩
        replace HS : Aside0 (Sep (fps []) w [b2 g43 a39 a40 a41 a42] w75) := ⟨HS.out.call hS⟩
        clear hS
        by_cases c76 : t73 = true
        · replace H := if_yes c76 H
          have c76b0 : t73 = true := c76
          have c76b1 : (!t73) = false := by rw [c76b0]; rfl
          clear c76
          by_cases c79 : (wrap64 (a39 * a40)) ≤ 4194304
          · replace H := if_yes c79 H
            have c79b0 : decide ((wrap64 (a39 * a40)) ≤ 4194304) = true := decide_eq_true c79
            clear c79
            have hc77 : w75.cell? ⟨g43, 0, none⟩ = some (.int .i64 a39) := blk_cellv (HS.out.at0) 0 rfl
            have hc78 : w75.cell? ⟨g43, 1, none⟩ = some (.int .i64 a40) := blk_cellv (HS.out.at0) 1 rfl
            replace HS : Aside0 (Sep (fps []) w [] w75) := ⟨HS.out.sub (.cons _ .slnil)⟩
            go_wp2_with fail
            clear hc77 hc78
            go_ret
            rw [← some_eq H]
            exact ⟨(by first | rfl | (simp [IntKind.wrap_u32]; done)), HS.out⟩
          · replace H := if_no c79 H
            have c79b0 : decide ((wrap64 (a39 * a40)) ≤ 4194304) = false := decide_eq_false c79
            clear c79
            have hc77 : w75.cell? ⟨g43, 0, none⟩ = some (.int .i64 a39) := blk_cellv (HS.out.at0) 0 rfl
            have hc78 : w75.cell? ⟨g43, 1, none⟩ = some (.int .i64 a40) := blk_cellv (HS.out.at0) 1 rfl
            replace HS : Aside0 (Sep (fps []) w [] w75) := ⟨HS.out.sub (.cons _ .slnil)⟩
            go_wp2_with fail
            clear hc77 hc78
            go_ret
            rw [← some_eq H]
            exact ⟨(by first | rfl | (simp [IntKind.wrap_u32]; done)), HS.out⟩
        · replace H := if_no c76 H
          have c76b0 : t73 = false := by simpa using c76
          have c76b1 : (!t73) = true := by rw [c76b0]; rfl
          clear c76
          replace HS : Aside0 (Sep (fps []) w [] w75) := ⟨HS.out.sub (.cons _ .slnil)⟩
          go_wp2_with fail
          go_ret
          rw [← some_eq H]
          exact ⟨(by first | rfl | (simp [IntKind.wrap_u32]; done)), HS.out⟩
      · replace H := if_no c71 H
        have c71b0 : t68 = false := by simpa using c71
        have c71b1 : (!t68) = true := by rw [c71b0]; rfl
        clear c71
        replace HS : Aside0 (Sep (fps []) w [] w70) := ⟨HS.out.sub (.cons _ .slnil)⟩
        go_wp2_with fail
        go_ret
        rw [← some_eq H]
        exact ⟨(by first | rfl | (simp [IntKind.wrap_u32]; done)), HS.out⟩
    · replace H := if_no c66 H
      have c66b0 : t63 = false := by simpa using c66
      have c66b1 : (!t63) = true := by rw [c66b0]; rfl
      clear c66
      replace HS : Aside0 (Sep (fps []) w [] w65) := ⟨HS.out.sub (.cons _ .slnil)⟩
      go_wp2_with fail
      go_ret
      rw [← some_eq H]
      exact ⟨(by first | rfl | (simp [IntKind.wrap_u32]; done)), HS.out⟩
  · replace H := if_no c61 H
    have c61b0 : t58 = false := by simpa using c61
    have c61b1 : (!t58) = true := by rw [c61b0]; rfl
    clear c61
    replace HS : Aside0 (Sep (fps []) w [] w60) := ⟨HS.out.sub (.cons _ .slnil)⟩
    go_wp2_with fail
    go_ret
    rw [← some_eq H]
    exact ⟨(by first | rfl | (simp [IntKind.wrap_u32]; done)), HS.out⟩

set_option maxHeartbeats 30000000 in
set_option maxRecDepth 100000 in
theorem ratio_counts.calls (a112 : Int) (r : Int) (w : World)  (HGl0 : Aside0 (Gl 0 #[.int .i64 0, .int .i64 0, .int .i64 0, .int .i64 0, .int .i64 0] (fps []) w)) (HS : Aside0 (Sep (fps []) w [] w)) (H : Aside0 (ratio_counts.f a112 = some r)) :
    Calls Tryd.prog 148 #[.int .i64 a112] w fun e w' => e = .returned (.int .i64 r) ∧ Sep (fps []) w [] w' := by
  unfold ratio_counts.f at H
  go_enter Tryd.func148, Tryd.ntmps148
  go_wp2_with fail
  obtain ⟨t113, HA114, H⟩ := bind_some H
  refine (ratio_Clamp.calls a112 0 1125899906842624 t113 _ ⟨HGl0.out.pass (l := []) HS.out⟩ ⟨Sep.start _⟩ HA114).mono ?_
  rintro e_ w115 ⟨rfl, hS⟩
  replace HS : Aside0 (Sep (fps []) w [] w115) := ⟨HS.out.call hS⟩
  clear hS
  go_wp2_with fail
  go_ret
  rw [← some_eq H]
  exact ⟨(by first | rfl | (simp [IntKind.wrap_u32]; done)), HS.out⟩

set_option maxHeartbeats 30000000 in
set_option maxRecDepth 100000 in
theorem ratio_zero.calls (a111 : Int) (r : Bool) (w : World)  (HGl0 : Aside0 (Gl 0 #[.int .i64 0, .int .i64 0, .int .i64 0, .int .i64 0, .int .i64 0] (fps []) w)) (HS : Aside0 (Sep (fps []) w [] w)) (H : Aside0 (ratio_zero.f a111 = some r)) :
    Calls Tryd.prog 150 #[.int .i64 a111] w fun e w' => e = .returned (.bool r) ∧ Sep (fps []) w [] w' := by
  unfold ratio_zero.f at H
  go_enter Tryd.func150, Tryd.ntmps150
  go_wp2_with fail
  obtain ⟨t116, HA117, H⟩ := bind_some H
  refine (ratio_counts.calls a111 t116 _ ⟨HGl0.out.pass (l := []) HS.out⟩ ⟨Sep.start _⟩ HA117).mono ?_
  rintro e_ w118 ⟨rfl, hS⟩
  replace HS : Aside0 (Sep (fps []) w [] w118) := ⟨HS.out.call hS⟩
  clear hS
  go_wp2_with fail
  go_ret
  rw [← some_eq H]
  exact ⟨(by first | rfl | (simp [IntKind.wrap_u32]; done)), HS.out⟩

set_option maxHeartbeats 30000000 in
set_option maxRecDepth 100000 in
theorem slices_IndexFunc_int_int_F150.calls (k : Nat) (l97 : List Int) (A98 : Option Addr) (n99 : Nat) (r : Int) (w : World) (HR100 : Aside0 (Rd (Kd.int .i64) (fps []) w A98 l97.length l97)) (HGl0 : Aside0 (Gl 0 #[.int .i64 0, .int .i64 0, .int .i64 0, .int .i64 0, .int .i64 0] (fps []) w)) (HS : Aside0 (Sep (fps []) w [] w)) (H : Aside0 (slices_IndexFunc_int_int_F150.f k l97 = some r)) :
    Calls Tryd.prog 158 #[.slice A98 l97.length n99, .func (.func 150) #[] #[]] w fun e w' => e = .returned (.int .i64 r) ∧ Sep (fps []) w [] w' := by
  unfold slices_IndexFunc_int_int_F150.f at H
  go_enter Tryd.func158, Tryd.ntmps158
  go_wp2_with fail
  obtain ⟨o123, AL124, H⟩ := bind_some H
  go_loopg [8] k (fun kq v8 wc => ∃ (x127 : Int), v8 = .int .i64 x127 ∧ Aside0 (slices_IndexFunc_int_int_F150.lo0 kq l97 x127 = some o123) ∧ Aside0 (Sep (fps []) w [] wc))
  case atStart => exact ⟨(0), (by first | rfl | (simp [IntKind.wrap_u32]; done)), AL124, ⟨HS.out⟩⟩
  case round =>
    clear AL124 HS
    obtain ⟨x127, rfl, AL124, HS⟩ := hrel
    obtain ⟨w125, rfl⟩ : ∃ x : World, x = wr := ⟨_, rfl⟩
    cases gk with
    | zero => exact absurd AL124.out (by simp [slices_IndexFunc_int_int_F150.lo0])
    | succ k126 =>
      have AL0 := AL124.out
      rw [slices_IndexFunc_int_int_F150.lo0] at AL0
      clear AL124
      have AL124 := Aside0.mk AL0
      clear AL0
      by_cases c128 : x127 < (l97.length : Int)
      · replace AL124 := if_yes c128 AL124
        have c128b0 : decide (x127 < (l97.length : Int)) = true := decide_eq_true c128
        clear c128
        by_cases c129 : 0 ≤ x127
        · replace AL124 := if_yes c129 AL124
          have c129b0 : decide (0 ≤ x127) = true := decide_eq_true c129
          have c129p : (0 ≤ x127) = True := eq_true c129
          clear c129
          have ip130 : (x127 < (l97.length : Int)) = True := eq_true (of_decide_eq_true c128b0)
          obtain ⟨hx131a, hx131e, hx131⟩ := Kd.at_int (Rd.read (fun _ _ _ _ h => h) HR100.out HS.out.fr) x127 (of_decide_eq_true c129b0) (of_decide_eq_true c128b0); cases hx131e
          go_wp2_with fail
          clear hx131
          obtain ⟨t119, HA132, AL124⟩ := bind_some AL124
          refine (ratio_zero.calls (rd l97 x127) t119 _ ⟨HGl0.out.pass (l := []) HS.out⟩ ⟨Sep.start _⟩ HA132).mono ?_
          rintro e_ w133 ⟨rfl, hS⟩
          replace HS : Aside0 (Sep (fps []) w [] w133) := ⟨HS.out.call hS⟩
          clear hS
          by_cases c134 : t119 = true
          · replace AL124 := if_yes c134 AL124
            have c134b0 : t119 = true := c134
            have c134b1 : (!t119) = false := by rw [c134b0]; rfl
            clear c134
            go_wp2_with fail
            have ho := some_eq AL124
            subst ho
            have H := lp_ret H
            go_ret
            rw [← some_eq H]
            exact ⟨(by first | rfl | (simp [IntKind.wrap_u32]; done)), HS.out⟩
          · replace AL124 := if_no c134 AL124
            have c134b0 : t119 = false := by simpa using c134
            have c134b1 : (!t119) = true := by rw [c134b0]; rfl
            clear c134
            go_wp2_with fail
            go_roundg k126
            case measure => exact Nat.lt_succ_self _
            case rel => exact ⟨(wrap64 (x127 + 1)), (by first | rfl | (simp [IntKind.wrap_u32]; done)), Aside0.mk AL124.out, ⟨HS.out⟩⟩
        · replace AL124 := if_no c129 AL124
          have c129b0 : decide (0 ≤ x127) = false := decide_eq_false c129
          clear c129
          exact (none_no AL124).elim
      · replace AL124 := if_no c128 AL124
        have c128b0 : decide (x127 < (l97.length : Int)) = false := decide_eq_false c128
        clear c128
        have ho := some_eq AL124
        subst ho
        clear AL124
        have H := lp_out H
        go_wp2_with fail
        go_ret
        rw [← some_eq H]
        exact ⟨(by first | rfl | (simp [IntKind.wrap_u32]; done)), HS.out⟩

set_option maxHeartbeats 30000000 in
set_option maxRecDepth 100000 in
theorem slices_ContainsFunc_int_int_F150.calls (k : Nat) (l93 : List Int) (A94 : Option Addr) (n95 : Nat) (r : Bool) (w : World) (HR96 : Aside0 (Rd (Kd.int .i64) (fps []) w A94 l93.length l93)) (HGl0 : Aside0 (Gl 0 #[.int .i64 0, .int .i64 0, .int .i64 0, .int .i64 0, .int .i64 0] (fps []) w)) (HS : Aside0 (Sep (fps []) w [] w)) (H : Aside0 (slices_ContainsFunc_int_int_F150.f k l93 = some r)) :
    Calls Tryd.prog 149 #[.slice A94 l93.length n95, .func (.func 150) #[] #[]] w fun e w' => e = .returned (.bool r) ∧ Sep (fps []) w [] w' := by
  unfold slices_ContainsFunc_int_int_F150.f at H
  go_enter Tryd.func149, Tryd.ntmps149
  go_wp2_with fail
  obtain ⟨t136, HA137, H⟩ := bind_some H
  refine (slices_IndexFunc_int_int_F150.calls _ l93 A94 n95 t136 _ ⟨Rd.pass (l := []) (by decide) (fun _ _ _ _ h => h) HR96.out HS.out⟩ ⟨HGl0.out.pass (l := []) HS.out⟩ ⟨Sep.start _⟩ HA137).mono ?_
  rintro e_ w138 ⟨rfl, hS⟩
  replace HS : Aside0 (Sep (fps []) w [] w138) := ⟨HS.out.call hS⟩
  clear hS
  go_wp2_with fail
  go_ret
  rw [← some_eq H]
  exact ⟨(by first | rfl | (simp [IntKind.wrap_u32]; done)), HS.out⟩

set_option maxHeartbeats 30000000 in
set_option maxRecDepth 100000 in
theorem ratio_Mul.calls (k : Nat) (l89 : List Int) (A90 : Option Addr) (n91 : Nat) (r : Int) (w : World) (HR92 : Aside0 (Rd (Kd.int .i64) (fps []) w A90 l89.length l89)) (HGl0 : Aside0 (Gl 0 #[.int .i64 0, .int .i64 0, .int .i64 0, .int .i64 0, .int .i64 0] (fps []) w)) (HS : Aside0 (Sep (fps []) w [] w)) (H : Aside0 (ratio_Mul.f k l89 = some r)) :
    Calls Tryd.prog 123 #[.slice A90 l89.length n91] w fun e w' => e = .returned (.int .i64 r) ∧ Sep (fps []) w [] w' := by
  unfold ratio_Mul.f at H
  go_enter Tryd.func123, Tryd.ntmps123
  go_wp2_with fail
  obtain ⟨t139, HA140, H⟩ := bind_some H
  refine (slices_ContainsFunc_int_int_F150.calls _ l89 A90 n91 t139 _ ⟨Rd.pass (l := []) (by decide) (fun _ _ _ _ h => h) HR92.out HS.out⟩ ⟨HGl0.out.pass (l := []) HS.out⟩ ⟨Sep.start _⟩ HA140).mono ?_
  rintro e_ w141 ⟨rfl, hS⟩
  replace HS : Aside0 (Sep (fps []) w [] w141) := ⟨HS.out.call hS⟩
  clear hS
  by_cases c142 : t139 = true
  · replace H := if_yes c142 H
    have c142b0 : t139 = true := c142
    have c142b1 : (!t139) = false := by rw [c142b0]; rfl
    clear c142
    go_wp2_with fail
    go_ret
    rw [← some_eq H]
    exact ⟨(by first | rfl | (simp [IntKind.wrap_u32]; done)), HS.out⟩
  · replace H := if_no c142 H
    have c142b0 : t139 = false := by simpa using c142
    have c142b1 : (!t139) = true := by rw [c142b0]; rfl
    clear c142
    go_wp2_with fail
    obtain ⟨o144, AL145, H⟩ := bind_some H
    go_loopg [3, 11] k (fun kq v3 v11 wc => ∃ (x148 : Int) (x149 : Int), v3 = .int .i64 x148 ∧ v11 = .int .i64 x149 ∧ Aside0 (ratio_Mul.lo0 kq l89 x148 x149 = some o144) ∧ Aside0 (Sep (fps []) w [] wc))
    case atStart => exact ⟨(1), (0), (by first | rfl | (simp [IntKind.wrap_u32]; done)), (by first | rfl | (simp [IntKind.wrap_u32]; done)), AL145, ⟨HS.out⟩⟩
    case round =>
      clear AL145 HS
      obtain ⟨x148, x149, rfl, rfl, AL145, HS⟩ := hrel
      obtain ⟨w146, rfl⟩ : ∃ x : World, x = wr := ⟨_, rfl⟩
      cases gk with
      | zero => exact absurd AL145.out (by simp [ratio_Mul.lo0])
      | succ k147 =>
        have AL0 := AL145.out
        rw [ratio_Mul.lo0] at AL0
        clear AL145
        have AL145 := Aside0.mk AL0
        clear AL0
        by_cases c150 : x149 < (l89.length : Int)
        · replace AL145 := if_yes c150 AL145
          have c150b0 : decide (x149 < (l89.length : Int)) = true := decide_eq_true c150
          clear c150
          by_cases c151 : 0 ≤ x149
          · replace AL145 := if_yes c151 AL145
            have c151b0 : decide (0 ≤ x149) = true := decide_eq_true c151
            have c151p : (0 ≤ x149) = True := eq_true c151
            clear c151
            have ip152 : (x149 < (l89.length : Int)) = True := eq_true (of_decide_eq_true c150b0)
            obtain ⟨hx153a, hx153e, hx153⟩ := Kd.at_int (Rd.read (fun _ _ _ _ h => h) HR92.out HS.out.fr) x149 (of_decide_eq_true c151b0) (of_decide_eq_true c150b0); cases hx153e
            go_wp2_with fail
            clear hx153
            obtain ⟨t154, HA155, AL145⟩ := bind_some AL145
            refine (ratio_counts.calls (rd l89 x149) t154 _ ⟨HGl0.out.pass (l := []) HS.out⟩ ⟨Sep.start _⟩ HA155).mono ?_
            rintro e_ w156 ⟨rfl, hS⟩
            replace HS : Aside0 (Sep (fps []) w [] w156) := ⟨HS.out.call hS⟩
            clear hS
            by_cases c157 : t154 = 0
            · replace AL145 := if_yes c157 AL145
              have c157b0 : (t154 == 0) = true := beq_iff_eq.mpr c157
              have c157b1 : (t154 != 0) = false := bne_eq_false_iff_eq.mpr c157
              exact (none_no AL145).elim
            · replace AL145 := if_no c157 AL145
              have c157b0 : (t154 == 0) = false := beq_eq_false_iff_ne.mpr c157
              have c157b1 : (t154 != 0) = true := bne_iff_ne.mpr c157
              by_cases c158 : x148 ≤ (wrap64 (Int.tdiv (1125899906842624 : Int) t154))
              · replace AL145 := if_yes c158 AL145
                have c158b0 : decide (x148 ≤ (wrap64 (Int.tdiv (1125899906842624 : Int) t154))) = true := decide_eq_true c158
                clear c158
                skip
                go_wp2_with fail
                clear c157
                go_roundg k147
                case measure => exact Nat.lt_succ_self _
                case rel => exact ⟨(wrap64 (x148 * t154)), (wrap64 (x149 + 1)), (by first | rfl | (simp [IntKind.wrap_u32]; done)), (by first | rfl | (simp [IntKind.wrap_u32]; done)), Aside0.mk AL145.out, ⟨HS.out⟩⟩
              · replace AL145 := if_no c158 AL145
                have c158b0 : decide (x148 ≤ (wrap64 (Int.tdiv (1125899906842624 : Int) t154))) = false := decide_eq_false c158
                clear c158
                skip
                go_wp2_with fail
                clear c157
                go_roundg k147
                case measure => exact Nat.lt_succ_self _
                case rel => exact ⟨(1125899906842624), (wrap64 (x149 + 1)), (by first | rfl | (simp [IntKind.wrap_u32]; done)), (by first | rfl | (simp [IntKind.wrap_u32]; done)), Aside0.mk AL145.out, ⟨HS.out⟩⟩
          · replace AL145 := if_no c151 AL145
            have c151b0 : decide (0 ≤ x149) = false := decide_eq_false c151
            clear c151
            exact (none_no AL145).elim
        · replace AL145 := if_no c150 AL145
          have c150b0 : decide (x149 < (l89.length : Int)) = false := decide_eq_false c150
          clear c150
          have ho := some_eq AL145
          subst ho
          clear AL145
          go_wp2_with fail
          go_ret
          rw [← some_eq H]
          exact ⟨(by first | rfl | (simp [IntKind.wrap_u32]; done)), HS.out⟩

set_option maxHeartbeats 30000000 in
set_option maxRecDepth 100000 in
theorem ratio_Add.calls (k : Nat) (l166 : List Int) (A167 : Option Addr) (n168 : Nat) (r : Int) (w : World) (HR169 : Aside0 (Rd (Kd.int .i64) (fps []) w A167 l166.length l166)) (HGl0 : Aside0 (Gl 0 #[.int .i64 0, .int .i64 0, .int .i64 0, .int .i64 0, .int .i64 0] (fps []) w)) (HS : Aside0 (Sep (fps []) w [] w)) (H : Aside0 (ratio_Add.f k l166 = some r)) :
    Calls Tryd.prog 122 #[.slice A167 l166.length n168] w fun e w' => e = .returned (.int .i64 r) ∧ Sep (fps []) w [] w' := by
  unfold ratio_Add.f at H
  go_enter Tryd.func122, Tryd.ntmps122
  go_wp2_with fail
  obtain ⟨o171, AL172, H⟩ := bind_some H
  go_loopg [3, 8] k (fun kq v3 v8 wc => ∃ (x175 : Int) (x176 : Int), v3 = .int .i64 x175 ∧ v8 = .int .i64 x176 ∧ Aside0 (ratio_Add.lo0 kq l166 x175 x176 = some o171) ∧ Aside0 (Sep (fps []) w [] wc))
  case atStart => exact ⟨(0), (0), (by first | rfl | (simp [IntKind.wrap_u32]; done)), (by first | rfl | (simp [IntKind.wrap_u32]; done)), AL172, ⟨HS.out⟩⟩
  case round =>
    clear AL172 HS
    obtain ⟨x175, x176, rfl, rfl, AL172, HS⟩ := hrel
    obtain ⟨w173, rfl⟩ : ∃ x : World, x = wr := ⟨_, rfl⟩
    cases gk with
    | zero => exact absurd AL172.out (by simp [ratio_Add.lo0])
    | succ k174 =>
      have AL0 := AL172.out
      rw [ratio_Add.lo0] at AL0
      clear AL172
      have AL172 := Aside0.mk AL0
      clear AL0
      by_cases c177 : x176 < (l166.length : Int)
      · replace AL172 := if_yes c177 AL172
        have c177b0 : decide (x176 < (l166.length : Int)) = true := decide_eq_true c177
        clear c177
        by_cases c178 : 0 ≤ x176
        · replace AL172 := if_yes c178 AL172
          have c178b0 : decide (0 ≤ x176) = true := decide_eq_true c178
          have c178p : (0 ≤ x176) = True := eq_true c178
          clear c178
          have ip179 : (x176 < (l166.length : Int)) = True := eq_true (of_decide_eq_true c177b0)
          obtain ⟨hx180a, hx180e, hx180⟩ := Kd.at_int (Rd.read (fun _ _ _ _ h => h) HR169.out HS.out.fr) x176 (of_decide_eq_true c178b0) (of_decide_eq_true c177b0); cases hx180e
          go_wp2_with fail
          clear hx180
          obtain ⟨t181, HA182, AL172⟩ := bind_some AL172
          refine (ratio_counts.calls (rd l166 x176) t181 _ ⟨HGl0.out.pass (l := []) HS.out⟩ ⟨Sep.start _⟩ HA182).mono ?_
          rintro e_ w183 ⟨rfl, hS⟩
          replace HS : Aside0 (Sep (fps []) w [] w183) := ⟨HS.out.call hS⟩
          clear hS
          by_cases c184 : 1125899906842624 < (wrap64 (x175 + t181))
          · replace AL172 := if_yes c184 AL172
            have c184b0 : decide (1125899906842624 < (wrap64 (x175 + t181))) = true := decide_eq_true c184
            skip
            go_wp2_with fail
            clear c184
            go_roundg k174
            case measure => exact Nat.lt_succ_self _
            case rel => exact ⟨(1125899906842624), (wrap64 (x176 + 1)), (by first | rfl | (simp [IntKind.wrap_u32]; done)), (by first | rfl | (simp [IntKind.wrap_u32]; done)), Aside0.mk AL172.out, ⟨HS.out⟩⟩
          · replace AL172 := if_no c184 AL172
            have c184b0 : decide (1125899906842624 < (wrap64 (x175 + t181))) = false := decide_eq_false c184
            skip
            go_wp2_with fail
            clear c184
            go_roundg k174
            case measure => exact Nat.lt_succ_self _
            case rel => exact ⟨(wrap64 (x175 + t181)), (wrap64 (x176 + 1)), (by first | rfl | (simp [IntKind.wrap_u32]; done)), (by first | rfl | (simp [IntKind.wrap_u32]; done)), Aside0.mk AL172.out, ⟨HS.out⟩⟩
        · replace AL172 := if_no c178 AL172
          have c178b0 : decide (0 ≤ x176) = false := decide_eq_false c178
          clear c178
          exact (none_no AL172).elim
      · replace AL172 := if_no c177 AL172
        have c177b0 : decide (x176 < (l166.length : Int)) = false := decide_eq_false c177
        clear c177
        have ho := some_eq AL172
        subst ho
        clear AL172
        go_wp2_with fail
        go_ret
        rw [← some_eq H]
        exact ⟨(by first | rfl | (simp [IntKind.wrap_u32]; done)), HS.out⟩

set_option maxHeartbeats 30000000 in
set_option maxRecDepth 100000 in
theorem ratio_by.calls (a395 : Int) (r : Int) (w : World)  (HGl0 : Aside0 (Gl 0 #[.int .i64 0, .int .i64 0, .int .i64 0, .int .i64 0, .int .i64 0] (fps []) w)) (HS : Aside0 (Sep (fps []) w [] w)) (H : Aside0 (ratio_by.f a395 = some r)) :
    Calls Tryd.prog 151 #[.int .i64 a395] w fun e w' => e = .returned (.int .i64 r) ∧ Sep (fps []) w [] w' := by
  unfold ratio_by.f at H
  go_enter Tryd.func151, Tryd.ntmps151
  go_wp2_with fail
  obtain ⟨t396, HA397, H⟩ := bind_some H
  refine (ratio_counts.calls a395 t396 _ ⟨HGl0.out.pass (l := []) HS.out⟩ ⟨Sep.start _⟩ HA397).mono ?_
  rintro e_ w398 ⟨rfl, hS⟩
  replace HS : Aside0 (Sep (fps []) w [] w398) := ⟨HS.out.call hS⟩
  clear hS
  by_cases c399 : t396 < 1
  · replace H := if_yes c399 H
    have c399b0 : decide (t396 < 1) = true := decide_eq_true c399
    skip
    go_wp2_with fail
    clear c399
    go_ret
    rw [← some_eq H]
    exact ⟨(by first | rfl | (simp [IntKind.wrap_u32]; done)), HS.out⟩
  · replace H := if_no c399 H
    have c399b0 : decide (t396 < 1) = false := decide_eq_false c399
    skip
    go_wp2_with fail
    clear c399
    go_ret
    rw [← some_eq H]
    exact ⟨(by first | rfl | (simp [IntKind.wrap_u32]; done)), HS.out⟩

set_option maxHeartbeats 30000000 in
set_option maxRecDepth 100000 in
theorem ratio_Up.calls (a390 : Int) (a391 : Int) (r : Int) (w : World)  (HGl0 : Aside0 (Gl 0 #[.int .i64 0, .int .i64 0, .int .i64 0, .int .i64 0, .int .i64 0] (fps []) w)) (HS : Aside0 (Sep (fps []) w [] w)) (H : Aside0 (ratio_Up.f a390 a391 = some r)) :
    Calls Tryd.prog 124 #[.int .i64 a390, .int .i64 a391] w fun e w' => e = .returned (.int .i64 r) ∧ Sep (fps []) w [] w' := by
  unfold ratio_Up.f at H
  go_enter Tryd.func124, Tryd.ntmps124
  go_wp2_with fail
  obtain ⟨t392, HA393, H⟩ := bind_some H
  refine (ratio_counts.calls a390 t392 _ ⟨HGl0.out.pass (l := []) HS.out⟩ ⟨Sep.start _⟩ HA393).mono ?_
  rintro e_ w394 ⟨rfl, hS⟩
  replace HS : Aside0 (Sep (fps []) w [] w394) := ⟨HS.out.call hS⟩
  clear hS
  go_wp2_with fail
  obtain ⟨t400, HA401, H⟩ := bind_some H
  refine (ratio_by.calls a391 t400 _ ⟨HGl0.out.pass (l := []) HS.out⟩ ⟨Sep.start _⟩ HA401).mono ?_
  rintro e_ w402 ⟨rfl, hS⟩
  replace HS : Aside0 (Sep (fps []) w [] w402) := ⟨HS.out.call hS⟩
  clear hS
  go_wp2_with fail
  obtain ⟨t403, HA404, H⟩ := bind_some H
  refine (ratio_by.calls a391 t403 _ ⟨HGl0.out.pass (l := []) HS.out⟩ ⟨Sep.start _⟩ HA404).mono ?_
  rintro e_ w405 ⟨rfl, hS⟩
  replace HS : Aside0 (Sep (fps []) w [] w405) := ⟨HS.out.call hS⟩
  clear hS
  by_cases c406 : t403 = 0
  · replace H := if_yes c406 H
    have c406b0 : (t403 == 0) = true := beq_iff_eq.mpr c406
    have c406b1 : (t403 != 0) = false := bne_eq_false_iff_eq.mpr c406
    exact (none_no H).elim
  · replace H := if_no c406 H
    have c406b0 : (t403 == 0) = false := beq_eq_false_iff_ne.mpr c406
    have c406b1 : (t403 != 0) = true := bne_iff_ne.mpr c406
    skip
    go_wp2_with fail
    clear c406
    go_ret
    rw [← some_eq H]
    exact ⟨(by first | rfl | (simp [IntKind.wrap_u32]; done)), HS.out⟩

set_option maxHeartbeats 30000000 in
set_option maxRecDepth 100000 in
theorem plan_Of.calls (k : Nat) (a25 : Int) (a26 : Int) (a27 : Int) (a28 : Int) (r : Int × Int × Int × Int × Int × Int × Int × Int × Int) (w : World)  (HGl0 : Aside0 (Gl 0 #[.int .i64 0, .int .i64 0, .int .i64 0, .int .i64 0, .int .i64 0] (fps []) w)) (HS : Aside0 (Sep (fps []) w [] w)) (H : Aside0 (plan_Of.f k a25 a26 a27 a28 = some r)) :
    Calls Tryd.prog 65 #[.agg #[.int .i64 a25, .int .i64 a26, .int .i64 a27, .int .i64 a28]] w fun e w' => e = .returned (.tuple #[.agg #[.int .i64 r.1, .int .i64 r.2.1, .int .i64 r.2.2.1, .int .i64 r.2.2.2.1, .int .i64 r.2.2.2.2.1, .int .i64 r.2.2.2.2.2.1, .int .i64 r.2.2.2.2.2.2.1, .int .i64 r.2.2.2.2.2.2.2.1], .int .i64 r.2.2.2.2.2.2.2.2]) ∧ Sep (fps []) w [] w' := by
  unfold plan_Of.f at H
  go_enter Tryd.func65, Tryd.ntmps65
  go_wp2_with (first | ((with_reducible refine gate_dst (N := 1) rfl ?_); refine box_on ?hg (N := 1) ?hd (cs := #[.int .i64 a25, .int .i64 a26, .int .i64 a27, .int .i64 a28]) (t := 30) ?hr ?_; (case hd => rfl); (case hg => rfl); (case hr => first | (go_simp; done) | (go_simp; rfl)); intro g29 hg w30 hbox hb; replace HS : Aside0 (Sep (fps []) w [b2 g29 a25 a26 a27 a28] w30) := ⟨HS.out.box hg hbox hb⟩; clear hg hbox hb) | ((with_reducible refine gate_dst (N := 2) rfl ?_); refine box_on ?hg (N := 2) ?hd (cs := #[.int .i64 0, .int .i64 0, .int .i64 0, .int .i64 0, .int .i64 0, .int .i64 0, .int .i64 0, .int .i64 0]) (t := 97) ?hr ?_; (case hd => rfl); (case hg => rfl); (case hr => first | (go_simp; done) | (go_simp; rfl)); intro g32 hg w33 hbox hb; replace HS : Aside0 (Sep (fps []) w [b2 g29 a25 a26 a27 a28, b3 g32 0 0 0 0 0 0 0 0] w33) := ⟨HS.out.box hg hbox hb⟩; clear hg hbox hb; have hc35 : w33.cell? ⟨g29, 0, none⟩ = some (.int .i64 a25) := blk_cellv (HS.out.at0) 0 rfl; have hc36 : w33.cell? ⟨g29, 1, none⟩ = some (.int .i64 a26) := blk_cellv (HS.out.at0) 1 rfl; have hc37 : w33.cell? ⟨g29, 2, none⟩ = some (.int .i64 a27) := blk_cellv (HS.out.at0) 2 rfl; have hc38 : w33.cell? ⟨g29, 3, none⟩ = some (.int .i64 a28) := blk_cellv (HS.out.at0) 3 rfl))
  clear hc35 hc36 hc37 hc38
  obtain ⟨t80, HA81, H⟩ := bind_some H
  refine (plan_Check.calls a25 a26 a27 a28 t80 _ ⟨HGl0.out.pass (l := []) HS.out⟩ ⟨Sep.start _⟩ HA81).mono ?_
  rintro e_ w82 ⟨rfl, hS⟩
  replace HS : Aside0 (Sep (fps []) w [b2 g29 a25 a26 a27 a28, b3 g32 0 0 0 0 0 0 0 0] w82) := ⟨HS.out.call hS⟩
  clear hS
  by_cases c83 : t80 = 0
  · replace H := if_yes c83 H
    have c83b0 : (t80 == 0) = true := beq_iff_eq.mpr c83
    have c83b1 : (t80 != 0) = false := bne_eq_false_iff_eq.mpr c83
    clear c83
    go_wp2_with fail
    obtain ⟨t160, HA161, H⟩ := bind_some H
    obtain ⟨t186, HA187, H⟩ := bind_some H
    go_cut [5] (fun v5 wc => ∃ (g86 : Nat) (g163 : Nat) (g189 : Nat), v5 = .pointer (some ⟨g189, 0, none⟩) ∧ Aside0 (Sep (fps []) w [b2 g29 a25 a26 a27 a28, b3 g32 0 0 0 0 0 0 0 0, b4 g86 a25 a26, b5 g163 24 a27 t160, b3 g189 t186 (wrap64 (a26 - 8)) 0 0 0 0 0 0] wc))
    case first =>
      go_wp2_with fail
      refine start_ (n := 16) (S := (fun w' => w'.cell? ⟨g29, 2, none⟩ = some (.int .i64 a27) ∧ w'.cell? ⟨g29, 0, none⟩ = some (.int .i64 a25) ∧ w'.cell? ⟨g29, 1, none⟩ = some (.int .i64 a26))) (ds := []) #[false, false, false, false, false, false, false, false, false, false, false, false, false, false, false, false] (by kernel_rfl) rfl rfl (⟨blk_cellv ((HS.out.drew).at0) 2 rfl, blk_cellv ((HS.out.drew).at0) 0 rfl, blk_cellv ((HS.out.drew).at0) 1 rfl⟩) (fun hHeld => ?_)
      have HS_ := Aside0.mk HS.out.drew
      clear HS
      generalize World.drew _ = w211 at HS_ hHeld ⊢
      have HS := HS_
      clear HS_
      refine pure_ (i := 0) (N := some 12) (v := ?_) (a' := ?_) #[true, false, false, false, false, false, false, false, false, false, false, false, false, false, false, false] rfl rfl (by kernel_rfl) (fun _ _ _ h => h) (Or.inl ⟨by rfl, ?_⟩) ?_ ?_
      rotate_left
      · intro w'
        go_simp
        with_reducible rfl
      rotate_left
      · simp only [Act.put, List.setIfInBounds_toArray, List.set_cons_zero, List.set_cons_succ, i64_w, i32_w]
        rfl
      refine pure_ (i := 2) (N := some 14) (v := ?_) (a' := ?_) #[true, false, true, false, false, false, false, false, false, false, false, false, false, false, false, false] rfl rfl (by kernel_rfl) (fun _ _ _ h => h) (Or.inl ⟨by rfl, ?_⟩) ?_ ?_
      rotate_left
      · intro w'
        go_simp
        with_reducible rfl
      rotate_left
      · simp only [Act.put, List.setIfInBounds_toArray, List.set_cons_zero, List.set_cons_succ, i64_w, i32_w]
        rfl
      refine pure_ (i := 4) (N := some 16) (v := ?_) (a' := ?_) #[true, false, true, false, true, false, false, false, false, false, false, false, false, false, false, false] rfl rfl (by kernel_rfl) (fun _ _ _ h => h) (Or.inl ⟨by rfl, ?_⟩) ?_ ?_
      rotate_left
      · intro w'
        go_simp
        with_reducible rfl
      rotate_left
      · simp only [Act.put, List.setIfInBounds_toArray, List.set_cons_zero, List.set_cons_succ, i64_w, i32_w]
        rfl
      refine pure_ (i := 10) (N := some 22) (v := ?_) (a' := ?_) #[true, false, true, false, true, false, false, false, false, false, true, false, false, false, false, false] rfl rfl (by kernel_rfl) (fun _ _ _ h => h) (Or.inl ⟨by rfl, ?_⟩) ?_ ?_
      rotate_left
      · intro w'
        go_simp
        with_reducible rfl
      rotate_left
      · simp only [Act.put, List.setIfInBounds_toArray, List.set_cons_zero, List.set_cons_succ, i64_w, i32_w]
        rfl
      refine take_ (i := 1) (N := some 13) (v := ?_) (a' := ?_) #[true, true, true, false, true, false, false, false, false, false, true, false, false, false, false, false] rfl rfl (by kernel_rfl) (fun _ _ _ h => h) (Or.inl ⟨by rfl, ?_⟩) hHeld ?_ ?_
      rotate_left
      · rintro w' hS'
        obtain ⟨s0, s1, s2⟩ := hS'
        go_simp
        with_reducible rfl
      rotate_left
      · simp only [Act.put, List.setIfInBounds_toArray, List.set_cons_zero, List.set_cons_succ, i64_w, i32_w]
        rfl
      refine take_ (i := 3) (N := some 15) (v := ?_) (a' := ?_) #[true, true, true, true, true, false, false, false, false, false, true, false, false, false, false, false] rfl rfl (by kernel_rfl) (fun _ _ _ h => h) (Or.inl ⟨by rfl, ?_⟩) hHeld ?_ ?_
      rotate_left
      · rintro w' hS'
        obtain ⟨s0, s1, s2⟩ := hS'
        go_simp
        with_reducible rfl
      rotate_left
      · simp only [Act.put, List.setIfInBounds_toArray, List.set_cons_zero, List.set_cons_succ, i64_w, i32_w]
        rfl
      refine take_ (i := 5) (N := some 17) (v := ?_) (a' := ?_) #[true, true, true, true, true, true, false, false, false, false, true, false, false, false, false, false] rfl rfl (by kernel_rfl) (fun _ _ _ h => h) (Or.inl ⟨by rfl, ?_⟩) hHeld ?_ ?_
      rotate_left
      · rintro w' hS'
        obtain ⟨s0, s1, s2⟩ := hS'
        go_simp
        with_reducible rfl
      rotate_left
      · simp only [Act.put, List.setIfInBounds_toArray, List.set_cons_zero, List.set_cons_succ, i64_w, i32_w]
        rfl
      refine take_ (i := 11) (N := some 23) (v := ?_) (a' := ?_) #[true, true, true, true, true, true, false, false, false, false, true, true, false, false, false, false] rfl rfl (by kernel_rfl) (fun _ _ _ h => h) (Or.inl ⟨by rfl, ?_⟩) hHeld ?_ ?_
      rotate_left
      · rintro w' hS'
        obtain ⟨s0, s1, s2⟩ := hS'
        go_simp
        with_reducible rfl
      rotate_left
      · simp only [Act.put, List.setIfInBounds_toArray, List.set_cons_zero, List.set_cons_succ, i64_w, i32_w]
        rfl
      refine pure_ (i := 12) (N := some 24) (v := ?_) (a' := ?_) #[true, true, true, true, true, true, false, false, false, false, true, true, true, false, false, false] rfl rfl (by kernel_rfl) (fun _ _ _ h => h) (Or.inl ⟨by rfl, ?_⟩) ?_ ?_
      rotate_left
      · intro w'
        go_simp
        with_reducible rfl
      rotate_left
      · simp only [Act.put, List.setIfInBounds_toArray, List.set_cons_zero, List.set_cons_succ, i64_w, i32_w]
        rfl
      refine two_ (i := 6) (j := 14) (Ni := some 18) (Nj := some 5) #[true, true, true, true, true, true, true, false, false, false, true, true, true, false, false, false] #[true, true, true, true, true, true, false, false, false, false, true, true, true, false, true, false] rfl rfl rfl rfl (by kernel_rfl) (by decide) (by decide) (fun K hK => ?_) (fun K hK => ?_)
      · refine slice_step (n := 2) (by rfl) (N := 18) rfl (cs := #[.int .i64 a25, .int .i64 a26]) (t := 3) ?hr ?_
        case hr => first | (go_simp; done) | (go_simp; rfl)
        intro g212 hg w213 hbox hb
        replace HS : Aside0 (Sep (fps []) w [b2 g29 a25 a26 a27 a28, b3 g32 0 0 0 0 0 0 0 0, b4 g212 a25 a26] w213) := ⟨HS.out.box hg hbox hb⟩
        clear hg hbox hb
        refine hK.out _ _ (⟨blk_cellv (HS.out.at0) 2 rfl, blk_cellv (HS.out.at0) 0 rfl, blk_cellv (HS.out.at0) 1 rfl⟩) (fun hHeld => ?_)
        clear hK K
        refine norm_ (a' := ?_) ?_ ?_
        rotate_left
        · show Act.put _ (some 18) _ = _
          simp only [Act.put, List.setIfInBounds_toArray, List.set_cons_zero, List.set_cons_succ, i64_w, i32_w]
          rfl
        refine two_ (i := 7) (j := 14) (Ni := some 19) (Nj := some 5) #[true, true, true, true, true, true, true, true, false, false, true, true, true, false, false, false] #[true, true, true, true, true, true, true, false, false, false, true, true, true, false, true, false] rfl rfl rfl rfl (by kernel_rfl) (by decide) (by decide) (fun K hK => ?_) (fun K hK => ?_)
        · refine goes_ Tryd.func123 (by kernel_rfl) rfl #[.slice (some ⟨g212, 0, none⟩) 2 2] (by rfl) rfl rfl (by (try simp only [List.map_toArray, List.map_cons, List.map_nil]); first | done | rfl) ?_
          refine (ratio_Mul.calls _ [a25, a26] (some ⟨g212, 0, none⟩) 2 t160 _ ⟨Rd.lit (l := []) (xs := [a25, a26]) HS.out 2 rfl (by simp)⟩ ⟨HGl0.out.pass (l := []) HS.out⟩ ⟨Sep.start _⟩ HA161).mono ?_
          rintro e_ w216 ⟨rfl, hS⟩
          replace HS : Aside0 (Sep (fps []) w [b2 g29 a25 a26 a27 a28, b3 g32 0 0 0 0 0 0 0 0, b4 g212 a25 a26] w216) := ⟨HS.out.call hS⟩
          clear hS
          refine ⟨_, rfl, ?_⟩
          refine hK.out _ _ (⟨blk_cellv (HS.out.at0) 2 rfl, blk_cellv (HS.out.at0) 0 rfl, blk_cellv (HS.out.at0) 1 rfl⟩) (fun hHeld => ?_)
          clear hK K
          refine norm_ (a' := ?_) ?_ ?_
          rotate_left
          · show Act.put _ (some 19) _ = _
            simp only [Act.put, List.setIfInBounds_toArray, List.set_cons_zero, List.set_cons_succ, i64_w, i32_w]
            rfl
          refine two_ (i := 8) (j := 14) (Ni := some 20) (Nj := some 5) #[true, true, true, true, true, true, true, true, true, false, true, true, true, false, false, false] #[true, true, true, true, true, true, true, true, false, false, true, true, true, false, true, false] rfl rfl rfl rfl (by kernel_rfl) (by decide) (by decide) (fun K hK => ?_) (fun K hK => ?_)
          · refine slice_step (n := 3) (by rfl) (N := 20) rfl (cs := #[.int .i64 24, .int .i64 a27, .int .i64 t160]) (t := 3) ?hr ?_
            case hr => first | (go_simp; done) | (go_simp; rfl)
            intro g217 hg w218 hbox hb
            replace HS : Aside0 (Sep (fps []) w [b2 g29 a25 a26 a27 a28, b3 g32 0 0 0 0 0 0 0 0, b4 g212 a25 a26, b5 g217 24 a27 t160] w218) := ⟨HS.out.box hg hbox hb⟩
            clear hg hbox hb
            refine hK.out _ _ (⟨blk_cellv (HS.out.at0) 2 rfl, blk_cellv (HS.out.at0) 0 rfl, blk_cellv (HS.out.at0) 1 rfl⟩) (fun hHeld => ?_)
            clear hK K
            refine norm_ (a' := ?_) ?_ ?_
            rotate_left
            · show Act.put _ (some 20) _ = _
              simp only [Act.put, List.setIfInBounds_toArray, List.set_cons_zero, List.set_cons_succ, i64_w, i32_w]
              rfl
            refine two_ (i := 9) (j := 14) (Ni := some 21) (Nj := some 5) #[true, true, true, true, true, true, true, true, true, true, true, true, true, false, false, false] #[true, true, true, true, true, true, true, true, true, false, true, true, true, false, true, false] rfl rfl rfl rfl (by kernel_rfl) (by decide) (by decide) (fun K hK => ?_) (fun K hK => ?_)
            · refine goes_ Tryd.func122 (by kernel_rfl) rfl #[.slice (some ⟨g217, 0, none⟩) 3 3] (by rfl) rfl rfl (by (try simp only [List.map_toArray, List.map_cons, List.map_nil]); first | done | rfl) ?_
              refine (ratio_Add.calls _ [24, a27, t160] (some ⟨g217, 0, none⟩) 3 t186 _ ⟨Rd.lit (l := []) (xs := [24, a27, t160]) HS.out 3 rfl (by simp)⟩ ⟨HGl0.out.pass (l := []) HS.out⟩ ⟨Sep.start _⟩ HA187).mono ?_
              rintro e_ w221 ⟨rfl, hS⟩
              replace HS : Aside0 (Sep (fps []) w [b2 g29 a25 a26 a27 a28, b3 g32 0 0 0 0 0 0 0 0, b4 g212 a25 a26, b5 g217 24 a27 t160] w221) := ⟨HS.out.call hS⟩
              clear hS
              refine ⟨_, rfl, ?_⟩
              refine hK.out _ _ (⟨blk_cellv (HS.out.at0) 2 rfl, blk_cellv (HS.out.at0) 0 rfl, blk_cellv (HS.out.at0) 1 rfl⟩) (fun hHeld => ?_)
              clear hK K
              refine norm_ (a' := ?_) ?_ ?_
              rotate_left
              · show Act.put _ (some 21) _ = _
                simp only [Act.put, List.setIfInBounds_toArray, List.set_cons_zero, List.set_cons_succ, i64_w, i32_w]
                rfl
              refine pure_ (i := 13) (N := some 25) (v := ?_) (a' := ?_) #[true, true, true, true, true, true, true, true, true, true, true, true, true, true, false, false] rfl rfl (by kernel_rfl) (fun _ _ _ h => h) (Or.inl ⟨by rfl, ?_⟩) ?_ ?_
              rotate_left
              · intro w'
                go_simp
                with_reducible rfl
              rotate_left
              · simp only [Act.put, List.setIfInBounds_toArray, List.set_cons_zero, List.set_cons_succ, i64_w, i32_w]
                rfl
              refine one_ (i := 14) (N := some 5) #[true, true, true, true, true, true, true, true, true, true, true, true, true, true, true, false] rfl rfl (by kernel_rfl) (by decide) (fun K hK => ?_)
              refine box_step (by rfl) (N := 5) rfl (cs := #[.int .i64 0, .int .i64 0, .int .i64 0, .int .i64 0, .int .i64 0, .int .i64 0, .int .i64 0, .int .i64 0]) (t := 97) ?hr ?_
              case hr => first | (go_simp; done) | (go_simp; rfl)
              intro g222 hg w223 hbox hb
              replace HS : Aside0 (Sep (fps []) w [b2 g29 a25 a26 a27 a28, b3 g32 0 0 0 0 0 0 0 0, b4 g212 a25 a26, b5 g217 24 a27 t160, b3 g222 0 0 0 0 0 0 0 0] w223) := ⟨HS.out.box hg hbox hb⟩
              clear hg hbox hb
              refine hK.out _ _ (⟨blk_cellv (HS.out.at0) 2 rfl, blk_cellv (HS.out.at0) 0 rfl, blk_cellv (HS.out.at0) 1 rfl⟩) (fun hHeld => ?_)
              clear hK K
              refine norm_ (a' := ?_) ?_ ?_
              rotate_left
              · show Act.put _ (some 5) _ = _
                simp only [Act.put, List.setIfInBounds_toArray, List.set_cons_zero, List.set_cons_succ, i64_w, i32_w]
                rfl
              refine one_ (i := 15) (N := none) #[true, true, true, true, true, true, true, true, true, true, true, true, true, true, true, true] rfl rfl (by kernel_rfl) (by decide) (fun K hK => ?_)
              have hc226 := blk_cellv (v := .int .i64 0) (HS.out.at4) 0 rfl
              have hz227 := blk_fz (HS.out.at4) 0
              have hc228 := blk_cellv (v := .int .i64 0) (HS.out.at4) 1 rfl
              have hz229 := blk_fz (HS.out.at4) 1
              have hc230 := blk_cellv (v := .int .i64 0) (HS.out.at4) 2 rfl
              have hz231 := blk_fz (HS.out.at4) 2
              have hc232 := blk_cellv (v := .int .i64 0) (HS.out.at4) 3 rfl
              have hz233 := blk_fz (HS.out.at4) 3
              have hc234 := blk_cellv (v := .int .i64 0) (HS.out.at4) 4 rfl
              have hz235 := blk_fz (HS.out.at4) 4
              have hc236 := blk_cellv (v := .int .i64 0) (HS.out.at4) 5 rfl
              have hz237 := blk_fz (HS.out.at4) 5
              have hc238 := blk_cellv (v := .int .i64 0) (HS.out.at4) 6 rfl
              have hz239 := blk_fz (HS.out.at4) 6
              have hc240 := blk_cellv (v := .int .i64 0) (HS.out.at4) 7 rfl
              have hz241 := blk_fz (HS.out.at4) 7
              refine store_step (w1 := (World.setCell (World.setCell (World.setCell (World.setCell (World.setCell (World.setCell (World.setCell (World.setCell w223 ⟨g222, 0, none⟩ (.int .i64 t186)) ⟨g222, 1, none⟩ (.int .i64 (wrap64 (a26 - 8)))) ⟨g222, 2, none⟩ (.int .i64 0)) ⟨g222, 3, none⟩ (.int .i64 0)) ⟨g222, 4, none⟩ (.int .i64 0)) ⟨g222, 5, none⟩ (.int .i64 0)) ⟨g222, 6, none⟩ (.int .i64 0)) ⟨g222, 7, none⟩ (.int .i64 0))) (by rfl) rfl ?hr ?_
              case hr => first | (go_simp; done) | (go_simp; rfl)
              clear hc226 hz227 hc228 hz229 hc230 hz231 hc232 hz233 hc234 hz235 hc236 hz237 hc238 hz239 hc240 hz241
              intro w225 hst
              replace HS : Aside0 (Sep (fps []) w [b2 g29 a25 a26 a27 a28, b3 g32 0 0 0 0 0 0 0 0, b4 g212 a25 a26, b5 g217 24 a27 t160, b3 g222 t186 (wrap64 (a26 - 8)) 0 0 0 0 0 0] w225) := ⟨by rw [hst]; exact HS.out.setAll (l1 := [b2 g29 a25 a26 a27 a28, b3 g32 0 0 0 0 0 0 0 0, b4 g212 a25 a26, b5 g217 24 a27 t160]) (l2 := []) [.int .i64 t186, .int .i64 (wrap64 (a26 - 8)), .int .i64 0, .int .i64 0, .int .i64 0, .int .i64 0, .int .i64 0, .int .i64 0] rfl⟩
              clear hst
              refine hK.out _ _ (⟨blk_cellv (HS.out.at0) 2 rfl, blk_cellv (HS.out.at0) 0 rfl, blk_cellv (HS.out.at0) 1 rfl⟩) (fun hHeld => ?_)
              clear hK K
              refine done_ (by kernel_rfl) ?_
              go_wp2_with fail
              go_meet
              case rel => exact ⟨g212, g217, g222, (by first | rfl | (simp [IntKind.wrap_u32]; done)), ⟨(((((HS.out).front 4 (by simp)).front 4 (by simp)).front 4 (by simp)).front 4 (by simp)).front 4 (by simp)⟩⟩
            · refine box_step (by rfl) (N := 5) rfl (cs := #[.int .i64 0, .int .i64 0, .int .i64 0, .int .i64 0, .int .i64 0, .int .i64 0, .int .i64 0, .int .i64 0]) (t := 97) ?hr ?_
              case hr => first | (go_simp; done) | (go_simp; rfl)
              intro g242 hg w243 hbox hb
              replace HS : Aside0 (Sep (fps []) w [b2 g29 a25 a26 a27 a28, b3 g32 0 0 0 0 0 0 0 0, b4 g212 a25 a26, b5 g217 24 a27 t160, b3 g242 0 0 0 0 0 0 0 0] w243) := ⟨HS.out.box hg hbox hb⟩
              clear hg hbox hb
              refine hK.out _ _ (⟨blk_cellv (HS.out.at0) 2 rfl, blk_cellv (HS.out.at0) 0 rfl, blk_cellv (HS.out.at0) 1 rfl⟩) (fun hHeld => ?_)
              clear hK K
              refine norm_ (a' := ?_) ?_ ?_
              rotate_left
              · show Act.put _ (some 5) _ = _
                simp only [Act.put, List.setIfInBounds_toArray, List.set_cons_zero, List.set_cons_succ, i64_w, i32_w]
                rfl
              refine one_ (i := 9) (N := some 21) #[true, true, true, true, true, true, true, true, true, true, true, true, true, false, true, false] rfl rfl (by kernel_rfl) (by decide) (fun K hK => ?_)
              refine goes_ Tryd.func122 (by kernel_rfl) rfl #[.slice (some ⟨g217, 0, none⟩) 3 3] (by rfl) rfl rfl (by (try simp only [List.map_toArray, List.map_cons, List.map_nil]); first | done | rfl) ?_
              refine (ratio_Add.calls _ [24, a27, t160] (some ⟨g217, 0, none⟩) 3 t186 _ ⟨Rd.lit (l := []) (xs := [24, a27, t160]) HS.out 3 rfl (by simp)⟩ ⟨HGl0.out.pass (l := []) HS.out⟩ ⟨Sep.start _⟩ HA187).mono ?_
              rintro e_ w246 ⟨rfl, hS⟩
              replace HS : Aside0 (Sep (fps []) w [b2 g29 a25 a26 a27 a28, b3 g32 0 0 0 0 0 0 0 0, b4 g212 a25 a26, b5 g217 24 a27 t160, b3 g242 0 0 0 0 0 0 0 0] w246) := ⟨HS.out.call hS⟩
              clear hS
              refine ⟨_, rfl, ?_⟩
              refine hK.out _ _ (⟨blk_cellv (HS.out.at0) 2 rfl, blk_cellv (HS.out.at0) 0 rfl, blk_cellv (HS.out.at0) 1 rfl⟩) (fun hHeld => ?_)
              clear hK K
              refine norm_ (a' := ?_) ?_ ?_
              rotate_left
              · show Act.put _ (some 21) _ = _
                simp only [Act.put, List.setIfInBounds_toArray, List.set_cons_zero, List.set_cons_succ, i64_w, i32_w]
                rfl
              refine pure_ (i := 13) (N := some 25) (v := ?_) (a' := ?_) #[true, true, true, true, true, true, true, true, true, true, true, true, true, true, true, false] rfl rfl (by kernel_rfl) (fun _ _ _ h => h) (Or.inl ⟨by rfl, ?_⟩) ?_ ?_
              rotate_left
              · intro w'
                go_simp
                with_reducible rfl
              rotate_left
              · simp only [Act.put, List.setIfInBounds_toArray, List.set_cons_zero, List.set_cons_succ, i64_w, i32_w]
                rfl
              refine one_ (i := 15) (N := none) #[true, true, true, true, true, true, true, true, true, true, true, true, true, true, true, true] rfl rfl (by kernel_rfl) (by decide) (fun K hK => ?_)
              have hc248 := blk_cellv (v := .int .i64 0) (HS.out.at4) 0 rfl
              have hz249 := blk_fz (HS.out.at4) 0
              have hc250 := blk_cellv (v := .int .i64 0) (HS.out.at4) 1 rfl
              have hz251 := blk_fz (HS.out.at4) 1
              have hc252 := blk_cellv (v := .int .i64 0) (HS.out.at4) 2 rfl
              have hz253 := blk_fz (HS.out.at4) 2
              have hc254 := blk_cellv (v := .int .i64 0) (HS.out.at4) 3 rfl
              have hz255 := blk_fz (HS.out.at4) 3
              have hc256 := blk_cellv (v := .int .i64 0) (HS.out.at4) 4 rfl
              have hz257 := blk_fz (HS.out.at4) 4
              have hc258 := blk_cellv (v := .int .i64 0) (HS.out.at4) 5 rfl
              have hz259 := blk_fz (HS.out.at4) 5
              have hc260 := blk_cellv (v := .int .i64 0) (HS.out.at4) 6 rfl
              have hz261 := blk_fz (HS.out.at4) 6
              have hc262 := blk_cellv (v := .int .i64 0) (HS.out.at4) 7 rfl
              have hz263 := blk_fz (HS.out.at4) 7
              refine store_step (w1 := (World.setCell (World.setCell (World.setCell (World.setCell (World.setCell (World.setCell (World.setCell (World.setCell w246 ⟨g242, 0, none⟩ (.int .i64 t186)) ⟨g242, 1, none⟩ (.int .i64 (wrap64 (a26 - 8)))) ⟨g242, 2, none⟩ (.int .i64 0)) ⟨g242, 3, none⟩ (.int .i64 0)) ⟨g242, 4, none⟩ (.int .i64 0)) ⟨g242, 5, none⟩ (.int .i64 0)) ⟨g242, 6, none⟩ (.int .i64 0)) ⟨g242, 7, none⟩ (.int .i64 0))) (by rfl) rfl ?hr ?_
              case hr => first | (go_simp; done) | (go_simp; rfl)
              clear hc248 hz249 hc250 hz251 hc252 hz253 hc254 hz255 hc256 hz257 hc258 hz259 hc260 hz261 hc262 hz263
              intro w247 hst
              replace HS : Aside0 (Sep (fps []) w [b2 g29 a25 a26 a27 a28, b3 g32 0 0 0 0 0 0 0 0, b4 g212 a25 a26, b5 g217 24 a27 t160, b3 g242 t186 (wrap64 (a26 - 8)) 0 0 0 0 0 0] w247) := ⟨by rw [hst]; exact HS.out.setAll (l1 := [b2 g29 a25 a26 a27 a28, b3 g32 0 0 0 0 0 0 0 0, b4 g212 a25 a26, b5 g217 24 a27 t160]) (l2 := []) [.int .i64 t186, .int .i64 (wrap64 (a26 - 8)), .int .i64 0, .int .i64 0, .int .i64 0, .int .i64 0, .int .i64 0, .int .i64 0] rfl⟩
              clear hst
              refine hK.out _ _ (⟨blk_cellv (HS.out.at0) 2 rfl, blk_cellv (HS.out.at0) 0 rfl, blk_cellv (HS.out.at0) 1 rfl⟩) (fun hHeld => ?_)
              clear hK K
              refine done_ (by kernel_rfl) ?_
              go_wp2_with fail
              go_meet
              case rel => exact ⟨g212, g217, g242, (by first | rfl | (simp [IntKind.wrap_u32]; done)), ⟨(((((HS.out).front 4 (by simp)).front 4 (by simp)).front 4 (by simp)).front 4 (by simp)).front 4 (by simp)⟩⟩
          · refine box_step (by rfl) (N := 5) rfl (cs := #[.int .i64 0, .int .i64 0, .int .i64 0, .int .i64 0, .int .i64 0, .int .i64 0, .int .i64 0, .int .i64 0]) (t := 97) ?hr ?_
            case hr => first | (go_simp; done) | (go_simp; rfl)
            intro g264 hg w265 hbox hb
            replace HS : Aside0 (Sep (fps []) w [b2 g29 a25 a26 a27 a28, b3 g32 0 0 0 0 0 0 0 0, b4 g212 a25 a26, b3 g264 0 0 0 0 0 0 0 0] w265) := ⟨HS.out.box hg hbox hb⟩
            clear hg hbox hb
            refine hK.out _ _ (⟨blk_cellv (HS.out.at0) 2 rfl, blk_cellv (HS.out.at0) 0 rfl, blk_cellv (HS.out.at0) 1 rfl⟩) (fun hHeld => ?_)
            clear hK K
            refine norm_ (a' := ?_) ?_ ?_
            rotate_left
            · show Act.put _ (some 5) _ = _
              simp only [Act.put, List.setIfInBounds_toArray, List.set_cons_zero, List.set_cons_succ, i64_w, i32_w]
              rfl
            refine one_ (i := 8) (N := some 20) #[true, true, true, true, true, true, true, true, true, false, true, true, true, false, true, false] rfl rfl (by kernel_rfl) (by decide) (fun K hK => ?_)
            refine slice_step (n := 3) (by rfl) (N := 20) rfl (cs := #[.int .i64 24, .int .i64 a27, .int .i64 t160]) (t := 3) ?hr ?_
            case hr => first | (go_simp; done) | (go_simp; rfl)
            intro g267 hg w268 hbox hb
            replace HS : Aside0 (Sep (fps []) w [b2 g29 a25 a26 a27 a28, b3 g32 0 0 0 0 0 0 0 0, b4 g212 a25 a26, b3 g264 0 0 0 0 0 0 0 0, b5 g267 24 a27 t160] w268) := ⟨HS.out.box hg hbox hb⟩
            clear hg hbox hb
            refine hK.out _ _ (⟨blk_cellv (HS.out.at0) 2 rfl, blk_cellv (HS.out.at0) 0 rfl, blk_cellv (HS.out.at0) 1 rfl⟩) (fun hHeld => ?_)
            clear hK K
            refine norm_ (a' := ?_) ?_ ?_
            rotate_left
            · show Act.put _ (some 20) _ = _
              simp only [Act.put, List.setIfInBounds_toArray, List.set_cons_zero, List.set_cons_succ, i64_w, i32_w]
              rfl
            refine one_ (i := 9) (N := some 21) #[true, true, true, true, true, true, true, true, true, true, true, true, true, false, true, false] rfl rfl (by kernel_rfl) (by decide) (fun K hK => ?_)
            refine goes_ Tryd.func122 (by kernel_rfl) rfl #[.slice (some ⟨g267, 0, none⟩) 3 3] (by rfl) rfl rfl (by (try simp only [List.map_toArray, List.map_cons, List.map_nil]); first | done | rfl) ?_
            refine (ratio_Add.calls _ [24, a27, t160] (some ⟨g267, 0, none⟩) 3 t186 _ ⟨Rd.lit (l := []) (xs := [24, a27, t160]) HS.out 4 rfl (by simp)⟩ ⟨HGl0.out.pass (l := []) HS.out⟩ ⟨Sep.start _⟩ HA187).mono ?_
            rintro e_ w271 ⟨rfl, hS⟩
            replace HS : Aside0 (Sep (fps []) w [b2 g29 a25 a26 a27 a28, b3 g32 0 0 0 0 0 0 0 0, b4 g212 a25 a26, b3 g264 0 0 0 0 0 0 0 0, b5 g267 24 a27 t160] w271) := ⟨HS.out.call hS⟩
            clear hS
            refine ⟨_, rfl, ?_⟩
            refine hK.out _ _ (⟨blk_cellv (HS.out.at0) 2 rfl, blk_cellv (HS.out.at0) 0 rfl, blk_cellv (HS.out.at0) 1 rfl⟩) (fun hHeld => ?_)
            clear hK K
            refine norm_ (a' := ?_) ?_ ?_
            rotate_left
            · show Act.put _ (some 21) _ = _
              simp only [Act.put, List.setIfInBounds_toArray, List.set_cons_zero, List.set_cons_succ, i64_w, i32_w]
              rfl
            refine pure_ (i := 13) (N := some 25) (v := ?_) (a' := ?_) #[true, true, true, true, true, true, true, true, true, true, true, true, true, true, true, false] rfl rfl (by kernel_rfl) (fun _ _ _ h => h) (Or.inl ⟨by rfl, ?_⟩) ?_ ?_
            rotate_left
            · intro w'
              go_simp
              with_reducible rfl
            rotate_left
            · simp only [Act.put, List.setIfInBounds_toArray, List.set_cons_zero, List.set_cons_succ, i64_w, i32_w]
              rfl
            refine one_ (i := 15) (N := none) #[true, true, true, true, true, true, true, true, true, true, true, true, true, true, true, true] rfl rfl (by kernel_rfl) (by decide) (fun K hK => ?_)
            have hc273 := blk_cellv (v := .int .i64 0) (HS.out.at3) 0 rfl
            have hz274 := blk_fz (HS.out.at3) 0
            have hc275 := blk_cellv (v := .int .i64 0) (HS.out.at3) 1 rfl
            have hz276 := blk_fz (HS.out.at3) 1
            have hc277 := blk_cellv (v := .int .i64 0) (HS.out.at3) 2 rfl
            have hz278 := blk_fz (HS.out.at3) 2
            have hc279 := blk_cellv (v := .int .i64 0) (HS.out.at3) 3 rfl
            have hz280 := blk_fz (HS.out.at3) 3
            have hc281 := blk_cellv (v := .int .i64 0) (HS.out.at3) 4 rfl
            have hz282 := blk_fz (HS.out.at3) 4
            have hc283 := blk_cellv (v := .int .i64 0) (HS.out.at3) 5 rfl
            have hz284 := blk_fz (HS.out.at3) 5
            have hc285 := blk_cellv (v := .int .i64 0) (HS.out.at3) 6 rfl
            have hz286 := blk_fz (HS.out.at3) 6
            have hc287 := blk_cellv (v := .int .i64 0) (HS.out.at3) 7 rfl
            have hz288 := blk_fz (HS.out.at3) 7
            refine store_step (w1 := (World.setCell (World.setCell (World.setCell (World.setCell (World.setCell (World.setCell (World.setCell (World.setCell w271 ⟨g264, 0, none⟩ (.int .i64 t186)) ⟨g264, 1, none⟩ (.int .i64 (wrap64 (a26 - 8)))) ⟨g264, 2, none⟩ (.int .i64 0)) ⟨g264, 3, none⟩ (.int .i64 0)) ⟨g264, 4, none⟩ (.int .i64 0)) ⟨g264, 5, none⟩ (.int .i64 0)) ⟨g264, 6, none⟩ (.int .i64 0)) ⟨g264, 7, none⟩ (.int .i64 0))) (by rfl) rfl ?hr ?_
            case hr => first | (go_simp; done) | (go_simp; rfl)
            clear hc273 hz274 hc275 hz276 hc277 hz278 hc279 hz280 hc281 hz282 hc283 hz284 hc285 hz286 hc287 hz288
            intro w272 hst
            replace HS : Aside0 (Sep (fps []) w [b2 g29 a25 a26 a27 a28, b3 g32 0 0 0 0 0 0 0 0, b4 g212 a25 a26, b3 g264 t186 (wrap64 (a26 - 8)) 0 0 0 0 0 0, b5 g267 24 a27 t160] w272) := ⟨by rw [hst]; exact HS.out.setAll (l1 := [b2 g29 a25 a26 a27 a28, b3 g32 0 0 0 0 0 0 0 0, b4 g212 a25 a26]) (l2 := [b5 g267 24 a27 t160]) [.int .i64 t186, .int .i64 (wrap64 (a26 - 8)), .int .i64 0, .int .i64 0, .int .i64 0, .int .i64 0, .int .i64 0, .int .i64 0] rfl⟩
            clear hst
            refine hK.out _ _ (⟨blk_cellv (HS.out.at0) 2 rfl, blk_cellv (HS.out.at0) 0 rfl, blk_cellv (HS.out.at0) 1 rfl⟩) (fun hHeld => ?_)
            clear hK K
            refine done_ (by kernel_rfl) ?_
            go_wp2_with fail
            go_meet
            case rel => exact ⟨g212, g267, g264, (by first | rfl | (simp [IntKind.wrap_u32]; done)), ⟨(((((HS.out).front 3 (by simp)).front 4 (by simp)).front 4 (by simp)).front 4 (by simp)).front 4 (by simp)⟩⟩
        · refine box_step (by rfl) (N := 5) rfl (cs := #[.int .i64 0, .int .i64 0, .int .i64 0, .int .i64 0, .int .i64 0, .int .i64 0, .int .i64 0, .int .i64 0]) (t := 97) ?hr ?_
          case hr => first | (go_simp; done) | (go_simp; rfl)
          intro g289 hg w290 hbox hb
          replace HS : Aside0 (Sep (fps []) w [b2 g29 a25 a26 a27 a28, b3 g32 0 0 0 0 0 0 0 0, b4 g212 a25 a26, b3 g289 0 0 0 0 0 0 0 0] w290) := ⟨HS.out.box hg hbox hb⟩
          clear hg hbox hb
          refine hK.out _ _ (⟨blk_cellv (HS.out.at0) 2 rfl, blk_cellv (HS.out.at0) 0 rfl, blk_cellv (HS.out.at0) 1 rfl⟩) (fun hHeld => ?_)
          clear hK K
          refine norm_ (a' := ?_) ?_ ?_
          rotate_left
          · show Act.put _ (some 5) _ = _
            simp only [Act.put, List.setIfInBounds_toArray, List.set_cons_zero, List.set_cons_succ, i64_w, i32_w]
            rfl
          refine one_ (i := 7) (N := some 19) #[true, true, true, true, true, true, true, true, false, false, true, true, true, false, true, false] rfl rfl (by kernel_rfl) (by decide) (fun K hK => ?_)
          refine goes_ Tryd.func123 (by kernel_rfl) rfl #[.slice (some ⟨g212, 0, none⟩) 2 2] (by rfl) rfl rfl (by (try simp only [List.map_toArray, List.map_cons, List.map_nil]); first | done | rfl) ?_
          refine (ratio_Mul.calls _ [a25, a26] (some ⟨g212, 0, none⟩) 2 t160 _ ⟨Rd.lit (l := []) (xs := [a25, a26]) HS.out 2 rfl (by simp)⟩ ⟨HGl0.out.pass (l := []) HS.out⟩ ⟨Sep.start _⟩ HA161).mono ?_
          rintro e_ w293 ⟨rfl, hS⟩
          replace HS : Aside0 (Sep (fps []) w [b2 g29 a25 a26 a27 a28, b3 g32 0 0 0 0 0 0 0 0, b4 g212 a25 a26, b3 g289 0 0 0 0 0 0 0 0] w293) := ⟨HS.out.call hS⟩
          clear hS
          refine ⟨_, rfl, ?_⟩
          refine hK.out _ _ (⟨blk_cellv (HS.out.at0) 2 rfl, blk_cellv (HS.out.at0) 0 rfl, blk_cellv (HS.out.at0) 1 rfl⟩) (fun hHeld => ?_)
          clear hK K
          refine norm_ (a' := ?_) ?_ ?_
          rotate_left
          · show Act.put _ (some 19) _ = _
            simp only [Act.put, List.setIfInBounds_toArray, List.set_cons_zero, List.set_cons_succ, i64_w, i32_w]
            rfl
          refine one_ (i := 8) (N := some 20) #[true, true, true, true, true, true, true, true, true, false, true, true, true, false, true, false] rfl rfl (by kernel_rfl) (by decide) (fun K hK => ?_)
          refine slice_step (n := 3) (by rfl) (N := 20) rfl (cs := #[.int .i64 24, .int .i64 a27, .int .i64 t160]) (t := 3) ?hr ?_
          case hr => first | (go_simp; done) | (go_simp; rfl)
          intro g294 hg w295 hbox hb
          replace HS : Aside0 (Sep (fps []) w [b2 g29 a25 a26 a27 a28, b3 g32 0 0 0 0 0 0 0 0, b4 g212 a25 a26, b3 g289 0 0 0 0 0 0 0 0, b5 g294 24 a27 t160] w295) := ⟨HS.out.box hg hbox hb⟩
          clear hg hbox hb
          refine hK.out _ _ (⟨blk_cellv (HS.out.at0) 2 rfl, blk_cellv (HS.out.at0) 0 rfl, blk_cellv (HS.out.at0) 1 rfl⟩) (fun hHeld => ?_)
          clear hK K
          refine norm_ (a' := ?_) ?_ ?_
          rotate_left
          · show Act.put _ (some 20) _ = _
            simp only [Act.put, List.setIfInBounds_toArray, List.set_cons_zero, List.set_cons_succ, i64_w, i32_w]
            rfl
          refine one_ (i := 9) (N := some 21) #[true, true, true, true, true, true, true, true, true, true, true, true, true, false, true, false] rfl rfl (by kernel_rfl) (by decide) (fun K hK => ?_)
          refine goes_ Tryd.func122 (by kernel_rfl) rfl #[.slice (some ⟨g294, 0, none⟩) 3 3] (by rfl) rfl rfl (by (try simp only [List.map_toArray, List.map_cons, List.map_nil]); first | done | rfl) ?_
          refine (ratio_Add.calls _ [24, a27, t160] (some ⟨g294, 0, none⟩) 3 t186 _ ⟨Rd.lit (l := []) (xs := [24, a27, t160]) HS.out 4 rfl (by simp)⟩ ⟨HGl0.out.pass (l := []) HS.out⟩ ⟨Sep.start _⟩ HA187).mono ?_
          rintro e_ w298 ⟨rfl, hS⟩
          replace HS : Aside0 (Sep (fps []) w [b2 g29 a25 a26 a27 a28, b3 g32 0 0 0 0 0 0 0 0, b4 g212 a25 a26, b3 g289 0 0 0 0 0 0 0 0, b5 g294 24 a27 t160] w298) := ⟨HS.out.call hS⟩
          clear hS
          refine ⟨_, rfl, ?_⟩
          refine hK.out _ _ (⟨blk_cellv (HS.out.at0) 2 rfl, blk_cellv (HS.out.at0) 0 rfl, blk_cellv (HS.out.at0) 1 rfl⟩) (fun hHeld => ?_)
          clear hK K
          refine norm_ (a' := ?_) ?_ ?_
          rotate_left
          · show Act.put _ (some 21) _ = _
            simp only [Act.put, List.setIfInBounds_toArray, List.set_cons_zero, List.set_cons_succ, i64_w, i32_w]
            rfl
          refine pure_ (i := 13) (N := some 25) (v := ?_) (a' := ?_) #[true, true, true, true, true, true, true, true, true, true, true, true, true, true, true, false] rfl rfl (by kernel_rfl) (fun _ _ _ h => h) (Or.inl ⟨by rfl, ?_⟩) ?_ ?_
          rotate_left
          · intro w'
            go_simp
            with_reducible rfl
          rotate_left
          · simp only [Act.put, List.setIfInBounds_toArray, List.set_cons_zero, List.set_cons_succ, i64_w, i32_w]
            rfl
          refine one_ (i := 15) (N := none) #[true, true, true, true, true, true, true, true, true, true, true, true, true, true, true, true] rfl rfl (by kernel_rfl) (by decide) (fun K hK => ?_)
          have hc300 := blk_cellv (v := .int .i64 0) (HS.out.at3) 0 rfl
          have hz301 := blk_fz (HS.out.at3) 0
          have hc302 := blk_cellv (v := .int .i64 0) (HS.out.at3) 1 rfl
          have hz303 := blk_fz (HS.out.at3) 1
          have hc304 := blk_cellv (v := .int .i64 0) (HS.out.at3) 2 rfl
          have hz305 := blk_fz (HS.out.at3) 2
          have hc306 := blk_cellv (v := .int .i64 0) (HS.out.at3) 3 rfl
          have hz307 := blk_fz (HS.out.at3) 3
          have hc308 := blk_cellv (v := .int .i64 0) (HS.out.at3) 4 rfl
          have hz309 := blk_fz (HS.out.at3) 4
          have hc310 := blk_cellv (v := .int .i64 0) (HS.out.at3) 5 rfl
          have hz311 := blk_fz (HS.out.at3) 5
          have hc312 := blk_cellv (v := .int .i64 0) (HS.out.at3) 6 rfl
          have hz313 := blk_fz (HS.out.at3) 6
          have hc314 := blk_cellv (v := .int .i64 0) (HS.out.at3) 7 rfl
          have hz315 := blk_fz (HS.out.at3) 7
          refine store_step (w1 := (World.setCell (World.setCell (World.setCell (World.setCell (World.setCell (World.setCell (World.setCell (World.setCell w298 ⟨g289, 0, none⟩ (.int .i64 t186)) ⟨g289, 1, none⟩ (.int .i64 (wrap64 (a26 - 8)))) ⟨g289, 2, none⟩ (.int .i64 0)) ⟨g289, 3, none⟩ (.int .i64 0)) ⟨g289, 4, none⟩ (.int .i64 0)) ⟨g289, 5, none⟩ (.int .i64 0)) ⟨g289, 6, none⟩ (.int .i64 0)) ⟨g289, 7, none⟩ (.int .i64 0))) (by rfl) rfl ?hr ?_
          case hr => first | (go_simp; done) | (go_simp; rfl)
          clear hc300 hz301 hc302 hz303 hc304 hz305 hc306 hz307 hc308 hz309 hc310 hz311 hc312 hz313 hc314 hz315
          intro w299 hst
          replace HS : Aside0 (Sep (fps []) w [b2 g29 a25 a26 a27 a28, b3 g32 0 0 0 0 0 0 0 0, b4 g212 a25 a26, b3 g289 t186 (wrap64 (a26 - 8)) 0 0 0 0 0 0, b5 g294 24 a27 t160] w299) := ⟨by rw [hst]; exact HS.out.setAll (l1 := [b2 g29 a25 a26 a27 a28, b3 g32 0 0 0 0 0 0 0 0, b4 g212 a25 a26]) (l2 := [b5 g294 24 a27 t160]) [.int .i64 t186, .int .i64 (wrap64 (a26 - 8)), .int .i64 0, .int .i64 0, .int .i64 0, .int .i64 0, .int .i64 0, .int .i64 0] rfl⟩
          clear hst
          refine hK.out _ _ (⟨blk_cellv (HS.out.at0) 2 rfl, blk_cellv (HS.out.at0) 0 rfl, blk_cellv (HS.out.at0) 1 rfl⟩) (fun hHeld => ?_)
          clear hK K
          refine done_ (by kernel_rfl) ?_
          go_wp2_with fail
          go_meet
          case rel => exact ⟨g212, g294, g289, (by first | rfl | (simp [IntKind.wrap_u32]; done)), ⟨(((((HS.out).front 3 (by simp)).front 4 (by simp)).front 4 (by simp)).front 4 (by simp)).front 4 (by simp)⟩⟩
      · refine box_step (by rfl) (N := 5) rfl (cs := #[.int .i64 0, .int .i64 0, .int .i64 0, .int .i64 0, .int .i64 0, .int .i64 0, .int .i64 0, .int .i64 0]) (t := 97) ?hr ?_
        case hr => first | (go_simp; done) | (go_simp; rfl)
        intro g316 hg w317 hbox hb
        replace HS : Aside0 (Sep (fps []) w [b2 g29 a25 a26 a27 a28, b3 g32 0 0 0 0 0 0 0 0, b3 g316 0 0 0 0 0 0 0 0] w317) := ⟨HS.out.box hg hbox hb⟩
        clear hg hbox hb
        refine hK.out _ _ (⟨blk_cellv (HS.out.at0) 2 rfl, blk_cellv (HS.out.at0) 0 rfl, blk_cellv (HS.out.at0) 1 rfl⟩) (fun hHeld => ?_)
        clear hK K
        refine norm_ (a' := ?_) ?_ ?_
        rotate_left
        · show Act.put _ (some 5) _ = _
          simp only [Act.put, List.setIfInBounds_toArray, List.set_cons_zero, List.set_cons_succ, i64_w, i32_w]
          rfl
        refine one_ (i := 6) (N := some 18) #[true, true, true, true, true, true, true, false, false, false, true, true, true, false, true, false] rfl rfl (by kernel_rfl) (by decide) (fun K hK => ?_)
        refine slice_step (n := 2) (by rfl) (N := 18) rfl (cs := #[.int .i64 a25, .int .i64 a26]) (t := 3) ?hr ?_
        case hr => first | (go_simp; done) | (go_simp; rfl)
        intro g319 hg w320 hbox hb
        replace HS : Aside0 (Sep (fps []) w [b2 g29 a25 a26 a27 a28, b3 g32 0 0 0 0 0 0 0 0, b3 g316 0 0 0 0 0 0 0 0, b4 g319 a25 a26] w320) := ⟨HS.out.box hg hbox hb⟩
        clear hg hbox hb
        refine hK.out _ _ (⟨blk_cellv (HS.out.at0) 2 rfl, blk_cellv (HS.out.at0) 0 rfl, blk_cellv (HS.out.at0) 1 rfl⟩) (fun hHeld => ?_)
        clear hK K
        refine norm_ (a' := ?_) ?_ ?_
        rotate_left
        · show Act.put _ (some 18) _ = _
          simp only [Act.put, List.setIfInBounds_toArray, List.set_cons_zero, List.set_cons_succ, i64_w, i32_w]
          rfl
        refine one_ (i := 7) (N := some 19) #[true, true, true, true, true, true, true, true, false, false, true, true, true, false, true, false] rfl rfl (by kernel_rfl) (by decide) (fun K hK => ?_)
        refine goes_ Tryd.func123 (by kernel_rfl) rfl #[.slice (some ⟨g319, 0, none⟩) 2 2] (by rfl) rfl rfl (by (try simp only [List.map_toArray, List.map_cons, List.map_nil]); first | done | rfl) ?_
        refine (ratio_Mul.calls _ [a25, a26] (some ⟨g319, 0, none⟩) 2 t160 _ ⟨Rd.lit (l := []) (xs := [a25, a26]) HS.out 3 rfl (by simp)⟩ ⟨HGl0.out.pass (l := []) HS.out⟩ ⟨Sep.start _⟩ HA161).mono ?_
        rintro e_ w323 ⟨rfl, hS⟩
        replace HS : Aside0 (Sep (fps []) w [b2 g29 a25 a26 a27 a28, b3 g32 0 0 0 0 0 0 0 0, b3 g316 0 0 0 0 0 0 0 0, b4 g319 a25 a26] w323) := ⟨HS.out.call hS⟩
        clear hS
        refine ⟨_, rfl, ?_⟩
        refine hK.out _ _ (⟨blk_cellv (HS.out.at0) 2 rfl, blk_cellv (HS.out.at0) 0 rfl, blk_cellv (HS.out.at0) 1 rfl⟩) (fun hHeld => ?_)
        clear hK K
        refine norm_ (a' := ?_) ?_ ?_
        rotate_left
        · show Act.put _ (some 19) _ = _
          simp only [Act.put, List.setIfInBounds_toArray, List.set_cons_zero, List.set_cons_succ, i64_w, i32_w]
          rfl
        refine one_ (i := 8) (N := some 20) #[true, true, true, true, true, true, true, true, true, false, true, true, true, false, true, false] rfl rfl (by kernel_rfl) (by decide) (fun K hK => ?_)
        refine slice_step (n := 3) (by rfl) (N := 20) rfl (cs := #[.int .i64 24, .int .i64 a27, .int .i64 t160]) (t := 3) ?hr ?_
        case hr => first | (go_simp; done) | (go_simp; rfl)
        intro g324 hg w325 hbox hb
        replace HS : Aside0 (Sep (fps []) w [b2 g29 a25 a26 a27 a28, b3 g32 0 0 0 0 0 0 0 0, b3 g316 0 0 0 0 0 0 0 0, b4 g319 a25 a26, b5 g324 24 a27 t160] w325) := ⟨HS.out.box hg hbox hb⟩
        clear hg hbox hb
        refine hK.out _ _ (⟨blk_cellv (HS.out.at0) 2 rfl, blk_cellv (HS.out.at0) 0 rfl, blk_cellv (HS.out.at0) 1 rfl⟩) (fun hHeld => ?_)
        clear hK K
        refine norm_ (a' := ?_) ?_ ?_
        rotate_left
        · show Act.put _ (some 20) _ = _
          simp only [Act.put, List.setIfInBounds_toArray, List.set_cons_zero, List.set_cons_succ, i64_w, i32_w]
          rfl
        refine one_ (i := 9) (N := some 21) #[true, true, true, true, true, true, true, true, true, true, true, true, true, false, true, false] rfl rfl (by kernel_rfl) (by decide) (fun K hK => ?_)
        refine goes_ Tryd.func122 (by kernel_rfl) rfl #[.slice (some ⟨g324, 0, none⟩) 3 3] (by rfl) rfl rfl (by (try simp only [List.map_toArray, List.map_cons, List.map_nil]); first | done | rfl) ?_
        refine (ratio_Add.calls _ [24, a27, t160] (some ⟨g324, 0, none⟩) 3 t186 _ ⟨Rd.lit (l := []) (xs := [24, a27, t160]) HS.out 4 rfl (by simp)⟩ ⟨HGl0.out.pass (l := []) HS.out⟩ ⟨Sep.start _⟩ HA187).mono ?_
        rintro e_ w328 ⟨rfl, hS⟩
        replace HS : Aside0 (Sep (fps []) w [b2 g29 a25 a26 a27 a28, b3 g32 0 0 0 0 0 0 0 0, b3 g316 0 0 0 0 0 0 0 0, b4 g319 a25 a26, b5 g324 24 a27 t160] w328) := ⟨HS.out.call hS⟩
        clear hS
        refine ⟨_, rfl, ?_⟩
        refine hK.out _ _ (⟨blk_cellv (HS.out.at0) 2 rfl, blk_cellv (HS.out.at0) 0 rfl, blk_cellv (HS.out.at0) 1 rfl⟩) (fun hHeld => ?_)
        clear hK K
        refine norm_ (a' := ?_) ?_ ?_
        rotate_left
        · show Act.put _ (some 21) _ = _
          simp only [Act.put, List.setIfInBounds_toArray, List.set_cons_zero, List.set_cons_succ, i64_w, i32_w]
          rfl
        refine pure_ (i := 13) (N := some 25) (v := ?_) (a' := ?_) #[true, true, true, true, true, true, true, true, true, true, true, true, true, true, true, false] rfl rfl (by kernel_rfl) (fun _ _ _ h => h) (Or.inl ⟨by rfl, ?_⟩) ?_ ?_
        rotate_left
        · intro w'
          go_simp
          with_reducible rfl
        rotate_left
        · simp only [Act.put, List.setIfInBounds_toArray, List.set_cons_zero, List.set_cons_succ, i64_w, i32_w]
          rfl
        refine one_ (i := 15) (N := none) #[true, true, true, true, true, true, true, true, true, true, true, true, true, true, true, true] rfl rfl (by kernel_rfl) (by decide) (fun K hK => ?_)
        have hc330 := blk_cellv (v := .int .i64 0) (HS.out.at2) 0 rfl
        have hz331 := blk_fz (HS.out.at2) 0
        have hc332 := blk_cellv (v := .int .i64 0) (HS.out.at2) 1 rfl
        have hz333 := blk_fz (HS.out.at2) 1
        have hc334 := blk_cellv (v := .int .i64 0) (HS.out.at2) 2 rfl
        have hz335 := blk_fz (HS.out.at2) 2
        have hc336 := blk_cellv (v := .int .i64 0) (HS.out.at2) 3 rfl
        have hz337 := blk_fz (HS.out.at2) 3
        have hc338 := blk_cellv (v := .int .i64 0) (HS.out.at2) 4 rfl
        have hz339 := blk_fz (HS.out.at2) 4
        have hc340 := blk_cellv (v := .int .i64 0) (HS.out.at2) 5 rfl
        have hz341 := blk_fz (HS.out.at2) 5
        have hc342 := blk_cellv (v := .int .i64 0) (HS.out.at2) 6 rfl
        have hz343 := blk_fz (HS.out.at2) 6
        have hc344 := blk_cellv (v := .int .i64 0) (HS.out.at2) 7 rfl
        have hz345 := blk_fz (HS.out.at2) 7
        refine store_step (w1 := (World.setCell (World.setCell (World.setCell (World.setCell (World.setCell (World.setCell (World.setCell (World.setCell w328 ⟨g316, 0, none⟩ (.int .i64 t186)) ⟨g316, 1, none⟩ (.int .i64 (wrap64 (a26 - 8)))) ⟨g316, 2, none⟩ (.int .i64 0)) ⟨g316, 3, none⟩ (.int .i64 0)) ⟨g316, 4, none⟩ (.int .i64 0)) ⟨g316, 5, none⟩ (.int .i64 0)) ⟨g316, 6, none⟩ (.int .i64 0)) ⟨g316, 7, none⟩ (.int .i64 0))) (by rfl) rfl ?hr ?_
        case hr => first | (go_simp; done) | (go_simp; rfl)
        clear hc330 hz331 hc332 hz333 hc334 hz335 hc336 hz337 hc338 hz339 hc340 hz341 hc342 hz343 hc344 hz345
        intro w329 hst
        replace HS : Aside0 (Sep (fps []) w [b2 g29 a25 a26 a27 a28, b3 g32 0 0 0 0 0 0 0 0, b3 g316 t186 (wrap64 (a26 - 8)) 0 0 0 0 0 0, b4 g319 a25 a26, b5 g324 24 a27 t160] w329) := ⟨by rw [hst]; exact HS.out.setAll (l1 := [b2 g29 a25 a26 a27 a28, b3 g32 0 0 0 0 0 0 0 0]) (l2 := [b4 g319 a25 a26, b5 g324 24 a27 t160]) [.int .i64 t186, .int .i64 (wrap64 (a26 - 8)), .int .i64 0, .int .i64 0, .int .i64 0, .int .i64 0, .int .i64 0, .int .i64 0] rfl⟩
        clear hst
        refine hK.out _ _ (⟨blk_cellv (HS.out.at0) 2 rfl, blk_cellv (HS.out.at0) 0 rfl, blk_cellv (HS.out.at0) 1 rfl⟩) (fun hHeld => ?_)
        clear hK K
        refine done_ (by kernel_rfl) ?_
        go_wp2_with fail
        go_meet
        case rel => exact ⟨g319, g324, g316, (by first | rfl | (simp [IntKind.wrap_u32]; done)), ⟨(((((HS.out).front 2 (by simp)).front 4 (by simp)).front 4 (by simp)).front 4 (by simp)).front 4 (by simp)⟩⟩
    case rest =>
      clear HS
      obtain ⟨g86, g163, g189, rfl, HS⟩ := hcut
      obtain ⟨w209, rfl⟩ : ∃ x : World, x = wc := ⟨_, rfl⟩
      replace HS : Aside0 (Sep (fps []) w [b2 g29 a25 a26 a27 a28, b3 g32 0 0 0 0 0 0 0 0, b3 g189 t186 (wrap64 (a26 - 8)) 0 0 0 0 0 0] w209) := ⟨HS.out.sub (.cons_cons _ (.cons_cons _ (.cons _ (.cons _ (.cons_cons _ .slnil)))))⟩
      have hc346 : w209.cell? ⟨g189, 1, none⟩ = some (.int .i64 (wrap64 (a26 - 8))) := blk_cellv (HS.out.at2) 1 rfl
      have hc347 : w209.cell? ⟨g189, 2, none⟩ = some (.int .i64 0) := blk_cellv (HS.out.at2) 2 rfl
      have hz348 : w209.frozen? ⟨g189, 2, none⟩ = false := blk_fz (HS.out.at2) 2
      go_wp2_with (first | ((with_reducible refine gate_store (t := 3) (p := 29) rfl ?_); refine store_event (w1 := (World.setCell w209 ⟨g189, 2, none⟩ (.int .i64 (wrap64 ((wrap64 (a26 - 8)) + 1))))) rfl (t := 3) (p := 29) rfl rfl ?hr ?_; (case hr => first | (go_simp; done) | (go_simp; rfl)); intro w349 hst; clear hc346 hc347 hz348; have hq0 : Sep (fps []) w [b2 g29 a25 a26 a27 a28, b3 g32 0 0 0 0 0 0 0 0, b3 g189 t186 (wrap64 (a26 - 8)) (wrap64 ((wrap64 (a26 - 8)) + 1)) 0 0 0 0 0] (World.setCell w209 ⟨g189, 2, none⟩ (.int .i64 (wrap64 ((wrap64 (a26 - 8)) + 1)))) := (HS.out).set1 (l1 := [b2 g29 a25 a26 a27 a28, b3 g32 0 0 0 0 0 0 0 0]) (l2 := []) 2 (.int .i64 (wrap64 ((wrap64 (a26 - 8)) + 1))); replace HS : Aside0 (Sep (fps []) w [b2 g29 a25 a26 a27 a28, b3 g32 0 0 0 0 0 0 0 0, b3 g189 t186 (wrap64 (a26 - 8)) (wrap64 ((wrap64 (a26 - 8)) + 1)) 0 0 0 0 0] w349) := ⟨by rw [hst]; exact hq0⟩; clear hq0; clear hst; have hc350 : w349.cell? ⟨g189, 1, none⟩ = some (.int .i64 (wrap64 (a26 - 8))) := blk_cellv (HS.out.at2) 1 rfl; have hc351 : w349.cell? ⟨g29, 1, none⟩ = some (.int .i64 a26) := blk_cellv (HS.out.at0) 1 rfl) | ((with_reducible refine gate_dst (N := 35) rfl ?_); refine slice_on (n := 2) ?hg (N := 35) ?hd (cs := #[.int .i64 (wrap64 (a26 - 8)), .int .i64 (wrap64 (a26 - 1))]) (t := 3) ?hr ?_; (case hd => rfl); (case hg => rfl); (case hr => first | (go_simp; done) | (go_simp; rfl)); intro g352 hg w353 hbox hb; clear hc350 hc351; replace HS : Aside0 (Sep (fps []) w [b2 g29 a25 a26 a27 a28, b3 g32 0 0 0 0 0 0 0 0, b3 g189 t186 (wrap64 (a26 - 8)) (wrap64 ((wrap64 (a26 - 8)) + 1)) 0 0 0 0 0, b4 g352 (wrap64 (a26 - 8)) (wrap64 (a26 - 1))] w353) := ⟨HS.out.box hg hbox hb⟩; clear hg hbox hb))
      obtain ⟨t355, HA356, H⟩ := bind_some H
      refine (ratio_Mul.calls _ [wrap64 (a26 - 8), wrap64 (a26 - 1)] (some ⟨g352, 0, none⟩) 2 t355 _ ⟨Rd.lit (l := []) (xs := [wrap64 (a26 - 8), wrap64 (a26 - 1)]) HS.out 3 rfl (by simp)⟩ ⟨HGl0.out.pass (l := []) HS.out⟩ ⟨Sep.start _⟩ HA356).mono ?_
      rintro e_ w357 ⟨rfl, hS⟩
      replace HS : Aside0 (Sep (fps []) w [b2 g29 a25 a26 a27 a28, b3 g32 0 0 0 0 0 0 0 0, b3 g189 t186 (wrap64 (a26 - 8)) (wrap64 ((wrap64 (a26 - 8)) + 1)) 0 0 0 0 0, b4 g352 (wrap64 (a26 - 8)) (wrap64 (a26 - 1))] w357) := ⟨HS.out.call hS⟩
      clear hS
      have hc358 : w357.cell? ⟨g189, 3, none⟩ = some (.int .i64 0) := blk_cellv (HS.out.at2) 3 rfl
      have hz359 : w357.frozen? ⟨g189, 3, none⟩ = false := blk_fz (HS.out.at2) 3
      go_wp2_with (first | ((with_reducible refine gate_store (t := 3) (p := 37) rfl ?_); refine store_event (w1 := (World.setCell w357 ⟨g189, 3, none⟩ (.int .i64 t355))) rfl (t := 3) (p := 37) rfl rfl ?hr ?_; (case hr => first | (go_simp; done) | (go_simp; rfl)); intro w360 hst; clear hc358 hz359; have hq0 : Sep (fps []) w [b2 g29 a25 a26 a27 a28, b3 g32 0 0 0 0 0 0 0 0, b3 g189 t186 (wrap64 (a26 - 8)) (wrap64 ((wrap64 (a26 - 8)) + 1)) t355 0 0 0 0, b4 g352 (wrap64 (a26 - 8)) (wrap64 (a26 - 1))] (World.setCell w357 ⟨g189, 3, none⟩ (.int .i64 t355)) := (HS.out).set1 (l1 := [b2 g29 a25 a26 a27 a28, b3 g32 0 0 0 0 0 0 0 0]) (l2 := [b4 g352 (wrap64 (a26 - 8)) (wrap64 (a26 - 1))]) 3 (.int .i64 t355); replace HS : Aside0 (Sep (fps []) w [b2 g29 a25 a26 a27 a28, b3 g32 0 0 0 0 0 0 0 0, b3 g189 t186 (wrap64 (a26 - 8)) (wrap64 ((wrap64 (a26 - 8)) + 1)) t355 0 0 0 0, b4 g352 (wrap64 (a26 - 8)) (wrap64 (a26 - 1))] w360) := ⟨by rw [hst]; exact hq0⟩; clear hq0; clear hst; replace HS : Aside0 (Sep (fps []) w [b2 g29 a25 a26 a27 a28, b3 g32 0 0 0 0 0 0 0 0, b3 g189 t186 (wrap64 (a26 - 8)) (wrap64 ((wrap64 (a26 - 8)) + 1)) t355 0 0 0 0] w360) := ⟨HS.out.sub (.cons_cons _ (.cons_cons _ (.cons_cons _ (.cons _ .slnil))))⟩; have hc361 : w360.cell? ⟨g29, 0, none⟩ = some (.int .i64 a25) := blk_cellv (HS.out.at0) 0 rfl; have hc362 : w360.cell? ⟨g29, 1, none⟩ = some (.int .i64 a26) := blk_cellv (HS.out.at0) 1 rfl) | ((with_reducible refine gate_dst (N := 43) rfl ?_); refine slice_on (n := 2) ?hg (N := 43) ?hd (cs := #[.int .i64 a25, .int .i64 (wrap64 (a26 + 1))]) (t := 3) ?hr ?_; (case hd => rfl); (case hg => rfl); (case hr => first | (go_simp; done) | (go_simp; rfl)); intro g363 hg w364 hbox hb; clear hc361 hc362; replace HS : Aside0 (Sep (fps []) w [b2 g29 a25 a26 a27 a28, b3 g32 0 0 0 0 0 0 0 0, b3 g189 t186 (wrap64 (a26 - 8)) (wrap64 ((wrap64 (a26 - 8)) + 1)) t355 0 0 0 0, b4 g363 a25 (wrap64 (a26 + 1))] w364) := ⟨HS.out.box hg hbox hb⟩; clear hg hbox hb))
      obtain ⟨t366, HA367, H⟩ := bind_some H
      refine (ratio_Mul.calls _ [a25, wrap64 (a26 + 1)] (some ⟨g363, 0, none⟩) 2 t366 _ ⟨Rd.lit (l := []) (xs := [a25, wrap64 (a26 + 1)]) HS.out 3 rfl (by simp)⟩ ⟨HGl0.out.pass (l := []) HS.out⟩ ⟨Sep.start _⟩ HA367).mono ?_
      rintro e_ w368 ⟨rfl, hS⟩
      replace HS : Aside0 (Sep (fps []) w [b2 g29 a25 a26 a27 a28, b3 g32 0 0 0 0 0 0 0 0, b3 g189 t186 (wrap64 (a26 - 8)) (wrap64 ((wrap64 (a26 - 8)) + 1)) t355 0 0 0 0, b4 g363 a25 (wrap64 (a26 + 1))] w368) := ⟨HS.out.call hS⟩
      clear hS
      have hc369 : w368.cell? ⟨g189, 5, none⟩ = some (.int .i64 0) := blk_cellv (HS.out.at2) 5 rfl
      have hz370 : w368.frozen? ⟨g189, 5, none⟩ = false := blk_fz (HS.out.at2) 5
      go_wp2_with (first | ((with_reducible refine gate_store (t := 3) (p := 45) rfl ?_); refine store_event (w1 := (World.setCell w368 ⟨g189, 5, none⟩ (.int .i64 t366))) rfl (t := 3) (p := 45) rfl rfl ?hr ?_; (case hr => first | (go_simp; done) | (go_simp; rfl)); intro w371 hst; clear hc369 hz370; have hq0 : Sep (fps []) w [b2 g29 a25 a26 a27 a28, b3 g32 0 0 0 0 0 0 0 0, b3 g189 t186 (wrap64 (a26 - 8)) (wrap64 ((wrap64 (a26 - 8)) + 1)) t355 0 t366 0 0, b4 g363 a25 (wrap64 (a26 + 1))] (World.setCell w368 ⟨g189, 5, none⟩ (.int .i64 t366)) := (HS.out).set1 (l1 := [b2 g29 a25 a26 a27 a28, b3 g32 0 0 0 0 0 0 0 0]) (l2 := [b4 g363 a25 (wrap64 (a26 + 1))]) 5 (.int .i64 t366); replace HS : Aside0 (Sep (fps []) w [b2 g29 a25 a26 a27 a28, b3 g32 0 0 0 0 0 0 0 0, b3 g189 t186 (wrap64 (a26 - 8)) (wrap64 ((wrap64 (a26 - 8)) + 1)) t355 0 t366 0 0, b4 g363 a25 (wrap64 (a26 + 1))] w371) := ⟨by rw [hst]; exact hq0⟩; clear hq0; clear hst; replace HS : Aside0 (Sep (fps []) w [b2 g29 a25 a26 a27 a28, b3 g32 0 0 0 0 0 0 0 0, b3 g189 t186 (wrap64 (a26 - 8)) (wrap64 ((wrap64 (a26 - 8)) + 1)) t355 0 t366 0 0] w371) := ⟨HS.out.sub (.cons_cons _ (.cons_cons _ (.cons_cons _ (.cons _ .slnil))))⟩; have hc372 : w371.cell? ⟨g189, 5, none⟩ = some (.int .i64 t366) := blk_cellv (HS.out.at2) 5 rfl) | ((with_reducible refine gate_dst (N := 48) rfl ?_); refine slice_on (n := 2) ?hg (N := 48) ?hd (cs := #[.int .i64 3, .int .i64 t366]) (t := 3) ?hr ?_; (case hd => rfl); (case hg => rfl); (case hr => first | (go_simp; done) | (go_simp; rfl)); intro g373 hg w374 hbox hb; clear hc372; replace HS : Aside0 (Sep (fps []) w [b2 g29 a25 a26 a27 a28, b3 g32 0 0 0 0 0 0 0 0, b3 g189 t186 (wrap64 (a26 - 8)) (wrap64 ((wrap64 (a26 - 8)) + 1)) t355 0 t366 0 0, b4 g373 3 t366] w374) := ⟨HS.out.box hg hbox hb⟩; clear hg hbox hb))
      obtain ⟨t376, HA377, H⟩ := bind_some H
      refine (ratio_Mul.calls _ [3, t366] (some ⟨g373, 0, none⟩) 2 t376 _ ⟨Rd.lit (l := []) (xs := [3, t366]) HS.out 3 rfl (by simp)⟩ ⟨HGl0.out.pass (l := []) HS.out⟩ ⟨Sep.start _⟩ HA377).mono ?_
      rintro e_ w378 ⟨rfl, hS⟩
      replace HS : Aside0 (Sep (fps []) w [b2 g29 a25 a26 a27 a28, b3 g32 0 0 0 0 0 0 0 0, b3 g189 t186 (wrap64 (a26 - 8)) (wrap64 ((wrap64 (a26 - 8)) + 1)) t355 0 t366 0 0, b4 g373 3 t366] w378) := ⟨HS.out.call hS⟩
      clear hS
      go_wp2_with (first | ((with_reducible refine gate_dst (N := 50) rfl ?_); refine slice_on (n := 2) ?hg (N := 50) ?hd (cs := #[.int .i64 t376, .int .i64 4]) (t := 3) ?hr ?_; (case hd => rfl); (case hg => rfl); (case hr => first | (go_simp; done) | (go_simp; rfl)); intro g379 hg w380 hbox hb; replace HS : Aside0 (Sep (fps []) w [b2 g29 a25 a26 a27 a28, b3 g32 0 0 0 0 0 0 0 0, b3 g189 t186 (wrap64 (a26 - 8)) (wrap64 ((wrap64 (a26 - 8)) + 1)) t355 0 t366 0 0, b4 g373 3 t366, b4 g379 t376 4] w380) := ⟨HS.out.box hg hbox hb⟩; clear hg hbox hb))
      obtain ⟨t382, HA383, H⟩ := bind_some H
      refine (ratio_Add.calls _ [t376, 4] (some ⟨g379, 0, none⟩) 2 t382 _ ⟨Rd.lit (l := []) (xs := [t376, 4]) HS.out 4 rfl (by simp)⟩ ⟨HGl0.out.pass (l := []) HS.out⟩ ⟨Sep.start _⟩ HA383).mono ?_
      rintro e_ w384 ⟨rfl, hS⟩
      replace HS : Aside0 (Sep (fps []) w [b2 g29 a25 a26 a27 a28, b3 g32 0 0 0 0 0 0 0 0, b3 g189 t186 (wrap64 (a26 - 8)) (wrap64 ((wrap64 (a26 - 8)) + 1)) t355 0 t366 0 0, b4 g373 3 t366, b4 g379 t376 4] w384) := ⟨HS.out.call hS⟩
      clear hS
      have hc385 : w384.cell? ⟨g189, 4, none⟩ = some (.int .i64 0) := blk_cellv (HS.out.at2) 4 rfl
      have hz386 : w384.frozen? ⟨g189, 4, none⟩ = false := blk_fz (HS.out.at2) 4
      go_wp2_with (first | ((with_reducible refine gate_store (t := 3) (p := 52) rfl ?_); refine store_event (w1 := (World.setCell w384 ⟨g189, 4, none⟩ (.int .i64 t382))) rfl (t := 3) (p := 52) rfl rfl ?hr ?_; (case hr => first | (go_simp; done) | (go_simp; rfl)); intro w387 hst; clear hc385 hz386; have hq0 : Sep (fps []) w [b2 g29 a25 a26 a27 a28, b3 g32 0 0 0 0 0 0 0 0, b3 g189 t186 (wrap64 (a26 - 8)) (wrap64 ((wrap64 (a26 - 8)) + 1)) t355 t382 t366 0 0, b4 g373 3 t366, b4 g379 t376 4] (World.setCell w384 ⟨g189, 4, none⟩ (.int .i64 t382)) := (HS.out).set1 (l1 := [b2 g29 a25 a26 a27 a28, b3 g32 0 0 0 0 0 0 0 0]) (l2 := [b4 g373 3 t366, b4 g379 t376 4]) 4 (.int .i64 t382); replace HS : Aside0 (Sep (fps []) w [b2 g29 a25 a26 a27 a28, b3 g32 0 0 0 0 0 0 0 0, b3 g189 t186 (wrap64 (a26 - 8)) (wrap64 ((wrap64 (a26 - 8)) + 1)) t355 t382 t366 0 0, b4 g373 3 t366, b4 g379 t376 4] w387) := ⟨by rw [hst]; exact hq0⟩; clear hq0; clear hst; replace HS : Aside0 (Sep (fps []) w [b2 g29 a25 a26 a27 a28, b3 g32 0 0 0 0 0 0 0 0, b3 g189 t186 (wrap64 (a26 - 8)) (wrap64 ((wrap64 (a26 - 8)) + 1)) t355 t382 t366 0 0] w387) := ⟨HS.out.sub (.cons_cons _ (.cons_cons _ (.cons_cons _ (.cons _ (.cons _ .slnil)))))⟩))
      obtain ⟨t407, HA408, H⟩ := bind_some H
      obtain ⟨t413, HA414, H⟩ := bind_some H
      obtain ⟨t419, HA420, H⟩ := bind_some H
      obtain ⟨t425, HA426, H⟩ := bind_some H
      go_cut [] (fun wc => ∃ (g410 : Nat) (g416 : Nat) (g422 : Nat), Aside0 (Sep (fps []) w [b2 g29 a25 a26 a27 a28, b3 g32 0 0 0 0 0 0 0 0, b3 g189 t186 (wrap64 (a26 - 8)) (wrap64 ((wrap64 (a26 - 8)) + 1)) t355 t382 t366 t425 0, b4 g410 2 t407, b4 g416 2 (wrap64 ((wrap64 (a26 - 8)) + 1)), b4 g422 t413 t419] wc))
      case first =>
        go_wp2_with fail
        refine start_ (n := 15) (S := (fun w' => w'.cell? ⟨g189, 4, none⟩ = some (.int .i64 t382) ∧ w'.cell? ⟨g29, 3, none⟩ = some (.int .i64 a28) ∧ w'.cell? ⟨g189, 2, none⟩ = some (.int .i64 (wrap64 ((wrap64 (a26 - 8)) + 1))))) (ds := []) #[false, false, false, false, false, false, false, false, false, false, false, false, false, false, false] (by kernel_rfl) rfl rfl (⟨blk_cellv ((HS.out.drew).at2) 4 rfl, blk_cellv ((HS.out.drew).at0) 3 rfl, blk_cellv ((HS.out.drew).at2) 2 rfl⟩) (fun hHeld => ?_)
        have HS_ := Aside0.mk HS.out.drew
        clear HS
        generalize World.drew _ = w433 at HS_ hHeld ⊢
        have HS := HS_
        clear HS_
        refine pure_ (i := 0) (N := some 53) (v := ?_) (a' := ?_) #[true, false, false, false, false, false, false, false, false, false, false, false, false, false, false] rfl rfl (by kernel_rfl) (fun _ _ _ h => h) (Or.inl ⟨by rfl, ?_⟩) ?_ ?_
        rotate_left
        · intro w'
          go_simp
          with_reducible rfl
        rotate_left
        · simp only [Act.put, List.setIfInBounds_toArray, List.set_cons_zero, List.set_cons_succ, i64_w, i32_w]
          rfl
        refine pure_ (i := 2) (N := some 55) (v := ?_) (a' := ?_) #[true, false, true, false, false, false, false, false, false, false, false, false, false, false, false] rfl rfl (by kernel_rfl) (fun _ _ _ h => h) (Or.inl ⟨by rfl, ?_⟩) ?_ ?_
        rotate_left
        · intro w'
          go_simp
          with_reducible rfl
        rotate_left
        · simp only [Act.put, List.setIfInBounds_toArray, List.set_cons_zero, List.set_cons_succ, i64_w, i32_w]
          rfl
        refine pure_ (i := 7) (N := some 60) (v := ?_) (a' := ?_) #[true, false, true, false, false, false, false, true, false, false, false, false, false, false, false] rfl rfl (by kernel_rfl) (fun _ _ _ h => h) (Or.inl ⟨by rfl, ?_⟩) ?_ ?_
        rotate_left
        · intro w'
          go_simp
          with_reducible rfl
        rotate_left
        · simp only [Act.put, List.setIfInBounds_toArray, List.set_cons_zero, List.set_cons_succ, i64_w, i32_w]
          rfl
        refine take_ (i := 1) (N := some 54) (v := ?_) (a' := ?_) #[true, true, true, false, false, false, false, true, false, false, false, false, false, false, false] rfl rfl (by kernel_rfl) (fun _ _ _ h => h) (Or.inl ⟨by rfl, ?_⟩) hHeld ?_ ?_
        rotate_left
        · rintro w' hS'
          obtain ⟨s0, s1, s2⟩ := hS'
          go_simp
          with_reducible rfl
        rotate_left
        · simp only [Act.put, List.setIfInBounds_toArray, List.set_cons_zero, List.set_cons_succ, i64_w, i32_w]
          rfl
        refine take_ (i := 3) (N := some 56) (v := ?_) (a' := ?_) #[true, true, true, true, false, false, false, true, false, false, false, false, false, false, false] rfl rfl (by kernel_rfl) (fun _ _ _ h => h) (Or.inl ⟨by rfl, ?_⟩) hHeld ?_ ?_
        rotate_left
        · rintro w' hS'
          obtain ⟨s0, s1, s2⟩ := hS'
          go_simp
          with_reducible rfl
        rotate_left
        · simp only [Act.put, List.setIfInBounds_toArray, List.set_cons_zero, List.set_cons_succ, i64_w, i32_w]
          rfl
        refine take_ (i := 8) (N := some 61) (v := ?_) (a' := ?_) #[true, true, true, true, false, false, false, true, true, false, false, false, false, false, false] rfl rfl (by kernel_rfl) (fun _ _ _ h => h) (Or.inl ⟨by rfl, ?_⟩) hHeld ?_ ?_
        rotate_left
        · rintro w' hS'
          obtain ⟨s0, s1, s2⟩ := hS'
          go_simp
          with_reducible rfl
        rotate_left
        · simp only [Act.put, List.setIfInBounds_toArray, List.set_cons_zero, List.set_cons_succ, i64_w, i32_w]
          rfl
        refine two_ (i := 4) (j := 9) (Ni := some 57) (Nj := some 62) #[true, true, true, true, true, false, false, true, true, false, false, false, false, false, false] #[true, true, true, true, false, false, false, true, true, true, false, false, false, false, false] rfl rfl rfl rfl (by kernel_rfl) (by decide) (by decide) (fun K hK => ?_) (fun K hK => ?_)
        · refine goes_ Tryd.func124 (by kernel_rfl) rfl #[.int .i64 t382, .int .i64 a28] (by rfl) rfl rfl (by (try simp only [List.map_toArray, List.map_cons, List.map_nil]); first | done | rfl) ?_
          refine (ratio_Up.calls t382 a28 t407 _ ⟨HGl0.out.pass (l := []) HS.out⟩ ⟨Sep.start _⟩ HA408).mono ?_
          rintro e_ w435 ⟨rfl, hS⟩
          replace HS : Aside0 (Sep (fps []) w [b2 g29 a25 a26 a27 a28, b3 g32 0 0 0 0 0 0 0 0, b3 g189 t186 (wrap64 (a26 - 8)) (wrap64 ((wrap64 (a26 - 8)) + 1)) t355 t382 t366 0 0] w435) := ⟨HS.out.call hS⟩
          clear hS
          refine ⟨_, rfl, ?_⟩
          refine hK.out _ _ (⟨blk_cellv (HS.out.at2) 4 rfl, blk_cellv (HS.out.at0) 3 rfl, blk_cellv (HS.out.at2) 2 rfl⟩) (fun hHeld => ?_)
          clear hK K
          refine norm_ (a' := ?_) ?_ ?_
          rotate_left
          · show Act.put _ (some 57) _ = _
            simp only [Act.put, List.setIfInBounds_toArray, List.set_cons_zero, List.set_cons_succ, i64_w, i32_w]
            rfl
          refine two_ (i := 5) (j := 9) (Ni := some 58) (Nj := some 62) #[true, true, true, true, true, true, false, true, true, false, false, false, false, false, false] #[true, true, true, true, true, false, false, true, true, true, false, false, false, false, false] rfl rfl rfl rfl (by kernel_rfl) (by decide) (by decide) (fun K hK => ?_) (fun K hK => ?_)
          · refine slice_step (n := 2) (by rfl) (N := 58) rfl (cs := #[.int .i64 2, .int .i64 t407]) (t := 3) ?hr ?_
            case hr => first | (go_simp; done) | (go_simp; rfl)
            intro g436 hg w437 hbox hb
            replace HS : Aside0 (Sep (fps []) w [b2 g29 a25 a26 a27 a28, b3 g32 0 0 0 0 0 0 0 0, b3 g189 t186 (wrap64 (a26 - 8)) (wrap64 ((wrap64 (a26 - 8)) + 1)) t355 t382 t366 0 0, b4 g436 2 t407] w437) := ⟨HS.out.box hg hbox hb⟩
            clear hg hbox hb
            refine hK.out _ _ (⟨blk_cellv (HS.out.at2) 4 rfl, blk_cellv (HS.out.at0) 3 rfl, blk_cellv (HS.out.at2) 2 rfl⟩) (fun hHeld => ?_)
            clear hK K
            refine norm_ (a' := ?_) ?_ ?_
            rotate_left
            · show Act.put _ (some 58) _ = _
              simp only [Act.put, List.setIfInBounds_toArray, List.set_cons_zero, List.set_cons_succ, i64_w, i32_w]
              rfl
            refine two_ (i := 6) (j := 9) (Ni := some 59) (Nj := some 62) #[true, true, true, true, true, true, true, true, true, false, false, false, false, false, false] #[true, true, true, true, true, true, false, true, true, true, false, false, false, false, false] rfl rfl rfl rfl (by kernel_rfl) (by decide) (by decide) (fun K hK => ?_) (fun K hK => ?_)
            · refine goes_ Tryd.func123 (by kernel_rfl) rfl #[.slice (some ⟨g436, 0, none⟩) 2 2] (by rfl) rfl rfl (by (try simp only [List.map_toArray, List.map_cons, List.map_nil]); first | done | rfl) ?_
              refine (ratio_Mul.calls _ [2, t407] (some ⟨g436, 0, none⟩) 2 t413 _ ⟨Rd.lit (l := []) (xs := [2, t407]) HS.out 3 rfl (by simp)⟩ ⟨HGl0.out.pass (l := []) HS.out⟩ ⟨Sep.start _⟩ HA414).mono ?_
              rintro e_ w440 ⟨rfl, hS⟩
              replace HS : Aside0 (Sep (fps []) w [b2 g29 a25 a26 a27 a28, b3 g32 0 0 0 0 0 0 0 0, b3 g189 t186 (wrap64 (a26 - 8)) (wrap64 ((wrap64 (a26 - 8)) + 1)) t355 t382 t366 0 0, b4 g436 2 t407] w440) := ⟨HS.out.call hS⟩
              clear hS
              refine ⟨_, rfl, ?_⟩
              refine hK.out _ _ (⟨blk_cellv (HS.out.at2) 4 rfl, blk_cellv (HS.out.at0) 3 rfl, blk_cellv (HS.out.at2) 2 rfl⟩) (fun hHeld => ?_)
              clear hK K
              refine norm_ (a' := ?_) ?_ ?_
              rotate_left
              · show Act.put _ (some 59) _ = _
                simp only [Act.put, List.setIfInBounds_toArray, List.set_cons_zero, List.set_cons_succ, i64_w, i32_w]
                rfl
              refine one_ (i := 9) (N := some 62) #[true, true, true, true, true, true, true, true, true, true, false, false, false, false, false] rfl rfl (by kernel_rfl) (by decide) (fun K hK => ?_)
              refine slice_step (n := 2) (by rfl) (N := 62) rfl (cs := #[.int .i64 2, .int .i64 (wrap64 ((wrap64 (a26 - 8)) + 1))]) (t := 3) ?hr ?_
              case hr => first | (go_simp; done) | (go_simp; rfl)
              intro g441 hg w442 hbox hb
              replace HS : Aside0 (Sep (fps []) w [b2 g29 a25 a26 a27 a28, b3 g32 0 0 0 0 0 0 0 0, b3 g189 t186 (wrap64 (a26 - 8)) (wrap64 ((wrap64 (a26 - 8)) + 1)) t355 t382 t366 0 0, b4 g436 2 t407, b4 g441 2 (wrap64 ((wrap64 (a26 - 8)) + 1))] w442) := ⟨HS.out.box hg hbox hb⟩
              clear hg hbox hb
              refine hK.out _ _ (⟨blk_cellv (HS.out.at2) 4 rfl, blk_cellv (HS.out.at0) 3 rfl, blk_cellv (HS.out.at2) 2 rfl⟩) (fun hHeld => ?_)
              clear hK K
              refine norm_ (a' := ?_) ?_ ?_
              rotate_left
              · show Act.put _ (some 62) _ = _
                simp only [Act.put, List.setIfInBounds_toArray, List.set_cons_zero, List.set_cons_succ, i64_w, i32_w]
                rfl
              refine one_ (i := 10) (N := some 63) #[true, true, true, true, true, true, true, true, true, true, true, false, false, false, false] rfl rfl (by kernel_rfl) (by decide) (fun K hK => ?_)
              refine goes_ Tryd.func123 (by kernel_rfl) rfl #[.slice (some ⟨g441, 0, none⟩) 2 2] (by rfl) rfl rfl (by (try simp only [List.map_toArray, List.map_cons, List.map_nil]); first | done | rfl) ?_
              refine (ratio_Mul.calls _ [2, wrap64 ((wrap64 (a26 - 8)) + 1)] (some ⟨g441, 0, none⟩) 2 t419 _ ⟨Rd.lit (l := []) (xs := [2, wrap64 ((wrap64 (a26 - 8)) + 1)]) HS.out 4 rfl (by simp)⟩ ⟨HGl0.out.pass (l := []) HS.out⟩ ⟨Sep.start _⟩ HA420).mono ?_
              rintro e_ w445 ⟨rfl, hS⟩
              replace HS : Aside0 (Sep (fps []) w [b2 g29 a25 a26 a27 a28, b3 g32 0 0 0 0 0 0 0 0, b3 g189 t186 (wrap64 (a26 - 8)) (wrap64 ((wrap64 (a26 - 8)) + 1)) t355 t382 t366 0 0, b4 g436 2 t407, b4 g441 2 (wrap64 ((wrap64 (a26 - 8)) + 1))] w445) := ⟨HS.out.call hS⟩
              clear hS
              refine ⟨_, rfl, ?_⟩
              refine hK.out _ _ (⟨blk_cellv (HS.out.at2) 4 rfl, blk_cellv (HS.out.at0) 3 rfl, blk_cellv (HS.out.at2) 2 rfl⟩) (fun hHeld => ?_)
              clear hK K
              refine norm_ (a' := ?_) ?_ ?_
              rotate_left
              · show Act.put _ (some 63) _ = _
                simp only [Act.put, List.setIfInBounds_toArray, List.set_cons_zero, List.set_cons_succ, i64_w, i32_w]
                rfl
              refine one_ (i := 11) (N := some 64) #[true, true, true, true, true, true, true, true, true, true, true, true, false, false, false] rfl rfl (by kernel_rfl) (by decide) (fun K hK => ?_)
              refine slice_step (n := 2) (by rfl) (N := 64) rfl (cs := #[.int .i64 t413, .int .i64 t419]) (t := 3) ?hr ?_
              case hr => first | (go_simp; done) | (go_simp; rfl)
              intro g446 hg w447 hbox hb
              replace HS : Aside0 (Sep (fps []) w [b2 g29 a25 a26 a27 a28, b3 g32 0 0 0 0 0 0 0 0, b3 g189 t186 (wrap64 (a26 - 8)) (wrap64 ((wrap64 (a26 - 8)) + 1)) t355 t382 t366 0 0, b4 g436 2 t407, b4 g441 2 (wrap64 ((wrap64 (a26 - 8)) + 1)), b4 g446 t413 t419] w447) := ⟨HS.out.box hg hbox hb⟩
              clear hg hbox hb
              refine hK.out _ _ (⟨blk_cellv (HS.out.at2) 4 rfl, blk_cellv (HS.out.at0) 3 rfl, blk_cellv (HS.out.at2) 2 rfl⟩) (fun hHeld => ?_)
              clear hK K
              refine norm_ (a' := ?_) ?_ ?_
              rotate_left
              · show Act.put _ (some 64) _ = _
                simp only [Act.put, List.setIfInBounds_toArray, List.set_cons_zero, List.set_cons_succ, i64_w, i32_w]
                rfl
              refine one_ (i := 12) (N := some 65) #[true, true, true, true, true, true, true, true, true, true, true, true, true, false, false] rfl rfl (by kernel_rfl) (by decide) (fun K hK => ?_)
              refine goes_ Tryd.func122 (by kernel_rfl) rfl #[.slice (some ⟨g446, 0, none⟩) 2 2] (by rfl) rfl rfl (by (try simp only [List.map_toArray, List.map_cons, List.map_nil]); first | done | rfl) ?_
              refine (ratio_Add.calls _ [t413, t419] (some ⟨g446, 0, none⟩) 2 t425 _ ⟨Rd.lit (l := []) (xs := [t413, t419]) HS.out 5 rfl (by simp)⟩ ⟨HGl0.out.pass (l := []) HS.out⟩ ⟨Sep.start _⟩ HA426).mono ?_
              rintro e_ w450 ⟨rfl, hS⟩
              replace HS : Aside0 (Sep (fps []) w [b2 g29 a25 a26 a27 a28, b3 g32 0 0 0 0 0 0 0 0, b3 g189 t186 (wrap64 (a26 - 8)) (wrap64 ((wrap64 (a26 - 8)) + 1)) t355 t382 t366 0 0, b4 g436 2 t407, b4 g441 2 (wrap64 ((wrap64 (a26 - 8)) + 1)), b4 g446 t413 t419] w450) := ⟨HS.out.call hS⟩
              clear hS
              refine ⟨_, rfl, ?_⟩
              refine hK.out _ _ (⟨blk_cellv (HS.out.at2) 4 rfl, blk_cellv (HS.out.at0) 3 rfl, blk_cellv (HS.out.at2) 2 rfl⟩) (fun hHeld => ?_)
              clear hK K
              refine norm_ (a' := ?_) ?_ ?_
              rotate_left
              · show Act.put _ (some 65) _ = _
                simp only [Act.put, List.setIfInBounds_toArray, List.set_cons_zero, List.set_cons_succ, i64_w, i32_w]
                rfl
              refine pure_ (i := 13) (N := some 66) (v := ?_) (a' := ?_) #[true, true, true, true, true, true, true, true, true, true, true, true, true, true, false] rfl rfl (by kernel_rfl) (fun _ _ _ h => h) (Or.inl ⟨by rfl, ?_⟩) ?_ ?_
              rotate_left
              · intro w'
                go_simp
                with_reducible rfl
              rotate_left
              · simp only [Act.put, List.setIfInBounds_toArray, List.set_cons_zero, List.set_cons_succ, i64_w, i32_w]
                rfl
              refine one_ (i := 14) (N := none) #[true, true, true, true, true, true, true, true, true, true, true, true, true, true, true] rfl rfl (by kernel_rfl) (by decide) (fun K hK => ?_)
              have hc452 := blk_cellv (v := .int .i64 0) (HS.out.at2) 6 rfl
              have hz453 := blk_fz (HS.out.at2) 6
              refine store_step (w1 := (World.setCell w450 ⟨g189, 6, none⟩ (.int .i64 t425))) (by rfl) rfl ?hr ?_
              case hr => first | (go_simp; done) | (go_simp; rfl)
              clear hc452 hz453
              intro w451 hst
              have hq0 : Sep (fps []) w [b2 g29 a25 a26 a27 a28, b3 g32 0 0 0 0 0 0 0 0, b3 g189 t186 (wrap64 (a26 - 8)) (wrap64 ((wrap64 (a26 - 8)) + 1)) t355 t382 t366 t425 0, b4 g436 2 t407, b4 g441 2 (wrap64 ((wrap64 (a26 - 8)) + 1)), b4 g446 t413 t419] (World.setCell w450 ⟨g189, 6, none⟩ (.int .i64 t425)) := (HS.out).set1 (l1 := [b2 g29 a25 a26 a27 a28, b3 g32 0 0 0 0 0 0 0 0]) (l2 := [b4 g436 2 t407, b4 g441 2 (wrap64 ((wrap64 (a26 - 8)) + 1)), b4 g446 t413 t419]) 6 (.int .i64 t425)
              have HS_ : Aside0 (Sep (fps []) w [b2 g29 a25 a26 a27 a28, b3 g32 0 0 0 0 0 0 0 0, b3 g189 t186 (wrap64 (a26 - 8)) (wrap64 ((wrap64 (a26 - 8)) + 1)) t355 t382 t366 t425 0, b4 g436 2 t407, b4 g441 2 (wrap64 ((wrap64 (a26 - 8)) + 1)), b4 g446 t413 t419] w451) := ⟨by rw [hst]; exact hq0⟩
              clear hq0
              clear HS hst
              have HS := HS_
              clear HS_
              refine hK.out _ _ (⟨blk_cellv (HS.out.at2) 4 rfl, blk_cellv (HS.out.at0) 3 rfl, blk_cellv (HS.out.at2) 2 rfl⟩) (fun hHeld => ?_)
              clear hK K
              refine done_ (by kernel_rfl) ?_
              go_wp2_with fail
              go_meet
              case rel => exact ⟨g436, g441, g446, ⟨((((((HS.out).front 5 (by simp)).front 5 (by simp)).front 5 (by simp)).front 5 (by simp)).front 5 (by simp)).front 5 (by simp)⟩⟩
            · refine slice_step (n := 2) (by rfl) (N := 62) rfl (cs := #[.int .i64 2, .int .i64 (wrap64 ((wrap64 (a26 - 8)) + 1))]) (t := 3) ?hr ?_
              case hr => first | (go_simp; done) | (go_simp; rfl)
              intro g454 hg w455 hbox hb
              replace HS : Aside0 (Sep (fps []) w [b2 g29 a25 a26 a27 a28, b3 g32 0 0 0 0 0 0 0 0, b3 g189 t186 (wrap64 (a26 - 8)) (wrap64 ((wrap64 (a26 - 8)) + 1)) t355 t382 t366 0 0, b4 g436 2 t407, b4 g454 2 (wrap64 ((wrap64 (a26 - 8)) + 1))] w455) := ⟨HS.out.box hg hbox hb⟩
              clear hg hbox hb
              refine hK.out _ _ (⟨blk_cellv (HS.out.at2) 4 rfl, blk_cellv (HS.out.at0) 3 rfl, blk_cellv (HS.out.at2) 2 rfl⟩) (fun hHeld => ?_)
              clear hK K
              refine norm_ (a' := ?_) ?_ ?_
              rotate_left
              · show Act.put _ (some 62) _ = _
                simp only [Act.put, List.setIfInBounds_toArray, List.set_cons_zero, List.set_cons_succ, i64_w, i32_w]
                rfl
              refine one_ (i := 6) (N := some 59) #[true, true, true, true, true, true, true, true, true, true, false, false, false, false, false] rfl rfl (by kernel_rfl) (by decide) (fun K hK => ?_)
              refine goes_ Tryd.func123 (by kernel_rfl) rfl #[.slice (some ⟨g436, 0, none⟩) 2 2] (by rfl) rfl rfl (by (try simp only [List.map_toArray, List.map_cons, List.map_nil]); first | done | rfl) ?_
              refine (ratio_Mul.calls _ [2, t407] (some ⟨g436, 0, none⟩) 2 t413 _ ⟨Rd.lit (l := []) (xs := [2, t407]) HS.out 3 rfl (by simp)⟩ ⟨HGl0.out.pass (l := []) HS.out⟩ ⟨Sep.start _⟩ HA414).mono ?_
              rintro e_ w458 ⟨rfl, hS⟩
              replace HS : Aside0 (Sep (fps []) w [b2 g29 a25 a26 a27 a28, b3 g32 0 0 0 0 0 0 0 0, b3 g189 t186 (wrap64 (a26 - 8)) (wrap64 ((wrap64 (a26 - 8)) + 1)) t355 t382 t366 0 0, b4 g436 2 t407, b4 g454 2 (wrap64 ((wrap64 (a26 - 8)) + 1))] w458) := ⟨HS.out.call hS⟩
              clear hS
              refine ⟨_, rfl, ?_⟩
              refine hK.out _ _ (⟨blk_cellv (HS.out.at2) 4 rfl, blk_cellv (HS.out.at0) 3 rfl, blk_cellv (HS.out.at2) 2 rfl⟩) (fun hHeld => ?_)
              clear hK K
              refine norm_ (a' := ?_) ?_ ?_
              rotate_left
              · show Act.put _ (some 59) _ = _
                simp only [Act.put, List.setIfInBounds_toArray, List.set_cons_zero, List.set_cons_succ, i64_w, i32_w]
                rfl
              refine one_ (i := 10) (N := some 63) #[true, true, true, true, true, true, true, true, true, true, true, false, false, false, false] rfl rfl (by kernel_rfl) (by decide) (fun K hK => ?_)
              refine goes_ Tryd.func123 (by kernel_rfl) rfl #[.slice (some ⟨g454, 0, none⟩) 2 2] (by rfl) rfl rfl (by (try simp only [List.map_toArray, List.map_cons, List.map_nil]); first | done | rfl) ?_
              refine (ratio_Mul.calls _ [2, wrap64 ((wrap64 (a26 - 8)) + 1)] (some ⟨g454, 0, none⟩) 2 t419 _ ⟨Rd.lit (l := []) (xs := [2, wrap64 ((wrap64 (a26 - 8)) + 1)]) HS.out 4 rfl (by simp)⟩ ⟨HGl0.out.pass (l := []) HS.out⟩ ⟨Sep.start _⟩ HA420).mono ?_
              rintro e_ w460 ⟨rfl, hS⟩
              replace HS : Aside0 (Sep (fps []) w [b2 g29 a25 a26 a27 a28, b3 g32 0 0 0 0 0 0 0 0, b3 g189 t186 (wrap64 (a26 - 8)) (wrap64 ((wrap64 (a26 - 8)) + 1)) t355 t382 t366 0 0, b4 g436 2 t407, b4 g454 2 (wrap64 ((wrap64 (a26 - 8)) + 1))] w460) := ⟨HS.out.call hS⟩
              clear hS
              refine ⟨_, rfl, ?_⟩
              refine hK.out _ _ (⟨blk_cellv (HS.out.at2) 4 rfl, blk_cellv (HS.out.at0) 3 rfl, blk_cellv (HS.out.at2) 2 rfl⟩) (fun hHeld => ?_)
              clear hK K
              refine norm_ (a' := ?_) ?_ ?_
              rotate_left
              · show Act.put _ (some 63) _ = _
                simp only [Act.put, List.setIfInBounds_toArray, List.set_cons_zero, List.set_cons_succ, i64_w, i32_w]
                rfl
              refine one_ (i := 11) (N := some 64) #[true, true, true, true, true, true, true, true, true, true, true, true, false, false, false] rfl rfl (by kernel_rfl) (by decide) (fun K hK => ?_)
              refine slice_step (n := 2) (by rfl) (N := 64) rfl (cs := #[.int .i64 t413, .int .i64 t419]) (t := 3) ?hr ?_
              case hr => first | (go_simp; done) | (go_simp; rfl)
              intro g461 hg w462 hbox hb
              replace HS : Aside0 (Sep (fps []) w [b2 g29 a25 a26 a27 a28, b3 g32 0 0 0 0 0 0 0 0, b3 g189 t186 (wrap64 (a26 - 8)) (wrap64 ((wrap64 (a26 - 8)) + 1)) t355 t382 t366 0 0, b4 g436 2 t407, b4 g454 2 (wrap64 ((wrap64 (a26 - 8)) + 1)), b4 g461 t413 t419] w462) := ⟨HS.out.box hg hbox hb⟩
              clear hg hbox hb
              refine hK.out _ _ (⟨blk_cellv (HS.out.at2) 4 rfl, blk_cellv (HS.out.at0) 3 rfl, blk_cellv (HS.out.at2) 2 rfl⟩) (fun hHeld => ?_)
              clear hK K
              refine norm_ (a' := ?_) ?_ ?_
              rotate_left
              · show Act.put _ (some 64) _ = _
                simp only [Act.put, List.setIfInBounds_toArray, List.set_cons_zero, List.set_cons_succ, i64_w, i32_w]
                rfl
              refine one_ (i := 12) (N := some 65) #[true, true, true, true, true, true, true, true, true, true, true, true, true, false, false] rfl rfl (by kernel_rfl) (by decide) (fun K hK => ?_)
              refine goes_ Tryd.func122 (by kernel_rfl) rfl #[.slice (some ⟨g461, 0, none⟩) 2 2] (by rfl) rfl rfl (by (try simp only [List.map_toArray, List.map_cons, List.map_nil]); first | done | rfl) ?_
              refine (ratio_Add.calls _ [t413, t419] (some ⟨g461, 0, none⟩) 2 t425 _ ⟨Rd.lit (l := []) (xs := [t413, t419]) HS.out 5 rfl (by simp)⟩ ⟨HGl0.out.pass (l := []) HS.out⟩ ⟨Sep.start _⟩ HA426).mono ?_
              rintro e_ w465 ⟨rfl, hS⟩
              replace HS : Aside0 (Sep (fps []) w [b2 g29 a25 a26 a27 a28, b3 g32 0 0 0 0 0 0 0 0, b3 g189 t186 (wrap64 (a26 - 8)) (wrap64 ((wrap64 (a26 - 8)) + 1)) t355 t382 t366 0 0, b4 g436 2 t407, b4 g454 2 (wrap64 ((wrap64 (a26 - 8)) + 1)), b4 g461 t413 t419] w465) := ⟨HS.out.call hS⟩
              clear hS
              refine ⟨_, rfl, ?_⟩
              refine hK.out _ _ (⟨blk_cellv (HS.out.at2) 4 rfl, blk_cellv (HS.out.at0) 3 rfl, blk_cellv (HS.out.at2) 2 rfl⟩) (fun hHeld => ?_)
              clear hK K
              refine norm_ (a' := ?_) ?_ ?_
              rotate_left
              · show Act.put _ (some 65) _ = _
                simp only [Act.put, List.setIfInBounds_toArray, List.set_cons_zero, List.set_cons_succ, i64_w, i32_w]
                rfl
              refine pure_ (i := 13) (N := some 66) (v := ?_) (a' := ?_) #[true, true, true, true, true, true, true, true, true, true, true, true, true, true, false] rfl rfl (by kernel_rfl) (fun _ _ _ h => h) (Or.inl ⟨by rfl, ?_⟩) ?_ ?_
              rotate_left
              · intro w'
                go_simp
                with_reducible rfl
              rotate_left
              · simp only [Act.put, List.setIfInBounds_toArray, List.set_cons_zero, List.set_cons_succ, i64_w, i32_w]
                rfl
              refine one_ (i := 14) (N := none) #[true, true, true, true, true, true, true, true, true, true, true, true, true, true, true] rfl rfl (by kernel_rfl) (by decide) (fun K hK => ?_)
              have hc467 := blk_cellv (v := .int .i64 0) (HS.out.at2) 6 rfl
              have hz468 := blk_fz (HS.out.at2) 6
              refine store_step (w1 := (World.setCell w465 ⟨g189, 6, none⟩ (.int .i64 t425))) (by rfl) rfl ?hr ?_
              case hr => first | (go_simp; done) | (go_simp; rfl)
              clear hc467 hz468
              intro w466 hst
              have hq0 : Sep (fps []) w [b2 g29 a25 a26 a27 a28, b3 g32 0 0 0 0 0 0 0 0, b3 g189 t186 (wrap64 (a26 - 8)) (wrap64 ((wrap64 (a26 - 8)) + 1)) t355 t382 t366 t425 0, b4 g436 2 t407, b4 g454 2 (wrap64 ((wrap64 (a26 - 8)) + 1)), b4 g461 t413 t419] (World.setCell w465 ⟨g189, 6, none⟩ (.int .i64 t425)) := (HS.out).set1 (l1 := [b2 g29 a25 a26 a27 a28, b3 g32 0 0 0 0 0 0 0 0]) (l2 := [b4 g436 2 t407, b4 g454 2 (wrap64 ((wrap64 (a26 - 8)) + 1)), b4 g461 t413 t419]) 6 (.int .i64 t425)
              have HS_ : Aside0 (Sep (fps []) w [b2 g29 a25 a26 a27 a28, b3 g32 0 0 0 0 0 0 0 0, b3 g189 t186 (wrap64 (a26 - 8)) (wrap64 ((wrap64 (a26 - 8)) + 1)) t355 t382 t366 t425 0, b4 g436 2 t407, b4 g454 2 (wrap64 ((wrap64 (a26 - 8)) + 1)), b4 g461 t413 t419] w466) := ⟨by rw [hst]; exact hq0⟩
              clear hq0
              clear HS hst
              have HS := HS_
              clear HS_
              refine hK.out _ _ (⟨blk_cellv (HS.out.at2) 4 rfl, blk_cellv (HS.out.at0) 3 rfl, blk_cellv (HS.out.at2) 2 rfl⟩) (fun hHeld => ?_)
              clear hK K
              refine done_ (by kernel_rfl) ?_
              go_wp2_with fail
              go_meet
              case rel => exact ⟨g436, g454, g461, ⟨((((((HS.out).front 5 (by simp)).front 5 (by simp)).front 5 (by simp)).front 5 (by simp)).front 5 (by simp)).front 5 (by simp)⟩⟩
          · refine slice_step (n := 2) (by rfl) (N := 62) rfl (cs := #[.int .i64 2, .int .i64 (wrap64 ((wrap64 (a26 - 8)) + 1))]) (t := 3) ?hr ?_
            case hr => first | (go_simp; done) | (go_simp; rfl)
            intro g469 hg w470 hbox hb
            replace HS : Aside0 (Sep (fps []) w [b2 g29 a25 a26 a27 a28, b3 g32 0 0 0 0 0 0 0 0, b3 g189 t186 (wrap64 (a26 - 8)) (wrap64 ((wrap64 (a26 - 8)) + 1)) t355 t382 t366 0 0, b4 g469 2 (wrap64 ((wrap64 (a26 - 8)) + 1))] w470) := ⟨HS.out.box hg hbox hb⟩
            clear hg hbox hb
            refine hK.out _ _ (⟨blk_cellv (HS.out.at2) 4 rfl, blk_cellv (HS.out.at0) 3 rfl, blk_cellv (HS.out.at2) 2 rfl⟩) (fun hHeld => ?_)
            clear hK K
            refine norm_ (a' := ?_) ?_ ?_
            rotate_left
            · show Act.put _ (some 62) _ = _
              simp only [Act.put, List.setIfInBounds_toArray, List.set_cons_zero, List.set_cons_succ, i64_w, i32_w]
              rfl
            refine one_ (i := 5) (N := some 58) #[true, true, true, true, true, true, false, true, true, true, false, false, false, false, false] rfl rfl (by kernel_rfl) (by decide) (fun K hK => ?_)
            refine slice_step (n := 2) (by rfl) (N := 58) rfl (cs := #[.int .i64 2, .int .i64 t407]) (t := 3) ?hr ?_
            case hr => first | (go_simp; done) | (go_simp; rfl)
            intro g472 hg w473 hbox hb
            replace HS : Aside0 (Sep (fps []) w [b2 g29 a25 a26 a27 a28, b3 g32 0 0 0 0 0 0 0 0, b3 g189 t186 (wrap64 (a26 - 8)) (wrap64 ((wrap64 (a26 - 8)) + 1)) t355 t382 t366 0 0, b4 g469 2 (wrap64 ((wrap64 (a26 - 8)) + 1)), b4 g472 2 t407] w473) := ⟨HS.out.box hg hbox hb⟩
            clear hg hbox hb
            refine hK.out _ _ (⟨blk_cellv (HS.out.at2) 4 rfl, blk_cellv (HS.out.at0) 3 rfl, blk_cellv (HS.out.at2) 2 rfl⟩) (fun hHeld => ?_)
            clear hK K
            refine norm_ (a' := ?_) ?_ ?_
            rotate_left
            · show Act.put _ (some 58) _ = _
              simp only [Act.put, List.setIfInBounds_toArray, List.set_cons_zero, List.set_cons_succ, i64_w, i32_w]
              rfl
            refine one_ (i := 6) (N := some 59) #[true, true, true, true, true, true, true, true, true, true, false, false, false, false, false] rfl rfl (by kernel_rfl) (by decide) (fun K hK => ?_)
            refine goes_ Tryd.func123 (by kernel_rfl) rfl #[.slice (some ⟨g472, 0, none⟩) 2 2] (by rfl) rfl rfl (by (try simp only [List.map_toArray, List.map_cons, List.map_nil]); first | done | rfl) ?_
            refine (ratio_Mul.calls _ [2, t407] (some ⟨g472, 0, none⟩) 2 t413 _ ⟨Rd.lit (l := []) (xs := [2, t407]) HS.out 4 rfl (by simp)⟩ ⟨HGl0.out.pass (l := []) HS.out⟩ ⟨Sep.start _⟩ HA414).mono ?_
            rintro e_ w476 ⟨rfl, hS⟩
            replace HS : Aside0 (Sep (fps []) w [b2 g29 a25 a26 a27 a28, b3 g32 0 0 0 0 0 0 0 0, b3 g189 t186 (wrap64 (a26 - 8)) (wrap64 ((wrap64 (a26 - 8)) + 1)) t355 t382 t366 0 0, b4 g469 2 (wrap64 ((wrap64 (a26 - 8)) + 1)), b4 g472 2 t407] w476) := ⟨HS.out.call hS⟩
            clear hS
            refine ⟨_, rfl, ?_⟩
            refine hK.out _ _ (⟨blk_cellv (HS.out.at2) 4 rfl, blk_cellv (HS.out.at0) 3 rfl, blk_cellv (HS.out.at2) 2 rfl⟩) (fun hHeld => ?_)
            clear hK K
            refine norm_ (a' := ?_) ?_ ?_
            rotate_left
            · show Act.put _ (some 59) _ = _
              simp only [Act.put, List.setIfInBounds_toArray, List.set_cons_zero, List.set_cons_succ, i64_w, i32_w]
              rfl
            refine one_ (i := 10) (N := some 63) #[true, true, true, true, true, true, true, true, true, true, true, false, false, false, false] rfl rfl (by kernel_rfl) (by decide) (fun K hK => ?_)
            refine goes_ Tryd.func123 (by kernel_rfl) rfl #[.slice (some ⟨g469, 0, none⟩) 2 2] (by rfl) rfl rfl (by (try simp only [List.map_toArray, List.map_cons, List.map_nil]); first | done | rfl) ?_
            refine (ratio_Mul.calls _ [2, wrap64 ((wrap64 (a26 - 8)) + 1)] (some ⟨g469, 0, none⟩) 2 t419 _ ⟨Rd.lit (l := []) (xs := [2, wrap64 ((wrap64 (a26 - 8)) + 1)]) HS.out 3 rfl (by simp)⟩ ⟨HGl0.out.pass (l := []) HS.out⟩ ⟨Sep.start _⟩ HA420).mono ?_
            rintro e_ w478 ⟨rfl, hS⟩
            replace HS : Aside0 (Sep (fps []) w [b2 g29 a25 a26 a27 a28, b3 g32 0 0 0 0 0 0 0 0, b3 g189 t186 (wrap64 (a26 - 8)) (wrap64 ((wrap64 (a26 - 8)) + 1)) t355 t382 t366 0 0, b4 g469 2 (wrap64 ((wrap64 (a26 - 8)) + 1)), b4 g472 2 t407] w478) := ⟨HS.out.call hS⟩
            clear hS
            refine ⟨_, rfl, ?_⟩
            refine hK.out _ _ (⟨blk_cellv (HS.out.at2) 4 rfl, blk_cellv (HS.out.at0) 3 rfl, blk_cellv (HS.out.at2) 2 rfl⟩) (fun hHeld => ?_)
            clear hK K
            refine norm_ (a' := ?_) ?_ ?_
            rotate_left
            · show Act.put _ (some 63) _ = _
              simp only [Act.put, List.setIfInBounds_toArray, List.set_cons_zero, List.set_cons_succ, i64_w, i32_w]
              rfl
            refine one_ (i := 11) (N := some 64) #[true, true, true, true, true, true, true, true, true, true, true, true, false, false, false] rfl rfl (by kernel_rfl) (by decide) (fun K hK => ?_)
            refine slice_step (n := 2) (by rfl) (N := 64) rfl (cs := #[.int .i64 t413, .int .i64 t419]) (t := 3) ?hr ?_
            case hr => first | (go_simp; done) | (go_simp; rfl)
            intro g479 hg w480 hbox hb
            replace HS : Aside0 (Sep (fps []) w [b2 g29 a25 a26 a27 a28, b3 g32 0 0 0 0 0 0 0 0, b3 g189 t186 (wrap64 (a26 - 8)) (wrap64 ((wrap64 (a26 - 8)) + 1)) t355 t382 t366 0 0, b4 g469 2 (wrap64 ((wrap64 (a26 - 8)) + 1)), b4 g472 2 t407, b4 g479 t413 t419] w480) := ⟨HS.out.box hg hbox hb⟩
            clear hg hbox hb
            refine hK.out _ _ (⟨blk_cellv (HS.out.at2) 4 rfl, blk_cellv (HS.out.at0) 3 rfl, blk_cellv (HS.out.at2) 2 rfl⟩) (fun hHeld => ?_)
            clear hK K
            refine norm_ (a' := ?_) ?_ ?_
            rotate_left
            · show Act.put _ (some 64) _ = _
              simp only [Act.put, List.setIfInBounds_toArray, List.set_cons_zero, List.set_cons_succ, i64_w, i32_w]
              rfl
            refine one_ (i := 12) (N := some 65) #[true, true, true, true, true, true, true, true, true, true, true, true, true, false, false] rfl rfl (by kernel_rfl) (by decide) (fun K hK => ?_)
            refine goes_ Tryd.func122 (by kernel_rfl) rfl #[.slice (some ⟨g479, 0, none⟩) 2 2] (by rfl) rfl rfl (by (try simp only [List.map_toArray, List.map_cons, List.map_nil]); first | done | rfl) ?_
            refine (ratio_Add.calls _ [t413, t419] (some ⟨g479, 0, none⟩) 2 t425 _ ⟨Rd.lit (l := []) (xs := [t413, t419]) HS.out 5 rfl (by simp)⟩ ⟨HGl0.out.pass (l := []) HS.out⟩ ⟨Sep.start _⟩ HA426).mono ?_
            rintro e_ w483 ⟨rfl, hS⟩
            replace HS : Aside0 (Sep (fps []) w [b2 g29 a25 a26 a27 a28, b3 g32 0 0 0 0 0 0 0 0, b3 g189 t186 (wrap64 (a26 - 8)) (wrap64 ((wrap64 (a26 - 8)) + 1)) t355 t382 t366 0 0, b4 g469 2 (wrap64 ((wrap64 (a26 - 8)) + 1)), b4 g472 2 t407, b4 g479 t413 t419] w483) := ⟨HS.out.call hS⟩
            clear hS
            refine ⟨_, rfl, ?_⟩
            refine hK.out _ _ (⟨blk_cellv (HS.out.at2) 4 rfl, blk_cellv (HS.out.at0) 3 rfl, blk_cellv (HS.out.at2) 2 rfl⟩) (fun hHeld => ?_)
            clear hK K
            refine norm_ (a' := ?_) ?_ ?_
            rotate_left
            · show Act.put _ (some 65) _ = _
              simp only [Act.put, List.setIfInBounds_toArray, List.set_cons_zero, List.set_cons_succ, i64_w, i32_w]
              rfl
            refine pure_ (i := 13) (N := some 66) (v := ?_) (a' := ?_) #[true, true, true, true, true, true, true, true, true, true, true, true, true, true, false] rfl rfl (by kernel_rfl) (fun _ _ _ h => h) (Or.inl ⟨by rfl, ?_⟩) ?_ ?_
            rotate_left
            · intro w'
              go_simp
              with_reducible rfl
            rotate_left
            · simp only [Act.put, List.setIfInBounds_toArray, List.set_cons_zero, List.set_cons_succ, i64_w, i32_w]
              rfl
            refine one_ (i := 14) (N := none) #[true, true, true, true, true, true, true, true, true, true, true, true, true, true, true] rfl rfl (by kernel_rfl) (by decide) (fun K hK => ?_)
            have hc485 := blk_cellv (v := .int .i64 0) (HS.out.at2) 6 rfl
            have hz486 := blk_fz (HS.out.at2) 6
            refine store_step (w1 := (World.setCell w483 ⟨g189, 6, none⟩ (.int .i64 t425))) (by rfl) rfl ?hr ?_
            case hr => first | (go_simp; done) | (go_simp; rfl)
            clear hc485 hz486
            intro w484 hst
            have hq0 : Sep (fps []) w [b2 g29 a25 a26 a27 a28, b3 g32 0 0 0 0 0 0 0 0, b3 g189 t186 (wrap64 (a26 - 8)) (wrap64 ((wrap64 (a26 - 8)) + 1)) t355 t382 t366 t425 0, b4 g469 2 (wrap64 ((wrap64 (a26 - 8)) + 1)), b4 g472 2 t407, b4 g479 t413 t419] (World.setCell w483 ⟨g189, 6, none⟩ (.int .i64 t425)) := (HS.out).set1 (l1 := [b2 g29 a25 a26 a27 a28, b3 g32 0 0 0 0 0 0 0 0]) (l2 := [b4 g469 2 (wrap64 ((wrap64 (a26 - 8)) + 1)), b4 g472 2 t407, b4 g479 t413 t419]) 6 (.int .i64 t425)
            have HS_ : Aside0 (Sep (fps []) w [b2 g29 a25 a26 a27 a28, b3 g32 0 0 0 0 0 0 0 0, b3 g189 t186 (wrap64 (a26 - 8)) (wrap64 ((wrap64 (a26 - 8)) + 1)) t355 t382 t366 t425 0, b4 g469 2 (wrap64 ((wrap64 (a26 - 8)) + 1)), b4 g472 2 t407, b4 g479 t413 t419] w484) := ⟨by rw [hst]; exact hq0⟩
            clear hq0
            clear HS hst
            have HS := HS_
            clear HS_
            refine hK.out _ _ (⟨blk_cellv (HS.out.at2) 4 rfl, blk_cellv (HS.out.at0) 3 rfl, blk_cellv (HS.out.at2) 2 rfl⟩) (fun hHeld => ?_)
            clear hK K
            refine done_ (by kernel_rfl) ?_
            go_wp2_with fail
            go_meet
            case rel => exact ⟨g472, g469, g479, ⟨((((((HS.out).front 5 (by simp)).front 4 (by simp)).front 5 (by simp)).front 5 (by simp)).front 5 (by simp)).front 5 (by simp)⟩⟩
        · refine slice_step (n := 2) (by rfl) (N := 62) rfl (cs := #[.int .i64 2, .int .i64 (wrap64 ((wrap64 (a26 - 8)) + 1))]) (t := 3) ?hr ?_
          case hr => first | (go_simp; done) | (go_simp; rfl)
          intro g487 hg w488 hbox hb
          replace HS : Aside0 (Sep (fps []) w [b2 g29 a25 a26 a27 a28, b3 g32 0 0 0 0 0 0 0 0, b3 g189 t186 (wrap64 (a26 - 8)) (wrap64 ((wrap64 (a26 - 8)) + 1)) t355 t382 t366 0 0, b4 g487 2 (wrap64 ((wrap64 (a26 - 8)) + 1))] w488) := ⟨HS.out.box hg hbox hb⟩
          clear hg hbox hb
          refine hK.out _ _ (⟨blk_cellv (HS.out.at2) 4 rfl, blk_cellv (HS.out.at0) 3 rfl, blk_cellv (HS.out.at2) 2 rfl⟩) (fun hHeld => ?_)
          clear hK K
          refine norm_ (a' := ?_) ?_ ?_
          rotate_left
          · show Act.put _ (some 62) _ = _
            simp only [Act.put, List.setIfInBounds_toArray, List.set_cons_zero, List.set_cons_succ, i64_w, i32_w]
            rfl
          refine one_ (i := 4) (N := some 57) #[true, true, true, true, true, false, false, true, true, true, false, false, false, false, false] rfl rfl (by kernel_rfl) (by decide) (fun K hK => ?_)
          refine goes_ Tryd.func124 (by kernel_rfl) rfl #[.int .i64 t382, .int .i64 a28] (by rfl) rfl rfl (by (try simp only [List.map_toArray, List.map_cons, List.map_nil]); first | done | rfl) ?_
          refine (ratio_Up.calls t382 a28 t407 _ ⟨HGl0.out.pass (l := []) HS.out⟩ ⟨Sep.start _⟩ HA408).mono ?_
          rintro e_ w491 ⟨rfl, hS⟩
          replace HS : Aside0 (Sep (fps []) w [b2 g29 a25 a26 a27 a28, b3 g32 0 0 0 0 0 0 0 0, b3 g189 t186 (wrap64 (a26 - 8)) (wrap64 ((wrap64 (a26 - 8)) + 1)) t355 t382 t366 0 0, b4 g487 2 (wrap64 ((wrap64 (a26 - 8)) + 1))] w491) := ⟨HS.out.call hS⟩
          clear hS
          refine ⟨_, rfl, ?_⟩
          refine hK.out _ _ (⟨blk_cellv (HS.out.at2) 4 rfl, blk_cellv (HS.out.at0) 3 rfl, blk_cellv (HS.out.at2) 2 rfl⟩) (fun hHeld => ?_)
          clear hK K
          refine norm_ (a' := ?_) ?_ ?_
          rotate_left
          · show Act.put _ (some 57) _ = _
            simp only [Act.put, List.setIfInBounds_toArray, List.set_cons_zero, List.set_cons_succ, i64_w, i32_w]
            rfl
          refine one_ (i := 5) (N := some 58) #[true, true, true, true, true, true, false, true, true, true, false, false, false, false, false] rfl rfl (by kernel_rfl) (by decide) (fun K hK => ?_)
          refine slice_step (n := 2) (by rfl) (N := 58) rfl (cs := #[.int .i64 2, .int .i64 t407]) (t := 3) ?hr ?_
          case hr => first | (go_simp; done) | (go_simp; rfl)
          intro g492 hg w493 hbox hb
          replace HS : Aside0 (Sep (fps []) w [b2 g29 a25 a26 a27 a28, b3 g32 0 0 0 0 0 0 0 0, b3 g189 t186 (wrap64 (a26 - 8)) (wrap64 ((wrap64 (a26 - 8)) + 1)) t355 t382 t366 0 0, b4 g487 2 (wrap64 ((wrap64 (a26 - 8)) + 1)), b4 g492 2 t407] w493) := ⟨HS.out.box hg hbox hb⟩
          clear hg hbox hb
          refine hK.out _ _ (⟨blk_cellv (HS.out.at2) 4 rfl, blk_cellv (HS.out.at0) 3 rfl, blk_cellv (HS.out.at2) 2 rfl⟩) (fun hHeld => ?_)
          clear hK K
          refine norm_ (a' := ?_) ?_ ?_
          rotate_left
          · show Act.put _ (some 58) _ = _
            simp only [Act.put, List.setIfInBounds_toArray, List.set_cons_zero, List.set_cons_succ, i64_w, i32_w]
            rfl
          refine one_ (i := 6) (N := some 59) #[true, true, true, true, true, true, true, true, true, true, false, false, false, false, false] rfl rfl (by kernel_rfl) (by decide) (fun K hK => ?_)
          refine goes_ Tryd.func123 (by kernel_rfl) rfl #[.slice (some ⟨g492, 0, none⟩) 2 2] (by rfl) rfl rfl (by (try simp only [List.map_toArray, List.map_cons, List.map_nil]); first | done | rfl) ?_
          refine (ratio_Mul.calls _ [2, t407] (some ⟨g492, 0, none⟩) 2 t413 _ ⟨Rd.lit (l := []) (xs := [2, t407]) HS.out 4 rfl (by simp)⟩ ⟨HGl0.out.pass (l := []) HS.out⟩ ⟨Sep.start _⟩ HA414).mono ?_
          rintro e_ w496 ⟨rfl, hS⟩
          replace HS : Aside0 (Sep (fps []) w [b2 g29 a25 a26 a27 a28, b3 g32 0 0 0 0 0 0 0 0, b3 g189 t186 (wrap64 (a26 - 8)) (wrap64 ((wrap64 (a26 - 8)) + 1)) t355 t382 t366 0 0, b4 g487 2 (wrap64 ((wrap64 (a26 - 8)) + 1)), b4 g492 2 t407] w496) := ⟨HS.out.call hS⟩
          clear hS
          refine ⟨_, rfl, ?_⟩
          refine hK.out _ _ (⟨blk_cellv (HS.out.at2) 4 rfl, blk_cellv (HS.out.at0) 3 rfl, blk_cellv (HS.out.at2) 2 rfl⟩) (fun hHeld => ?_)
          clear hK K
          refine norm_ (a' := ?_) ?_ ?_
          rotate_left
          · show Act.put _ (some 59) _ = _
            simp only [Act.put, List.setIfInBounds_toArray, List.set_cons_zero, List.set_cons_succ, i64_w, i32_w]
            rfl
          refine one_ (i := 10) (N := some 63) #[true, true, true, true, true, true, true, true, true, true, true, false, false, false, false] rfl rfl (by kernel_rfl) (by decide) (fun K hK => ?_)
          refine goes_ Tryd.func123 (by kernel_rfl) rfl #[.slice (some ⟨g487, 0, none⟩) 2 2] (by rfl) rfl rfl (by (try simp only [List.map_toArray, List.map_cons, List.map_nil]); first | done | rfl) ?_
          refine (ratio_Mul.calls _ [2, wrap64 ((wrap64 (a26 - 8)) + 1)] (some ⟨g487, 0, none⟩) 2 t419 _ ⟨Rd.lit (l := []) (xs := [2, wrap64 ((wrap64 (a26 - 8)) + 1)]) HS.out 3 rfl (by simp)⟩ ⟨HGl0.out.pass (l := []) HS.out⟩ ⟨Sep.start _⟩ HA420).mono ?_
          rintro e_ w498 ⟨rfl, hS⟩
          replace HS : Aside0 (Sep (fps []) w [b2 g29 a25 a26 a27 a28, b3 g32 0 0 0 0 0 0 0 0, b3 g189 t186 (wrap64 (a26 - 8)) (wrap64 ((wrap64 (a26 - 8)) + 1)) t355 t382 t366 0 0, b4 g487 2 (wrap64 ((wrap64 (a26 - 8)) + 1)), b4 g492 2 t407] w498) := ⟨HS.out.call hS⟩
          clear hS
          refine ⟨_, rfl, ?_⟩
          refine hK.out _ _ (⟨blk_cellv (HS.out.at2) 4 rfl, blk_cellv (HS.out.at0) 3 rfl, blk_cellv (HS.out.at2) 2 rfl⟩) (fun hHeld => ?_)
          clear hK K
          refine norm_ (a' := ?_) ?_ ?_
          rotate_left
          · show Act.put _ (some 63) _ = _
            simp only [Act.put, List.setIfInBounds_toArray, List.set_cons_zero, List.set_cons_succ, i64_w, i32_w]
            rfl
          refine one_ (i := 11) (N := some 64) #[true, true, true, true, true, true, true, true, true, true, true, true, false, false, false] rfl rfl (by kernel_rfl) (by decide) (fun K hK => ?_)
          refine slice_step (n := 2) (by rfl) (N := 64) rfl (cs := #[.int .i64 t413, .int .i64 t419]) (t := 3) ?hr ?_
          case hr => first | (go_simp; done) | (go_simp; rfl)
          intro g499 hg w500 hbox hb
          replace HS : Aside0 (Sep (fps []) w [b2 g29 a25 a26 a27 a28, b3 g32 0 0 0 0 0 0 0 0, b3 g189 t186 (wrap64 (a26 - 8)) (wrap64 ((wrap64 (a26 - 8)) + 1)) t355 t382 t366 0 0, b4 g487 2 (wrap64 ((wrap64 (a26 - 8)) + 1)), b4 g492 2 t407, b4 g499 t413 t419] w500) := ⟨HS.out.box hg hbox hb⟩
          clear hg hbox hb
          refine hK.out _ _ (⟨blk_cellv (HS.out.at2) 4 rfl, blk_cellv (HS.out.at0) 3 rfl, blk_cellv (HS.out.at2) 2 rfl⟩) (fun hHeld => ?_)
          clear hK K
          refine norm_ (a' := ?_) ?_ ?_
          rotate_left
          · show Act.put _ (some 64) _ = _
            simp only [Act.put, List.setIfInBounds_toArray, List.set_cons_zero, List.set_cons_succ, i64_w, i32_w]
            rfl
          refine one_ (i := 12) (N := some 65) #[true, true, true, true, true, true, true, true, true, true, true, true, true, false, false] rfl rfl (by kernel_rfl) (by decide) (fun K hK => ?_)
          refine goes_ Tryd.func122 (by kernel_rfl) rfl #[.slice (some ⟨g499, 0, none⟩) 2 2] (by rfl) rfl rfl (by (try simp only [List.map_toArray, List.map_cons, List.map_nil]); first | done | rfl) ?_
          refine (ratio_Add.calls _ [t413, t419] (some ⟨g499, 0, none⟩) 2 t425 _ ⟨Rd.lit (l := []) (xs := [t413, t419]) HS.out 5 rfl (by simp)⟩ ⟨HGl0.out.pass (l := []) HS.out⟩ ⟨Sep.start _⟩ HA426).mono ?_
          rintro e_ w503 ⟨rfl, hS⟩
          replace HS : Aside0 (Sep (fps []) w [b2 g29 a25 a26 a27 a28, b3 g32 0 0 0 0 0 0 0 0, b3 g189 t186 (wrap64 (a26 - 8)) (wrap64 ((wrap64 (a26 - 8)) + 1)) t355 t382 t366 0 0, b4 g487 2 (wrap64 ((wrap64 (a26 - 8)) + 1)), b4 g492 2 t407, b4 g499 t413 t419] w503) := ⟨HS.out.call hS⟩
          clear hS
          refine ⟨_, rfl, ?_⟩
          refine hK.out _ _ (⟨blk_cellv (HS.out.at2) 4 rfl, blk_cellv (HS.out.at0) 3 rfl, blk_cellv (HS.out.at2) 2 rfl⟩) (fun hHeld => ?_)
          clear hK K
          refine norm_ (a' := ?_) ?_ ?_
          rotate_left
          · show Act.put _ (some 65) _ = _
            simp only [Act.put, List.setIfInBounds_toArray, List.set_cons_zero, List.set_cons_succ, i64_w, i32_w]
            rfl
          refine pure_ (i := 13) (N := some 66) (v := ?_) (a' := ?_) #[true, true, true, true, true, true, true, true, true, true, true, true, true, true, false] rfl rfl (by kernel_rfl) (fun _ _ _ h => h) (Or.inl ⟨by rfl, ?_⟩) ?_ ?_
          rotate_left
          · intro w'
            go_simp
            with_reducible rfl
          rotate_left
          · simp only [Act.put, List.setIfInBounds_toArray, List.set_cons_zero, List.set_cons_succ, i64_w, i32_w]
            rfl
          refine one_ (i := 14) (N := none) #[true, true, true, true, true, true, true, true, true, true, true, true, true, true, true] rfl rfl (by kernel_rfl) (by decide) (fun K hK => ?_)
          have hc505 := blk_cellv (v := .int .i64 0) (HS.out.at2) 6 rfl
          have hz506 := blk_fz (HS.out.at2) 6
          refine store_step (w1 := (World.setCell w503 ⟨g189, 6, none⟩ (.int .i64 t425))) (by rfl) rfl ?hr ?_
          case hr => first | (go_simp; done) | (go_simp; rfl)
          clear hc505 hz506
          intro w504 hst
          have hq0 : Sep (fps []) w [b2 g29 a25 a26 a27 a28, b3 g32 0 0 0 0 0 0 0 0, b3 g189 t186 (wrap64 (a26 - 8)) (wrap64 ((wrap64 (a26 - 8)) + 1)) t355 t382 t366 t425 0, b4 g487 2 (wrap64 ((wrap64 (a26 - 8)) + 1)), b4 g492 2 t407, b4 g499 t413 t419] (World.setCell w503 ⟨g189, 6, none⟩ (.int .i64 t425)) := (HS.out).set1 (l1 := [b2 g29 a25 a26 a27 a28, b3 g32 0 0 0 0 0 0 0 0]) (l2 := [b4 g487 2 (wrap64 ((wrap64 (a26 - 8)) + 1)), b4 g492 2 t407, b4 g499 t413 t419]) 6 (.int .i64 t425)
          have HS_ : Aside0 (Sep (fps []) w [b2 g29 a25 a26 a27 a28, b3 g32 0 0 0 0 0 0 0 0, b3 g189 t186 (wrap64 (a26 - 8)) (wrap64 ((wrap64 (a26 - 8)) + 1)) t355 t382 t366 t425 0, b4 g487 2 (wrap64 ((wrap64 (a26 - 8)) + 1)), b4 g492 2 t407, b4 g499 t413 t419] w504) := ⟨by rw [hst]; exact hq0⟩
          clear hq0
          clear HS hst
          have HS := HS_
          clear HS_
          refine hK.out _ _ (⟨blk_cellv (HS.out.at2) 4 rfl, blk_cellv (HS.out.at0) 3 rfl, blk_cellv (HS.out.at2) 2 rfl⟩) (fun hHeld => ?_)
          clear hK K
          refine done_ (by kernel_rfl) ?_
          go_wp2_with fail
          go_meet
          case rel => exact ⟨g492, g487, g499, ⟨((((((HS.out).front 5 (by simp)).front 4 (by simp)).front 5 (by simp)).front 5 (by simp)).front 5 (by simp)).front 5 (by simp)⟩⟩
      case rest =>
        clear HS
        obtain ⟨g410, g416, g422, HS⟩ := hcut
        obtain ⟨w431, rfl⟩ : ∃ x : World, x = wc := ⟨_, rfl⟩
        replace HS : Aside0 (Sep (fps []) w [b2 g29 a25 a26 a27 a28, b3 g32 0 0 0 0 0 0 0 0, b3 g189 t186 (wrap64 (a26 - 8)) (wrap64 ((wrap64 (a26 - 8)) + 1)) t355 t382 t366 t425 0] w431) := ⟨HS.out.sub (.cons_cons _ (.cons_cons _ (.cons_cons _ (.cons _ (.cons _ (.cons _ .slnil))))))⟩
        go_wp2_with fail
        refine start_ (n := 15) (S := (fun w' => w'.cell? ⟨g189, 4, none⟩ = some (.int .i64 t382) ∧ w'.cell? ⟨g189, 5, none⟩ = some (.int .i64 t366) ∧ w'.cell? ⟨g29, 3, none⟩ = some (.int .i64 a28))) (ds := []) #[false, false, false, false, false, false, false, false, false, false, false, false, false, false, false] (by kernel_rfl) rfl rfl (⟨blk_cellv ((HS.out.drew).at2) 4 rfl, blk_cellv ((HS.out.drew).at2) 5 rfl, blk_cellv ((HS.out.drew).at0) 3 rfl⟩) (fun hHeld => ?_)
        have HS_ := Aside0.mk HS.out.drew
        clear HS
        generalize World.drew _ = w508 at HS_ hHeld ⊢
        have HS := HS_
        clear HS_
        refine pure_ (i := 0) (N := some 67) (v := ?_) (a' := ?_) #[true, false, false, false, false, false, false, false, false, false, false, false, false, false, false] rfl rfl (by kernel_rfl) (fun _ _ _ h => h) (Or.inl ⟨by rfl, ?_⟩) ?_ ?_
        rotate_left
        · intro w'
          go_simp
          with_reducible rfl
        rotate_left
        · simp only [Act.put, List.setIfInBounds_toArray, List.set_cons_zero, List.set_cons_succ, i64_w, i32_w]
          rfl
        refine pure_ (i := 2) (N := some 69) (v := ?_) (a' := ?_) #[true, false, true, false, false, false, false, false, false, false, false, false, false, false, false] rfl rfl (by kernel_rfl) (fun _ _ _ h => h) (Or.inl ⟨by rfl, ?_⟩) ?_ ?_
        rotate_left
        · intro w'
          go_simp
          with_reducible rfl
        rotate_left
        · simp only [Act.put, List.setIfInBounds_toArray, List.set_cons_zero, List.set_cons_succ, i64_w, i32_w]
          rfl
        refine pure_ (i := 4) (N := some 71) (v := ?_) (a' := ?_) #[true, false, true, false, true, false, false, false, false, false, false, false, false, false, false] rfl rfl (by kernel_rfl) (fun _ _ _ h => h) (Or.inl ⟨by rfl, ?_⟩) ?_ ?_
        rotate_left
        · intro w'
          go_simp
          with_reducible rfl
        rotate_left
        · simp only [Act.put, List.setIfInBounds_toArray, List.set_cons_zero, List.set_cons_succ, i64_w, i32_w]
          rfl
        refine pure_ (i := 8) (N := some 75) (v := ?_) (a' := ?_) #[true, false, true, false, true, false, false, false, true, false, false, false, false, false, false] rfl rfl (by kernel_rfl) (fun _ _ _ h => h) (Or.inl ⟨by rfl, ?_⟩) ?_ ?_
        rotate_left
        · intro w'
          go_simp
          with_reducible rfl
        rotate_left
        · simp only [Act.put, List.setIfInBounds_toArray, List.set_cons_zero, List.set_cons_succ, i64_w, i32_w]
          rfl
        refine take_ (i := 1) (N := some 68) (v := ?_) (a' := ?_) #[true, true, true, false, true, false, false, false, true, false, false, false, false, false, false] rfl rfl (by kernel_rfl) (fun _ _ _ h => h) (Or.inl ⟨by rfl, ?_⟩) hHeld ?_ ?_
        rotate_left
        · rintro w' hS'
          obtain ⟨s0, s1, s2⟩ := hS'
          go_simp
          with_reducible rfl
        rotate_left
        · simp only [Act.put, List.setIfInBounds_toArray, List.set_cons_zero, List.set_cons_succ, i64_w, i32_w]
          rfl
        refine take_ (i := 3) (N := some 70) (v := ?_) (a' := ?_) #[true, true, true, true, true, false, false, false, true, false, false, false, false, false, false] rfl rfl (by kernel_rfl) (fun _ _ _ h => h) (Or.inl ⟨by rfl, ?_⟩) hHeld ?_ ?_
        rotate_left
        · rintro w' hS'
          obtain ⟨s0, s1, s2⟩ := hS'
          go_simp
          with_reducible rfl
        rotate_left
        · simp only [Act.put, List.setIfInBounds_toArray, List.set_cons_zero, List.set_cons_succ, i64_w, i32_w]
          rfl
        refine take_ (i := 5) (N := some 72) (v := ?_) (a' := ?_) #[true, true, true, true, true, true, false, false, true, false, false, false, false, false, false] rfl rfl (by kernel_rfl) (fun _ _ _ h => h) (Or.inl ⟨by rfl, ?_⟩) hHeld ?_ ?_
        rotate_left
        · rintro w' hS'
          obtain ⟨s0, s1, s2⟩ := hS'
          go_simp
          with_reducible rfl
        rotate_left
        · simp only [Act.put, List.setIfInBounds_toArray, List.set_cons_zero, List.set_cons_succ, i64_w, i32_w]
          rfl
        refine take_ (i := 9) (N := some 76) (v := ?_) (a' := ?_) #[true, true, true, true, true, true, false, false, true, true, false, false, false, false, false] rfl rfl (by kernel_rfl) (fun _ _ _ h => h) (Or.inl ⟨by rfl, ?_⟩) hHeld ?_ ?_
        rotate_left
        · rintro w' hS'
          obtain ⟨s0, s1, s2⟩ := hS'
          go_simp
          with_reducible rfl
        rotate_left
        · simp only [Act.put, List.setIfInBounds_toArray, List.set_cons_zero, List.set_cons_succ, i64_w, i32_w]
          rfl
        refine one_ (i := 6) (N := some 73) #[true, true, true, true, true, true, true, false, true, true, false, false, false, false, false] rfl rfl (by kernel_rfl) (by decide) (fun K hK => ?_)
        refine slice_step (n := 3) (by rfl) (N := 73) rfl (cs := #[.int .i64 t382, .int .i64 t382, .int .i64 t366]) (t := 3) ?hr ?_
        case hr => first | (go_simp; done) | (go_simp; rfl)
        intro g509 hg w510 hbox hb
        replace HS : Aside0 (Sep (fps []) w [b2 g29 a25 a26 a27 a28, b3 g32 0 0 0 0 0 0 0 0, b3 g189 t186 (wrap64 (a26 - 8)) (wrap64 ((wrap64 (a26 - 8)) + 1)) t355 t382 t366 t425 0, b5 g509 t382 t382 t366] w510) := ⟨HS.out.box hg hbox hb⟩
        clear hg hbox hb
        refine hK.out _ _ (⟨blk_cellv (HS.out.at2) 4 rfl, blk_cellv (HS.out.at2) 5 rfl, blk_cellv (HS.out.at0) 3 rfl⟩) (fun hHeld => ?_)
        clear hK K
        refine norm_ (a' := ?_) ?_ ?_
        rotate_left
        · show Act.put _ (some 73) _ = _
          simp only [Act.put, List.setIfInBounds_toArray, List.set_cons_zero, List.set_cons_succ, i64_w, i32_w]
          rfl
        refine one_ (i := 7) (N := some 74) #[true, true, true, true, true, true, true, true, true, true, false, false, false, false, false] rfl rfl (by kernel_rfl) (by decide) (fun K hK => ?_)
        obtain ⟨t512, HA513, H⟩ := bind_some H
        refine goes_ Tryd.func122 (by kernel_rfl) rfl #[.slice (some ⟨g509, 0, none⟩) 3 3] (by rfl) rfl rfl (by (try simp only [List.map_toArray, List.map_cons, List.map_nil]); first | done | rfl) ?_
        refine (ratio_Add.calls _ [t382, t382, t366] (some ⟨g509, 0, none⟩) 3 t512 _ ⟨Rd.lit (l := []) (xs := [t382, t382, t366]) HS.out 3 rfl (by simp)⟩ ⟨HGl0.out.pass (l := []) HS.out⟩ ⟨Sep.start _⟩ HA513).mono ?_
        rintro e_ w514 ⟨rfl, hS⟩
        replace HS : Aside0 (Sep (fps []) w [b2 g29 a25 a26 a27 a28, b3 g32 0 0 0 0 0 0 0 0, b3 g189 t186 (wrap64 (a26 - 8)) (wrap64 ((wrap64 (a26 - 8)) + 1)) t355 t382 t366 t425 0, b5 g509 t382 t382 t366] w514) := ⟨HS.out.call hS⟩
        clear hS
        refine ⟨_, rfl, ?_⟩
        refine hK.out _ _ (⟨blk_cellv (HS.out.at2) 4 rfl, blk_cellv (HS.out.at2) 5 rfl, blk_cellv (HS.out.at0) 3 rfl⟩) (fun hHeld => ?_)
        clear hK K
        refine norm_ (a' := ?_) ?_ ?_
        rotate_left
        · show Act.put _ (some 74) _ = _
          simp only [Act.put, List.setIfInBounds_toArray, List.set_cons_zero, List.set_cons_succ, i64_w, i32_w]
          rfl
        refine one_ (i := 10) (N := some 77) #[true, true, true, true, true, true, true, true, true, true, true, false, false, false, false] rfl rfl (by kernel_rfl) (by decide) (fun K hK => ?_)
        obtain ⟨t515, HA516, H⟩ := bind_some H
        refine goes_ Tryd.func124 (by kernel_rfl) rfl #[.int .i64 t512, .int .i64 a28] (by rfl) rfl rfl (by (try simp only [List.map_toArray, List.map_cons, List.map_nil]); first | done | rfl) ?_
        refine (ratio_Up.calls t512 a28 t515 _ ⟨HGl0.out.pass (l := []) HS.out⟩ ⟨Sep.start _⟩ HA516).mono ?_
        rintro e_ w517 ⟨rfl, hS⟩
        replace HS : Aside0 (Sep (fps []) w [b2 g29 a25 a26 a27 a28, b3 g32 0 0 0 0 0 0 0 0, b3 g189 t186 (wrap64 (a26 - 8)) (wrap64 ((wrap64 (a26 - 8)) + 1)) t355 t382 t366 t425 0, b5 g509 t382 t382 t366] w517) := ⟨HS.out.call hS⟩
        clear hS
        refine ⟨_, rfl, ?_⟩
        refine hK.out _ _ (⟨blk_cellv (HS.out.at2) 4 rfl, blk_cellv (HS.out.at2) 5 rfl, blk_cellv (HS.out.at0) 3 rfl⟩) (fun hHeld => ?_)
        clear hK K
        refine norm_ (a' := ?_) ?_ ?_
        rotate_left
        · show Act.put _ (some 77) _ = _
          simp only [Act.put, List.setIfInBounds_toArray, List.set_cons_zero, List.set_cons_succ, i64_w, i32_w]
          rfl
        refine one_ (i := 11) (N := some 78) #[true, true, true, true, true, true, true, true, true, true, true, true, false, false, false] rfl rfl (by kernel_rfl) (by decide) (fun K hK => ?_)
        refine slice_step (n := 2) (by rfl) (N := 78) rfl (cs := #[.int .i64 t515, .int .i64 2]) (t := 3) ?hr ?_
        case hr => first | (go_simp; done) | (go_simp; rfl)
        intro g518 hg w519 hbox hb
        replace HS : Aside0 (Sep (fps []) w [b2 g29 a25 a26 a27 a28, b3 g32 0 0 0 0 0 0 0 0, b3 g189 t186 (wrap64 (a26 - 8)) (wrap64 ((wrap64 (a26 - 8)) + 1)) t355 t382 t366 t425 0, b5 g509 t382 t382 t366, b4 g518 t515 2] w519) := ⟨HS.out.box hg hbox hb⟩
        clear hg hbox hb
        refine hK.out _ _ (⟨blk_cellv (HS.out.at2) 4 rfl, blk_cellv (HS.out.at2) 5 rfl, blk_cellv (HS.out.at0) 3 rfl⟩) (fun hHeld => ?_)
        clear hK K
        refine norm_ (a' := ?_) ?_ ?_
        rotate_left
        · show Act.put _ (some 78) _ = _
          simp only [Act.put, List.setIfInBounds_toArray, List.set_cons_zero, List.set_cons_succ, i64_w, i32_w]
          rfl
        refine one_ (i := 12) (N := some 79) #[true, true, true, true, true, true, true, true, true, true, true, true, true, false, false] rfl rfl (by kernel_rfl) (by decide) (fun K hK => ?_)
        obtain ⟨t521, HA522, H⟩ := bind_some H
        refine goes_ Tryd.func122 (by kernel_rfl) rfl #[.slice (some ⟨g518, 0, none⟩) 2 2] (by rfl) rfl rfl (by (try simp only [List.map_toArray, List.map_cons, List.map_nil]); first | done | rfl) ?_
        refine (ratio_Add.calls _ [t515, 2] (some ⟨g518, 0, none⟩) 2 t521 _ ⟨Rd.lit (l := []) (xs := [t515, 2]) HS.out 4 rfl (by simp)⟩ ⟨HGl0.out.pass (l := []) HS.out⟩ ⟨Sep.start _⟩ HA522).mono ?_
        rintro e_ w523 ⟨rfl, hS⟩
        replace HS : Aside0 (Sep (fps []) w [b2 g29 a25 a26 a27 a28, b3 g32 0 0 0 0 0 0 0 0, b3 g189 t186 (wrap64 (a26 - 8)) (wrap64 ((wrap64 (a26 - 8)) + 1)) t355 t382 t366 t425 0, b5 g509 t382 t382 t366, b4 g518 t515 2] w523) := ⟨HS.out.call hS⟩
        clear hS
        refine ⟨_, rfl, ?_⟩
        refine hK.out _ _ (⟨blk_cellv (HS.out.at2) 4 rfl, blk_cellv (HS.out.at2) 5 rfl, blk_cellv (HS.out.at0) 3 rfl⟩) (fun hHeld => ?_)
        clear hK K
        refine norm_ (a' := ?_) ?_ ?_
        rotate_left
        · show Act.put _ (some 79) _ = _
          simp only [Act.put, List.setIfInBounds_toArray, List.set_cons_zero, List.set_cons_succ, i64_w, i32_w]
          rfl
        refine pure_ (i := 13) (N := some 80) (v := ?_) (a' := ?_) #[true, true, true, true, true, true, true, true, true, true, true, true, true, true, false] rfl rfl (by kernel_rfl) (fun _ _ _ h => h) (Or.inl ⟨by rfl, ?_⟩) ?_ ?_
        rotate_left
        · intro w'
          go_simp
          with_reducible rfl
        rotate_left
        · simp only [Act.put, List.setIfInBounds_toArray, List.set_cons_zero, List.set_cons_succ, i64_w, i32_w]
          rfl
        refine one_ (i := 14) (N := none) #[true, true, true, true, true, true, true, true, true, true, true, true, true, true, true] rfl rfl (by kernel_rfl) (by decide) (fun K hK => ?_)
        have hc525 := blk_cellv (v := .int .i64 0) (HS.out.at2) 7 rfl
        have hz526 := blk_fz (HS.out.at2) 7
        refine store_step (w1 := (World.setCell w523 ⟨g189, 7, none⟩ (.int .i64 t521))) (by rfl) rfl ?hr ?_
        case hr => first | (go_simp; done) | (go_simp; rfl)
        clear hc525 hz526
        intro w524 hst
        have hq0 : Sep (fps []) w [b2 g29 a25 a26 a27 a28, b3 g32 0 0 0 0 0 0 0 0, b3 g189 t186 (wrap64 (a26 - 8)) (wrap64 ((wrap64 (a26 - 8)) + 1)) t355 t382 t366 t425 t521, b5 g509 t382 t382 t366, b4 g518 t515 2] (World.setCell w523 ⟨g189, 7, none⟩ (.int .i64 t521)) := (HS.out).set1 (l1 := [b2 g29 a25 a26 a27 a28, b3 g32 0 0 0 0 0 0 0 0]) (l2 := [b5 g509 t382 t382 t366, b4 g518 t515 2]) 7 (.int .i64 t521)
        have HS_ : Aside0 (Sep (fps []) w [b2 g29 a25 a26 a27 a28, b3 g32 0 0 0 0 0 0 0 0, b3 g189 t186 (wrap64 (a26 - 8)) (wrap64 ((wrap64 (a26 - 8)) + 1)) t355 t382 t366 t425 t521, b5 g509 t382 t382 t366, b4 g518 t515 2] w524) := ⟨by rw [hst]; exact hq0⟩
        clear hq0
        clear HS hst
        have HS := HS_
        clear HS_
        refine hK.out _ _ (⟨blk_cellv (HS.out.at2) 4 rfl, blk_cellv (HS.out.at2) 5 rfl, blk_cellv (HS.out.at0) 3 rfl⟩) (fun hHeld => ?_)
        clear hK K
        refine done_ (by kernel_rfl) ?_
        replace HS : Aside0 (Sep (fps []) w [b3 g32 0 0 0 0 0 0 0 0, b3 g189 t186 (wrap64 (a26 - 8)) (wrap64 ((wrap64 (a26 - 8)) + 1)) t355 t382 t366 t425 t521] w524) := ⟨HS.out.sub (.cons _ (.cons_cons _ (.cons_cons _ (.cons _ (.cons _ .slnil)))))⟩
        have hc527 : w524.cell? ⟨g189, 0, none⟩ = some (.int .i64 t186) := blk_cellv (HS.out.at1) 0 rfl
        have hc528 : w524.cell? ⟨g189, 1, none⟩ = some (.int .i64 (wrap64 (a26 - 8))) := blk_cellv (HS.out.at1) 1 rfl
        have hc529 : w524.cell? ⟨g189, 2, none⟩ = some (.int .i64 (wrap64 ((wrap64 (a26 - 8)) + 1))) := blk_cellv (HS.out.at1) 2 rfl
        have hc530 : w524.cell? ⟨g189, 3, none⟩ = some (.int .i64 t355) := blk_cellv (HS.out.at1) 3 rfl
        have hc531 : w524.cell? ⟨g189, 4, none⟩ = some (.int .i64 t382) := blk_cellv (HS.out.at1) 4 rfl
        have hc532 : w524.cell? ⟨g189, 5, none⟩ = some (.int .i64 t366) := blk_cellv (HS.out.at1) 5 rfl
        have hc533 : w524.cell? ⟨g189, 6, none⟩ = some (.int .i64 t425) := blk_cellv (HS.out.at1) 6 rfl
        have hc534 : w524.cell? ⟨g189, 7, none⟩ = some (.int .i64 t521) := blk_cellv (HS.out.at1) 7 rfl
        have hc535 : w524.cell? ⟨g32, 0, none⟩ = some (.int .i64 0) := blk_cellv (HS.out.at0) 0 rfl
        have hz536 : w524.frozen? ⟨g32, 0, none⟩ = false := blk_fz (HS.out.at0) 0
        have hc537 : w524.cell? ⟨g32, 1, none⟩ = some (.int .i64 0) := blk_cellv (HS.out.at0) 1 rfl
        have hz538 : w524.frozen? ⟨g32, 1, none⟩ = false := blk_fz (HS.out.at0) 1
        have hc539 : w524.cell? ⟨g32, 2, none⟩ = some (.int .i64 0) := blk_cellv (HS.out.at0) 2 rfl
        have hz540 : w524.frozen? ⟨g32, 2, none⟩ = false := blk_fz (HS.out.at0) 2
        have hc541 : w524.cell? ⟨g32, 3, none⟩ = some (.int .i64 0) := blk_cellv (HS.out.at0) 3 rfl
        have hz542 : w524.frozen? ⟨g32, 3, none⟩ = false := blk_fz (HS.out.at0) 3
        have hc543 : w524.cell? ⟨g32, 4, none⟩ = some (.int .i64 0) := blk_cellv (HS.out.at0) 4 rfl
        have hz544 : w524.frozen? ⟨g32, 4, none⟩ = false := blk_fz (HS.out.at0) 4
        have hc545 : w524.cell? ⟨g32, 5, none⟩ = some (.int .i64 0) := blk_cellv (HS.out.at0) 5 rfl
        have hz546 : w524.frozen? ⟨g32, 5, none⟩ = false := blk_fz (HS.out.at0) 5
        have hc547 : w524.cell? ⟨g32, 6, none⟩ = some (.int .i64 0) := blk_cellv (HS.out.at0) 6 rfl
        have hz548 : w524.frozen? ⟨g32, 6, none⟩ = false := blk_fz (HS.out.at0) 6
        have hc549 : w524.cell? ⟨g32, 7, none⟩ = some (.int .i64 0) := blk_cellv (HS.out.at0) 7 rfl
        have hz550 : w524.frozen? ⟨g32, 7, none⟩ = false := blk_fz (HS.out.at0) 7
        go_wp2_with (first | ((with_reducible refine gate_store (t := 97) (p := 2) rfl ?_); refine store_event (w1 := (World.setCell (World.setCell (World.setCell (World.setCell (World.setCell (World.setCell (World.setCell (World.setCell w524 ⟨g32, 0, none⟩ (.int .i64 t186)) ⟨g32, 1, none⟩ (.int .i64 (wrap64 (a26 - 8)))) ⟨g32, 2, none⟩ (.int .i64 (wrap64 ((wrap64 (a26 - 8)) + 1)))) ⟨g32, 3, none⟩ (.int .i64 t355)) ⟨g32, 4, none⟩ (.int .i64 t382)) ⟨g32, 5, none⟩ (.int .i64 t366)) ⟨g32, 6, none⟩ (.int .i64 t425)) ⟨g32, 7, none⟩ (.int .i64 t521))) rfl (t := 97) (p := 2) rfl rfl ?hr ?_; (case hr => first | (go_simp; done) | (go_simp; rfl)); intro w551 hst; clear hc527 hc528 hc529 hc530 hc531 hc532 hc533 hc534 hc535 hz536 hc537 hz538 hc539 hz540 hc541 hz542 hc543 hz544 hc545 hz546 hc547 hz548 hc549 hz550; replace HS : Aside0 (Sep (fps []) w [b3 g32 t186 (wrap64 (a26 - 8)) (wrap64 ((wrap64 (a26 - 8)) + 1)) t355 t382 t366 t425 t521, b3 g189 t186 (wrap64 (a26 - 8)) (wrap64 ((wrap64 (a26 - 8)) + 1)) t355 t382 t366 t425 t521] w551) := ⟨by rw [hst]; exact HS.out.setAll (l1 := []) (l2 := [b3 g189 t186 (wrap64 (a26 - 8)) (wrap64 ((wrap64 (a26 - 8)) + 1)) t355 t382 t366 t425 t521]) [.int .i64 t186, .int .i64 (wrap64 (a26 - 8)), .int .i64 (wrap64 ((wrap64 (a26 - 8)) + 1)), .int .i64 t355, .int .i64 t382, .int .i64 t366, .int .i64 t425, .int .i64 t521] rfl⟩; clear hst; replace HS : Aside0 (Sep (fps []) w [b3 g32 t186 (wrap64 (a26 - 8)) (wrap64 ((wrap64 (a26 - 8)) + 1)) t355 t382 t366 t425 t521] w551) := ⟨HS.out.sub (.cons_cons _ (.cons _ .slnil))⟩))
        have hc552 : w551.cell? ⟨g32, 0, none⟩ = some (.int .i64 t186) := blk_cellv (HS.out.at0) 0 rfl
        have hc553 : w551.cell? ⟨g32, 1, none⟩ = some (.int .i64 (wrap64 (a26 - 8))) := blk_cellv (HS.out.at0) 1 rfl
        have hc554 : w551.cell? ⟨g32, 2, none⟩ = some (.int .i64 (wrap64 ((wrap64 (a26 - 8)) + 1))) := blk_cellv (HS.out.at0) 2 rfl
        have hc555 : w551.cell? ⟨g32, 3, none⟩ = some (.int .i64 t355) := blk_cellv (HS.out.at0) 3 rfl
        have hc556 : w551.cell? ⟨g32, 4, none⟩ = some (.int .i64 t382) := blk_cellv (HS.out.at0) 4 rfl
        have hc557 : w551.cell? ⟨g32, 5, none⟩ = some (.int .i64 t366) := blk_cellv (HS.out.at0) 5 rfl
        have hc558 : w551.cell? ⟨g32, 6, none⟩ = some (.int .i64 t425) := blk_cellv (HS.out.at0) 6 rfl
        have hc559 : w551.cell? ⟨g32, 7, none⟩ = some (.int .i64 t521) := blk_cellv (HS.out.at0) 7 rfl
        refine bodyPost_ret (v := .tuple #[.agg #[.int .i64 t186, .int .i64 (wrap64 (a26 - 8)), .int .i64 (wrap64 ((wrap64 (a26 - 8)) + 1)), .int .i64 t355, .int .i64 t382, .int .i64 t366, .int .i64 t425, .int .i64 t521], .int .i64 0]) (by simp [results, Tryd.results65, go_sem, hc552, hc553, hc554, hc555, hc556, hc557, hc558, hc559]) rfl ?_
        rw [← some_eq H]
        exact ⟨(by first | rfl | (simp [IntKind.wrap_u32]; done)), HS.out.sub (.cons _ .slnil)⟩
  · replace H := if_no c83 H
    have c83b0 : (t80 == 0) = false := beq_eq_false_iff_ne.mpr c83
    have c83b1 : (t80 != 0) = true := bne_iff_ne.mpr c83
    clear c83
    have hc560 : w82.cell? ⟨g32, 0, none⟩ = some (.int .i64 0) := blk_cellv (HS.out.at1) 0 rfl
    have hz561 : w82.frozen? ⟨g32, 0, none⟩ = false := blk_fz (HS.out.at1) 0
    have hc562 : w82.cell? ⟨g32, 1, none⟩ = some (.int .i64 0) := blk_cellv (HS.out.at1) 1 rfl
    have hz563 : w82.frozen? ⟨g32, 1, none⟩ = false := blk_fz (HS.out.at1) 1
    have hc564 : w82.cell? ⟨g32, 2, none⟩ = some (.int .i64 0) := blk_cellv (HS.out.at1) 2 rfl
    have hz565 : w82.frozen? ⟨g32, 2, none⟩ = false := blk_fz (HS.out.at1) 2
    have hc566 : w82.cell? ⟨g32, 3, none⟩ = some (.int .i64 0) := blk_cellv (HS.out.at1) 3 rfl
    have hz567 : w82.frozen? ⟨g32, 3, none⟩ = false := blk_fz (HS.out.at1) 3
    have hc568 : w82.cell? ⟨g32, 4, none⟩ = some (.int .i64 0) := blk_cellv (HS.out.at1) 4 rfl
    have hz569 : w82.frozen? ⟨g32, 4, none⟩ = false := blk_fz (HS.out.at1) 4
    have hc570 : w82.cell? ⟨g32, 5, none⟩ = some (.int .i64 0) := blk_cellv (HS.out.at1) 5 rfl
    have hz571 : w82.frozen? ⟨g32, 5, none⟩ = false := blk_fz (HS.out.at1) 5
    have hc572 : w82.cell? ⟨g32, 6, none⟩ = some (.int .i64 0) := blk_cellv (HS.out.at1) 6 rfl
    have hz573 : w82.frozen? ⟨g32, 6, none⟩ = false := blk_fz (HS.out.at1) 6
    have hc574 : w82.cell? ⟨g32, 7, none⟩ = some (.int .i64 0) := blk_cellv (HS.out.at1) 7 rfl
    have hz575 : w82.frozen? ⟨g32, 7, none⟩ = false := blk_fz (HS.out.at1) 7
    go_wp2_with (first | ((with_reducible refine gate_store (t := 97) (p := 2) rfl ?_); refine store_event (w1 := (World.setCell (World.setCell (World.setCell (World.setCell (World.setCell (World.setCell (World.setCell (World.setCell w82 ⟨g32, 0, none⟩ (.int .i64 0)) ⟨g32, 1, none⟩ (.int .i64 0)) ⟨g32, 2, none⟩ (.int .i64 0)) ⟨g32, 3, none⟩ (.int .i64 0)) ⟨g32, 4, none⟩ (.int .i64 0)) ⟨g32, 5, none⟩ (.int .i64 0)) ⟨g32, 6, none⟩ (.int .i64 0)) ⟨g32, 7, none⟩ (.int .i64 0))) rfl (t := 97) (p := 2) rfl rfl ?hr ?_; (case hr => first | (go_simp; done) | (go_simp; rfl)); intro w576 hst; clear hc560 hz561 hc562 hz563 hc564 hz565 hc566 hz567 hc568 hz569 hc570 hz571 hc572 hz573 hc574 hz575; replace HS : Aside0 (Sep (fps []) w [b2 g29 a25 a26 a27 a28, b3 g32 0 0 0 0 0 0 0 0] w576) := ⟨by rw [hst]; exact HS.out.setAll (l1 := [b2 g29 a25 a26 a27 a28]) (l2 := []) [.int .i64 0, .int .i64 0, .int .i64 0, .int .i64 0, .int .i64 0, .int .i64 0, .int .i64 0, .int .i64 0] rfl⟩; clear hst; replace HS : Aside0 (Sep (fps []) w [b3 g32 0 0 0 0 0 0 0 0] w576) := ⟨HS.out.sub (.cons _ (.cons_cons _ .slnil))⟩))
    have hc577 : w576.cell? ⟨g32, 0, none⟩ = some (.int .i64 0) := blk_cellv (HS.out.at0) 0 rfl
    have hc578 : w576.cell? ⟨g32, 1, none⟩ = some (.int .i64 0) := blk_cellv (HS.out.at0) 1 rfl
    have hc579 : w576.cell? ⟨g32, 2, none⟩ = some (.int .i64 0) := blk_cellv (HS.out.at0) 2 rfl
    have hc580 : w576.cell? ⟨g32, 3, none⟩ = some (.int .i64 0) := blk_cellv (HS.out.at0) 3 rfl
    have hc581 : w576.cell? ⟨g32, 4, none⟩ = some (.int .i64 0) := blk_cellv (HS.out.at0) 4 rfl
    have hc582 : w576.cell? ⟨g32, 5, none⟩ = some (.int .i64 0) := blk_cellv (HS.out.at0) 5 rfl
    have hc583 : w576.cell? ⟨g32, 6, none⟩ = some (.int .i64 0) := blk_cellv (HS.out.at0) 6 rfl
    have hc584 : w576.cell? ⟨g32, 7, none⟩ = some (.int .i64 0) := blk_cellv (HS.out.at0) 7 rfl
    refine bodyPost_ret (v := .tuple #[.agg #[.int .i64 0, .int .i64 0, .int .i64 0, .int .i64 0, .int .i64 0, .int .i64 0, .int .i64 0, .int .i64 0], .int .i64 t80]) (by simp [results, Tryd.results65, go_sem, hc577, hc578, hc579, hc580, hc581, hc582, hc583, hc584]) rfl ?_
    rw [← some_eq H]
    exact ⟨(by first | rfl | (simp [IntKind.wrap_u32]; done)), HS.out.sub (.cons _ .slnil)⟩

set_option maxHeartbeats 30000000 in
set_option maxRecDepth 100000 in
theorem store_New.calls (a610 : Int) (r : Unit ⊕ (List Int)) (w : World)  (HGl0 : Aside0 (Gl 0 #[.int .i64 0, .int .i64 0, .int .i64 0, .int .i64 0, .int .i64 0] (fps []) w)) (HS : Aside0 (Sep (fps []) w [] w)) (H : Aside0 (store_New.f a610 = some r)) :
    Calls Tryd.prog 66 #[.int .i64 a610] w fun e w' => Sum.elim (fun (r : Unit) => e = .returned (.tuple #[.pointer none, .int .i64 2]) ∧ Sep (fps []) w [] w') (fun (r : List Int) => ∃ (g646 : Nat), e = .returned (.tuple #[.pointer (some ⟨g646, 0, none⟩), .int .i64 0]) ∧ ∃ (A647 : Option Addr) (m648 : Nat) (n649 : Nat), Sep (fps []) w [b7 g646 A647 m648 n649 0, r6 A647 m648 n649 r] w') r := by
  unfold store_New.f at H
  go_enter Tryd.func66, Tryd.ntmps66
  by_cases c624 : a610 < 0
  · replace H := if_yes c624 H
    have c624b0 : decide (a610 < 0) = true := decide_eq_true c624
    clear c624
    go_wp2_with fail
    go_ret2
    rw [← some_eq H]
    exact ⟨(by first | rfl | (simp [IntKind.wrap_u32]; done)), HS.out⟩
  · replace H := if_no c624 H
    have c624b0 : decide (a610 < 0) = false := decide_eq_false c624
    clear c624
    by_cases c625 : a610 > 8388608
    · replace H := if_yes c625 H
      have c625b0 : decide (8388608 < a610) = true := decide_eq_true c625
      clear c625
      go_wp2_with fail
      go_ret2
      rw [← some_eq H]
      exact ⟨(by first | rfl | (simp [IntKind.wrap_u32]; done)), HS.out⟩
    · replace H := if_no c625 H
      have c625b0 : decide (8388608 < a610) = false := decide_eq_false c625
      clear c625
      obtain ⟨m626, HA627, H⟩ := bind_some H
      obtain ⟨hm628, hn629⟩ := mkLen_eq HA627
      have hm628H := Aside0.mk hm628
      clear hm628
      go_wp2_with (first | ((with_reducible refine gate_dst (N := 11) rfl ?_); refine make_event rfl (N := 11) rfl 69 33 (.tmp 10) (.tmp 10) rfl .i64 (.int .u32 0) 4 Tryd.underlying69 (by kernel_rfl) rfl (by decide) (Value.int .u32) 0 rfl m626 (by show Value.int _ _ = _; rw [hm628H.out]) (by show Value.int _ _ = _; rw [hm628H.out]) (by omega) HS.out ?_; intro g630 w631 HS1; replace HS : Aside0 (Sep (fps []) w [r6 (some ⟨g630, 0, none⟩) m626 m626 (List.replicate m626 (0 : Int))] w631) := ⟨HS1⟩; clear HS1) | ((with_reducible refine gate_dst (N := 13) rfl ?_); refine box_on ?hg (N := 13) ?hd (cs := #[.slice (some ⟨g630, 0, none⟩) m626 m626, .int .u64 0]) (t := 154) ?hr ?_; (case hd => rfl); (case hg => rfl); (case hr => first | (go_simp; done) | (go_simp; rfl)); intro g634 hg w635 hbox hb; replace HS : Aside0 (Sep (fps []) w [r6 (some ⟨g630, 0, none⟩) m626 m626 (List.replicate m626 (0 : Int)), b7 g634 (some ⟨g630, 0, none⟩) m626 m626 0] w635) := ⟨HS.out.box hg hbox hb⟩; clear hg hbox hb))
      go_ret2
      rw [← some_eq H]
      exact ⟨g634, (by first | rfl | (simp [IntKind.wrap_u32]; done)), (some ⟨g630, 0, none⟩), m626, m626, ((HS.out).front 1 (by simp)).keep (l := [b7 g634 (some ⟨g630, 0, none⟩) m626 m626 0, r6 (some ⟨g630, 0, none⟩) m626 m626 (List.replicate m626 (0 : Int))]) (rest := [])⟩

set_option maxHeartbeats 30000000 in
set_option maxRecDepth 100000 in
theorem ground_New.calls (k : Nat) (a14 : Int) (a15 : Int) (a16 : Int) (a17 : Int) (r : Unit ⊕ ((Int × Int × Int × Int × List Int) ⊕ Int)) (w : World)  (HGl0 : Aside0 (Gl 0 #[.int .i64 0, .int .i64 0, .int .i64 0, .int .i64 0, .int .i64 0] (fps []) w)) (HS : Aside0 (Sep (fps []) w [] w)) (H : Aside0 (ground_New.f k a14 a15 a16 a17 = some r)) :
    Calls Tryd.prog 15 #[.agg #[.int .i64 a14, .int .i64 a15, .int .i64 a16, .int .i64 a17]] w fun e w' => Sum.elim (fun (r : Unit) => e = .returned (.tuple #[.pointer none, .int .i64 2]) ∧ Sep (fps []) w [] w') (fun (r_ : (Int × Int × Int × Int × List Int) ⊕ Int) => Sum.elim (fun (r : Int × Int × Int × Int × List Int) => ∃ (g796 : Nat), e = .returned (.tuple #[.pointer (some ⟨g796, 0, none⟩), .int .i64 0]) ∧ ∃ (g797 : Nat) (A798 : Option Addr) (m799 : Nat) (n800 : Nat), Sep (fps []) w [b8 g796 g797 r.1 r.2.1 r.2.2.1 r.2.2.2.1, b7 g797 A798 m799 n800 0, r6 A798 m799 n800 r.2.2.2.2] w') (fun (r : Int) => e = .returned (.tuple #[.pointer none, .int .i64 r]) ∧ Sep (fps []) w [] w') r_) r := by
  unfold ground_New.f at H
  go_enter Tryd.func15, Tryd.ntmps15
  go_wp2_with (first | ((with_reducible refine gate_dst (N := 1) rfl ?_); refine box_on ?hg (N := 1) ?hd (cs := #[.int .i64 a14, .int .i64 a15, .int .i64 a16, .int .i64 a17]) (t := 30) ?hr ?_; (case hd => rfl); (case hg => rfl); (case hr => first | (go_simp; done) | (go_simp; rfl)); intro g732 hg w733 hbox hb; replace HS : Aside0 (Sep (fps []) w [b2 g732 a14 a15 a16 a17] w733) := ⟨HS.out.box hg hbox hb⟩; clear hg hbox hb; have hc735 : w733.cell? ⟨g732, 0, none⟩ = some (.int .i64 a14) := blk_cellv (HS.out.at0) 0 rfl; have hc736 : w733.cell? ⟨g732, 1, none⟩ = some (.int .i64 a15) := blk_cellv (HS.out.at0) 1 rfl; have hc737 : w733.cell? ⟨g732, 2, none⟩ = some (.int .i64 a16) := blk_cellv (HS.out.at0) 2 rfl; have hc738 : w733.cell? ⟨g732, 3, none⟩ = some (.int .i64 a17) := blk_cellv (HS.out.at0) 3 rfl))
  clear hc735 hc736 hc737 hc738
  obtain ⟨t739, HA740, H⟩ := bind_some H
  refine (plan_Of.calls _ a14 a15 a16 a17 t739 _ ⟨HGl0.out.pass (l := []) HS.out⟩ ⟨Sep.start _⟩ HA740).mono ?_
  rintro e_ w741 ⟨rfl, hS⟩
  replace HS : Aside0 (Sep (fps []) w [b2 g732 a14 a15 a16 a17] w741) := ⟨HS.out.call hS⟩
  clear hS
  by_cases c762 : t739.2.2.2.2.2.2.2.2 = 0
  · replace H := if_yes c762 H
    have c762b0 : (t739.2.2.2.2.2.2.2.2 == 0) = true := beq_iff_eq.mpr c762
    have c762b1 : (t739.2.2.2.2.2.2.2.2 != 0) = false := bne_eq_false_iff_eq.mpr c762
    clear c762
    go_wp2_with (first | ((with_reducible refine gate_dst (N := 4) rfl ?_); refine box_on ?hg (N := 4) ?hd (cs := #[.int .i64 0, .int .i64 0, .int .i64 0, .int .i64 0, .int .i64 0, .int .i64 0, .int .i64 0, .int .i64 0]) (t := 97) ?hr ?_; (case hd => rfl); (case hg => rfl); (case hr => first | (go_simp; done) | (go_simp; rfl)); intro g742 hg w743 hbox hb; replace HS : Aside0 (Sep (fps []) w [b2 g732 a14 a15 a16 a17, b3 g742 0 0 0 0 0 0 0 0] w743) := ⟨HS.out.box hg hbox hb⟩; clear hg hbox hb; have hc745 : w743.cell? ⟨g742, 0, none⟩ = some (.int .i64 0) := blk_cellv (HS.out.at1) 0 rfl; have hz746 : w743.frozen? ⟨g742, 0, none⟩ = false := blk_fz (HS.out.at1) 0; have hc747 : w743.cell? ⟨g742, 1, none⟩ = some (.int .i64 0) := blk_cellv (HS.out.at1) 1 rfl; have hz748 : w743.frozen? ⟨g742, 1, none⟩ = false := blk_fz (HS.out.at1) 1; have hc749 : w743.cell? ⟨g742, 2, none⟩ = some (.int .i64 0) := blk_cellv (HS.out.at1) 2 rfl; have hz750 : w743.frozen? ⟨g742, 2, none⟩ = false := blk_fz (HS.out.at1) 2; have hc751 : w743.cell? ⟨g742, 3, none⟩ = some (.int .i64 0) := blk_cellv (HS.out.at1) 3 rfl; have hz752 : w743.frozen? ⟨g742, 3, none⟩ = false := blk_fz (HS.out.at1) 3; have hc753 : w743.cell? ⟨g742, 4, none⟩ = some (.int .i64 0) := blk_cellv (HS.out.at1) 4 rfl; have hz754 : w743.frozen? ⟨g742, 4, none⟩ = false := blk_fz (HS.out.at1) 4; have hc755 : w743.cell? ⟨g742, 5, none⟩ = some (.int .i64 0) := blk_cellv (HS.out.at1) 5 rfl; have hz756 : w743.frozen? ⟨g742, 5, none⟩ = false := blk_fz (HS.out.at1) 5; have hc757 : w743.cell? ⟨g742, 6, none⟩ = some (.int .i64 0) := blk_cellv (HS.out.at1) 6 rfl; have hz758 : w743.frozen? ⟨g742, 6, none⟩ = false := blk_fz (HS.out.at1) 6; have hc759 : w743.cell? ⟨g742, 7, none⟩ = some (.int .i64 0) := blk_cellv (HS.out.at1) 7 rfl; have hz760 : w743.frozen? ⟨g742, 7, none⟩ = false := blk_fz (HS.out.at1) 7) | ((with_reducible refine gate_store (t := 97) (p := 4) rfl ?_); refine store_event (w1 := (World.setCell (World.setCell (World.setCell (World.setCell (World.setCell (World.setCell (World.setCell (World.setCell w743 ⟨g742, 0, none⟩ (.int .i64 t739.1)) ⟨g742, 1, none⟩ (.int .i64 t739.2.1)) ⟨g742, 2, none⟩ (.int .i64 t739.2.2.1)) ⟨g742, 3, none⟩ (.int .i64 t739.2.2.2.1)) ⟨g742, 4, none⟩ (.int .i64 t739.2.2.2.2.1)) ⟨g742, 5, none⟩ (.int .i64 t739.2.2.2.2.2.1)) ⟨g742, 6, none⟩ (.int .i64 t739.2.2.2.2.2.2.1)) ⟨g742, 7, none⟩ (.int .i64 t739.2.2.2.2.2.2.2.1))) rfl (t := 97) (p := 4) rfl rfl ?hr ?_; (case hr => first | (go_simp; done) | (go_simp; rfl)); intro w761 hst; clear hc745 hz746 hc747 hz748 hc749 hz750 hc751 hz752 hc753 hz754 hc755 hz756 hc757 hz758 hc759 hz760; replace HS : Aside0 (Sep (fps []) w [b2 g732 a14 a15 a16 a17, b3 g742 t739.1 t739.2.1 t739.2.2.1 t739.2.2.2.1 t739.2.2.2.2.1 t739.2.2.2.2.2.1 t739.2.2.2.2.2.2.1 t739.2.2.2.2.2.2.2.1] w761) := ⟨by rw [hst]; exact HS.out.setAll (l1 := [b2 g732 a14 a15 a16 a17]) (l2 := []) [.int .i64 t739.1, .int .i64 t739.2.1, .int .i64 t739.2.2.1, .int .i64 t739.2.2.2.1, .int .i64 t739.2.2.2.2.1, .int .i64 t739.2.2.2.2.2.1, .int .i64 t739.2.2.2.2.2.2.1, .int .i64 t739.2.2.2.2.2.2.2.1] rfl⟩; clear hst; have hc763 : w761.cell? ⟨g742, 0, none⟩ = some (.int .i64 t739.1) := blk_cellv (HS.out.at1) 0 rfl))
    clear hc763
    obtain ⟨t764, HA765, H⟩ := bind_some H
    rcases t764 with t766 | t767
    · have H := sum_l H
      refine (store_New.calls t739.1 (.inl t766) _ ⟨HGl0.out.pass (l := []) HS.out⟩ ⟨Sep.start _⟩ HA765).mono ?_
      rintro e_ w768 ⟨rfl, hS⟩
      replace HS : Aside0 (Sep (fps []) w [b2 g732 a14 a15 a16 a17, b3 g742 t739.1 t739.2.1 t739.2.2.1 t739.2.2.2.1 t739.2.2.2.2.1 t739.2.2.2.2.2.1 t739.2.2.2.2.2.2.1 t739.2.2.2.2.2.2.2.1] w768) := ⟨HS.out.call hS⟩
      clear hS
      replace HS : Aside0 (Sep (fps []) w [b2 g732 a14 a15 a16 a17] w768) := ⟨HS.out.sub (.cons_cons _ (.cons _ .slnil))⟩
      replace HS : Aside0 (Sep (fps []) w [] w768) := ⟨HS.out.sub (.cons _ .slnil)⟩
      go_wp2_with fail
      go_ret2
      rw [← some_eq H]
      exact ⟨(by first | rfl | (simp [IntKind.wrap_u32]; done)), HS.out⟩
    · have H := sum_r H
      refine (store_New.calls t739.1 (.inr t767) _ ⟨HGl0.out.pass (l := []) HS.out⟩ ⟨Sep.start _⟩ HA765).mono ?_
      rintro e_ w769 ⟨g772, rfl, A773, m774, n775, hS⟩
      replace HS : Aside0 (Sep (fps []) w [b7 g772 A773 m774 n775 0, r6 A773 m774 n775 t767, b2 g732 a14 a15 a16 a17, b3 g742 t739.1 t739.2.1 t739.2.2.1 t739.2.2.2.1 t739.2.2.2.2.1 t739.2.2.2.2.2.1 t739.2.2.2.2.2.2.1 t739.2.2.2.2.2.2.2.1] w769) := ⟨HS.out.call hS⟩
      clear hS
      obtain rfl := (row_len (HS.out.at1)).symm
      replace HS : Aside0 (Sep (fps []) w [b7 g772 A773 t767.length n775 0, r6 A773 t767.length n775 t767, b2 g732 a14 a15 a16 a17] w769) := ⟨HS.out.sub (.cons_cons _ (.cons_cons _ (.cons_cons _ (.cons _ .slnil))))⟩
      have hc777 : w769.cell? ⟨g732, 0, none⟩ = some (.int .i64 a14) := blk_cellv (HS.out.at2) 0 rfl
      have hc778 : w769.cell? ⟨g732, 1, none⟩ = some (.int .i64 a15) := blk_cellv (HS.out.at2) 1 rfl
      have hc779 : w769.cell? ⟨g732, 2, none⟩ = some (.int .i64 a16) := blk_cellv (HS.out.at2) 2 rfl
      have hc780 : w769.cell? ⟨g732, 3, none⟩ = some (.int .i64 a17) := blk_cellv (HS.out.at2) 3 rfl
      go_wp2_with (first | ((with_reducible refine gate_dst (N := 28) rfl ?_); refine box_on ?hg (N := 28) ?hd (cs := #[.pointer (some ⟨g772, 0, none⟩), .int .i64 a14, .int .i64 a15, .int .i64 a16, .int .i64 a17]) (t := 106) ?hr ?_; (case hd => rfl); (case hg => rfl); (case hr => first | (go_simp; done) | (go_simp; rfl)); intro g781 hg w782 hbox hb; clear hc777 hc778 hc779 hc780; replace HS : Aside0 (Sep (fps []) w [b7 g772 A773 t767.length n775 0, r6 A773 t767.length n775 t767, b2 g732 a14 a15 a16 a17, b8 g781 g772 a14 a15 a16 a17] w782) := ⟨HS.out.box hg hbox hb⟩; clear hg hbox hb; replace HS : Aside0 (Sep (fps []) w [b7 g772 A773 t767.length n775 0, r6 A773 t767.length n775 t767, b8 g781 g772 a14 a15 a16 a17] w782) := ⟨HS.out.sub (.cons_cons _ (.cons_cons _ (.cons _ (.cons_cons _ .slnil))))⟩))
      go_ret2
      rw [← some_eq H]
      exact ⟨g781, (by first | rfl | (simp [IntKind.wrap_u32]; done)), g772, A773, t767.length, n775, ((((HS.out).front 1 (by simp)).front 1 (by simp)).front 2 (by simp)).keep (l := [b8 g781 g772 a14 a15 a16 a17, b7 g772 A773 t767.length n775 0, r6 A773 t767.length n775 t767]) (rest := [])⟩
  · replace H := if_no c762 H
    have c762b0 : (t739.2.2.2.2.2.2.2.2 == 0) = false := beq_eq_false_iff_ne.mpr c762
    have c762b1 : (t739.2.2.2.2.2.2.2.2 != 0) = true := bne_iff_ne.mpr c762
    clear c762
    go_wp2_with (first | ((with_reducible refine gate_dst (N := 4) rfl ?_); refine box_on ?hg (N := 4) ?hd (cs := #[.int .i64 0, .int .i64 0, .int .i64 0, .int .i64 0, .int .i64 0, .int .i64 0, .int .i64 0, .int .i64 0]) (t := 97) ?hr ?_; (case hd => rfl); (case hg => rfl); (case hr => first | (go_simp; done) | (go_simp; rfl)); intro g742 hg w743 hbox hb; replace HS : Aside0 (Sep (fps []) w [b2 g732 a14 a15 a16 a17, b3 g742 0 0 0 0 0 0 0 0] w743) := ⟨HS.out.box hg hbox hb⟩; clear hg hbox hb; have hc745 : w743.cell? ⟨g742, 0, none⟩ = some (.int .i64 0) := blk_cellv (HS.out.at1) 0 rfl; have hz746 : w743.frozen? ⟨g742, 0, none⟩ = false := blk_fz (HS.out.at1) 0; have hc747 : w743.cell? ⟨g742, 1, none⟩ = some (.int .i64 0) := blk_cellv (HS.out.at1) 1 rfl; have hz748 : w743.frozen? ⟨g742, 1, none⟩ = false := blk_fz (HS.out.at1) 1; have hc749 : w743.cell? ⟨g742, 2, none⟩ = some (.int .i64 0) := blk_cellv (HS.out.at1) 2 rfl; have hz750 : w743.frozen? ⟨g742, 2, none⟩ = false := blk_fz (HS.out.at1) 2; have hc751 : w743.cell? ⟨g742, 3, none⟩ = some (.int .i64 0) := blk_cellv (HS.out.at1) 3 rfl; have hz752 : w743.frozen? ⟨g742, 3, none⟩ = false := blk_fz (HS.out.at1) 3; have hc753 : w743.cell? ⟨g742, 4, none⟩ = some (.int .i64 0) := blk_cellv (HS.out.at1) 4 rfl; have hz754 : w743.frozen? ⟨g742, 4, none⟩ = false := blk_fz (HS.out.at1) 4; have hc755 : w743.cell? ⟨g742, 5, none⟩ = some (.int .i64 0) := blk_cellv (HS.out.at1) 5 rfl; have hz756 : w743.frozen? ⟨g742, 5, none⟩ = false := blk_fz (HS.out.at1) 5; have hc757 : w743.cell? ⟨g742, 6, none⟩ = some (.int .i64 0) := blk_cellv (HS.out.at1) 6 rfl; have hz758 : w743.frozen? ⟨g742, 6, none⟩ = false := blk_fz (HS.out.at1) 6; have hc759 : w743.cell? ⟨g742, 7, none⟩ = some (.int .i64 0) := blk_cellv (HS.out.at1) 7 rfl; have hz760 : w743.frozen? ⟨g742, 7, none⟩ = false := blk_fz (HS.out.at1) 7) | ((with_reducible refine gate_store (t := 97) (p := 4) rfl ?_); refine store_event (w1 := (World.setCell (World.setCell (World.setCell (World.setCell (World.setCell (World.setCell (World.setCell (World.setCell w743 ⟨g742, 0, none⟩ (.int .i64 t739.1)) ⟨g742, 1, none⟩ (.int .i64 t739.2.1)) ⟨g742, 2, none⟩ (.int .i64 t739.2.2.1)) ⟨g742, 3, none⟩ (.int .i64 t739.2.2.2.1)) ⟨g742, 4, none⟩ (.int .i64 t739.2.2.2.2.1)) ⟨g742, 5, none⟩ (.int .i64 t739.2.2.2.2.2.1)) ⟨g742, 6, none⟩ (.int .i64 t739.2.2.2.2.2.2.1)) ⟨g742, 7, none⟩ (.int .i64 t739.2.2.2.2.2.2.2.1))) rfl (t := 97) (p := 4) rfl rfl ?hr ?_; (case hr => first | (go_simp; done) | (go_simp; rfl)); intro w761 hst; clear hc745 hz746 hc747 hz748 hc749 hz750 hc751 hz752 hc753 hz754 hc755 hz756 hc757 hz758 hc759 hz760; replace HS : Aside0 (Sep (fps []) w [b2 g732 a14 a15 a16 a17, b3 g742 t739.1 t739.2.1 t739.2.2.1 t739.2.2.2.1 t739.2.2.2.2.1 t739.2.2.2.2.2.1 t739.2.2.2.2.2.2.1 t739.2.2.2.2.2.2.2.1] w761) := ⟨by rw [hst]; exact HS.out.setAll (l1 := [b2 g732 a14 a15 a16 a17]) (l2 := []) [.int .i64 t739.1, .int .i64 t739.2.1, .int .i64 t739.2.2.1, .int .i64 t739.2.2.2.1, .int .i64 t739.2.2.2.2.1, .int .i64 t739.2.2.2.2.2.1, .int .i64 t739.2.2.2.2.2.2.1, .int .i64 t739.2.2.2.2.2.2.2.1] rfl⟩; clear hst; replace HS : Aside0 (Sep (fps []) w [] w761) := ⟨HS.out.sub (.cons _ (.cons _ .slnil))⟩))
    go_ret2
    rw [← some_eq H]
    exact ⟨(by first | rfl | (simp [IntKind.wrap_u32]; done)), HS.out⟩

set_option maxHeartbeats 30000000 in
set_option maxRecDepth 100000 in
theorem quitrentlaw09_tagOf.calls (a828 : Int) (r : Int × Int × Int × Int × Int × Int × Int) (w : World)  (HGl0 : Aside0 (Gl 0 #[.int .i64 0, .int .i64 0, .int .i64 0, .int .i64 0, .int .i64 0] (fps []) w)) (HS : Aside0 (Sep (fps []) w [] w)) (H : Aside0 (quitrentlaw09_tagOf.f a828 = some r)) :
    Calls Tryd.prog 78 #[.int .u8 a828] w fun e w' => e = .returned (.agg #[.int .i64 r.1, .int .i64 r.2.1, .int .i64 r.2.2.1, .int .i64 r.2.2.2.1, .int .i64 r.2.2.2.2.1, .int .i64 r.2.2.2.2.2.1, .int .i64 r.2.2.2.2.2.2]) ∧ Sep (fps []) w [] w' := by
  unfold quitrentlaw09_tagOf.f at H
  go_enter Tryd.func78, Tryd.ntmps78
  by_cases c851 : (wrap64 (Int.tmod a828 4)) = 1
  · replace H := if_yes c851 H
    have c851b0 : ((wrap64 (Int.tmod a828 4)) == 1) = true := beq_iff_eq.mpr c851
    have c851b1 : ((wrap64 (Int.tmod a828 4)) != 1) = false := bne_eq_false_iff_eq.mpr c851
    clear c851
    go_wp2_with (first | ((with_reducible refine gate_dst (N := 2) rfl ?_); refine box_on ?hg (N := 2) ?hd (cs := #[.int .i64 0, .int .i64 0, .int .i64 0, .int .i64 0, .int .i64 0, .int .i64 0, .int .i64 0]) (t := 32) ?hr ?_; (case hd => rfl); (case hg => rfl); (case hr => first | (go_simp; done) | (go_simp; rfl)); intro g829 hg w830 hbox hb; replace HS : Aside0 (Sep (fps []) w [b9 g829 0 0 0 0 0 0 0] w830) := ⟨HS.out.box hg hbox hb⟩; clear hg hbox hb) | ((with_reducible refine gate_dst (N := 3) rfl ?_); refine box_on ?hg (N := 3) ?hd (cs := #[.int .i64 0, .int .i64 0, .int .i64 0, .int .i64 0, .int .i64 0, .int .i64 0, .int .i64 0]) (t := 32) ?hr ?_; (case hd => rfl); (case hg => rfl); (case hr => first | (go_simp; done) | (go_simp; rfl)); intro g832 hg w833 hbox hb; replace HS : Aside0 (Sep (fps []) w [b9 g829 0 0 0 0 0 0 0, b9 g832 0 0 0 0 0 0 0] w833) := ⟨HS.out.box hg hbox hb⟩; clear hg hbox hb; have hc835 : w833.cell? ⟨g832, 0, none⟩ = some (.int .i64 0) := blk_cellv (HS.out.at1) 0 rfl; have hz836 : w833.frozen? ⟨g832, 0, none⟩ = false := blk_fz (HS.out.at1) 0; have hc837 : w833.cell? ⟨g832, 1, none⟩ = some (.int .i64 0) := blk_cellv (HS.out.at1) 1 rfl; have hz838 : w833.frozen? ⟨g832, 1, none⟩ = false := blk_fz (HS.out.at1) 1; have hc839 : w833.cell? ⟨g832, 2, none⟩ = some (.int .i64 0) := blk_cellv (HS.out.at1) 2 rfl; have hz840 : w833.frozen? ⟨g832, 2, none⟩ = false := blk_fz (HS.out.at1) 2; have hc841 : w833.cell? ⟨g832, 3, none⟩ = some (.int .i64 0) := blk_cellv (HS.out.at1) 3 rfl; have hz842 : w833.frozen? ⟨g832, 3, none⟩ = false := blk_fz (HS.out.at1) 3; have hc843 : w833.cell? ⟨g832, 4, none⟩ = some (.int .i64 0) := blk_cellv (HS.out.at1) 4 rfl; have hz844 : w833.frozen? ⟨g832, 4, none⟩ = false := blk_fz (HS.out.at1) 4; have hc845 : w833.cell? ⟨g832, 5, none⟩ = some (.int .i64 0) := blk_cellv (HS.out.at1) 5 rfl; have hz846 : w833.frozen? ⟨g832, 5, none⟩ = false := blk_fz (HS.out.at1) 5; have hc847 : w833.cell? ⟨g832, 6, none⟩ = some (.int .i64 0) := blk_cellv (HS.out.at1) 6 rfl; have hz848 : w833.frozen? ⟨g832, 6, none⟩ = false := blk_fz (HS.out.at1) 6) | ((with_reducible refine gate_store (t := 32) (p := 3) rfl ?_); refine store_event (w1 := (World.setCell (World.setCell (World.setCell (World.setCell (World.setCell (World.setCell (World.setCell w833 ⟨g832, 0, none⟩ (.int .i64 (wrap64 (Int.tmod a828 4)))) ⟨g832, 1, none⟩ (.int .i64 0)) ⟨g832, 2, none⟩ (.int .i64 0)) ⟨g832, 3, none⟩ (.int .i64 0)) ⟨g832, 4, none⟩ (.int .i64 0)) ⟨g832, 5, none⟩ (.int .i64 0)) ⟨g832, 6, none⟩ (.int .i64 0))) rfl (t := 32) (p := 3) rfl rfl ?hr ?_; (case hr => first | (go_simp; done) | (go_simp; rfl)); intro w849 hst; clear hc835 hz836 hc837 hz838 hc839 hz840 hc841 hz842 hc843 hz844 hc845 hz846 hc847 hz848; replace HS : Aside0 (Sep (fps []) w [b9 g829 0 0 0 0 0 0 0, b9 g832 (wrap64 (Int.tmod a828 4)) 0 0 0 0 0 0] w849) := ⟨by rw [hst]; exact HS.out.setAll (l1 := [b9 g829 0 0 0 0 0 0 0]) (l2 := []) [.int .i64 (wrap64 (Int.tmod a828 4)), .int .i64 0, .int .i64 0, .int .i64 0, .int .i64 0, .int .i64 0, .int .i64 0] rfl⟩; clear hst; have hc850 : w849.cell? ⟨g832, 0, none⟩ = some (.int .i64 (wrap64 (Int.tmod a828 4))) := blk_cellv (HS.out.at1) 0 rfl; have hc852 : w849.cell? ⟨g832, 1, none⟩ = some (.int .i64 0) := blk_cellv (HS.out.at1) 1 rfl; have hz853 : w849.frozen? ⟨g832, 1, none⟩ = false := blk_fz (HS.out.at1) 1) | ((with_reducible refine gate_store (t := 3) (p := 24) rfl ?_); refine store_event (w1 := (World.setCell w849 ⟨g832, 1, none⟩ (.int .i64 (((Int.tdiv a828 4) % 256) % 2)))) rfl (t := 3) (p := 24) rfl rfl ?hr ?_; (case hr => first | (go_simp; done) | (go_simp; rfl)); intro w854 hst; clear hc850 hc852 hz853; have hq0 : Sep (fps []) w [b9 g829 0 0 0 0 0 0 0, b9 g832 (wrap64 (Int.tmod a828 4)) (((Int.tdiv a828 4) % 256) % 2) 0 0 0 0 0] (World.setCell w849 ⟨g832, 1, none⟩ (.int .i64 (((Int.tdiv a828 4) % 256) % 2))) := (HS.out).set1 (l1 := [b9 g829 0 0 0 0 0 0 0]) (l2 := []) 1 (.int .i64 (((Int.tdiv a828 4) % 256) % 2)); replace HS : Aside0 (Sep (fps []) w [b9 g829 0 0 0 0 0 0 0, b9 g832 (wrap64 (Int.tmod a828 4)) (((Int.tdiv a828 4) % 256) % 2) 0 0 0 0 0] w854) := ⟨by rw [hst]; exact hq0⟩; clear hq0; clear hst; have hc855 : w854.cell? ⟨g832, 3, none⟩ = some (.int .i64 0) := blk_cellv (HS.out.at1) 3 rfl; have hz856 : w854.frozen? ⟨g832, 3, none⟩ = false := blk_fz (HS.out.at1) 3) | ((with_reducible refine gate_store (t := 3) (p := 25) rfl ?_); refine store_event (w1 := (World.setCell w854 ⟨g832, 3, none⟩ (.int .i64 (((Int.tdiv a828 8) % 256) % 2)))) rfl (t := 3) (p := 25) rfl rfl ?hr ?_; (case hr => first | (go_simp; done) | (go_simp; rfl)); intro w857 hst; clear hc855 hz856; have hq0 : Sep (fps []) w [b9 g829 0 0 0 0 0 0 0, b9 g832 (wrap64 (Int.tmod a828 4)) (((Int.tdiv a828 4) % 256) % 2) 0 (((Int.tdiv a828 8) % 256) % 2) 0 0 0] (World.setCell w854 ⟨g832, 3, none⟩ (.int .i64 (((Int.tdiv a828 8) % 256) % 2))) := (HS.out).set1 (l1 := [b9 g829 0 0 0 0 0 0 0]) (l2 := []) 3 (.int .i64 (((Int.tdiv a828 8) % 256) % 2)); replace HS : Aside0 (Sep (fps []) w [b9 g829 0 0 0 0 0 0 0, b9 g832 (wrap64 (Int.tmod a828 4)) (((Int.tdiv a828 4) % 256) % 2) 0 (((Int.tdiv a828 8) % 256) % 2) 0 0 0] w857) := ⟨by rw [hst]; exact hq0⟩; clear hq0; clear hst; have hc858 : w857.cell? ⟨g832, 0, none⟩ = some (.int .i64 (wrap64 (Int.tmod a828 4))) := blk_cellv (HS.out.at1) 0 rfl; have hc859 : w857.cell? ⟨g832, 1, none⟩ = some (.int .i64 (((Int.tdiv a828 4) % 256) % 2)) := blk_cellv (HS.out.at1) 1 rfl; have hc860 : w857.cell? ⟨g832, 2, none⟩ = some (.int .i64 0) := blk_cellv (HS.out.at1) 2 rfl; have hc861 : w857.cell? ⟨g832, 3, none⟩ = some (.int .i64 (((Int.tdiv a828 8) % 256) % 2)) := blk_cellv (HS.out.at1) 3 rfl; have hc862 : w857.cell? ⟨g832, 4, none⟩ = some (.int .i64 0) := blk_cellv (HS.out.at1) 4 rfl; have hc863 : w857.cell? ⟨g832, 5, none⟩ = some (.int .i64 0) := blk_cellv (HS.out.at1) 5 rfl; have hc864 : w857.cell? ⟨g832, 6, none⟩ = some (.int .i64 0) := blk_cellv (HS.out.at1) 6 rfl; have hc865 : w857.cell? ⟨g829, 0, none⟩ = some (.int .i64 0) := blk_cellv (HS.out.at0) 0 rfl; have hz866 : w857.frozen? ⟨g829, 0, none⟩ = false := blk_fz (HS.out.at0) 0; have hc867 : w857.cell? ⟨g829, 1, none⟩ = some (.int .i64 0) := blk_cellv (HS.out.at0) 1 rfl; have hz868 : w857.frozen? ⟨g829, 1, none⟩ = false := blk_fz (HS.out.at0) 1; have hc869 : w857.cell? ⟨g829, 2, none⟩ = some (.int .i64 0) := blk_cellv (HS.out.at0) 2 rfl; have hz870 : w857.frozen? ⟨g829, 2, none⟩ = false := blk_fz (HS.out.at0) 2; have hc871 : w857.cell? ⟨g829, 3, none⟩ = some (.int .i64 0) := blk_cellv (HS.out.at0) 3 rfl; have hz872 : w857.frozen? ⟨g829, 3, none⟩ = false := blk_fz (HS.out.at0) 3; have hc873 : w857.cell? ⟨g829, 4, none⟩ = some (.int .i64 0) := blk_cellv (HS.out.at0) 4 rfl; have hz874 : w857.frozen? ⟨g829, 4, none⟩ = false := blk_fz (HS.out.at0) 4; have hc875 : w857.cell? ⟨g829, 5, none⟩ = some (.int .i64 0) := blk_cellv (HS.out.at0) 5 rfl; have hz876 : w857.frozen? ⟨g829, 5, none⟩ = false := blk_fz (HS.out.at0) 5; have hc877 : w857.cell? ⟨g829, 6, none⟩ = some (.int .i64 0) := blk_cellv (HS.out.at0) 6 rfl; have hz878 : w857.frozen? ⟨g829, 6, none⟩ = false := blk_fz (HS.out.at0) 6) | ((with_reducible refine gate_store (t := 32) (p := 2) rfl ?_); refine store_event (w1 := (World.setCell (World.setCell (World.setCell (World.setCell (World.setCell (World.setCell (World.setCell w857 ⟨g829, 0, none⟩ (.int .i64 (wrap64 (Int.tmod a828 4)))) ⟨g829, 1, none⟩ (.int .i64 (((Int.tdiv a828 4) % 256) % 2))) ⟨g829, 2, none⟩ (.int .i64 0)) ⟨g829, 3, none⟩ (.int .i64 (((Int.tdiv a828 8) % 256) % 2))) ⟨g829, 4, none⟩ (.int .i64 0)) ⟨g829, 5, none⟩ (.int .i64 0)) ⟨g829, 6, none⟩ (.int .i64 0))) rfl (t := 32) (p := 2) rfl rfl ?hr ?_; (case hr => first | (go_simp; done) | (go_simp; rfl)); intro w879 hst; clear hc858 hc859 hc860 hc861 hc862 hc863 hc864 hc865 hz866 hc867 hz868 hc869 hz870 hc871 hz872 hc873 hz874 hc875 hz876 hc877 hz878; replace HS : Aside0 (Sep (fps []) w [b9 g829 (wrap64 (Int.tmod a828 4)) (((Int.tdiv a828 4) % 256) % 2) 0 (((Int.tdiv a828 8) % 256) % 2) 0 0 0, b9 g832 (wrap64 (Int.tmod a828 4)) (((Int.tdiv a828 4) % 256) % 2) 0 (((Int.tdiv a828 8) % 256) % 2) 0 0 0] w879) := ⟨by rw [hst]; exact HS.out.setAll (l1 := []) (l2 := [b9 g832 (wrap64 (Int.tmod a828 4)) (((Int.tdiv a828 4) % 256) % 2) 0 (((Int.tdiv a828 8) % 256) % 2) 0 0 0]) [.int .i64 (wrap64 (Int.tmod a828 4)), .int .i64 (((Int.tdiv a828 4) % 256) % 2), .int .i64 0, .int .i64 (((Int.tdiv a828 8) % 256) % 2), .int .i64 0, .int .i64 0, .int .i64 0] rfl⟩; clear hst; replace HS : Aside0 (Sep (fps []) w [b9 g829 (wrap64 (Int.tmod a828 4)) (((Int.tdiv a828 4) % 256) % 2) 0 (((Int.tdiv a828 8) % 256) % 2) 0 0 0] w879) := ⟨HS.out.sub (.cons_cons _ (.cons _ .slnil))⟩))
    have hc880 : w879.cell? ⟨g829, 0, none⟩ = some (.int .i64 (wrap64 (Int.tmod a828 4))) := blk_cellv (HS.out.at0) 0 rfl
    have hc881 : w879.cell? ⟨g829, 1, none⟩ = some (.int .i64 (((Int.tdiv a828 4) % 256) % 2)) := blk_cellv (HS.out.at0) 1 rfl
    have hc882 : w879.cell? ⟨g829, 2, none⟩ = some (.int .i64 0) := blk_cellv (HS.out.at0) 2 rfl
    have hc883 : w879.cell? ⟨g829, 3, none⟩ = some (.int .i64 (((Int.tdiv a828 8) % 256) % 2)) := blk_cellv (HS.out.at0) 3 rfl
    have hc884 : w879.cell? ⟨g829, 4, none⟩ = some (.int .i64 0) := blk_cellv (HS.out.at0) 4 rfl
    have hc885 : w879.cell? ⟨g829, 5, none⟩ = some (.int .i64 0) := blk_cellv (HS.out.at0) 5 rfl
    have hc886 : w879.cell? ⟨g829, 6, none⟩ = some (.int .i64 0) := blk_cellv (HS.out.at0) 6 rfl
    refine bodyPost_ret (v := .agg #[.int .i64 (wrap64 (Int.tmod a828 4)), .int .i64 (((Int.tdiv a828 4) % 256) % 2), .int .i64 0, .int .i64 (((Int.tdiv a828 8) % 256) % 2), .int .i64 0, .int .i64 0, .int .i64 0]) (by simp [results, Tryd.results78, go_sem, hc880, hc881, hc882, hc883, hc884, hc885, hc886]) rfl ?_
    rw [← some_eq H]
    exact ⟨(by first | rfl | (simp [IntKind.wrap_u32]; done)), HS.out.sub (.cons _ .slnil)⟩
  · replace H := if_no c851 H
    have c851b0 : ((wrap64 (Int.tmod a828 4)) == 1) = false := beq_eq_false_iff_ne.mpr c851
    have c851b1 : ((wrap64 (Int.tmod a828 4)) != 1) = true := bne_iff_ne.mpr c851
    clear c851
    by_cases c887 : (wrap64 (Int.tmod a828 4)) = 2
    · replace H := if_yes c887 H
      have c887b0 : ((wrap64 (Int.tmod a828 4)) == 2) = true := beq_iff_eq.mpr c887
      have c887b1 : ((wrap64 (Int.tmod a828 4)) != 2) = false := bne_eq_false_iff_eq.mpr c887
      clear c887
      go_wp2_with (first | ((with_reducible refine gate_dst (N := 2) rfl ?_); refine box_on ?hg (N := 2) ?hd (cs := #[.int .i64 0, .int .i64 0, .int .i64 0, .int .i64 0, .int .i64 0, .int .i64 0, .int .i64 0]) (t := 32) ?hr ?_; (case hd => rfl); (case hg => rfl); (case hr => first | (go_simp; done) | (go_simp; rfl)); intro g829 hg w830 hbox hb; replace HS : Aside0 (Sep (fps []) w [b9 g829 0 0 0 0 0 0 0] w830) := ⟨HS.out.box hg hbox hb⟩; clear hg hbox hb) | ((with_reducible refine gate_dst (N := 3) rfl ?_); refine box_on ?hg (N := 3) ?hd (cs := #[.int .i64 0, .int .i64 0, .int .i64 0, .int .i64 0, .int .i64 0, .int .i64 0, .int .i64 0]) (t := 32) ?hr ?_; (case hd => rfl); (case hg => rfl); (case hr => first | (go_simp; done) | (go_simp; rfl)); intro g832 hg w833 hbox hb; replace HS : Aside0 (Sep (fps []) w [b9 g829 0 0 0 0 0 0 0, b9 g832 0 0 0 0 0 0 0] w833) := ⟨HS.out.box hg hbox hb⟩; clear hg hbox hb; have hc835 : w833.cell? ⟨g832, 0, none⟩ = some (.int .i64 0) := blk_cellv (HS.out.at1) 0 rfl; have hz836 : w833.frozen? ⟨g832, 0, none⟩ = false := blk_fz (HS.out.at1) 0; have hc837 : w833.cell? ⟨g832, 1, none⟩ = some (.int .i64 0) := blk_cellv (HS.out.at1) 1 rfl; have hz838 : w833.frozen? ⟨g832, 1, none⟩ = false := blk_fz (HS.out.at1) 1; have hc839 : w833.cell? ⟨g832, 2, none⟩ = some (.int .i64 0) := blk_cellv (HS.out.at1) 2 rfl; have hz840 : w833.frozen? ⟨g832, 2, none⟩ = false := blk_fz (HS.out.at1) 2; have hc841 : w833.cell? ⟨g832, 3, none⟩ = some (.int .i64 0) := blk_cellv (HS.out.at1) 3 rfl; have hz842 : w833.frozen? ⟨g832, 3, none⟩ = false := blk_fz (HS.out.at1) 3; have hc843 : w833.cell? ⟨g832, 4, none⟩ = some (.int .i64 0) := blk_cellv (HS.out.at1) 4 rfl; have hz844 : w833.frozen? ⟨g832, 4, none⟩ = false := blk_fz (HS.out.at1) 4; have hc845 : w833.cell? ⟨g832, 5, none⟩ = some (.int .i64 0) := blk_cellv (HS.out.at1) 5 rfl; have hz846 : w833.frozen? ⟨g832, 5, none⟩ = false := blk_fz (HS.out.at1) 5; have hc847 : w833.cell? ⟨g832, 6, none⟩ = some (.int .i64 0) := blk_cellv (HS.out.at1) 6 rfl; have hz848 : w833.frozen? ⟨g832, 6, none⟩ = false := blk_fz (HS.out.at1) 6) | ((with_reducible refine gate_store (t := 32) (p := 3) rfl ?_); refine store_event (w1 := (World.setCell (World.setCell (World.setCell (World.setCell (World.setCell (World.setCell (World.setCell w833 ⟨g832, 0, none⟩ (.int .i64 (wrap64 (Int.tmod a828 4)))) ⟨g832, 1, none⟩ (.int .i64 0)) ⟨g832, 2, none⟩ (.int .i64 0)) ⟨g832, 3, none⟩ (.int .i64 0)) ⟨g832, 4, none⟩ (.int .i64 0)) ⟨g832, 5, none⟩ (.int .i64 0)) ⟨g832, 6, none⟩ (.int .i64 0))) rfl (t := 32) (p := 3) rfl rfl ?hr ?_; (case hr => first | (go_simp; done) | (go_simp; rfl)); intro w849 hst; clear hc835 hz836 hc837 hz838 hc839 hz840 hc841 hz842 hc843 hz844 hc845 hz846 hc847 hz848; replace HS : Aside0 (Sep (fps []) w [b9 g829 0 0 0 0 0 0 0, b9 g832 (wrap64 (Int.tmod a828 4)) 0 0 0 0 0 0] w849) := ⟨by rw [hst]; exact HS.out.setAll (l1 := [b9 g829 0 0 0 0 0 0 0]) (l2 := []) [.int .i64 (wrap64 (Int.tmod a828 4)), .int .i64 0, .int .i64 0, .int .i64 0, .int .i64 0, .int .i64 0, .int .i64 0] rfl⟩; clear hst; have hc850 : w849.cell? ⟨g832, 0, none⟩ = some (.int .i64 (wrap64 (Int.tmod a828 4))) := blk_cellv (HS.out.at1) 0 rfl; have hc888 : w849.cell? ⟨g832, 1, none⟩ = some (.int .i64 0) := blk_cellv (HS.out.at1) 1 rfl; have hz889 : w849.frozen? ⟨g832, 1, none⟩ = false := blk_fz (HS.out.at1) 1) | ((with_reducible refine gate_store (t := 3) (p := 24) rfl ?_); refine store_event (w1 := (World.setCell w849 ⟨g832, 1, none⟩ (.int .i64 (((Int.tdiv a828 4) % 256) % 2)))) rfl (t := 3) (p := 24) rfl rfl ?hr ?_; (case hr => first | (go_simp; done) | (go_simp; rfl)); intro w890 hst; clear hc850 hc888 hz889; have hq0 : Sep (fps []) w [b9 g829 0 0 0 0 0 0 0, b9 g832 (wrap64 (Int.tmod a828 4)) (((Int.tdiv a828 4) % 256) % 2) 0 0 0 0 0] (World.setCell w849 ⟨g832, 1, none⟩ (.int .i64 (((Int.tdiv a828 4) % 256) % 2))) := (HS.out).set1 (l1 := [b9 g829 0 0 0 0 0 0 0]) (l2 := []) 1 (.int .i64 (((Int.tdiv a828 4) % 256) % 2)); replace HS : Aside0 (Sep (fps []) w [b9 g829 0 0 0 0 0 0 0, b9 g832 (wrap64 (Int.tmod a828 4)) (((Int.tdiv a828 4) % 256) % 2) 0 0 0 0 0] w890) := ⟨by rw [hst]; exact hq0⟩; clear hq0; clear hst; have hc891 : w890.cell? ⟨g832, 3, none⟩ = some (.int .i64 0) := blk_cellv (HS.out.at1) 3 rfl; have hz892 : w890.frozen? ⟨g832, 3, none⟩ = false := blk_fz (HS.out.at1) 3) | ((with_reducible refine gate_store (t := 3) (p := 25) rfl ?_); refine store_event (w1 := (World.setCell w890 ⟨g832, 3, none⟩ (.int .i64 (((Int.tdiv a828 8) % 256) % 2)))) rfl (t := 3) (p := 25) rfl rfl ?hr ?_; (case hr => first | (go_simp; done) | (go_simp; rfl)); intro w893 hst; clear hc891 hz892; have hq0 : Sep (fps []) w [b9 g829 0 0 0 0 0 0 0, b9 g832 (wrap64 (Int.tmod a828 4)) (((Int.tdiv a828 4) % 256) % 2) 0 (((Int.tdiv a828 8) % 256) % 2) 0 0 0] (World.setCell w890 ⟨g832, 3, none⟩ (.int .i64 (((Int.tdiv a828 8) % 256) % 2))) := (HS.out).set1 (l1 := [b9 g829 0 0 0 0 0 0 0]) (l2 := []) 3 (.int .i64 (((Int.tdiv a828 8) % 256) % 2)); replace HS : Aside0 (Sep (fps []) w [b9 g829 0 0 0 0 0 0 0, b9 g832 (wrap64 (Int.tmod a828 4)) (((Int.tdiv a828 4) % 256) % 2) 0 (((Int.tdiv a828 8) % 256) % 2) 0 0 0] w893) := ⟨by rw [hst]; exact hq0⟩; clear hq0; clear hst; have hc894 : w893.cell? ⟨g832, 0, none⟩ = some (.int .i64 (wrap64 (Int.tmod a828 4))) := blk_cellv (HS.out.at1) 0 rfl; have hc895 : w893.cell? ⟨g832, 1, none⟩ = some (.int .i64 (((Int.tdiv a828 4) % 256) % 2)) := blk_cellv (HS.out.at1) 1 rfl; have hc896 : w893.cell? ⟨g832, 2, none⟩ = some (.int .i64 0) := blk_cellv (HS.out.at1) 2 rfl; have hc897 : w893.cell? ⟨g832, 3, none⟩ = some (.int .i64 (((Int.tdiv a828 8) % 256) % 2)) := blk_cellv (HS.out.at1) 3 rfl; have hc898 : w893.cell? ⟨g832, 4, none⟩ = some (.int .i64 0) := blk_cellv (HS.out.at1) 4 rfl; have hc899 : w893.cell? ⟨g832, 5, none⟩ = some (.int .i64 0) := blk_cellv (HS.out.at1) 5 rfl; have hc900 : w893.cell? ⟨g832, 6, none⟩ = some (.int .i64 0) := blk_cellv (HS.out.at1) 6 rfl; have hc901 : w893.cell? ⟨g829, 0, none⟩ = some (.int .i64 0) := blk_cellv (HS.out.at0) 0 rfl; have hz902 : w893.frozen? ⟨g829, 0, none⟩ = false := blk_fz (HS.out.at0) 0; have hc903 : w893.cell? ⟨g829, 1, none⟩ = some (.int .i64 0) := blk_cellv (HS.out.at0) 1 rfl; have hz904 : w893.frozen? ⟨g829, 1, none⟩ = false := blk_fz (HS.out.at0) 1; have hc905 : w893.cell? ⟨g829, 2, none⟩ = some (.int .i64 0) := blk_cellv (HS.out.at0) 2 rfl; have hz906 : w893.frozen? ⟨g829, 2, none⟩ = false := blk_fz (HS.out.at0) 2; have hc907 : w893.cell? ⟨g829, 3, none⟩ = some (.int .i64 0) := blk_cellv (HS.out.at0) 3 rfl; have hz908 : w893.frozen? ⟨g829, 3, none⟩ = false := blk_fz (HS.out.at0) 3; have hc909 : w893.cell? ⟨g829, 4, none⟩ = some (.int .i64 0) := blk_cellv (HS.out.at0) 4 rfl; have hz910 : w893.frozen? ⟨g829, 4, none⟩ = false := blk_fz (HS.out.at0) 4; have hc911 : w893.cell? ⟨g829, 5, none⟩ = some (.int .i64 0) := blk_cellv (HS.out.at0) 5 rfl; have hz912 : w893.frozen? ⟨g829, 5, none⟩ = false := blk_fz (HS.out.at0) 5; have hc913 : w893.cell? ⟨g829, 6, none⟩ = some (.int .i64 0) := blk_cellv (HS.out.at0) 6 rfl; have hz914 : w893.frozen? ⟨g829, 6, none⟩ = false := blk_fz (HS.out.at0) 6) | ((with_reducible refine gate_store (t := 32) (p := 2) rfl ?_); refine store_event (w1 := (World.setCell (World.setCell (World.setCell (World.setCell (World.setCell (World.setCell (World.setCell w893 ⟨g829, 0, none⟩ (.int .i64 (wrap64 (Int.tmod a828 4)))) ⟨g829, 1, none⟩ (.int .i64 (((Int.tdiv a828 4) % 256) % 2))) ⟨g829, 2, none⟩ (.int .i64 0)) ⟨g829, 3, none⟩ (.int .i64 (((Int.tdiv a828 8) % 256) % 2))) ⟨g829, 4, none⟩ (.int .i64 0)) ⟨g829, 5, none⟩ (.int .i64 0)) ⟨g829, 6, none⟩ (.int .i64 0))) rfl (t := 32) (p := 2) rfl rfl ?hr ?_; (case hr => first | (go_simp; done) | (go_simp; rfl)); intro w915 hst; clear hc894 hc895 hc896 hc897 hc898 hc899 hc900 hc901 hz902 hc903 hz904 hc905 hz906 hc907 hz908 hc909 hz910 hc911 hz912 hc913 hz914; replace HS : Aside0 (Sep (fps []) w [b9 g829 (wrap64 (Int.tmod a828 4)) (((Int.tdiv a828 4) % 256) % 2) 0 (((Int.tdiv a828 8) % 256) % 2) 0 0 0, b9 g832 (wrap64 (Int.tmod a828 4)) (((Int.tdiv a828 4) % 256) % 2) 0 (((Int.tdiv a828 8) % 256) % 2) 0 0 0] w915) := ⟨by rw [hst]; exact HS.out.setAll (l1 := []) (l2 := [b9 g832 (wrap64 (Int.tmod a828 4)) (((Int.tdiv a828 4) % 256) % 2) 0 (((Int.tdiv a828 8) % 256) % 2) 0 0 0]) [.int .i64 (wrap64 (Int.tmod a828 4)), .int .i64 (((Int.tdiv a828 4) % 256) % 2), .int .i64 0, .int .i64 (((Int.tdiv a828 8) % 256) % 2), .int .i64 0, .int .i64 0, .int .i64 0] rfl⟩; clear hst; replace HS : Aside0 (Sep (fps []) w [b9 g829 (wrap64 (Int.tmod a828 4)) (((Int.tdiv a828 4) % 256) % 2) 0 (((Int.tdiv a828 8) % 256) % 2) 0 0 0] w915) := ⟨HS.out.sub (.cons_cons _ (.cons _ .slnil))⟩))
      have hc916 : w915.cell? ⟨g829, 0, none⟩ = some (.int .i64 (wrap64 (Int.tmod a828 4))) := blk_cellv (HS.out.at0) 0 rfl
      have hc917 : w915.cell? ⟨g829, 1, none⟩ = some (.int .i64 (((Int.tdiv a828 4) % 256) % 2)) := blk_cellv (HS.out.at0) 1 rfl
      have hc918 : w915.cell? ⟨g829, 2, none⟩ = some (.int .i64 0) := blk_cellv (HS.out.at0) 2 rfl
      have hc919 : w915.cell? ⟨g829, 3, none⟩ = some (.int .i64 (((Int.tdiv a828 8) % 256) % 2)) := blk_cellv (HS.out.at0) 3 rfl
      have hc920 : w915.cell? ⟨g829, 4, none⟩ = some (.int .i64 0) := blk_cellv (HS.out.at0) 4 rfl
      have hc921 : w915.cell? ⟨g829, 5, none⟩ = some (.int .i64 0) := blk_cellv (HS.out.at0) 5 rfl
      have hc922 : w915.cell? ⟨g829, 6, none⟩ = some (.int .i64 0) := blk_cellv (HS.out.at0) 6 rfl
      refine bodyPost_ret (v := .agg #[.int .i64 (wrap64 (Int.tmod a828 4)), .int .i64 (((Int.tdiv a828 4) % 256) % 2), .int .i64 0, .int .i64 (((Int.tdiv a828 8) % 256) % 2), .int .i64 0, .int .i64 0, .int .i64 0]) (by simp [results, Tryd.results78, go_sem, hc916, hc917, hc918, hc919, hc920, hc921, hc922]) rfl ?_
      rw [← some_eq H]
      exact ⟨(by first | rfl | (simp [IntKind.wrap_u32]; done)), HS.out.sub (.cons _ .slnil)⟩
    · replace H := if_no c887 H
      have c887b0 : ((wrap64 (Int.tmod a828 4)) == 2) = false := beq_eq_false_iff_ne.mpr c887
      have c887b1 : ((wrap64 (Int.tmod a828 4)) != 2) = true := bne_iff_ne.mpr c887
      clear c887
      go_wp2_with (first | ((with_reducible refine gate_dst (N := 2) rfl ?_); refine box_on ?hg (N := 2) ?hd (cs := #[.int .i64 0, .int .i64 0, .int .i64 0, .int .i64 0, .int .i64 0, .int .i64 0, .int .i64 0]) (t := 32) ?hr ?_; (case hd => rfl); (case hg => rfl); (case hr => first | (go_simp; done) | (go_simp; rfl)); intro g829 hg w830 hbox hb; replace HS : Aside0 (Sep (fps []) w [b9 g829 0 0 0 0 0 0 0] w830) := ⟨HS.out.box hg hbox hb⟩; clear hg hbox hb) | ((with_reducible refine gate_dst (N := 3) rfl ?_); refine box_on ?hg (N := 3) ?hd (cs := #[.int .i64 0, .int .i64 0, .int .i64 0, .int .i64 0, .int .i64 0, .int .i64 0, .int .i64 0]) (t := 32) ?hr ?_; (case hd => rfl); (case hg => rfl); (case hr => first | (go_simp; done) | (go_simp; rfl)); intro g832 hg w833 hbox hb; replace HS : Aside0 (Sep (fps []) w [b9 g829 0 0 0 0 0 0 0, b9 g832 0 0 0 0 0 0 0] w833) := ⟨HS.out.box hg hbox hb⟩; clear hg hbox hb; have hc835 : w833.cell? ⟨g832, 0, none⟩ = some (.int .i64 0) := blk_cellv (HS.out.at1) 0 rfl; have hz836 : w833.frozen? ⟨g832, 0, none⟩ = false := blk_fz (HS.out.at1) 0; have hc837 : w833.cell? ⟨g832, 1, none⟩ = some (.int .i64 0) := blk_cellv (HS.out.at1) 1 rfl; have hz838 : w833.frozen? ⟨g832, 1, none⟩ = false := blk_fz (HS.out.at1) 1; have hc839 : w833.cell? ⟨g832, 2, none⟩ = some (.int .i64 0) := blk_cellv (HS.out.at1) 2 rfl; have hz840 : w833.frozen? ⟨g832, 2, none⟩ = false := blk_fz (HS.out.at1) 2; have hc841 : w833.cell? ⟨g832, 3, none⟩ = some (.int .i64 0) := blk_cellv (HS.out.at1) 3 rfl; have hz842 : w833.frozen? ⟨g832, 3, none⟩ = false := blk_fz (HS.out.at1) 3; have hc843 : w833.cell? ⟨g832, 4, none⟩ = some (.int .i64 0) := blk_cellv (HS.out.at1) 4 rfl; have hz844 : w833.frozen? ⟨g832, 4, none⟩ = false := blk_fz (HS.out.at1) 4; have hc845 : w833.cell? ⟨g832, 5, none⟩ = some (.int .i64 0) := blk_cellv (HS.out.at1) 5 rfl; have hz846 : w833.frozen? ⟨g832, 5, none⟩ = false := blk_fz (HS.out.at1) 5; have hc847 : w833.cell? ⟨g832, 6, none⟩ = some (.int .i64 0) := blk_cellv (HS.out.at1) 6 rfl; have hz848 : w833.frozen? ⟨g832, 6, none⟩ = false := blk_fz (HS.out.at1) 6) | ((with_reducible refine gate_store (t := 32) (p := 3) rfl ?_); refine store_event (w1 := (World.setCell (World.setCell (World.setCell (World.setCell (World.setCell (World.setCell (World.setCell w833 ⟨g832, 0, none⟩ (.int .i64 (wrap64 (Int.tmod a828 4)))) ⟨g832, 1, none⟩ (.int .i64 0)) ⟨g832, 2, none⟩ (.int .i64 0)) ⟨g832, 3, none⟩ (.int .i64 0)) ⟨g832, 4, none⟩ (.int .i64 0)) ⟨g832, 5, none⟩ (.int .i64 0)) ⟨g832, 6, none⟩ (.int .i64 0))) rfl (t := 32) (p := 3) rfl rfl ?hr ?_; (case hr => first | (go_simp; done) | (go_simp; rfl)); intro w849 hst; clear hc835 hz836 hc837 hz838 hc839 hz840 hc841 hz842 hc843 hz844 hc845 hz846 hc847 hz848; replace HS : Aside0 (Sep (fps []) w [b9 g829 0 0 0 0 0 0 0, b9 g832 (wrap64 (Int.tmod a828 4)) 0 0 0 0 0 0] w849) := ⟨by rw [hst]; exact HS.out.setAll (l1 := [b9 g829 0 0 0 0 0 0 0]) (l2 := []) [.int .i64 (wrap64 (Int.tmod a828 4)), .int .i64 0, .int .i64 0, .int .i64 0, .int .i64 0, .int .i64 0, .int .i64 0] rfl⟩; clear hst; have hc850 : w849.cell? ⟨g832, 0, none⟩ = some (.int .i64 (wrap64 (Int.tmod a828 4))) := blk_cellv (HS.out.at1) 0 rfl; have hc923 : w849.cell? ⟨g832, 1, none⟩ = some (.int .i64 0) := blk_cellv (HS.out.at1) 1 rfl; have hc924 : w849.cell? ⟨g832, 2, none⟩ = some (.int .i64 0) := blk_cellv (HS.out.at1) 2 rfl; have hc925 : w849.cell? ⟨g832, 3, none⟩ = some (.int .i64 0) := blk_cellv (HS.out.at1) 3 rfl; have hc926 : w849.cell? ⟨g832, 4, none⟩ = some (.int .i64 0) := blk_cellv (HS.out.at1) 4 rfl; have hc927 : w849.cell? ⟨g832, 5, none⟩ = some (.int .i64 0) := blk_cellv (HS.out.at1) 5 rfl; have hc928 : w849.cell? ⟨g832, 6, none⟩ = some (.int .i64 0) := blk_cellv (HS.out.at1) 6 rfl; have hc929 : w849.cell? ⟨g829, 0, none⟩ = some (.int .i64 0) := blk_cellv (HS.out.at0) 0 rfl; have hz930 : w849.frozen? ⟨g829, 0, none⟩ = false := blk_fz (HS.out.at0) 0; have hc931 : w849.cell? ⟨g829, 1, none⟩ = some (.int .i64 0) := blk_cellv (HS.out.at0) 1 rfl; have hz932 : w849.frozen? ⟨g829, 1, none⟩ = false := blk_fz (HS.out.at0) 1; have hc933 : w849.cell? ⟨g829, 2, none⟩ = some (.int .i64 0) := blk_cellv (HS.out.at0) 2 rfl; have hz934 : w849.frozen? ⟨g829, 2, none⟩ = false := blk_fz (HS.out.at0) 2; have hc935 : w849.cell? ⟨g829, 3, none⟩ = some (.int .i64 0) := blk_cellv (HS.out.at0) 3 rfl; have hz936 : w849.frozen? ⟨g829, 3, none⟩ = false := blk_fz (HS.out.at0) 3; have hc937 : w849.cell? ⟨g829, 4, none⟩ = some (.int .i64 0) := blk_cellv (HS.out.at0) 4 rfl; have hz938 : w849.frozen? ⟨g829, 4, none⟩ = false := blk_fz (HS.out.at0) 4; have hc939 : w849.cell? ⟨g829, 5, none⟩ = some (.int .i64 0) := blk_cellv (HS.out.at0) 5 rfl; have hz940 : w849.frozen? ⟨g829, 5, none⟩ = false := blk_fz (HS.out.at0) 5; have hc941 : w849.cell? ⟨g829, 6, none⟩ = some (.int .i64 0) := blk_cellv (HS.out.at0) 6 rfl; have hz942 : w849.frozen? ⟨g829, 6, none⟩ = false := blk_fz (HS.out.at0) 6) | ((with_reducible refine gate_store (t := 32) (p := 2) rfl ?_); refine store_event (w1 := (World.setCell (World.setCell (World.setCell (World.setCell (World.setCell (World.setCell (World.setCell w849 ⟨g829, 0, none⟩ (.int .i64 (wrap64 (Int.tmod a828 4)))) ⟨g829, 1, none⟩ (.int .i64 0)) ⟨g829, 2, none⟩ (.int .i64 0)) ⟨g829, 3, none⟩ (.int .i64 0)) ⟨g829, 4, none⟩ (.int .i64 0)) ⟨g829, 5, none⟩ (.int .i64 0)) ⟨g829, 6, none⟩ (.int .i64 0))) rfl (t := 32) (p := 2) rfl rfl ?hr ?_; (case hr => first | (go_simp; done) | (go_simp; rfl)); intro w943 hst; clear hc850 hc923 hc924 hc925 hc926 hc927 hc928 hc929 hz930 hc931 hz932 hc933 hz934 hc935 hz936 hc937 hz938 hc939 hz940 hc941 hz942; replace HS : Aside0 (Sep (fps []) w [b9 g829 (wrap64 (Int.tmod a828 4)) 0 0 0 0 0 0, b9 g832 (wrap64 (Int.tmod a828 4)) 0 0 0 0 0 0] w943) := ⟨by rw [hst]; exact HS.out.setAll (l1 := []) (l2 := [b9 g832 (wrap64 (Int.tmod a828 4)) 0 0 0 0 0 0]) [.int .i64 (wrap64 (Int.tmod a828 4)), .int .i64 0, .int .i64 0, .int .i64 0, .int .i64 0, .int .i64 0, .int .i64 0] rfl⟩; clear hst; replace HS : Aside0 (Sep (fps []) w [b9 g829 (wrap64 (Int.tmod a828 4)) 0 0 0 0 0 0] w943) := ⟨HS.out.sub (.cons_cons _ (.cons _ .slnil))⟩))
      have hc944 : w943.cell? ⟨g829, 0, none⟩ = some (.int .i64 (wrap64 (Int.tmod a828 4))) := blk_cellv (HS.out.at0) 0 rfl
      have hc945 : w943.cell? ⟨g829, 1, none⟩ = some (.int .i64 0) := blk_cellv (HS.out.at0) 1 rfl
      have hc946 : w943.cell? ⟨g829, 2, none⟩ = some (.int .i64 0) := blk_cellv (HS.out.at0) 2 rfl
      have hc947 : w943.cell? ⟨g829, 3, none⟩ = some (.int .i64 0) := blk_cellv (HS.out.at0) 3 rfl
      have hc948 : w943.cell? ⟨g829, 4, none⟩ = some (.int .i64 0) := blk_cellv (HS.out.at0) 4 rfl
      have hc949 : w943.cell? ⟨g829, 5, none⟩ = some (.int .i64 0) := blk_cellv (HS.out.at0) 5 rfl
      have hc950 : w943.cell? ⟨g829, 6, none⟩ = some (.int .i64 0) := blk_cellv (HS.out.at0) 6 rfl
      refine bodyPost_ret (v := .agg #[.int .i64 (wrap64 (Int.tmod a828 4)), .int .i64 0, .int .i64 0, .int .i64 0, .int .i64 0, .int .i64 0, .int .i64 0]) (by simp [results, Tryd.results78, go_sem, hc944, hc945, hc946, hc947, hc948, hc949, hc950]) rfl ?_
      rw [← some_eq H]
      exact ⟨(by first | rfl | (simp [IntKind.wrap_u32]; done)), HS.out.sub (.cons _ .slnil)⟩

set_option maxHeartbeats 30000000 in
set_option maxRecDepth 100000 in
theorem quitrentref06_Pack.calls (a954 : Int) (a955 : Int) (a956 : Int) (a957 : Int) (a958 : Int) (a959 : Int) (a960 : Int) (r : Int) (w : World)  (HGl0 : Aside0 (Gl 0 #[.int .i64 0, .int .i64 0, .int .i64 0, .int .i64 0, .int .i64 0] (fps []) w)) (HS : Aside0 (Sep (fps []) w [] w)) (H : Aside0 (quitrentref06_Pack.f a954 a955 a956 a957 a958 a959 a960 = some r)) :
    Calls Tryd.prog 77 #[.agg #[.int .i64 a954, .int .i64 a955, .int .i64 a956, .int .i64 a957, .int .i64 a958, .int .i64 a959, .int .i64 a960]] w fun e w' => e = .returned (.int .u32 r) ∧ Sep (fps []) w [] w' := by
  unfold quitrentref06_Pack.f at H
  go_enter Tryd.func77, Tryd.ntmps77
  go_wp2_with (first | ((with_reducible refine gate_dst (N := 1) rfl ?_); refine box_on ?hg (N := 1) ?hd (cs := #[.int .i64 a954, .int .i64 a955, .int .i64 a956, .int .i64 a957, .int .i64 a958, .int .i64 a959, .int .i64 a960]) (t := 32) ?hr ?_; (case hd => rfl); (case hg => rfl); (case hr => first | (go_simp; done) | (go_simp; rfl)); intro g961 hg w962 hbox hb; replace HS : Aside0 (Sep (fps []) w [b9 g961 a954 a955 a956 a957 a958 a959 a960] w962) := ⟨HS.out.box hg hbox hb⟩; clear hg hbox hb; have hc964 : w962.cell? ⟨g961, 0, none⟩ = some (.int .i64 a954) := blk_cellv (HS.out.at0) 0 rfl; have hc965 : w962.cell? ⟨g961, 1, none⟩ = some (.int .i64 a955) := blk_cellv (HS.out.at0) 1 rfl; have hc966 : w962.cell? ⟨g961, 2, none⟩ = some (.int .i64 a956) := blk_cellv (HS.out.at0) 2 rfl; have hc967 : w962.cell? ⟨g961, 3, none⟩ = some (.int .i64 a957) := blk_cellv (HS.out.at0) 3 rfl; have hc968 : w962.cell? ⟨g961, 4, none⟩ = some (.int .i64 a958) := blk_cellv (HS.out.at0) 4 rfl; have hc969 : w962.cell? ⟨g961, 5, none⟩ = some (.int .i64 a959) := blk_cellv (HS.out.at0) 5 rfl; have hc970 : w962.cell? ⟨g961, 6, none⟩ = some (.int .i64 a960) := blk_cellv (HS.out.at0) 6 rfl; replace HS : Aside0 (Sep (fps []) w [] w962) := ⟨HS.out.sub (.cons _ .slnil)⟩))
  clear hc964 hc965 hc966 hc967 hc968 hc969 hc970
  go_ret
  rw [← some_eq H]
  exact ⟨(by first | rfl | (simp [IntKind.wrap_u32]; done)), HS.out⟩

set_option maxHeartbeats 30000000 in
set_option maxRecDepth 100000 in
theorem ground_Ground_all.calls (l997 : List Int) (a1002 : Int) (a1003 : Int) (a1004 : Int) (a1005 : Int) (a1006 : Int) (g993 : Nat) (g995 : Nat) (A998 : Option Addr) (m999 : Nat) (n1000 : Nat) (r : Unit) (w : World)  (HGl0 : Aside0 (Gl 0 #[.int .i64 0, .int .i64 0, .int .i64 0, .int .i64 0, .int .i64 0] (fps [b8 g993 g995 a1003 a1004 a1005 a1006, b7 g995 A998 m999 n1000 a1002, r6 A998 m999 n1000 l997]) w)) (HS : Aside0 (Sep (fps [b8 g993 g995 a1003 a1004 a1005 a1006, b7 g995 A998 m999 n1000 a1002, r6 A998 m999 n1000 l997]) w [b8 g993 g995 a1003 a1004 a1005 a1006, b7 g995 A998 m999 n1000 a1002, r6 A998 m999 n1000 l997] w)) (H : Aside0 (ground_Ground_all.f l997 a1002 a1003 a1004 a1005 a1006 = some r)) :
    Calls Tryd.prog 70 #[.pointer (some ⟨g993, 0, none⟩)] w fun e w' => e = .returned (.pointer (some ⟨g995, 0, none⟩)) ∧ Sep (fps [b8 g993 g995 a1003 a1004 a1005 a1006, b7 g995 A998 m999 n1000 a1002, r6 A998 m999 n1000 l997]) w [b8 g993 g995 a1003 a1004 a1005 a1006, b7 g995 A998 m999 n1000 a1002, r6 A998 m999 n1000 l997] w' := by
  generalize (fps [b8 g993 g995 a1003 a1004 a1005 a1006, b7 g995 A998 m999 n1000 a1002, r6 A998 m999 n1000 l997]) = FF at HS HGl0 ⊢
  obtain rfl := (row_len (HS.out.at2)).symm
  unfold ground_Ground_all.f at H
  go_enter Tryd.func70, Tryd.ntmps70
  have hc1007 : w.cell? ⟨g993, 0, none⟩ = some (.pointer (some ⟨g995, 0, none⟩)) := blk_cellv (HS.out.at0) 0 rfl
  go_wp2_with fail
  clear hc1007
  go_ret
  clear H
  exact ⟨(by first | rfl | (simp [IntKind.wrap_u32]; done)), HS.out⟩

set_option maxHeartbeats 30000000 in
set_option maxRecDepth 100000 in
theorem ground_Ground_Conf.calls (l1033 : List Int) (a1038 : Int) (a1039 : Int) (a1040 : Int) (a1041 : Int) (a1042 : Int) (g1029 : Nat) (g1031 : Nat) (A1034 : Option Addr) (m1035 : Nat) (n1036 : Nat) (r : Int × Int × Int × Int) (w : World)  (HGl0 : Aside0 (Gl 0 #[.int .i64 0, .int .i64 0, .int .i64 0, .int .i64 0, .int .i64 0] (fps [b8 g1029 g1031 a1039 a1040 a1041 a1042, b7 g1031 A1034 m1035 n1036 a1038, r6 A1034 m1035 n1036 l1033]) w)) (HS : Aside0 (Sep (fps [b8 g1029 g1031 a1039 a1040 a1041 a1042, b7 g1031 A1034 m1035 n1036 a1038, r6 A1034 m1035 n1036 l1033]) w [b8 g1029 g1031 a1039 a1040 a1041 a1042, b7 g1031 A1034 m1035 n1036 a1038, r6 A1034 m1035 n1036 l1033] w)) (H : Aside0 (ground_Ground_Conf.f l1033 a1038 a1039 a1040 a1041 a1042 = some r)) :
    Calls Tryd.prog 86 #[.pointer (some ⟨g1029, 0, none⟩)] w fun e w' => e = .returned (.agg #[.int .i64 r.1, .int .i64 r.2.1, .int .i64 r.2.2.1, .int .i64 r.2.2.2]) ∧ Sep (fps [b8 g1029 g1031 a1039 a1040 a1041 a1042, b7 g1031 A1034 m1035 n1036 a1038, r6 A1034 m1035 n1036 l1033]) w [b8 g1029 g1031 a1039 a1040 a1041 a1042, b7 g1031 A1034 m1035 n1036 a1038, r6 A1034 m1035 n1036 l1033] w' := by
  generalize (fps [b8 g1029 g1031 a1039 a1040 a1041 a1042, b7 g1031 A1034 m1035 n1036 a1038, r6 A1034 m1035 n1036 l1033]) = FF at HS HGl0 ⊢
  obtain rfl := (row_len (HS.out.at2)).symm
  unfold ground_Ground_Conf.f at H
  go_enter Tryd.func86, Tryd.ntmps86
  go_wp2_with (first | ((with_reducible refine gate_dst (N := 2) rfl ?_); refine box_on ?hg (N := 2) ?hd (cs := #[.int .i64 0, .int .i64 0, .int .i64 0, .int .i64 0]) (t := 30) ?hr ?_; (case hd => rfl); (case hg => rfl); (case hr => first | (go_simp; done) | (go_simp; rfl)); intro g1043 hg w1044 hbox hb; replace HS : Aside0 (Sep FF w [b8 g1029 g1031 a1039 a1040 a1041 a1042, b7 g1031 A1034 l1033.length n1036 a1038, r6 A1034 l1033.length n1036 l1033, b2 g1043 0 0 0 0] w1044) := ⟨HS.out.box hg hbox hb⟩; clear hg hbox hb; have hc1046 : w1044.cell? ⟨g1029, 1, none⟩ = some (.int .i64 a1039) := blk_cellv (HS.out.at0) 1 rfl; have hc1047 : w1044.cell? ⟨g1029, 2, none⟩ = some (.int .i64 a1040) := blk_cellv (HS.out.at0) 2 rfl; have hc1048 : w1044.cell? ⟨g1029, 3, none⟩ = some (.int .i64 a1041) := blk_cellv (HS.out.at0) 3 rfl; have hc1049 : w1044.cell? ⟨g1029, 4, none⟩ = some (.int .i64 a1042) := blk_cellv (HS.out.at0) 4 rfl; have hc1050 : w1044.cell? ⟨g1043, 0, none⟩ = some (.int .i64 0) := blk_cellv (HS.out.at3) 0 rfl; have hz1051 : w1044.frozen? ⟨g1043, 0, none⟩ = false := blk_fz (HS.out.at3) 0; have hc1052 : w1044.cell? ⟨g1043, 1, none⟩ = some (.int .i64 0) := blk_cellv (HS.out.at3) 1 rfl; have hz1053 : w1044.frozen? ⟨g1043, 1, none⟩ = false := blk_fz (HS.out.at3) 1; have hc1054 : w1044.cell? ⟨g1043, 2, none⟩ = some (.int .i64 0) := blk_cellv (HS.out.at3) 2 rfl; have hz1055 : w1044.frozen? ⟨g1043, 2, none⟩ = false := blk_fz (HS.out.at3) 2; have hc1056 : w1044.cell? ⟨g1043, 3, none⟩ = some (.int .i64 0) := blk_cellv (HS.out.at3) 3 rfl; have hz1057 : w1044.frozen? ⟨g1043, 3, none⟩ = false := blk_fz (HS.out.at3) 3) | ((with_reducible refine gate_store (t := 30) (p := 2) rfl ?_); refine store_event (w1 := (World.setCell (World.setCell (World.setCell (World.setCell w1044 ⟨g1043, 0, none⟩ (.int .i64 a1039)) ⟨g1043, 1, none⟩ (.int .i64 a1040)) ⟨g1043, 2, none⟩ (.int .i64 a1041)) ⟨g1043, 3, none⟩ (.int .i64 a1042))) rfl (t := 30) (p := 2) rfl rfl ?hr ?_; (case hr => first | (go_simp; done) | (go_simp; rfl)); intro w1058 hst; clear hc1046 hc1047 hc1048 hc1049 hc1050 hz1051 hc1052 hz1053 hc1054 hz1055 hc1056 hz1057; replace HS : Aside0 (Sep FF w [b8 g1029 g1031 a1039 a1040 a1041 a1042, b7 g1031 A1034 l1033.length n1036 a1038, r6 A1034 l1033.length n1036 l1033, b2 g1043 a1039 a1040 a1041 a1042] w1058) := ⟨by rw [hst]; exact HS.out.setAll (l1 := [b8 g1029 g1031 a1039 a1040 a1041 a1042, b7 g1031 A1034 l1033.length n1036 a1038, r6 A1034 l1033.length n1036 l1033]) (l2 := []) [.int .i64 a1039, .int .i64 a1040, .int .i64 a1041, .int .i64 a1042] rfl⟩; clear hst))
  have hc1059 : w1058.cell? ⟨g1043, 0, none⟩ = some (.int .i64 a1039) := blk_cellv (HS.out.at3) 0 rfl
  have hc1060 : w1058.cell? ⟨g1043, 1, none⟩ = some (.int .i64 a1040) := blk_cellv (HS.out.at3) 1 rfl
  have hc1061 : w1058.cell? ⟨g1043, 2, none⟩ = some (.int .i64 a1041) := blk_cellv (HS.out.at3) 2 rfl
  have hc1062 : w1058.cell? ⟨g1043, 3, none⟩ = some (.int .i64 a1042) := blk_cellv (HS.out.at3) 3 rfl
  refine bodyPost_ret (v := .agg #[.int .i64 a1039, .int .i64 a1040, .int .i64 a1041, .int .i64 a1042]) (by simp [results, Tryd.results86, go_sem, hc1059, hc1060, hc1061, hc1062]) rfl ?_
  rw [← some_eq H]
  exact ⟨(by first | rfl | (simp [IntKind.wrap_u32]; done)), HS.out.sub (.cons_cons _ (.cons_cons _ (.cons_cons _ (.cons _ .slnil))))⟩

set_option maxHeartbeats 30000000 in
set_option maxRecDepth 100000 in
theorem ground_within.calls (a1079 : Int) (a1080 : Int) (a1081 : Int) (r : Int) (w : World)  (HGl0 : Aside0 (Gl 0 #[.int .i64 0, .int .i64 0, .int .i64 0, .int .i64 0, .int .i64 0] (fps []) w)) (HS : Aside0 (Sep (fps []) w [] w)) (H : Aside0 (ground_within.f a1079 a1080 a1081 = some r)) :
    Calls Tryd.prog 129 #[.int .i64 a1079, .int .i64 a1080, .int .i64 a1081] w fun e w' => e = .returned (.int .i64 r) ∧ Sep (fps []) w [] w' := by
  unfold ground_within.f at H
  go_enter Tryd.func129, Tryd.ntmps129
  by_cases c1082 : a1079 < 0
  · replace H := if_yes c1082 H
    have c1082b0 : decide (a1079 < 0) = true := decide_eq_true c1082
    clear c1082
    go_wp2_with fail
    go_ret
    rw [← some_eq H]
    exact ⟨(by first | rfl | (simp [IntKind.wrap_u32]; done)), HS.out⟩
  · replace H := if_no c1082 H
    have c1082b0 : decide (a1079 < 0) = false := decide_eq_false c1082
    clear c1082
    by_cases c1083 : a1079 ≥ a1080
    · replace H := if_yes c1083 H
      have c1083b0 : decide (a1080 ≤ a1079) = true := decide_eq_true c1083
      clear c1083
      go_wp2_with fail
      go_ret
      rw [← some_eq H]
      exact ⟨(by first | rfl | (simp [IntKind.wrap_u32]; done)), HS.out⟩
    · replace H := if_no c1083 H
      have c1083b0 : decide (a1080 ≤ a1079) = false := decide_eq_false c1083
      clear c1083
      go_wp2_with fail
      go_ret
      rw [← some_eq H]
      exact ⟨(by first | rfl | (simp [IntKind.wrap_u32]; done)), HS.out⟩

set_option maxHeartbeats 30000000 in
set_option maxRecDepth 100000 in
theorem ground_Ground_word.calls (l1016 : List Int) (a1021 : Int) (a1022 : Int) (a1023 : Int) (a1024 : Int) (a1025 : Int) (a1026 : Int) (a1027 : Int) (g1012 : Nat) (g1014 : Nat) (A1017 : Option Addr) (m1018 : Nat) (n1019 : Nat) (r : Int) (w : World)  (HGl0 : Aside0 (Gl 0 #[.int .i64 0, .int .i64 0, .int .i64 0, .int .i64 0, .int .i64 0] (fps [b8 g1012 g1014 a1022 a1023 a1024 a1025, b7 g1014 A1017 m1018 n1019 a1021, r6 A1017 m1018 n1019 l1016]) w)) (HS : Aside0 (Sep (fps [b8 g1012 g1014 a1022 a1023 a1024 a1025, b7 g1014 A1017 m1018 n1019 a1021, r6 A1017 m1018 n1019 l1016]) w [b8 g1012 g1014 a1022 a1023 a1024 a1025, b7 g1014 A1017 m1018 n1019 a1021, r6 A1017 m1018 n1019 l1016] w)) (H : Aside0 (ground_Ground_word.f l1016 a1021 a1022 a1023 a1024 a1025 a1026 a1027 = some r)) :
    Calls Tryd.prog 72 #[.pointer (some ⟨g1012, 0, none⟩), .int .i64 a1026, .int .i64 a1027] w fun e w' => e = .returned (.int .i64 r) ∧ Sep (fps [b8 g1012 g1014 a1022 a1023 a1024 a1025, b7 g1014 A1017 m1018 n1019 a1021, r6 A1017 m1018 n1019 l1016]) w [b8 g1012 g1014 a1022 a1023 a1024 a1025, b7 g1014 A1017 m1018 n1019 a1021, r6 A1017 m1018 n1019 l1016] w' := by
  generalize (fps [b8 g1012 g1014 a1022 a1023 a1024 a1025, b7 g1014 A1017 m1018 n1019 a1021, r6 A1017 m1018 n1019 l1016]) = FF at HS HGl0 ⊢
  obtain rfl := (row_len (HS.out.at2)).symm
  unfold ground_Ground_word.f at H
  go_enter Tryd.func72, Tryd.ntmps72
  go_wp2_with fail
  obtain ⟨t1063, HA1064, H⟩ := bind_some H
  refine (ground_Ground_Conf.calls l1016 a1021 a1022 a1023 a1024 a1025 g1012 g1014 A1017 l1016.length n1019 t1063 _ ⟨HGl0.out.pass HS.out⟩ ⟨HS.out.begin⟩ HA1064).mono ?_
  rintro e_ w1065 ⟨rfl, hS⟩
  replace HS : Aside0 (Sep FF w [b8 g1012 g1014 a1022 a1023 a1024 a1025, b7 g1014 A1017 l1016.length n1019 a1021, r6 A1017 l1016.length n1019 l1016] w1065) := ⟨HS.out.call hS⟩
  clear hS
  go_wp2_with (first | ((with_reducible refine gate_dst (N := 7) rfl ?_); refine box_on ?hg (N := 7) ?hd (cs := #[.int .i64 0, .int .i64 0, .int .i64 0, .int .i64 0]) (t := 30) ?hr ?_; (case hd => rfl); (case hg => rfl); (case hr => first | (go_simp; done) | (go_simp; rfl)); intro g1066 hg w1067 hbox hb; replace HS : Aside0 (Sep FF w [b8 g1012 g1014 a1022 a1023 a1024 a1025, b7 g1014 A1017 l1016.length n1019 a1021, r6 A1017 l1016.length n1019 l1016, b2 g1066 0 0 0 0] w1067) := ⟨HS.out.box hg hbox hb⟩; clear hg hbox hb; have hc1069 : w1067.cell? ⟨g1066, 0, none⟩ = some (.int .i64 0) := blk_cellv (HS.out.at3) 0 rfl; have hz1070 : w1067.frozen? ⟨g1066, 0, none⟩ = false := blk_fz (HS.out.at3) 0; have hc1071 : w1067.cell? ⟨g1066, 1, none⟩ = some (.int .i64 0) := blk_cellv (HS.out.at3) 1 rfl; have hz1072 : w1067.frozen? ⟨g1066, 1, none⟩ = false := blk_fz (HS.out.at3) 1; have hc1073 : w1067.cell? ⟨g1066, 2, none⟩ = some (.int .i64 0) := blk_cellv (HS.out.at3) 2 rfl; have hz1074 : w1067.frozen? ⟨g1066, 2, none⟩ = false := blk_fz (HS.out.at3) 2; have hc1075 : w1067.cell? ⟨g1066, 3, none⟩ = some (.int .i64 0) := blk_cellv (HS.out.at3) 3 rfl; have hz1076 : w1067.frozen? ⟨g1066, 3, none⟩ = false := blk_fz (HS.out.at3) 3) | ((with_reducible refine gate_store (t := 30) (p := 7) rfl ?_); refine store_event (w1 := (World.setCell (World.setCell (World.setCell (World.setCell w1067 ⟨g1066, 0, none⟩ (.int .i64 t1063.1)) ⟨g1066, 1, none⟩ (.int .i64 t1063.2.1)) ⟨g1066, 2, none⟩ (.int .i64 t1063.2.2.1)) ⟨g1066, 3, none⟩ (.int .i64 t1063.2.2.2))) rfl (t := 30) (p := 7) rfl rfl ?hr ?_; (case hr => first | (go_simp; done) | (go_simp; rfl)); intro w1077 hst; clear hc1069 hz1070 hc1071 hz1072 hc1073 hz1074 hc1075 hz1076; replace HS : Aside0 (Sep FF w [b8 g1012 g1014 a1022 a1023 a1024 a1025, b7 g1014 A1017 l1016.length n1019 a1021, r6 A1017 l1016.length n1019 l1016, b2 g1066 t1063.1 t1063.2.1 t1063.2.2.1 t1063.2.2.2] w1077) := ⟨by rw [hst]; exact HS.out.setAll (l1 := [b8 g1012 g1014 a1022 a1023 a1024 a1025, b7 g1014 A1017 l1016.length n1019 a1021, r6 A1017 l1016.length n1019 l1016]) (l2 := []) [.int .i64 t1063.1, .int .i64 t1063.2.1, .int .i64 t1063.2.2.1, .int .i64 t1063.2.2.2] rfl⟩; clear hst; have hc1078 : w1077.cell? ⟨g1066, 0, none⟩ = some (.int .i64 t1063.1) := blk_cellv (HS.out.at3) 0 rfl))
  clear hc1078
  obtain ⟨t1084, HA1085, H⟩ := bind_some H
  refine (ground_within.calls a1026 t1063.1 0 t1084 _ ⟨HGl0.out.pass (l := []) HS.out⟩ ⟨Sep.start _⟩ HA1085).mono ?_
  rintro e_ w1086 ⟨rfl, hS⟩
  replace HS : Aside0 (Sep FF w [b8 g1012 g1014 a1022 a1023 a1024 a1025, b7 g1014 A1017 l1016.length n1019 a1021, r6 A1017 l1016.length n1019 l1016, b2 g1066 t1063.1 t1063.2.1 t1063.2.2.1 t1063.2.2.2] w1086) := ⟨HS.out.call hS⟩
  clear hS
  by_cases c1087 : t1084 = (-1)
  · replace H := if_yes c1087 H
    have c1087b0 : (t1084 == (-1)) = true := beq_iff_eq.mpr c1087
    have c1087b1 : (t1084 != (-1)) = false := bne_eq_false_iff_eq.mpr c1087
    clear c1087
    replace HS : Aside0 (Sep FF w [b8 g1012 g1014 a1022 a1023 a1024 a1025, b7 g1014 A1017 l1016.length n1019 a1021, r6 A1017 l1016.length n1019 l1016] w1086) := ⟨HS.out.sub (.cons_cons _ (.cons_cons _ (.cons_cons _ (.cons _ .slnil))))⟩
    go_wp2_with fail
    go_ret
    rw [← some_eq H]
    exact ⟨(by first | rfl | (simp [IntKind.wrap_u32]; done)), HS.out⟩
  · replace H := if_no c1087 H
    have c1087b0 : (t1084 == (-1)) = false := beq_eq_false_iff_ne.mpr c1087
    have c1087b1 : (t1084 != (-1)) = true := bne_iff_ne.mpr c1087
    clear c1087
    have hc1088 : w1086.cell? ⟨g1066, 1, none⟩ = some (.int .i64 t1063.2.1) := blk_cellv (HS.out.at3) 1 rfl
    have hc1089 : w1086.cell? ⟨g1066, 2, none⟩ = some (.int .i64 t1063.2.2.1) := blk_cellv (HS.out.at3) 2 rfl
    go_wp2_with fail
    clear hc1088 hc1089
    obtain ⟨t1090, HA1091, H⟩ := bind_some H
    refine (ground_within.calls a1027 t1063.2.1 (wrap64 ((wrap64 (24 + t1063.2.2.1)) + (wrap64 (a1026 * t1063.2.1)))) t1090 _ ⟨HGl0.out.pass (l := []) HS.out⟩ ⟨Sep.start _⟩ HA1091).mono ?_
    rintro e_ w1092 ⟨rfl, hS⟩
    replace HS : Aside0 (Sep FF w [b8 g1012 g1014 a1022 a1023 a1024 a1025, b7 g1014 A1017 l1016.length n1019 a1021, r6 A1017 l1016.length n1019 l1016, b2 g1066 t1063.1 t1063.2.1 t1063.2.2.1 t1063.2.2.2] w1092) := ⟨HS.out.call hS⟩
    clear hS
    replace HS : Aside0 (Sep FF w [b8 g1012 g1014 a1022 a1023 a1024 a1025, b7 g1014 A1017 l1016.length n1019 a1021, r6 A1017 l1016.length n1019 l1016] w1092) := ⟨HS.out.sub (.cons_cons _ (.cons_cons _ (.cons_cons _ (.cons _ .slnil))))⟩
    go_wp2_with fail
    go_ret
    rw [← some_eq H]
    exact ⟨(by first | rfl | (simp [IntKind.wrap_u32]; done)), HS.out⟩

set_option maxHeartbeats 30000000 in
set_option maxRecDepth 100000 in
theorem store_Store_has.calls (l1110 : List Int) (a1115 : Int) (a1116 : Int) (g1108 : Nat) (A1111 : Option Addr) (m1112 : Nat) (n1113 : Nat) (r : Bool) (w : World)  (HGl0 : Aside0 (Gl 0 #[.int .i64 0, .int .i64 0, .int .i64 0, .int .i64 0, .int .i64 0] (fps [b7 g1108 A1111 m1112 n1113 a1115, r6 A1111 m1112 n1113 l1110]) w)) (HS : Aside0 (Sep (fps [b7 g1108 A1111 m1112 n1113 a1115, r6 A1111 m1112 n1113 l1110]) w [b7 g1108 A1111 m1112 n1113 a1115, r6 A1111 m1112 n1113 l1110] w)) (H : Aside0 (store_Store_has.f l1110 a1115 a1116 = some r)) :
    Calls Tryd.prog 127 #[.pointer (some ⟨g1108, 0, none⟩), .int .i64 a1116] w fun e w' => e = .returned (.bool r) ∧ Sep (fps [b7 g1108 A1111 m1112 n1113 a1115, r6 A1111 m1112 n1113 l1110]) w [b7 g1108 A1111 m1112 n1113 a1115, r6 A1111 m1112 n1113 l1110] w' := by
  generalize (fps [b7 g1108 A1111 m1112 n1113 a1115, r6 A1111 m1112 n1113 l1110]) = FF at HS HGl0 ⊢
  obtain rfl := (row_len (HS.out.at1)).symm
  unfold store_Store_has.f at H
  go_enter Tryd.func127, Tryd.ntmps127
  by_cases c1117 : a1116 ≥ 0
  · replace H := if_yes c1117 H
    have c1117b0 : decide (0 ≤ a1116) = true := decide_eq_true c1117
    clear c1117
    have hc1118 : w.cell? ⟨g1108, 0, none⟩ = some (.slice A1111 l1110.length n1113) := blk_cellv (HS.out.at0) 0 rfl
    go_wp2_with fail
    clear hc1118
    go_ret
    rw [← some_eq H]
    exact ⟨(by first | rfl | (simp [IntKind.wrap_u32]; done)), HS.out⟩
  · replace H := if_no c1117 H
    have c1117b0 : decide (0 ≤ a1116) = false := decide_eq_false c1117
    clear c1117
    go_wp2_with fail
    go_ret
    rw [← some_eq H]
    exact ⟨(by first | rfl | (simp [IntKind.wrap_u32]; done)), HS.out⟩

set_option maxHeartbeats 30000000 in
set_option maxRecDepth 100000 in
theorem atomic_Uint64_Add.calls (l1126 : List Int) (a1131 : Int) (a1132 : Int) (g1124 : Nat) (A1127 : Option Addr) (m1128 : Nat) (n1129 : Nat) (r : Int × Int) (w : World)  (HGl0 : Aside0 (Gl 0 #[.int .i64 0, .int .i64 0, .int .i64 0, .int .i64 0, .int .i64 0] (fps [b7 g1124 A1127 m1128 n1129 a1131, r6 A1127 m1128 n1129 l1126]) w)) (HS : Aside0 (Sep (fps [b7 g1124 A1127 m1128 n1129 a1131, r6 A1127 m1128 n1129 l1126]) w [b7 g1124 A1127 m1128 n1129 a1131, r6 A1127 m1128 n1129 l1126] w)) (H : Aside0 (atomic_Uint64_Add.f l1126 a1131 a1132 = some r)) :
    Calls Tryd.prog 128 #[.pointer (some ⟨g1124, 1, none⟩), .int .u64 a1132] w fun e w' => e = .returned (.int .u64 r.1) ∧ Sep (fps [b7 g1124 A1127 m1128 n1129 a1131, r6 A1127 m1128 n1129 l1126]) w [b7 g1124 A1127 m1128 n1129 r.2, r6 A1127 m1128 n1129 l1126] w' := by
  generalize (fps [b7 g1124 A1127 m1128 n1129 a1131, r6 A1127 m1128 n1129 l1126]) = FF at HS HGl0 ⊢
  obtain rfl := (row_len (HS.out.at1)).symm
  unfold atomic_Uint64_Add.f at H
  go_enter Tryd.func128, Tryd.ntmps128
  obtain ⟨y1142, HA1143, H⟩ := bind_some H
  have hc1139 : w.cell? ⟨g1124, 1, none⟩ = some (.int .u64 a1131) := blk_cellv (HS.out.at0) 1 rfl
  have hz1141 : w.frozen? ⟨g1124, 1, none⟩ = false := blk_fz (HS.out.at0) 1
  have hn1140 : (callFunc 153 #[.pointer (some ⟨g1124, 1, none⟩), .int .u64 a1132]).run Tryd.prog w = .ok (.value (.int .u64 y1142)) ((World.setCell w ⟨g1124, 1, none⟩ (.int .u64 y1142))) := (some_eq HA1143) ▸ run_call_add Tryd.func153 (by kernel_rfl) (by kernel_rfl) (by kernel_rfl) .u64 (by kernel_rfl) hc1139 hz1141 (by rfl)
  go_wp2_with (first | ((with_reducible refine gate_dst (N := 9) rfl ?_); refine run_on2 (by rfl) (w1 := (World.setCell w ⟨g1124, 1, none⟩ (.int .u64 y1142))) (v := .int .u64 y1142) ?hr ?_; (case hr => first | (go_simp; done) | (go_simp; rfl)); intro w1144 hst; clear hc1139 hz1141; have hq0 : Sep FF w [b7 g1124 A1127 l1126.length n1129 y1142, r6 A1127 l1126.length n1129 l1126] (World.setCell w ⟨g1124, 1, none⟩ (.int .u64 y1142)) := (HS.out).set1 (l1 := []) (l2 := [r6 A1127 l1126.length n1129 l1126]) 1 (.int .u64 y1142); replace HS : Aside0 (Sep FF w [b7 g1124 A1127 l1126.length n1129 y1142, r6 A1127 l1126.length n1129 l1126] w1144) := ⟨by rw [hst]; exact hq0⟩; clear hst hn1140 hq0))
  go_ret
  rw [← some_eq H]
  exact ⟨(by first | rfl | (simp [IntKind.wrap_u32]; done)), HS.out⟩

set_option maxHeartbeats 30000000 in
set_option maxRecDepth 100000 in
theorem store_Store_Put.calls (l1099 : List Int) (a1104 : Int) (a1105 : Int) (a1106 : Int) (g1097 : Nat) (A1100 : Option Addr) (m1101 : Nat) (n1102 : Nat) (r : Bool × Int × List Int) (w : World)  (HGl0 : Aside0 (Gl 0 #[.int .i64 0, .int .i64 0, .int .i64 0, .int .i64 0, .int .i64 0] (fps [b7 g1097 A1100 m1101 n1102 a1104, r6 A1100 m1101 n1102 l1099]) w)) (HS : Aside0 (Sep (fps [b7 g1097 A1100 m1101 n1102 a1104, r6 A1100 m1101 n1102 l1099]) w [b7 g1097 A1100 m1101 n1102 a1104, r6 A1100 m1101 n1102 l1099] w)) (H : Aside0 (store_Store_Put.f l1099 a1104 a1105 a1106 = some r)) :
    Calls Tryd.prog 71 #[.pointer (some ⟨g1097, 0, none⟩), .int .i64 a1105, .int .u32 a1106] w fun e w' => e = .returned (.bool r.1) ∧ Sep (fps [b7 g1097 A1100 m1101 n1102 a1104, r6 A1100 m1101 n1102 l1099]) w [b7 g1097 A1100 m1101 n1102 r.2.1, r6 A1100 m1101 n1102 r.2.2] w' := by
  generalize (fps [b7 g1097 A1100 m1101 n1102 a1104, r6 A1100 m1101 n1102 l1099]) = FF at HS HGl0 ⊢
  obtain rfl := (row_len (HS.out.at1)).symm
  unfold store_Store_Put.f at H
  go_enter Tryd.func71, Tryd.ntmps71
  go_wp2_with fail
  obtain ⟨t1157, HA1158, H⟩ := bind_some H
  refine (store_Store_has.calls l1099 a1104 a1105 g1097 A1100 l1099.length n1102 t1157 _ ⟨HGl0.out.pass HS.out⟩ ⟨HS.out.begin⟩ HA1158).mono ?_
  rintro e_ w1159 ⟨rfl, hS⟩
  replace HS : Aside0 (Sep FF w [b7 g1097 A1100 l1099.length n1102 a1104, r6 A1100 l1099.length n1102 l1099] w1159) := ⟨HS.out.call hS⟩
  clear hS
  by_cases c1160 : t1157 = true
  · replace H := if_yes c1160 H
    have c1160b0 : t1157 = true := c1160
    have c1160b1 : (!t1157) = false := by rw [c1160b0]; rfl
    try rw [c1160b1]
    clear c1160
    go_wp2_with fail
    obtain ⟨t1161, HA1162, H⟩ := bind_some H
    refine (atomic_Uint64_Add.calls l1099 a1104 1 g1097 A1100 l1099.length n1102 t1161 _ ⟨HGl0.out.pass HS.out⟩ ⟨HS.out.begin⟩ HA1162).mono ?_
    rintro e_ w1163 ⟨rfl, hS⟩
    replace HS : Aside0 (Sep FF w [b7 g1097 A1100 l1099.length n1102 t1161.2, r6 A1100 l1099.length n1102 l1099] w1163) := ⟨HS.out.call hS⟩
    clear hS
    by_cases c1165 : 0 ≤ a1105
    · replace H := if_yes c1165 H
      have c1165b0 : decide (0 ≤ a1105) = true := decide_eq_true c1165
      have c1165p : (0 ≤ a1105) = True := eq_true c1165
      clear c1165
      by_cases c1166 : a1105 < (l1099.length : Int)
      · replace H := if_yes c1166 H
        have c1166b0 : decide (a1105 < (l1099.length : Int)) = true := decide_eq_true c1166
        have c1166p : (a1105 < (l1099.length : Int)) = True := eq_true c1166
        clear c1166
        obtain ⟨y1169, HA1170, H⟩ := bind_some H
        have hc1164 : w1163.cell? ⟨g1097, 0, none⟩ = some (.slice A1100 l1099.length n1102) := blk_cellv (HS.out.at0) 0 rfl
        obtain ⟨g1167, ea⟩ := row_at (HS.out.at1) (by have := (of_decide_eq_true c1165b0); have := (of_decide_eq_true c1166b0); omega); cases ea
        have hx1171 := (row_get 0 (HS.out.at1) a1105 (of_decide_eq_true c1165b0) (of_decide_eq_true c1166b0)).1
        have hz1172 := (row_get 0 (HS.out.at1) a1105 (of_decide_eq_true c1165b0) (of_decide_eq_true c1166b0)).2
        go_wp2_with (first | ((with_reducible refine gate_store (t := 33) (p := 21) rfl ?_); refine store_event (w1 := World.setCell w1163 ⟨g1167, (a1105).toNat, none⟩ (.int .u32 a1106)) rfl (t := 33) (p := 21) rfl rfl ?hr ?_; (case hr => first | (go_simp; done) | (go_simp; rfl)); intro w1168 hst; clear hc1164 hx1171 hz1172; have hq := Sep.rowset (l1 := [b7 g1097 (some ⟨g1167, 0, none⟩) l1099.length n1102 t1161.2]) (l2 := []) HS.out a1105 a1106; rw [← hst, some_eq HA1170] at hq; replace HS : Aside0 (Sep FF w [b7 g1097 (some ⟨g1167, 0, none⟩) l1099.length n1102 t1161.2, r6 (some ⟨g1167, 0, none⟩) l1099.length n1102 y1169] w1168) := ⟨hq⟩; clear hst hq))
        go_ret
        rw [← some_eq H]
        exact ⟨(by first | rfl | (simp [IntKind.wrap_u32]; done)), HS.out⟩
      · replace H := if_no c1166 H
        have c1166b0 : decide (a1105 < (l1099.length : Int)) = false := decide_eq_false c1166
        clear c1166
        exact (none_no H).elim
    · replace H := if_no c1165 H
      have c1165b0 : decide (0 ≤ a1105) = false := decide_eq_false c1165
      clear c1165
      exact (none_no H).elim
  · replace H := if_no c1160 H
    have c1160b0 : t1157 = false := by simpa using c1160
    have c1160b1 : (!t1157) = true := by rw [c1160b0]; rfl
    try rw [c1160b1]
    clear c1160
    go_wp2_with fail
    go_ret
    rw [← some_eq H]
    exact ⟨(by first | rfl | (simp [IntKind.wrap_u32]; done)), HS.out⟩

set_option maxHeartbeats 30000000 in
set_option maxRecDepth 100000 in
theorem ground_Ground_SetWord.calls (l979 : List Int) (a984 : Int) (a985 : Int) (a986 : Int) (a987 : Int) (a988 : Int) (a989 : Int) (a990 : Int) (a991 : Int) (g975 : Nat) (g977 : Nat) (A980 : Option Addr) (m981 : Nat) (n982 : Nat) (r : Bool × Int × List Int) (w : World)  (HGl0 : Aside0 (Gl 0 #[.int .i64 0, .int .i64 0, .int .i64 0, .int .i64 0, .int .i64 0] (fps [b8 g975 g977 a985 a986 a987 a988, b7 g977 A980 m981 n982 a984, r6 A980 m981 n982 l979]) w)) (HS : Aside0 (Sep (fps [b8 g975 g977 a985 a986 a987 a988, b7 g977 A980 m981 n982 a984, r6 A980 m981 n982 l979]) w [b8 g975 g977 a985 a986 a987 a988, b7 g977 A980 m981 n982 a984, r6 A980 m981 n982 l979] w)) (H : Aside0 (ground_Ground_SetWord.f l979 a984 a985 a986 a987 a988 a989 a990 a991 = some r)) :
    Calls Tryd.prog 17 #[.pointer (some ⟨g975, 0, none⟩), .int .i64 a989, .int .i64 a990, .int .u32 a991] w fun e w' => e = .returned (.bool r.1) ∧ Sep (fps [b8 g975 g977 a985 a986 a987 a988, b7 g977 A980 m981 n982 a984, r6 A980 m981 n982 l979]) w [b8 g975 g977 a985 a986 a987 a988, b7 g977 A980 m981 n982 r.2.1, r6 A980 m981 n982 r.2.2] w' := by
  generalize (fps [b8 g975 g977 a985 a986 a987 a988, b7 g977 A980 m981 n982 a984, r6 A980 m981 n982 l979]) = FF at HS HGl0 ⊢
  obtain rfl := (row_len (HS.out.at2)).symm
  unfold ground_Ground_SetWord.f at H
  go_enter Tryd.func17, Tryd.ntmps17
  go_wp2_with fail
  obtain ⟨t1176, HA1177, H⟩ := bind_some H
  refine (ground_Ground_all.calls l979 a984 a985 a986 a987 a988 g975 g977 A980 l979.length n982 t1176 _ ⟨HGl0.out.pass HS.out⟩ ⟨HS.out.begin⟩ HA1177).mono ?_
  rintro e_ w1178 ⟨rfl, hS⟩
  replace HS : Aside0 (Sep FF w [b8 g975 g977 a985 a986 a987 a988, b7 g977 A980 l979.length n982 a984, r6 A980 l979.length n982 l979] w1178) := ⟨HS.out.call hS⟩
  clear hS
  go_wp2_with fail
  obtain ⟨t1179, HA1180, H⟩ := bind_some H
  refine (ground_Ground_word.calls l979 a984 a985 a986 a987 a988 a989 a990 g975 g977 A980 l979.length n982 t1179 _ ⟨HGl0.out.pass HS.out⟩ ⟨HS.out.begin⟩ HA1180).mono ?_
  rintro e_ w1181 ⟨rfl, hS⟩
  replace HS : Aside0 (Sep FF w [b8 g975 g977 a985 a986 a987 a988, b7 g977 A980 l979.length n982 a984, r6 A980 l979.length n982 l979] w1181) := ⟨HS.out.call hS⟩
  clear hS
  go_wp2_with fail
  replace HS : Aside0 (Sep FF w [r6 A980 l979.length n982 l979, b8 g975 g977 a985 a986 a987 a988, b7 g977 A980 l979.length n982 a984] w1181) := ⟨HS.out.front 2 (by simp)⟩
  replace HS : Aside0 (Sep FF w [b7 g977 A980 l979.length n982 a984, r6 A980 l979.length n982 l979, b8 g975 g977 a985 a986 a987 a988] w1181) := ⟨HS.out.front 2 (by simp)⟩
  obtain ⟨t1182, HA1183, H⟩ := bind_some H
  refine (store_Store_Put.calls l979 a984 t1179 a991 g977 A980 l979.length n982 t1182 _ ⟨HGl0.out.pass HS.out⟩ ⟨HS.out.begin⟩ HA1183).mono ?_
  rintro e_ w1184 ⟨rfl, hS⟩
  replace HS : Aside0 (Sep FF w [b7 g977 A980 l979.length n982 t1182.2.1, r6 A980 l979.length n982 t1182.2.2, b8 g975 g977 a985 a986 a987 a988] w1184) := ⟨HS.out.call hS⟩
  clear hS
  go_wp2_with fail
  go_ret
  rw [← some_eq H]
  exact ⟨(by first | rfl | (simp [IntKind.wrap_u32]; done)), ((((HS.out).front 1 (by simp)).front 1 (by simp)).front 2 (by simp)).keep (l := [b8 g975 g977 a985 a986 a987 a988, b7 g977 A980 l979.length n982 t1182.2.1, r6 A980 l979.length n982 t1182.2.2]) (rest := [])⟩

set_option maxHeartbeats 30000000 in
set_option maxRecDepth 100000 in
theorem quitrentlaw09_made.calls (k : Nat) (l10 : List Int) (A11 : Option Addr) (n12 : Nat) (r : Bool ⊕ (Bool × Int × Int × Int × Int × Int × List Int)) (w : World) (HR13 : Aside0 (Rd (Kd.int .u8) (fps []) w A11 l10.length l10)) (HGl0 : Aside0 (Gl 0 #[.int .i64 0, .int .i64 0, .int .i64 0, .int .i64 0, .int .i64 0] (fps []) w)) (HS : Aside0 (Sep (fps []) w [] w)) (H : Aside0 (quitrentlaw09_made.f k l10 = some r)) :
    Calls Tryd.prog 22 #[.slice A11 l10.length n12] w fun e w' => Sum.elim (fun (r : Bool) => e = .returned (.tuple #[.pointer none, .bool r]) ∧ Sep (fps []) w [] w') (fun (r : Bool × Int × Int × Int × Int × Int × List Int) => ∃ (g1327 : Nat), e = .returned (.tuple #[.pointer (some ⟨g1327, 0, none⟩), .bool r.1]) ∧ ∃ (g1328 : Nat) (A1329 : Option Addr) (m1330 : Nat) (n1331 : Nat), Sep (fps []) w [b8 g1327 g1328 r.2.1 r.2.2.1 r.2.2.2.1 r.2.2.2.2.1, b7 g1328 A1329 m1330 n1331 r.2.2.2.2.2.1, r6 A1329 m1330 n1331 r.2.2.2.2.2.2] w') r := by
  unfold quitrentlaw09_made.f at H
  go_enter Tryd.func22, Tryd.ntmps22
  go_wp2_with fail
  obtain ⟨t1207, HA1208, H⟩ := bind_some H
  rcases t1207 with t1209 | (t1210 | t1211)
  · have H := sum_l H
    refine (ground_New.calls _ (l10.length : Int) 16 1 1 (.inl t1209) _ ⟨HGl0.out.pass (l := []) HS.out⟩ ⟨Sep.start _⟩ HA1208).mono ?_
    rintro e_ w1212 ⟨rfl, hS⟩
    replace HS : Aside0 (Sep (fps []) w [] w1212) := ⟨HS.out.call hS⟩
    clear hS
    go_wp2_with fail
    go_ret2
    rw [← some_eq H]
    exact ⟨(by first | rfl | (simp [IntKind.wrap_u32]; done)), HS.out⟩
  · have H := sum_r H
    have H := sum_l H
    refine (ground_New.calls _ (l10.length : Int) 16 1 1 (.inr (.inl t1210)) _ ⟨HGl0.out.pass (l := []) HS.out⟩ ⟨Sep.start _⟩ HA1208).mono ?_
    rintro e_ w1213 ⟨g1217, rfl, g1218, A1219, m1220, n1221, hS⟩
    replace HS : Aside0 (Sep (fps []) w [b8 g1217 g1218 t1210.1 t1210.2.1 t1210.2.2.1 t1210.2.2.2.1, b7 g1218 A1219 m1220 n1221 0, r6 A1219 m1220 n1221 t1210.2.2.2.2] w1213) := ⟨HS.out.call hS⟩
    clear hS
    obtain rfl := (row_len (HS.out.at2)).symm
    go_wp2_with fail
    obtain ⟨o1261, AL1262, H⟩ := bind_some H
    go_loopg [20] k (fun kq v20 wc => ∃ (x1265 : Int) (x1266 : List Int) (x1267 : Int), v20 = .int .i64 x1265 ∧ Aside0 (quitrentlaw09_made.lo0 kq l10 t1210 x1265 x1266 x1267 = some o1261) ∧ Aside0 (Sep (fps []) w [b8 g1217 g1218 t1210.1 t1210.2.1 t1210.2.2.1 t1210.2.2.2.1, b7 g1218 A1219 ((t1210.2.2.2.2).length) n1221 x1267, r6 A1219 ((t1210.2.2.2.2).length) n1221 x1266] wc))
    case atStart => exact ⟨(0), (t1210.2.2.2.2), (0), (by first | rfl | (simp [IntKind.wrap_u32]; done)), AL1262, ⟨HS.out⟩⟩
    case round =>
      clear AL1262 HS
      obtain ⟨x1265, x1266, x1267, rfl, AL1262, HS⟩ := hrel
      obtain ⟨w1263, rfl⟩ : ∃ x : World, x = wr := ⟨_, rfl⟩
      cases gk with
      | zero => exact absurd AL1262.out (by simp [quitrentlaw09_made.lo0])
      | succ k1264 =>
        have AL0 := AL1262.out
        rw [quitrentlaw09_made.lo0] at AL0
        clear AL1262
        have AL1262 := Aside0.mk AL0
        clear AL0
        by_cases c1268 : x1265 < (l10.length : Int)
        · replace AL1262 := if_yes c1268 AL1262
          have c1268b0 : decide (x1265 < (l10.length : Int)) = true := decide_eq_true c1268
          clear c1268
          by_cases c1269 : 0 ≤ x1265
          · replace AL1262 := if_yes c1269 AL1262
            have c1269b0 : decide (0 ≤ x1265) = true := decide_eq_true c1269
            have c1269p : (0 ≤ x1265) = True := eq_true c1269
            clear c1269
            have ip1270 : (x1265 < (l10.length : Int)) = True := eq_true (of_decide_eq_true c1268b0)
            obtain ⟨hx1271a, hx1271e, hx1271⟩ := Kd.at_int (Rd.read (fun _ _ _ _ h => h) HR13.out HS.out.fr) x1265 (of_decide_eq_true c1269b0) (of_decide_eq_true c1268b0); cases hx1271e
            go_wp2_with fail
            clear hx1271
            obtain ⟨t1233, HA1272, AL1262⟩ := bind_some AL1262
            refine (quitrentlaw09_tagOf.calls (rd l10 x1265) t1233 _ ⟨HGl0.out.pass (l := []) HS.out⟩ ⟨Sep.start _⟩ HA1272).mono ?_
            rintro e_ w1273 ⟨rfl, hS⟩
            replace HS : Aside0 (Sep (fps []) w [b8 g1217 g1218 t1210.1 t1210.2.1 t1210.2.2.1 t1210.2.2.2.1, b7 g1218 A1219 ((t1210.2.2.2.2).length) n1221 x1267, r6 A1219 ((t1210.2.2.2.2).length) n1221 x1266] w1273) := ⟨HS.out.call hS⟩
            clear hS
            go_wp2_with fail
            obtain ⟨t1236, HA1274, AL1262⟩ := bind_some AL1262
            refine (quitrentref06_Pack.calls t1233.1 t1233.2.1 t1233.2.2.1 t1233.2.2.2.1 t1233.2.2.2.2.1 t1233.2.2.2.2.2.1 t1233.2.2.2.2.2.2 t1236 _ ⟨HGl0.out.pass (l := []) HS.out⟩ ⟨Sep.start _⟩ HA1274).mono ?_
            rintro e_ w1275 ⟨rfl, hS⟩
            replace HS : Aside0 (Sep (fps []) w [b8 g1217 g1218 t1210.1 t1210.2.1 t1210.2.2.1 t1210.2.2.2.1, b7 g1218 A1219 ((t1210.2.2.2.2).length) n1221 x1267, r6 A1219 ((t1210.2.2.2.2).length) n1221 x1266] w1275) := ⟨HS.out.call hS⟩
            clear hS
            go_wp2_with fail
            obtain ⟨t1239, HA1276, AL1262⟩ := bind_some AL1262
            refine (ground_Ground_SetWord.calls x1266 x1267 t1210.1 t1210.2.1 t1210.2.2.1 t1210.2.2.2.1 x1265 0 t1236 g1217 g1218 A1219 ((t1210.2.2.2.2).length) n1221 t1239 _ ⟨HGl0.out.pass HS.out⟩ ⟨HS.out.begin⟩ HA1276).mono ?_
            rintro e_ w1277 ⟨rfl, hS⟩
            replace HS : Aside0 (Sep (fps []) w [b8 g1217 g1218 t1210.1 t1210.2.1 t1210.2.2.1 t1210.2.2.2.1, b7 g1218 A1219 ((t1210.2.2.2.2).length) n1221 t1239.2.1, r6 A1219 ((t1210.2.2.2.2).length) n1221 t1239.2.2] w1277) := ⟨HS.out.call hS⟩
            clear hS
            by_cases c1278 : t1239.1 = true
            · replace AL1262 := if_yes c1278 AL1262
              have c1278b0 : t1239.1 = true := c1278
              have c1278b1 : (!t1239.1) = false := by rw [c1278b0]; rfl
              try rw [c1278b1]
              clear c1278
              go_wp2_with fail
              go_roundg k1264
              case measure => exact Nat.lt_succ_self _
              case rel => exact ⟨(wrap64 (x1265 + 1)), (t1239.2.2), (t1239.2.1), (by first | rfl | (simp [IntKind.wrap_u32]; done)), Aside0.mk AL1262.out, ⟨HS.out⟩⟩
            · replace AL1262 := if_no c1278 AL1262
              have c1278b0 : t1239.1 = false := by simpa using c1278
              have c1278b1 : (!t1239.1) = true := by rw [c1278b0]; rfl
              try rw [c1278b1]
              clear c1278
              go_wp2_with fail
              have ho := some_eq AL1262
              subst ho
              have H := lp_ret H
              go_ret2
              rw [← some_eq H]
              exact ⟨g1217, (by first | rfl | (simp [IntKind.wrap_u32]; done)), g1218, A1219, ((t1210.2.2.2.2).length), n1221, HS.out⟩
          · replace AL1262 := if_no c1269 AL1262
            have c1269b0 : decide (0 ≤ x1265) = false := decide_eq_false c1269
            clear c1269
            exact (none_no AL1262).elim
        · replace AL1262 := if_no c1268 AL1262
          have c1268b0 : decide (x1265 < (l10.length : Int)) = false := decide_eq_false c1268
          clear c1268
          have ho := some_eq AL1262
          subst ho
          clear AL1262
          have H := lp_out H
          go_wp2_with fail
          go_ret2
          rw [← some_eq H]
          exact ⟨g1217, (by first | rfl | (simp [IntKind.wrap_u32]; done)), g1218, A1219, ((t1210.2.2.2.2).length), n1221, HS.out⟩
  · have H := sum_r H
    have H := sum_r H
    refine (ground_New.calls _ (l10.length : Int) 16 1 1 (.inr (.inr t1211)) _ ⟨HGl0.out.pass (l := []) HS.out⟩ ⟨Sep.start _⟩ HA1208).mono ?_
    rintro e_ w1307 ⟨rfl, hS⟩
    replace HS : Aside0 (Sep (fps []) w [] w1307) := ⟨HS.out.call hS⟩
    clear hS
    by_cases c1308 : t1211 = 0
    · replace H := if_yes c1308 H
      have c1308b0 : (t1211 == 0) = true := beq_iff_eq.mpr c1308
      have c1308b1 : (t1211 != 0) = false := bne_eq_false_iff_eq.mpr c1308
      clear c1308
      go_wp2_with fail
      obtain ⟨o1310, AL1311, H⟩ := bind_some H
      go_loopg [20] k (fun kq v20 wc => ∃ (x1314 : Int), v20 = .int .i64 x1314 ∧ Aside0 (quitrentlaw09_made.lo1 kq l10 x1314 = some o1310) ∧ Aside0 (Sep (fps []) w [] wc))
      case atStart => exact ⟨(0), (by first | rfl | (simp [IntKind.wrap_u32]; done)), AL1311, ⟨HS.out⟩⟩
      case round =>
        clear AL1311 HS
        obtain ⟨x1314, rfl, AL1311, HS⟩ := hrel
        obtain ⟨w1312, rfl⟩ : ∃ x : World, x = wr := ⟨_, rfl⟩
        cases gk with
        | zero => exact absurd AL1311.out (by simp [quitrentlaw09_made.lo1])
        | succ k1313 =>
          have AL0 := AL1311.out
          rw [quitrentlaw09_made.lo1] at AL0
          clear AL1311
          have AL1311 := Aside0.mk AL0
          clear AL0
          by_cases c1315 : x1314 < (l10.length : Int)
          · replace AL1311 := if_yes c1315 AL1311
            have c1315b0 : decide (x1314 < (l10.length : Int)) = true := decide_eq_true c1315
            clear c1315
            by_cases c1316 : 0 ≤ x1314
            · replace AL1311 := if_yes c1316 AL1311
              have c1316b0 : decide (0 ≤ x1314) = true := decide_eq_true c1316
              have c1316p : (0 ≤ x1314) = True := eq_true c1316
              clear c1316
              have ip1317 : (x1314 < (l10.length : Int)) = True := eq_true (of_decide_eq_true c1315b0)
              obtain ⟨hx1318a, hx1318e, hx1318⟩ := Kd.at_int (Rd.read (fun _ _ _ _ h => h) HR13.out HS.out.fr) x1314 (of_decide_eq_true c1316b0) (of_decide_eq_true c1315b0); cases hx1318e
              go_wp2_with fail
              clear hx1318
              obtain ⟨t1233, HA1319, AL1311⟩ := bind_some AL1311
              refine (quitrentlaw09_tagOf.calls (rd l10 x1314) t1233 _ ⟨HGl0.out.pass (l := []) HS.out⟩ ⟨Sep.start _⟩ HA1319).mono ?_
              rintro e_ w1320 ⟨rfl, hS⟩
              replace HS : Aside0 (Sep (fps []) w [] w1320) := ⟨HS.out.call hS⟩
              clear hS
              go_wp2_with fail
              obtain ⟨t1236, HA1321, AL1311⟩ := bind_some AL1311
              refine (quitrentref06_Pack.calls t1233.1 t1233.2.1 t1233.2.2.1 t1233.2.2.2.1 t1233.2.2.2.2.1 t1233.2.2.2.2.2.1 t1233.2.2.2.2.2.2 t1236 _ ⟨HGl0.out.pass (l := []) HS.out⟩ ⟨Sep.start _⟩ HA1321).mono ?_
              rintro e_ w1322 ⟨rfl, hS⟩
              replace HS : Aside0 (Sep (fps []) w [] w1322) := ⟨HS.out.call hS⟩
              clear hS
              exact (none_no AL1311).elim
            · replace AL1311 := if_no c1316 AL1311
              have c1316b0 : decide (0 ≤ x1314) = false := decide_eq_false c1316
              clear c1316
              exact (none_no AL1311).elim
          · replace AL1311 := if_no c1315 AL1311
            have c1315b0 : decide (x1314 < (l10.length : Int)) = false := decide_eq_false c1315
            clear c1315
            have ho := some_eq AL1311
            subst ho
            clear AL1311
            go_wp2_with fail
            go_ret2
            rw [← some_eq H]
            exact ⟨(by first | rfl | (simp [IntKind.wrap_u32]; done)), HS.out⟩
    · replace H := if_no c1308 H
      have c1308b0 : (t1211 == 0) = false := beq_eq_false_iff_ne.mpr c1308
      have c1308b1 : (t1211 != 0) = true := bne_iff_ne.mpr c1308
      clear c1308
      go_wp2_with fail
      go_ret2
      rw [← some_eq H]
      exact ⟨(by first | rfl | (simp [IntKind.wrap_u32]; done)), HS.out⟩

set_option maxHeartbeats 30000000 in
set_option maxRecDepth 100000 in
theorem store_Store_Get.calls (l1462 : List Int) (a1467 : Int) (a1468 : Int) (g1460 : Nat) (A1463 : Option Addr) (m1464 : Nat) (n1465 : Nat) (r : Int × Int) (w : World)  (HGl0 : Aside0 (Gl 0 #[.int .i64 0, .int .i64 0, .int .i64 0, .int .i64 0, .int .i64 0] (fps [b7 g1460 A1463 m1464 n1465 a1467, r6 A1463 m1464 n1465 l1462]) w)) (HS : Aside0 (Sep (fps [b7 g1460 A1463 m1464 n1465 a1467, r6 A1463 m1464 n1465 l1462]) w [b7 g1460 A1463 m1464 n1465 a1467, r6 A1463 m1464 n1465 l1462] w)) (H : Aside0 (store_Store_Get.f l1462 a1467 a1468 = some r)) :
    Calls Tryd.prog 130 #[.pointer (some ⟨g1460, 0, none⟩), .int .i64 a1468] w fun e w' => e = .returned (.int .u32 r.1) ∧ Sep (fps [b7 g1460 A1463 m1464 n1465 a1467, r6 A1463 m1464 n1465 l1462]) w [b7 g1460 A1463 m1464 n1465 r.2, r6 A1463 m1464 n1465 l1462] w' := by
  generalize (fps [b7 g1460 A1463 m1464 n1465 a1467, r6 A1463 m1464 n1465 l1462]) = FF at HS HGl0 ⊢
  obtain rfl := (row_len (HS.out.at1)).symm
  unfold store_Store_Get.f at H
  go_enter Tryd.func130, Tryd.ntmps130
  go_wp2_with fail
  obtain ⟨t1482, HA1483, H⟩ := bind_some H
  refine (store_Store_has.calls l1462 a1467 a1468 g1460 A1463 l1462.length n1465 t1482 _ ⟨HGl0.out.pass HS.out⟩ ⟨HS.out.begin⟩ HA1483).mono ?_
  rintro e_ w1484 ⟨rfl, hS⟩
  replace HS : Aside0 (Sep FF w [b7 g1460 A1463 l1462.length n1465 a1467, r6 A1463 l1462.length n1465 l1462] w1484) := ⟨HS.out.call hS⟩
  clear hS
  by_cases c1485 : t1482 = true
  · replace H := if_yes c1485 H
    have c1485b0 : t1482 = true := c1485
    have c1485b1 : (!t1482) = false := by rw [c1485b0]; rfl
    try rw [c1485b1]
    clear c1485
    go_wp2_with fail
    obtain ⟨t1486, HA1487, H⟩ := bind_some H
    refine (atomic_Uint64_Add.calls l1462 a1467 1 g1460 A1463 l1462.length n1465 t1486 _ ⟨HGl0.out.pass HS.out⟩ ⟨HS.out.begin⟩ HA1487).mono ?_
    rintro e_ w1488 ⟨rfl, hS⟩
    replace HS : Aside0 (Sep FF w [b7 g1460 A1463 l1462.length n1465 t1486.2, r6 A1463 l1462.length n1465 l1462] w1488) := ⟨HS.out.call hS⟩
    clear hS
    by_cases c1490 : 0 ≤ a1468
    · replace H := if_yes c1490 H
      have c1490b0 : decide (0 ≤ a1468) = true := decide_eq_true c1490
      have c1490p : (0 ≤ a1468) = True := eq_true c1490
      clear c1490
      by_cases c1491 : a1468 < (l1462.length : Int)
      · replace H := if_yes c1491 H
        have c1491b0 : decide (a1468 < (l1462.length : Int)) = true := decide_eq_true c1491
        have c1491p : (a1468 < (l1462.length : Int)) = True := eq_true c1491
        clear c1491
        have hc1489 : w1488.cell? ⟨g1460, 0, none⟩ = some (.slice A1463 l1462.length n1465) := blk_cellv (HS.out.at0) 0 rfl
        obtain ⟨g1492, ea⟩ := row_at (HS.out.at1) (by have := (of_decide_eq_true c1490b0); have := (of_decide_eq_true c1491b0); omega); cases ea
        have hx1493 := C_at_int (row_Ci (HS.out.at1)) a1468 (of_decide_eq_true c1490b0) (of_decide_eq_true c1491b0)
        have hx1494 : w1488.cell? ⟨g1492, (a1468).toNat, none⟩ = some (.int .u32 (rd l1462 a1468)) := (row_get 0 (HS.out.at1) a1468 (of_decide_eq_true c1490b0) (of_decide_eq_true c1491b0)).1
        go_wp2_with fail
        clear hc1489 hx1493 hx1494
        go_ret
        rw [← some_eq H]
        exact ⟨(by first | rfl | (simp [IntKind.wrap_u32]; done)), HS.out⟩
      · replace H := if_no c1491 H
        have c1491b0 : decide (a1468 < (l1462.length : Int)) = false := decide_eq_false c1491
        clear c1491
        exact (none_no H).elim
    · replace H := if_no c1490 H
      have c1490b0 : decide (0 ≤ a1468) = false := decide_eq_false c1490
      clear c1490
      exact (none_no H).elim
  · replace H := if_no c1485 H
    have c1485b0 : t1482 = false := by simpa using c1485
    have c1485b1 : (!t1482) = true := by rw [c1485b0]; rfl
    try rw [c1485b1]
    clear c1485
    go_wp2_with fail
    go_ret
    rw [← some_eq H]
    exact ⟨(by first | rfl | (simp [IntKind.wrap_u32]; done)), HS.out⟩

set_option maxHeartbeats 30000000 in
set_option maxRecDepth 100000 in
theorem ground_Ground_Word.calls (l1441 : List Int) (a1446 : Int) (a1447 : Int) (a1448 : Int) (a1449 : Int) (a1450 : Int) (a1451 : Int) (a1452 : Int) (g1437 : Nat) (g1439 : Nat) (A1442 : Option Addr) (m1443 : Nat) (n1444 : Nat) (r : Int × Int) (w : World)  (HGl0 : Aside0 (Gl 0 #[.int .i64 0, .int .i64 0, .int .i64 0, .int .i64 0, .int .i64 0] (fps [b8 g1437 g1439 a1447 a1448 a1449 a1450, b7 g1439 A1442 m1443 n1444 a1446, r6 A1442 m1443 n1444 l1441]) w)) (HS : Aside0 (Sep (fps [b8 g1437 g1439 a1447 a1448 a1449 a1450, b7 g1439 A1442 m1443 n1444 a1446, r6 A1442 m1443 n1444 l1441]) w [b8 g1437 g1439 a1447 a1448 a1449 a1450, b7 g1439 A1442 m1443 n1444 a1446, r6 A1442 m1443 n1444 l1441] w)) (H : Aside0 (ground_Ground_Word.f l1441 a1446 a1447 a1448 a1449 a1450 a1451 a1452 = some r)) :
    Calls Tryd.prog 84 #[.pointer (some ⟨g1437, 0, none⟩), .int .i64 a1451, .int .i64 a1452] w fun e w' => e = .returned (.int .u32 r.1) ∧ Sep (fps [b8 g1437 g1439 a1447 a1448 a1449 a1450, b7 g1439 A1442 m1443 n1444 a1446, r6 A1442 m1443 n1444 l1441]) w [b8 g1437 g1439 a1447 a1448 a1449 a1450, b7 g1439 A1442 m1443 n1444 r.2, r6 A1442 m1443 n1444 l1441] w' := by
  generalize (fps [b8 g1437 g1439 a1447 a1448 a1449 a1450, b7 g1439 A1442 m1443 n1444 a1446, r6 A1442 m1443 n1444 l1441]) = FF at HS HGl0 ⊢
  obtain rfl := (row_len (HS.out.at2)).symm
  unfold ground_Ground_Word.f at H
  go_enter Tryd.func84, Tryd.ntmps84
  go_wp2_with fail
  obtain ⟨t1498, HA1499, H⟩ := bind_some H
  refine (ground_Ground_all.calls l1441 a1446 a1447 a1448 a1449 a1450 g1437 g1439 A1442 l1441.length n1444 t1498 _ ⟨HGl0.out.pass HS.out⟩ ⟨HS.out.begin⟩ HA1499).mono ?_
  rintro e_ w1500 ⟨rfl, hS⟩
  replace HS : Aside0 (Sep FF w [b8 g1437 g1439 a1447 a1448 a1449 a1450, b7 g1439 A1442 l1441.length n1444 a1446, r6 A1442 l1441.length n1444 l1441] w1500) := ⟨HS.out.call hS⟩
  clear hS
  go_wp2_with fail
  obtain ⟨t1501, HA1502, H⟩ := bind_some H
  refine (ground_Ground_word.calls l1441 a1446 a1447 a1448 a1449 a1450 a1451 a1452 g1437 g1439 A1442 l1441.length n1444 t1501 _ ⟨HGl0.out.pass HS.out⟩ ⟨HS.out.begin⟩ HA1502).mono ?_
  rintro e_ w1503 ⟨rfl, hS⟩
  replace HS : Aside0 (Sep FF w [b8 g1437 g1439 a1447 a1448 a1449 a1450, b7 g1439 A1442 l1441.length n1444 a1446, r6 A1442 l1441.length n1444 l1441] w1503) := ⟨HS.out.call hS⟩
  clear hS
  go_wp2_with fail
  replace HS : Aside0 (Sep FF w [r6 A1442 l1441.length n1444 l1441, b8 g1437 g1439 a1447 a1448 a1449 a1450, b7 g1439 A1442 l1441.length n1444 a1446] w1503) := ⟨HS.out.front 2 (by simp)⟩
  replace HS : Aside0 (Sep FF w [b7 g1439 A1442 l1441.length n1444 a1446, r6 A1442 l1441.length n1444 l1441, b8 g1437 g1439 a1447 a1448 a1449 a1450] w1503) := ⟨HS.out.front 2 (by simp)⟩
  obtain ⟨t1504, HA1505, H⟩ := bind_some H
  refine (store_Store_Get.calls l1441 a1446 t1501 g1439 A1442 l1441.length n1444 t1504 _ ⟨HGl0.out.pass HS.out⟩ ⟨HS.out.begin⟩ HA1505).mono ?_
  rintro e_ w1506 ⟨rfl, hS⟩
  replace HS : Aside0 (Sep FF w [b7 g1439 A1442 l1441.length n1444 t1504.2, r6 A1442 l1441.length n1444 l1441, b8 g1437 g1439 a1447 a1448 a1449 a1450] w1506) := ⟨HS.out.call hS⟩
  clear hS
  go_wp2_with fail
  go_ret
  rw [← some_eq H]
  exact ⟨(by first | rfl | (simp [IntKind.wrap_u32]; done)), ((((HS.out).front 1 (by simp)).front 1 (by simp)).front 2 (by simp)).keep (l := [b8 g1437 g1439 a1447 a1448 a1449 a1450, b7 g1439 A1442 l1441.length n1444 t1504.2, r6 A1442 l1441.length n1444 l1441]) (rest := [])⟩

set_option maxHeartbeats 30000000 in
set_option maxRecDepth 100000 in
theorem pack_isPiece.calls (a1526 : Int) (a1527 : Int) (r : Bool) (w : World)  (HGl0 : Aside0 (Gl 0 #[.int .i64 0, .int .i64 0, .int .i64 0, .int .i64 0, .int .i64 0] (fps []) w)) (HS : Aside0 (Sep (fps []) w [] w)) (H : Aside0 (pack_isPiece.f a1526 a1527 = some r)) :
    Calls Tryd.prog 75 #[.int .i64 a1526, .int .i64 a1527] w fun e w' => e = .returned (.bool r) ∧ Sep (fps []) w [] w' := by
  unfold pack_isPiece.f at H
  go_enter Tryd.func75, Tryd.ntmps75
  by_cases c1528 : a1526 ≥ 0
  · replace H := if_yes c1528 H
    have c1528b0 : decide (0 ≤ a1526) = true := decide_eq_true c1528
    clear c1528
    by_cases c1529 : a1527 ≥ 1
    · replace H := if_yes c1529 H
      have c1529b0 : decide (1 ≤ a1527) = true := decide_eq_true c1529
      clear c1529
      by_cases c1530 : a1527 ≤ 32
      · replace H := if_yes c1530 H
        have c1530b0 : decide (a1527 ≤ 32) = true := decide_eq_true c1530
        clear c1530
        go_wp2_with fail
        go_ret
        rw [← some_eq H]
        exact ⟨(by first | rfl | (simp [IntKind.wrap_u32]; done)), HS.out⟩
      · replace H := if_no c1530 H
        have c1530b0 : decide (a1527 ≤ 32) = false := decide_eq_false c1530
        clear c1530
        go_wp2_with fail
        go_ret
        rw [← some_eq H]
        exact ⟨(by first | rfl | (simp [IntKind.wrap_u32]; done)), HS.out⟩
    · replace H := if_no c1529 H
      have c1529b0 : decide (1 ≤ a1527) = false := decide_eq_false c1529
      clear c1529
      go_wp2_with fail
      go_ret
      rw [← some_eq H]
      exact ⟨(by first | rfl | (simp [IntKind.wrap_u32]; done)), HS.out⟩
  · replace H := if_no c1528 H
    have c1528b0 : decide (0 ≤ a1526) = false := decide_eq_false c1528
    clear c1528
    go_wp2_with fail
    go_ret
    rw [← some_eq H]
    exact ⟨(by first | rfl | (simp [IntKind.wrap_u32]; done)), HS.out⟩

set_option maxHeartbeats 30000000 in
set_option maxRecDepth 100000 in
theorem pack_mask.calls (a1535 : Int) (a1536 : Int) (r : Int) (w : World)  (HGl0 : Aside0 (Gl 0 #[.int .i64 0, .int .i64 0, .int .i64 0, .int .i64 0, .int .i64 0] (fps []) w)) (HS : Aside0 (Sep (fps []) w [] w)) (H : Aside0 (pack_mask.f a1535 a1536 = some r)) :
    Calls Tryd.prog 76 #[.int .i64 a1535, .int .i64 a1536] w fun e w' => e = .returned (.int .u32 r) ∧ Sep (fps []) w [] w' := by
  unfold pack_mask.f at H
  go_enter Tryd.func76, Tryd.ntmps76
  by_cases c1537 : 0 ≤ (IntKind.u64.wrap (a1536))
  · replace H := if_yes c1537 H
    have c1537b0 : decide (0 ≤ (IntKind.u64.wrap (a1536))) = true := decide_eq_true c1537
    by_cases c1538 : 0 ≤ (IntKind.u64.wrap (a1535))
    · replace H := if_yes c1538 H
      have c1538b0 : decide (0 ≤ (IntKind.u64.wrap (a1535))) = true := decide_eq_true c1538
      skip
      skip
      go_wp2_with fail
      clear c1537 c1538
      go_ret
      rw [← some_eq H]
      exact ⟨(by first | rfl | (simp [IntKind.wrap_u32]; done)), HS.out⟩
    · replace H := if_no c1538 H
      have c1538b0 : decide (0 ≤ (IntKind.u64.wrap (a1535))) = false := decide_eq_false c1538
      exact (none_no H).elim
  · replace H := if_no c1537 H
    have c1537b0 : decide (0 ≤ (IntKind.u64.wrap (a1536))) = false := decide_eq_false c1537
    exact (none_no H).elim

set_option maxHeartbeats 30000000 in
set_option maxRecDepth 100000 in
theorem pack_Get.calls (a1523 : Int) (a1524 : Int) (a1525 : Int) (r : Int) (w : World)  (HGl0 : Aside0 (Gl 0 #[.int .i64 0, .int .i64 0, .int .i64 0, .int .i64 0, .int .i64 0] (fps []) w)) (HS : Aside0 (Sep (fps []) w [] w)) (H : Aside0 (pack_Get.f a1523 a1524 a1525 = some r)) :
    Calls Tryd.prog 20 #[.int .u32 a1523, .int .i64 a1524, .int .i64 a1525] w fun e w' => e = .returned (.int .u32 r) ∧ Sep (fps []) w [] w' := by
  unfold pack_Get.f at H
  go_enter Tryd.func20, Tryd.ntmps20
  go_wp2_with fail
  obtain ⟨t1531, HA1532, H⟩ := bind_some H
  refine (pack_isPiece.calls a1524 a1525 t1531 _ ⟨HGl0.out.pass (l := []) HS.out⟩ ⟨Sep.start _⟩ HA1532).mono ?_
  rintro e_ w1533 ⟨rfl, hS⟩
  replace HS : Aside0 (Sep (fps []) w [] w1533) := ⟨HS.out.call hS⟩
  clear hS
  by_cases c1534 : t1531 = true
  · replace H := if_yes c1534 H
    have c1534b0 : t1531 = true := c1534
    have c1534b1 : (!t1531) = false := by rw [c1534b0]; rfl
    try rw [c1534b1]
    clear c1534
    go_wp2_with fail
    obtain ⟨t1539, HA1540, H⟩ := bind_some H
    refine (pack_mask.calls a1524 a1525 t1539 _ ⟨HGl0.out.pass (l := []) HS.out⟩ ⟨Sep.start _⟩ HA1540).mono ?_
    rintro e_ w1541 ⟨rfl, hS⟩
    replace HS : Aside0 (Sep (fps []) w [] w1541) := ⟨HS.out.call hS⟩
    clear hS
    by_cases c1542 : 0 ≤ (IntKind.u64.wrap (a1524))
    · replace H := if_yes c1542 H
      have c1542b0 : decide (0 ≤ (IntKind.u64.wrap (a1524))) = true := decide_eq_true c1542
      skip
      go_wp2_with fail
      clear c1542
      go_ret
      rw [← some_eq H]
      exact ⟨(by first | rfl | (simp [IntKind.wrap_u32]; done)), HS.out⟩
    · replace H := if_no c1542 H
      have c1542b0 : decide (0 ≤ (IntKind.u64.wrap (a1524))) = false := decide_eq_false c1542
      exact (none_no H).elim
  · replace H := if_no c1534 H
    have c1534b0 : t1531 = false := by simpa using c1534
    have c1534b1 : (!t1531) = true := by rw [c1534b0]; rfl
    try rw [c1534b1]
    clear c1534
    go_wp2_with fail
    go_ret
    rw [← some_eq H]
    exact ⟨(by first | rfl | (simp [IntKind.wrap_u32]; done)), HS.out⟩
end Go.Proofs.YtobeonkddamnoaaDoor.C

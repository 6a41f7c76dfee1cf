/- Each function of the group TI does what its plain function says, and changes nothing that was there; proved by walking its code. No condition. -/
import Derived.Test.YtobeonkddamnoaaDoorQw
import Derived.Test.YtobeonkddamnoaaDoorMTI
namespace Go.Proofs.YtobeonkddamnoaaDoor.C
open Go.RowKit Go.Proofs.YtobeonkddamnoaaDoorW.PrintWords Go.Proofs.YtobeonkddamnoaaDoorW.PrintLast Go.Proofs.YtobeonkddamnoaaDoor.Q Go.Proofs.YtobeonkddamnoaaDoor.M
set_option linter.unusedVariables false
set_option linter.unusedSimpArgs false
def b1 (g : Nat) (x0 : Int) (x1 : Int) (x2 : Int) (x3 : Int) : Ob := blk g #[.int .i64 x0, .int .i64 x1, .int .i64 x2, .int .i64 x3] 30
def b2 (g : Nat) (x0 : Int) (x1 : Int) (x2 : Int) (x3 : Int) (x4 : Int) (x5 : Int) (x6 : Int) (x7 : Int) : Ob := blk g #[.int .i64 x0, .int .i64 x1, .int .i64 x2, .int .i64 x3, .int .i64 x4, .int .i64 x5, .int .i64 x6, .int .i64 x7] 97
def b3 (g : Nat) (x0 : Int) (x1 : Int) : Ob := blk g #[.int .i64 x0, .int .i64 x1] 3
def b4 (g : Nat) (x0 : Int) (x1 : Int) (x2 : Int) : Ob := blk g #[.int .i64 x0, .int .i64 x1, .int .i64 x2] 3
def r5 (A : Option Addr) (n c : Nat) (l : List Int) : Ob := row 33 (Value.int .u32) (.slice A n c) l
def b6 (g : Nat) (x0 : Option Addr) (x1 : Nat) (x2 : Nat) (x3 : Int) : Ob := blk g #[.slice x0 x1 x2, .int .u64 x3] 154
def b7 (g : Nat) (x0 : Nat) (x1 : Int) (x2 : Int) (x3 : Int) (x4 : Int) : Ob := blk g #[.pointer (some ⟨x0, 0, none⟩), .int .i64 x1, .int .i64 x2, .int .i64 x3, .int .i64 x4] 106
def b8 (g : Nat) (x0 : Int) (x1 : Int) (x2 : Int) : Ob := blk g #[.int .i64 x0, .int .i64 x1, .int .i64 x2] 166
def b9 (g : Nat) (x0 : Nat) : Ob := blk g #[.pointer (some ⟨x0, 0, none⟩)] 25
def b10 (g : Nat) (x0 : Int) : Ob := blk g #[.int .i64 x0] 3
def r11 (A : Option Addr) (n c : Nat) (l : List Int) : Ob := row 3 (Value.int .i64) (.slice A n c) l
def b12 (g : Nat) (x0 : Int) (x1 : Int) (x2 : Option Addr) (x3 : Nat) (x4 : Nat) : Ob := blk g #[.int .i64 x0, .int .i64 x1, .slice x2 x3 x4, .slice none 0 0] 180
def b13 (g : Nat) (x0 : Nat) (x1 : Int) (x2 : Int) (x3 : Int) (x4 : Int) (x5 : Int) (x6 : Int) (x7 : Int) (x8 : Int) (x9 : Int) (x10 : Int) : Ob := blk g #[.pointer (some ⟨x0, 0, none⟩), .slice none 0 0, .int .i64 x1, .int .i64 x2, .int .i64 x3, .int .i64 x4, .int .i64 x5, .int .i64 x6, .int .i64 x7, .int .i64 x8, .int .i64 x9, .slice none 0 0, .slice none 0 0, .int .i64 x10] 162
def b14 (g : Nat) (x0 : Nat) (x1 : Int) (x2 : Int) (x3 : Int) (x4 : Int) (x5 : Int) (x6 : Int) (x7 : Int) (x8 : Int) (x9 : Int) (x10 : Option Addr) (x11 : Nat) (x12 : Nat) (x13 : Int) : Ob := blk g #[.pointer (some ⟨x0, 0, none⟩), .slice none 0 0, .int .i64 x1, .int .i64 x2, .int .i64 x3, .int .i64 x4, .int .i64 x5, .int .i64 x6, .int .i64 x7, .int .i64 x8, .int .i64 x9, .slice x10 x11 x12, .slice none 0 0, .int .i64 x13] 162
def b15 (g : Nat) (x0 : Nat) (x1 : Int) (x2 : Int) (x3 : Int) (x4 : Int) (x5 : Int) (x6 : Int) (x7 : Int) (x8 : Int) (x9 : Int) (x10 : Option Addr) (x11 : Nat) (x12 : Nat) (x13 : Option Addr) (x14 : Nat) (x15 : Nat) (x16 : Int) : Ob := blk g #[.pointer (some ⟨x0, 0, none⟩), .slice none 0 0, .int .i64 x1, .int .i64 x2, .int .i64 x3, .int .i64 x4, .int .i64 x5, .int .i64 x6, .int .i64 x7, .int .i64 x8, .int .i64 x9, .slice x10 x11 x12, .slice x13 x14 x15, .int .i64 x16] 162
def b16 (g : Nat) (x0 : Int) (x1 : Int) (x2 : Int) (x3 : Int) (x4 : Int) (x5 : Int) (x6 : Int) : Ob := blk g #[.int .i64 x0, .int .i64 x1, .int .i64 x2, .int .i64 x3, .int .i64 x4, .int .i64 x5, .int .i64 x6] 32
def b17 (g : Nat) (x0 : Int) (x1 : Int) (x2 : Int) (x3 : Int) (x4 : Int) : Ob := blk g #[.int .i64 x0, .int .i64 x1, .int .i64 x2, .int .i64 x3, .int .i64 x4] 108
def b18 (g : Nat) (x0 : Int) : Ob := blk g #[.int .u32 x0] 33
def b19 (g : Nat) (x0 : Int) (x1 : Int) : Ob := blk g #[.int .u32 x0, .int .u32 x1] 33
def b20 (g : Nat) (x0 : Int) (x1 : Int) (x2 : Int) (x3 : Int) (x4 : Int) (x5 : Int) (x6 : Int) (x7 : Int) : Ob := blk g #[.int .i64 x0, .int .i64 x1, .int .i64 x2, .int .i64 x3, .int .i64 x4, .int .i64 x5, .int .i64 x6, .int .i64 x7] 3
def b21 (g : Nat) (x0 : Int) (x1 : Int) (x2 : Int) (x3 : Int) : Ob := blk g #[.int .i64 x0, .int .i64 x1, .int .i64 x2, .int .i64 x3] 3

set_option maxHeartbeats 30000000 in
set_option maxRecDepth 100000 in
theorem ratio_Clamp.calls (a50 : Int) (a51 : Int) (a52 : Int) (r : Int) (w : World)  (HGl0 : Aside0 (Gl 0 #[.int .i64 0, .int .i64 0, .int .i64 0, .int .i64 0, .int .i64 0] (fps []) w)) (HS : Aside0 (Sep (fps []) w [] w)) (H : Aside0 (ratio_Clamp.f a50 a51 a52 = some r)) :
    Calls Tryd.prog 157 #[.int .i64 a50, .int .i64 a51, .int .i64 a52] w fun e w' => e = .returned (.int .i64 r) ∧ Sep (fps []) w [] w' := by
  unfold ratio_Clamp.f at H
  go_enter Tryd.func157, Tryd.ntmps157
  by_cases c53 : a50 > a52
  · replace H := if_yes c53 H
    have c53b0 : decide (a52 < a50) = true := decide_eq_true c53
    clear c53
    go_wp2_with fail
    go_ret
    rw [← some_eq H]
    exact ⟨(by first | rfl | (simp [IntKind.wrap_u32]; done)), HS.out⟩
  · replace H := if_no c53 H
    have c53b0 : decide (a52 < a50) = false := decide_eq_false c53
    clear c53
    by_cases c54 : a50 < a51
    · replace H := if_yes c54 H
      have c54b0 : decide (a50 < a51) = true := decide_eq_true c54
      skip
      go_wp2_with fail
      clear c54
      go_ret
      rw [← some_eq H]
      exact ⟨(by first | rfl | (simp [IntKind.wrap_u32]; done)), HS.out⟩
    · replace H := if_no c54 H
      have c54b0 : decide (a50 < a51) = false := decide_eq_false c54
      skip
      go_wp2_with fail
      clear c54
      go_ret
      rw [← some_eq H]
      exact ⟨(by first | rfl | (simp [IntKind.wrap_u32]; done)), HS.out⟩

set_option maxHeartbeats 30000000 in
set_option maxRecDepth 100000 in
theorem plan_within.calls (a47 : Int) (a48 : Int) (a49 : Int) (r : Bool) (w : World)  (HGl0 : Aside0 (Gl 0 #[.int .i64 0, .int .i64 0, .int .i64 0, .int .i64 0, .int .i64 0] (fps []) w)) (HS : Aside0 (Sep (fps []) w [] w)) (H : Aside0 (plan_within.f a47 a48 a49 = some r)) :
    Calls Tryd.prog 147 #[.int .i64 a47, .int .i64 a48, .int .i64 a49] w fun e w' => e = .returned (.bool r) ∧ Sep (fps []) w [] w' := by
  unfold plan_within.f at H
  go_enter Tryd.func147, Tryd.ntmps147
  go_wp2_with fail
  obtain ⟨t55, HA56, H⟩ := bind_some H
  refine (ratio_Clamp.calls a47 a48 a49 t55 _ ⟨HGl0.out.pass (l := []) HS.out⟩ ⟨Sep.start _⟩ HA56).mono ?_
  rintro e_ w57 ⟨rfl, hS⟩
  replace HS : Aside0 (Sep (fps []) w [] w57) := ⟨HS.out.call hS⟩
  clear hS
  go_wp2_with fail
  go_ret
  rw [← some_eq H]
  exact ⟨(by first | rfl | (simp [IntKind.wrap_u32]; done)), HS.out⟩

set_option maxHeartbeats 30000000 in
set_option maxRecDepth 100000 in
theorem plan_Check.calls (a39 : Int) (a40 : Int) (a41 : Int) (a42 : Int) (r : Int) (w : World)  (HGl0 : Aside0 (Gl 0 #[.int .i64 0, .int .i64 0, .int .i64 0, .int .i64 0, .int .i64 0] (fps []) w)) (HS : Aside0 (Sep (fps []) w [] w)) (H : Aside0 (plan_Check.f a39 a40 a41 a42 = some r)) :
    Calls Tryd.prog 121 #[.agg #[.int .i64 a39, .int .i64 a40, .int .i64 a41, .int .i64 a42]] w fun e w' => e = .returned (.int .i64 r) ∧ Sep (fps []) w [] w' := by
  unfold plan_Check.f at H
  go_enter Tryd.func121, Tryd.ntmps121
  go_wp2_with (first | ((with_reducible refine gate_dst (N := 1) rfl ?_); refine box_on ?hg (N := 1) ?hd (cs := #[.int .i64 a39, .int .i64 a40, .int .i64 a41, .int .i64 a42]) (t := 30) ?hr ?_; (case hd => rfl); (case hg => rfl); (case hr => first | (go_simp; done) | (go_simp; rfl)); intro g43 hg w44 hbox hb; replace HS : Aside0 (Sep (fps []) w [b1 g43 a39 a40 a41 a42] w44) := ⟨HS.out.box hg hbox hb⟩; clear hg hbox hb; have hc46 : w44.cell? ⟨g43, 0, none⟩ = some (.int .i64 a39) := blk_cellv (HS.out.at0) 0 rfl))
  clear hc46
  obtain ⟨t58, HA59, H⟩ := bind_some H
  refine (plan_within.calls a39 1 1048576 t58 _ ⟨HGl0.out.pass (l := []) HS.out⟩ ⟨Sep.start _⟩ HA59).mono ?_
  rintro e_ w60 ⟨rfl, hS⟩
  replace HS : Aside0 (Sep (fps []) w [b1 g43 a39 a40 a41 a42] w60) := ⟨HS.out.call hS⟩
  clear hS
  by_cases c61 : t58 = true
  · replace H := if_yes c61 H
    have c61b0 : t58 = true := c61
    have c61b1 : (!t58) = false := by rw [c61b0]; rfl
    clear c61
    have hc62 : w60.cell? ⟨g43, 1, none⟩ = some (.int .i64 a40) := blk_cellv (HS.out.at0) 1 rfl
    go_wp2_with fail
    clear hc62
    obtain ⟨t63, HA64, H⟩ := bind_some H
    refine (plan_within.calls a40 16 256 t63 _ ⟨HGl0.out.pass (l := []) HS.out⟩ ⟨Sep.start _⟩ HA64).mono ?_
    rintro e_ w65 ⟨rfl, hS⟩
    replace HS : Aside0 (Sep (fps []) w [b1 g43 a39 a40 a41 a42] w65) := ⟨HS.out.call hS⟩
    clear hS
    by_cases c66 : t63 = true
    · replace H := if_yes c66 H
      have c66b0 : t63 = true := c66
      have c66b1 : (!t63) = false := by rw [c66b0]; rfl
      clear c66
      have hc67 : w65.cell? ⟨g43, 2, none⟩ = some (.int .i64 a41) := blk_cellv (HS.out.at0) 2 rfl
      go_wp2_with fail
      clear hc67
      obtain ⟨t68, HA69, H⟩ := bind_some H
      refine (plan_within.calls a41 1 4096 t68 _ ⟨HGl0.out.pass (l := []) HS.out⟩ ⟨Sep.start _⟩ HA69).mono ?_
      rintro e_ w70 ⟨rfl, hS⟩
      replace HS : Aside0 (Sep (fps []) w [b1 g43 a39 a40 a41 a42] w70) := ⟨HS.out.call hS⟩
      clear hS
      by_cases c71 : t68 = true
      · replace H := if_yes c71 H
        have c71b0 : t68 = true := c71
        have c71b1 : (!t68) = false := by rw [c71b0]; rfl
        clear c71
        have hc72 : w70.cell? ⟨g43, 3, none⟩ = some (.int .i64 a42) := blk_cellv (HS.out.at0) 3 rfl
        go_wp2_with fail
        clear hc72
        obtain ⟨t73, HA74, H⟩ := bind_some H
        refine (plan_within.calls a42 1 65536 t73 _ ⟨HGl0.out.pass (l := []) HS.out⟩ ⟨Sep.start _⟩ HA74).mono ?_
        rintro e_ w75 ⟨rfl, hS⟩
        replace HS : Aside0 (Sep (fps []) w [b1 g43 a39 a40 a41 a42] w75) := ⟨HS.out.call hS⟩
        clear hS
        by_cases c76 : t73 = true
        · replace H := if_yes c76 H
          have c76b0 : t73 = true := c76
          have c76b1 : (!t73) = false := by rw [c76b0]; rfl
          clear c76
          by_cases c79 : (wrap64 (a39 * a40)) ≤ 4194304
          · replace H := if_yes c79 H
            have c79b0 : decide ((wrap64 (a39 * a40)) ≤ 4194304) = true := decide_eq_true c79
            clear c79
            have hc77 : w75.cell? ⟨g43, 0, none⟩ = some (.int .i64 a39) := blk_cellv (HS.out.at0) 0 rfl
            have hc78 : w75.cell? ⟨g43, 1, none⟩ = some (.int .i64 a40) := blk_cellv (HS.out.at0) 1 rfl
            replace HS : Aside0 (Sep (fps []) w [] w75) := ⟨HS.out.sub (.cons _ .slnil)⟩
            go_wp2_with fail
            clear hc77 hc78
            go_ret
            rw [← some_eq H]
            exact ⟨(by first | rfl | (simp [IntKind.wrap_u32]; done)), HS.out⟩
          · replace H := if_no c79 H
            have c79b0 : decide ((wrap64 (a39 * a40)) ≤ 4194304) = false := decide_eq_false c79
            clear c79
            have hc77 : w75.cell? ⟨g43, 0, none⟩ = some (.int .i64 a39) := blk_cellv (HS.out.at0) 0 rfl
            have hc78 : w75.cell? ⟨g43, 1, none⟩ = some (.int .i64 a40) := blk_cellv (HS.out.at0) 1 rfl
            replace HS : Aside0 (Sep (fps []) w [] w75) := ⟨HS.out.sub (.cons _ .slnil)⟩
            go_wp2_with fail
            clear hc77 hc78
            go_ret
            rw [← some_eq H]
            exact ⟨(by first | rfl | (simp [IntKind.wrap_u32]; done)), HS.out⟩
        · replace H := if_no c76 H
          have c76b0 : t73 = false := by simpa using c76
          have c76b1 : (!t73) = true := by rw [c76b0]; rfl
          clear c76
          replace HS : Aside0 (Sep (fps []) w [] w75) := ⟨HS.out.sub (.cons _ .slnil)⟩
          go_wp2_with fail
          go_ret
          rw [← some_eq H]
          exact ⟨(by first | rfl | (simp [IntKind.wrap_u32]; done)), HS.out⟩
      · replace H := if_no c71 H
        have c71b0 : t68 = false := by simpa using c71
        have c71b1 : (!t68) = true := by rw [c71b0]; rfl
        clear c71
        replace HS : Aside0 (Sep (fps []) w [] w70) := ⟨HS.out.sub (.cons _ .slnil)⟩
        go_wp2_with fail
        go_ret
        rw [← some_eq H]
        exact ⟨(by first | rfl | (simp [IntKind.wrap_u32]; done)), HS.out⟩
    · replace H := if_no c66 H
      have c66b0 : t63 = false := by simpa using c66
      have c66b1 : (!t63) = true := by rw [c66b0]; rfl
      clear c66
      replace HS : Aside0 (Sep (fps []) w [] w65) := ⟨HS.out.sub (.cons _ .slnil)⟩
      go_wp2_with fail
      go_ret
      rw [← some_eq H]
      exact ⟨(by first | rfl | (simp [IntKind.wrap_u32]; done)), HS.out⟩
  · replace H := if_no c61 H
    have c61b0 : t58 = false := by simpa using c61
    have c61b1 : (!t58) = true := by rw [c61b0]; rfl
    clear c61
    replace HS : Aside0 (Sep (fps []) w [] w60) := ⟨HS.out.sub (.cons _ .slnil)⟩
    go_wp2_with fail
    go_ret
    rw [← some_eq H]
    exact ⟨(by first | rfl | (simp [IntKind.wrap_u32]; done)), HS.out⟩

set_option maxHeartbeats 30000000 in
set_option maxRecDepth 100000 in
theorem ratio_counts.calls (a112 : Int) (r : Int) (w : World)  (HGl0 : Aside0 (Gl 0 #[.int .i64 0, .int .i64 0, .int .i64 0, .int .i64 0, .int .i64 0] (fps []) w)) (HS : Aside0 (Sep (fps []) w [] w)) (H : Aside0 (ratio_counts.f a112 = some r)) :
    Calls Tryd.prog 148 #[.int .i64 a112] w fun e w' => e = .returned (.int .i64 r) ∧ Sep (fps []) w [] w' := by
  unfold ratio_counts.f at H
  go_enter Tryd.func148, Tryd.ntmps148
  go_wp2_with fail
  obtain ⟨t113, HA114, H⟩ := bind_some H
  refine (ratio_Clamp.calls a112 0 1125899906842624 t113 _ ⟨HGl0.out.pass (l := []) HS.out⟩ ⟨Sep.start _⟩ HA114).mono ?_
  rintro e_ w115 ⟨rfl, hS⟩
  replace HS : Aside0 (Sep (fps []) w [] w115) := ⟨HS.out.call hS⟩
  clear hS
  go_wp2_with fail
  go_ret
  rw [← some_eq H]
  exact ⟨(by first | rfl | (simp [IntKind.wrap_u32]; done)), HS.out⟩

set_option maxHeartbeats 30000000 in
set_option maxRecDepth 100000 in
theorem ratio_zero.calls (a111 : Int) (r : Bool) (w : World)  (HGl0 : Aside0 (Gl 0 #[.int .i64 0, .int .i64 0, .int .i64 0, .int .i64 0, .int .i64 0] (fps []) w)) (HS : Aside0 (Sep (fps []) w [] w)) (H : Aside0 (ratio_zero.f a111 = some r)) :
    Calls Tryd.prog 150 #[.int .i64 a111] w fun e w' => e = .returned (.bool r) ∧ Sep (fps []) w [] w' := by
  unfold ratio_zero.f at H
  go_enter Tryd.func150, Tryd.ntmps150
  go_wp2_with fail
  obtain ⟨t116, HA117, H⟩ := bind_some H
  refine (ratio_counts.calls a111 t116 _ ⟨HGl0.out.pass (l := []) HS.out⟩ ⟨Sep.start _⟩ HA117).mono ?_
  rintro e_ w118 ⟨rfl, hS⟩
  replace HS : Aside0 (Sep (fps []) w [] w118) := ⟨HS.out.call hS⟩
  clear hS
  go_wp2_with fail
  go_ret
  rw [← some_eq H]
  exact ⟨(by first | rfl | (simp [IntKind.wrap_u32]; done)), HS.out⟩

set_option maxHeartbeats 30000000 in
set_option maxRecDepth 100000 in
theorem slices_IndexFunc_int_int_F150.calls (k : Nat) (l97 : List Int) (A98 : Option Addr) (n99 : Nat) (r : Int) (w : World) (HR100 : Aside0 (Rd (Kd.int .i64) (fps []) w A98 l97.length l97)) (HGl0 : Aside0 (Gl 0 #[.int .i64 0, .int .i64 0, .int .i64 0, .int .i64 0, .int .i64 0] (fps []) w)) (HS : Aside0 (Sep (fps []) w [] w)) (H : Aside0 (slices_IndexFunc_int_int_F150.f k l97 = some r)) :
    Calls Tryd.prog 158 #[.slice A98 l97.length n99, .func (.func 150) #[] #[]] w fun e w' => e = .returned (.int .i64 r) ∧ Sep (fps []) w [] w' := by
  unfold slices_IndexFunc_int_int_F150.f at H
  go_enter Tryd.func158, Tryd.ntmps158
  go_wp2_with fail
  obtain ⟨o123, AL124, H⟩ := bind_some H
  go_loopg [8] k (fun kq v8 wc => ∃ (x127 : Int), v8 = .int .i64 x127 ∧ Aside0 (slices_IndexFunc_int_int_F150.lo0 kq l97 x127 = some o123) ∧ Aside0 (Sep (fps []) w [] wc))
  case atStart => exact ⟨(0), (by first | rfl | (simp [IntKind.wrap_u32]; done)), AL124, ⟨HS.out⟩⟩
  case round =>
    clear AL124 HS
    obtain ⟨x127, rfl, AL124, HS⟩ := hrel
    obtain ⟨w125, rfl⟩ : ∃ x : World, x = wr := ⟨_, rfl⟩
    cases gk with
    | zero => exact absurd AL124.out (by simp [slices_IndexFunc_int_int_F150.lo0])
    | succ k126 =>
      have AL0 := AL124.out
      rw [slices_IndexFunc_int_int_F150.lo0] at AL0
      clear AL124
      have AL124 := Aside0.mk AL0
      clear AL0
      by_cases c128 : x127 < (l97.length : Int)
      · replace AL124 := if_yes c128 AL124
        have c128b0 : decide (x127 < (l97.length : Int)) = true := decide_eq_true c128
        clear c128
        by_cases c129 : 0 ≤ x127
        · replace AL124 := if_yes c129 AL124
          have c129b0 : decide (0 ≤ x127) = true := decide_eq_true c129
          have c129p : (0 ≤ x127) = True := eq_true c129
          clear c129
          have ip130 : (x127 < (l97.length : Int)) = True := eq_true (of_decide_eq_true c128b0)
          obtain ⟨hx131a, hx131e, hx131⟩ := Kd.at_int (Rd.read (fun _ _ _ _ h => h) HR100.out HS.out.fr) x127 (of_decide_eq_true c129b0) (of_decide_eq_true c128b0); cases hx131e
          go_wp2_with fail
          clear hx131
          obtain ⟨t119, HA132, AL124⟩ := bind_some AL124
          refine (ratio_zero.calls (rd l97 x127) t119 _ ⟨HGl0.out.pass (l := []) HS.out⟩ ⟨Sep.start _⟩ HA132).mono ?_
          rintro e_ w133 ⟨rfl, hS⟩
          replace HS : Aside0 (Sep (fps []) w [] w133) := ⟨HS.out.call hS⟩
          clear hS
          by_cases c134 : t119 = true
          · replace AL124 := if_yes c134 AL124
            have c134b0 : t119 = true := c134
            have c134b1 : (!t119) = false := by rw [c134b0]; rfl
            clear c134
            go_wp2_with fail
            have ho := some_eq AL124
            subst ho
            have H := lp_ret H
            go_ret
            rw [← some_eq H]
            exact ⟨(by first | rfl | (simp [IntKind.wrap_u32]; done)), HS.out⟩
          · replace AL124 := if_no c134 AL124
            have c134b0 : t119 = false := by simpa using c134
            have c134b1 : (!t119) = true := by rw [c134b0]; rfl
            clear c134
            go_wp2_with fail
            go_roundg k126
            case measure => exact Nat.lt_succ_self _
            case rel => exact ⟨(wrap64 (x127 + 1)), (by first | rfl | (simp [IntKind.wrap_u32]; done)), Aside0.mk AL124.out, ⟨HS.out⟩⟩
        · replace AL124 := if_no c129 AL124
          have c129b0 : decide (0 ≤ x127) = false := decide_eq_false c129
          clear c129
          exact (none_no AL124).elim
      · replace AL124 := if_no c128 AL124
        have c128b0 : decide (x127 < (l97.length : Int)) = false := decide_eq_false c128
        clear c128
        have ho := some_eq AL124
        subst ho
        clear AL124
        have H := lp_out H
        go_wp2_with fail
        go_ret
        rw [← some_eq H]
        exact ⟨(by first | rfl | (simp [IntKind.wrap_u32]; done)), HS.out⟩

set_option maxHeartbeats 30000000 in
set_option maxRecDepth 100000 in
theorem slices_ContainsFunc_int_int_F150.calls (k : Nat) (l93 : List Int) (A94 : Option Addr) (n95 : Nat) (r : Bool) (w : World) (HR96 : Aside0 (Rd (Kd.int .i64) (fps []) w A94 l93.length l93)) (HGl0 : Aside0 (Gl 0 #[.int .i64 0, .int .i64 0, .int .i64 0, .int .i64 0, .int .i64 0] (fps []) w)) (HS : Aside0 (Sep (fps []) w [] w)) (H : Aside0 (slices_ContainsFunc_int_int_F150.f k l93 = some r)) :
    Calls Tryd.prog 149 #[.slice A94 l93.length n95, .func (.func 150) #[] #[]] w fun e w' => e = .returned (.bool r) ∧ Sep (fps []) w [] w' := by
  unfold slices_ContainsFunc_int_int_F150.f at H
  go_enter Tryd.func149, Tryd.ntmps149
  go_wp2_with fail
  obtain ⟨t136, HA137, H⟩ := bind_some H
  refine (slices_IndexFunc_int_int_F150.calls _ l93 A94 n95 t136 _ ⟨Rd.pass (l := []) (by decide) (fun _ _ _ _ h => h) HR96.out HS.out⟩ ⟨HGl0.out.pass (l := []) HS.out⟩ ⟨Sep.start _⟩ HA137).mono ?_
  rintro e_ w138 ⟨rfl, hS⟩
  replace HS : Aside0 (Sep (fps []) w [] w138) := ⟨HS.out.call hS⟩
  clear hS
  go_wp2_with fail
  go_ret
  rw [← some_eq H]
  exact ⟨(by first | rfl | (simp [IntKind.wrap_u32]; done)), HS.out⟩

set_option maxHeartbeats 30000000 in
set_option maxRecDepth 100000 in
theorem ratio_Mul.calls (k : Nat) (l89 : List Int) (A90 : Option Addr) (n91 : Nat) (r : Int) (w : World) (HR92 : Aside0 (Rd (Kd.int .i64) (fps []) w A90 l89.length l89)) (HGl0 : Aside0 (Gl 0 #[.int .i64 0, .int .i64 0, .int .i64 0, .int .i64 0, .int .i64 0] (fps []) w)) (HS : Aside0 (Sep (fps []) w [] w)) (H : Aside0 (ratio_Mul.f k l89 = some r)) :
    Calls Tryd.prog 123 #[.slice A90 l89.length n91] w fun e w' => e = .returned (.int .i64 r) ∧ Sep (fps []) w [] w' := by
  unfold ratio_Mul.f at H
  go_enter Tryd.func123, Tryd.ntmps123
  go_wp2_with fail
  obtain ⟨t139, HA140, H⟩ := bind_some H
  refine (slices_ContainsFunc_int_int_F150.calls _ l89 A90 n91 t139 _ ⟨Rd.pass (l := []) (by decide) (fun _ _ _ _ h => h) HR92.out HS.out⟩ ⟨HGl0.out.pass (l := []) HS.out⟩ ⟨Sep.start _⟩ HA140).mono ?_
  rintro e_ w141 ⟨rfl, hS⟩
  replace HS : Aside0 (Sep (fps []) w [] w141) := ⟨HS.out.call hS⟩
  clear hS
  by_cases c142 : t139 = true
  · replace H := if_yes c142 H
    have c142b0 : t139 = true := c142
    have c142b1 : (!t139) = false := by rw [c142b0]; rfl
    clear c142
    go_wp2_with fail
    go_ret
    rw [← some_eq H]
    exact ⟨(by first | rfl | (simp [IntKind.wrap_u32]; done)), HS.out⟩
  · replace H := if_no c142 H
    have c142b0 : t139 = false := by simpa using c142
    have c142b1 : (!t139) = true := by rw [c142b0]; rfl
    clear c142
    go_wp2_with fail
    obtain ⟨o144, AL145, H⟩ := bind_some H
    go_loopg [3, 11] k (fun kq v3 v11 wc => ∃ (x148 : Int) (x149 : Int), v3 = .int .i64 x148 ∧ v11 = .int .i64 x149 ∧ Aside0 (ratio_Mul.lo0 kq l89 x148 x149 = some o144) ∧ Aside0 (Sep (fps []) w [] wc))
    case atStart => exact ⟨(1), (0), (by first | rfl | (simp [IntKind.wrap_u32]; done)), (by first | rfl | (simp [IntKind.wrap_u32]; done)), AL145, ⟨HS.out⟩⟩
    case round =>
      clear AL145 HS
      obtain ⟨x148, x149, rfl, rfl, AL145, HS⟩ := hrel
      obtain ⟨w146, rfl⟩ : ∃ x : World, x = wr := ⟨_, rfl⟩
      cases gk with
      | zero => exact absurd AL145.out (by simp [ratio_Mul.lo0])
      | succ k147 =>
        have AL0 := AL145.out
        rw [ratio_Mul.lo0] at AL0
        clear AL145
        have AL145 := Aside0.mk AL0
        clear AL0
        by_cases c150 : x149 < (l89.length : Int)
        · replace AL145 := if_yes c150 AL145
          have c150b0 : decide (x149 < (l89.length : Int)) = true := decide_eq_true c150
          clear c150
          by_cases c151 : 0 ≤ x149
          · replace AL145 := if_yes c151 AL145
            have c151b0 : decide (0 ≤ x149) = true := decide_eq_true c151
            have c151p : (0 ≤ x149) = True := eq_true c151
            clear c151
            have ip152 : (x149 < (l89.length : Int)) = True := eq_true (of_decide_eq_true c150b0)
            obtain ⟨hx153a, hx153e, hx153⟩ := Kd.at_int (Rd.read (fun _ _ _ _ h => h) HR92.out HS.out.fr) x149 (of_decide_eq_true c151b0) (of_decide_eq_true c150b0); cases hx153e
            go_wp2_with fail
            clear hx153
            obtain ⟨t154, HA155, AL145⟩ := bind_some AL145
            refine (ratio_counts.calls (rd l89 x149) t154 _ ⟨HGl0.out.pass (l := []) HS.out⟩ ⟨Sep.start _⟩ HA155).mono ?_
            rintro e_ w156 ⟨rfl, hS⟩
            replace HS : Aside0 (Sep (fps []) w [] w156) := ⟨HS.out.call hS⟩
            clear hS
            by_cases c157 : t154 = 0
            · replace AL145 := if_yes c157 AL145
              have c157b0 : (t154 == 0) = true := beq_iff_eq.mpr c157
              have c157b1 : (t154 != 0) = false := bne_eq_false_iff_eq.mpr c157
              exact (none_no AL145).elim
            · replace AL145 := if_no c157 AL145
              have c157b0 : (t154 == 0) = false := beq_eq_false_iff_ne.mpr c157
              have c157b1 : (t154 != 0) = true := bne_iff_ne.mpr c157
              by_cases c158 : x148 ≤ (wrap64 (Int.tdiv (1125899906842624 : Int) t154))
              · replace AL145 := if_yes c158 AL145
                have c158b0 : decide (x148 ≤ (wrap64 (Int.tdiv (1125899906842624 : Int) t154))) = true := decide_eq_true c158
                clear c158
                skip
                go_wp2_with fail
                clear c157
                go_roundg k147
                case measure => exact Nat.lt_succ_self _
                case rel => exact ⟨(wrap64 (x148 * t154)), (wrap64 (x149 + 1)), (by first | rfl | (simp [IntKind.wrap_u32]; done)), (by first | rfl | (simp [IntKind.wrap_u32]; done)), Aside0.mk AL145.out, ⟨HS.out⟩⟩
              · replace AL145 := if_no c158 AL145
                have c158b0 : decide (x148 ≤ (wrap64 (Int.tdiv (1125899906842624 : Int) t154))) = false := decide_eq_false c158
                clear c158
                skip
                go_wp2_with fail
                clear c157
                go_roundg k147
                case measure => exact Nat.lt_succ_self _
                case rel => exact ⟨(1125899906842624), (wrap64 (x149 + 1)), (by first | rfl | (simp [IntKind.wrap_u32]; done)), (by first | rfl | (simp [IntKind.wrap_u32]; done)), Aside0.mk AL145.out, ⟨HS.out⟩⟩
          · replace AL145 := if_no c151 AL145
            have c151b0 : decide (0 ≤ x149) = false := decide_eq_false c151
            clear c151
            exact (none_no AL145).elim
        · replace AL145 := if_no c150 AL145
          have c150b0 : decide (x149 < (l89.length : Int)) = false := decide_eq_false c150
          clear c150
          have ho := some_eq AL145
          subst ho
          clear AL145
          go_wp2_with fail
          go_ret
          rw [← some_eq H]
          exact ⟨(by first | rfl | (simp [IntKind.wrap_u32]; done)), HS.out⟩

set_option maxHeartbeats 30000000 in
set_option maxRecDepth 100000 in
theorem ratio_Add.calls (k : Nat) (l166 : List Int) (A167 : Option Addr) (n168 : Nat) (r : Int) (w : World) (HR169 : Aside0 (Rd (Kd.int .i64) (fps []) w A167 l166.length l166)) (HGl0 : Aside0 (Gl 0 #[.int .i64 0, .int .i64 0, .int .i64 0, .int .i64 0, .int .i64 0] (fps []) w)) (HS : Aside0 (Sep (fps []) w [] w)) (H : Aside0 (ratio_Add.f k l166 = some r)) :
    Calls Tryd.prog 122 #[.slice A167 l166.length n168] w fun e w' => e = .returned (.int .i64 r) ∧ Sep (fps []) w [] w' := by
  unfold ratio_Add.f at H
  go_enter Tryd.func122, Tryd.ntmps122
  go_wp2_with fail
  obtain ⟨o171, AL172, H⟩ := bind_some H
  go_loopg [3, 8] k (fun kq v3 v8 wc => ∃ (x175 : Int) (x176 : Int), v3 = .int .i64 x175 ∧ v8 = .int .i64 x176 ∧ Aside0 (ratio_Add.lo0 kq l166 x175 x176 = some o171) ∧ Aside0 (Sep (fps []) w [] wc))
  case atStart => exact ⟨(0), (0), (by first | rfl | (simp [IntKind.wrap_u32]; done)), (by first | rfl | (simp [IntKind.wrap_u32]; done)), AL172, ⟨HS.out⟩⟩
  case round =>
    clear AL172 HS
    obtain ⟨x175, x176, rfl, rfl, AL172, HS⟩ := hrel
    obtain ⟨w173, rfl⟩ : ∃ x : World, x = wr := ⟨_, rfl⟩
    cases gk with
    | zero => exact absurd AL172.out (by simp [ratio_Add.lo0])
    | succ k174 =>
      have AL0 := AL172.out
      rw [ratio_Add.lo0] at AL0
      clear AL172
      have AL172 := Aside0.mk AL0
      clear AL0
      by_cases c177 : x176 < (l166.length : Int)
      · replace AL172 := if_yes c177 AL172
        have c177b0 : decide (x176 < (l166.length : Int)) = true := decide_eq_true c177
        clear c177
        by_cases c178 : 0 ≤ x176
        · replace AL172 := if_yes c178 AL172
          have c178b0 : decide (0 ≤ x176) = true := decide_eq_true c178
          have c178p : (0 ≤ x176) = True := eq_true c178
          clear c178
          have ip179 : (x176 < (l166.length : Int)) = True := eq_true (of_decide_eq_true c177b0)
          obtain ⟨hx180a, hx180e, hx180⟩ := Kd.at_int (Rd.read (fun _ _ _ _ h => h) HR169.out HS.out.fr) x176 (of_decide_eq_true c178b0) (of_decide_eq_true c177b0); cases hx180e
          go_wp2_with fail
          clear hx180
          obtain ⟨t181, HA182, AL172⟩ := bind_some AL172
          refine (ratio_counts.calls (rd l166 x176) t181 _ ⟨HGl0.out.pass (l := []) HS.out⟩ ⟨Sep.start _⟩ HA182).mono ?_
          rintro e_ w183 ⟨rfl, hS⟩
          replace HS : Aside0 (Sep (fps []) w [] w183) := ⟨HS.out.call hS⟩
          clear hS
          by_cases c184 : 1125899906842624 < (wrap64 (x175 + t181))
          · replace AL172 := if_yes c184 AL172
            have c184b0 : decide (1125899906842624 < (wrap64 (x175 + t181))) = true := decide_eq_true c184
            skip
            go_wp2_with fail
            clear c184
            go_roundg k174
            case measure => exact Nat.lt_succ_self _
            case rel => exact ⟨(1125899906842624), (wrap64 (x176 + 1)), (by first | rfl | (simp [IntKind.wrap_u32]; done)), (by first | rfl | (simp [IntKind.wrap_u32]; done)), Aside0.mk AL172.out, ⟨HS.out⟩⟩
          · replace AL172 := if_no c184 AL172
            have c184b0 : decide (1125899906842624 < (wrap64 (x175 + t181))) = false := decide_eq_false c184
            skip
            go_wp2_with fail
            clear c184
            go_roundg k174
            case measure => exact Nat.lt_succ_self _
            case rel => exact ⟨(wrap64 (x175 + t181)), (wrap64 (x176 + 1)), (by first | rfl | (simp [IntKind.wrap_u32]; done)), (by first | rfl | (simp [IntKind.wrap_u32]; done)), Aside0.mk AL172.out, ⟨HS.out⟩⟩
        · replace AL172 := if_no c178 AL172
          have c178b0 : decide (0 ≤ x176) = false := decide_eq_false c178
          clear c178
          exact (none_no AL172).elim
      · replace AL172 := if_no c177 AL172
        have c177b0 : decide (x176 < (l166.length : Int)) = false := decide_eq_false c177
        clear c177
        have ho := some_eq AL172
        subst ho
        clear AL172
        go_wp2_with fail
        go_ret
        rw [← some_eq H]
        exact ⟨(by first | rfl | (simp [IntKind.wrap_u32]; done)), HS.out⟩

set_option maxHeartbeats 30000000 in
set_option maxRecDepth 100000 in
theorem ratio_by.calls (a395 : Int) (r : Int) (w : World)  (HGl0 : Aside0 (Gl 0 #[.int .i64 0, .int .i64 0, .int .i64 0, .int .i64 0, .int .i64 0] (fps []) w)) (HS : Aside0 (Sep (fps []) w [] w)) (H : Aside0 (ratio_by.f a395 = some r)) :
    Calls Tryd.prog 151 #[.int .i64 a395] w fun e w' => e = .returned (.int .i64 r) ∧ Sep (fps []) w [] w' := by
  unfold ratio_by.f at H
  go_enter Tryd.func151, Tryd.ntmps151
  go_wp2_with fail
  obtain ⟨t396, HA397, H⟩ := bind_some H
  refine (ratio_counts.calls a395 t396 _ ⟨HGl0.out.pass (l := []) HS.out⟩ ⟨Sep.start _⟩ HA397).mono ?_
  rintro e_ w398 ⟨rfl, hS⟩
  replace HS : Aside0 (Sep (fps []) w [] w398) := ⟨HS.out.call hS⟩
  clear hS
  by_cases c399 : t396 < 1
  · replace H := if_yes c399 H
    have c399b0 : decide (t396 < 1) = true := decide_eq_true c399
    skip
    go_wp2_with fail
    clear c399
    go_ret
    rw [← some_eq H]
    exact ⟨(by first | rfl | (simp [IntKind.wrap_u32]; done)), HS.out⟩
  · replace H := if_no c399 H
    have c399b0 : decide (t396 < 1) = false := decide_eq_false c399
    skip
    go_wp2_with fail
    clear c399
    go_ret
    rw [← some_eq H]
    exact ⟨(by first | rfl | (simp [IntKind.wrap_u32]; done)), HS.out⟩

set_option maxHeartbeats 30000000 in
set_option maxRecDepth 100000 in
theorem ratio_Up.calls (a390 : Int) (a391 : Int) (r : Int) (w : World)  (HGl0 : Aside0 (Gl 0 #[.int .i64 0, .int .i64 0, .int .i64 0, .int .i64 0, .int .i64 0] (fps []) w)) (HS : Aside0 (Sep (fps []) w [] w)) (H : Aside0 (ratio_Up.f a390 a391 = some r)) :
    Calls Tryd.prog 124 #[.int .i64 a390, .int .i64 a391] w fun e w' => e = .returned (.int .i64 r) ∧ Sep (fps []) w [] w' := by
  unfold ratio_Up.f at H
  go_enter Tryd.func124, Tryd.ntmps124
  go_wp2_with fail
  obtain ⟨t392, HA393, H⟩ := bind_some H
  refine (ratio_counts.calls a390 t392 _ ⟨HGl0.out.pass (l := []) HS.out⟩ ⟨Sep.start _⟩ HA393).mono ?_
  rintro e_ w394 ⟨rfl, hS⟩
  replace HS : Aside0 (Sep (fps []) w [] w394) := ⟨HS.out.call hS⟩
  clear hS
  go_wp2_with fail
  obtain ⟨t400, HA401, H⟩ := bind_some H
  refine (ratio_by.calls a391 t400 _ ⟨HGl0.out.pass (l := []) HS.out⟩ ⟨Sep.start _⟩ HA401).mono ?_
  rintro e_ w402 ⟨rfl, hS⟩
  replace HS : Aside0 (Sep (fps []) w [] w402) := ⟨HS.out.call hS⟩
  clear hS
  go_wp2_with fail
  obtain ⟨t403, HA404, H⟩ := bind_some H
  refine (ratio_by.calls a391 t403 _ ⟨HGl0.out.pass (l := []) HS.out⟩ ⟨Sep.start _⟩ HA404).mono ?_
  rintro e_ w405 ⟨rfl, hS⟩
  replace HS : Aside0 (Sep (fps []) w [] w405) := ⟨HS.out.call hS⟩
  clear hS
  by_cases c406 : t403 = 0
  · replace H := if_yes c406 H
    have c406b0 : (t403 == 0) = true := beq_iff_eq.mpr c406
    have c406b1 : (t403 != 0) = false := bne_eq_false_iff_eq.mpr c406
    exact (none_no H).elim
  · replace H := if_no c406 H
    have c406b0 : (t403 == 0) = false := beq_eq_false_iff_ne.mpr c406
    have c406b1 : (t403 != 0) = true := bne_iff_ne.mpr c406
    skip
    go_wp2_with fail
    clear c406
    go_ret
    rw [← some_eq H]
    exact ⟨(by first | rfl | (simp [IntKind.wrap_u32]; done)), HS.out⟩

set_option maxHeartbeats 30000000 in
set_option maxRecDepth 100000 in
theorem plan_Of.calls (k : Nat) (a25 : Int) (a26 : Int) (a27 : Int) (a28 : Int) (r : Int × Int × Int × Int × Int × Int × Int × Int × Int) (w : World)  (HGl0 : Aside0 (Gl 0 #[.int .i64 0, .int .i64 0, .int .i64 0, .int .i64 0, .int .i64 0] (fps []) w)) (HS : Aside0 (Sep (fps []) w [] w)) (H : Aside0 (plan_Of.f k a25 a26 a27 a28 = some r)) :
    Calls Tryd.prog 65 #[.agg #[.int .i64 a25, .int .i64 a26, .int .i64 a27, .int .i64 a28]] w fun e w' => e = .returned (.tuple #[.agg #[.int .i64 r.1, .int .i64 r.2.1, .int .i64 r.2.2.1, .int .i64 r.2.2.2.1, .int .i64 r.2.2.2.2.1, .int .i64 r.2.2.2.2.2.1, .int .i64 r.2.2.2.2.2.2.1, .int .i64 r.2.2.2.2.2.2.2.1], .int .i64 r.2.2.2.2.2.2.2.2]) ∧ Sep (fps []) w [] w' := by
  unfold plan_Of.f at H
  go_enter Tryd.func65, Tryd.ntmps65
  go_wp2_with (first | ((with_reducible refine gate_dst (N := 1) rfl ?_); refine box_on ?hg (N := 1) ?hd (cs := #[.int .i64 a25, .int .i64 a26, .int .i64 a27, .int .i64 a28]) (t := 30) ?hr ?_; (case hd => rfl); (case hg => rfl); (case hr => first | (go_simp; done) | (go_simp; rfl)); intro g29 hg w30 hbox hb; replace HS : Aside0 (Sep (fps []) w [b1 g29 a25 a26 a27 a28] w30) := ⟨HS.out.box hg hbox hb⟩; clear hg hbox hb) | ((with_reducible refine gate_dst (N := 2) rfl ?_); refine box_on ?hg (N := 2) ?hd (cs := #[.int .i64 0, .int .i64 0, .int .i64 0, .int .i64 0, .int .i64 0, .int .i64 0, .int .i64 0, .int .i64 0]) (t := 97) ?hr ?_; (case hd => rfl); (case hg => rfl); (case hr => first | (go_simp; done) | (go_simp; rfl)); intro g32 hg w33 hbox hb; replace HS : Aside0 (Sep (fps []) w [b1 g29 a25 a26 a27 a28, b2 g32 0 0 0 0 0 0 0 0] w33) := ⟨HS.out.box hg hbox hb⟩; clear hg hbox hb; have hc35 : w33.cell? ⟨g29, 0, none⟩ = some (.int .i64 a25) := blk_cellv (HS.out.at0) 0 rfl; have hc36 : w33.cell? ⟨g29, 1, none⟩ = some (.int .i64 a26) := blk_cellv (HS.out.at0) 1 rfl; have hc37 : w33.cell? ⟨g29, 2, none⟩ = some (.int .i64 a27) := blk_cellv (HS.out.at0) 2 rfl; have hc38 : w33.cell? ⟨g29, 3, none⟩ = some (.int .i64 a28) := blk_cellv (HS.out.at0) 3 rfl))
  clear hc35 hc36 hc37 hc38
  obtain ⟨t80, HA81, H⟩ := bind_some H
  refine (plan_Check.calls a25 a26 a27 a28 t80 _ ⟨HGl0.out.pass (l := []) HS.out⟩ ⟨Sep.start _⟩ HA81).mono ?_
  rintro e_ w82 ⟨rfl, hS⟩
  replace HS : Aside0 (Sep (fps []) w [b1 g29 a25 a26 a27 a28, b2 g32 0 0 0 0 0 0 0 0] w82) := ⟨HS.out.call hS⟩
  clear hS
  by_cases c83 : t80 = 0
  · replace H := if_yes c83 H
    have c83b0 : (t80 == 0) = true := beq_iff_eq.mpr c83
    have c83b1 : (t80 != 0) = false := bne_eq_false_iff_eq.mpr c83
    clear c83
    go_wp2_with fail
    obtain ⟨t160, HA161, H⟩ := bind_some H
    obtain ⟨t186, HA187, H⟩ := bind_some H
    go_cut [5] (fun v5 wc => ∃ (g86 : Nat) (g163 : Nat) (g189 : Nat), v5 = .pointer (some ⟨g189, 0, none⟩) ∧ Aside0 (Sep (fps []) w [b1 g29 a25 a26 a27 a28, b2 g32 0 0 0 0 0 0 0 0, b3 g86 a25 a26, b4 g163 24 a27 t160, b2 g189 t186 (wrap64 (a26 - 8)) 0 0 0 0 0 0] wc))
    case first =>
      go_wp2_with fail
      refine start_ (n := 16) (S := (fun w' => w'.cell? ⟨g29, 2, none⟩ = some (.int .i64 a27) ∧ w'.cell? ⟨g29, 0, none⟩ = some (.int .i64 a25) ∧ w'.cell? ⟨g29, 1, none⟩ = some (.int .i64 a26))) (ds := []) #[false, false, false, false, false, false, false, false, false, false, false, false, false, false, false, false] (by kernel_rfl) rfl rfl (⟨blk_cellv ((HS.out.drew).at0) 2 rfl, blk_cellv ((HS.out.drew).at0) 0 rfl, blk_cellv ((HS.out.drew).at0) 1 rfl⟩) (fun hHeld => ?_)
      have HS_ := Aside0.mk HS.out.drew
      clear HS
      generalize World.drew _ = w211 at HS_ hHeld ⊢
      have HS := HS_
      clear HS_
      refine pure_ (i := 0) (N := some 12) (v := ?_) (a' := ?_) #[true, false, false, false, false, false, false, false, false, false, false, false, false, false, false, false] rfl rfl (by kernel_rfl) (fun _ _ _ h => h) (Or.inl ⟨by rfl, ?_⟩) ?_ ?_
      rotate_left
      · intro w'
        go_simp
        with_reducible rfl
      rotate_left
      · simp only [Act.put, List.setIfInBounds_toArray, List.set_cons_zero, List.set_cons_succ, i64_w, i32_w]
        rfl
      refine pure_ (i := 2) (N := some 14) (v := ?_) (a' := ?_) #[true, false, true, false, false, false, false, false, false, false, false, false, false, false, false, false] rfl rfl (by kernel_rfl) (fun _ _ _ h => h) (Or.inl ⟨by rfl, ?_⟩) ?_ ?_
      rotate_left
      · intro w'
        go_simp
        with_reducible rfl
      rotate_left
      · simp only [Act.put, List.setIfInBounds_toArray, List.set_cons_zero, List.set_cons_succ, i64_w, i32_w]
        rfl
      refine pure_ (i := 4) (N := some 16) (v := ?_) (a' := ?_) #[true, false, true, false, true, false, false, false, false, false, false, false, false, false, false, false] rfl rfl (by kernel_rfl) (fun _ _ _ h => h) (Or.inl ⟨by rfl, ?_⟩) ?_ ?_
      rotate_left
      · intro w'
        go_simp
        with_reducible rfl
      rotate_left
      · simp only [Act.put, List.setIfInBounds_toArray, List.set_cons_zero, List.set_cons_succ, i64_w, i32_w]
        rfl
      refine pure_ (i := 10) (N := some 22) (v := ?_) (a' := ?_) #[true, false, true, false, true, false, false, false, false, false, true, false, false, false, false, false] rfl rfl (by kernel_rfl) (fun _ _ _ h => h) (Or.inl ⟨by rfl, ?_⟩) ?_ ?_
      rotate_left
      · intro w'
        go_simp
        with_reducible rfl
      rotate_left
      · simp only [Act.put, List.setIfInBounds_toArray, List.set_cons_zero, List.set_cons_succ, i64_w, i32_w]
        rfl
      refine take_ (i := 1) (N := some 13) (v := ?_) (a' := ?_) #[true, true, true, false, true, false, false, false, false, false, true, false, false, false, false, false] rfl rfl (by kernel_rfl) (fun _ _ _ h => h) (Or.inl ⟨by rfl, ?_⟩) hHeld ?_ ?_
      rotate_left
      · rintro w' hS'
        obtain ⟨s0, s1, s2⟩ := hS'
        go_simp
        with_reducible rfl
      rotate_left
      · simp only [Act.put, List.setIfInBounds_toArray, List.set_cons_zero, List.set_cons_succ, i64_w, i32_w]
        rfl
      refine take_ (i := 3) (N := some 15) (v := ?_) (a' := ?_) #[true, true, true, true, true, false, false, false, false, false, true, false, false, false, false, false] rfl rfl (by kernel_rfl) (fun _ _ _ h => h) (Or.inl ⟨by rfl, ?_⟩) hHeld ?_ ?_
      rotate_left
      · rintro w' hS'
        obtain ⟨s0, s1, s2⟩ := hS'
        go_simp
        with_reducible rfl
      rotate_left
      · simp only [Act.put, List.setIfInBounds_toArray, List.set_cons_zero, List.set_cons_succ, i64_w, i32_w]
        rfl
      refine take_ (i := 5) (N := some 17) (v := ?_) (a' := ?_) #[true, true, true, true, true, true, false, false, false, false, true, false, false, false, false, false] rfl rfl (by kernel_rfl) (fun _ _ _ h => h) (Or.inl ⟨by rfl, ?_⟩) hHeld ?_ ?_
      rotate_left
      · rintro w' hS'
        obtain ⟨s0, s1, s2⟩ := hS'
        go_simp
        with_reducible rfl
      rotate_left
      · simp only [Act.put, List.setIfInBounds_toArray, List.set_cons_zero, List.set_cons_succ, i64_w, i32_w]
        rfl
      refine take_ (i := 11) (N := some 23) (v := ?_) (a' := ?_) #[true, true, true, true, true, true, false, false, false, false, true, true, false, false, false, false] rfl rfl (by kernel_rfl) (fun _ _ _ h => h) (Or.inl ⟨by rfl, ?_⟩) hHeld ?_ ?_
      rotate_left
      · rintro w' hS'
        obtain ⟨s0, s1, s2⟩ := hS'
        go_simp
        with_reducible rfl
      rotate_left
      · simp only [Act.put, List.setIfInBounds_toArray, List.set_cons_zero, List.set_cons_succ, i64_w, i32_w]
        rfl
      refine pure_ (i := 12) (N := some 24) (v := ?_) (a' := ?_) #[true, true, true, true, true, true, false, false, false, false, true, true, true, false, false, false] rfl rfl (by kernel_rfl) (fun _ _ _ h => h) (Or.inl ⟨by rfl, ?_⟩) ?_ ?_
      rotate_left
      · intro w'
        go_simp
        with_reducible rfl
      rotate_left
      · simp only [Act.put, List.setIfInBounds_toArray, List.set_cons_zero, List.set_cons_succ, i64_w, i32_w]
        rfl
      refine two_ (i := 6) (j := 14) (Ni := some 18) (Nj := some 5) #[true, true, true, true, true, true, true, false, false, false, true, true, true, false, false, false] #[true, true, true, true, true, true, false, false, false, false, true, true, true, false, true, false] rfl rfl rfl rfl (by kernel_rfl) (by decide) (by decide) (fun K hK => ?_) (fun K hK => ?_)
      · refine slice_step (n := 2) (by rfl) (N := 18) rfl (cs := #[.int .i64 a25, .int .i64 a26]) (t := 3) ?hr ?_
        case hr => first | (go_simp; done) | (go_simp; rfl)
        intro g212 hg w213 hbox hb
        replace HS : Aside0 (Sep (fps []) w [b1 g29 a25 a26 a27 a28, b2 g32 0 0 0 0 0 0 0 0, b3 g212 a25 a26] w213) := ⟨HS.out.box hg hbox hb⟩
        clear hg hbox hb
        refine hK.out _ _ (⟨blk_cellv (HS.out.at0) 2 rfl, blk_cellv (HS.out.at0) 0 rfl, blk_cellv (HS.out.at0) 1 rfl⟩) (fun hHeld => ?_)
        clear hK K
        refine norm_ (a' := ?_) ?_ ?_
        rotate_left
        · show Act.put _ (some 18) _ = _
          simp only [Act.put, List.setIfInBounds_toArray, List.set_cons_zero, List.set_cons_succ, i64_w, i32_w]
          rfl
        refine two_ (i := 7) (j := 14) (Ni := some 19) (Nj := some 5) #[true, true, true, true, true, true, true, true, false, false, true, true, true, false, false, false] #[true, true, true, true, true, true, true, false, false, false, true, true, true, false, true, false] rfl rfl rfl rfl (by kernel_rfl) (by decide) (by decide) (fun K hK => ?_) (fun K hK => ?_)
        · refine goes_ Tryd.func123 (by kernel_rfl) rfl #[.slice (some ⟨g212, 0, none⟩) 2 2] (by rfl) rfl rfl (by (try simp only [List.map_toArray, List.map_cons, List.map_nil]); first | done | rfl) ?_
          refine (ratio_Mul.calls _ [a25, a26] (some ⟨g212, 0, none⟩) 2 t160 _ ⟨Rd.lit (l := []) (xs := [a25, a26]) HS.out 2 rfl (by simp)⟩ ⟨HGl0.out.pass (l := []) HS.out⟩ ⟨Sep.start _⟩ HA161).mono ?_
          rintro e_ w216 ⟨rfl, hS⟩
          replace HS : Aside0 (Sep (fps []) w [b1 g29 a25 a26 a27 a28, b2 g32 0 0 0 0 0 0 0 0, b3 g212 a25 a26] w216) := ⟨HS.out.call hS⟩
          clear hS
          refine ⟨_, rfl, ?_⟩
          refine hK.out _ _ (⟨blk_cellv (HS.out.at0) 2 rfl, blk_cellv (HS.out.at0) 0 rfl, blk_cellv (HS.out.at0) 1 rfl⟩) (fun hHeld => ?_)
          clear hK K
          refine norm_ (a' := ?_) ?_ ?_
          rotate_left
          · show Act.put _ (some 19) _ = _
            simp only [Act.put, List.setIfInBounds_toArray, List.set_cons_zero, List.set_cons_succ, i64_w, i32_w]
            rfl
          refine two_ (i := 8) (j := 14) (Ni := some 20) (Nj := some 5) #[true, true, true, true, true, true, true, true, true, false, true, true, true, false, false, false] #[true, true, true, true, true, true, true, true, false, false, true, true, true, false, true, false] rfl rfl rfl rfl (by kernel_rfl) (by decide) (by decide) (fun K hK => ?_) (fun K hK => ?_)
          · refine slice_step (n := 3) (by rfl) (N := 20) rfl (cs := #[.int .i64 24, .int .i64 a27, .int .i64 t160]) (t := 3) ?hr ?_
            case hr => first | (go_simp; done) | (go_simp; rfl)
            intro g217 hg w218 hbox hb
            replace HS : Aside0 (Sep (fps []) w [b1 g29 a25 a26 a27 a28, b2 g32 0 0 0 0 0 0 0 0, b3 g212 a25 a26, b4 g217 24 a27 t160] w218) := ⟨HS.out.box hg hbox hb⟩
            clear hg hbox hb
            refine hK.out _ _ (⟨blk_cellv (HS.out.at0) 2 rfl, blk_cellv (HS.out.at0) 0 rfl, blk_cellv (HS.out.at0) 1 rfl⟩) (fun hHeld => ?_)
            clear hK K
            refine norm_ (a' := ?_) ?_ ?_
            rotate_left
            · show Act.put _ (some 20) _ = _
              simp only [Act.put, List.setIfInBounds_toArray, List.set_cons_zero, List.set_cons_succ, i64_w, i32_w]
              rfl
            refine two_ (i := 9) (j := 14) (Ni := some 21) (Nj := some 5) #[true, true, true, true, true, true, true, true, true, true, true, true, true, false, false, false] #[true, true, true, true, true, true, true, true, true, false, true, true, true, false, true, false] rfl rfl rfl rfl (by kernel_rfl) (by decide) (by decide) (fun K hK => ?_) (fun K hK => ?_)
            · refine goes_ Tryd.func122 (by kernel_rfl) rfl #[.slice (some ⟨g217, 0, none⟩) 3 3] (by rfl) rfl rfl (by (try simp only [List.map_toArray, List.map_cons, List.map_nil]); first | done | rfl) ?_
              refine (ratio_Add.calls _ [24, a27, t160] (some ⟨g217, 0, none⟩) 3 t186 _ ⟨Rd.lit (l := []) (xs := [24, a27, t160]) HS.out 3 rfl (by simp)⟩ ⟨HGl0.out.pass (l := []) HS.out⟩ ⟨Sep.start _⟩ HA187).mono ?_
              rintro e_ w221 ⟨rfl, hS⟩
              replace HS : Aside0 (Sep (fps []) w [b1 g29 a25 a26 a27 a28, b2 g32 0 0 0 0 0 0 0 0, b3 g212 a25 a26, b4 g217 24 a27 t160] w221) := ⟨HS.out.call hS⟩
              clear hS
              refine ⟨_, rfl, ?_⟩
              refine hK.out _ _ (⟨blk_cellv (HS.out.at0) 2 rfl, blk_cellv (HS.out.at0) 0 rfl, blk_cellv (HS.out.at0) 1 rfl⟩) (fun hHeld => ?_)
              clear hK K
              refine norm_ (a' := ?_) ?_ ?_
              rotate_left
              · show Act.put _ (some 21) _ = _
                simp only [Act.put, List.setIfInBounds_toArray, List.set_cons_zero, List.set_cons_succ, i64_w, i32_w]
                rfl
              refine pure_ (i := 13) (N := some 25) (v := ?_) (a' := ?_) #[true, true, true, true, true, true, true, true, true, true, true, true, true, true, false, false] rfl rfl (by kernel_rfl) (fun _ _ _ h => h) (Or.inl ⟨by rfl, ?_⟩) ?_ ?_
              rotate_left
              · intro w'
                go_simp
                with_reducible rfl
              rotate_left
              · simp only [Act.put, List.setIfInBounds_toArray, List.set_cons_zero, List.set_cons_succ, i64_w, i32_w]
                rfl
              refine one_ (i := 14) (N := some 5) #[true, true, true, true, true, true, true, true, true, true, true, true, true, true, true, false] rfl rfl (by kernel_rfl) (by decide) (fun K hK => ?_)
              refine box_step (by rfl) (N := 5) rfl (cs := #[.int .i64 0, .int .i64 0, .int .i64 0, .int .i64 0, .int .i64 0, .int .i64 0, .int .i64 0, .int .i64 0]) (t := 97) ?hr ?_
              case hr => first | (go_simp; done) | (go_simp; rfl)
              intro g222 hg w223 hbox hb
              replace HS : Aside0 (Sep (fps []) w [b1 g29 a25 a26 a27 a28, b2 g32 0 0 0 0 0 0 0 0, b3 g212 a25 a26, b4 g217 24 a27 t160, b2 g222 0 0 0 0 0 0 0 0] w223) := ⟨HS.out.box hg hbox hb⟩
              clear hg hbox hb
              refine hK.out _ _ (⟨blk_cellv (HS.out.at0) 2 rfl, blk_cellv (HS.out.at0) 0 rfl, blk_cellv (HS.out.at0) 1 rfl⟩) (fun hHeld => ?_)
              clear hK K
              refine norm_ (a' := ?_) ?_ ?_
              rotate_left
              · show Act.put _ (some 5) _ = _
                simp only [Act.put, List.setIfInBounds_toArray, List.set_cons_zero, List.set_cons_succ, i64_w, i32_w]
                rfl
              refine one_ (i := 15) (N := none) #[true, true, true, true, true, true, true, true, true, true, true, true, true, true, true, true] rfl rfl (by kernel_rfl) (by decide) (fun K hK => ?_)
              have hc226 := blk_cellv (v := .int .i64 0) (HS.out.at4) 0 rfl
              have hz227 := blk_fz (HS.out.at4) 0
              have hc228 := blk_cellv (v := .int .i64 0) (HS.out.at4) 1 rfl
              have hz229 := blk_fz (HS.out.at4) 1
              have hc230 := blk_cellv (v := .int .i64 0) (HS.out.at4) 2 rfl
              have hz231 := blk_fz (HS.out.at4) 2
              have hc232 := blk_cellv (v := .int .i64 0) (HS.out.at4) 3 rfl
              have hz233 := blk_fz (HS.out.at4) 3
              have hc234 := blk_cellv (v := .int .i64 0) (HS.out.at4) 4 rfl
              have hz235 := blk_fz (HS.out.at4) 4
              have hc236 := blk_cellv (v := .int .i64 0) (HS.out.at4) 5 rfl
              have hz237 := blk_fz (HS.out.at4) 5
              have hc238 := blk_cellv (v := .int .i64 0) (HS.out.at4) 6 rfl
              have hz239 := blk_fz (HS.out.at4) 6
              have hc240 := blk_cellv (v := .int .i64 0) (HS.out.at4) 7 rfl
              have hz241 := blk_fz (HS.out.at4) 7
              refine store_step (w1 := (World.setCell (World.setCell (World.setCell (World.setCell (World.setCell (World.setCell (World.setCell (World.setCell w223 ⟨g222, 0, none⟩ (.int .i64 t186)) ⟨g222, 1, none⟩ (.int .i64 (wrap64 (a26 - 8)))) ⟨g222, 2, none⟩ (.int .i64 0)) ⟨g222, 3, none⟩ (.int .i64 0)) ⟨g222, 4, none⟩ (.int .i64 0)) ⟨g222, 5, none⟩ (.int .i64 0)) ⟨g222, 6, none⟩ (.int .i64 0)) ⟨g222, 7, none⟩ (.int .i64 0))) (by rfl) rfl ?hr ?_
              case hr => first | (go_simp; done) | (go_simp; rfl)
              clear hc226 hz227 hc228 hz229 hc230 hz231 hc232 hz233 hc234 hz235 hc236 hz237 hc238 hz239 hc240 hz241
              intro w225 hst
              replace HS : Aside0 (Sep (fps []) w [b1 g29 a25 a26 a27 a28, b2 g32 0 0 0 0 0 0 0 0, b3 g212 a25 a26, b4 g217 24 a27 t160, b2 g222 t186 (wrap64 (a26 - 8)) 0 0 0 0 0 0] w225) := ⟨by rw [hst]; exact HS.out.setAll (l1 := [b1 g29 a25 a26 a27 a28, b2 g32 0 0 0 0 0 0 0 0, b3 g212 a25 a26, b4 g217 24 a27 t160]) (l2 := []) [.int .i64 t186, .int .i64 (wrap64 (a26 - 8)), .int .i64 0, .int .i64 0, .int .i64 0, .int .i64 0, .int .i64 0, .int .i64 0] rfl⟩
              clear hst
              refine hK.out _ _ (⟨blk_cellv (HS.out.at0) 2 rfl, blk_cellv (HS.out.at0) 0 rfl, blk_cellv (HS.out.at0) 1 rfl⟩) (fun hHeld => ?_)
              clear hK K
              refine done_ (by kernel_rfl) ?_
              go_wp2_with fail
              go_meet
              case rel => exact ⟨g212, g217, g222, (by first | rfl | (simp [IntKind.wrap_u32]; done)), ⟨(((((HS.out).front 4 (by simp)).front 4 (by simp)).front 4 (by simp)).front 4 (by simp)).front 4 (by simp)⟩⟩
            · refine box_step (by rfl) (N := 5) rfl (cs := #[.int .i64 0, .int .i64 0, .int .i64 0, .int .i64 0, .int .i64 0, .int .i64 0, .int .i64 0, .int .i64 0]) (t := 97) ?hr ?_
              case hr => first | (go_simp; done) | (go_simp; rfl)
              intro g242 hg w243 hbox hb
              replace HS : Aside0 (Sep (fps []) w [b1 g29 a25 a26 a27 a28, b2 g32 0 0 0 0 0 0 0 0, b3 g212 a25 a26, b4 g217 24 a27 t160, b2 g242 0 0 0 0 0 0 0 0] w243) := ⟨HS.out.box hg hbox hb⟩
              clear hg hbox hb
              refine hK.out _ _ (⟨blk_cellv (HS.out.at0) 2 rfl, blk_cellv (HS.out.at0) 0 rfl, blk_cellv (HS.out.at0) 1 rfl⟩) (fun hHeld => ?_)
              clear hK K
              refine norm_ (a' := ?_) ?_ ?_
              rotate_left
              · show Act.put _ (some 5) _ = _
                simp only [Act.put, List.setIfInBounds_toArray, List.set_cons_zero, List.set_cons_succ, i64_w, i32_w]
                rfl
              refine one_ (i := 9) (N := some 21) #[true, true, true, true, true, true, true, true, true, true, true, true, true, false, true, false] rfl rfl (by kernel_rfl) (by decide) (fun K hK => ?_)
              refine goes_ Tryd.func122 (by kernel_rfl) rfl #[.slice (some ⟨g217, 0, none⟩) 3 3] (by rfl) rfl rfl (by (try simp only [List.map_toArray, List.map_cons, List.map_nil]); first | done | rfl) ?_
              refine (ratio_Add.calls _ [24, a27, t160] (some ⟨g217, 0, none⟩) 3 t186 _ ⟨Rd.lit (l := []) (xs := [24, a27, t160]) HS.out 3 rfl (by simp)⟩ ⟨HGl0.out.pass (l := []) HS.out⟩ ⟨Sep.start _⟩ HA187).mono ?_
              rintro e_ w246 ⟨rfl, hS⟩
              replace HS : Aside0 (Sep (fps []) w [b1 g29 a25 a26 a27 a28, b2 g32 0 0 0 0 0 0 0 0, b3 g212 a25 a26, b4 g217 24 a27 t160, b2 g242 0 0 0 0 0 0 0 0] w246) := ⟨HS.out.call hS⟩
              clear hS
              refine ⟨_, rfl, ?_⟩
              refine hK.out _ _ (⟨blk_cellv (HS.out.at0) 2 rfl, blk_cellv (HS.out.at0) 0 rfl, blk_cellv (HS.out.at0) 1 rfl⟩) (fun hHeld => ?_)
              clear hK K
              refine norm_ (a' := ?_) ?_ ?_
              rotate_left
              · show Act.put _ (some 21) _ = _
                simp only [Act.put, List.setIfInBounds_toArray, List.set_cons_zero, List.set_cons_succ, i64_w, i32_w]
                rfl
              refine pure_ (i := 13) (N := some 25) (v := ?_) (a' := ?_) #[true, true, true, true, true, true, true, true, true, true, true, true, true, true, true, false] rfl rfl (by kernel_rfl) (fun _ _ _ h => h) (Or.inl ⟨by rfl, ?_⟩) ?_ ?_
              rotate_left
              · intro w'
                go_simp
                with_reducible rfl
              rotate_left
              · simp only [Act.put, List.setIfInBounds_toArray, List.set_cons_zero, List.set_cons_succ, i64_w, i32_w]
                rfl
              refine one_ (i := 15) (N := none) #[true, true, true, true, true, true, true, true, true, true, true, true, true, true, true, true] rfl rfl (by kernel_rfl) (by decide) (fun K hK => ?_)
              have hc248 := blk_cellv (v := .int .i64 0) (HS.out.at4) 0 rfl
              have hz249 := blk_fz (HS.out.at4) 0
              have hc250 := blk_cellv (v := .int .i64 0) (HS.out.at4) 1 rfl
              have hz251 := blk_fz (HS.out.at4) 1
              have hc252 := blk_cellv (v := .int .i64 0) (HS.out.at4) 2 rfl
              have hz253 := blk_fz (HS.out.at4) 2
              have hc254 := blk_cellv (v := .int .i64 0) (HS.out.at4) 3 rfl
              have hz255 := blk_fz (HS.out.at4) 3
              have hc256 := blk_cellv (v := .int .i64 0) (HS.out.at4) 4 rfl
              have hz257 := blk_fz (HS.out.at4) 4
              have hc258 := blk_cellv (v := .int .i64 0) (HS.out.at4) 5 rfl
              have hz259 := blk_fz (HS.out.at4) 5
              have hc260 := blk_cellv (v := .int .i64 0) (HS.out.at4) 6 rfl
              have hz261 := blk_fz (HS.out.at4) 6
              have hc262 := blk_cellv (v := .int .i64 0) (HS.out.at4) 7 rfl
              have hz263 := blk_fz (HS.out.at4) 7
              refine store_step (w1 := (World.setCell (World.setCell (World.setCell (World.setCell (World.setCell (World.setCell (World.setCell (World.setCell w246 ⟨g242, 0, none⟩ (.int .i64 t186)) ⟨g242, 1, none⟩ (.int .i64 (wrap64 (a26 - 8)))) ⟨g242, 2, none⟩ (.int .i64 0)) ⟨g242, 3, none⟩ (.int .i64 0)) ⟨g242, 4, none⟩ (.int .i64 0)) ⟨g242, 5, none⟩ (.int .i64 0)) ⟨g242, 6, none⟩ (.int .i64 0)) ⟨g242, 7, none⟩ (.int .i64 0))) (by rfl) rfl ?hr ?_
              case hr => first | (go_simp; done) | (go_simp; rfl)
              clear hc248 hz249 hc250 hz251 hc252 hz253 hc254 hz255 hc256 hz257 hc258 hz259 hc260 hz261 hc262 hz263
              intro w247 hst
              replace HS : Aside0 (Sep (fps []) w [b1 g29 a25 a26 a27 a28, b2 g32 0 0 0 0 0 0 0 0, b3 g212 a25 a26, b4 g217 24 a27 t160, b2 g242 t186 (wrap64 (a26 - 8)) 0 0 0 0 0 0] w247) := ⟨by rw [hst]; exact HS.out.setAll (l1 := [b1 g29 a25 a26 a27 a28, b2 g32 0 0 0 0 0 0 0 0, b3 g212 a25 a26, b4 g217 24 a27 t160]) (l2 := []) [.int .i64 t186, .int .i64 (wrap64 (a26 - 8)), .int .i64 0, .int .i64 0, .int .i64 0, .int .i64 0, .int .i64 0, .int .i64 0] rfl⟩
              clear hst
              refine hK.out _ _ (⟨blk_cellv (HS.out.at0) 2 rfl, blk_cellv (HS.out.at0) 0 rfl, blk_cellv (HS.out.at0) 1 rfl⟩) (fun hHeld => ?_)
              clear hK K
              refine done_ (by kernel_rfl) ?_
              go_wp2_with fail
              go_meet
              case rel => exact ⟨g212, g217, g242, (by first | rfl | (simp [IntKind.wrap_u32]; done)), ⟨(((((HS.out).front 4 (by simp)).front 4 (by simp)).front 4 (by simp)).front 4 (by simp)).front 4 (by simp)⟩⟩
          · refine box_step (by rfl) (N := 5) rfl (cs := #[.int .i64 0, .int .i64 0, .int .i64 0, .int .i64 0, .int .i64 0, .int .i64 0, .int .i64 0, .int .i64 0]) (t := 97) ?hr ?_
            case hr => first | (go_simp; done) | (go_simp; rfl)
            intro g264 hg w265 hbox hb
            replace HS : Aside0 (Sep (fps []) w [b1 g29 a25 a26 a27 a28, b2 g32 0 0 0 0 0 0 0 0, b3 g212 a25 a26, b2 g264 0 0 0 0 0 0 0 0] w265) := ⟨HS.out.box hg hbox hb⟩
            clear hg hbox hb
            refine hK.out _ _ (⟨blk_cellv (HS.out.at0) 2 rfl, blk_cellv (HS.out.at0) 0 rfl, blk_cellv (HS.out.at0) 1 rfl⟩) (fun hHeld => ?_)
            clear hK K
            refine norm_ (a' := ?_) ?_ ?_
            rotate_left
            · show Act.put _ (some 5) _ = _
              simp only [Act.put, List.setIfInBounds_toArray, List.set_cons_zero, List.set_cons_succ, i64_w, i32_w]
              rfl
            refine one_ (i := 8) (N := some 20) #[true, true, true, true, true, true, true, true, true, false, true, true, true, false, true, false] rfl rfl (by kernel_rfl) (by decide) (fun K hK => ?_)
            refine slice_step (n := 3) (by rfl) (N := 20) rfl (cs := #[.int .i64 24, .int .i64 a27, .int .i64 t160]) (t := 3) ?hr ?_
            case hr => first | (go_simp; done) | (go_simp; rfl)
            intro g267 hg w268 hbox hb
            replace HS : Aside0 (Sep (fps []) w [b1 g29 a25 a26 a27 a28, b2 g32 0 0 0 0 0 0 0 0, b3 g212 a25 a26, b2 g264 0 0 0 0 0 0 0 0, b4 g267 24 a27 t160] w268) := ⟨HS.out.box hg hbox hb⟩
            clear hg hbox hb
            refine hK.out _ _ (⟨blk_cellv (HS.out.at0) 2 rfl, blk_cellv (HS.out.at0) 0 rfl, blk_cellv (HS.out.at0) 1 rfl⟩) (fun hHeld => ?_)
            clear hK K
            refine norm_ (a' := ?_) ?_ ?_
            rotate_left
            · show Act.put _ (some 20) _ = _
              simp only [Act.put, List.setIfInBounds_toArray, List.set_cons_zero, List.set_cons_succ, i64_w, i32_w]
              rfl
            refine one_ (i := 9) (N := some 21) #[true, true, true, true, true, true, true, true, true, true, true, true, true, false, true, false] rfl rfl (by kernel_rfl) (by decide) (fun K hK => ?_)
            refine goes_ Tryd.func122 (by kernel_rfl) rfl #[.slice (some ⟨g267, 0, none⟩) 3 3] (by rfl) rfl rfl (by (try simp only [List.map_toArray, List.map_cons, List.map_nil]); first | done | rfl) ?_
            refine (ratio_Add.calls _ [24, a27, t160] (some ⟨g267, 0, none⟩) 3 t186 _ ⟨Rd.lit (l := []) (xs := [24, a27, t160]) HS.out 4 rfl (by simp)⟩ ⟨HGl0.out.pass (l := []) HS.out⟩ ⟨Sep.start _⟩ HA187).mono ?_
            rintro e_ w271 ⟨rfl, hS⟩
            replace HS : Aside0 (Sep (fps []) w [b1 g29 a25 a26 a27 a28, b2 g32 0 0 0 0 0 0 0 0, b3 g212 a25 a26, b2 g264 0 0 0 0 0 0 0 0, b4 g267 24 a27 t160] w271) := ⟨HS.out.call hS⟩
            clear hS
            refine ⟨_, rfl, ?_⟩
            refine hK.out _ _ (⟨blk_cellv (HS.out.at0) 2 rfl, blk_cellv (HS.out.at0) 0 rfl, blk_cellv (HS.out.at0) 1 rfl⟩) (fun hHeld => ?_)
            clear hK K
            refine norm_ (a' := ?_) ?_ ?_
            rotate_left
            · show Act.put _ (some 21) _ = _
              simp only [Act.put, List.setIfInBounds_toArray, List.set_cons_zero, List.set_cons_succ, i64_w, i32_w]
              rfl
            refine pure_ (i := 13) (N := some 25) (v := ?_) (a' := ?_) #[true, true, true, true, true, true, true, true, true, true, true, true, true, true, true, false] rfl rfl (by kernel_rfl) (fun _ _ _ h => h) (Or.inl ⟨by rfl, ?_⟩) ?_ ?_
            rotate_left
            · intro w'
              go_simp
              with_reducible rfl
            rotate_left
            · simp only [Act.put, List.setIfInBounds_toArray, List.set_cons_zero, List.set_cons_succ, i64_w, i32_w]
              rfl
            refine one_ (i := 15) (N := none) #[true, true, true, true, true, true, true, true, true, true, true, true, true, true, true, true] rfl rfl (by kernel_rfl) (by decide) (fun K hK => ?_)
            have hc273 := blk_cellv (v := .int .i64 0) (HS.out.at3) 0 rfl
            have hz274 := blk_fz (HS.out.at3) 0
            have hc275 := blk_cellv (v := .int .i64 0) (HS.out.at3) 1 rfl
            have hz276 := blk_fz (HS.out.at3) 1
            have hc277 := blk_cellv (v := .int .i64 0) (HS.out.at3) 2 rfl
            have hz278 := blk_fz (HS.out.at3) 2
            have hc279 := blk_cellv (v := .int .i64 0) (HS.out.at3) 3 rfl
            have hz280 := blk_fz (HS.out.at3) 3
            have hc281 := blk_cellv (v := .int .i64 0) (HS.out.at3) 4 rfl
            have hz282 := blk_fz (HS.out.at3) 4
            have hc283 := blk_cellv (v := .int .i64 0) (HS.out.at3) 5 rfl
            have hz284 := blk_fz (HS.out.at3) 5
            have hc285 := blk_cellv (v := .int .i64 0) (HS.out.at3) 6 rfl
            have hz286 := blk_fz (HS.out.at3) 6
            have hc287 := blk_cellv (v := .int .i64 0) (HS.out.at3) 7 rfl
            have hz288 := blk_fz (HS.out.at3) 7
            refine store_step (w1 := (World.setCell (World.setCell (World.setCell (World.setCell (World.setCell (World.setCell (World.setCell (World.setCell w271 ⟨g264, 0, none⟩ (.int .i64 t186)) ⟨g264, 1, none⟩ (.int .i64 (wrap64 (a26 - 8)))) ⟨g264, 2, none⟩ (.int .i64 0)) ⟨g264, 3, none⟩ (.int .i64 0)) ⟨g264, 4, none⟩ (.int .i64 0)) ⟨g264, 5, none⟩ (.int .i64 0)) ⟨g264, 6, none⟩ (.int .i64 0)) ⟨g264, 7, none⟩ (.int .i64 0))) (by rfl) rfl ?hr ?_
            case hr => first | (go_simp; done) | (go_simp; rfl)
            clear hc273 hz274 hc275 hz276 hc277 hz278 hc279 hz280 hc281 hz282 hc283 hz284 hc285 hz286 hc287 hz288
            intro w272 hst
            replace HS : Aside0 (Sep (fps []) w [b1 g29 a25 a26 a27 a28, b2 g32 0 0 0 0 0 0 0 0, b3 g212 a25 a26, b2 g264 t186 (wrap64 (a26 - 8)) 0 0 0 0 0 0, b4 g267 24 a27 t160] w272) := ⟨by rw [hst]; exact HS.out.setAll (l1 := [b1 g29 a25 a26 a27 a28, b2 g32 0 0 0 0 0 0 0 0, b3 g212 a25 a26]) (l2 := [b4 g267 24 a27 t160]) [.int .i64 t186, .int .i64 (wrap64 (a26 - 8)), .int .i64 0, .int .i64 0, .int .i64 0, .int .i64 0, .int .i64 0, .int .i64 0] rfl⟩
            clear hst
            refine hK.out _ _ (⟨blk_cellv (HS.out.at0) 2 rfl, blk_cellv (HS.out.at0) 0 rfl, blk_cellv (HS.out.at0) 1 rfl⟩) (fun hHeld => ?_)
            clear hK K
            refine done_ (by kernel_rfl) ?_
            go_wp2_with fail
            go_meet
            case rel => exact ⟨g212, g267, g264, (by first | rfl | (simp [IntKind.wrap_u32]; done)), ⟨(((((HS.out).front 3 (by simp)).front 4 (by simp)).front 4 (by simp)).front 4 (by simp)).front 4 (by simp)⟩⟩
        · refine box_step (by rfl) (N := 5) rfl (cs := #[.int .i64 0, .int .i64 0, .int .i64 0, .int .i64 0, .int .i64 0, .int .i64 0, .int .i64 0, .int .i64 0]) (t := 97) ?hr ?_
          case hr => first | (go_simp; done) | (go_simp; rfl)
          intro g289 hg w290 hbox hb
          replace HS : Aside0 (Sep (fps []) w [b1 g29 a25 a26 a27 a28, b2 g32 0 0 0 0 0 0 0 0, b3 g212 a25 a26, b2 g289 0 0 0 0 0 0 0 0] w290) := ⟨HS.out.box hg hbox hb⟩
          clear hg hbox hb
          refine hK.out _ _ (⟨blk_cellv (HS.out.at0) 2 rfl, blk_cellv (HS.out.at0) 0 rfl, blk_cellv (HS.out.at0) 1 rfl⟩) (fun hHeld => ?_)
          clear hK K
          refine norm_ (a' := ?_) ?_ ?_
          rotate_left
          · show Act.put _ (some 5) _ = _
            simp only [Act.put, List.setIfInBounds_toArray, List.set_cons_zero, List.set_cons_succ, i64_w, i32_w]
            rfl
          refine one_ (i := 7) (N := some 19) #[true, true, true, true, true, true, true, true, false, false, true, true, true, false, true, false] rfl rfl (by kernel_rfl) (by decide) (fun K hK => ?_)
          refine goes_ Tryd.func123 (by kernel_rfl) rfl #[.slice (some ⟨g212, 0, none⟩) 2 2] (by rfl) rfl rfl (by (try simp only [List.map_toArray, List.map_cons, List.map_nil]); first | done | rfl) ?_
          refine (ratio_Mul.calls _ [a25, a26] (some ⟨g212, 0, none⟩) 2 t160 _ ⟨Rd.lit (l := []) (xs := [a25, a26]) HS.out 2 rfl (by simp)⟩ ⟨HGl0.out.pass (l := []) HS.out⟩ ⟨Sep.start _⟩ HA161).mono ?_
          rintro e_ w293 ⟨rfl, hS⟩
          replace HS : Aside0 (Sep (fps []) w [b1 g29 a25 a26 a27 a28, b2 g32 0 0 0 0 0 0 0 0, b3 g212 a25 a26, b2 g289 0 0 0 0 0 0 0 0] w293) := ⟨HS.out.call hS⟩
          clear hS
          refine ⟨_, rfl, ?_⟩
          refine hK.out _ _ (⟨blk_cellv (HS.out.at0) 2 rfl, blk_cellv (HS.out.at0) 0 rfl, blk_cellv (HS.out.at0) 1 rfl⟩) (fun hHeld => ?_)
          clear hK K
          refine norm_ (a' := ?_) ?_ ?_
          rotate_left
          · show Act.put _ (some 19) _ = _
            simp only [Act.put, List.setIfInBounds_toArray, List.set_cons_zero, List.set_cons_succ, i64_w, i32_w]
            rfl
          refine one_ (i := 8) (N := some 20) #[true, true, true, true, true, true, true, true, true, false, true, true, true, false, true, false] rfl rfl (by kernel_rfl) (by decide) (fun K hK => ?_)
          refine slice_step (n := 3) (by rfl) (N := 20) rfl (cs := #[.int .i64 24, .int .i64 a27, .int .i64 t160]) (t := 3) ?hr ?_
          case hr => first | (go_simp; done) | (go_simp; rfl)
          intro g294 hg w295 hbox hb
          replace HS : Aside0 (Sep (fps []) w [b1 g29 a25 a26 a27 a28, b2 g32 0 0 0 0 0 0 0 0, b3 g212 a25 a26, b2 g289 0 0 0 0 0 0 0 0, b4 g294 24 a27 t160] w295) := ⟨HS.out.box hg hbox hb⟩
          clear hg hbox hb
          refine hK.out _ _ (⟨blk_cellv (HS.out.at0) 2 rfl, blk_cellv (HS.out.at0) 0 rfl, blk_cellv (HS.out.at0) 1 rfl⟩) (fun hHeld => ?_)
          clear hK K
          refine norm_ (a' := ?_) ?_ ?_
          rotate_left
          · show Act.put _ (some 20) _ = _
            simp only [Act.put, List.setIfInBounds_toArray, List.set_cons_zero, List.set_cons_succ, i64_w, i32_w]
            rfl
          refine one_ (i := 9) (N := some 21) #[true, true, true, true, true, true, true, true, true, true, true, true, true, false, true, false] rfl rfl (by kernel_rfl) (by decide) (fun K hK => ?_)
          refine goes_ Tryd.func122 (by kernel_rfl) rfl #[.slice (some ⟨g294, 0, none⟩) 3 3] (by rfl) rfl rfl (by (try simp only [List.map_toArray, List.map_cons, List.map_nil]); first | done | rfl) ?_
          refine (ratio_Add.calls _ [24, a27, t160] (some ⟨g294, 0, none⟩) 3 t186 _ ⟨Rd.lit (l := []) (xs := [24, a27, t160]) HS.out 4 rfl (by simp)⟩ ⟨HGl0.out.pass (l := []) HS.out⟩ ⟨Sep.start _⟩ HA187).mono ?_
          rintro e_ w298 ⟨rfl, hS⟩
          replace HS : Aside0 (Sep (fps []) w [b1 g29 a25 a26 a27 a28, b2 g32 0 0 0 0 0 0 0 0, b3 g212 a25 a26, b2 g289 0 0 0 0 0 0 0 0, b4 g294 24 a27 t160] w298) := ⟨HS.out.call hS⟩
          clear hS
          refine ⟨_, rfl, ?_⟩
          refine hK.out _ _ (⟨blk_cellv (HS.out.at0) 2 rfl, blk_cellv (HS.out.at0) 0 rfl, blk_cellv (HS.out.at0) 1 rfl⟩) (fun hHeld => ?_)
          clear hK K
          refine norm_ (a' := ?_) ?_ ?_
          rotate_left
          · show Act.put _ (some 21) _ = _
            simp only [Act.put, List.setIfInBounds_toArray, List.set_cons_zero, List.set_cons_succ, i64_w, i32_w]
            rfl
          refine pure_ (i := 13) (N := some 25) (v := ?_) (a' := ?_) #[true, true, true, true, true, true, true, true, true, true, true, true, true, true, true, false] rfl rfl (by kernel_rfl) (fun _ _ _ h => h) (Or.inl ⟨by rfl, ?_⟩) ?_ ?_
          rotate_left
          · intro w'
            go_simp
            with_reducible rfl
          rotate_left
          · simp only [Act.put, List.setIfInBounds_toArray, List.set_cons_zero, List.set_cons_succ, i64_w, i32_w]
            rfl
          refine one_ (i := 15) (N := none) #[true, true, true, true, true, true, true, true, true, true, true, true, true, true, true, true] rfl rfl (by kernel_rfl) (by decide) (fun K hK => ?_)
          have hc300 := blk_cellv (v := .int .i64 0) (HS.out.at3) 0 rfl
          have hz301 := blk_fz (HS.out.at3) 0
          have hc302 := blk_cellv (v := .int .i64 0) (HS.out.at3) 1 rfl
          have hz303 := blk_fz (HS.out.at3) 1
          have hc304 := blk_cellv (v := .int .i64 0) (HS.out.at3) 2 rfl
          have hz305 := blk_fz (HS.out.at3) 2
          have hc306 := blk_cellv (v := .int .i64 0) (HS.out.at3) 3 rfl
          have hz307 := blk_fz (HS.out.at3) 3
          have hc308 := blk_cellv (v := .int .i64 0) (HS.out.at3) 4 rfl
          have hz309 := blk_fz (HS.out.at3) 4
          have hc310 := blk_cellv (v := .int .i64 0) (HS.out.at3) 5 rfl
          have hz311 := blk_fz (HS.out.at3) 5
          have hc312 := blk_cellv (v := .int .i64 0) (HS.out.at3) 6 rfl
          have hz313 := blk_fz (HS.out.at3) 6
          have hc314 := blk_cellv (v := .int .i64 0) (HS.out.at3) 7 rfl
          have hz315 := blk_fz (HS.out.at3) 7
          refine store_step (w1 := (World.setCell (World.setCell (World.setCell (World.setCell (World.setCell (World.setCell (World.setCell (World.setCell w298 ⟨g289, 0, none⟩ (.int .i64 t186)) ⟨g289, 1, none⟩ (.int .i64 (wrap64 (a26 - 8)))) ⟨g289, 2, none⟩ (.int .i64 0)) ⟨g289, 3, none⟩ (.int .i64 0)) ⟨g289, 4, none⟩ (.int .i64 0)) ⟨g289, 5, none⟩ (.int .i64 0)) ⟨g289, 6, none⟩ (.int .i64 0)) ⟨g289, 7, none⟩ (.int .i64 0))) (by rfl) rfl ?hr ?_
          case hr => first | (go_simp; done) | (go_simp; rfl)
          clear hc300 hz301 hc302 hz303 hc304 hz305 hc306 hz307 hc308 hz309 hc310 hz311 hc312 hz313 hc314 hz315
          intro w299 hst
          replace HS : Aside0 (Sep (fps []) w [b1 g29 a25 a26 a27 a28, b2 g32 0 0 0 0 0 0 0 0, b3 g212 a25 a26, b2 g289 t186 (wrap64 (a26 - 8)) 0 0 0 0 0 0, b4 g294 24 a27 t160] w299) := ⟨by rw [hst]; exact HS.out.setAll (l1 := [b1 g29 a25 a26 a27 a28, b2 g32 0 0 0 0 0 0 0 0, b3 g212 a25 a26]) (l2 := [b4 g294 24 a27 t160]) [.int .i64 t186, .int .i64 (wrap64 (a26 - 8)), .int .i64 0, .int .i64 0, .int .i64 0, .int .i64 0, .int .i64 0, .int .i64 0] rfl⟩
          clear hst
          refine hK.out _ _ (⟨blk_cellv (HS.out.at0) 2 rfl, blk_cellv (HS.out.at0) 0 rfl, blk_cellv (HS.out.at0) 1 rfl⟩) (fun hHeld => ?_)
          clear hK K
          refine done_ (by kernel_rfl) ?_
          go_wp2_with fail
          go_meet
          case rel => exact ⟨g212, g294, g289, (by first | rfl | (simp [IntKind.wrap_u32]; done)), ⟨(((((HS.out).front 3 (by simp)).front 4 (by simp)).front 4 (by simp)).front 4 (by simp)).front 4 (by simp)⟩⟩
      · refine box_step (by rfl) (N := 5) rfl (cs := #[.int .i64 0, .int .i64 0, .int .i64 0, .int .i64 0, .int .i64 0, .int .i64 0, .int .i64 0, .int .i64 0]) (t := 97) ?hr ?_
        case hr => first | (go_simp; done) | (go_simp; rfl)
        intro g316 hg w317 hbox hb
        replace HS : Aside0 (Sep (fps []) w [b1 g29 a25 a26 a27 a28, b2 g32 0 0 0 0 0 0 0 0, b2 g316 0 0 0 0 0 0 0 0] w317) := ⟨HS.out.box hg hbox hb⟩
        clear hg hbox hb
        refine hK.out _ _ (⟨blk_cellv (HS.out.at0) 2 rfl, blk_cellv (HS.out.at0) 0 rfl, blk_cellv (HS.out.at0) 1 rfl⟩) (fun hHeld => ?_)
        clear hK K
        refine norm_ (a' := ?_) ?_ ?_
        rotate_left
        · show Act.put _ (some 5) _ = _
          simp only [Act.put, List.setIfInBounds_toArray, List.set_cons_zero, List.set_cons_succ, i64_w, i32_w]
          rfl
        refine one_ (i := 6) (N := some 18) #[true, true, true, true, true, true, true, false, false, false, true, true, true, false, true, false] rfl rfl (by kernel_rfl) (by decide) (fun K hK => ?_)
        refine slice_step (n := 2) (by rfl) (N := 18) rfl (cs := #[.int .i64 a25, .int .i64 a26]) (t := 3) ?hr ?_
        case hr => first | (go_simp; done) | (go_simp; rfl)
        intro g319 hg w320 hbox hb
        replace HS : Aside0 (Sep (fps []) w [b1 g29 a25 a26 a27 a28, b2 g32 0 0 0 0 0 0 0 0, b2 g316 0 0 0 0 0 0 0 0, b3 g319 a25 a26] w320) := ⟨HS.out.box hg hbox hb⟩
        clear hg hbox hb
        refine hK.out _ _ (⟨blk_cellv (HS.out.at0) 2 rfl, blk_cellv (HS.out.at0) 0 rfl, blk_cellv (HS.out.at0) 1 rfl⟩) (fun hHeld => ?_)
        clear hK K
        refine norm_ (a' := ?_) ?_ ?_
        rotate_left
        · show Act.put _ (some 18) _ = _
          simp only [Act.put, List.setIfInBounds_toArray, List.set_cons_zero, List.set_cons_succ, i64_w, i32_w]
          rfl
        refine one_ (i := 7) (N := some 19) #[true, true, true, true, true, true, true, true, false, false, true, true, true, false, true, false] rfl rfl (by kernel_rfl) (by decide) (fun K hK => ?_)
        refine goes_ Tryd.func123 (by kernel_rfl) rfl #[.slice (some ⟨g319, 0, none⟩) 2 2] (by rfl) rfl rfl (by (try simp only [List.map_toArray, List.map_cons, List.map_nil]); first | done | rfl) ?_
        refine (ratio_Mul.calls _ [a25, a26] (some ⟨g319, 0, none⟩) 2 t160 _ ⟨Rd.lit (l := []) (xs := [a25, a26]) HS.out 3 rfl (by simp)⟩ ⟨HGl0.out.pass (l := []) HS.out⟩ ⟨Sep.start _⟩ HA161).mono ?_
        rintro e_ w323 ⟨rfl, hS⟩
        replace HS : Aside0 (Sep (fps []) w [b1 g29 a25 a26 a27 a28, b2 g32 0 0 0 0 0 0 0 0, b2 g316 0 0 0 0 0 0 0 0, b3 g319 a25 a26] w323) := ⟨HS.out.call hS⟩
        clear hS
        refine ⟨_, rfl, ?_⟩
        refine hK.out _ _ (⟨blk_cellv (HS.out.at0) 2 rfl, blk_cellv (HS.out.at0) 0 rfl, blk_cellv (HS.out.at0) 1 rfl⟩) (fun hHeld => ?_)
        clear hK K
        refine norm_ (a' := ?_) ?_ ?_
        rotate_left
        · show Act.put _ (some 19) _ = _
          simp only [Act.put, List.setIfInBounds_toArray, List.set_cons_zero, List.set_cons_succ, i64_w, i32_w]
          rfl
        refine one_ (i := 8) (N := some 20) #[true, true, true, true, true, true, true, true, true, false, true, true, true, false, true, false] rfl rfl (by kernel_rfl) (by decide) (fun K hK => ?_)
        refine slice_step (n := 3) (by rfl) (N := 20) rfl (cs := #[.int .i64 24, .int .i64 a27, .int .i64 t160]) (t := 3) ?hr ?_
        case hr => first | (go_simp; done) | (go_simp; rfl)
        intro g324 hg w325 hbox hb
        replace HS : Aside0 (Sep (fps []) w [b1 g29 a25 a26 a27 a28, b2 g32 0 0 0 0 0 0 0 0, b2 g316 0 0 0 0 0 0 0 0, b3 g319 a25 a26, b4 g324 24 a27 t160] w325) := ⟨HS.out.box hg hbox hb⟩
        clear hg hbox hb
        refine hK.out _ _ (⟨blk_cellv (HS.out.at0) 2 rfl, blk_cellv (HS.out.at0) 0 rfl, blk_cellv (HS.out.at0) 1 rfl⟩) (fun hHeld => ?_)
        clear hK K
        refine norm_ (a' := ?_) ?_ ?_
        rotate_left
        · show Act.put _ (some 20) _ = _
          simp only [Act.put, List.setIfInBounds_toArray, List.set_cons_zero, List.set_cons_succ, i64_w, i32_w]
          rfl
        refine one_ (i := 9) (N := some 21) #[true, true, true, true, true, true, true, true, true, true, true, true, true, false, true, false] rfl rfl (by kernel_rfl) (by decide) (fun K hK => ?_)
        refine goes_ Tryd.func122 (by kernel_rfl) rfl #[.slice (some ⟨g324, 0, none⟩) 3 3] (by rfl) rfl rfl (by (try simp only [List.map_toArray, List.map_cons, List.map_nil]); first | done | rfl) ?_
        refine (ratio_Add.calls _ [24, a27, t160] (some ⟨g324, 0, none⟩) 3 t186 _ ⟨Rd.lit (l := []) (xs := [24, a27, t160]) HS.out 4 rfl (by simp)⟩ ⟨HGl0.out.pass (l := []) HS.out⟩ ⟨Sep.start _⟩ HA187).mono ?_
        rintro e_ w328 ⟨rfl, hS⟩
        replace HS : Aside0 (Sep (fps []) w [b1 g29 a25 a26 a27 a28, b2 g32 0 0 0 0 0 0 0 0, b2 g316 0 0 0 0 0 0 0 0, b3 g319 a25 a26, b4 g324 24 a27 t160] w328) := ⟨HS.out.call hS⟩
        clear hS
        refine ⟨_, rfl, ?_⟩
        refine hK.out _ _ (⟨blk_cellv (HS.out.at0) 2 rfl, blk_cellv (HS.out.at0) 0 rfl, blk_cellv (HS.out.at0) 1 rfl⟩) (fun hHeld => ?_)
        clear hK K
        refine norm_ (a' := ?_) ?_ ?_
        rotate_left
        · show Act.put _ (some 21) _ = _
          simp only [Act.put, List.setIfInBounds_toArray, List.set_cons_zero, List.set_cons_succ, i64_w, i32_w]
          rfl
        refine pure_ (i := 13) (N := some 25) (v := ?_) (a' := ?_) #[true, true, true, true, true, true, true, true, true, true, true, true, true, true, true, false] rfl rfl (by kernel_rfl) (fun _ _ _ h => h) (Or.inl ⟨by rfl, ?_⟩) ?_ ?_
        rotate_left
        · intro w'
          go_simp
          with_reducible rfl
        rotate_left
        · simp only [Act.put, List.setIfInBounds_toArray, List.set_cons_zero, List.set_cons_succ, i64_w, i32_w]
          rfl
        refine one_ (i := 15) (N := none) #[true, true, true, true, true, true, true, true, true, true, true, true, true, true, true, true] rfl rfl (by kernel_rfl) (by decide) (fun K hK => ?_)
        have hc330 := blk_cellv (v := .int .i64 0) (HS.out.at2) 0 rfl
        have hz331 := blk_fz (HS.out.at2) 0
        have hc332 := blk_cellv (v := .int .i64 0) (HS.out.at2) 1 rfl
        have hz333 := blk_fz (HS.out.at2) 1
        have hc334 := blk_cellv (v := .int .i64 0) (HS.out.at2) 2 rfl
        have hz335 := blk_fz (HS.out.at2) 2
        have hc336 := blk_cellv (v := .int .i64 0) (HS.out.at2) 3 rfl
        have hz337 := blk_fz (HS.out.at2) 3
        have hc338 := blk_cellv (v := .int .i64 0) (HS.out.at2) 4 rfl
        have hz339 := blk_fz (HS.out.at2) 4
        have hc340 := blk_cellv (v := .int .i64 0) (HS.out.at2) 5 rfl
        have hz341 := blk_fz (HS.out.at2) 5
        have hc342 := blk_cellv (v := .int .i64 0) (HS.out.at2) 6 rfl
        have hz343 := blk_fz (HS.out.at2) 6
        have hc344 := blk_cellv (v := .int .i64 0) (HS.out.at2) 7 rfl
        have hz345 := blk_fz (HS.out.at2) 7
        refine store_step (w1 := (World.setCell (World.setCell (World.setCell (World.setCell (World.setCell (World.setCell (World.setCell (World.setCell w328 ⟨g316, 0, none⟩ (.int .i64 t186)) ⟨g316, 1, none⟩ (.int .i64 (wrap64 (a26 - 8)))) ⟨g316, 2, none⟩ (.int .i64 0)) ⟨g316, 3, none⟩ (.int .i64 0)) ⟨g316, 4, none⟩ (.int .i64 0)) ⟨g316, 5, none⟩ (.int .i64 0)) ⟨g316, 6, none⟩ (.int .i64 0)) ⟨g316, 7, none⟩ (.int .i64 0))) (by rfl) rfl ?hr ?_
        case hr => first | (go_simp; done) | (go_simp; rfl)
        clear hc330 hz331 hc332 hz333 hc334 hz335 hc336 hz337 hc338 hz339 hc340 hz341 hc342 hz343 hc344 hz345
        intro w329 hst
        replace HS : Aside0 (Sep (fps []) w [b1 g29 a25 a26 a27 a28, b2 g32 0 0 0 0 0 0 0 0, b2 g316 t186 (wrap64 (a26 - 8)) 0 0 0 0 0 0, b3 g319 a25 a26, b4 g324 24 a27 t160] w329) := ⟨by rw [hst]; exact HS.out.setAll (l1 := [b1 g29 a25 a26 a27 a28, b2 g32 0 0 0 0 0 0 0 0]) (l2 := [b3 g319 a25 a26, b4 g324 24 a27 t160]) [.int .i64 t186, .int .i64 (wrap64 (a26 - 8)), .int .i64 0, .int .i64 0, .int .i64 0, .int .i64 0, .int .i64 0, .int .i64 0] rfl⟩
        clear hst
        refine hK.out _ _ (⟨blk_cellv (HS.out.at0) 2 rfl, blk_cellv (HS.out.at0) 0 rfl, blk_cellv (HS.out.at0) 1 rfl⟩) (fun hHeld => ?_)
        clear hK K
        refine done_ (by kernel_rfl) ?_
        go_wp2_with fail
        go_meet
        case rel => exact ⟨g319, g324, g316, (by first | rfl | (simp [IntKind.wrap_u32]; done)), ⟨(((((HS.out).front 2 (by simp)).front 4 (by simp)).front 4 (by simp)).front 4 (by simp)).front 4 (by simp)⟩⟩
    case rest =>
      clear HS
      obtain ⟨g86, g163, g189, rfl, HS⟩ := hcut
      obtain ⟨w209, rfl⟩ : ∃ x : World, x = wc := ⟨_, rfl⟩
      replace HS : Aside0 (Sep (fps []) w [b1 g29 a25 a26 a27 a28, b2 g32 0 0 0 0 0 0 0 0, b2 g189 t186 (wrap64 (a26 - 8)) 0 0 0 0 0 0] w209) := ⟨HS.out.sub (.cons_cons _ (.cons_cons _ (.cons _ (.cons _ (.cons_cons _ .slnil)))))⟩
      have hc346 : w209.cell? ⟨g189, 1, none⟩ = some (.int .i64 (wrap64 (a26 - 8))) := blk_cellv (HS.out.at2) 1 rfl
      have hc347 : w209.cell? ⟨g189, 2, none⟩ = some (.int .i64 0) := blk_cellv (HS.out.at2) 2 rfl
      have hz348 : w209.frozen? ⟨g189, 2, none⟩ = false := blk_fz (HS.out.at2) 2
      go_wp2_with (first | ((with_reducible refine gate_store (t := 3) (p := 29) rfl ?_); refine store_event (w1 := (World.setCell w209 ⟨g189, 2, none⟩ (.int .i64 (wrap64 ((wrap64 (a26 - 8)) + 1))))) rfl (t := 3) (p := 29) rfl rfl ?hr ?_; (case hr => first | (go_simp; done) | (go_simp; rfl)); intro w349 hst; clear hc346 hc347 hz348; have hq0 : Sep (fps []) w [b1 g29 a25 a26 a27 a28, b2 g32 0 0 0 0 0 0 0 0, b2 g189 t186 (wrap64 (a26 - 8)) (wrap64 ((wrap64 (a26 - 8)) + 1)) 0 0 0 0 0] (World.setCell w209 ⟨g189, 2, none⟩ (.int .i64 (wrap64 ((wrap64 (a26 - 8)) + 1)))) := (HS.out).set1 (l1 := [b1 g29 a25 a26 a27 a28, b2 g32 0 0 0 0 0 0 0 0]) (l2 := []) 2 (.int .i64 (wrap64 ((wrap64 (a26 - 8)) + 1))); replace HS : Aside0 (Sep (fps []) w [b1 g29 a25 a26 a27 a28, b2 g32 0 0 0 0 0 0 0 0, b2 g189 t186 (wrap64 (a26 - 8)) (wrap64 ((wrap64 (a26 - 8)) + 1)) 0 0 0 0 0] w349) := ⟨by rw [hst]; exact hq0⟩; clear hq0; clear hst; have hc350 : w349.cell? ⟨g189, 1, none⟩ = some (.int .i64 (wrap64 (a26 - 8))) := blk_cellv (HS.out.at2) 1 rfl; have hc351 : w349.cell? ⟨g29, 1, none⟩ = some (.int .i64 a26) := blk_cellv (HS.out.at0) 1 rfl) | ((with_reducible refine gate_dst (N := 35) rfl ?_); refine slice_on (n := 2) ?hg (N := 35) ?hd (cs := #[.int .i64 (wrap64 (a26 - 8)), .int .i64 (wrap64 (a26 - 1))]) (t := 3) ?hr ?_; (case hd => rfl); (case hg => rfl); (case hr => first | (go_simp; done) | (go_simp; rfl)); intro g352 hg w353 hbox hb; clear hc350 hc351; replace HS : Aside0 (Sep (fps []) w [b1 g29 a25 a26 a27 a28, b2 g32 0 0 0 0 0 0 0 0, b2 g189 t186 (wrap64 (a26 - 8)) (wrap64 ((wrap64 (a26 - 8)) + 1)) 0 0 0 0 0, b3 g352 (wrap64 (a26 - 8)) (wrap64 (a26 - 1))] w353) := ⟨HS.out.box hg hbox hb⟩; clear hg hbox hb))
      obtain ⟨t355, HA356, H⟩ := bind_some H
      refine (ratio_Mul.calls _ [wrap64 (a26 - 8), wrap64 (a26 - 1)] (some ⟨g352, 0, none⟩) 2 t355 _ ⟨Rd.lit (l := []) (xs := [wrap64 (a26 - 8), wrap64 (a26 - 1)]) HS.out 3 rfl (by simp)⟩ ⟨HGl0.out.pass (l := []) HS.out⟩ ⟨Sep.start _⟩ HA356).mono ?_
      rintro e_ w357 ⟨rfl, hS⟩
      replace HS : Aside0 (Sep (fps []) w [b1 g29 a25 a26 a27 a28, b2 g32 0 0 0 0 0 0 0 0, b2 g189 t186 (wrap64 (a26 - 8)) (wrap64 ((wrap64 (a26 - 8)) + 1)) 0 0 0 0 0, b3 g352 (wrap64 (a26 - 8)) (wrap64 (a26 - 1))] w357) := ⟨HS.out.call hS⟩
      clear hS
      have hc358 : w357.cell? ⟨g189, 3, none⟩ = some (.int .i64 0) := blk_cellv (HS.out.at2) 3 rfl
      have hz359 : w357.frozen? ⟨g189, 3, none⟩ = false := blk_fz (HS.out.at2) 3
      go_wp2_with (first | ((with_reducible refine gate_store (t := 3) (p := 37) rfl ?_); refine store_event (w1 := (World.setCell w357 ⟨g189, 3, none⟩ (.int .i64 t355))) rfl (t := 3) (p := 37) rfl rfl ?hr ?_; (case hr => first | (go_simp; done) | (go_simp; rfl)); intro w360 hst; clear hc358 hz359; have hq0 : Sep (fps []) w [b1 g29 a25 a26 a27 a28, b2 g32 0 0 0 0 0 0 0 0, b2 g189 t186 (wrap64 (a26 - 8)) (wrap64 ((wrap64 (a26 - 8)) + 1)) t355 0 0 0 0, b3 g352 (wrap64 (a26 - 8)) (wrap64 (a26 - 1))] (World.setCell w357 ⟨g189, 3, none⟩ (.int .i64 t355)) := (HS.out).set1 (l1 := [b1 g29 a25 a26 a27 a28, b2 g32 0 0 0 0 0 0 0 0]) (l2 := [b3 g352 (wrap64 (a26 - 8)) (wrap64 (a26 - 1))]) 3 (.int .i64 t355); replace HS : Aside0 (Sep (fps []) w [b1 g29 a25 a26 a27 a28, b2 g32 0 0 0 0 0 0 0 0, b2 g189 t186 (wrap64 (a26 - 8)) (wrap64 ((wrap64 (a26 - 8)) + 1)) t355 0 0 0 0, b3 g352 (wrap64 (a26 - 8)) (wrap64 (a26 - 1))] w360) := ⟨by rw [hst]; exact hq0⟩; clear hq0; clear hst; replace HS : Aside0 (Sep (fps []) w [b1 g29 a25 a26 a27 a28, b2 g32 0 0 0 0 0 0 0 0, b2 g189 t186 (wrap64 (a26 - 8)) (wrap64 ((wrap64 (a26 - 8)) + 1)) t355 0 0 0 0] w360) := ⟨HS.out.sub (.cons_cons _ (.cons_cons _ (.cons_cons _ (.cons _ .slnil))))⟩; have hc361 : w360.cell? ⟨g29, 0, none⟩ = some (.int .i64 a25) := blk_cellv (HS.out.at0) 0 rfl; have hc362 : w360.cell? ⟨g29, 1, none⟩ = some (.int .i64 a26) := blk_cellv (HS.out.at0) 1 rfl) | ((with_reducible refine gate_dst (N := 43) rfl ?_); refine slice_on (n := 2) ?hg (N := 43) ?hd (cs := #[.int .i64 a25, .int .i64 (wrap64 (a26 + 1))]) (t := 3) ?hr ?_; (case hd => rfl); (case hg => rfl); (case hr => first | (go_simp; done) | (go_simp; rfl)); intro g363 hg w364 hbox hb; clear hc361 hc362; replace HS : Aside0 (Sep (fps []) w [b1 g29 a25 a26 a27 a28, b2 g32 0 0 0 0 0 0 0 0, b2 g189 t186 (wrap64 (a26 - 8)) (wrap64 ((wrap64 (a26 - 8)) + 1)) t355 0 0 0 0, b3 g363 a25 (wrap64 (a26 + 1))] w364) := ⟨HS.out.box hg hbox hb⟩; clear hg hbox hb))
      obtain ⟨t366, HA367, H⟩ := bind_some H
      refine (ratio_Mul.calls _ [a25, wrap64 (a26 + 1)] (some ⟨g363, 0, none⟩) 2 t366 _ ⟨Rd.lit (l := []) (xs := [a25, wrap64 (a26 + 1)]) HS.out 3 rfl (by simp)⟩ ⟨HGl0.out.pass (l := []) HS.out⟩ ⟨Sep.start _⟩ HA367).mono ?_
      rintro e_ w368 ⟨rfl, hS⟩
      replace HS : Aside0 (Sep (fps []) w [b1 g29 a25 a26 a27 a28, b2 g32 0 0 0 0 0 0 0 0, b2 g189 t186 (wrap64 (a26 - 8)) (wrap64 ((wrap64 (a26 - 8)) + 1)) t355 0 0 0 0, b3 g363 a25 (wrap64 (a26 + 1))] w368) := ⟨HS.out.call hS⟩
      clear hS
      have hc369 : w368.cell? ⟨g189, 5, none⟩ = some (.int .i64 0) := blk_cellv (HS.out.at2) 5 rfl
      have hz370 : w368.frozen? ⟨g189, 5, none⟩ = false := blk_fz (HS.out.at2) 5
      go_wp2_with (first | ((with_reducible refine gate_store (t := 3) (p := 45) rfl ?_); refine store_event (w1 := (World.setCell w368 ⟨g189, 5, none⟩ (.int .i64 t366))) rfl (t := 3) (p := 45) rfl rfl ?hr ?_; (case hr => first | (go_simp; done) | (go_simp; rfl)); intro w371 hst; clear hc369 hz370; have hq0 : Sep (fps []) w [b1 g29 a25 a26 a27 a28, b2 g32 0 0 0 0 0 0 0 0, b2 g189 t186 (wrap64 (a26 - 8)) (wrap64 ((wrap64 (a26 - 8)) + 1)) t355 0 t366 0 0, b3 g363 a25 (wrap64 (a26 + 1))] (World.setCell w368 ⟨g189, 5, none⟩ (.int .i64 t366)) := (HS.out).set1 (l1 := [b1 g29 a25 a26 a27 a28, b2 g32 0 0 0 0 0 0 0 0]) (l2 := [b3 g363 a25 (wrap64 (a26 + 1))]) 5 (.int .i64 t366); replace HS : Aside0 (Sep (fps []) w [b1 g29 a25 a26 a27 a28, b2 g32 0 0 0 0 0 0 0 0, b2 g189 t186 (wrap64 (a26 - 8)) (wrap64 ((wrap64 (a26 - 8)) + 1)) t355 0 t366 0 0, b3 g363 a25 (wrap64 (a26 + 1))] w371) := ⟨by rw [hst]; exact hq0⟩; clear hq0; clear hst; replace HS : Aside0 (Sep (fps []) w [b1 g29 a25 a26 a27 a28, b2 g32 0 0 0 0 0 0 0 0, b2 g189 t186 (wrap64 (a26 - 8)) (wrap64 ((wrap64 (a26 - 8)) + 1)) t355 0 t366 0 0] w371) := ⟨HS.out.sub (.cons_cons _ (.cons_cons _ (.cons_cons _ (.cons _ .slnil))))⟩; have hc372 : w371.cell? ⟨g189, 5, none⟩ = some (.int .i64 t366) := blk_cellv (HS.out.at2) 5 rfl) | ((with_reducible refine gate_dst (N := 48) rfl ?_); refine slice_on (n := 2) ?hg (N := 48) ?hd (cs := #[.int .i64 3, .int .i64 t366]) (t := 3) ?hr ?_; (case hd => rfl); (case hg => rfl); (case hr => first | (go_simp; done) | (go_simp; rfl)); intro g373 hg w374 hbox hb; clear hc372; replace HS : Aside0 (Sep (fps []) w [b1 g29 a25 a26 a27 a28, b2 g32 0 0 0 0 0 0 0 0, b2 g189 t186 (wrap64 (a26 - 8)) (wrap64 ((wrap64 (a26 - 8)) + 1)) t355 0 t366 0 0, b3 g373 3 t366] w374) := ⟨HS.out.box hg hbox hb⟩; clear hg hbox hb))
      obtain ⟨t376, HA377, H⟩ := bind_some H
      refine (ratio_Mul.calls _ [3, t366] (some ⟨g373, 0, none⟩) 2 t376 _ ⟨Rd.lit (l := []) (xs := [3, t366]) HS.out 3 rfl (by simp)⟩ ⟨HGl0.out.pass (l := []) HS.out⟩ ⟨Sep.start _⟩ HA377).mono ?_
      rintro e_ w378 ⟨rfl, hS⟩
      replace HS : Aside0 (Sep (fps []) w [b1 g29 a25 a26 a27 a28, b2 g32 0 0 0 0 0 0 0 0, b2 g189 t186 (wrap64 (a26 - 8)) (wrap64 ((wrap64 (a26 - 8)) + 1)) t355 0 t366 0 0, b3 g373 3 t366] w378) := ⟨HS.out.call hS⟩
      clear hS
      go_wp2_with (first | ((with_reducible refine gate_dst (N := 50) rfl ?_); refine slice_on (n := 2) ?hg (N := 50) ?hd (cs := #[.int .i64 t376, .int .i64 4]) (t := 3) ?hr ?_; (case hd => rfl); (case hg => rfl); (case hr => first | (go_simp; done) | (go_simp; rfl)); intro g379 hg w380 hbox hb; replace HS : Aside0 (Sep (fps []) w [b1 g29 a25 a26 a27 a28, b2 g32 0 0 0 0 0 0 0 0, b2 g189 t186 (wrap64 (a26 - 8)) (wrap64 ((wrap64 (a26 - 8)) + 1)) t355 0 t366 0 0, b3 g373 3 t366, b3 g379 t376 4] w380) := ⟨HS.out.box hg hbox hb⟩; clear hg hbox hb))
      obtain ⟨t382, HA383, H⟩ := bind_some H
      refine (ratio_Add.calls _ [t376, 4] (some ⟨g379, 0, none⟩) 2 t382 _ ⟨Rd.lit (l := []) (xs := [t376, 4]) HS.out 4 rfl (by simp)⟩ ⟨HGl0.out.pass (l := []) HS.out⟩ ⟨Sep.start _⟩ HA383).mono ?_
      rintro e_ w384 ⟨rfl, hS⟩
      replace HS : Aside0 (Sep (fps []) w [b1 g29 a25 a26 a27 a28, b2 g32 0 0 0 0 0 0 0 0, b2 g189 t186 (wrap64 (a26 - 8)) (wrap64 ((wrap64 (a26 - 8)) + 1)) t355 0 t366 0 0, b3 g373 3 t366, b3 g379 t376 4] w384) := ⟨HS.out.call hS⟩
      clear hS
      have hc385 : w384.cell? ⟨g189, 4, none⟩ = some (.int .i64 0) := blk_cellv (HS.out.at2) 4 rfl
      have hz386 : w384.frozen? ⟨g189, 4, none⟩ = false := blk_fz (HS.out.at2) 4
      go_wp2_with (first | ((with_reducible refine gate_store (t := 3) (p := 52) rfl ?_); refine store_event (w1 := (World.setCell w384 ⟨g189, 4, none⟩ (.int .i64 t382))) rfl (t := 3) (p := 52) rfl rfl ?hr ?_; (case hr => first | (go_simp; done) | (go_simp; rfl)); intro w387 hst; clear hc385 hz386; have hq0 : Sep (fps []) w [b1 g29 a25 a26 a27 a28, b2 g32 0 0 0 0 0 0 0 0, b2 g189 t186 (wrap64 (a26 - 8)) (wrap64 ((wrap64 (a26 - 8)) + 1)) t355 t382 t366 0 0, b3 g373 3 t366, b3 g379 t376 4] (World.setCell w384 ⟨g189, 4, none⟩ (.int .i64 t382)) := (HS.out).set1 (l1 := [b1 g29 a25 a26 a27 a28, b2 g32 0 0 0 0 0 0 0 0]) (l2 := [b3 g373 3 t366, b3 g379 t376 4]) 4 (.int .i64 t382); replace HS : Aside0 (Sep (fps []) w [b1 g29 a25 a26 a27 a28, b2 g32 0 0 0 0 0 0 0 0, b2 g189 t186 (wrap64 (a26 - 8)) (wrap64 ((wrap64 (a26 - 8)) + 1)) t355 t382 t366 0 0, b3 g373 3 t366, b3 g379 t376 4] w387) := ⟨by rw [hst]; exact hq0⟩; clear hq0; clear hst; replace HS : Aside0 (Sep (fps []) w [b1 g29 a25 a26 a27 a28, b2 g32 0 0 0 0 0 0 0 0, b2 g189 t186 (wrap64 (a26 - 8)) (wrap64 ((wrap64 (a26 - 8)) + 1)) t355 t382 t366 0 0] w387) := ⟨HS.out.sub (.cons_cons _ (.cons_cons _ (.cons_cons _ (.cons _ (.cons _ .slnil)))))⟩))
      obtain ⟨t407, HA408, H⟩ := bind_some H
      obtain ⟨t413, HA414, H⟩ := bind_some H
      obtain ⟨t419, HA420, H⟩ := bind_some H
      obtain ⟨t425, HA426, H⟩ := bind_some H
      go_cut [] (fun wc => ∃ (g410 : Nat) (g416 : Nat) (g422 : Nat), Aside0 (Sep (fps []) w [b1 g29 a25 a26 a27 a28, b2 g32 0 0 0 0 0 0 0 0, b2 g189 t186 (wrap64 (a26 - 8)) (wrap64 ((wrap64 (a26 - 8)) + 1)) t355 t382 t366 t425 0, b3 g410 2 t407, b3 g416 2 (wrap64 ((wrap64 (a26 - 8)) + 1)), b3 g422 t413 t419] wc))
      case first =>
        go_wp2_with fail
        refine start_ (n := 15) (S := (fun w' => w'.cell? ⟨g189, 4, none⟩ = some (.int .i64 t382) ∧ w'.cell? ⟨g29, 3, none⟩ = some (.int .i64 a28) ∧ w'.cell? ⟨g189, 2, none⟩ = some (.int .i64 (wrap64 ((wrap64 (a26 - 8)) + 1))))) (ds := []) #[false, false, false, false, false, false, false, false, false, false, false, false, false, false, false] (by kernel_rfl) rfl rfl (⟨blk_cellv ((HS.out.drew).at2) 4 rfl, blk_cellv ((HS.out.drew).at0) 3 rfl, blk_cellv ((HS.out.drew).at2) 2 rfl⟩) (fun hHeld => ?_)
        have HS_ := Aside0.mk HS.out.drew
        clear HS
        generalize World.drew _ = w433 at HS_ hHeld ⊢
        have HS := HS_
        clear HS_
        refine pure_ (i := 0) (N := some 53) (v := ?_) (a' := ?_) #[true, false, false, false, false, false, false, false, false, false, false, false, false, false, false] rfl rfl (by kernel_rfl) (fun _ _ _ h => h) (Or.inl ⟨by rfl, ?_⟩) ?_ ?_
        rotate_left
        · intro w'
          go_simp
          with_reducible rfl
        rotate_left
        · simp only [Act.put, List.setIfInBounds_toArray, List.set_cons_zero, List.set_cons_succ, i64_w, i32_w]
          rfl
        refine pure_ (i := 2) (N := some 55) (v := ?_) (a' := ?_) #[true, false, true, false, false, false, false, false, false, false, false, false, false, false, false] rfl rfl (by kernel_rfl) (fun _ _ _ h => h) (Or.inl ⟨by rfl, ?_⟩) ?_ ?_
        rotate_left
        · intro w'
          go_simp
          with_reducible rfl
        rotate_left
        · simp only [Act.put, List.setIfInBounds_toArray, List.set_cons_zero, List.set_cons_succ, i64_w, i32_w]
          rfl
        refine pure_ (i := 7) (N := some 60) (v := ?_) (a' := ?_) #[true, false, true, false, false, false, false, true, false, false, false, false, false, false, false] rfl rfl (by kernel_rfl) (fun _ _ _ h => h) (Or.inl ⟨by rfl, ?_⟩) ?_ ?_
        rotate_left
        · intro w'
          go_simp
          with_reducible rfl
        rotate_left
        · simp only [Act.put, List.setIfInBounds_toArray, List.set_cons_zero, List.set_cons_succ, i64_w, i32_w]
          rfl
        refine take_ (i := 1) (N := some 54) (v := ?_) (a' := ?_) #[true, true, true, false, false, false, false, true, false, false, false, false, false, false, false] rfl rfl (by kernel_rfl) (fun _ _ _ h => h) (Or.inl ⟨by rfl, ?_⟩) hHeld ?_ ?_
        rotate_left
        · rintro w' hS'
          obtain ⟨s0, s1, s2⟩ := hS'
          go_simp
          with_reducible rfl
        rotate_left
        · simp only [Act.put, List.setIfInBounds_toArray, List.set_cons_zero, List.set_cons_succ, i64_w, i32_w]
          rfl
        refine take_ (i := 3) (N := some 56) (v := ?_) (a' := ?_) #[true, true, true, true, false, false, false, true, false, false, false, false, false, false, false] rfl rfl (by kernel_rfl) (fun _ _ _ h => h) (Or.inl ⟨by rfl, ?_⟩) hHeld ?_ ?_
        rotate_left
        · rintro w' hS'
          obtain ⟨s0, s1, s2⟩ := hS'
          go_simp
          with_reducible rfl
        rotate_left
        · simp only [Act.put, List.setIfInBounds_toArray, List.set_cons_zero, List.set_cons_succ, i64_w, i32_w]
          rfl
        refine take_ (i := 8) (N := some 61) (v := ?_) (a' := ?_) #[true, true, true, true, false, false, false, true, true, false, false, false, false, false, false] rfl rfl (by kernel_rfl) (fun _ _ _ h => h) (Or.inl ⟨by rfl, ?_⟩) hHeld ?_ ?_
        rotate_left
        · rintro w' hS'
          obtain ⟨s0, s1, s2⟩ := hS'
          go_simp
          with_reducible rfl
        rotate_left
        · simp only [Act.put, List.setIfInBounds_toArray, List.set_cons_zero, List.set_cons_succ, i64_w, i32_w]
          rfl
        refine two_ (i := 4) (j := 9) (Ni := some 57) (Nj := some 62) #[true, true, true, true, true, false, false, true, true, false, false, false, false, false, false] #[true, true, true, true, false, false, false, true, true, true, false, false, false, false, false] rfl rfl rfl rfl (by kernel_rfl) (by decide) (by decide) (fun K hK => ?_) (fun K hK => ?_)
        · refine goes_ Tryd.func124 (by kernel_rfl) rfl #[.int .i64 t382, .int .i64 a28] (by rfl) rfl rfl (by (try simp only [List.map_toArray, List.map_cons, List.map_nil]); first | done | rfl) ?_
          refine (ratio_Up.calls t382 a28 t407 _ ⟨HGl0.out.pass (l := []) HS.out⟩ ⟨Sep.start _⟩ HA408).mono ?_
          rintro e_ w435 ⟨rfl, hS⟩
          replace HS : Aside0 (Sep (fps []) w [b1 g29 a25 a26 a27 a28, b2 g32 0 0 0 0 0 0 0 0, b2 g189 t186 (wrap64 (a26 - 8)) (wrap64 ((wrap64 (a26 - 8)) + 1)) t355 t382 t366 0 0] w435) := ⟨HS.out.call hS⟩
          clear hS
          refine ⟨_, rfl, ?_⟩
          refine hK.out _ _ (⟨blk_cellv (HS.out.at2) 4 rfl, blk_cellv (HS.out.at0) 3 rfl, blk_cellv (HS.out.at2) 2 rfl⟩) (fun hHeld => ?_)
          clear hK K
          refine norm_ (a' := ?_) ?_ ?_
          rotate_left
          · show Act.put _ (some 57) _ = _
            simp only [Act.put, List.setIfInBounds_toArray, List.set_cons_zero, List.set_cons_succ, i64_w, i32_w]
            rfl
          refine two_ (i := 5) (j := 9) (Ni := some 58) (Nj := some 62) #[true, true, true, true, true, true, false, true, true, false, false, false, false, false, false] #[true, true, true, true, true, false, false, true, true, true, false, false, false, false, false] rfl rfl rfl rfl (by kernel_rfl) (by decide) (by decide) (fun K hK => ?_) (fun K hK => ?_)
          · refine slice_step (n := 2) (by rfl) (N := 58) rfl (cs := #[.int .i64 2, .int .i64 t407]) (t := 3) ?hr ?_
            case hr => first | (go_simp; done) | (go_simp; rfl)
            intro g436 hg w437 hbox hb
            replace HS : Aside0 (Sep (fps []) w [b1 g29 a25 a26 a27 a28, b2 g32 0 0 0 0 0 0 0 0, b2 g189 t186 (wrap64 (a26 - 8)) (wrap64 ((wrap64 (a26 - 8)) + 1)) t355 t382 t366 0 0, b3 g436 2 t407] w437) := ⟨HS.out.box hg hbox hb⟩
            clear hg hbox hb
            refine hK.out _ _ (⟨blk_cellv (HS.out.at2) 4 rfl, blk_cellv (HS.out.at0) 3 rfl, blk_cellv (HS.out.at2) 2 rfl⟩) (fun hHeld => ?_)
            clear hK K
            refine norm_ (a' := ?_) ?_ ?_
            rotate_left
            · show Act.put _ (some 58) _ = _
              simp only [Act.put, List.setIfInBounds_toArray, List.set_cons_zero, List.set_cons_succ, i64_w, i32_w]
              rfl
            refine two_ (i := 6) (j := 9) (Ni := some 59) (Nj := some 62) #[true, true, true, true, true, true, true, true, true, false, false, false, false, false, false] #[true, true, true, true, true, true, false, true, true, true, false, false, false, false, false] rfl rfl rfl rfl (by kernel_rfl) (by decide) (by decide) (fun K hK => ?_) (fun K hK => ?_)
            · refine goes_ Tryd.func123 (by kernel_rfl) rfl #[.slice (some ⟨g436, 0, none⟩) 2 2] (by rfl) rfl rfl (by (try simp only [List.map_toArray, List.map_cons, List.map_nil]); first | done | rfl) ?_
              refine (ratio_Mul.calls _ [2, t407] (some ⟨g436, 0, none⟩) 2 t413 _ ⟨Rd.lit (l := []) (xs := [2, t407]) HS.out 3 rfl (by simp)⟩ ⟨HGl0.out.pass (l := []) HS.out⟩ ⟨Sep.start _⟩ HA414).mono ?_
              rintro e_ w440 ⟨rfl, hS⟩
              replace HS : Aside0 (Sep (fps []) w [b1 g29 a25 a26 a27 a28, b2 g32 0 0 0 0 0 0 0 0, b2 g189 t186 (wrap64 (a26 - 8)) (wrap64 ((wrap64 (a26 - 8)) + 1)) t355 t382 t366 0 0, b3 g436 2 t407] w440) := ⟨HS.out.call hS⟩
              clear hS
              refine ⟨_, rfl, ?_⟩
              refine hK.out _ _ (⟨blk_cellv (HS.out.at2) 4 rfl, blk_cellv (HS.out.at0) 3 rfl, blk_cellv (HS.out.at2) 2 rfl⟩) (fun hHeld => ?_)
              clear hK K
              refine norm_ (a' := ?_) ?_ ?_
              rotate_left
              · show Act.put _ (some 59) _ = _
                simp only [Act.put, List.setIfInBounds_toArray, List.set_cons_zero, List.set_cons_succ, i64_w, i32_w]
                rfl
              refine one_ (i := 9) (N := some 62) #[true, true, true, true, true, true, true, true, true, true, false, false, false, false, false] rfl rfl (by kernel_rfl) (by decide) (fun K hK => ?_)
              refine slice_step (n := 2) (by rfl) (N := 62) rfl (cs := #[.int .i64 2, .int .i64 (wrap64 ((wrap64 (a26 - 8)) + 1))]) (t := 3) ?hr ?_
              case hr => first | (go_simp; done) | (go_simp; rfl)
              intro g441 hg w442 hbox hb
              replace HS : Aside0 (Sep (fps []) w [b1 g29 a25 a26 a27 a28, b2 g32 0 0 0 0 0 0 0 0, b2 g189 t186 (wrap64 (a26 - 8)) (wrap64 ((wrap64 (a26 - 8)) + 1)) t355 t382 t366 0 0, b3 g436 2 t407, b3 g441 2 (wrap64 ((wrap64 (a26 - 8)) + 1))] w442) := ⟨HS.out.box hg hbox hb⟩
              clear hg hbox hb
              refine hK.out _ _ (⟨blk_cellv (HS.out.at2) 4 rfl, blk_cellv (HS.out.at0) 3 rfl, blk_cellv (HS.out.at2) 2 rfl⟩) (fun hHeld => ?_)
              clear hK K
              refine norm_ (a' := ?_) ?_ ?_
              rotate_left
              · show Act.put _ (some 62) _ = _
                simp only [Act.put, List.setIfInBounds_toArray, List.set_cons_zero, List.set_cons_succ, i64_w, i32_w]
                rfl
              refine one_ (i := 10) (N := some 63) #[true, true, true, true, true, true, true, true, true, true, true, false, false, false, false] rfl rfl (by kernel_rfl) (by decide) (fun K hK => ?_)
              refine goes_ Tryd.func123 (by kernel_rfl) rfl #[.slice (some ⟨g441, 0, none⟩) 2 2] (by rfl) rfl rfl (by (try simp only [List.map_toArray, List.map_cons, List.map_nil]); first | done | rfl) ?_
              refine (ratio_Mul.calls _ [2, wrap64 ((wrap64 (a26 - 8)) + 1)] (some ⟨g441, 0, none⟩) 2 t419 _ ⟨Rd.lit (l := []) (xs := [2, wrap64 ((wrap64 (a26 - 8)) + 1)]) HS.out 4 rfl (by simp)⟩ ⟨HGl0.out.pass (l := []) HS.out⟩ ⟨Sep.start _⟩ HA420).mono ?_
              rintro e_ w445 ⟨rfl, hS⟩
              replace HS : Aside0 (Sep (fps []) w [b1 g29 a25 a26 a27 a28, b2 g32 0 0 0 0 0 0 0 0, b2 g189 t186 (wrap64 (a26 - 8)) (wrap64 ((wrap64 (a26 - 8)) + 1)) t355 t382 t366 0 0, b3 g436 2 t407, b3 g441 2 (wrap64 ((wrap64 (a26 - 8)) + 1))] w445) := ⟨HS.out.call hS⟩
              clear hS
              refine ⟨_, rfl, ?_⟩
              refine hK.out _ _ (⟨blk_cellv (HS.out.at2) 4 rfl, blk_cellv (HS.out.at0) 3 rfl, blk_cellv (HS.out.at2) 2 rfl⟩) (fun hHeld => ?_)
              clear hK K
              refine norm_ (a' := ?_) ?_ ?_
              rotate_left
              · show Act.put _ (some 63) _ = _
                simp only [Act.put, List.setIfInBounds_toArray, List.set_cons_zero, List.set_cons_succ, i64_w, i32_w]
                rfl
              refine one_ (i := 11) (N := some 64) #[true, true, true, true, true, true, true, true, true, true, true, true, false, false, false] rfl rfl (by kernel_rfl) (by decide) (fun K hK => ?_)
              refine slice_step (n := 2) (by rfl) (N := 64) rfl (cs := #[.int .i64 t413, .int .i64 t419]) (t := 3) ?hr ?_
              case hr => first | (go_simp; done) | (go_simp; rfl)
              intro g446 hg w447 hbox hb
              replace HS : Aside0 (Sep (fps []) w [b1 g29 a25 a26 a27 a28, b2 g32 0 0 0 0 0 0 0 0, b2 g189 t186 (wrap64 (a26 - 8)) (wrap64 ((wrap64 (a26 - 8)) + 1)) t355 t382 t366 0 0, b3 g436 2 t407, b3 g441 2 (wrap64 ((wrap64 (a26 - 8)) + 1)), b3 g446 t413 t419] w447) := ⟨HS.out.box hg hbox hb⟩
              clear hg hbox hb
              refine hK.out _ _ (⟨blk_cellv (HS.out.at2) 4 rfl, blk_cellv (HS.out.at0) 3 rfl, blk_cellv (HS.out.at2) 2 rfl⟩) (fun hHeld => ?_)
              clear hK K
              refine norm_ (a' := ?_) ?_ ?_
              rotate_left
              · show Act.put _ (some 64) _ = _
                simp only [Act.put, List.setIfInBounds_toArray, List.set_cons_zero, List.set_cons_succ, i64_w, i32_w]
                rfl
              refine one_ (i := 12) (N := some 65) #[true, true, true, true, true, true, true, true, true, true, true, true, true, false, false] rfl rfl (by kernel_rfl) (by decide) (fun K hK => ?_)
              refine goes_ Tryd.func122 (by kernel_rfl) rfl #[.slice (some ⟨g446, 0, none⟩) 2 2] (by rfl) rfl rfl (by (try simp only [List.map_toArray, List.map_cons, List.map_nil]); first | done | rfl) ?_
              refine (ratio_Add.calls _ [t413, t419] (some ⟨g446, 0, none⟩) 2 t425 _ ⟨Rd.lit (l := []) (xs := [t413, t419]) HS.out 5 rfl (by simp)⟩ ⟨HGl0.out.pass (l := []) HS.out⟩ ⟨Sep.start _⟩ HA426).mono ?_
              rintro e_ w450 ⟨rfl, hS⟩
              replace HS : Aside0 (Sep (fps []) w [b1 g29 a25 a26 a27 a28, b2 g32 0 0 0 0 0 0 0 0, b2 g189 t186 (wrap64 (a26 - 8)) (wrap64 ((wrap64 (a26 - 8)) + 1)) t355 t382 t366 0 0, b3 g436 2 t407, b3 g441 2 (wrap64 ((wrap64 (a26 - 8)) + 1)), b3 g446 t413 t419] w450) := ⟨HS.out.call hS⟩
              clear hS
              refine ⟨_, rfl, ?_⟩
              refine hK.out _ _ (⟨blk_cellv (HS.out.at2) 4 rfl, blk_cellv (HS.out.at0) 3 rfl, blk_cellv (HS.out.at2) 2 rfl⟩) (fun hHeld => ?_)
              clear hK K
              refine norm_ (a' := ?_) ?_ ?_
              rotate_left
              · show Act.put _ (some 65) _ = _
                simp only [Act.put, List.setIfInBounds_toArray, List.set_cons_zero, List.set_cons_succ, i64_w, i32_w]
                rfl
              refine pure_ (i := 13) (N := some 66) (v := ?_) (a' := ?_) #[true, true, true, true, true, true, true, true, true, true, true, true, true, true, false] rfl rfl (by kernel_rfl) (fun _ _ _ h => h) (Or.inl ⟨by rfl, ?_⟩) ?_ ?_
              rotate_left
              · intro w'
                go_simp
                with_reducible rfl
              rotate_left
              · simp only [Act.put, List.setIfInBounds_toArray, List.set_cons_zero, List.set_cons_succ, i64_w, i32_w]
                rfl
              refine one_ (i := 14) (N := none) #[true, true, true, true, true, true, true, true, true, true, true, true, true, true, true] rfl rfl (by kernel_rfl) (by decide) (fun K hK => ?_)
              have hc452 := blk_cellv (v := .int .i64 0) (HS.out.at2) 6 rfl
              have hz453 := blk_fz (HS.out.at2) 6
              refine store_step (w1 := (World.setCell w450 ⟨g189, 6, none⟩ (.int .i64 t425))) (by rfl) rfl ?hr ?_
              case hr => first | (go_simp; done) | (go_simp; rfl)
              clear hc452 hz453
              intro w451 hst
              have hq0 : Sep (fps []) w [b1 g29 a25 a26 a27 a28, b2 g32 0 0 0 0 0 0 0 0, b2 g189 t186 (wrap64 (a26 - 8)) (wrap64 ((wrap64 (a26 - 8)) + 1)) t355 t382 t366 t425 0, b3 g436 2 t407, b3 g441 2 (wrap64 ((wrap64 (a26 - 8)) + 1)), b3 g446 t413 t419] (World.setCell w450 ⟨g189, 6, none⟩ (.int .i64 t425)) := (HS.out).set1 (l1 := [b1 g29 a25 a26 a27 a28, b2 g32 0 0 0 0 0 0 0 0]) (l2 := [b3 g436 2 t407, b3 g441 2 (wrap64 ((wrap64 (a26 - 8)) + 1)), b3 g446 t413 t419]) 6 (.int .i64 t425)
              have HS_ : Aside0 (Sep (fps []) w [b1 g29 a25 a26 a27 a28, b2 g32 0 0 0 0 0 0 0 0, b2 g189 t186 (wrap64 (a26 - 8)) (wrap64 ((wrap64 (a26 - 8)) + 1)) t355 t382 t366 t425 0, b3 g436 2 t407, b3 g441 2 (wrap64 ((wrap64 (a26 - 8)) + 1)), b3 g446 t413 t419] w451) := ⟨by rw [hst]; exact hq0⟩
              clear hq0
              clear HS hst
              have HS := HS_
              clear HS_
              refine hK.out _ _ (⟨blk_cellv (HS.out.at2) 4 rfl, blk_cellv (HS.out.at0) 3 rfl, blk_cellv (HS.out.at2) 2 rfl⟩) (fun hHeld => ?_)
              clear hK K
              refine done_ (by kernel_rfl) ?_
              go_wp2_with fail
              go_meet
              case rel => exact ⟨g436, g441, g446, ⟨((((((HS.out).front 5 (by simp)).front 5 (by simp)).front 5 (by simp)).front 5 (by simp)).front 5 (by simp)).front 5 (by simp)⟩⟩
            · refine slice_step (n := 2) (by rfl) (N := 62) rfl (cs := #[.int .i64 2, .int .i64 (wrap64 ((wrap64 (a26 - 8)) + 1))]) (t := 3) ?hr ?_
              case hr => first | (go_simp; done) | (go_simp; rfl)
              intro g454 hg w455 hbox hb
              replace HS : Aside0 (Sep (fps []) w [b1 g29 a25 a26 a27 a28, b2 g32 0 0 0 0 0 0 0 0, b2 g189 t186 (wrap64 (a26 - 8)) (wrap64 ((wrap64 (a26 - 8)) + 1)) t355 t382 t366 0 0, b3 g436 2 t407, b3 g454 2 (wrap64 ((wrap64 (a26 - 8)) + 1))] w455) := ⟨HS.out.box hg hbox hb⟩
              clear hg hbox hb
              refine hK.out _ _ (⟨blk_cellv (HS.out.at2) 4 rfl, blk_cellv (HS.out.at0) 3 rfl, blk_cellv (HS.out.at2) 2 rfl⟩) (fun hHeld => ?_)
              clear hK K
              refine norm_ (a' := ?_) ?_ ?_
              rotate_left
              · show Act.put _ (some 62) _ = _
                simp only [Act.put, List.setIfInBounds_toArray, List.set_cons_zero, List.set_cons_succ, i64_w, i32_w]
                rfl
              refine one_ (i := 6) (N := some 59) #[true, true, true, true, true, true, true, true, true, true, false, false, false, false, false] rfl rfl (by kernel_rfl) (by decide) (fun K hK => ?_)
              refine goes_ Tryd.func123 (by kernel_rfl) rfl #[.slice (some ⟨g436, 0, none⟩) 2 2] (by rfl) rfl rfl (by (try simp only [List.map_toArray, List.map_cons, List.map_nil]); first | done | rfl) ?_
              refine (ratio_Mul.calls _ [2, t407] (some ⟨g436, 0, none⟩) 2 t413 _ ⟨Rd.lit (l := []) (xs := [2, t407]) HS.out 3 rfl (by simp)⟩ ⟨HGl0.out.pass (l := []) HS.out⟩ ⟨Sep.start _⟩ HA414).mono ?_
              rintro e_ w458 ⟨rfl, hS⟩
              replace HS : Aside0 (Sep (fps []) w [b1 g29 a25 a26 a27 a28, b2 g32 0 0 0 0 0 0 0 0, b2 g189 t186 (wrap64 (a26 - 8)) (wrap64 ((wrap64 (a26 - 8)) + 1)) t355 t382 t366 0 0, b3 g436 2 t407, b3 g454 2 (wrap64 ((wrap64 (a26 - 8)) + 1))] w458) := ⟨HS.out.call hS⟩
              clear hS
              refine ⟨_, rfl, ?_⟩
              refine hK.out _ _ (⟨blk_cellv (HS.out.at2) 4 rfl, blk_cellv (HS.out.at0) 3 rfl, blk_cellv (HS.out.at2) 2 rfl⟩) (fun hHeld => ?_)
              clear hK K
              refine norm_ (a' := ?_) ?_ ?_
              rotate_left
              · show Act.put _ (some 59) _ = _
                simp only [Act.put, List.setIfInBounds_toArray, List.set_cons_zero, List.set_cons_succ, i64_w, i32_w]
                rfl
              refine one_ (i := 10) (N := some 63) #[true, true, true, true, true, true, true, true, true, true, true, false, false, false, false] rfl rfl (by kernel_rfl) (by decide) (fun K hK => ?_)
              refine goes_ Tryd.func123 (by kernel_rfl) rfl #[.slice (some ⟨g454, 0, none⟩) 2 2] (by rfl) rfl rfl (by (try simp only [List.map_toArray, List.map_cons, List.map_nil]); first | done | rfl) ?_
              refine (ratio_Mul.calls _ [2, wrap64 ((wrap64 (a26 - 8)) + 1)] (some ⟨g454, 0, none⟩) 2 t419 _ ⟨Rd.lit (l := []) (xs := [2, wrap64 ((wrap64 (a26 - 8)) + 1)]) HS.out 4 rfl (by simp)⟩ ⟨HGl0.out.pass (l := []) HS.out⟩ ⟨Sep.start _⟩ HA420).mono ?_
              rintro e_ w460 ⟨rfl, hS⟩
              replace HS : Aside0 (Sep (fps []) w [b1 g29 a25 a26 a27 a28, b2 g32 0 0 0 0 0 0 0 0, b2 g189 t186 (wrap64 (a26 - 8)) (wrap64 ((wrap64 (a26 - 8)) + 1)) t355 t382 t366 0 0, b3 g436 2 t407, b3 g454 2 (wrap64 ((wrap64 (a26 - 8)) + 1))] w460) := ⟨HS.out.call hS⟩
              clear hS
              refine ⟨_, rfl, ?_⟩
              refine hK.out _ _ (⟨blk_cellv (HS.out.at2) 4 rfl, blk_cellv (HS.out.at0) 3 rfl, blk_cellv (HS.out.at2) 2 rfl⟩) (fun hHeld => ?_)
              clear hK K
              refine norm_ (a' := ?_) ?_ ?_
              rotate_left
              · show Act.put _ (some 63) _ = _
                simp only [Act.put, List.setIfInBounds_toArray, List.set_cons_zero, List.set_cons_succ, i64_w, i32_w]
                rfl
              refine one_ (i := 11) (N := some 64) #[true, true, true, true, true, true, true, true, true, true, true, true, false, false, false] rfl rfl (by kernel_rfl) (by decide) (fun K hK => ?_)
              refine slice_step (n := 2) (by rfl) (N := 64) rfl (cs := #[.int .i64 t413, .int .i64 t419]) (t := 3) ?hr ?_
              case hr => first | (go_simp; done) | (go_simp; rfl)
              intro g461 hg w462 hbox hb
              replace HS : Aside0 (Sep (fps []) w [b1 g29 a25 a26 a27 a28, b2 g32 0 0 0 0 0 0 0 0, b2 g189 t186 (wrap64 (a26 - 8)) (wrap64 ((wrap64 (a26 - 8)) + 1)) t355 t382 t366 0 0, b3 g436 2 t407, b3 g454 2 (wrap64 ((wrap64 (a26 - 8)) + 1)), b3 g461 t413 t419] w462) := ⟨HS.out.box hg hbox hb⟩
              clear hg hbox hb
              refine hK.out _ _ (⟨blk_cellv (HS.out.at2) 4 rfl, blk_cellv (HS.out.at0) 3 rfl, blk_cellv (HS.out.at2) 2 rfl⟩) (fun hHeld => ?_)
              clear hK K
              refine norm_ (a' := ?_) ?_ ?_
              rotate_left
              · show Act.put _ (some 64) _ = _
                simp only [Act.put, List.setIfInBounds_toArray, List.set_cons_zero, List.set_cons_succ, i64_w, i32_w]
                rfl
              refine one_ (i := 12) (N := some 65) #[true, true, true, true, true, true, true, true, true, true, true, true, true, false, false] rfl rfl (by kernel_rfl) (by decide) (fun K hK => ?_)
              refine goes_ Tryd.func122 (by kernel_rfl) rfl #[.slice (some ⟨g461, 0, none⟩) 2 2] (by rfl) rfl rfl (by (try simp only [List.map_toArray, List.map_cons, List.map_nil]); first | done | rfl) ?_
              refine (ratio_Add.calls _ [t413, t419] (some ⟨g461, 0, none⟩) 2 t425 _ ⟨Rd.lit (l := []) (xs := [t413, t419]) HS.out 5 rfl (by simp)⟩ ⟨HGl0.out.pass (l := []) HS.out⟩ ⟨Sep.start _⟩ HA426).mono ?_
              rintro e_ w465 ⟨rfl, hS⟩
              replace HS : Aside0 (Sep (fps []) w [b1 g29 a25 a26 a27 a28, b2 g32 0 0 0 0 0 0 0 0, b2 g189 t186 (wrap64 (a26 - 8)) (wrap64 ((wrap64 (a26 - 8)) + 1)) t355 t382 t366 0 0, b3 g436 2 t407, b3 g454 2 (wrap64 ((wrap64 (a26 - 8)) + 1)), b3 g461 t413 t419] w465) := ⟨HS.out.call hS⟩
              clear hS
              refine ⟨_, rfl, ?_⟩
              refine hK.out _ _ (⟨blk_cellv (HS.out.at2) 4 rfl, blk_cellv (HS.out.at0) 3 rfl, blk_cellv (HS.out.at2) 2 rfl⟩) (fun hHeld => ?_)
              clear hK K
              refine norm_ (a' := ?_) ?_ ?_
              rotate_left
              · show Act.put _ (some 65) _ = _
                simp only [Act.put, List.setIfInBounds_toArray, List.set_cons_zero, List.set_cons_succ, i64_w, i32_w]
                rfl
              refine pure_ (i := 13) (N := some 66) (v := ?_) (a' := ?_) #[true, true, true, true, true, true, true, true, true, true, true, true, true, true, false] rfl rfl (by kernel_rfl) (fun _ _ _ h => h) (Or.inl ⟨by rfl, ?_⟩) ?_ ?_
              rotate_left
              · intro w'
                go_simp
                with_reducible rfl
              rotate_left
              · simp only [Act.put, List.setIfInBounds_toArray, List.set_cons_zero, List.set_cons_succ, i64_w, i32_w]
                rfl
              refine one_ (i := 14) (N := none) #[true, true, true, true, true, true, true, true, true, true, true, true, true, true, true] rfl rfl (by kernel_rfl) (by decide) (fun K hK => ?_)
              have hc467 := blk_cellv (v := .int .i64 0) (HS.out.at2) 6 rfl
              have hz468 := blk_fz (HS.out.at2) 6
              refine store_step (w1 := (World.setCell w465 ⟨g189, 6, none⟩ (.int .i64 t425))) (by rfl) rfl ?hr ?_
              case hr => first | (go_simp; done) | (go_simp; rfl)
              clear hc467 hz468
              intro w466 hst
              have hq0 : Sep (fps []) w [b1 g29 a25 a26 a27 a28, b2 g32 0 0 0 0 0 0 0 0, b2 g189 t186 (wrap64 (a26 - 8)) (wrap64 ((wrap64 (a26 - 8)) + 1)) t355 t382 t366 t425 0, b3 g436 2 t407, b3 g454 2 (wrap64 ((wrap64 (a26 - 8)) + 1)), b3 g461 t413 t419] (World.setCell w465 ⟨g189, 6, none⟩ (.int .i64 t425)) := (HS.out).set1 (l1 := [b1 g29 a25 a26 a27 a28, b2 g32 0 0 0 0 0 0 0 0]) (l2 := [b3 g436 2 t407, b3 g454 2 (wrap64 ((wrap64 (a26 - 8)) + 1)), b3 g461 t413 t419]) 6 (.int .i64 t425)
              have HS_ : Aside0 (Sep (fps []) w [b1 g29 a25 a26 a27 a28, b2 g32 0 0 0 0 0 0 0 0, b2 g189 t186 (wrap64 (a26 - 8)) (wrap64 ((wrap64 (a26 - 8)) + 1)) t355 t382 t366 t425 0, b3 g436 2 t407, b3 g454 2 (wrap64 ((wrap64 (a26 - 8)) + 1)), b3 g461 t413 t419] w466) := ⟨by rw [hst]; exact hq0⟩
              clear hq0
              clear HS hst
              have HS := HS_
              clear HS_
              refine hK.out _ _ (⟨blk_cellv (HS.out.at2) 4 rfl, blk_cellv (HS.out.at0) 3 rfl, blk_cellv (HS.out.at2) 2 rfl⟩) (fun hHeld => ?_)
              clear hK K
              refine done_ (by kernel_rfl) ?_
              go_wp2_with fail
              go_meet
              case rel => exact ⟨g436, g454, g461, ⟨((((((HS.out).front 5 (by simp)).front 5 (by simp)).front 5 (by simp)).front 5 (by simp)).front 5 (by simp)).front 5 (by simp)⟩⟩
          · refine slice_step (n := 2) (by rfl) (N := 62) rfl (cs := #[.int .i64 2, .int .i64 (wrap64 ((wrap64 (a26 - 8)) + 1))]) (t := 3) ?hr ?_
            case hr => first | (go_simp; done) | (go_simp; rfl)
            intro g469 hg w470 hbox hb
            replace HS : Aside0 (Sep (fps []) w [b1 g29 a25 a26 a27 a28, b2 g32 0 0 0 0 0 0 0 0, b2 g189 t186 (wrap64 (a26 - 8)) (wrap64 ((wrap64 (a26 - 8)) + 1)) t355 t382 t366 0 0, b3 g469 2 (wrap64 ((wrap64 (a26 - 8)) + 1))] w470) := ⟨HS.out.box hg hbox hb⟩
            clear hg hbox hb
            refine hK.out _ _ (⟨blk_cellv (HS.out.at2) 4 rfl, blk_cellv (HS.out.at0) 3 rfl, blk_cellv (HS.out.at2) 2 rfl⟩) (fun hHeld => ?_)
            clear hK K
            refine norm_ (a' := ?_) ?_ ?_
            rotate_left
            · show Act.put _ (some 62) _ = _
              simp only [Act.put, List.setIfInBounds_toArray, List.set_cons_zero, List.set_cons_succ, i64_w, i32_w]
              rfl
            refine one_ (i := 5) (N := some 58) #[true, true, true, true, true, true, false, true, true, true, false, false, false, false, false] rfl rfl (by kernel_rfl) (by decide) (fun K hK => ?_)
            refine slice_step (n := 2) (by rfl) (N := 58) rfl (cs := #[.int .i64 2, .int .i64 t407]) (t := 3) ?hr ?_
            case hr => first | (go_simp; done) | (go_simp; rfl)
            intro g472 hg w473 hbox hb
            replace HS : Aside0 (Sep (fps []) w [b1 g29 a25 a26 a27 a28, b2 g32 0 0 0 0 0 0 0 0, b2 g189 t186 (wrap64 (a26 - 8)) (wrap64 ((wrap64 (a26 - 8)) + 1)) t355 t382 t366 0 0, b3 g469 2 (wrap64 ((wrap64 (a26 - 8)) + 1)), b3 g472 2 t407] w473) := ⟨HS.out.box hg hbox hb⟩
            clear hg hbox hb
            refine hK.out _ _ (⟨blk_cellv (HS.out.at2) 4 rfl, blk_cellv (HS.out.at0) 3 rfl, blk_cellv (HS.out.at2) 2 rfl⟩) (fun hHeld => ?_)
            clear hK K
            refine norm_ (a' := ?_) ?_ ?_
            rotate_left
            · show Act.put _ (some 58) _ = _
              simp only [Act.put, List.setIfInBounds_toArray, List.set_cons_zero, List.set_cons_succ, i64_w, i32_w]
              rfl
            refine one_ (i := 6) (N := some 59) #[true, true, true, true, true, true, true, true, true, true, false, false, false, false, false] rfl rfl (by kernel_rfl) (by decide) (fun K hK => ?_)
            refine goes_ Tryd.func123 (by kernel_rfl) rfl #[.slice (some ⟨g472, 0, none⟩) 2 2] (by rfl) rfl rfl (by (try simp only [List.map_toArray, List.map_cons, List.map_nil]); first | done | rfl) ?_
            refine (ratio_Mul.calls _ [2, t407] (some ⟨g472, 0, none⟩) 2 t413 _ ⟨Rd.lit (l := []) (xs := [2, t407]) HS.out 4 rfl (by simp)⟩ ⟨HGl0.out.pass (l := []) HS.out⟩ ⟨Sep.start _⟩ HA414).mono ?_
            rintro e_ w476 ⟨rfl, hS⟩
            replace HS : Aside0 (Sep (fps []) w [b1 g29 a25 a26 a27 a28, b2 g32 0 0 0 0 0 0 0 0, b2 g189 t186 (wrap64 (a26 - 8)) (wrap64 ((wrap64 (a26 - 8)) + 1)) t355 t382 t366 0 0, b3 g469 2 (wrap64 ((wrap64 (a26 - 8)) + 1)), b3 g472 2 t407] w476) := ⟨HS.out.call hS⟩
            clear hS
            refine ⟨_, rfl, ?_⟩
            refine hK.out _ _ (⟨blk_cellv (HS.out.at2) 4 rfl, blk_cellv (HS.out.at0) 3 rfl, blk_cellv (HS.out.at2) 2 rfl⟩) (fun hHeld => ?_)
            clear hK K
            refine norm_ (a' := ?_) ?_ ?_
            rotate_left
            · show Act.put _ (some 59) _ = _
              simp only [Act.put, List.setIfInBounds_toArray, List.set_cons_zero, List.set_cons_succ, i64_w, i32_w]
              rfl
            refine one_ (i := 10) (N := some 63) #[true, true, true, true, true, true, true, true, true, true, true, false, false, false, false] rfl rfl (by kernel_rfl) (by decide) (fun K hK => ?_)
            refine goes_ Tryd.func123 (by kernel_rfl) rfl #[.slice (some ⟨g469, 0, none⟩) 2 2] (by rfl) rfl rfl (by (try simp only [List.map_toArray, List.map_cons, List.map_nil]); first | done | rfl) ?_
            refine (ratio_Mul.calls _ [2, wrap64 ((wrap64 (a26 - 8)) + 1)] (some ⟨g469, 0, none⟩) 2 t419 _ ⟨Rd.lit (l := []) (xs := [2, wrap64 ((wrap64 (a26 - 8)) + 1)]) HS.out 3 rfl (by simp)⟩ ⟨HGl0.out.pass (l := []) HS.out⟩ ⟨Sep.start _⟩ HA420).mono ?_
            rintro e_ w478 ⟨rfl, hS⟩
            replace HS : Aside0 (Sep (fps []) w [b1 g29 a25 a26 a27 a28, b2 g32 0 0 0 0 0 0 0 0, b2 g189 t186 (wrap64 (a26 - 8)) (wrap64 ((wrap64 (a26 - 8)) + 1)) t355 t382 t366 0 0, b3 g469 2 (wrap64 ((wrap64 (a26 - 8)) + 1)), b3 g472 2 t407] w478) := ⟨HS.out.call hS⟩
            clear hS
            refine ⟨_, rfl, ?_⟩
            refine hK.out _ _ (⟨blk_cellv (HS.out.at2) 4 rfl, blk_cellv (HS.out.at0) 3 rfl, blk_cellv (HS.out.at2) 2 rfl⟩) (fun hHeld => ?_)
            clear hK K
            refine norm_ (a' := ?_) ?_ ?_
            rotate_left
            · show Act.put _ (some 63) _ = _
              simp only [Act.put, List.setIfInBounds_toArray, List.set_cons_zero, List.set_cons_succ, i64_w, i32_w]
              rfl
            refine one_ (i := 11) (N := some 64) #[true, true, true, true, true, true, true, true, true, true, true, true, false, false, false] rfl rfl (by kernel_rfl) (by decide) (fun K hK => ?_)
            refine slice_step (n := 2) (by rfl) (N := 64) rfl (cs := #[.int .i64 t413, .int .i64 t419]) (t := 3) ?hr ?_
            case hr => first | (go_simp; done) | (go_simp; rfl)
            intro g479 hg w480 hbox hb
            replace HS : Aside0 (Sep (fps []) w [b1 g29 a25 a26 a27 a28, b2 g32 0 0 0 0 0 0 0 0, b2 g189 t186 (wrap64 (a26 - 8)) (wrap64 ((wrap64 (a26 - 8)) + 1)) t355 t382 t366 0 0, b3 g469 2 (wrap64 ((wrap64 (a26 - 8)) + 1)), b3 g472 2 t407, b3 g479 t413 t419] w480) := ⟨HS.out.box hg hbox hb⟩
            clear hg hbox hb
            refine hK.out _ _ (⟨blk_cellv (HS.out.at2) 4 rfl, blk_cellv (HS.out.at0) 3 rfl, blk_cellv (HS.out.at2) 2 rfl⟩) (fun hHeld => ?_)
            clear hK K
            refine norm_ (a' := ?_) ?_ ?_
            rotate_left
            · show Act.put _ (some 64) _ = _
              simp only [Act.put, List.setIfInBounds_toArray, List.set_cons_zero, List.set_cons_succ, i64_w, i32_w]
              rfl
            refine one_ (i := 12) (N := some 65) #[true, true, true, true, true, true, true, true, true, true, true, true, true, false, false] rfl rfl (by kernel_rfl) (by decide) (fun K hK => ?_)
            refine goes_ Tryd.func122 (by kernel_rfl) rfl #[.slice (some ⟨g479, 0, none⟩) 2 2] (by rfl) rfl rfl (by (try simp only [List.map_toArray, List.map_cons, List.map_nil]); first | done | rfl) ?_
            refine (ratio_Add.calls _ [t413, t419] (some ⟨g479, 0, none⟩) 2 t425 _ ⟨Rd.lit (l := []) (xs := [t413, t419]) HS.out 5 rfl (by simp)⟩ ⟨HGl0.out.pass (l := []) HS.out⟩ ⟨Sep.start _⟩ HA426).mono ?_
            rintro e_ w483 ⟨rfl, hS⟩
            replace HS : Aside0 (Sep (fps []) w [b1 g29 a25 a26 a27 a28, b2 g32 0 0 0 0 0 0 0 0, b2 g189 t186 (wrap64 (a26 - 8)) (wrap64 ((wrap64 (a26 - 8)) + 1)) t355 t382 t366 0 0, b3 g469 2 (wrap64 ((wrap64 (a26 - 8)) + 1)), b3 g472 2 t407, b3 g479 t413 t419] w483) := ⟨HS.out.call hS⟩
            clear hS
            refine ⟨_, rfl, ?_⟩
            refine hK.out _ _ (⟨blk_cellv (HS.out.at2) 4 rfl, blk_cellv (HS.out.at0) 3 rfl, blk_cellv (HS.out.at2) 2 rfl⟩) (fun hHeld => ?_)
            clear hK K
            refine norm_ (a' := ?_) ?_ ?_
            rotate_left
            · show Act.put _ (some 65) _ = _
              simp only [Act.put, List.setIfInBounds_toArray, List.set_cons_zero, List.set_cons_succ, i64_w, i32_w]
              rfl
            refine pure_ (i := 13) (N := some 66) (v := ?_) (a' := ?_) #[true, true, true, true, true, true, true, true, true, true, true, true, true, true, false] rfl rfl (by kernel_rfl) (fun _ _ _ h => h) (Or.inl ⟨by rfl, ?_⟩) ?_ ?_
            rotate_left
            · intro w'
              go_simp
              with_reducible rfl
            rotate_left
            · simp only [Act.put, List.setIfInBounds_toArray, List.set_cons_zero, List.set_cons_succ, i64_w, i32_w]
              rfl
            refine one_ (i := 14) (N := none) #[true, true, true, true, true, true, true, true, true, true, true, true, true, true, true] rfl rfl (by kernel_rfl) (by decide) (fun K hK => ?_)
            have hc485 := blk_cellv (v := .int .i64 0) (HS.out.at2) 6 rfl
            have hz486 := blk_fz (HS.out.at2) 6
            refine store_step (w1 := (World.setCell w483 ⟨g189, 6, none⟩ (.int .i64 t425))) (by rfl) rfl ?hr ?_
            case hr => first | (go_simp; done) | (go_simp; rfl)
            clear hc485 hz486
            intro w484 hst
            have hq0 : Sep (fps []) w [b1 g29 a25 a26 a27 a28, b2 g32 0 0 0 0 0 0 0 0, b2 g189 t186 (wrap64 (a26 - 8)) (wrap64 ((wrap64 (a26 - 8)) + 1)) t355 t382 t366 t425 0, b3 g469 2 (wrap64 ((wrap64 (a26 - 8)) + 1)), b3 g472 2 t407, b3 g479 t413 t419] (World.setCell w483 ⟨g189, 6, none⟩ (.int .i64 t425)) := (HS.out).set1 (l1 := [b1 g29 a25 a26 a27 a28, b2 g32 0 0 0 0 0 0 0 0]) (l2 := [b3 g469 2 (wrap64 ((wrap64 (a26 - 8)) + 1)), b3 g472 2 t407, b3 g479 t413 t419]) 6 (.int .i64 t425)
            have HS_ : Aside0 (Sep (fps []) w [b1 g29 a25 a26 a27 a28, b2 g32 0 0 0 0 0 0 0 0, b2 g189 t186 (wrap64 (a26 - 8)) (wrap64 ((wrap64 (a26 - 8)) + 1)) t355 t382 t366 t425 0, b3 g469 2 (wrap64 ((wrap64 (a26 - 8)) + 1)), b3 g472 2 t407, b3 g479 t413 t419] w484) := ⟨by rw [hst]; exact hq0⟩
            clear hq0
            clear HS hst
            have HS := HS_
            clear HS_
            refine hK.out _ _ (⟨blk_cellv (HS.out.at2) 4 rfl, blk_cellv (HS.out.at0) 3 rfl, blk_cellv (HS.out.at2) 2 rfl⟩) (fun hHeld => ?_)
            clear hK K
            refine done_ (by kernel_rfl) ?_
            go_wp2_with fail
            go_meet
            case rel => exact ⟨g472, g469, g479, ⟨((((((HS.out).front 5 (by simp)).front 4 (by simp)).front 5 (by simp)).front 5 (by simp)).front 5 (by simp)).front 5 (by simp)⟩⟩
        · refine slice_step (n := 2) (by rfl) (N := 62) rfl (cs := #[.int .i64 2, .int .i64 (wrap64 ((wrap64 (a26 - 8)) + 1))]) (t := 3) ?hr ?_
          case hr => first | (go_simp; done) | (go_simp; rfl)
          intro g487 hg w488 hbox hb
          replace HS : Aside0 (Sep (fps []) w [b1 g29 a25 a26 a27 a28, b2 g32 0 0 0 0 0 0 0 0, b2 g189 t186 (wrap64 (a26 - 8)) (wrap64 ((wrap64 (a26 - 8)) + 1)) t355 t382 t366 0 0, b3 g487 2 (wrap64 ((wrap64 (a26 - 8)) + 1))] w488) := ⟨HS.out.box hg hbox hb⟩
          clear hg hbox hb
          refine hK.out _ _ (⟨blk_cellv (HS.out.at2) 4 rfl, blk_cellv (HS.out.at0) 3 rfl, blk_cellv (HS.out.at2) 2 rfl⟩) (fun hHeld => ?_)
          clear hK K
          refine norm_ (a' := ?_) ?_ ?_
          rotate_left
          · show Act.put _ (some 62) _ = _
            simp only [Act.put, List.setIfInBounds_toArray, List.set_cons_zero, List.set_cons_succ, i64_w, i32_w]
            rfl
          refine one_ (i := 4) (N := some 57) #[true, true, true, true, true, false, false, true, true, true, false, false, false, false, false] rfl rfl (by kernel_rfl) (by decide) (fun K hK => ?_)
          refine goes_ Tryd.func124 (by kernel_rfl) rfl #[.int .i64 t382, .int .i64 a28] (by rfl) rfl rfl (by (try simp only [List.map_toArray, List.map_cons, List.map_nil]); first | done | rfl) ?_
          refine (ratio_Up.calls t382 a28 t407 _ ⟨HGl0.out.pass (l := []) HS.out⟩ ⟨Sep.start _⟩ HA408).mono ?_
          rintro e_ w491 ⟨rfl, hS⟩
          replace HS : Aside0 (Sep (fps []) w [b1 g29 a25 a26 a27 a28, b2 g32 0 0 0 0 0 0 0 0, b2 g189 t186 (wrap64 (a26 - 8)) (wrap64 ((wrap64 (a26 - 8)) + 1)) t355 t382 t366 0 0, b3 g487 2 (wrap64 ((wrap64 (a26 - 8)) + 1))] w491) := ⟨HS.out.call hS⟩
          clear hS
          refine ⟨_, rfl, ?_⟩
          refine hK.out _ _ (⟨blk_cellv (HS.out.at2) 4 rfl, blk_cellv (HS.out.at0) 3 rfl, blk_cellv (HS.out.at2) 2 rfl⟩) (fun hHeld => ?_)
          clear hK K
          refine norm_ (a' := ?_) ?_ ?_
          rotate_left
          · show Act.put _ (some 57) _ = _
            simp only [Act.put, List.setIfInBounds_toArray, List.set_cons_zero, List.set_cons_succ, i64_w, i32_w]
            rfl
          refine one_ (i := 5) (N := some 58) #[true, true, true, true, true, true, false, true, true, true, false, false, false, false, false] rfl rfl (by kernel_rfl) (by decide) (fun K hK => ?_)
          refine slice_step (n := 2) (by rfl) (N := 58) rfl (cs := #[.int .i64 2, .int .i64 t407]) (t := 3) ?hr ?_
          case hr => first | (go_simp; done) | (go_simp; rfl)
          intro g492 hg w493 hbox hb
          replace HS : Aside0 (Sep (fps []) w [b1 g29 a25 a26 a27 a28, b2 g32 0 0 0 0 0 0 0 0, b2 g189 t186 (wrap64 (a26 - 8)) (wrap64 ((wrap64 (a26 - 8)) + 1)) t355 t382 t366 0 0, b3 g487 2 (wrap64 ((wrap64 (a26 - 8)) + 1)), b3 g492 2 t407] w493) := ⟨HS.out.box hg hbox hb⟩
          clear hg hbox hb
          refine hK.out _ _ (⟨blk_cellv (HS.out.at2) 4 rfl, blk_cellv (HS.out.at0) 3 rfl, blk_cellv (HS.out.at2) 2 rfl⟩) (fun hHeld => ?_)
          clear hK K
          refine norm_ (a' := ?_) ?_ ?_
          rotate_left
          · show Act.put _ (some 58) _ = _
            simp only [Act.put, List.setIfInBounds_toArray, List.set_cons_zero, List.set_cons_succ, i64_w, i32_w]
            rfl
          refine one_ (i := 6) (N := some 59) #[true, true, true, true, true, true, true, true, true, true, false, false, false, false, false] rfl rfl (by kernel_rfl) (by decide) (fun K hK => ?_)
          refine goes_ Tryd.func123 (by kernel_rfl) rfl #[.slice (some ⟨g492, 0, none⟩) 2 2] (by rfl) rfl rfl (by (try simp only [List.map_toArray, List.map_cons, List.map_nil]); first | done | rfl) ?_
          refine (ratio_Mul.calls _ [2, t407] (some ⟨g492, 0, none⟩) 2 t413 _ ⟨Rd.lit (l := []) (xs := [2, t407]) HS.out 4 rfl (by simp)⟩ ⟨HGl0.out.pass (l := []) HS.out⟩ ⟨Sep.start _⟩ HA414).mono ?_
          rintro e_ w496 ⟨rfl, hS⟩
          replace HS : Aside0 (Sep (fps []) w [b1 g29 a25 a26 a27 a28, b2 g32 0 0 0 0 0 0 0 0, b2 g189 t186 (wrap64 (a26 - 8)) (wrap64 ((wrap64 (a26 - 8)) + 1)) t355 t382 t366 0 0, b3 g487 2 (wrap64 ((wrap64 (a26 - 8)) + 1)), b3 g492 2 t407] w496) := ⟨HS.out.call hS⟩
          clear hS
          refine ⟨_, rfl, ?_⟩
          refine hK.out _ _ (⟨blk_cellv (HS.out.at2) 4 rfl, blk_cellv (HS.out.at0) 3 rfl, blk_cellv (HS.out.at2) 2 rfl⟩) (fun hHeld => ?_)
          clear hK K
          refine norm_ (a' := ?_) ?_ ?_
          rotate_left
          · show Act.put _ (some 59) _ = _
            simp only [Act.put, List.setIfInBounds_toArray, List.set_cons_zero, List.set_cons_succ, i64_w, i32_w]
            rfl
          refine one_ (i := 10) (N := some 63) #[true, true, true, true, true, true, true, true, true, true, true, false, false, false, false] rfl rfl (by kernel_rfl) (by decide) (fun K hK => ?_)
          refine goes_ Tryd.func123 (by kernel_rfl) rfl #[.slice (some ⟨g487, 0, none⟩) 2 2] (by rfl) rfl rfl (by (try simp only [List.map_toArray, List.map_cons, List.map_nil]); first | done | rfl) ?_
          refine (ratio_Mul.calls _ [2, wrap64 ((wrap64 (a26 - 8)) + 1)] (some ⟨g487, 0, none⟩) 2 t419 _ ⟨Rd.lit (l := []) (xs := [2, wrap64 ((wrap64 (a26 - 8)) + 1)]) HS.out 3 rfl (by simp)⟩ ⟨HGl0.out.pass (l := []) HS.out⟩ ⟨Sep.start _⟩ HA420).mono ?_
          rintro e_ w498 ⟨rfl, hS⟩
          replace HS : Aside0 (Sep (fps []) w [b1 g29 a25 a26 a27 a28, b2 g32 0 0 0 0 0 0 0 0, b2 g189 t186 (wrap64 (a26 - 8)) (wrap64 ((wrap64 (a26 - 8)) + 1)) t355 t382 t366 0 0, b3 g487 2 (wrap64 ((wrap64 (a26 - 8)) + 1)), b3 g492 2 t407] w498) := ⟨HS.out.call hS⟩
          clear hS
          refine ⟨_, rfl, ?_⟩
          refine hK.out _ _ (⟨blk_cellv (HS.out.at2) 4 rfl, blk_cellv (HS.out.at0) 3 rfl, blk_cellv (HS.out.at2) 2 rfl⟩) (fun hHeld => ?_)
          clear hK K
          refine norm_ (a' := ?_) ?_ ?_
          rotate_left
          · show Act.put _ (some 63) _ = _
            simp only [Act.put, List.setIfInBounds_toArray, List.set_cons_zero, List.set_cons_succ, i64_w, i32_w]
            rfl
          refine one_ (i := 11) (N := some 64) #[true, true, true, true, true, true, true, true, true, true, true, true, false, false, false] rfl rfl (by kernel_rfl) (by decide) (fun K hK => ?_)
          refine slice_step (n := 2) (by rfl) (N := 64) rfl (cs := #[.int .i64 t413, .int .i64 t419]) (t := 3) ?hr ?_
          case hr => first | (go_simp; done) | (go_simp; rfl)
          intro g499 hg w500 hbox hb
          replace HS : Aside0 (Sep (fps []) w [b1 g29 a25 a26 a27 a28, b2 g32 0 0 0 0 0 0 0 0, b2 g189 t186 (wrap64 (a26 - 8)) (wrap64 ((wrap64 (a26 - 8)) + 1)) t355 t382 t366 0 0, b3 g487 2 (wrap64 ((wrap64 (a26 - 8)) + 1)), b3 g492 2 t407, b3 g499 t413 t419] w500) := ⟨HS.out.box hg hbox hb⟩
          clear hg hbox hb
          refine hK.out _ _ (⟨blk_cellv (HS.out.at2) 4 rfl, blk_cellv (HS.out.at0) 3 rfl, blk_cellv (HS.out.at2) 2 rfl⟩) (fun hHeld => ?_)
          clear hK K
          refine norm_ (a' := ?_) ?_ ?_
          rotate_left
          · show Act.put _ (some 64) _ = _
            simp only [Act.put, List.setIfInBounds_toArray, List.set_cons_zero, List.set_cons_succ, i64_w, i32_w]
            rfl
          refine one_ (i := 12) (N := some 65) #[true, true, true, true, true, true, true, true, true, true, true, true, true, false, false] rfl rfl (by kernel_rfl) (by decide) (fun K hK => ?_)
          refine goes_ Tryd.func122 (by kernel_rfl) rfl #[.slice (some ⟨g499, 0, none⟩) 2 2] (by rfl) rfl rfl (by (try simp only [List.map_toArray, List.map_cons, List.map_nil]); first | done | rfl) ?_
          refine (ratio_Add.calls _ [t413, t419] (some ⟨g499, 0, none⟩) 2 t425 _ ⟨Rd.lit (l := []) (xs := [t413, t419]) HS.out 5 rfl (by simp)⟩ ⟨HGl0.out.pass (l := []) HS.out⟩ ⟨Sep.start _⟩ HA426).mono ?_
          rintro e_ w503 ⟨rfl, hS⟩
          replace HS : Aside0 (Sep (fps []) w [b1 g29 a25 a26 a27 a28, b2 g32 0 0 0 0 0 0 0 0, b2 g189 t186 (wrap64 (a26 - 8)) (wrap64 ((wrap64 (a26 - 8)) + 1)) t355 t382 t366 0 0, b3 g487 2 (wrap64 ((wrap64 (a26 - 8)) + 1)), b3 g492 2 t407, b3 g499 t413 t419] w503) := ⟨HS.out.call hS⟩
          clear hS
          refine ⟨_, rfl, ?_⟩
          refine hK.out _ _ (⟨blk_cellv (HS.out.at2) 4 rfl, blk_cellv (HS.out.at0) 3 rfl, blk_cellv (HS.out.at2) 2 rfl⟩) (fun hHeld => ?_)
          clear hK K
          refine norm_ (a' := ?_) ?_ ?_
          rotate_left
          · show Act.put _ (some 65) _ = _
            simp only [Act.put, List.setIfInBounds_toArray, List.set_cons_zero, List.set_cons_succ, i64_w, i32_w]
            rfl
          refine pure_ (i := 13) (N := some 66) (v := ?_) (a' := ?_) #[true, true, true, true, true, true, true, true, true, true, true, true, true, true, false] rfl rfl (by kernel_rfl) (fun _ _ _ h => h) (Or.inl ⟨by rfl, ?_⟩) ?_ ?_
          rotate_left
          · intro w'
            go_simp
            with_reducible rfl
          rotate_left
          · simp only [Act.put, List.setIfInBounds_toArray, List.set_cons_zero, List.set_cons_succ, i64_w, i32_w]
            rfl
          refine one_ (i := 14) (N := none) #[true, true, true, true, true, true, true, true, true, true, true, true, true, true, true] rfl rfl (by kernel_rfl) (by decide) (fun K hK => ?_)
          have hc505 := blk_cellv (v := .int .i64 0) (HS.out.at2) 6 rfl
          have hz506 := blk_fz (HS.out.at2) 6
          refine store_step (w1 := (World.setCell w503 ⟨g189, 6, none⟩ (.int .i64 t425))) (by rfl) rfl ?hr ?_
          case hr => first | (go_simp; done) | (go_simp; rfl)
          clear hc505 hz506
          intro w504 hst
          have hq0 : Sep (fps []) w [b1 g29 a25 a26 a27 a28, b2 g32 0 0 0 0 0 0 0 0, b2 g189 t186 (wrap64 (a26 - 8)) (wrap64 ((wrap64 (a26 - 8)) + 1)) t355 t382 t366 t425 0, b3 g487 2 (wrap64 ((wrap64 (a26 - 8)) + 1)), b3 g492 2 t407, b3 g499 t413 t419] (World.setCell w503 ⟨g189, 6, none⟩ (.int .i64 t425)) := (HS.out).set1 (l1 := [b1 g29 a25 a26 a27 a28, b2 g32 0 0 0 0 0 0 0 0]) (l2 := [b3 g487 2 (wrap64 ((wrap64 (a26 - 8)) + 1)), b3 g492 2 t407, b3 g499 t413 t419]) 6 (.int .i64 t425)
          have HS_ : Aside0 (Sep (fps []) w [b1 g29 a25 a26 a27 a28, b2 g32 0 0 0 0 0 0 0 0, b2 g189 t186 (wrap64 (a26 - 8)) (wrap64 ((wrap64 (a26 - 8)) + 1)) t355 t382 t366 t425 0, b3 g487 2 (wrap64 ((wrap64 (a26 - 8)) + 1)), b3 g492 2 t407, b3 g499 t413 t419] w504) := ⟨by rw [hst]; exact hq0⟩
          clear hq0
          clear HS hst
          have HS := HS_
          clear HS_
          refine hK.out _ _ (⟨blk_cellv (HS.out.at2) 4 rfl, blk_cellv (HS.out.at0) 3 rfl, blk_cellv (HS.out.at2) 2 rfl⟩) (fun hHeld => ?_)
          clear hK K
          refine done_ (by kernel_rfl) ?_
          go_wp2_with fail
          go_meet
          case rel => exact ⟨g492, g487, g499, ⟨((((((HS.out).front 5 (by simp)).front 4 (by simp)).front 5 (by simp)).front 5 (by simp)).front 5 (by simp)).front 5 (by simp)⟩⟩
      case rest =>
        clear HS
        obtain ⟨g410, g416, g422, HS⟩ := hcut
        obtain ⟨w431, rfl⟩ : ∃ x : World, x = wc := ⟨_, rfl⟩
        replace HS : Aside0 (Sep (fps []) w [b1 g29 a25 a26 a27 a28, b2 g32 0 0 0 0 0 0 0 0, b2 g189 t186 (wrap64 (a26 - 8)) (wrap64 ((wrap64 (a26 - 8)) + 1)) t355 t382 t366 t425 0] w431) := ⟨HS.out.sub (.cons_cons _ (.cons_cons _ (.cons_cons _ (.cons _ (.cons _ (.cons _ .slnil))))))⟩
        go_wp2_with fail
        refine start_ (n := 15) (S := (fun w' => w'.cell? ⟨g189, 4, none⟩ = some (.int .i64 t382) ∧ w'.cell? ⟨g189, 5, none⟩ = some (.int .i64 t366) ∧ w'.cell? ⟨g29, 3, none⟩ = some (.int .i64 a28))) (ds := []) #[false, false, false, false, false, false, false, false, false, false, false, false, false, false, false] (by kernel_rfl) rfl rfl (⟨blk_cellv ((HS.out.drew).at2) 4 rfl, blk_cellv ((HS.out.drew).at2) 5 rfl, blk_cellv ((HS.out.drew).at0) 3 rfl⟩) (fun hHeld => ?_)
        have HS_ := Aside0.mk HS.out.drew
        clear HS
        generalize World.drew _ = w508 at HS_ hHeld ⊢
        have HS := HS_
        clear HS_
        refine pure_ (i := 0) (N := some 67) (v := ?_) (a' := ?_) #[true, false, false, false, false, false, false, false, false, false, false, false, false, false, false] rfl rfl (by kernel_rfl) (fun _ _ _ h => h) (Or.inl ⟨by rfl, ?_⟩) ?_ ?_
        rotate_left
        · intro w'
          go_simp
          with_reducible rfl
        rotate_left
        · simp only [Act.put, List.setIfInBounds_toArray, List.set_cons_zero, List.set_cons_succ, i64_w, i32_w]
          rfl
        refine pure_ (i := 2) (N := some 69) (v := ?_) (a' := ?_) #[true, false, true, false, false, false, false, false, false, false, false, false, false, false, false] rfl rfl (by kernel_rfl) (fun _ _ _ h => h) (Or.inl ⟨by rfl, ?_⟩) ?_ ?_
        rotate_left
        · intro w'
          go_simp
          with_reducible rfl
        rotate_left
        · simp only [Act.put, List.setIfInBounds_toArray, List.set_cons_zero, List.set_cons_succ, i64_w, i32_w]
          rfl
        refine pure_ (i := 4) (N := some 71) (v := ?_) (a' := ?_) #[true, false, true, false, true, false, false, false, false, false, false, false, false, false, false] rfl rfl (by kernel_rfl) (fun _ _ _ h => h) (Or.inl ⟨by rfl, ?_⟩) ?_ ?_
        rotate_left
        · intro w'
          go_simp
          with_reducible rfl
        rotate_left
        · simp only [Act.put, List.setIfInBounds_toArray, List.set_cons_zero, List.set_cons_succ, i64_w, i32_w]
          rfl
        refine pure_ (i := 8) (N := some 75) (v := ?_) (a' := ?_) #[true, false, true, false, true, false, false, false, true, false, false, false, false, false, false] rfl rfl (by kernel_rfl) (fun _ _ _ h => h) (Or.inl ⟨by rfl, ?_⟩) ?_ ?_
        rotate_left
        · intro w'
          go_simp
          with_reducible rfl
        rotate_left
        · simp only [Act.put, List.setIfInBounds_toArray, List.set_cons_zero, List.set_cons_succ, i64_w, i32_w]
          rfl
        refine take_ (i := 1) (N := some 68) (v := ?_) (a' := ?_) #[true, true, true, false, true, false, false, false, true, false, false, false, false, false, false] rfl rfl (by kernel_rfl) (fun _ _ _ h => h) (Or.inl ⟨by rfl, ?_⟩) hHeld ?_ ?_
        rotate_left
        · rintro w' hS'
          obtain ⟨s0, s1, s2⟩ := hS'
          go_simp
          with_reducible rfl
        rotate_left
        · simp only [Act.put, List.setIfInBounds_toArray, List.set_cons_zero, List.set_cons_succ, i64_w, i32_w]
          rfl
        refine take_ (i := 3) (N := some 70) (v := ?_) (a' := ?_) #[true, true, true, true, true, false, false, false, true, false, false, false, false, false, false] rfl rfl (by kernel_rfl) (fun _ _ _ h => h) (Or.inl ⟨by rfl, ?_⟩) hHeld ?_ ?_
        rotate_left
        · rintro w' hS'
          obtain ⟨s0, s1, s2⟩ := hS'
          go_simp
          with_reducible rfl
        rotate_left
        · simp only [Act.put, List.setIfInBounds_toArray, List.set_cons_zero, List.set_cons_succ, i64_w, i32_w]
          rfl
        refine take_ (i := 5) (N := some 72) (v := ?_) (a' := ?_) #[true, true, true, true, true, true, false, false, true, false, false, false, false, false, false] rfl rfl (by kernel_rfl) (fun _ _ _ h => h) (Or.inl ⟨by rfl, ?_⟩) hHeld ?_ ?_
        rotate_left
        · rintro w' hS'
          obtain ⟨s0, s1, s2⟩ := hS'
          go_simp
          with_reducible rfl
        rotate_left
        · simp only [Act.put, List.setIfInBounds_toArray, List.set_cons_zero, List.set_cons_succ, i64_w, i32_w]
          rfl
        refine take_ (i := 9) (N := some 76) (v := ?_) (a' := ?_) #[true, true, true, true, true, true, false, false, true, true, false, false, false, false, false] rfl rfl (by kernel_rfl) (fun _ _ _ h => h) (Or.inl ⟨by rfl, ?_⟩) hHeld ?_ ?_
        rotate_left
        · rintro w' hS'
          obtain ⟨s0, s1, s2⟩ := hS'
          go_simp
          with_reducible rfl
        rotate_left
        · simp only [Act.put, List.setIfInBounds_toArray, List.set_cons_zero, List.set_cons_succ, i64_w, i32_w]
          rfl
        refine one_ (i := 6) (N := some 73) #[true, true, true, true, true, true, true, false, true, true, false, false, false, false, false] rfl rfl (by kernel_rfl) (by decide) (fun K hK => ?_)
        refine slice_step (n := 3) (by rfl) (N := 73) rfl (cs := #[.int .i64 t382, .int .i64 t382, .int .i64 t366]) (t := 3) ?hr ?_
        case hr => first | (go_simp; done) | (go_simp; rfl)
        intro g509 hg w510 hbox hb
        replace HS : Aside0 (Sep (fps []) w [b1 g29 a25 a26 a27 a28, b2 g32 0 0 0 0 0 0 0 0, b2 g189 t186 (wrap64 (a26 - 8)) (wrap64 ((wrap64 (a26 - 8)) + 1)) t355 t382 t366 t425 0, b4 g509 t382 t382 t366] w510) := ⟨HS.out.box hg hbox hb⟩
        clear hg hbox hb
        refine hK.out _ _ (⟨blk_cellv (HS.out.at2) 4 rfl, blk_cellv (HS.out.at2) 5 rfl, blk_cellv (HS.out.at0) 3 rfl⟩) (fun hHeld => ?_)
        clear hK K
        refine norm_ (a' := ?_) ?_ ?_
        rotate_left
        · show Act.put _ (some 73) _ = _
          simp only [Act.put, List.setIfInBounds_toArray, List.set_cons_zero, List.set_cons_succ, i64_w, i32_w]
          rfl
        refine one_ (i := 7) (N := some 74) #[true, true, true, true, true, true, true, true, true, true, false, false, false, false, false] rfl rfl (by kernel_rfl) (by decide) (fun K hK => ?_)
        obtain ⟨t512, HA513, H⟩ := bind_some H
        refine goes_ Tryd.func122 (by kernel_rfl) rfl #[.slice (some ⟨g509, 0, none⟩) 3 3] (by rfl) rfl rfl (by (try simp only [List.map_toArray, List.map_cons, List.map_nil]); first | done | rfl) ?_
        refine (ratio_Add.calls _ [t382, t382, t366] (some ⟨g509, 0, none⟩) 3 t512 _ ⟨Rd.lit (l := []) (xs := [t382, t382, t366]) HS.out 3 rfl (by simp)⟩ ⟨HGl0.out.pass (l := []) HS.out⟩ ⟨Sep.start _⟩ HA513).mono ?_
        rintro e_ w514 ⟨rfl, hS⟩
        replace HS : Aside0 (Sep (fps []) w [b1 g29 a25 a26 a27 a28, b2 g32 0 0 0 0 0 0 0 0, b2 g189 t186 (wrap64 (a26 - 8)) (wrap64 ((wrap64 (a26 - 8)) + 1)) t355 t382 t366 t425 0, b4 g509 t382 t382 t366] w514) := ⟨HS.out.call hS⟩
        clear hS
        refine ⟨_, rfl, ?_⟩
        refine hK.out _ _ (⟨blk_cellv (HS.out.at2) 4 rfl, blk_cellv (HS.out.at2) 5 rfl, blk_cellv (HS.out.at0) 3 rfl⟩) (fun hHeld => ?_)
        clear hK K
        refine norm_ (a' := ?_) ?_ ?_
        rotate_left
        · show Act.put _ (some 74) _ = _
          simp only [Act.put, List.setIfInBounds_toArray, List.set_cons_zero, List.set_cons_succ, i64_w, i32_w]
          rfl
        refine one_ (i := 10) (N := some 77) #[true, true, true, true, true, true, true, true, true, true, true, false, false, false, false] rfl rfl (by kernel_rfl) (by decide) (fun K hK => ?_)
        obtain ⟨t515, HA516, H⟩ := bind_some H
        refine goes_ Tryd.func124 (by kernel_rfl) rfl #[.int .i64 t512, .int .i64 a28] (by rfl) rfl rfl (by (try simp only [List.map_toArray, List.map_cons, List.map_nil]); first | done | rfl) ?_
        refine (ratio_Up.calls t512 a28 t515 _ ⟨HGl0.out.pass (l := []) HS.out⟩ ⟨Sep.start _⟩ HA516).mono ?_
        rintro e_ w517 ⟨rfl, hS⟩
        replace HS : Aside0 (Sep (fps []) w [b1 g29 a25 a26 a27 a28, b2 g32 0 0 0 0 0 0 0 0, b2 g189 t186 (wrap64 (a26 - 8)) (wrap64 ((wrap64 (a26 - 8)) + 1)) t355 t382 t366 t425 0, b4 g509 t382 t382 t366] w517) := ⟨HS.out.call hS⟩
        clear hS
        refine ⟨_, rfl, ?_⟩
        refine hK.out _ _ (⟨blk_cellv (HS.out.at2) 4 rfl, blk_cellv (HS.out.at2) 5 rfl, blk_cellv (HS.out.at0) 3 rfl⟩) (fun hHeld => ?_)
        clear hK K
        refine norm_ (a' := ?_) ?_ ?_
        rotate_left
        · show Act.put _ (some 77) _ = _
          simp only [Act.put, List.setIfInBounds_toArray, List.set_cons_zero, List.set_cons_succ, i64_w, i32_w]
          rfl
        refine one_ (i := 11) (N := some 78) #[true, true, true, true, true, true, true, true, true, true, true, true, false, false, false] rfl rfl (by kernel_rfl) (by decide) (fun K hK => ?_)
        refine slice_step (n := 2) (by rfl) (N := 78) rfl (cs := #[.int .i64 t515, .int .i64 2]) (t := 3) ?hr ?_
        case hr => first | (go_simp; done) | (go_simp; rfl)
        intro g518 hg w519 hbox hb
        replace HS : Aside0 (Sep (fps []) w [b1 g29 a25 a26 a27 a28, b2 g32 0 0 0 0 0 0 0 0, b2 g189 t186 (wrap64 (a26 - 8)) (wrap64 ((wrap64 (a26 - 8)) + 1)) t355 t382 t366 t425 0, b4 g509 t382 t382 t366, b3 g518 t515 2] w519) := ⟨HS.out.box hg hbox hb⟩
        clear hg hbox hb
        refine hK.out _ _ (⟨blk_cellv (HS.out.at2) 4 rfl, blk_cellv (HS.out.at2) 5 rfl, blk_cellv (HS.out.at0) 3 rfl⟩) (fun hHeld => ?_)
        clear hK K
        refine norm_ (a' := ?_) ?_ ?_
        rotate_left
        · show Act.put _ (some 78) _ = _
          simp only [Act.put, List.setIfInBounds_toArray, List.set_cons_zero, List.set_cons_succ, i64_w, i32_w]
          rfl
        refine one_ (i := 12) (N := some 79) #[true, true, true, true, true, true, true, true, true, true, true, true, true, false, false] rfl rfl (by kernel_rfl) (by decide) (fun K hK => ?_)
        obtain ⟨t521, HA522, H⟩ := bind_some H
        refine goes_ Tryd.func122 (by kernel_rfl) rfl #[.slice (some ⟨g518, 0, none⟩) 2 2] (by rfl) rfl rfl (by (try simp only [List.map_toArray, List.map_cons, List.map_nil]); first | done | rfl) ?_
        refine (ratio_Add.calls _ [t515, 2] (some ⟨g518, 0, none⟩) 2 t521 _ ⟨Rd.lit (l := []) (xs := [t515, 2]) HS.out 4 rfl (by simp)⟩ ⟨HGl0.out.pass (l := []) HS.out⟩ ⟨Sep.start _⟩ HA522).mono ?_
        rintro e_ w523 ⟨rfl, hS⟩
        replace HS : Aside0 (Sep (fps []) w [b1 g29 a25 a26 a27 a28, b2 g32 0 0 0 0 0 0 0 0, b2 g189 t186 (wrap64 (a26 - 8)) (wrap64 ((wrap64 (a26 - 8)) + 1)) t355 t382 t366 t425 0, b4 g509 t382 t382 t366, b3 g518 t515 2] w523) := ⟨HS.out.call hS⟩
        clear hS
        refine ⟨_, rfl, ?_⟩
        refine hK.out _ _ (⟨blk_cellv (HS.out.at2) 4 rfl, blk_cellv (HS.out.at2) 5 rfl, blk_cellv (HS.out.at0) 3 rfl⟩) (fun hHeld => ?_)
        clear hK K
        refine norm_ (a' := ?_) ?_ ?_
        rotate_left
        · show Act.put _ (some 79) _ = _
          simp only [Act.put, List.setIfInBounds_toArray, List.set_cons_zero, List.set_cons_succ, i64_w, i32_w]
          rfl
        refine pure_ (i := 13) (N := some 80) (v := ?_) (a' := ?_) #[true, true, true, true, true, true, true, true, true, true, true, true, true, true, false] rfl rfl (by kernel_rfl) (fun _ _ _ h => h) (Or.inl ⟨by rfl, ?_⟩) ?_ ?_
        rotate_left
        · intro w'
          go_simp
          with_reducible rfl
        rotate_left
        · simp only [Act.put, List.setIfInBounds_toArray, List.set_cons_zero, List.set_cons_succ, i64_w, i32_w]
          rfl
        refine one_ (i := 14) (N := none) #[true, true, true, true, true, true, true, true, true, true, true, true, true, true, true] rfl rfl (by kernel_rfl) (by decide) (fun K hK => ?_)
        have hc525 := blk_cellv (v := .int .i64 0) (HS.out.at2) 7 rfl
        have hz526 := blk_fz (HS.out.at2) 7
        refine store_step (w1 := (World.setCell w523 ⟨g189, 7, none⟩ (.int .i64 t521))) (by rfl) rfl ?hr ?_
        case hr => first | (go_simp; done) | (go_simp; rfl)
        clear hc525 hz526
        intro w524 hst
        have hq0 : Sep (fps []) w [b1 g29 a25 a26 a27 a28, b2 g32 0 0 0 0 0 0 0 0, b2 g189 t186 (wrap64 (a26 - 8)) (wrap64 ((wrap64 (a26 - 8)) + 1)) t355 t382 t366 t425 t521, b4 g509 t382 t382 t366, b3 g518 t515 2] (World.setCell w523 ⟨g189, 7, none⟩ (.int .i64 t521)) := (HS.out).set1 (l1 := [b1 g29 a25 a26 a27 a28, b2 g32 0 0 0 0 0 0 0 0]) (l2 := [b4 g509 t382 t382 t366, b3 g518 t515 2]) 7 (.int .i64 t521)
        have HS_ : Aside0 (Sep (fps []) w [b1 g29 a25 a26 a27 a28, b2 g32 0 0 0 0 0 0 0 0, b2 g189 t186 (wrap64 (a26 - 8)) (wrap64 ((wrap64 (a26 - 8)) + 1)) t355 t382 t366 t425 t521, b4 g509 t382 t382 t366, b3 g518 t515 2] w524) := ⟨by rw [hst]; exact hq0⟩
        clear hq0
        clear HS hst
        have HS := HS_
        clear HS_
        refine hK.out _ _ (⟨blk_cellv (HS.out.at2) 4 rfl, blk_cellv (HS.out.at2) 5 rfl, blk_cellv (HS.out.at0) 3 rfl⟩) (fun hHeld => ?_)
        clear hK K
        refine done_ (by kernel_rfl) ?_
        replace HS : Aside0 (Sep (fps []) w [b2 g32 0 0 0 0 0 0 0 0, b2 g189 t186 (wrap64 (a26 - 8)) (wrap64 ((wrap64 (a26 - 8)) + 1)) t355 t382 t366 t425 t521] w524) := ⟨HS.out.sub (.cons _ (.cons_cons _ (.cons_cons _ (.cons _ (.cons _ .slnil)))))⟩
        have hc527 : w524.cell? ⟨g189, 0, none⟩ = some (.int .i64 t186) := blk_cellv (HS.out.at1) 0 rfl
        have hc528 : w524.cell? ⟨g189, 1, none⟩ = some (.int .i64 (wrap64 (a26 - 8))) := blk_cellv (HS.out.at1) 1 rfl
        have hc529 : w524.cell? ⟨g189, 2, none⟩ = some (.int .i64 (wrap64 ((wrap64 (a26 - 8)) + 1))) := blk_cellv (HS.out.at1) 2 rfl
        have hc530 : w524.cell? ⟨g189, 3, none⟩ = some (.int .i64 t355) := blk_cellv (HS.out.at1) 3 rfl
        have hc531 : w524.cell? ⟨g189, 4, none⟩ = some (.int .i64 t382) := blk_cellv (HS.out.at1) 4 rfl
        have hc532 : w524.cell? ⟨g189, 5, none⟩ = some (.int .i64 t366) := blk_cellv (HS.out.at1) 5 rfl
        have hc533 : w524.cell? ⟨g189, 6, none⟩ = some (.int .i64 t425) := blk_cellv (HS.out.at1) 6 rfl
        have hc534 : w524.cell? ⟨g189, 7, none⟩ = some (.int .i64 t521) := blk_cellv (HS.out.at1) 7 rfl
        have hc535 : w524.cell? ⟨g32, 0, none⟩ = some (.int .i64 0) := blk_cellv (HS.out.at0) 0 rfl
        have hz536 : w524.frozen? ⟨g32, 0, none⟩ = false := blk_fz (HS.out.at0) 0
        have hc537 : w524.cell? ⟨g32, 1, none⟩ = some (.int .i64 0) := blk_cellv (HS.out.at0) 1 rfl
        have hz538 : w524.frozen? ⟨g32, 1, none⟩ = false := blk_fz (HS.out.at0) 1
        have hc539 : w524.cell? ⟨g32, 2, none⟩ = some (.int .i64 0) := blk_cellv (HS.out.at0) 2 rfl
        have hz540 : w524.frozen? ⟨g32, 2, none⟩ = false := blk_fz (HS.out.at0) 2
        have hc541 : w524.cell? ⟨g32, 3, none⟩ = some (.int .i64 0) := blk_cellv (HS.out.at0) 3 rfl
        have hz542 : w524.frozen? ⟨g32, 3, none⟩ = false := blk_fz (HS.out.at0) 3
        have hc543 : w524.cell? ⟨g32, 4, none⟩ = some (.int .i64 0) := blk_cellv (HS.out.at0) 4 rfl
        have hz544 : w524.frozen? ⟨g32, 4, none⟩ = false := blk_fz (HS.out.at0) 4
        have hc545 : w524.cell? ⟨g32, 5, none⟩ = some (.int .i64 0) := blk_cellv (HS.out.at0) 5 rfl
        have hz546 : w524.frozen? ⟨g32, 5, none⟩ = false := blk_fz (HS.out.at0) 5
        have hc547 : w524.cell? ⟨g32, 6, none⟩ = some (.int .i64 0) := blk_cellv (HS.out.at0) 6 rfl
        have hz548 : w524.frozen? ⟨g32, 6, none⟩ = false := blk_fz (HS.out.at0) 6
        have hc549 : w524.cell? ⟨g32, 7, none⟩ = some (.int .i64 0) := blk_cellv (HS.out.at0) 7 rfl
        have hz550 : w524.frozen? ⟨g32, 7, none⟩ = false := blk_fz (HS.out.at0) 7
        go_wp2_with (first | ((with_reducible refine gate_store (t := 97) (p := 2) rfl ?_); refine store_event (w1 := (World.setCell (World.setCell (World.setCell (World.setCell (World.setCell (World.setCell (World.setCell (World.setCell w524 ⟨g32, 0, none⟩ (.int .i64 t186)) ⟨g32, 1, none⟩ (.int .i64 (wrap64 (a26 - 8)))) ⟨g32, 2, none⟩ (.int .i64 (wrap64 ((wrap64 (a26 - 8)) + 1)))) ⟨g32, 3, none⟩ (.int .i64 t355)) ⟨g32, 4, none⟩ (.int .i64 t382)) ⟨g32, 5, none⟩ (.int .i64 t366)) ⟨g32, 6, none⟩ (.int .i64 t425)) ⟨g32, 7, none⟩ (.int .i64 t521))) rfl (t := 97) (p := 2) rfl rfl ?hr ?_; (case hr => first | (go_simp; done) | (go_simp; rfl)); intro w551 hst; clear hc527 hc528 hc529 hc530 hc531 hc532 hc533 hc534 hc535 hz536 hc537 hz538 hc539 hz540 hc541 hz542 hc543 hz544 hc545 hz546 hc547 hz548 hc549 hz550; replace HS : Aside0 (Sep (fps []) w [b2 g32 t186 (wrap64 (a26 - 8)) (wrap64 ((wrap64 (a26 - 8)) + 1)) t355 t382 t366 t425 t521, b2 g189 t186 (wrap64 (a26 - 8)) (wrap64 ((wrap64 (a26 - 8)) + 1)) t355 t382 t366 t425 t521] w551) := ⟨by rw [hst]; exact HS.out.setAll (l1 := []) (l2 := [b2 g189 t186 (wrap64 (a26 - 8)) (wrap64 ((wrap64 (a26 - 8)) + 1)) t355 t382 t366 t425 t521]) [.int .i64 t186, .int .i64 (wrap64 (a26 - 8)), .int .i64 (wrap64 ((wrap64 (a26 - 8)) + 1)), .int .i64 t355, .int .i64 t382, .int .i64 t366, .int .i64 t425, .int .i64 t521] rfl⟩; clear hst; replace HS : Aside0 (Sep (fps []) w [b2 g32 t186 (wrap64 (a26 - 8)) (wrap64 ((wrap64 (a26 - 8)) + 1)) t355 t382 t366 t425 t521] w551) := ⟨HS.out.sub (.cons_cons _ (.cons _ .slnil))⟩))
        have hc552 : w551.cell? ⟨g32, 0, none⟩ = some (.int .i64 t186) := blk_cellv (HS.out.at0) 0 rfl
        have hc553 : w551.cell? ⟨g32, 1, none⟩ = some (.int .i64 (wrap64 (a26 - 8))) := blk_cellv (HS.out.at0) 1 rfl
        have hc554 : w551.cell? ⟨g32, 2, none⟩ = some (.int .i64 (wrap64 ((wrap64 (a26 - 8)) + 1))) := blk_cellv (HS.out.at0) 2 rfl
        have hc555 : w551.cell? ⟨g32, 3, none⟩ = some (.int .i64 t355) := blk_cellv (HS.out.at0) 3 rfl
        have hc556 : w551.cell? ⟨g32, 4, none⟩ = some (.int .i64 t382) := blk_cellv (HS.out.at0) 4 rfl
        have hc557 : w551.cell? ⟨g32, 5, none⟩ = some (.int .i64 t366) := blk_cellv (HS.out.at0) 5 rfl
        have hc558 : w551.cell? ⟨g32, 6, none⟩ = some (.int .i64 t425) := blk_cellv (HS.out.at0) 6 rfl
        have hc559 : w551.cell? ⟨g32, 7, none⟩ = some (.int .i64 t521) := blk_cellv (HS.out.at0) 7 rfl
        refine bodyPost_ret (v := .tuple #[.agg #[.int .i64 t186, .int .i64 (wrap64 (a26 - 8)), .int .i64 (wrap64 ((wrap64 (a26 - 8)) + 1)), .int .i64 t355, .int .i64 t382, .int .i64 t366, .int .i64 t425, .int .i64 t521], .int .i64 0]) (by simp [results, Tryd.results65, go_sem, hc552, hc553, hc554, hc555, hc556, hc557, hc558, hc559]) rfl ?_
        rw [← some_eq H]
        exact ⟨(by first | rfl | (simp [IntKind.wrap_u32]; done)), HS.out.sub (.cons _ .slnil)⟩
  · replace H := if_no c83 H
    have c83b0 : (t80 == 0) = false := beq_eq_false_iff_ne.mpr c83
    have c83b1 : (t80 != 0) = true := bne_iff_ne.mpr c83
    clear c83
    have hc560 : w82.cell? ⟨g32, 0, none⟩ = some (.int .i64 0) := blk_cellv (HS.out.at1) 0 rfl
    have hz561 : w82.frozen? ⟨g32, 0, none⟩ = false := blk_fz (HS.out.at1) 0
    have hc562 : w82.cell? ⟨g32, 1, none⟩ = some (.int .i64 0) := blk_cellv (HS.out.at1) 1 rfl
    have hz563 : w82.frozen? ⟨g32, 1, none⟩ = false := blk_fz (HS.out.at1) 1
    have hc564 : w82.cell? ⟨g32, 2, none⟩ = some (.int .i64 0) := blk_cellv (HS.out.at1) 2 rfl
    have hz565 : w82.frozen? ⟨g32, 2, none⟩ = false := blk_fz (HS.out.at1) 2
    have hc566 : w82.cell? ⟨g32, 3, none⟩ = some (.int .i64 0) := blk_cellv (HS.out.at1) 3 rfl
    have hz567 : w82.frozen? ⟨g32, 3, none⟩ = false := blk_fz (HS.out.at1) 3
    have hc568 : w82.cell? ⟨g32, 4, none⟩ = some (.int .i64 0) := blk_cellv (HS.out.at1) 4 rfl
    have hz569 : w82.frozen? ⟨g32, 4, none⟩ = false := blk_fz (HS.out.at1) 4
    have hc570 : w82.cell? ⟨g32, 5, none⟩ = some (.int .i64 0) := blk_cellv (HS.out.at1) 5 rfl
    have hz571 : w82.frozen? ⟨g32, 5, none⟩ = false := blk_fz (HS.out.at1) 5
    have hc572 : w82.cell? ⟨g32, 6, none⟩ = some (.int .i64 0) := blk_cellv (HS.out.at1) 6 rfl
    have hz573 : w82.frozen? ⟨g32, 6, none⟩ = false := blk_fz (HS.out.at1) 6
    have hc574 : w82.cell? ⟨g32, 7, none⟩ = some (.int .i64 0) := blk_cellv (HS.out.at1) 7 rfl
    have hz575 : w82.frozen? ⟨g32, 7, none⟩ = false := blk_fz (HS.out.at1) 7
    go_wp2_with (first | ((with_reducible refine gate_store (t := 97) (p := 2) rfl ?_); refine store_event (w1 := (World.setCell (World.setCell (World.setCell (World.setCell (World.setCell (World.setCell (World.setCell (World.setCell w82 ⟨g32, 0, none⟩ (.int .i64 0)) ⟨g32, 1, none⟩ (.int .i64 0)) ⟨g32, 2, none⟩ (.int .i64 0)) ⟨g32, 3, none⟩ (.int .i64 0)) ⟨g32, 4, none⟩ (.int .i64 0)) ⟨g32, 5, none⟩ (.int .i64 0)) ⟨g32, 6, none⟩ (.int .i64 0)) ⟨g32, 7, none⟩ (.int .i64 0))) rfl (t := 97) (p := 2) rfl rfl ?hr ?_; (case hr => first | (go_simp; done) | (go_simp; rfl)); intro w576 hst; clear hc560 hz561 hc562 hz563 hc564 hz565 hc566 hz567 hc568 hz569 hc570 hz571 hc572 hz573 hc574 hz575; replace HS : Aside0 (Sep (fps []) w [b1 g29 a25 a26 a27 a28, b2 g32 0 0 0 0 0 0 0 0] w576) := ⟨by rw [hst]; exact HS.out.setAll (l1 := [b1 g29 a25 a26 a27 a28]) (l2 := []) [.int .i64 0, .int .i64 0, .int .i64 0, .int .i64 0, .int .i64 0, .int .i64 0, .int .i64 0, .int .i64 0] rfl⟩; clear hst; replace HS : Aside0 (Sep (fps []) w [b2 g32 0 0 0 0 0 0 0 0] w576) := ⟨HS.out.sub (.cons _ (.cons_cons _ .slnil))⟩))
    have hc577 : w576.cell? ⟨g32, 0, none⟩ = some (.int .i64 0) := blk_cellv (HS.out.at0) 0 rfl
    have hc578 : w576.cell? ⟨g32, 1, none⟩ = some (.int .i64 0) := blk_cellv (HS.out.at0) 1 rfl
    have hc579 : w576.cell? ⟨g32, 2, none⟩ = some (.int .i64 0) := blk_cellv (HS.out.at0) 2 rfl
    have hc580 : w576.cell? ⟨g32, 3, none⟩ = some (.int .i64 0) := blk_cellv (HS.out.at0) 3 rfl
    have hc581 : w576.cell? ⟨g32, 4, none⟩ = some (.int .i64 0) := blk_cellv (HS.out.at0) 4 rfl
    have hc582 : w576.cell? ⟨g32, 5, none⟩ = some (.int .i64 0) := blk_cellv (HS.out.at0) 5 rfl
    have hc583 : w576.cell? ⟨g32, 6, none⟩ = some (.int .i64 0) := blk_cellv (HS.out.at0) 6 rfl
    have hc584 : w576.cell? ⟨g32, 7, none⟩ = some (.int .i64 0) := blk_cellv (HS.out.at0) 7 rfl
    refine bodyPost_ret (v := .tuple #[.agg #[.int .i64 0, .int .i64 0, .int .i64 0, .int .i64 0, .int .i64 0, .int .i64 0, .int .i64 0, .int .i64 0], .int .i64 t80]) (by simp [results, Tryd.results65, go_sem, hc577, hc578, hc579, hc580, hc581, hc582, hc583, hc584]) rfl ?_
    rw [← some_eq H]
    exact ⟨(by first | rfl | (simp [IntKind.wrap_u32]; done)), HS.out.sub (.cons _ .slnil)⟩

set_option maxHeartbeats 30000000 in
set_option maxRecDepth 100000 in
theorem store_New.calls (a610 : Int) (r : Unit ⊕ (List Int)) (w : World)  (HGl0 : Aside0 (Gl 0 #[.int .i64 0, .int .i64 0, .int .i64 0, .int .i64 0, .int .i64 0] (fps []) w)) (HS : Aside0 (Sep (fps []) w [] w)) (H : Aside0 (store_New.f a610 = some r)) :
    Calls Tryd.prog 66 #[.int .i64 a610] w fun e w' => Sum.elim (fun (r : Unit) => e = .returned (.tuple #[.pointer none, .int .i64 2]) ∧ Sep (fps []) w [] w') (fun (r : List Int) => ∃ (g646 : Nat), e = .returned (.tuple #[.pointer (some ⟨g646, 0, none⟩), .int .i64 0]) ∧ ∃ (A647 : Option Addr) (m648 : Nat) (n649 : Nat), Sep (fps []) w [b6 g646 A647 m648 n649 0, r5 A647 m648 n649 r] w') r := by
  unfold store_New.f at H
  go_enter Tryd.func66, Tryd.ntmps66
  by_cases c624 : a610 < 0
  · replace H := if_yes c624 H
    have c624b0 : decide (a610 < 0) = true := decide_eq_true c624
    clear c624
    go_wp2_with fail
    go_ret2
    rw [← some_eq H]
    exact ⟨(by first | rfl | (simp [IntKind.wrap_u32]; done)), HS.out⟩
  · replace H := if_no c624 H
    have c624b0 : decide (a610 < 0) = false := decide_eq_false c624
    clear c624
    by_cases c625 : a610 > 8388608
    · replace H := if_yes c625 H
      have c625b0 : decide (8388608 < a610) = true := decide_eq_true c625
      clear c625
      go_wp2_with fail
      go_ret2
      rw [← some_eq H]
      exact ⟨(by first | rfl | (simp [IntKind.wrap_u32]; done)), HS.out⟩
    · replace H := if_no c625 H
      have c625b0 : decide (8388608 < a610) = false := decide_eq_false c625
      clear c625
      obtain ⟨m626, HA627, H⟩ := bind_some H
      obtain ⟨hm628, hn629⟩ := mkLen_eq HA627
      have hm628H := Aside0.mk hm628
      clear hm628
      go_wp2_with (first | ((with_reducible refine gate_dst (N := 11) rfl ?_); refine make_event rfl (N := 11) rfl 69 33 (.tmp 10) (.tmp 10) rfl .i64 (.int .u32 0) 4 Tryd.underlying69 (by kernel_rfl) rfl (by decide) (Value.int .u32) 0 rfl m626 (by show Value.int _ _ = _; rw [hm628H.out]) (by show Value.int _ _ = _; rw [hm628H.out]) (by omega) HS.out ?_; intro g630 w631 HS1; replace HS : Aside0 (Sep (fps []) w [r5 (some ⟨g630, 0, none⟩) m626 m626 (List.replicate m626 (0 : Int))] w631) := ⟨HS1⟩; clear HS1) | ((with_reducible refine gate_dst (N := 13) rfl ?_); refine box_on ?hg (N := 13) ?hd (cs := #[.slice (some ⟨g630, 0, none⟩) m626 m626, .int .u64 0]) (t := 154) ?hr ?_; (case hd => rfl); (case hg => rfl); (case hr => first | (go_simp; done) | (go_simp; rfl)); intro g634 hg w635 hbox hb; replace HS : Aside0 (Sep (fps []) w [r5 (some ⟨g630, 0, none⟩) m626 m626 (List.replicate m626 (0 : Int)), b6 g634 (some ⟨g630, 0, none⟩) m626 m626 0] w635) := ⟨HS.out.box hg hbox hb⟩; clear hg hbox hb))
      go_ret2
      rw [← some_eq H]
      exact ⟨g634, (by first | rfl | (simp [IntKind.wrap_u32]; done)), (some ⟨g630, 0, none⟩), m626, m626, ((HS.out).front 1 (by simp)).keep (l := [b6 g634 (some ⟨g630, 0, none⟩) m626 m626 0, r5 (some ⟨g630, 0, none⟩) m626 m626 (List.replicate m626 (0 : Int))]) (rest := [])⟩

set_option maxHeartbeats 30000000 in
set_option maxRecDepth 100000 in
theorem ground_New.calls (k : Nat) (a14 : Int) (a15 : Int) (a16 : Int) (a17 : Int) (r : Unit ⊕ ((Int × Int × Int × Int × List Int) ⊕ Int)) (w : World)  (HGl0 : Aside0 (Gl 0 #[.int .i64 0, .int .i64 0, .int .i64 0, .int .i64 0, .int .i64 0] (fps []) w)) (HS : Aside0 (Sep (fps []) w [] w)) (H : Aside0 (ground_New.f k a14 a15 a16 a17 = some r)) :
    Calls Tryd.prog 15 #[.agg #[.int .i64 a14, .int .i64 a15, .int .i64 a16, .int .i64 a17]] w fun e w' => Sum.elim (fun (r : Unit) => e = .returned (.tuple #[.pointer none, .int .i64 2]) ∧ Sep (fps []) w [] w') (fun (r_ : (Int × Int × Int × Int × List Int) ⊕ Int) => Sum.elim (fun (r : Int × Int × Int × Int × List Int) => ∃ (g796 : Nat), e = .returned (.tuple #[.pointer (some ⟨g796, 0, none⟩), .int .i64 0]) ∧ ∃ (g797 : Nat) (A798 : Option Addr) (m799 : Nat) (n800 : Nat), Sep (fps []) w [b7 g796 g797 r.1 r.2.1 r.2.2.1 r.2.2.2.1, b6 g797 A798 m799 n800 0, r5 A798 m799 n800 r.2.2.2.2] w') (fun (r : Int) => e = .returned (.tuple #[.pointer none, .int .i64 r]) ∧ Sep (fps []) w [] w') r_) r := by
  unfold ground_New.f at H
  go_enter Tryd.func15, Tryd.ntmps15
  go_wp2_with (first | ((with_reducible refine gate_dst (N := 1) rfl ?_); refine box_on ?hg (N := 1) ?hd (cs := #[.int .i64 a14, .int .i64 a15, .int .i64 a16, .int .i64 a17]) (t := 30) ?hr ?_; (case hd => rfl); (case hg => rfl); (case hr => first | (go_simp; done) | (go_simp; rfl)); intro g732 hg w733 hbox hb; replace HS : Aside0 (Sep (fps []) w [b1 g732 a14 a15 a16 a17] w733) := ⟨HS.out.box hg hbox hb⟩; clear hg hbox hb; have hc735 : w733.cell? ⟨g732, 0, none⟩ = some (.int .i64 a14) := blk_cellv (HS.out.at0) 0 rfl; have hc736 : w733.cell? ⟨g732, 1, none⟩ = some (.int .i64 a15) := blk_cellv (HS.out.at0) 1 rfl; have hc737 : w733.cell? ⟨g732, 2, none⟩ = some (.int .i64 a16) := blk_cellv (HS.out.at0) 2 rfl; have hc738 : w733.cell? ⟨g732, 3, none⟩ = some (.int .i64 a17) := blk_cellv (HS.out.at0) 3 rfl))
  clear hc735 hc736 hc737 hc738
  obtain ⟨t739, HA740, H⟩ := bind_some H
  refine (plan_Of.calls _ a14 a15 a16 a17 t739 _ ⟨HGl0.out.pass (l := []) HS.out⟩ ⟨Sep.start _⟩ HA740).mono ?_
  rintro e_ w741 ⟨rfl, hS⟩
  replace HS : Aside0 (Sep (fps []) w [b1 g732 a14 a15 a16 a17] w741) := ⟨HS.out.call hS⟩
  clear hS
  by_cases c762 : t739.2.2.2.2.2.2.2.2 = 0
  · replace H := if_yes c762 H
    have c762b0 : (t739.2.2.2.2.2.2.2.2 == 0) = true := beq_iff_eq.mpr c762
    have c762b1 : (t739.2.2.2.2.2.2.2.2 != 0) = false := bne_eq_false_iff_eq.mpr c762
    clear c762
    go_wp2_with (first | ((with_reducible refine gate_dst (N := 4) rfl ?_); refine box_on ?hg (N := 4) ?hd (cs := #[.int .i64 0, .int .i64 0, .int .i64 0, .int .i64 0, .int .i64 0, .int .i64 0, .int .i64 0, .int .i64 0]) (t := 97) ?hr ?_; (case hd => rfl); (case hg => rfl); (case hr => first | (go_simp; done) | (go_simp; rfl)); intro g742 hg w743 hbox hb; replace HS : Aside0 (Sep (fps []) w [b1 g732 a14 a15 a16 a17, b2 g742 0 0 0 0 0 0 0 0] w743) := ⟨HS.out.box hg hbox hb⟩; clear hg hbox hb; have hc745 : w743.cell? ⟨g742, 0, none⟩ = some (.int .i64 0) := blk_cellv (HS.out.at1) 0 rfl; have hz746 : w743.frozen? ⟨g742, 0, none⟩ = false := blk_fz (HS.out.at1) 0; have hc747 : w743.cell? ⟨g742, 1, none⟩ = some (.int .i64 0) := blk_cellv (HS.out.at1) 1 rfl; have hz748 : w743.frozen? ⟨g742, 1, none⟩ = false := blk_fz (HS.out.at1) 1; have hc749 : w743.cell? ⟨g742, 2, none⟩ = some (.int .i64 0) := blk_cellv (HS.out.at1) 2 rfl; have hz750 : w743.frozen? ⟨g742, 2, none⟩ = false := blk_fz (HS.out.at1) 2; have hc751 : w743.cell? ⟨g742, 3, none⟩ = some (.int .i64 0) := blk_cellv (HS.out.at1) 3 rfl; have hz752 : w743.frozen? ⟨g742, 3, none⟩ = false := blk_fz (HS.out.at1) 3; have hc753 : w743.cell? ⟨g742, 4, none⟩ = some (.int .i64 0) := blk_cellv (HS.out.at1) 4 rfl; have hz754 : w743.frozen? ⟨g742, 4, none⟩ = false := blk_fz (HS.out.at1) 4; have hc755 : w743.cell? ⟨g742, 5, none⟩ = some (.int .i64 0) := blk_cellv (HS.out.at1) 5 rfl; have hz756 : w743.frozen? ⟨g742, 5, none⟩ = false := blk_fz (HS.out.at1) 5; have hc757 : w743.cell? ⟨g742, 6, none⟩ = some (.int .i64 0) := blk_cellv (HS.out.at1) 6 rfl; have hz758 : w743.frozen? ⟨g742, 6, none⟩ = false := blk_fz (HS.out.at1) 6; have hc759 : w743.cell? ⟨g742, 7, none⟩ = some (.int .i64 0) := blk_cellv (HS.out.at1) 7 rfl; have hz760 : w743.frozen? ⟨g742, 7, none⟩ = false := blk_fz (HS.out.at1) 7) | ((with_reducible refine gate_store (t := 97) (p := 4) rfl ?_); refine store_event (w1 := (World.setCell (World.setCell (World.setCell (World.setCell (World.setCell (World.setCell (World.setCell (World.setCell w743 ⟨g742, 0, none⟩ (.int .i64 t739.1)) ⟨g742, 1, none⟩ (.int .i64 t739.2.1)) ⟨g742, 2, none⟩ (.int .i64 t739.2.2.1)) ⟨g742, 3, none⟩ (.int .i64 t739.2.2.2.1)) ⟨g742, 4, none⟩ (.int .i64 t739.2.2.2.2.1)) ⟨g742, 5, none⟩ (.int .i64 t739.2.2.2.2.2.1)) ⟨g742, 6, none⟩ (.int .i64 t739.2.2.2.2.2.2.1)) ⟨g742, 7, none⟩ (.int .i64 t739.2.2.2.2.2.2.2.1))) rfl (t := 97) (p := 4) rfl rfl ?hr ?_; (case hr => first | (go_simp; done) | (go_simp; rfl)); intro w761 hst; clear hc745 hz746 hc747 hz748 hc749 hz750 hc751 hz752 hc753 hz754 hc755 hz756 hc757 hz758 hc759 hz760; replace HS : Aside0 (Sep (fps []) w [b1 g732 a14 a15 a16 a17, b2 g742 t739.1 t739.2.1 t739.2.2.1 t739.2.2.2.1 t739.2.2.2.2.1 t739.2.2.2.2.2.1 t739.2.2.2.2.2.2.1 t739.2.2.2.2.2.2.2.1] w761) := ⟨by rw [hst]; exact HS.out.setAll (l1 := [b1 g732 a14 a15 a16 a17]) (l2 := []) [.int .i64 t739.1, .int .i64 t739.2.1, .int .i64 t739.2.2.1, .int .i64 t739.2.2.2.1, .int .i64 t739.2.2.2.2.1, .int .i64 t739.2.2.2.2.2.1, .int .i64 t739.2.2.2.2.2.2.1, .int .i64 t739.2.2.2.2.2.2.2.1] rfl⟩; clear hst; have hc763 : w761.cell? ⟨g742, 0, none⟩ = some (.int .i64 t739.1) := blk_cellv (HS.out.at1) 0 rfl))
    clear hc763
    obtain ⟨t764, HA765, H⟩ := bind_some H
    rcases t764 with t766 | t767
    · have H := sum_l H
      refine (store_New.calls t739.1 (.inl t766) _ ⟨HGl0.out.pass (l := []) HS.out⟩ ⟨Sep.start _⟩ HA765).mono ?_
      rintro e_ w768 ⟨rfl, hS⟩
      replace HS : Aside0 (Sep (fps []) w [b1 g732 a14 a15 a16 a17, b2 g742 t739.1 t739.2.1 t739.2.2.1 t739.2.2.2.1 t739.2.2.2.2.1 t739.2.2.2.2.2.1 t739.2.2.2.2.2.2.1 t739.2.2.2.2.2.2.2.1] w768) := ⟨HS.out.call hS⟩
      clear hS
      replace HS : Aside0 (Sep (fps []) w [b1 g732 a14 a15 a16 a17] w768) := ⟨HS.out.sub (.cons_cons _ (.cons _ .slnil))⟩
      replace HS : Aside0 (Sep (fps []) w [] w768) := ⟨HS.out.sub (.cons _ .slnil)⟩
      go_wp2_with fail
      go_ret2
      rw [← some_eq H]
      exact ⟨(by first | rfl | (simp [IntKind.wrap_u32]; done)), HS.out⟩
    · have H := sum_r H
      refine (store_New.calls t739.1 (.inr t767) _ ⟨HGl0.out.pass (l := []) HS.out⟩ ⟨Sep.start _⟩ HA765).mono ?_
      rintro e_ w769 ⟨g772, rfl, A773, m774, n775, hS⟩
      replace HS : Aside0 (Sep (fps []) w [b6 g772 A773 m774 n775 0, r5 A773 m774 n775 t767, b1 g732 a14 a15 a16 a17, b2 g742 t739.1 t739.2.1 t739.2.2.1 t739.2.2.2.1 t739.2.2.2.2.1 t739.2.2.2.2.2.1 t739.2.2.2.2.2.2.1 t739.2.2.2.2.2.2.2.1] w769) := ⟨HS.out.call hS⟩
      clear hS
      obtain rfl := (row_len (HS.out.at1)).symm
      replace HS : Aside0 (Sep (fps []) w [b6 g772 A773 t767.length n775 0, r5 A773 t767.length n775 t767, b1 g732 a14 a15 a16 a17] w769) := ⟨HS.out.sub (.cons_cons _ (.cons_cons _ (.cons_cons _ (.cons _ .slnil))))⟩
      have hc777 : w769.cell? ⟨g732, 0, none⟩ = some (.int .i64 a14) := blk_cellv (HS.out.at2) 0 rfl
      have hc778 : w769.cell? ⟨g732, 1, none⟩ = some (.int .i64 a15) := blk_cellv (HS.out.at2) 1 rfl
      have hc779 : w769.cell? ⟨g732, 2, none⟩ = some (.int .i64 a16) := blk_cellv (HS.out.at2) 2 rfl
      have hc780 : w769.cell? ⟨g732, 3, none⟩ = some (.int .i64 a17) := blk_cellv (HS.out.at2) 3 rfl
      go_wp2_with (first | ((with_reducible refine gate_dst (N := 28) rfl ?_); refine box_on ?hg (N := 28) ?hd (cs := #[.pointer (some ⟨g772, 0, none⟩), .int .i64 a14, .int .i64 a15, .int .i64 a16, .int .i64 a17]) (t := 106) ?hr ?_; (case hd => rfl); (case hg => rfl); (case hr => first | (go_simp; done) | (go_simp; rfl)); intro g781 hg w782 hbox hb; clear hc777 hc778 hc779 hc780; replace HS : Aside0 (Sep (fps []) w [b6 g772 A773 t767.length n775 0, r5 A773 t767.length n775 t767, b1 g732 a14 a15 a16 a17, b7 g781 g772 a14 a15 a16 a17] w782) := ⟨HS.out.box hg hbox hb⟩; clear hg hbox hb; replace HS : Aside0 (Sep (fps []) w [b6 g772 A773 t767.length n775 0, r5 A773 t767.length n775 t767, b7 g781 g772 a14 a15 a16 a17] w782) := ⟨HS.out.sub (.cons_cons _ (.cons_cons _ (.cons _ (.cons_cons _ .slnil))))⟩))
      go_ret2
      rw [← some_eq H]
      exact ⟨g781, (by first | rfl | (simp [IntKind.wrap_u32]; done)), g772, A773, t767.length, n775, ((((HS.out).front 1 (by simp)).front 1 (by simp)).front 2 (by simp)).keep (l := [b7 g781 g772 a14 a15 a16 a17, b6 g772 A773 t767.length n775 0, r5 A773 t767.length n775 t767]) (rest := [])⟩
  · replace H := if_no c762 H
    have c762b0 : (t739.2.2.2.2.2.2.2.2 == 0) = false := beq_eq_false_iff_ne.mpr c762
    have c762b1 : (t739.2.2.2.2.2.2.2.2 != 0) = true := bne_iff_ne.mpr c762
    clear c762
    go_wp2_with (first | ((with_reducible refine gate_dst (N := 4) rfl ?_); refine box_on ?hg (N := 4) ?hd (cs := #[.int .i64 0, .int .i64 0, .int .i64 0, .int .i64 0, .int .i64 0, .int .i64 0, .int .i64 0, .int .i64 0]) (t := 97) ?hr ?_; (case hd => rfl); (case hg => rfl); (case hr => first | (go_simp; done) | (go_simp; rfl)); intro g742 hg w743 hbox hb; replace HS : Aside0 (Sep (fps []) w [b1 g732 a14 a15 a16 a17, b2 g742 0 0 0 0 0 0 0 0] w743) := ⟨HS.out.box hg hbox hb⟩; clear hg hbox hb; have hc745 : w743.cell? ⟨g742, 0, none⟩ = some (.int .i64 0) := blk_cellv (HS.out.at1) 0 rfl; have hz746 : w743.frozen? ⟨g742, 0, none⟩ = false := blk_fz (HS.out.at1) 0; have hc747 : w743.cell? ⟨g742, 1, none⟩ = some (.int .i64 0) := blk_cellv (HS.out.at1) 1 rfl; have hz748 : w743.frozen? ⟨g742, 1, none⟩ = false := blk_fz (HS.out.at1) 1; have hc749 : w743.cell? ⟨g742, 2, none⟩ = some (.int .i64 0) := blk_cellv (HS.out.at1) 2 rfl; have hz750 : w743.frozen? ⟨g742, 2, none⟩ = false := blk_fz (HS.out.at1) 2; have hc751 : w743.cell? ⟨g742, 3, none⟩ = some (.int .i64 0) := blk_cellv (HS.out.at1) 3 rfl; have hz752 : w743.frozen? ⟨g742, 3, none⟩ = false := blk_fz (HS.out.at1) 3; have hc753 : w743.cell? ⟨g742, 4, none⟩ = some (.int .i64 0) := blk_cellv (HS.out.at1) 4 rfl; have hz754 : w743.frozen? ⟨g742, 4, none⟩ = false := blk_fz (HS.out.at1) 4; have hc755 : w743.cell? ⟨g742, 5, none⟩ = some (.int .i64 0) := blk_cellv (HS.out.at1) 5 rfl; have hz756 : w743.frozen? ⟨g742, 5, none⟩ = false := blk_fz (HS.out.at1) 5; have hc757 : w743.cell? ⟨g742, 6, none⟩ = some (.int .i64 0) := blk_cellv (HS.out.at1) 6 rfl; have hz758 : w743.frozen? ⟨g742, 6, none⟩ = false := blk_fz (HS.out.at1) 6; have hc759 : w743.cell? ⟨g742, 7, none⟩ = some (.int .i64 0) := blk_cellv (HS.out.at1) 7 rfl; have hz760 : w743.frozen? ⟨g742, 7, none⟩ = false := blk_fz (HS.out.at1) 7) | ((with_reducible refine gate_store (t := 97) (p := 4) rfl ?_); refine store_event (w1 := (World.setCell (World.setCell (World.setCell (World.setCell (World.setCell (World.setCell (World.setCell (World.setCell w743 ⟨g742, 0, none⟩ (.int .i64 t739.1)) ⟨g742, 1, none⟩ (.int .i64 t739.2.1)) ⟨g742, 2, none⟩ (.int .i64 t739.2.2.1)) ⟨g742, 3, none⟩ (.int .i64 t739.2.2.2.1)) ⟨g742, 4, none⟩ (.int .i64 t739.2.2.2.2.1)) ⟨g742, 5, none⟩ (.int .i64 t739.2.2.2.2.2.1)) ⟨g742, 6, none⟩ (.int .i64 t739.2.2.2.2.2.2.1)) ⟨g742, 7, none⟩ (.int .i64 t739.2.2.2.2.2.2.2.1))) rfl (t := 97) (p := 4) rfl rfl ?hr ?_; (case hr => first | (go_simp; done) | (go_simp; rfl)); intro w761 hst; clear hc745 hz746 hc747 hz748 hc749 hz750 hc751 hz752 hc753 hz754 hc755 hz756 hc757 hz758 hc759 hz760; replace HS : Aside0 (Sep (fps []) w [b1 g732 a14 a15 a16 a17, b2 g742 t739.1 t739.2.1 t739.2.2.1 t739.2.2.2.1 t739.2.2.2.2.1 t739.2.2.2.2.2.1 t739.2.2.2.2.2.2.1 t739.2.2.2.2.2.2.2.1] w761) := ⟨by rw [hst]; exact HS.out.setAll (l1 := [b1 g732 a14 a15 a16 a17]) (l2 := []) [.int .i64 t739.1, .int .i64 t739.2.1, .int .i64 t739.2.2.1, .int .i64 t739.2.2.2.1, .int .i64 t739.2.2.2.2.1, .int .i64 t739.2.2.2.2.2.1, .int .i64 t739.2.2.2.2.2.2.1, .int .i64 t739.2.2.2.2.2.2.2.1] rfl⟩; clear hst; replace HS : Aside0 (Sep (fps []) w [] w761) := ⟨HS.out.sub (.cons _ (.cons _ .slnil))⟩))
    go_ret2
    rw [← some_eq H]
    exact ⟨(by first | rfl | (simp [IntKind.wrap_u32]; done)), HS.out⟩

set_option maxHeartbeats 30000000 in
set_option maxRecDepth 100000 in
theorem chain_of.calls (l854 : List Int) (a859 : Int) (a860 : Int) (a861 : Int) (a862 : Int) (a863 : Int) (a864 : Int) (g850 : Nat) (g852 : Nat) (A855 : Option Addr) (m856 : Nat) (n857 : Nat) (r : Int × Int × Int × Bool) (w : World)  (HGl0 : Aside0 (Gl 0 #[.int .i64 0, .int .i64 0, .int .i64 0, .int .i64 0, .int .i64 0] (fps [b7 g850 g852 a860 a861 a862 a863, b6 g852 A855 m856 n857 a859, r5 A855 m856 n857 l854]) w)) (HS : Aside0 (Sep (fps [b7 g850 g852 a860 a861 a862 a863, b6 g852 A855 m856 n857 a859, r5 A855 m856 n857 l854]) w [b7 g850 g852 a860 a861 a862 a863, b6 g852 A855 m856 n857 a859, r5 A855 m856 n857 l854] w)) (H : Aside0 (chain_of.f l854 a859 a860 a861 a862 a863 a864 = some r)) :
    Calls Tryd.prog 139 #[.pointer (some ⟨g850, 0, none⟩), .int .i64 a864] w fun e w' => e = .returned (.tuple #[.agg #[.int .i64 r.1, .int .i64 r.2.1, .int .i64 r.2.2.1], .bool r.2.2.2]) ∧ Sep (fps [b7 g850 g852 a860 a861 a862 a863, b6 g852 A855 m856 n857 a859, r5 A855 m856 n857 l854]) w [b7 g850 g852 a860 a861 a862 a863, b6 g852 A855 m856 n857 a859, r5 A855 m856 n857 l854] w' := by
  generalize (fps [b7 g850 g852 a860 a861 a862 a863, b6 g852 A855 m856 n857 a859, r5 A855 m856 n857 l854]) = FF at HS HGl0 ⊢
  obtain rfl := (row_len (HS.out.at2)).symm
  unfold chain_of.f at H
  go_enter Tryd.func139, Tryd.ntmps139
  by_cases c868 : a864 < 0
  · replace H := if_yes c868 H
    have c868b0 : decide (a864 < 0) = true := decide_eq_true c868
    clear c868
    go_wp2_with (first | ((with_reducible refine gate_dst (N := 4) rfl ?_); refine box_on ?hg (N := 4) ?hd (cs := #[.int .i64 0, .int .i64 0, .int .i64 0]) (t := 166) ?hr ?_; (case hd => rfl); (case hg => rfl); (case hr => first | (go_simp; done) | (go_simp; rfl)); intro g865 hg w866 hbox hb; replace HS : Aside0 (Sep FF w [b7 g850 g852 a860 a861 a862 a863, b6 g852 A855 l854.length n857 a859, r5 A855 l854.length n857 l854, b8 g865 0 0 0] w866) := ⟨HS.out.box hg hbox hb⟩; clear hg hbox hb; have hc869 : w866.cell? ⟨g865, 0, none⟩ = some (.int .i64 0) := blk_cellv (HS.out.at3) 0 rfl; have hz870 : w866.frozen? ⟨g865, 0, none⟩ = false := blk_fz (HS.out.at3) 0; have hc871 : w866.cell? ⟨g865, 1, none⟩ = some (.int .i64 0) := blk_cellv (HS.out.at3) 1 rfl; have hz872 : w866.frozen? ⟨g865, 1, none⟩ = false := blk_fz (HS.out.at3) 1; have hc873 : w866.cell? ⟨g865, 2, none⟩ = some (.int .i64 0) := blk_cellv (HS.out.at3) 2 rfl; have hz874 : w866.frozen? ⟨g865, 2, none⟩ = false := blk_fz (HS.out.at3) 2) | ((with_reducible refine gate_store (t := 166) (p := 4) rfl ?_); refine store_event (w1 := (World.setCell (World.setCell (World.setCell w866 ⟨g865, 0, none⟩ (.int .i64 0)) ⟨g865, 1, none⟩ (.int .i64 0)) ⟨g865, 2, none⟩ (.int .i64 0))) rfl (t := 166) (p := 4) rfl rfl ?hr ?_; (case hr => first | (go_simp; done) | (go_simp; rfl)); intro w875 hst; clear hc869 hz870 hc871 hz872 hc873 hz874; replace HS : Aside0 (Sep FF w [b7 g850 g852 a860 a861 a862 a863, b6 g852 A855 l854.length n857 a859, r5 A855 l854.length n857 l854, b8 g865 0 0 0] w875) := ⟨by rw [hst]; exact HS.out.setAll (l1 := [b7 g850 g852 a860 a861 a862 a863, b6 g852 A855 l854.length n857 a859, r5 A855 l854.length n857 l854]) (l2 := []) [.int .i64 0, .int .i64 0, .int .i64 0] rfl⟩; clear hst))
    have hc876 : w875.cell? ⟨g865, 0, none⟩ = some (.int .i64 0) := blk_cellv (HS.out.at3) 0 rfl
    have hc877 : w875.cell? ⟨g865, 1, none⟩ = some (.int .i64 0) := blk_cellv (HS.out.at3) 1 rfl
    have hc878 : w875.cell? ⟨g865, 2, none⟩ = some (.int .i64 0) := blk_cellv (HS.out.at3) 2 rfl
    refine bodyPost_ret (v := .tuple #[.agg #[.int .i64 0, .int .i64 0, .int .i64 0], .bool false]) (by simp [results, Tryd.results139, go_sem, hc876, hc877, hc878]) rfl ?_
    rw [← some_eq H]
    exact ⟨(by first | rfl | (simp [IntKind.wrap_u32]; done)), HS.out.sub (.cons_cons _ (.cons_cons _ (.cons_cons _ (.cons _ .slnil))))⟩
  · replace H := if_no c868 H
    have c868b0 : decide (a864 < 0) = false := decide_eq_false c868
    clear c868
    by_cases c879 : a864 > 1
    · replace H := if_yes c879 H
      have c879b0 : decide (1 < a864) = true := decide_eq_true c879
      clear c879
      go_wp2_with (first | ((with_reducible refine gate_dst (N := 4) rfl ?_); refine box_on ?hg (N := 4) ?hd (cs := #[.int .i64 0, .int .i64 0, .int .i64 0]) (t := 166) ?hr ?_; (case hd => rfl); (case hg => rfl); (case hr => first | (go_simp; done) | (go_simp; rfl)); intro g865 hg w866 hbox hb; replace HS : Aside0 (Sep FF w [b7 g850 g852 a860 a861 a862 a863, b6 g852 A855 l854.length n857 a859, r5 A855 l854.length n857 l854, b8 g865 0 0 0] w866) := ⟨HS.out.box hg hbox hb⟩; clear hg hbox hb; have hc880 : w866.cell? ⟨g865, 0, none⟩ = some (.int .i64 0) := blk_cellv (HS.out.at3) 0 rfl; have hz881 : w866.frozen? ⟨g865, 0, none⟩ = false := blk_fz (HS.out.at3) 0; have hc882 : w866.cell? ⟨g865, 1, none⟩ = some (.int .i64 0) := blk_cellv (HS.out.at3) 1 rfl; have hz883 : w866.frozen? ⟨g865, 1, none⟩ = false := blk_fz (HS.out.at3) 1; have hc884 : w866.cell? ⟨g865, 2, none⟩ = some (.int .i64 0) := blk_cellv (HS.out.at3) 2 rfl; have hz885 : w866.frozen? ⟨g865, 2, none⟩ = false := blk_fz (HS.out.at3) 2) | ((with_reducible refine gate_store (t := 166) (p := 4) rfl ?_); refine store_event (w1 := (World.setCell (World.setCell (World.setCell w866 ⟨g865, 0, none⟩ (.int .i64 0)) ⟨g865, 1, none⟩ (.int .i64 0)) ⟨g865, 2, none⟩ (.int .i64 0))) rfl (t := 166) (p := 4) rfl rfl ?hr ?_; (case hr => first | (go_simp; done) | (go_simp; rfl)); intro w886 hst; clear hc880 hz881 hc882 hz883 hc884 hz885; replace HS : Aside0 (Sep FF w [b7 g850 g852 a860 a861 a862 a863, b6 g852 A855 l854.length n857 a859, r5 A855 l854.length n857 l854, b8 g865 0 0 0] w886) := ⟨by rw [hst]; exact HS.out.setAll (l1 := [b7 g850 g852 a860 a861 a862 a863, b6 g852 A855 l854.length n857 a859, r5 A855 l854.length n857 l854]) (l2 := []) [.int .i64 0, .int .i64 0, .int .i64 0] rfl⟩; clear hst))
      have hc887 : w886.cell? ⟨g865, 0, none⟩ = some (.int .i64 0) := blk_cellv (HS.out.at3) 0 rfl
      have hc888 : w886.cell? ⟨g865, 1, none⟩ = some (.int .i64 0) := blk_cellv (HS.out.at3) 1 rfl
      have hc889 : w886.cell? ⟨g865, 2, none⟩ = some (.int .i64 0) := blk_cellv (HS.out.at3) 2 rfl
      refine bodyPost_ret (v := .tuple #[.agg #[.int .i64 0, .int .i64 0, .int .i64 0], .bool false]) (by simp [results, Tryd.results139, go_sem, hc887, hc888, hc889]) rfl ?_
      rw [← some_eq H]
      exact ⟨(by first | rfl | (simp [IntKind.wrap_u32]; done)), HS.out.sub (.cons_cons _ (.cons_cons _ (.cons_cons _ (.cons _ .slnil))))⟩
    · replace H := if_no c879 H
      have c879b0 : decide (1 < a864) = false := decide_eq_false c879
      clear c879
      go_wp2_with (first | ((with_reducible refine gate_dst (N := 4) rfl ?_); refine box_on ?hg (N := 4) ?hd (cs := #[.int .i64 0, .int .i64 0, .int .i64 0]) (t := 166) ?hr ?_; (case hd => rfl); (case hg => rfl); (case hr => first | (go_simp; done) | (go_simp; rfl)); intro g865 hg w866 hbox hb; replace HS : Aside0 (Sep FF w [b7 g850 g852 a860 a861 a862 a863, b6 g852 A855 l854.length n857 a859, r5 A855 l854.length n857 l854, b8 g865 0 0 0] w866) := ⟨HS.out.box hg hbox hb⟩; clear hg hbox hb; have hc890 : w866.cell? ⟨g865, 0, none⟩ = some (.int .i64 0) := blk_cellv (HS.out.at3) 0 rfl; have hz891 : w866.frozen? ⟨g865, 0, none⟩ = false := blk_fz (HS.out.at3) 0; have hc892 : w866.cell? ⟨g865, 1, none⟩ = some (.int .i64 0) := blk_cellv (HS.out.at3) 1 rfl; have hz893 : w866.frozen? ⟨g865, 1, none⟩ = false := blk_fz (HS.out.at3) 1; have hc894 : w866.cell? ⟨g865, 2, none⟩ = some (.int .i64 0) := blk_cellv (HS.out.at3) 2 rfl; have hz895 : w866.frozen? ⟨g865, 2, none⟩ = false := blk_fz (HS.out.at3) 2) | ((with_reducible refine gate_store (t := 166) (p := 4) rfl ?_); refine store_event (w1 := (World.setCell (World.setCell (World.setCell w866 ⟨g865, 0, none⟩ (.int .i64 (wrap64 (3 * a864)))) ⟨g865, 1, none⟩ (.int .i64 (wrap64 ((wrap64 (3 * a864)) + 1)))) ⟨g865, 2, none⟩ (.int .i64 (wrap64 ((wrap64 (3 * a864)) + 2))))) rfl (t := 166) (p := 4) rfl rfl ?hr ?_; (case hr => first | (go_simp; done) | (go_simp; rfl)); intro w896 hst; clear hc890 hz891 hc892 hz893 hc894 hz895; replace HS : Aside0 (Sep FF w [b7 g850 g852 a860 a861 a862 a863, b6 g852 A855 l854.length n857 a859, r5 A855 l854.length n857 l854, b8 g865 (wrap64 (3 * a864)) (wrap64 ((wrap64 (3 * a864)) + 1)) (wrap64 ((wrap64 (3 * a864)) + 2))] w896) := ⟨by rw [hst]; exact HS.out.setAll (l1 := [b7 g850 g852 a860 a861 a862 a863, b6 g852 A855 l854.length n857 a859, r5 A855 l854.length n857 l854]) (l2 := []) [.int .i64 (wrap64 (3 * a864)), .int .i64 (wrap64 ((wrap64 (3 * a864)) + 1)), .int .i64 (wrap64 ((wrap64 (3 * a864)) + 2))] rfl⟩; clear hst))
      have hc897 : w896.cell? ⟨g865, 0, none⟩ = some (.int .i64 (wrap64 (3 * a864))) := blk_cellv (HS.out.at3) 0 rfl
      have hc898 : w896.cell? ⟨g865, 1, none⟩ = some (.int .i64 (wrap64 ((wrap64 (3 * a864)) + 1))) := blk_cellv (HS.out.at3) 1 rfl
      have hc899 : w896.cell? ⟨g865, 2, none⟩ = some (.int .i64 (wrap64 ((wrap64 (3 * a864)) + 2))) := blk_cellv (HS.out.at3) 2 rfl
      refine bodyPost_ret (v := .tuple #[.agg #[.int .i64 (wrap64 (3 * a864)), .int .i64 (wrap64 ((wrap64 (3 * a864)) + 1)), .int .i64 (wrap64 ((wrap64 (3 * a864)) + 2))], .bool true]) (by simp [results, Tryd.results139, go_sem, hc897, hc898, hc899]) rfl ?_
      rw [← some_eq H]
      exact ⟨(by first | rfl | (simp [IntKind.wrap_u32]; done)), HS.out.sub (.cons_cons _ (.cons_cons _ (.cons_cons _ (.cons _ .slnil))))⟩

set_option maxHeartbeats 30000000 in
set_option maxRecDepth 100000 in
theorem ground_Ground_all.calls (l936 : List Int) (a941 : Int) (a942 : Int) (a943 : Int) (a944 : Int) (a945 : Int) (g932 : Nat) (g934 : Nat) (A937 : Option Addr) (m938 : Nat) (n939 : Nat) (r : Unit) (w : World)  (HGl0 : Aside0 (Gl 0 #[.int .i64 0, .int .i64 0, .int .i64 0, .int .i64 0, .int .i64 0] (fps [b7 g932 g934 a942 a943 a944 a945, b6 g934 A937 m938 n939 a941, r5 A937 m938 n939 l936]) w)) (HS : Aside0 (Sep (fps [b7 g932 g934 a942 a943 a944 a945, b6 g934 A937 m938 n939 a941, r5 A937 m938 n939 l936]) w [b7 g932 g934 a942 a943 a944 a945, b6 g934 A937 m938 n939 a941, r5 A937 m938 n939 l936] w)) (H : Aside0 (ground_Ground_all.f l936 a941 a942 a943 a944 a945 = some r)) :
    Calls Tryd.prog 70 #[.pointer (some ⟨g932, 0, none⟩)] w fun e w' => e = .returned (.pointer (some ⟨g934, 0, none⟩)) ∧ Sep (fps [b7 g932 g934 a942 a943 a944 a945, b6 g934 A937 m938 n939 a941, r5 A937 m938 n939 l936]) w [b7 g932 g934 a942 a943 a944 a945, b6 g934 A937 m938 n939 a941, r5 A937 m938 n939 l936] w' := by
  generalize (fps [b7 g932 g934 a942 a943 a944 a945, b6 g934 A937 m938 n939 a941, r5 A937 m938 n939 l936]) = FF at HS HGl0 ⊢
  obtain rfl := (row_len (HS.out.at2)).symm
  unfold ground_Ground_all.f at H
  go_enter Tryd.func70, Tryd.ntmps70
  have hc946 : w.cell? ⟨g932, 0, none⟩ = some (.pointer (some ⟨g934, 0, none⟩)) := blk_cellv (HS.out.at0) 0 rfl
  go_wp2_with fail
  clear hc946
  go_ret
  clear H
  exact ⟨(by first | rfl | (simp [IntKind.wrap_u32]; done)), HS.out⟩

set_option maxHeartbeats 30000000 in
set_option maxRecDepth 100000 in
theorem ground_within.calls (a951 : Int) (a952 : Int) (a953 : Int) (r : Int) (w : World)  (HGl0 : Aside0 (Gl 0 #[.int .i64 0, .int .i64 0, .int .i64 0, .int .i64 0, .int .i64 0] (fps []) w)) (HS : Aside0 (Sep (fps []) w [] w)) (H : Aside0 (ground_within.f a951 a952 a953 = some r)) :
    Calls Tryd.prog 129 #[.int .i64 a951, .int .i64 a952, .int .i64 a953] w fun e w' => e = .returned (.int .i64 r) ∧ Sep (fps []) w [] w' := by
  unfold ground_within.f at H
  go_enter Tryd.func129, Tryd.ntmps129
  by_cases c954 : a951 < 0
  · replace H := if_yes c954 H
    have c954b0 : decide (a951 < 0) = true := decide_eq_true c954
    clear c954
    go_wp2_with fail
    go_ret
    rw [← some_eq H]
    exact ⟨(by first | rfl | (simp [IntKind.wrap_u32]; done)), HS.out⟩
  · replace H := if_no c954 H
    have c954b0 : decide (a951 < 0) = false := decide_eq_false c954
    clear c954
    by_cases c955 : a951 ≥ a952
    · replace H := if_yes c955 H
      have c955b0 : decide (a952 ≤ a951) = true := decide_eq_true c955
      clear c955
      go_wp2_with fail
      go_ret
      rw [← some_eq H]
      exact ⟨(by first | rfl | (simp [IntKind.wrap_u32]; done)), HS.out⟩
    · replace H := if_no c955 H
      have c955b0 : decide (a952 ≤ a951) = false := decide_eq_false c955
      clear c955
      go_wp2_with fail
      go_ret
      rw [← some_eq H]
      exact ⟨(by first | rfl | (simp [IntKind.wrap_u32]; done)), HS.out⟩

set_option maxHeartbeats 30000000 in
set_option maxRecDepth 100000 in
theorem ground_reg.calls (a950 : Int) (r : Int) (w : World)  (HGl0 : Aside0 (Gl 0 #[.int .i64 0, .int .i64 0, .int .i64 0, .int .i64 0, .int .i64 0] (fps []) w)) (HS : Aside0 (Sep (fps []) w [] w)) (H : Aside0 (ground_reg.f a950 = some r)) :
    Calls Tryd.prog 131 #[.int .i64 a950] w fun e w' => e = .returned (.int .i64 r) ∧ Sep (fps []) w [] w' := by
  unfold ground_reg.f at H
  go_enter Tryd.func131, Tryd.ntmps131
  go_wp2_with fail
  obtain ⟨t956, HA957, H⟩ := bind_some H
  refine (ground_within.calls a950 24 0 t956 _ ⟨HGl0.out.pass (l := []) HS.out⟩ ⟨Sep.start _⟩ HA957).mono ?_
  rintro e_ w958 ⟨rfl, hS⟩
  replace HS : Aside0 (Sep (fps []) w [] w958) := ⟨HS.out.call hS⟩
  clear hS
  go_wp2_with fail
  go_ret
  rw [← some_eq H]
  exact ⟨(by first | rfl | (simp [IntKind.wrap_u32]; done)), HS.out⟩

set_option maxHeartbeats 30000000 in
set_option maxRecDepth 100000 in
theorem store_Store_has.calls (l975 : List Int) (a980 : Int) (a981 : Int) (g973 : Nat) (A976 : Option Addr) (m977 : Nat) (n978 : Nat) (r : Bool) (w : World)  (HGl0 : Aside0 (Gl 0 #[.int .i64 0, .int .i64 0, .int .i64 0, .int .i64 0, .int .i64 0] (fps [b6 g973 A976 m977 n978 a980, r5 A976 m977 n978 l975]) w)) (HS : Aside0 (Sep (fps [b6 g973 A976 m977 n978 a980, r5 A976 m977 n978 l975]) w [b6 g973 A976 m977 n978 a980, r5 A976 m977 n978 l975] w)) (H : Aside0 (store_Store_has.f l975 a980 a981 = some r)) :
    Calls Tryd.prog 127 #[.pointer (some ⟨g973, 0, none⟩), .int .i64 a981] w fun e w' => e = .returned (.bool r) ∧ Sep (fps [b6 g973 A976 m977 n978 a980, r5 A976 m977 n978 l975]) w [b6 g973 A976 m977 n978 a980, r5 A976 m977 n978 l975] w' := by
  generalize (fps [b6 g973 A976 m977 n978 a980, r5 A976 m977 n978 l975]) = FF at HS HGl0 ⊢
  obtain rfl := (row_len (HS.out.at1)).symm
  unfold store_Store_has.f at H
  go_enter Tryd.func127, Tryd.ntmps127
  by_cases c982 : a981 ≥ 0
  · replace H := if_yes c982 H
    have c982b0 : decide (0 ≤ a981) = true := decide_eq_true c982
    clear c982
    have hc983 : w.cell? ⟨g973, 0, none⟩ = some (.slice A976 l975.length n978) := blk_cellv (HS.out.at0) 0 rfl
    go_wp2_with fail
    clear hc983
    go_ret
    rw [← some_eq H]
    exact ⟨(by first | rfl | (simp [IntKind.wrap_u32]; done)), HS.out⟩
  · replace H := if_no c982 H
    have c982b0 : decide (0 ≤ a981) = false := decide_eq_false c982
    clear c982
    go_wp2_with fail
    go_ret
    rw [← some_eq H]
    exact ⟨(by first | rfl | (simp [IntKind.wrap_u32]; done)), HS.out⟩

set_option maxHeartbeats 30000000 in
set_option maxRecDepth 100000 in
theorem atomic_Uint64_Add.calls (l991 : List Int) (a996 : Int) (a997 : Int) (g989 : Nat) (A992 : Option Addr) (m993 : Nat) (n994 : Nat) (r : Int × Int) (w : World)  (HGl0 : Aside0 (Gl 0 #[.int .i64 0, .int .i64 0, .int .i64 0, .int .i64 0, .int .i64 0] (fps [b6 g989 A992 m993 n994 a996, r5 A992 m993 n994 l991]) w)) (HS : Aside0 (Sep (fps [b6 g989 A992 m993 n994 a996, r5 A992 m993 n994 l991]) w [b6 g989 A992 m993 n994 a996, r5 A992 m993 n994 l991] w)) (H : Aside0 (atomic_Uint64_Add.f l991 a996 a997 = some r)) :
    Calls Tryd.prog 128 #[.pointer (some ⟨g989, 1, none⟩), .int .u64 a997] w fun e w' => e = .returned (.int .u64 r.1) ∧ Sep (fps [b6 g989 A992 m993 n994 a996, r5 A992 m993 n994 l991]) w [b6 g989 A992 m993 n994 r.2, r5 A992 m993 n994 l991] w' := by
  generalize (fps [b6 g989 A992 m993 n994 a996, r5 A992 m993 n994 l991]) = FF at HS HGl0 ⊢
  obtain rfl := (row_len (HS.out.at1)).symm
  unfold atomic_Uint64_Add.f at H
  go_enter Tryd.func128, Tryd.ntmps128
  obtain ⟨y1007, HA1008, H⟩ := bind_some H
  have hc1004 : w.cell? ⟨g989, 1, none⟩ = some (.int .u64 a996) := blk_cellv (HS.out.at0) 1 rfl
  have hz1006 : w.frozen? ⟨g989, 1, none⟩ = false := blk_fz (HS.out.at0) 1
  have hn1005 : (callFunc 153 #[.pointer (some ⟨g989, 1, none⟩), .int .u64 a997]).run Tryd.prog w = .ok (.value (.int .u64 y1007)) ((World.setCell w ⟨g989, 1, none⟩ (.int .u64 y1007))) := (some_eq HA1008) ▸ run_call_add Tryd.func153 (by kernel_rfl) (by kernel_rfl) (by kernel_rfl) .u64 (by kernel_rfl) hc1004 hz1006 (by rfl)
  go_wp2_with (first | ((with_reducible refine gate_dst (N := 9) rfl ?_); refine run_on2 (by rfl) (w1 := (World.setCell w ⟨g989, 1, none⟩ (.int .u64 y1007))) (v := .int .u64 y1007) ?hr ?_; (case hr => first | (go_simp; done) | (go_simp; rfl)); intro w1009 hst; clear hc1004 hz1006; have hq0 : Sep FF w [b6 g989 A992 l991.length n994 y1007, r5 A992 l991.length n994 l991] (World.setCell w ⟨g989, 1, none⟩ (.int .u64 y1007)) := (HS.out).set1 (l1 := []) (l2 := [r5 A992 l991.length n994 l991]) 1 (.int .u64 y1007); replace HS : Aside0 (Sep FF w [b6 g989 A992 l991.length n994 y1007, r5 A992 l991.length n994 l991] w1009) := ⟨by rw [hst]; exact hq0⟩; clear hst hn1005 hq0))
  go_ret
  rw [← some_eq H]
  exact ⟨(by first | rfl | (simp [IntKind.wrap_u32]; done)), HS.out⟩

set_option maxHeartbeats 30000000 in
set_option maxRecDepth 100000 in
theorem store_Store_Get.calls (l965 : List Int) (a970 : Int) (a971 : Int) (g963 : Nat) (A966 : Option Addr) (m967 : Nat) (n968 : Nat) (r : Int × Int) (w : World)  (HGl0 : Aside0 (Gl 0 #[.int .i64 0, .int .i64 0, .int .i64 0, .int .i64 0, .int .i64 0] (fps [b6 g963 A966 m967 n968 a970, r5 A966 m967 n968 l965]) w)) (HS : Aside0 (Sep (fps [b6 g963 A966 m967 n968 a970, r5 A966 m967 n968 l965]) w [b6 g963 A966 m967 n968 a970, r5 A966 m967 n968 l965] w)) (H : Aside0 (store_Store_Get.f l965 a970 a971 = some r)) :
    Calls Tryd.prog 130 #[.pointer (some ⟨g963, 0, none⟩), .int .i64 a971] w fun e w' => e = .returned (.int .u32 r.1) ∧ Sep (fps [b6 g963 A966 m967 n968 a970, r5 A966 m967 n968 l965]) w [b6 g963 A966 m967 n968 r.2, r5 A966 m967 n968 l965] w' := by
  generalize (fps [b6 g963 A966 m967 n968 a970, r5 A966 m967 n968 l965]) = FF at HS HGl0 ⊢
  obtain rfl := (row_len (HS.out.at1)).symm
  unfold store_Store_Get.f at H
  go_enter Tryd.func130, Tryd.ntmps130
  go_wp2_with fail
  obtain ⟨t1019, HA1020, H⟩ := bind_some H
  refine (store_Store_has.calls l965 a970 a971 g963 A966 l965.length n968 t1019 _ ⟨HGl0.out.pass HS.out⟩ ⟨HS.out.begin⟩ HA1020).mono ?_
  rintro e_ w1021 ⟨rfl, hS⟩
  replace HS : Aside0 (Sep FF w [b6 g963 A966 l965.length n968 a970, r5 A966 l965.length n968 l965] w1021) := ⟨HS.out.call hS⟩
  clear hS
  by_cases c1022 : t1019 = true
  · replace H := if_yes c1022 H
    have c1022b0 : t1019 = true := c1022
    have c1022b1 : (!t1019) = false := by rw [c1022b0]; rfl
    try rw [c1022b1]
    clear c1022
    go_wp2_with fail
    obtain ⟨t1023, HA1024, H⟩ := bind_some H
    refine (atomic_Uint64_Add.calls l965 a970 1 g963 A966 l965.length n968 t1023 _ ⟨HGl0.out.pass HS.out⟩ ⟨HS.out.begin⟩ HA1024).mono ?_
    rintro e_ w1025 ⟨rfl, hS⟩
    replace HS : Aside0 (Sep FF w [b6 g963 A966 l965.length n968 t1023.2, r5 A966 l965.length n968 l965] w1025) := ⟨HS.out.call hS⟩
    clear hS
    by_cases c1027 : 0 ≤ a971
    · replace H := if_yes c1027 H
      have c1027b0 : decide (0 ≤ a971) = true := decide_eq_true c1027
      have c1027p : (0 ≤ a971) = True := eq_true c1027
      clear c1027
      by_cases c1028 : a971 < (l965.length : Int)
      · replace H := if_yes c1028 H
        have c1028b0 : decide (a971 < (l965.length : Int)) = true := decide_eq_true c1028
        have c1028p : (a971 < (l965.length : Int)) = True := eq_true c1028
        clear c1028
        have hc1026 : w1025.cell? ⟨g963, 0, none⟩ = some (.slice A966 l965.length n968) := blk_cellv (HS.out.at0) 0 rfl
        obtain ⟨g1029, ea⟩ := row_at (HS.out.at1) (by have := (of_decide_eq_true c1027b0); have := (of_decide_eq_true c1028b0); omega); cases ea
        have hx1030 := C_at_int (row_Ci (HS.out.at1)) a971 (of_decide_eq_true c1027b0) (of_decide_eq_true c1028b0)
        have hx1031 : w1025.cell? ⟨g1029, (a971).toNat, none⟩ = some (.int .u32 (rd l965 a971)) := (row_get 0 (HS.out.at1) a971 (of_decide_eq_true c1027b0) (of_decide_eq_true c1028b0)).1
        go_wp2_with fail
        clear hc1026 hx1030 hx1031
        go_ret
        rw [← some_eq H]
        exact ⟨(by first | rfl | (simp [IntKind.wrap_u32]; done)), HS.out⟩
      · replace H := if_no c1028 H
        have c1028b0 : decide (a971 < (l965.length : Int)) = false := decide_eq_false c1028
        clear c1028
        exact (none_no H).elim
    · replace H := if_no c1027 H
      have c1027b0 : decide (0 ≤ a971) = false := decide_eq_false c1027
      clear c1027
      exact (none_no H).elim
  · replace H := if_no c1022 H
    have c1022b0 : t1019 = false := by simpa using c1022
    have c1022b1 : (!t1019) = true := by rw [c1022b0]; rfl
    try rw [c1022b1]
    clear c1022
    go_wp2_with fail
    go_ret
    rw [← some_eq H]
    exact ⟨(by first | rfl | (simp [IntKind.wrap_u32]; done)), HS.out⟩

set_option maxHeartbeats 30000000 in
set_option maxRecDepth 100000 in
theorem ground_Ground_Reg.calls (l920 : List Int) (a925 : Int) (a926 : Int) (a927 : Int) (a928 : Int) (a929 : Int) (a930 : Int) (g916 : Nat) (g918 : Nat) (A921 : Option Addr) (m922 : Nat) (n923 : Nat) (r : Int × Int) (w : World)  (HGl0 : Aside0 (Gl 0 #[.int .i64 0, .int .i64 0, .int .i64 0, .int .i64 0, .int .i64 0] (fps [b7 g916 g918 a926 a927 a928 a929, b6 g918 A921 m922 n923 a925, r5 A921 m922 n923 l920]) w)) (HS : Aside0 (Sep (fps [b7 g916 g918 a926 a927 a928 a929, b6 g918 A921 m922 n923 a925, r5 A921 m922 n923 l920]) w [b7 g916 g918 a926 a927 a928 a929, b6 g918 A921 m922 n923 a925, r5 A921 m922 n923 l920] w)) (H : Aside0 (ground_Ground_Reg.f l920 a925 a926 a927 a928 a929 a930 = some r)) :
    Calls Tryd.prog 81 #[.pointer (some ⟨g916, 0, none⟩), .int .i64 a930] w fun e w' => e = .returned (.int .i64 r.1) ∧ Sep (fps [b7 g916 g918 a926 a927 a928 a929, b6 g918 A921 m922 n923 a925, r5 A921 m922 n923 l920]) w [b7 g916 g918 a926 a927 a928 a929, b6 g918 A921 m922 n923 r.2, r5 A921 m922 n923 l920] w' := by
  generalize (fps [b7 g916 g918 a926 a927 a928 a929, b6 g918 A921 m922 n923 a925, r5 A921 m922 n923 l920]) = FF at HS HGl0 ⊢
  obtain rfl := (row_len (HS.out.at2)).symm
  unfold ground_Ground_Reg.f at H
  go_enter Tryd.func81, Tryd.ntmps81
  go_wp2_with fail
  obtain ⟨t1035, HA1036, H⟩ := bind_some H
  refine (ground_Ground_all.calls l920 a925 a926 a927 a928 a929 g916 g918 A921 l920.length n923 t1035 _ ⟨HGl0.out.pass HS.out⟩ ⟨HS.out.begin⟩ HA1036).mono ?_
  rintro e_ w1037 ⟨rfl, hS⟩
  replace HS : Aside0 (Sep FF w [b7 g916 g918 a926 a927 a928 a929, b6 g918 A921 l920.length n923 a925, r5 A921 l920.length n923 l920] w1037) := ⟨HS.out.call hS⟩
  clear hS
  go_wp2_with fail
  obtain ⟨t1038, HA1039, H⟩ := bind_some H
  refine (ground_reg.calls a930 t1038 _ ⟨HGl0.out.pass (l := []) HS.out⟩ ⟨Sep.start _⟩ HA1039).mono ?_
  rintro e_ w1040 ⟨rfl, hS⟩
  replace HS : Aside0 (Sep FF w [b7 g916 g918 a926 a927 a928 a929, b6 g918 A921 l920.length n923 a925, r5 A921 l920.length n923 l920] w1040) := ⟨HS.out.call hS⟩
  clear hS
  go_wp2_with fail
  replace HS : Aside0 (Sep FF w [r5 A921 l920.length n923 l920, b7 g916 g918 a926 a927 a928 a929, b6 g918 A921 l920.length n923 a925] w1040) := ⟨HS.out.front 2 (by simp)⟩
  replace HS : Aside0 (Sep FF w [b6 g918 A921 l920.length n923 a925, r5 A921 l920.length n923 l920, b7 g916 g918 a926 a927 a928 a929] w1040) := ⟨HS.out.front 2 (by simp)⟩
  obtain ⟨t1041, HA1042, H⟩ := bind_some H
  refine (store_Store_Get.calls l920 a925 t1038 g918 A921 l920.length n923 t1041 _ ⟨HGl0.out.pass HS.out⟩ ⟨HS.out.begin⟩ HA1042).mono ?_
  rintro e_ w1043 ⟨rfl, hS⟩
  replace HS : Aside0 (Sep FF w [b6 g918 A921 l920.length n923 t1041.2, r5 A921 l920.length n923 l920, b7 g916 g918 a926 a927 a928 a929] w1043) := ⟨HS.out.call hS⟩
  clear hS
  go_wp2_with fail
  go_ret
  rw [← some_eq H]
  exact ⟨(by first | rfl | (simp [IntKind.wrap_u32]; done)), ((((HS.out).front 1 (by simp)).front 1 (by simp)).front 2 (by simp)).keep (l := [b7 g916 g918 a926 a927 a928 a929, b6 g918 A921 l920.length n923 t1041.2, r5 A921 l920.length n923 l920]) (rest := [])⟩

set_option maxHeartbeats 30000000 in
set_option maxRecDepth 100000 in
theorem chain_Len.calls (l838 : List Int) (a843 : Int) (a844 : Int) (a845 : Int) (a846 : Int) (a847 : Int) (a848 : Int) (g834 : Nat) (g836 : Nat) (A839 : Option Addr) (m840 : Nat) (n841 : Nat) (r : Int × Int) (w : World)  (HGl0 : Aside0 (Gl 0 #[.int .i64 0, .int .i64 0, .int .i64 0, .int .i64 0, .int .i64 0] (fps [b7 g834 g836 a844 a845 a846 a847, b6 g836 A839 m840 n841 a843, r5 A839 m840 n841 l838]) w)) (HS : Aside0 (Sep (fps [b7 g834 g836 a844 a845 a846 a847, b6 g836 A839 m840 n841 a843, r5 A839 m840 n841 l838]) w [b7 g834 g836 a844 a845 a846 a847, b6 g836 A839 m840 n841 a843, r5 A839 m840 n841 l838] w)) (H : Aside0 (chain_Len.f l838 a843 a844 a845 a846 a847 a848 = some r)) :
    Calls Tryd.prog 105 #[.pointer (some ⟨g834, 0, none⟩), .int .i64 a848] w fun e w' => e = .returned (.int .i64 r.1) ∧ Sep (fps [b7 g834 g836 a844 a845 a846 a847, b6 g836 A839 m840 n841 a843, r5 A839 m840 n841 l838]) w [b7 g834 g836 a844 a845 a846 a847, b6 g836 A839 m840 n841 r.2, r5 A839 m840 n841 l838] w' := by
  generalize (fps [b7 g834 g836 a844 a845 a846 a847, b6 g836 A839 m840 n841 a843, r5 A839 m840 n841 l838]) = FF at HS HGl0 ⊢
  obtain rfl := (row_len (HS.out.at2)).symm
  unfold chain_Len.f at H
  go_enter Tryd.func105, Tryd.ntmps105
  go_wp2_with fail
  obtain ⟨t1047, HA1048, H⟩ := bind_some H
  refine (chain_of.calls l838 a843 a844 a845 a846 a847 a848 g834 g836 A839 l838.length n841 t1047 _ ⟨HGl0.out.pass HS.out⟩ ⟨HS.out.begin⟩ HA1048).mono ?_
  rintro e_ w1049 ⟨rfl, hS⟩
  replace HS : Aside0 (Sep FF w [b7 g834 g836 a844 a845 a846 a847, b6 g836 A839 l838.length n841 a843, r5 A839 l838.length n841 l838] w1049) := ⟨HS.out.call hS⟩
  clear hS
  by_cases c1060 : t1047.2.2.2 = true
  · replace H := if_yes c1060 H
    have c1060b0 : t1047.2.2.2 = true := c1060
    have c1060b1 : (!t1047.2.2.2) = false := by rw [c1060b0]; rfl
    try rw [c1060b1]
    clear c1060
    go_wp2_with (first | ((with_reducible refine gate_dst (N := 5) rfl ?_); refine box_on ?hg (N := 5) ?hd (cs := #[.int .i64 0, .int .i64 0, .int .i64 0]) (t := 166) ?hr ?_; (case hd => rfl); (case hg => rfl); (case hr => first | (go_simp; done) | (go_simp; rfl)); intro g1050 hg w1051 hbox hb; replace HS : Aside0 (Sep FF w [b7 g834 g836 a844 a845 a846 a847, b6 g836 A839 l838.length n841 a843, r5 A839 l838.length n841 l838, b8 g1050 0 0 0] w1051) := ⟨HS.out.box hg hbox hb⟩; clear hg hbox hb; have hc1053 : w1051.cell? ⟨g1050, 0, none⟩ = some (.int .i64 0) := blk_cellv (HS.out.at3) 0 rfl; have hz1054 : w1051.frozen? ⟨g1050, 0, none⟩ = false := blk_fz (HS.out.at3) 0; have hc1055 : w1051.cell? ⟨g1050, 1, none⟩ = some (.int .i64 0) := blk_cellv (HS.out.at3) 1 rfl; have hz1056 : w1051.frozen? ⟨g1050, 1, none⟩ = false := blk_fz (HS.out.at3) 1; have hc1057 : w1051.cell? ⟨g1050, 2, none⟩ = some (.int .i64 0) := blk_cellv (HS.out.at3) 2 rfl; have hz1058 : w1051.frozen? ⟨g1050, 2, none⟩ = false := blk_fz (HS.out.at3) 2) | ((with_reducible refine gate_store (t := 166) (p := 5) rfl ?_); refine store_event (w1 := (World.setCell (World.setCell (World.setCell w1051 ⟨g1050, 0, none⟩ (.int .i64 t1047.1)) ⟨g1050, 1, none⟩ (.int .i64 t1047.2.1)) ⟨g1050, 2, none⟩ (.int .i64 t1047.2.2.1))) rfl (t := 166) (p := 5) rfl rfl ?hr ?_; (case hr => first | (go_simp; done) | (go_simp; rfl)); intro w1059 hst; clear hc1053 hz1054 hc1055 hz1056 hc1057 hz1058; replace HS : Aside0 (Sep FF w [b7 g834 g836 a844 a845 a846 a847, b6 g836 A839 l838.length n841 a843, r5 A839 l838.length n841 l838, b8 g1050 t1047.1 t1047.2.1 t1047.2.2.1] w1059) := ⟨by rw [hst]; exact HS.out.setAll (l1 := [b7 g834 g836 a844 a845 a846 a847, b6 g836 A839 l838.length n841 a843, r5 A839 l838.length n841 l838]) (l2 := []) [.int .i64 t1047.1, .int .i64 t1047.2.1, .int .i64 t1047.2.2.1] rfl⟩; clear hst; have hc1061 : w1059.cell? ⟨g1050, 2, none⟩ = some (.int .i64 t1047.2.2.1) := blk_cellv (HS.out.at3) 2 rfl))
    clear hc1061
    obtain ⟨t1062, HA1063, H⟩ := bind_some H
    refine (ground_Ground_Reg.calls l838 a843 a844 a845 a846 a847 t1047.2.2.1 g834 g836 A839 l838.length n841 t1062 _ ⟨HGl0.out.pass HS.out⟩ ⟨HS.out.begin⟩ HA1063).mono ?_
    rintro e_ w1064 ⟨rfl, hS⟩
    replace HS : Aside0 (Sep FF w [b7 g834 g836 a844 a845 a846 a847, b6 g836 A839 l838.length n841 t1062.2, r5 A839 l838.length n841 l838, b8 g1050 t1047.1 t1047.2.1 t1047.2.2.1] w1064) := ⟨HS.out.call hS⟩
    clear hS
    replace HS : Aside0 (Sep FF w [b7 g834 g836 a844 a845 a846 a847, b6 g836 A839 l838.length n841 t1062.2, r5 A839 l838.length n841 l838] w1064) := ⟨HS.out.sub (.cons_cons _ (.cons_cons _ (.cons_cons _ (.cons _ .slnil))))⟩
    go_wp2_with fail
    go_ret
    rw [← some_eq H]
    exact ⟨(by first | rfl | (simp [IntKind.wrap_u32]; done)), HS.out⟩
  · replace H := if_no c1060 H
    have c1060b0 : t1047.2.2.2 = false := by simpa using c1060
    have c1060b1 : (!t1047.2.2.2) = true := by rw [c1060b0]; rfl
    try rw [c1060b1]
    clear c1060
    go_wp2_with (first | ((with_reducible refine gate_dst (N := 5) rfl ?_); refine box_on ?hg (N := 5) ?hd (cs := #[.int .i64 0, .int .i64 0, .int .i64 0]) (t := 166) ?hr ?_; (case hd => rfl); (case hg => rfl); (case hr => first | (go_simp; done) | (go_simp; rfl)); intro g1050 hg w1051 hbox hb; replace HS : Aside0 (Sep FF w [b7 g834 g836 a844 a845 a846 a847, b6 g836 A839 l838.length n841 a843, r5 A839 l838.length n841 l838, b8 g1050 0 0 0] w1051) := ⟨HS.out.box hg hbox hb⟩; clear hg hbox hb; have hc1053 : w1051.cell? ⟨g1050, 0, none⟩ = some (.int .i64 0) := blk_cellv (HS.out.at3) 0 rfl; have hz1054 : w1051.frozen? ⟨g1050, 0, none⟩ = false := blk_fz (HS.out.at3) 0; have hc1055 : w1051.cell? ⟨g1050, 1, none⟩ = some (.int .i64 0) := blk_cellv (HS.out.at3) 1 rfl; have hz1056 : w1051.frozen? ⟨g1050, 1, none⟩ = false := blk_fz (HS.out.at3) 1; have hc1057 : w1051.cell? ⟨g1050, 2, none⟩ = some (.int .i64 0) := blk_cellv (HS.out.at3) 2 rfl; have hz1058 : w1051.frozen? ⟨g1050, 2, none⟩ = false := blk_fz (HS.out.at3) 2) | ((with_reducible refine gate_store (t := 166) (p := 5) rfl ?_); refine store_event (w1 := (World.setCell (World.setCell (World.setCell w1051 ⟨g1050, 0, none⟩ (.int .i64 t1047.1)) ⟨g1050, 1, none⟩ (.int .i64 t1047.2.1)) ⟨g1050, 2, none⟩ (.int .i64 t1047.2.2.1))) rfl (t := 166) (p := 5) rfl rfl ?hr ?_; (case hr => first | (go_simp; done) | (go_simp; rfl)); intro w1059 hst; clear hc1053 hz1054 hc1055 hz1056 hc1057 hz1058; replace HS : Aside0 (Sep FF w [b7 g834 g836 a844 a845 a846 a847, b6 g836 A839 l838.length n841 a843, r5 A839 l838.length n841 l838, b8 g1050 t1047.1 t1047.2.1 t1047.2.2.1] w1059) := ⟨by rw [hst]; exact HS.out.setAll (l1 := [b7 g834 g836 a844 a845 a846 a847, b6 g836 A839 l838.length n841 a843, r5 A839 l838.length n841 l838]) (l2 := []) [.int .i64 t1047.1, .int .i64 t1047.2.1, .int .i64 t1047.2.2.1] rfl⟩; clear hst; replace HS : Aside0 (Sep FF w [b7 g834 g836 a844 a845 a846 a847, b6 g836 A839 l838.length n841 a843, r5 A839 l838.length n841 l838] w1059) := ⟨HS.out.sub (.cons_cons _ (.cons_cons _ (.cons_cons _ (.cons _ .slnil))))⟩))
    go_ret
    rw [← some_eq H]
    exact ⟨(by first | rfl | (simp [IntKind.wrap_u32]; done)), HS.out⟩

set_option maxHeartbeats 30000000 in
set_option maxRecDepth 100000 in
theorem ground_Ground_Conf.calls (l1078 : List Int) (a1083 : Int) (a1084 : Int) (a1085 : Int) (a1086 : Int) (a1087 : Int) (g1074 : Nat) (g1076 : Nat) (A1079 : Option Addr) (m1080 : Nat) (n1081 : Nat) (r : Int × Int × Int × Int) (w : World)  (HGl0 : Aside0 (Gl 0 #[.int .i64 0, .int .i64 0, .int .i64 0, .int .i64 0, .int .i64 0] (fps [b7 g1074 g1076 a1084 a1085 a1086 a1087, b6 g1076 A1079 m1080 n1081 a1083, r5 A1079 m1080 n1081 l1078]) w)) (HS : Aside0 (Sep (fps [b7 g1074 g1076 a1084 a1085 a1086 a1087, b6 g1076 A1079 m1080 n1081 a1083, r5 A1079 m1080 n1081 l1078]) w [b7 g1074 g1076 a1084 a1085 a1086 a1087, b6 g1076 A1079 m1080 n1081 a1083, r5 A1079 m1080 n1081 l1078] w)) (H : Aside0 (ground_Ground_Conf.f l1078 a1083 a1084 a1085 a1086 a1087 = some r)) :
    Calls Tryd.prog 86 #[.pointer (some ⟨g1074, 0, none⟩)] w fun e w' => e = .returned (.agg #[.int .i64 r.1, .int .i64 r.2.1, .int .i64 r.2.2.1, .int .i64 r.2.2.2]) ∧ Sep (fps [b7 g1074 g1076 a1084 a1085 a1086 a1087, b6 g1076 A1079 m1080 n1081 a1083, r5 A1079 m1080 n1081 l1078]) w [b7 g1074 g1076 a1084 a1085 a1086 a1087, b6 g1076 A1079 m1080 n1081 a1083, r5 A1079 m1080 n1081 l1078] w' := by
  generalize (fps [b7 g1074 g1076 a1084 a1085 a1086 a1087, b6 g1076 A1079 m1080 n1081 a1083, r5 A1079 m1080 n1081 l1078]) = FF at HS HGl0 ⊢
  obtain rfl := (row_len (HS.out.at2)).symm
  unfold ground_Ground_Conf.f at H
  go_enter Tryd.func86, Tryd.ntmps86
  go_wp2_with (first | ((with_reducible refine gate_dst (N := 2) rfl ?_); refine box_on ?hg (N := 2) ?hd (cs := #[.int .i64 0, .int .i64 0, .int .i64 0, .int .i64 0]) (t := 30) ?hr ?_; (case hd => rfl); (case hg => rfl); (case hr => first | (go_simp; done) | (go_simp; rfl)); intro g1088 hg w1089 hbox hb; replace HS : Aside0 (Sep FF w [b7 g1074 g1076 a1084 a1085 a1086 a1087, b6 g1076 A1079 l1078.length n1081 a1083, r5 A1079 l1078.length n1081 l1078, b1 g1088 0 0 0 0] w1089) := ⟨HS.out.box hg hbox hb⟩; clear hg hbox hb; have hc1091 : w1089.cell? ⟨g1074, 1, none⟩ = some (.int .i64 a1084) := blk_cellv (HS.out.at0) 1 rfl; have hc1092 : w1089.cell? ⟨g1074, 2, none⟩ = some (.int .i64 a1085) := blk_cellv (HS.out.at0) 2 rfl; have hc1093 : w1089.cell? ⟨g1074, 3, none⟩ = some (.int .i64 a1086) := blk_cellv (HS.out.at0) 3 rfl; have hc1094 : w1089.cell? ⟨g1074, 4, none⟩ = some (.int .i64 a1087) := blk_cellv (HS.out.at0) 4 rfl; have hc1095 : w1089.cell? ⟨g1088, 0, none⟩ = some (.int .i64 0) := blk_cellv (HS.out.at3) 0 rfl; have hz1096 : w1089.frozen? ⟨g1088, 0, none⟩ = false := blk_fz (HS.out.at3) 0; have hc1097 : w1089.cell? ⟨g1088, 1, none⟩ = some (.int .i64 0) := blk_cellv (HS.out.at3) 1 rfl; have hz1098 : w1089.frozen? ⟨g1088, 1, none⟩ = false := blk_fz (HS.out.at3) 1; have hc1099 : w1089.cell? ⟨g1088, 2, none⟩ = some (.int .i64 0) := blk_cellv (HS.out.at3) 2 rfl; have hz1100 : w1089.frozen? ⟨g1088, 2, none⟩ = false := blk_fz (HS.out.at3) 2; have hc1101 : w1089.cell? ⟨g1088, 3, none⟩ = some (.int .i64 0) := blk_cellv (HS.out.at3) 3 rfl; have hz1102 : w1089.frozen? ⟨g1088, 3, none⟩ = false := blk_fz (HS.out.at3) 3) | ((with_reducible refine gate_store (t := 30) (p := 2) rfl ?_); refine store_event (w1 := (World.setCell (World.setCell (World.setCell (World.setCell w1089 ⟨g1088, 0, none⟩ (.int .i64 a1084)) ⟨g1088, 1, none⟩ (.int .i64 a1085)) ⟨g1088, 2, none⟩ (.int .i64 a1086)) ⟨g1088, 3, none⟩ (.int .i64 a1087))) rfl (t := 30) (p := 2) rfl rfl ?hr ?_; (case hr => first | (go_simp; done) | (go_simp; rfl)); intro w1103 hst; clear hc1091 hc1092 hc1093 hc1094 hc1095 hz1096 hc1097 hz1098 hc1099 hz1100 hc1101 hz1102; replace HS : Aside0 (Sep FF w [b7 g1074 g1076 a1084 a1085 a1086 a1087, b6 g1076 A1079 l1078.length n1081 a1083, r5 A1079 l1078.length n1081 l1078, b1 g1088 a1084 a1085 a1086 a1087] w1103) := ⟨by rw [hst]; exact HS.out.setAll (l1 := [b7 g1074 g1076 a1084 a1085 a1086 a1087, b6 g1076 A1079 l1078.length n1081 a1083, r5 A1079 l1078.length n1081 l1078]) (l2 := []) [.int .i64 a1084, .int .i64 a1085, .int .i64 a1086, .int .i64 a1087] rfl⟩; clear hst))
  have hc1104 : w1103.cell? ⟨g1088, 0, none⟩ = some (.int .i64 a1084) := blk_cellv (HS.out.at3) 0 rfl
  have hc1105 : w1103.cell? ⟨g1088, 1, none⟩ = some (.int .i64 a1085) := blk_cellv (HS.out.at3) 1 rfl
  have hc1106 : w1103.cell? ⟨g1088, 2, none⟩ = some (.int .i64 a1086) := blk_cellv (HS.out.at3) 2 rfl
  have hc1107 : w1103.cell? ⟨g1088, 3, none⟩ = some (.int .i64 a1087) := blk_cellv (HS.out.at3) 3 rfl
  refine bodyPost_ret (v := .agg #[.int .i64 a1084, .int .i64 a1085, .int .i64 a1086, .int .i64 a1087]) (by simp [results, Tryd.results86, go_sem, hc1104, hc1105, hc1106, hc1107]) rfl ?_
  rw [← some_eq H]
  exact ⟨(by first | rfl | (simp [IntKind.wrap_u32]; done)), HS.out.sub (.cons_cons _ (.cons_cons _ (.cons_cons _ (.cons _ .slnil))))⟩

set_option maxHeartbeats 30000000 in
set_option maxRecDepth 100000 in
theorem ground_Ground_word.calls (l1249 : List Int) (a1254 : Int) (a1255 : Int) (a1256 : Int) (a1257 : Int) (a1258 : Int) (a1259 : Int) (a1260 : Int) (g1245 : Nat) (g1247 : Nat) (A1250 : Option Addr) (m1251 : Nat) (n1252 : Nat) (r : Int) (w : World)  (HGl0 : Aside0 (Gl 0 #[.int .i64 0, .int .i64 0, .int .i64 0, .int .i64 0, .int .i64 0] (fps [b7 g1245 g1247 a1255 a1256 a1257 a1258, b6 g1247 A1250 m1251 n1252 a1254, r5 A1250 m1251 n1252 l1249]) w)) (HS : Aside0 (Sep (fps [b7 g1245 g1247 a1255 a1256 a1257 a1258, b6 g1247 A1250 m1251 n1252 a1254, r5 A1250 m1251 n1252 l1249]) w [b7 g1245 g1247 a1255 a1256 a1257 a1258, b6 g1247 A1250 m1251 n1252 a1254, r5 A1250 m1251 n1252 l1249] w)) (H : Aside0 (ground_Ground_word.f l1249 a1254 a1255 a1256 a1257 a1258 a1259 a1260 = some r)) :
    Calls Tryd.prog 72 #[.pointer (some ⟨g1245, 0, none⟩), .int .i64 a1259, .int .i64 a1260] w fun e w' => e = .returned (.int .i64 r) ∧ Sep (fps [b7 g1245 g1247 a1255 a1256 a1257 a1258, b6 g1247 A1250 m1251 n1252 a1254, r5 A1250 m1251 n1252 l1249]) w [b7 g1245 g1247 a1255 a1256 a1257 a1258, b6 g1247 A1250 m1251 n1252 a1254, r5 A1250 m1251 n1252 l1249] w' := by
  generalize (fps [b7 g1245 g1247 a1255 a1256 a1257 a1258, b6 g1247 A1250 m1251 n1252 a1254, r5 A1250 m1251 n1252 l1249]) = FF at HS HGl0 ⊢
  obtain rfl := (row_len (HS.out.at2)).symm
  unfold ground_Ground_word.f at H
  go_enter Tryd.func72, Tryd.ntmps72
  go_wp2_with fail
  obtain ⟨t1261, HA1262, H⟩ := bind_some H
  refine (ground_Ground_Conf.calls l1249 a1254 a1255 a1256 a1257 a1258 g1245 g1247 A1250 l1249.length n1252 t1261 _ ⟨HGl0.out.pass HS.out⟩ ⟨HS.out.begin⟩ HA1262).mono ?_
  rintro e_ w1263 ⟨rfl, hS⟩
  replace HS : Aside0 (Sep FF w [b7 g1245 g1247 a1255 a1256 a1257 a1258, b6 g1247 A1250 l1249.length n1252 a1254, r5 A1250 l1249.length n1252 l1249] w1263) := ⟨HS.out.call hS⟩
  clear hS
  go_wp2_with (first | ((with_reducible refine gate_dst (N := 7) rfl ?_); refine box_on ?hg (N := 7) ?hd (cs := #[.int .i64 0, .int .i64 0, .int .i64 0, .int .i64 0]) (t := 30) ?hr ?_; (case hd => rfl); (case hg => rfl); (case hr => first | (go_simp; done) | (go_simp; rfl)); intro g1264 hg w1265 hbox hb; replace HS : Aside0 (Sep FF w [b7 g1245 g1247 a1255 a1256 a1257 a1258, b6 g1247 A1250 l1249.length n1252 a1254, r5 A1250 l1249.length n1252 l1249, b1 g1264 0 0 0 0] w1265) := ⟨HS.out.box hg hbox hb⟩; clear hg hbox hb; have hc1267 : w1265.cell? ⟨g1264, 0, none⟩ = some (.int .i64 0) := blk_cellv (HS.out.at3) 0 rfl; have hz1268 : w1265.frozen? ⟨g1264, 0, none⟩ = false := blk_fz (HS.out.at3) 0; have hc1269 : w1265.cell? ⟨g1264, 1, none⟩ = some (.int .i64 0) := blk_cellv (HS.out.at3) 1 rfl; have hz1270 : w1265.frozen? ⟨g1264, 1, none⟩ = false := blk_fz (HS.out.at3) 1; have hc1271 : w1265.cell? ⟨g1264, 2, none⟩ = some (.int .i64 0) := blk_cellv (HS.out.at3) 2 rfl; have hz1272 : w1265.frozen? ⟨g1264, 2, none⟩ = false := blk_fz (HS.out.at3) 2; have hc1273 : w1265.cell? ⟨g1264, 3, none⟩ = some (.int .i64 0) := blk_cellv (HS.out.at3) 3 rfl; have hz1274 : w1265.frozen? ⟨g1264, 3, none⟩ = false := blk_fz (HS.out.at3) 3) | ((with_reducible refine gate_store (t := 30) (p := 7) rfl ?_); refine store_event (w1 := (World.setCell (World.setCell (World.setCell (World.setCell w1265 ⟨g1264, 0, none⟩ (.int .i64 t1261.1)) ⟨g1264, 1, none⟩ (.int .i64 t1261.2.1)) ⟨g1264, 2, none⟩ (.int .i64 t1261.2.2.1)) ⟨g1264, 3, none⟩ (.int .i64 t1261.2.2.2))) rfl (t := 30) (p := 7) rfl rfl ?hr ?_; (case hr => first | (go_simp; done) | (go_simp; rfl)); intro w1275 hst; clear hc1267 hz1268 hc1269 hz1270 hc1271 hz1272 hc1273 hz1274; replace HS : Aside0 (Sep FF w [b7 g1245 g1247 a1255 a1256 a1257 a1258, b6 g1247 A1250 l1249.length n1252 a1254, r5 A1250 l1249.length n1252 l1249, b1 g1264 t1261.1 t1261.2.1 t1261.2.2.1 t1261.2.2.2] w1275) := ⟨by rw [hst]; exact HS.out.setAll (l1 := [b7 g1245 g1247 a1255 a1256 a1257 a1258, b6 g1247 A1250 l1249.length n1252 a1254, r5 A1250 l1249.length n1252 l1249]) (l2 := []) [.int .i64 t1261.1, .int .i64 t1261.2.1, .int .i64 t1261.2.2.1, .int .i64 t1261.2.2.2] rfl⟩; clear hst; have hc1276 : w1275.cell? ⟨g1264, 0, none⟩ = some (.int .i64 t1261.1) := blk_cellv (HS.out.at3) 0 rfl))
  clear hc1276
  obtain ⟨t1277, HA1278, H⟩ := bind_some H
  refine (ground_within.calls a1259 t1261.1 0 t1277 _ ⟨HGl0.out.pass (l := []) HS.out⟩ ⟨Sep.start _⟩ HA1278).mono ?_
  rintro e_ w1279 ⟨rfl, hS⟩
  replace HS : Aside0 (Sep FF w [b7 g1245 g1247 a1255 a1256 a1257 a1258, b6 g1247 A1250 l1249.length n1252 a1254, r5 A1250 l1249.length n1252 l1249, b1 g1264 t1261.1 t1261.2.1 t1261.2.2.1 t1261.2.2.2] w1279) := ⟨HS.out.call hS⟩
  clear hS
  by_cases c1280 : t1277 = (-1)
  · replace H := if_yes c1280 H
    have c1280b0 : (t1277 == (-1)) = true := beq_iff_eq.mpr c1280
    have c1280b1 : (t1277 != (-1)) = false := bne_eq_false_iff_eq.mpr c1280
    clear c1280
    replace HS : Aside0 (Sep FF w [b7 g1245 g1247 a1255 a1256 a1257 a1258, b6 g1247 A1250 l1249.length n1252 a1254, r5 A1250 l1249.length n1252 l1249] w1279) := ⟨HS.out.sub (.cons_cons _ (.cons_cons _ (.cons_cons _ (.cons _ .slnil))))⟩
    go_wp2_with fail
    go_ret
    rw [← some_eq H]
    exact ⟨(by first | rfl | (simp [IntKind.wrap_u32]; done)), HS.out⟩
  · replace H := if_no c1280 H
    have c1280b0 : (t1277 == (-1)) = false := beq_eq_false_iff_ne.mpr c1280
    have c1280b1 : (t1277 != (-1)) = true := bne_iff_ne.mpr c1280
    clear c1280
    have hc1281 : w1279.cell? ⟨g1264, 1, none⟩ = some (.int .i64 t1261.2.1) := blk_cellv (HS.out.at3) 1 rfl
    have hc1282 : w1279.cell? ⟨g1264, 2, none⟩ = some (.int .i64 t1261.2.2.1) := blk_cellv (HS.out.at3) 2 rfl
    go_wp2_with fail
    clear hc1281 hc1282
    obtain ⟨t1283, HA1284, H⟩ := bind_some H
    refine (ground_within.calls a1260 t1261.2.1 (wrap64 ((wrap64 (24 + t1261.2.2.1)) + (wrap64 (a1259 * t1261.2.1)))) t1283 _ ⟨HGl0.out.pass (l := []) HS.out⟩ ⟨Sep.start _⟩ HA1284).mono ?_
    rintro e_ w1285 ⟨rfl, hS⟩
    replace HS : Aside0 (Sep FF w [b7 g1245 g1247 a1255 a1256 a1257 a1258, b6 g1247 A1250 l1249.length n1252 a1254, r5 A1250 l1249.length n1252 l1249, b1 g1264 t1261.1 t1261.2.1 t1261.2.2.1 t1261.2.2.2] w1285) := ⟨HS.out.call hS⟩
    clear hS
    replace HS : Aside0 (Sep FF w [b7 g1245 g1247 a1255 a1256 a1257 a1258, b6 g1247 A1250 l1249.length n1252 a1254, r5 A1250 l1249.length n1252 l1249] w1285) := ⟨HS.out.sub (.cons_cons _ (.cons_cons _ (.cons_cons _ (.cons _ .slnil))))⟩
    go_wp2_with fail
    go_ret
    rw [← some_eq H]
    exact ⟨(by first | rfl | (simp [IntKind.wrap_u32]; done)), HS.out⟩

set_option maxHeartbeats 30000000 in
set_option maxRecDepth 100000 in
theorem store_Store_Put.calls (l1292 : List Int) (a1297 : Int) (a1298 : Int) (a1299 : Int) (g1290 : Nat) (A1293 : Option Addr) (m1294 : Nat) (n1295 : Nat) (r : Bool × Int × List Int) (w : World)  (HGl0 : Aside0 (Gl 0 #[.int .i64 0, .int .i64 0, .int .i64 0, .int .i64 0, .int .i64 0] (fps [b6 g1290 A1293 m1294 n1295 a1297, r5 A1293 m1294 n1295 l1292]) w)) (HS : Aside0 (Sep (fps [b6 g1290 A1293 m1294 n1295 a1297, r5 A1293 m1294 n1295 l1292]) w [b6 g1290 A1293 m1294 n1295 a1297, r5 A1293 m1294 n1295 l1292] w)) (H : Aside0 (store_Store_Put.f l1292 a1297 a1298 a1299 = some r)) :
    Calls Tryd.prog 71 #[.pointer (some ⟨g1290, 0, none⟩), .int .i64 a1298, .int .u32 a1299] w fun e w' => e = .returned (.bool r.1) ∧ Sep (fps [b6 g1290 A1293 m1294 n1295 a1297, r5 A1293 m1294 n1295 l1292]) w [b6 g1290 A1293 m1294 n1295 r.2.1, r5 A1293 m1294 n1295 r.2.2] w' := by
  generalize (fps [b6 g1290 A1293 m1294 n1295 a1297, r5 A1293 m1294 n1295 l1292]) = FF at HS HGl0 ⊢
  obtain rfl := (row_len (HS.out.at1)).symm
  unfold store_Store_Put.f at H
  go_enter Tryd.func71, Tryd.ntmps71
  go_wp2_with fail
  obtain ⟨t1316, HA1317, H⟩ := bind_some H
  refine (store_Store_has.calls l1292 a1297 a1298 g1290 A1293 l1292.length n1295 t1316 _ ⟨HGl0.out.pass HS.out⟩ ⟨HS.out.begin⟩ HA1317).mono ?_
  rintro e_ w1318 ⟨rfl, hS⟩
  replace HS : Aside0 (Sep FF w [b6 g1290 A1293 l1292.length n1295 a1297, r5 A1293 l1292.length n1295 l1292] w1318) := ⟨HS.out.call hS⟩
  clear hS
  by_cases c1319 : t1316 = true
  · replace H := if_yes c1319 H
    have c1319b0 : t1316 = true := c1319
    have c1319b1 : (!t1316) = false := by rw [c1319b0]; rfl
    try rw [c1319b1]
    clear c1319
    go_wp2_with fail
    obtain ⟨t1320, HA1321, H⟩ := bind_some H
    refine (atomic_Uint64_Add.calls l1292 a1297 1 g1290 A1293 l1292.length n1295 t1320 _ ⟨HGl0.out.pass HS.out⟩ ⟨HS.out.begin⟩ HA1321).mono ?_
    rintro e_ w1322 ⟨rfl, hS⟩
    replace HS : Aside0 (Sep FF w [b6 g1290 A1293 l1292.length n1295 t1320.2, r5 A1293 l1292.length n1295 l1292] w1322) := ⟨HS.out.call hS⟩
    clear hS
    by_cases c1324 : 0 ≤ a1298
    · replace H := if_yes c1324 H
      have c1324b0 : decide (0 ≤ a1298) = true := decide_eq_true c1324
      have c1324p : (0 ≤ a1298) = True := eq_true c1324
      clear c1324
      by_cases c1325 : a1298 < (l1292.length : Int)
      · replace H := if_yes c1325 H
        have c1325b0 : decide (a1298 < (l1292.length : Int)) = true := decide_eq_true c1325
        have c1325p : (a1298 < (l1292.length : Int)) = True := eq_true c1325
        clear c1325
        obtain ⟨y1328, HA1329, H⟩ := bind_some H
        have hc1323 : w1322.cell? ⟨g1290, 0, none⟩ = some (.slice A1293 l1292.length n1295) := blk_cellv (HS.out.at0) 0 rfl
        obtain ⟨g1326, ea⟩ := row_at (HS.out.at1) (by have := (of_decide_eq_true c1324b0); have := (of_decide_eq_true c1325b0); omega); cases ea
        have hx1330 := (row_get 0 (HS.out.at1) a1298 (of_decide_eq_true c1324b0) (of_decide_eq_true c1325b0)).1
        have hz1331 := (row_get 0 (HS.out.at1) a1298 (of_decide_eq_true c1324b0) (of_decide_eq_true c1325b0)).2
        go_wp2_with (first | ((with_reducible refine gate_store (t := 33) (p := 21) rfl ?_); refine store_event (w1 := World.setCell w1322 ⟨g1326, (a1298).toNat, none⟩ (.int .u32 a1299)) rfl (t := 33) (p := 21) rfl rfl ?hr ?_; (case hr => first | (go_simp; done) | (go_simp; rfl)); intro w1327 hst; clear hc1323 hx1330 hz1331; have hq := Sep.rowset (l1 := [b6 g1290 (some ⟨g1326, 0, none⟩) l1292.length n1295 t1320.2]) (l2 := []) HS.out a1298 a1299; rw [← hst, some_eq HA1329] at hq; replace HS : Aside0 (Sep FF w [b6 g1290 (some ⟨g1326, 0, none⟩) l1292.length n1295 t1320.2, r5 (some ⟨g1326, 0, none⟩) l1292.length n1295 y1328] w1327) := ⟨hq⟩; clear hst hq))
        go_ret
        rw [← some_eq H]
        exact ⟨(by first | rfl | (simp [IntKind.wrap_u32]; done)), HS.out⟩
      · replace H := if_no c1325 H
        have c1325b0 : decide (a1298 < (l1292.length : Int)) = false := decide_eq_false c1325
        clear c1325
        exact (none_no H).elim
    · replace H := if_no c1324 H
      have c1324b0 : decide (0 ≤ a1298) = false := decide_eq_false c1324
      clear c1324
      exact (none_no H).elim
  · replace H := if_no c1319 H
    have c1319b0 : t1316 = false := by simpa using c1319
    have c1319b1 : (!t1316) = true := by rw [c1319b0]; rfl
    try rw [c1319b1]
    clear c1319
    go_wp2_with fail
    go_ret
    rw [← some_eq H]
    exact ⟨(by first | rfl | (simp [IntKind.wrap_u32]; done)), HS.out⟩

set_option maxHeartbeats 30000000 in
set_option maxRecDepth 100000 in
theorem ground_Ground_SetWord.calls (l1228 : List Int) (a1233 : Int) (a1234 : Int) (a1235 : Int) (a1236 : Int) (a1237 : Int) (a1238 : Int) (a1239 : Int) (a1240 : Int) (g1224 : Nat) (g1226 : Nat) (A1229 : Option Addr) (m1230 : Nat) (n1231 : Nat) (r : Bool × Int × List Int) (w : World)  (HGl0 : Aside0 (Gl 0 #[.int .i64 0, .int .i64 0, .int .i64 0, .int .i64 0, .int .i64 0] (fps [b7 g1224 g1226 a1234 a1235 a1236 a1237, b6 g1226 A1229 m1230 n1231 a1233, r5 A1229 m1230 n1231 l1228]) w)) (HS : Aside0 (Sep (fps [b7 g1224 g1226 a1234 a1235 a1236 a1237, b6 g1226 A1229 m1230 n1231 a1233, r5 A1229 m1230 n1231 l1228]) w [b7 g1224 g1226 a1234 a1235 a1236 a1237, b6 g1226 A1229 m1230 n1231 a1233, r5 A1229 m1230 n1231 l1228] w)) (H : Aside0 (ground_Ground_SetWord.f l1228 a1233 a1234 a1235 a1236 a1237 a1238 a1239 a1240 = some r)) :
    Calls Tryd.prog 17 #[.pointer (some ⟨g1224, 0, none⟩), .int .i64 a1238, .int .i64 a1239, .int .u32 a1240] w fun e w' => e = .returned (.bool r.1) ∧ Sep (fps [b7 g1224 g1226 a1234 a1235 a1236 a1237, b6 g1226 A1229 m1230 n1231 a1233, r5 A1229 m1230 n1231 l1228]) w [b7 g1224 g1226 a1234 a1235 a1236 a1237, b6 g1226 A1229 m1230 n1231 r.2.1, r5 A1229 m1230 n1231 r.2.2] w' := by
  generalize (fps [b7 g1224 g1226 a1234 a1235 a1236 a1237, b6 g1226 A1229 m1230 n1231 a1233, r5 A1229 m1230 n1231 l1228]) = FF at HS HGl0 ⊢
  obtain rfl := (row_len (HS.out.at2)).symm
  unfold ground_Ground_SetWord.f at H
  go_enter Tryd.func17, Tryd.ntmps17
  go_wp2_with fail
  obtain ⟨t1335, HA1336, H⟩ := bind_some H
  refine (ground_Ground_all.calls l1228 a1233 a1234 a1235 a1236 a1237 g1224 g1226 A1229 l1228.length n1231 t1335 _ ⟨HGl0.out.pass HS.out⟩ ⟨HS.out.begin⟩ HA1336).mono ?_
  rintro e_ w1337 ⟨rfl, hS⟩
  replace HS : Aside0 (Sep FF w [b7 g1224 g1226 a1234 a1235 a1236 a1237, b6 g1226 A1229 l1228.length n1231 a1233, r5 A1229 l1228.length n1231 l1228] w1337) := ⟨HS.out.call hS⟩
  clear hS
  go_wp2_with fail
  obtain ⟨t1338, HA1339, H⟩ := bind_some H
  refine (ground_Ground_word.calls l1228 a1233 a1234 a1235 a1236 a1237 a1238 a1239 g1224 g1226 A1229 l1228.length n1231 t1338 _ ⟨HGl0.out.pass HS.out⟩ ⟨HS.out.begin⟩ HA1339).mono ?_
  rintro e_ w1340 ⟨rfl, hS⟩
  replace HS : Aside0 (Sep FF w [b7 g1224 g1226 a1234 a1235 a1236 a1237, b6 g1226 A1229 l1228.length n1231 a1233, r5 A1229 l1228.length n1231 l1228] w1340) := ⟨HS.out.call hS⟩
  clear hS
  go_wp2_with fail
  replace HS : Aside0 (Sep FF w [r5 A1229 l1228.length n1231 l1228, b7 g1224 g1226 a1234 a1235 a1236 a1237, b6 g1226 A1229 l1228.length n1231 a1233] w1340) := ⟨HS.out.front 2 (by simp)⟩
  replace HS : Aside0 (Sep FF w [b6 g1226 A1229 l1228.length n1231 a1233, r5 A1229 l1228.length n1231 l1228, b7 g1224 g1226 a1234 a1235 a1236 a1237] w1340) := ⟨HS.out.front 2 (by simp)⟩
  obtain ⟨t1341, HA1342, H⟩ := bind_some H
  refine (store_Store_Put.calls l1228 a1233 t1338 a1240 g1226 A1229 l1228.length n1231 t1341 _ ⟨HGl0.out.pass HS.out⟩ ⟨HS.out.begin⟩ HA1342).mono ?_
  rintro e_ w1343 ⟨rfl, hS⟩
  replace HS : Aside0 (Sep FF w [b6 g1226 A1229 l1228.length n1231 t1341.2.1, r5 A1229 l1228.length n1231 t1341.2.2, b7 g1224 g1226 a1234 a1235 a1236 a1237] w1343) := ⟨HS.out.call hS⟩
  clear hS
  go_wp2_with fail
  go_ret
  rw [← some_eq H]
  exact ⟨(by first | rfl | (simp [IntKind.wrap_u32]; done)), ((((HS.out).front 1 (by simp)).front 1 (by simp)).front 2 (by simp)).keep (l := [b7 g1224 g1226 a1234 a1235 a1236 a1237, b6 g1226 A1229 l1228.length n1231 t1341.2.1, r5 A1229 l1228.length n1231 t1341.2.2]) (rest := [])⟩

set_option maxHeartbeats 30000000 in
set_option maxRecDepth 100000 in
theorem ground_Ground_set.calls (l1375 : List Int) (a1380 : Int) (a1381 : Int) (a1382 : Int) (a1383 : Int) (a1384 : Int) (a1385 : Int) (a1386 : Int) (g1371 : Nat) (g1373 : Nat) (A1376 : Option Addr) (m1377 : Nat) (n1378 : Nat) (r : Bool × Int × List Int) (w : World)  (HGl0 : Aside0 (Gl 0 #[.int .i64 0, .int .i64 0, .int .i64 0, .int .i64 0, .int .i64 0] (fps [b7 g1371 g1373 a1381 a1382 a1383 a1384, b6 g1373 A1376 m1377 n1378 a1380, r5 A1376 m1377 n1378 l1375]) w)) (HS : Aside0 (Sep (fps [b7 g1371 g1373 a1381 a1382 a1383 a1384, b6 g1373 A1376 m1377 n1378 a1380, r5 A1376 m1377 n1378 l1375]) w [b7 g1371 g1373 a1381 a1382 a1383 a1384, b6 g1373 A1376 m1377 n1378 a1380, r5 A1376 m1377 n1378 l1375] w)) (H : Aside0 (ground_Ground_set.f l1375 a1380 a1381 a1382 a1383 a1384 a1385 a1386 = some r)) :
    Calls Tryd.prog 132 #[.pointer (some ⟨g1371, 0, none⟩), .int .i64 a1385, .int .i64 a1386] w fun e w' => e = .returned (.bool r.1) ∧ Sep (fps [b7 g1371 g1373 a1381 a1382 a1383 a1384, b6 g1373 A1376 m1377 n1378 a1380, r5 A1376 m1377 n1378 l1375]) w [b7 g1371 g1373 a1381 a1382 a1383 a1384, b6 g1373 A1376 m1377 n1378 r.2.1, r5 A1376 m1377 n1378 r.2.2] w' := by
  generalize (fps [b7 g1371 g1373 a1381 a1382 a1383 a1384, b6 g1373 A1376 m1377 n1378 a1380, r5 A1376 m1377 n1378 l1375]) = FF at HS HGl0 ⊢
  obtain rfl := (row_len (HS.out.at2)).symm
  unfold ground_Ground_set.f at H
  go_enter Tryd.func132, Tryd.ntmps132
  by_cases c1395 : a1386 < 0
  · replace H := if_yes c1395 H
    have c1395b0 : decide (a1386 < 0) = true := decide_eq_true c1395
    clear c1395
    go_wp2_with fail
    go_ret
    rw [← some_eq H]
    exact ⟨(by first | rfl | (simp [IntKind.wrap_u32]; done)), HS.out⟩
  · replace H := if_no c1395 H
    have c1395b0 : decide (a1386 < 0) = false := decide_eq_false c1395
    clear c1395
    by_cases c1396 : a1386 > 4294967295
    · replace H := if_yes c1396 H
      have c1396b0 : decide (4294967295 < a1386) = true := decide_eq_true c1396
      clear c1396
      go_wp2_with fail
      go_ret
      rw [← some_eq H]
      exact ⟨(by first | rfl | (simp [IntKind.wrap_u32]; done)), HS.out⟩
    · replace H := if_no c1396 H
      have c1396b0 : decide (4294967295 < a1386) = false := decide_eq_false c1396
      clear c1396
      go_wp2_with fail
      obtain ⟨t1397, HA1398, H⟩ := bind_some H
      refine (ground_Ground_all.calls l1375 a1380 a1381 a1382 a1383 a1384 g1371 g1373 A1376 l1375.length n1378 t1397 _ ⟨HGl0.out.pass HS.out⟩ ⟨HS.out.begin⟩ HA1398).mono ?_
      rintro e_ w1399 ⟨rfl, hS⟩
      replace HS : Aside0 (Sep FF w [b7 g1371 g1373 a1381 a1382 a1383 a1384, b6 g1373 A1376 l1375.length n1378 a1380, r5 A1376 l1375.length n1378 l1375] w1399) := ⟨HS.out.call hS⟩
      clear hS
      go_wp2_with fail
      replace HS : Aside0 (Sep FF w [r5 A1376 l1375.length n1378 l1375, b7 g1371 g1373 a1381 a1382 a1383 a1384, b6 g1373 A1376 l1375.length n1378 a1380] w1399) := ⟨HS.out.front 2 (by simp)⟩
      replace HS : Aside0 (Sep FF w [b6 g1373 A1376 l1375.length n1378 a1380, r5 A1376 l1375.length n1378 l1375, b7 g1371 g1373 a1381 a1382 a1383 a1384] w1399) := ⟨HS.out.front 2 (by simp)⟩
      obtain ⟨t1400, HA1401, H⟩ := bind_some H
      refine (store_Store_Put.calls l1375 a1380 a1385 ((a1386) % 4294967296) g1373 A1376 l1375.length n1378 t1400 _ ⟨HGl0.out.pass HS.out⟩ ⟨HS.out.begin⟩ HA1401).mono ?_
      rintro e_ w1402 ⟨rfl, hS⟩
      replace HS : Aside0 (Sep FF w [b6 g1373 A1376 l1375.length n1378 t1400.2.1, r5 A1376 l1375.length n1378 t1400.2.2, b7 g1371 g1373 a1381 a1382 a1383 a1384] w1402) := ⟨HS.out.call hS⟩
      clear hS
      go_wp2_with fail
      go_ret
      rw [← some_eq H]
      exact ⟨(by first | rfl | (simp [IntKind.wrap_u32]; done)), ((((HS.out).front 1 (by simp)).front 1 (by simp)).front 2 (by simp)).keep (l := [b7 g1371 g1373 a1381 a1382 a1383 a1384, b6 g1373 A1376 l1375.length n1378 t1400.2.1, r5 A1376 l1375.length n1378 t1400.2.2]) (rest := [])⟩

set_option maxHeartbeats 30000000 in
set_option maxRecDepth 100000 in
theorem ground_Ground_SetReg.calls (l1355 : List Int) (a1360 : Int) (a1361 : Int) (a1362 : Int) (a1363 : Int) (a1364 : Int) (a1365 : Int) (a1366 : Int) (g1351 : Nat) (g1353 : Nat) (A1356 : Option Addr) (m1357 : Nat) (n1358 : Nat) (r : Bool × Int × List Int) (w : World)  (HGl0 : Aside0 (Gl 0 #[.int .i64 0, .int .i64 0, .int .i64 0, .int .i64 0, .int .i64 0] (fps [b7 g1351 g1353 a1361 a1362 a1363 a1364, b6 g1353 A1356 m1357 n1358 a1360, r5 A1356 m1357 n1358 l1355]) w)) (HS : Aside0 (Sep (fps [b7 g1351 g1353 a1361 a1362 a1363 a1364, b6 g1353 A1356 m1357 n1358 a1360, r5 A1356 m1357 n1358 l1355]) w [b7 g1351 g1353 a1361 a1362 a1363 a1364, b6 g1353 A1356 m1357 n1358 a1360, r5 A1356 m1357 n1358 l1355] w)) (H : Aside0 (ground_Ground_SetReg.f l1355 a1360 a1361 a1362 a1363 a1364 a1365 a1366 = some r)) :
    Calls Tryd.prog 83 #[.pointer (some ⟨g1351, 0, none⟩), .int .i64 a1365, .int .i64 a1366] w fun e w' => e = .returned (.bool r.1) ∧ Sep (fps [b7 g1351 g1353 a1361 a1362 a1363 a1364, b6 g1353 A1356 m1357 n1358 a1360, r5 A1356 m1357 n1358 l1355]) w [b7 g1351 g1353 a1361 a1362 a1363 a1364, b6 g1353 A1356 m1357 n1358 r.2.1, r5 A1356 m1357 n1358 r.2.2] w' := by
  generalize (fps [b7 g1351 g1353 a1361 a1362 a1363 a1364, b6 g1353 A1356 m1357 n1358 a1360, r5 A1356 m1357 n1358 l1355]) = FF at HS HGl0 ⊢
  obtain rfl := (row_len (HS.out.at2)).symm
  unfold ground_Ground_SetReg.f at H
  go_enter Tryd.func83, Tryd.ntmps83
  go_wp2_with fail
  obtain ⟨t1406, HA1407, H⟩ := bind_some H
  refine (ground_reg.calls a1365 t1406 _ ⟨HGl0.out.pass (l := []) HS.out⟩ ⟨Sep.start _⟩ HA1407).mono ?_
  rintro e_ w1408 ⟨rfl, hS⟩
  replace HS : Aside0 (Sep FF w [b7 g1351 g1353 a1361 a1362 a1363 a1364, b6 g1353 A1356 l1355.length n1358 a1360, r5 A1356 l1355.length n1358 l1355] w1408) := ⟨HS.out.call hS⟩
  clear hS
  go_wp2_with fail
  obtain ⟨t1409, HA1410, H⟩ := bind_some H
  refine (ground_Ground_set.calls l1355 a1360 a1361 a1362 a1363 a1364 t1406 a1366 g1351 g1353 A1356 l1355.length n1358 t1409 _ ⟨HGl0.out.pass HS.out⟩ ⟨HS.out.begin⟩ HA1410).mono ?_
  rintro e_ w1411 ⟨rfl, hS⟩
  replace HS : Aside0 (Sep FF w [b7 g1351 g1353 a1361 a1362 a1363 a1364, b6 g1353 A1356 l1355.length n1358 t1409.2.1, r5 A1356 l1355.length n1358 t1409.2.2] w1411) := ⟨HS.out.call hS⟩
  clear hS
  go_wp2_with fail
  go_ret
  rw [← some_eq H]
  exact ⟨(by first | rfl | (simp [IntKind.wrap_u32]; done)), HS.out⟩

set_option maxHeartbeats 30000000 in
set_option maxRecDepth 100000 in
theorem chain_Add_1.calls (a1193 : Int) (a1194 : Int) (a1195 : Int) (a1196 : Int) (a1197 : Int) (l1205 : List Int) (a1210 : Int) (a1211 : Int) (a1212 : Int) (a1213 : Int) (a1214 : Int) (a1217 : Int) (g1199 : Nat) (g1201 : Nat) (g1203 : Nat) (A1206 : Option Addr) (m1207 : Nat) (n1208 : Nat) (g1216 : Nat) (r : Int × List Int) (w : World)  (HGl0 : Aside0 (Gl 0 #[.int .i64 0, .int .i64 0, .int .i64 0, .int .i64 0, .int .i64 0] (fps [b9 g1199 g1201, b7 g1201 g1203 a1211 a1212 a1213 a1214, b6 g1203 A1206 m1207 n1208 a1210, r5 A1206 m1207 n1208 l1205, b10 g1216 a1217]) w)) (HS : Aside0 (Sep (fps [b9 g1199 g1201, b7 g1201 g1203 a1211 a1212 a1213 a1214, b6 g1203 A1206 m1207 n1208 a1210, r5 A1206 m1207 n1208 l1205, b10 g1216 a1217]) w [b9 g1199 g1201, b7 g1201 g1203 a1211 a1212 a1213 a1214, b6 g1203 A1206 m1207 n1208 a1210, r5 A1206 m1207 n1208 l1205, b10 g1216 a1217] w)) (H : Aside0 (chain_Add_1.f a1193 a1194 a1195 a1196 a1197 l1205 a1210 a1211 a1212 a1213 a1214 a1217 = some r)) :
    Calls Tryd.prog 143 #[.agg #[.int .i64 a1193, .int .i64 a1194, .int .i64 a1195], .int .i64 a1196, .int .i64 a1197, .pointer (some ⟨g1199, 0, none⟩), .pointer (some ⟨g1216, 0, none⟩)] w fun e w' => e = .returned (.tuple #[]) ∧ Sep (fps [b9 g1199 g1201, b7 g1201 g1203 a1211 a1212 a1213 a1214, b6 g1203 A1206 m1207 n1208 a1210, r5 A1206 m1207 n1208 l1205, b10 g1216 a1217]) w [b9 g1199 g1201, b7 g1201 g1203 a1211 a1212 a1213 a1214, b6 g1203 A1206 m1207 n1208 r.1, r5 A1206 m1207 n1208 r.2, b10 g1216 a1217] w' := by
  generalize (fps [b9 g1199 g1201, b7 g1201 g1203 a1211 a1212 a1213 a1214, b6 g1203 A1206 m1207 n1208 a1210, r5 A1206 m1207 n1208 l1205, b10 g1216 a1217]) = FF at HS HGl0 ⊢
  obtain rfl := (row_len (HS.out.at3)).symm
  unfold chain_Add_1.f at H
  go_enter Tryd.func143, Tryd.ntmps143
  go_wp2_with (first | ((with_reducible refine gate_dst (N := 5) rfl ?_); refine box_on ?hg (N := 5) ?hd (cs := #[.int .i64 a1193, .int .i64 a1194, .int .i64 a1195]) (t := 166) ?hr ?_; (case hd => rfl); (case hg => rfl); (case hr => first | (go_simp; done) | (go_simp; rfl)); intro g1420 hg w1421 hbox hb; replace HS : Aside0 (Sep FF w [b9 g1199 g1201, b7 g1201 g1203 a1211 a1212 a1213 a1214, b6 g1203 A1206 l1205.length n1208 a1210, r5 A1206 l1205.length n1208 l1205, b10 g1216 a1217, b8 g1420 a1193 a1194 a1195] w1421) := ⟨HS.out.box hg hbox hb⟩; clear hg hbox hb; have hc1423 : w1421.cell? ⟨g1199, 0, none⟩ = some (.pointer (some ⟨g1201, 0, none⟩)) := blk_cellv (HS.out.at0) 0 rfl; have hc1424 : w1421.cell? ⟨g1216, 0, none⟩ = some (.int .i64 a1217) := blk_cellv (HS.out.at4) 0 rfl))
  clear hc1423 hc1424
  replace HS : Aside0 (Sep FF w [r5 A1206 l1205.length n1208 l1205, b9 g1199 g1201, b7 g1201 g1203 a1211 a1212 a1213 a1214, b6 g1203 A1206 l1205.length n1208 a1210, b10 g1216 a1217, b8 g1420 a1193 a1194 a1195] w1421) := ⟨HS.out.front 3 (by simp)⟩
  replace HS : Aside0 (Sep FF w [b6 g1203 A1206 l1205.length n1208 a1210, r5 A1206 l1205.length n1208 l1205, b9 g1199 g1201, b7 g1201 g1203 a1211 a1212 a1213 a1214, b10 g1216 a1217, b8 g1420 a1193 a1194 a1195] w1421) := ⟨HS.out.front 3 (by simp)⟩
  replace HS : Aside0 (Sep FF w [b7 g1201 g1203 a1211 a1212 a1213 a1214, b6 g1203 A1206 l1205.length n1208 a1210, r5 A1206 l1205.length n1208 l1205, b9 g1199 g1201, b10 g1216 a1217, b8 g1420 a1193 a1194 a1195] w1421) := ⟨HS.out.front 3 (by simp)⟩
  obtain ⟨t1425, HA1426, H⟩ := bind_some H
  refine (ground_Ground_SetWord.calls l1205 a1210 a1211 a1212 a1213 a1214 a1217 5 0 g1201 g1203 A1206 l1205.length n1208 t1425 _ ⟨HGl0.out.pass HS.out⟩ ⟨HS.out.begin⟩ HA1426).mono ?_
  rintro e_ w1427 ⟨rfl, hS⟩
  replace HS : Aside0 (Sep FF w [b7 g1201 g1203 a1211 a1212 a1213 a1214, b6 g1203 A1206 l1205.length n1208 t1425.2.1, r5 A1206 l1205.length n1208 t1425.2.2, b9 g1199 g1201, b10 g1216 a1217, b8 g1420 a1193 a1194 a1195] w1427) := ⟨HS.out.call hS⟩
  clear hS
  by_cases c1428 : a1197 = 0
  · replace H := if_yes c1428 H
    have c1428b0 : (a1197 == 0) = true := beq_iff_eq.mpr c1428
    have c1428b1 : (a1197 != 0) = false := bne_eq_false_iff_eq.mpr c1428
    clear c1428
    have hc1429 : w1427.cell? ⟨g1199, 0, none⟩ = some (.pointer (some ⟨g1201, 0, none⟩)) := blk_cellv (HS.out.at3) 0 rfl
    have hc1430 : w1427.cell? ⟨g1420, 0, none⟩ = some (.int .i64 a1193) := blk_cellv (HS.out.at5) 0 rfl
    go_wp2_with fail
    clear hc1429 hc1430
    obtain ⟨t1431, HA1432, H⟩ := bind_some H
    refine (ground_Ground_SetReg.calls t1425.2.2 t1425.2.1 a1211 a1212 a1213 a1214 a1193 a1196 g1201 g1203 A1206 l1205.length n1208 t1431 _ ⟨HGl0.out.pass HS.out⟩ ⟨HS.out.begin⟩ HA1432).mono ?_
    rintro e_ w1433 ⟨rfl, hS⟩
    replace HS : Aside0 (Sep FF w [b7 g1201 g1203 a1211 a1212 a1213 a1214, b6 g1203 A1206 l1205.length n1208 t1431.2.1, r5 A1206 l1205.length n1208 t1431.2.2, b9 g1199 g1201, b10 g1216 a1217, b8 g1420 a1193 a1194 a1195] w1433) := ⟨HS.out.call hS⟩
    clear hS
    have hc1434 : w1433.cell? ⟨g1199, 0, none⟩ = some (.pointer (some ⟨g1201, 0, none⟩)) := blk_cellv (HS.out.at3) 0 rfl
    have hc1435 : w1433.cell? ⟨g1420, 1, none⟩ = some (.int .i64 a1194) := blk_cellv (HS.out.at5) 1 rfl
    go_wp2_with fail
    clear hc1434 hc1435
    obtain ⟨t1436, HA1437, H⟩ := bind_some H
    refine (ground_Ground_SetReg.calls t1431.2.2 t1431.2.1 a1211 a1212 a1213 a1214 a1194 a1196 g1201 g1203 A1206 l1205.length n1208 t1436 _ ⟨HGl0.out.pass HS.out⟩ ⟨HS.out.begin⟩ HA1437).mono ?_
    rintro e_ w1438 ⟨rfl, hS⟩
    replace HS : Aside0 (Sep FF w [b7 g1201 g1203 a1211 a1212 a1213 a1214, b6 g1203 A1206 l1205.length n1208 t1436.2.1, r5 A1206 l1205.length n1208 t1436.2.2, b9 g1199 g1201, b10 g1216 a1217, b8 g1420 a1193 a1194 a1195] w1438) := ⟨HS.out.call hS⟩
    clear hS
    replace HS : Aside0 (Sep FF w [b7 g1201 g1203 a1211 a1212 a1213 a1214, b6 g1203 A1206 l1205.length n1208 t1436.2.1, r5 A1206 l1205.length n1208 t1436.2.2, b9 g1199 g1201, b10 g1216 a1217] w1438) := ⟨HS.out.sub (.cons_cons _ (.cons_cons _ (.cons_cons _ (.cons_cons _ (.cons_cons _ (.cons _ .slnil))))))⟩
    go_wp2_with fail
    first | go_end0 | refine bodyPost_ret (results_none rfl _ _ _) rfl ?_
    rw [← some_eq H]
    exact ⟨rfl, ((((((HS.out).front 4 (by simp)).front 3 (by simp)).front 3 (by simp)).front 3 (by simp)).front 4 (by simp)).keep (l := [b9 g1199 g1201, b7 g1201 g1203 a1211 a1212 a1213 a1214, b6 g1203 A1206 l1205.length n1208 t1436.2.1, r5 A1206 l1205.length n1208 t1436.2.2, b10 g1216 a1217]) (rest := [])⟩
  · replace H := if_no c1428 H
    have c1428b0 : (a1197 == 0) = false := beq_eq_false_iff_ne.mpr c1428
    have c1428b1 : (a1197 != 0) = true := bne_iff_ne.mpr c1428
    clear c1428
    go_wp2_with fail
    refine start_ (n := 9) (S := (fun w' => w'.cell? ⟨g1199, 0, none⟩ = some (.pointer (some ⟨g1201, 0, none⟩)) ∧ w'.cell? ⟨g1420, 1, none⟩ = some (.int .i64 a1194))) (ds := []) #[false, false, false, false, false, false, false, false, false] (by kernel_rfl) rfl rfl (⟨blk_cellv ((HS.out.drew).at3) 0 rfl, blk_cellv ((HS.out.drew).at5) 1 rfl⟩) (fun hHeld => ?_)
    have HS_ := Aside0.mk HS.out.drew
    clear HS
    generalize World.drew _ = w1440 at HS_ hHeld ⊢
    have HS := HS_
    clear HS_
    refine pure_ (i := 2) (N := some 20) (v := ?_) (a' := ?_) #[false, false, true, false, false, false, false, false, false] rfl rfl (by kernel_rfl) (fun _ _ _ h => h) (Or.inl ⟨by rfl, ?_⟩) ?_ ?_
    rotate_left
    · intro w'
      go_simp
      with_reducible rfl
    rotate_left
    · simp only [Act.put, List.setIfInBounds_toArray, List.set_cons_zero, List.set_cons_succ, i64_w, i32_w]
      rfl
    refine pure_ (i := 6) (N := some 24) (v := ?_) (a' := ?_) #[false, false, true, false, false, false, true, false, false] rfl rfl (by kernel_rfl) (fun _ _ _ h => h) (Or.inl ⟨by rfl, ?_⟩) ?_ ?_
    rotate_left
    · intro w'
      go_simp
      with_reducible rfl
    rotate_left
    · simp only [Act.put, List.setIfInBounds_toArray, List.set_cons_zero, List.set_cons_succ, i64_w, i32_w]
      rfl
    refine pure_ (i := 7) (N := some 25) (v := ?_) (a' := ?_) #[false, false, true, false, false, false, true, true, false] rfl rfl (by kernel_rfl) (fun _ _ _ h => h) (Or.inl ⟨by rfl, ?_⟩) ?_ ?_
    rotate_left
    · intro w'
      go_simp
      with_reducible rfl
    rotate_left
    · simp only [Act.put, List.setIfInBounds_toArray, List.set_cons_zero, List.set_cons_succ, i64_w, i32_w]
      rfl
    refine take_ (i := 0) (N := some 18) (v := ?_) (a' := ?_) #[true, false, true, false, false, false, true, true, false] rfl rfl (by kernel_rfl) (fun _ _ _ h => h) (Or.inl ⟨by rfl, ?_⟩) hHeld ?_ ?_
    rotate_left
    · rintro w' hS'
      obtain ⟨s0, s1⟩ := hS'
      go_simp
      with_reducible rfl
    rotate_left
    · simp only [Act.put, List.setIfInBounds_toArray, List.set_cons_zero, List.set_cons_succ, i64_w, i32_w]
      rfl
    refine take_ (i := 1) (N := some 19) (v := ?_) (a' := ?_) #[true, true, true, false, false, false, true, true, false] rfl rfl (by kernel_rfl) (fun _ _ _ h => h) (Or.inl ⟨by rfl, ?_⟩) hHeld ?_ ?_
    rotate_left
    · rintro w' hS'
      obtain ⟨s0, s1⟩ := hS'
      go_simp
      with_reducible rfl
    rotate_left
    · simp only [Act.put, List.setIfInBounds_toArray, List.set_cons_zero, List.set_cons_succ, i64_w, i32_w]
      rfl
    refine take_ (i := 3) (N := some 21) (v := ?_) (a' := ?_) #[true, true, true, true, false, false, true, true, false] rfl rfl (by kernel_rfl) (fun _ _ _ h => h) (Or.inl ⟨by rfl, ?_⟩) hHeld ?_ ?_
    rotate_left
    · rintro w' hS'
      obtain ⟨s0, s1⟩ := hS'
      go_simp
      with_reducible rfl
    rotate_left
    · simp only [Act.put, List.setIfInBounds_toArray, List.set_cons_zero, List.set_cons_succ, i64_w, i32_w]
      rfl
    refine one_ (i := 4) (N := some 22) #[true, true, true, true, true, false, true, true, false] rfl rfl (by kernel_rfl) (by decide) (fun K hK => ?_)
    obtain ⟨t1441, HA1442, H⟩ := bind_some H
    refine goes_ Tryd.func81 (by kernel_rfl) rfl #[.pointer (some ⟨g1201, 0, none⟩), .int .i64 a1194] (by rfl) rfl rfl (by (try simp only [List.map_toArray, List.map_cons, List.map_nil]); first | done | rfl) ?_
    refine (ground_Ground_Reg.calls t1425.2.2 t1425.2.1 a1211 a1212 a1213 a1214 a1194 g1201 g1203 A1206 l1205.length n1208 t1441 _ ⟨HGl0.out.pass HS.out⟩ ⟨HS.out.begin⟩ HA1442).mono ?_
    rintro e_ w1443 ⟨rfl, hS⟩
    replace HS : Aside0 (Sep FF w [b7 g1201 g1203 a1211 a1212 a1213 a1214, b6 g1203 A1206 l1205.length n1208 t1441.2, r5 A1206 l1205.length n1208 t1425.2.2, b9 g1199 g1201, b10 g1216 a1217, b8 g1420 a1193 a1194 a1195] w1443) := ⟨HS.out.call hS⟩
    clear hS
    refine ⟨_, rfl, ?_⟩
    refine hK.out _ _ (⟨blk_cellv (HS.out.at3) 0 rfl, blk_cellv (HS.out.at5) 1 rfl⟩) (fun hHeld => ?_)
    clear hK K
    refine norm_ (a' := ?_) ?_ ?_
    rotate_left
    · show Act.put _ (some 22) _ = _
      simp only [Act.put, List.setIfInBounds_toArray, List.set_cons_zero, List.set_cons_succ, i64_w, i32_w]
      rfl
    refine pure_ (i := 5) (N := some 23) (v := ?_) (a' := ?_) #[true, true, true, true, true, true, true, true, false] rfl rfl (by kernel_rfl) (fun _ _ _ h => h) (Or.inl ⟨by rfl, ?_⟩) ?_ ?_
    rotate_left
    · intro w'
      go_simp
      with_reducible rfl
    rotate_left
    · simp only [Act.put, List.setIfInBounds_toArray, List.set_cons_zero, List.set_cons_succ, i64_w, i32_w]
      rfl
    refine one_ (i := 8) (N := some 26) #[true, true, true, true, true, true, true, true, true] rfl rfl (by kernel_rfl) (by decide) (fun K hK => ?_)
    obtain ⟨t1444, HA1445, H⟩ := bind_some H
    refine goes_ Tryd.func17 (by kernel_rfl) rfl #[.pointer (some ⟨g1201, 0, none⟩), .int .i64 (wrap64 (t1441.1 - 1)), .int .i64 5, .int .u32 ((a1196) % 4294967296)] (by rfl) rfl rfl (by (try simp only [List.map_toArray, List.map_cons, List.map_nil]); first | done | rfl) ?_
    refine (ground_Ground_SetWord.calls t1425.2.2 t1441.2 a1211 a1212 a1213 a1214 (wrap64 (t1441.1 - 1)) 5 ((a1196) % 4294967296) g1201 g1203 A1206 l1205.length n1208 t1444 _ ⟨HGl0.out.pass HS.out⟩ ⟨HS.out.begin⟩ HA1445).mono ?_
    rintro e_ w1446 ⟨rfl, hS⟩
    replace HS : Aside0 (Sep FF w [b7 g1201 g1203 a1211 a1212 a1213 a1214, b6 g1203 A1206 l1205.length n1208 t1444.2.1, r5 A1206 l1205.length n1208 t1444.2.2, b9 g1199 g1201, b10 g1216 a1217, b8 g1420 a1193 a1194 a1195] w1446) := ⟨HS.out.call hS⟩
    clear hS
    refine ⟨_, rfl, ?_⟩
    refine hK.out _ _ (⟨blk_cellv (HS.out.at3) 0 rfl, blk_cellv (HS.out.at5) 1 rfl⟩) (fun hHeld => ?_)
    clear hK K
    refine norm_ (a' := ?_) ?_ ?_
    rotate_left
    · show Act.put _ (some 26) _ = _
      simp only [Act.put, List.setIfInBounds_toArray, List.set_cons_zero, List.set_cons_succ, i64_w, i32_w]
      rfl
    refine done_ (by kernel_rfl) ?_
    have hc1447 : w1446.cell? ⟨g1199, 0, none⟩ = some (.pointer (some ⟨g1201, 0, none⟩)) := blk_cellv (HS.out.at3) 0 rfl
    have hc1448 : w1446.cell? ⟨g1420, 1, none⟩ = some (.int .i64 a1194) := blk_cellv (HS.out.at5) 1 rfl
    go_wp2_with fail
    clear hc1447 hc1448
    obtain ⟨t1436, HA1449, H⟩ := bind_some H
    refine (ground_Ground_SetReg.calls t1444.2.2 t1444.2.1 a1211 a1212 a1213 a1214 a1194 a1196 g1201 g1203 A1206 l1205.length n1208 t1436 _ ⟨HGl0.out.pass HS.out⟩ ⟨HS.out.begin⟩ HA1449).mono ?_
    rintro e_ w1450 ⟨rfl, hS⟩
    replace HS : Aside0 (Sep FF w [b7 g1201 g1203 a1211 a1212 a1213 a1214, b6 g1203 A1206 l1205.length n1208 t1436.2.1, r5 A1206 l1205.length n1208 t1436.2.2, b9 g1199 g1201, b10 g1216 a1217, b8 g1420 a1193 a1194 a1195] w1450) := ⟨HS.out.call hS⟩
    clear hS
    replace HS : Aside0 (Sep FF w [b7 g1201 g1203 a1211 a1212 a1213 a1214, b6 g1203 A1206 l1205.length n1208 t1436.2.1, r5 A1206 l1205.length n1208 t1436.2.2, b9 g1199 g1201, b10 g1216 a1217] w1450) := ⟨HS.out.sub (.cons_cons _ (.cons_cons _ (.cons_cons _ (.cons_cons _ (.cons_cons _ (.cons _ .slnil))))))⟩
    go_wp2_with fail
    first | go_end0 | refine bodyPost_ret (results_none rfl _ _ _) rfl ?_
    rw [← some_eq H]
    exact ⟨rfl, ((((((HS.out).front 4 (by simp)).front 3 (by simp)).front 3 (by simp)).front 3 (by simp)).front 4 (by simp)).keep (l := [b9 g1199 g1201, b7 g1201 g1203 a1211 a1212 a1213 a1214, b6 g1203 A1206 l1205.length n1208 t1436.2.1, r5 A1206 l1205.length n1208 t1436.2.2, b10 g1216 a1217]) (rest := [])⟩
end Go.Proofs.YtobeonkddamnoaaDoor.C

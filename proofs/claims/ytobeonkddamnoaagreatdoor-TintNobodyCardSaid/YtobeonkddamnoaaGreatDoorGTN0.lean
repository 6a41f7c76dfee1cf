/- Each function of the group TN does what its plain function says, and changes nothing that was there; proved by walking its code. No condition. -/
import Derived.Test.YtobeonkddamnoaaGreatDoorQw
import Derived.Test.YtobeonkddamnoaaGreatDoorMTN
namespace Go.Proofs.YtobeonkddamnoaaGreatDoor.C
open Go.RowKit Go.Proofs.YtobeonkddamnoaaGreatDoorW.PrintWords Go.Proofs.YtobeonkddamnoaaGreatDoorW.PrintLast Go.Proofs.YtobeonkddamnoaaGreatDoor.Q Go.Proofs.YtobeonkddamnoaaGreatDoor.M
set_option linter.unusedVariables false
set_option linter.unusedSimpArgs false
def b1 (g : Nat)  : Ob := blk g #[.pointer none] 24
def b2 (g : Nat) (x0 : Int) : Ob := blk g #[.int .i64 x0] 3
def b3 (g : Nat) (x0 : Int) (x1 : Int) (x2 : Int) (x3 : Int) (x4 : Int) (x5 : Int) (x6 : Int) : Ob := blk g #[.int .i64 x0, .int .i64 x1, .int .i64 x2, .int .i64 x3, .int .i64 x4, .int .i64 x5, .int .i64 x6] 79
def b4 (g : Nat) (x0 : Int) (x1 : Int) (x2 : Int) (x3 : Int) : Ob := blk g #[.int .i64 x0, .int .i64 x1, .int .i64 x2, .int .i64 x3] 29
def b5 (g : Nat) (x0 : Int) (x1 : Int) (x2 : Int) (x3 : Int) (x4 : Int) : Ob := blk g #[.int .i64 x0, .int .i64 x1, .int .i64 x2, .int .i64 x3, .int .i64 x4] 174
def b6 (g : Nat) (x0 : Int) : Ob := blk g #[.int .u32 x0] 57
def r7 (A : Option Addr) (n c : Nat) (l : List Int) : Ob := row 57 (Value.int .u32) (.slice A n c) l
def b8 (g : Nat) (x0 : Int) (x1 : Int) : Ob := blk g #[.int .u32 x0, .int .u32 x1] 57
def b9 (g : Nat) (x0 : Int) (x1 : Int) (x2 : Int) (x3 : Int) (x4 : Int) (x5 : Int) (x6 : Int) (x7 : Int) : Ob := blk g #[.int .i64 x0, .int .i64 x1, .int .i64 x2, .int .i64 x3, .int .i64 x4, .int .i64 x5, .int .i64 x6, .int .i64 x7] 3
def b10 (g : Nat) (x0 : Int) (x1 : Int) (x2 : Int) (x3 : Int) (x4 : Int) (x5 : Int) (x6 : Int) (x7 : Int) : Ob := blk g #[.int .i64 x0, .int .i64 x1, .int .i64 x2, .int .i64 x3, .int .i64 x4, .int .i64 x5, .int .i64 x6, .int .i64 x7] 115
def b11 (g : Nat) (x0 : Int) (x1 : Int) : Ob := blk g #[.int .i64 x0, .int .i64 x1] 3
def b12 (g : Nat) (x0 : Int) (x1 : Int) (x2 : Int) : Ob := blk g #[.int .i64 x0, .int .i64 x1, .int .i64 x2] 3
def b13 (g : Nat) (x0 : Option Addr) (x1 : Nat) (x2 : Nat) (x3 : Int) : Ob := blk g #[.slice x0 x1 x2, .int .u64 x3] 141
def b14 (g : Nat) (x0 : Nat) (x1 : Int) (x2 : Int) (x3 : Int) (x4 : Int) : Ob := blk g #[.pointer (some ⟨x0, 0, none⟩), .int .i64 x1, .int .i64 x2, .int .i64 x3, .int .i64 x4] 123
def b15 (g : Nat) (x0 : Int) (x1 : Int) (x2 : Int) : Ob := blk g #[.int .i64 x0, .int .i64 x1, .int .i64 x2] 165
def b16 (g : Nat) (x0 : Nat) : Ob := blk g #[.pointer (some ⟨x0, 0, none⟩)] 24
def r17 (A : Option Addr) (n c : Nat) (l : List Int) : Ob := row 3 (Value.int .i64) (.slice A n c) l
def b18 (g : Nat) (x0 : Int) (x1 : Int) (x2 : Option Addr) (x3 : Nat) (x4 : Nat) : Ob := blk g #[.int .i64 x0, .int .i64 x1, .slice x2 x3 x4, .slice none 0 0] 150
def b19 (g : Nat) (x0 : Nat) (x1 : Int) (x2 : Int) (x3 : Int) (x4 : Int) (x5 : Int) (x6 : Int) (x7 : Int) (x8 : Int) (x9 : Int) (x10 : Int) : Ob := blk g #[.pointer (some ⟨x0, 0, none⟩), .slice none 0 0, .int .i64 x1, .int .i64 x2, .int .i64 x3, .int .i64 x4, .int .i64 x5, .int .i64 x6, .int .i64 x7, .int .i64 x8, .int .i64 x9, .slice none 0 0, .slice none 0 0, .int .i64 x10] 96
def b20 (g : Nat) (x0 : Nat) (x1 : Int) (x2 : Int) (x3 : Int) (x4 : Int) (x5 : Int) (x6 : Int) (x7 : Int) (x8 : Int) (x9 : Int) (x10 : Option Addr) (x11 : Nat) (x12 : Nat) (x13 : Int) : Ob := blk g #[.pointer (some ⟨x0, 0, none⟩), .slice none 0 0, .int .i64 x1, .int .i64 x2, .int .i64 x3, .int .i64 x4, .int .i64 x5, .int .i64 x6, .int .i64 x7, .int .i64 x8, .int .i64 x9, .slice x10 x11 x12, .slice none 0 0, .int .i64 x13] 96
def b21 (g : Nat) (x0 : Nat) (x1 : Int) (x2 : Int) (x3 : Int) (x4 : Int) (x5 : Int) (x6 : Int) (x7 : Int) (x8 : Int) (x9 : Int) (x10 : Option Addr) (x11 : Nat) (x12 : Nat) (x13 : Option Addr) (x14 : Nat) (x15 : Nat) (x16 : Int) : Ob := blk g #[.pointer (some ⟨x0, 0, none⟩), .slice none 0 0, .int .i64 x1, .int .i64 x2, .int .i64 x3, .int .i64 x4, .int .i64 x5, .int .i64 x6, .int .i64 x7, .int .i64 x8, .int .i64 x9, .slice x10 x11 x12, .slice x13 x14 x15, .int .i64 x16] 96
def b22 (g : Nat) (x0 : Int) (x1 : Int) (x2 : Int) (x3 : Int) : Ob := blk g #[.int .i64 x0, .int .i64 x1, .int .i64 x2, .int .i64 x3] 3

set_option maxHeartbeats 30000000 in
set_option maxRecDepth 100000 in
theorem ground_Ground_all_nil.calls  (r : Unit) (w : World)  (HGl0 : Aside0 (Gl 0 #[.int .i64 0, .int .i64 0, .int .i64 0, .int .i64 0, .int .i64 0] (fps []) w)) (HS : Aside0 (Sep (fps []) w [] w)) (H : Aside0 (ground_Ground_all_nil.f = some r)) :
    Calls Tryz.prog 63 #[.pointer none] w fun e w' => e = .returned (.pointer none) ∧ Sep (fps []) w [] w' := by
  unfold ground_Ground_all_nil.f at H
  go_enter Tryz.func63, Tryz.ntmps63
  go_wp2_with fail
  go_ret
  clear H
  exact ⟨(by first | rfl | (simp [IntKind.wrap_u32]; done)), HS.out⟩

set_option maxHeartbeats 30000000 in
set_option maxRecDepth 100000 in
theorem ground_within.calls (a8 : Int) (a9 : Int) (a10 : Int) (r : Int) (w : World)  (HGl0 : Aside0 (Gl 0 #[.int .i64 0, .int .i64 0, .int .i64 0, .int .i64 0, .int .i64 0] (fps []) w)) (HS : Aside0 (Sep (fps []) w [] w)) (H : Aside0 (ground_within.f a8 a9 a10 = some r)) :
    Calls Tryz.prog 146 #[.int .i64 a8, .int .i64 a9, .int .i64 a10] w fun e w' => e = .returned (.int .i64 r) ∧ Sep (fps []) w [] w' := by
  unfold ground_within.f at H
  go_enter Tryz.func146, Tryz.ntmps146
  by_cases c11 : a8 < 0
  · have H := if_yes c11 H
    have c11b0 : decide (a8 < 0) = true := decide_eq_true c11
    clear c11
    go_wp2_with fail
    go_ret
    rw [← some_eq H]
    exact ⟨(by first | rfl | (simp [IntKind.wrap_u32]; done)), HS.out⟩
  · have H := if_no c11 H
    have c11b0 : decide (a8 < 0) = false := decide_eq_false c11
    clear c11
    by_cases c12 : a8 ≥ a9
    · have H := if_yes c12 H
      have c12b0 : decide (a9 ≤ a8) = true := decide_eq_true c12
      clear c12
      go_wp2_with fail
      go_ret
      rw [← some_eq H]
      exact ⟨(by first | rfl | (simp [IntKind.wrap_u32]; done)), HS.out⟩
    · have H := if_no c12 H
      have c12b0 : decide (a9 ≤ a8) = false := decide_eq_false c12
      clear c12
      go_wp2_with fail
      go_ret
      rw [← some_eq H]
      exact ⟨(by first | rfl | (simp [IntKind.wrap_u32]; done)), HS.out⟩

set_option maxHeartbeats 30000000 in
set_option maxRecDepth 100000 in
theorem ground_reg.calls (a7 : Int) (r : Int) (w : World)  (HGl0 : Aside0 (Gl 0 #[.int .i64 0, .int .i64 0, .int .i64 0, .int .i64 0, .int .i64 0] (fps []) w)) (HS : Aside0 (Sep (fps []) w [] w)) (H : Aside0 (ground_reg.f a7 = some r)) :
    Calls Tryz.prog 100 #[.int .i64 a7] w fun e w' => e = .returned (.int .i64 r) ∧ Sep (fps []) w [] w' := by
  unfold ground_reg.f at H
  go_enter Tryz.func100, Tryz.ntmps100
  go_wp2_with fail
  obtain ⟨t13, HA14, H⟩ := bind_some H
  refine (ground_within.calls a7 24 0 t13 _ ⟨HGl0.out.pass (l := []) HS.out⟩ ⟨Sep.start _⟩ HA14).mono ?_
  rintro e_ w15 ⟨rfl, hS⟩
  replace HS : Aside0 (Sep (fps []) w [] w15) := ⟨HS.out.call hS⟩
  clear hS
  go_wp2_with fail
  go_ret
  rw [← some_eq H]
  exact ⟨(by first | rfl | (simp [IntKind.wrap_u32]; done)), HS.out⟩

set_option maxHeartbeats 30000000 in
set_option maxRecDepth 100000 in
theorem store_Store_has_nil.calls (a20 : Int) (r : Bool) (w : World)  (HGl0 : Aside0 (Gl 0 #[.int .i64 0, .int .i64 0, .int .i64 0, .int .i64 0, .int .i64 0] (fps []) w)) (HS : Aside0 (Sep (fps []) w [] w)) (H : Aside0 (store_Store_has_nil.f a20 = some r)) :
    Calls Tryz.prog 147 #[.pointer none, .int .i64 a20] w fun e w' => e = .returned (.bool r) ∧ Sep (fps []) w [] w' := by
  unfold store_Store_has_nil.f at H
  go_enter Tryz.func147, Tryz.ntmps147
  go_wp2_with fail
  go_ret
  rw [← some_eq H]
  exact ⟨(by first | rfl | (simp [IntKind.wrap_u32]; done)), HS.out⟩

set_option maxHeartbeats 30000000 in
set_option maxRecDepth 100000 in
theorem store_Store_Get_nil.calls (a19 : Int) (r : Int) (w : World)  (HGl0 : Aside0 (Gl 0 #[.int .i64 0, .int .i64 0, .int .i64 0, .int .i64 0, .int .i64 0] (fps []) w)) (HS : Aside0 (Sep (fps []) w [] w)) (H : Aside0 (store_Store_Get_nil.f a19 = some r)) :
    Calls Tryz.prog 101 #[.pointer none, .int .i64 a19] w fun e w' => e = .returned (.int .u32 r) ∧ Sep (fps []) w [] w' := by
  unfold store_Store_Get_nil.f at H
  go_enter Tryz.func101, Tryz.ntmps101
  go_wp2_with fail
  obtain ⟨t21, HA22, H⟩ := bind_some H
  refine (store_Store_has_nil.calls a19 t21 _ ⟨HGl0.out.pass (l := []) HS.out⟩ ⟨Sep.start _⟩ HA22).mono ?_
  rintro e_ w23 ⟨rfl, hS⟩
  replace HS : Aside0 (Sep (fps []) w [] w23) := ⟨HS.out.call hS⟩
  clear hS
  by_cases c24 : t21 = true
  · have H := if_yes c24 H
    have c24b0 : t21 = true := c24
    have c24b1 : (!t21) = false := by rw [c24b0]; rfl
    try rw [c24b1]
    clear c24
    exact (none_no H).elim
  · have H := if_no c24 H
    have c24b0 : t21 = false := by simpa using c24
    have c24b1 : (!t21) = true := by rw [c24b0]; rfl
    try rw [c24b1]
    clear c24
    go_wp2_with fail
    go_ret
    rw [← some_eq H]
    exact ⟨(by first | rfl | (simp [IntKind.wrap_u32]; done)), HS.out⟩

set_option maxHeartbeats 30000000 in
set_option maxRecDepth 100000 in
theorem ground_Ground_Reg_nil.calls (a3 : Int) (r : Int) (w : World)  (HGl0 : Aside0 (Gl 0 #[.int .i64 0, .int .i64 0, .int .i64 0, .int .i64 0, .int .i64 0] (fps []) w)) (HS : Aside0 (Sep (fps []) w [] w)) (H : Aside0 (ground_Ground_Reg_nil.f a3 = some r)) :
    Calls Tryz.prog 44 #[.pointer none, .int .i64 a3] w fun e w' => e = .returned (.int .i64 r) ∧ Sep (fps []) w [] w' := by
  unfold ground_Ground_Reg_nil.f at H
  go_enter Tryz.func44, Tryz.ntmps44
  go_wp2_with fail
  obtain ⟨t4, HA5, H⟩ := bind_some H
  refine (ground_Ground_all_nil.calls t4 _ ⟨HGl0.out.pass (l := []) HS.out⟩ ⟨Sep.start _⟩ HA5).mono ?_
  rintro e_ w6 ⟨rfl, hS⟩
  replace HS : Aside0 (Sep (fps []) w [] w6) := ⟨HS.out.call hS⟩
  clear hS
  go_wp2_with fail
  obtain ⟨t16, HA17, H⟩ := bind_some H
  refine (ground_reg.calls a3 t16 _ ⟨HGl0.out.pass (l := []) HS.out⟩ ⟨Sep.start _⟩ HA17).mono ?_
  rintro e_ w18 ⟨rfl, hS⟩
  replace HS : Aside0 (Sep (fps []) w [] w18) := ⟨HS.out.call hS⟩
  clear hS
  go_wp2_with fail
  obtain ⟨t25, HA26, H⟩ := bind_some H
  refine (store_Store_Get_nil.calls t16 t25 _ ⟨HGl0.out.pass (l := []) HS.out⟩ ⟨Sep.start _⟩ HA26).mono ?_
  rintro e_ w27 ⟨rfl, hS⟩
  replace HS : Aside0 (Sep (fps []) w [] w27) := ⟨HS.out.call hS⟩
  clear hS
  go_wp2_with fail
  go_ret
  rw [← some_eq H]
  exact ⟨(by first | rfl | (simp [IntKind.wrap_u32]; done)), HS.out⟩

set_option maxHeartbeats 30000000 in
set_option maxRecDepth 100000 in
theorem store_Store_Put_nil.calls (a43 : Int) (a44 : Int) (r : Bool) (w : World)  (HGl0 : Aside0 (Gl 0 #[.int .i64 0, .int .i64 0, .int .i64 0, .int .i64 0, .int .i64 0] (fps []) w)) (HS : Aside0 (Sep (fps []) w [] w)) (H : Aside0 (store_Store_Put_nil.f a43 a44 = some r)) :
    Calls Tryz.prog 107 #[.pointer none, .int .i64 a43, .int .u32 a44] w fun e w' => e = .returned (.bool r) ∧ Sep (fps []) w [] w' := by
  unfold store_Store_Put_nil.f at H
  go_enter Tryz.func107, Tryz.ntmps107
  go_wp2_with fail
  obtain ⟨t45, HA46, H⟩ := bind_some H
  refine (store_Store_has_nil.calls a43 t45 _ ⟨HGl0.out.pass (l := []) HS.out⟩ ⟨Sep.start _⟩ HA46).mono ?_
  rintro e_ w47 ⟨rfl, hS⟩
  replace HS : Aside0 (Sep (fps []) w [] w47) := ⟨HS.out.call hS⟩
  clear hS
  by_cases c48 : t45 = true
  · have H := if_yes c48 H
    have c48b0 : t45 = true := c48
    have c48b1 : (!t45) = false := by rw [c48b0]; rfl
    try rw [c48b1]
    clear c48
    exact (none_no H).elim
  · have H := if_no c48 H
    have c48b0 : t45 = false := by simpa using c48
    have c48b1 : (!t45) = true := by rw [c48b0]; rfl
    try rw [c48b1]
    clear c48
    go_wp2_with fail
    go_ret
    rw [← some_eq H]
    exact ⟨(by first | rfl | (simp [IntKind.wrap_u32]; done)), HS.out⟩

set_option maxHeartbeats 30000000 in
set_option maxRecDepth 100000 in
theorem ground_Ground_set_nil.calls (a36 : Int) (a37 : Int) (r : Bool) (w : World)  (HGl0 : Aside0 (Gl 0 #[.int .i64 0, .int .i64 0, .int .i64 0, .int .i64 0, .int .i64 0] (fps []) w)) (HS : Aside0 (Sep (fps []) w [] w)) (H : Aside0 (ground_Ground_set_nil.f a36 a37 = some r)) :
    Calls Tryz.prog 99 #[.pointer none, .int .i64 a36, .int .i64 a37] w fun e w' => e = .returned (.bool r) ∧ Sep (fps []) w [] w' := by
  unfold ground_Ground_set_nil.f at H
  go_enter Tryz.func99, Tryz.ntmps99
  by_cases c38 : a37 < 0
  · have H := if_yes c38 H
    have c38b0 : decide (a37 < 0) = true := decide_eq_true c38
    clear c38
    go_wp2_with fail
    go_ret
    rw [← some_eq H]
    exact ⟨(by first | rfl | (simp [IntKind.wrap_u32]; done)), HS.out⟩
  · have H := if_no c38 H
    have c38b0 : decide (a37 < 0) = false := decide_eq_false c38
    clear c38
    by_cases c39 : a37 > 4294967295
    · have H := if_yes c39 H
      have c39b0 : decide (4294967295 < a37) = true := decide_eq_true c39
      clear c39
      go_wp2_with fail
      go_ret
      rw [← some_eq H]
      exact ⟨(by first | rfl | (simp [IntKind.wrap_u32]; done)), HS.out⟩
    · have H := if_no c39 H
      have c39b0 : decide (4294967295 < a37) = false := decide_eq_false c39
      clear c39
      go_wp2_with fail
      obtain ⟨t40, HA41, H⟩ := bind_some H
      refine (ground_Ground_all_nil.calls t40 _ ⟨HGl0.out.pass (l := []) HS.out⟩ ⟨Sep.start _⟩ HA41).mono ?_
      rintro e_ w42 ⟨rfl, hS⟩
      replace HS : Aside0 (Sep (fps []) w [] w42) := ⟨HS.out.call hS⟩
      clear hS
      go_wp2_with fail
      obtain ⟨t49, HA50, H⟩ := bind_some H
      refine (store_Store_Put_nil.calls a36 ((a37) % 4294967296) t49 _ ⟨HGl0.out.pass (l := []) HS.out⟩ ⟨Sep.start _⟩ HA50).mono ?_
      rintro e_ w51 ⟨rfl, hS⟩
      replace HS : Aside0 (Sep (fps []) w [] w51) := ⟨HS.out.call hS⟩
      clear hS
      go_wp2_with fail
      go_ret
      rw [← some_eq H]
      exact ⟨(by first | rfl | (simp [IntKind.wrap_u32]; done)), HS.out⟩

set_option maxHeartbeats 30000000 in
set_option maxRecDepth 100000 in
theorem ground_Ground_SetReg_nil.calls (a31 : Int) (a32 : Int) (r : Bool) (w : World)  (HGl0 : Aside0 (Gl 0 #[.int .i64 0, .int .i64 0, .int .i64 0, .int .i64 0, .int .i64 0] (fps []) w)) (HS : Aside0 (Sep (fps []) w [] w)) (H : Aside0 (ground_Ground_SetReg_nil.f a31 a32 = some r)) :
    Calls Tryz.prog 43 #[.pointer none, .int .i64 a31, .int .i64 a32] w fun e w' => e = .returned (.bool r) ∧ Sep (fps []) w [] w' := by
  unfold ground_Ground_SetReg_nil.f at H
  go_enter Tryz.func43, Tryz.ntmps43
  go_wp2_with fail
  obtain ⟨t33, HA34, H⟩ := bind_some H
  refine (ground_reg.calls a31 t33 _ ⟨HGl0.out.pass (l := []) HS.out⟩ ⟨Sep.start _⟩ HA34).mono ?_
  rintro e_ w35 ⟨rfl, hS⟩
  replace HS : Aside0 (Sep (fps []) w [] w35) := ⟨HS.out.call hS⟩
  clear hS
  go_wp2_with fail
  obtain ⟨t52, HA53, H⟩ := bind_some H
  refine (ground_Ground_set_nil.calls t33 a32 t52 _ ⟨HGl0.out.pass (l := []) HS.out⟩ ⟨Sep.start _⟩ HA53).mono ?_
  rintro e_ w54 ⟨rfl, hS⟩
  replace HS : Aside0 (Sep (fps []) w [] w54) := ⟨HS.out.call hS⟩
  clear hS
  go_wp2_with fail
  go_ret
  rw [← some_eq H]
  exact ⟨(by first | rfl | (simp [IntKind.wrap_u32]; done)), HS.out⟩

set_option maxHeartbeats 30000000 in
set_option maxRecDepth 100000 in
theorem tint_Turn_nil.calls  (r : Unit) (w : World)  (HGl0 : Aside0 (Gl 0 #[.int .i64 0, .int .i64 0, .int .i64 0, .int .i64 0, .int .i64 0] (fps []) w)) (HS : Aside0 (Sep (fps []) w [] w)) (H : Aside0 (tint_Turn_nil.f = some r)) :
    Calls Tryz.prog 9 #[.pointer none] w fun e w' => e = .returned (.tuple #[]) ∧ Sep (fps []) w [] w' := by
  unfold tint_Turn_nil.f at H
  go_enter Tryz.func9, Tryz.ntmps9
  go_wp2_with fail
  obtain ⟨t28, HA29, H⟩ := bind_some H
  refine (ground_Ground_Reg_nil.calls 10 t28 _ ⟨HGl0.out.pass (l := []) HS.out⟩ ⟨Sep.start _⟩ HA29).mono ?_
  rintro e_ w30 ⟨rfl, hS⟩
  replace HS : Aside0 (Sep (fps []) w [] w30) := ⟨HS.out.call hS⟩
  clear hS
  go_wp2_with fail
  obtain ⟨t55, HA56, H⟩ := bind_some H
  refine (ground_Ground_SetReg_nil.calls 10 (wrap64 (1 - t28)) t55 _ ⟨HGl0.out.pass (l := []) HS.out⟩ ⟨Sep.start _⟩ HA56).mono ?_
  rintro e_ w57 ⟨rfl, hS⟩
  replace HS : Aside0 (Sep (fps []) w [] w57) := ⟨HS.out.call hS⟩
  clear hS
  go_wp2_with fail
  first | go_end0 | refine bodyPost_ret (results_none rfl _ _ _) rfl ?_
  clear H
  exact ⟨rfl, HS.out⟩

set_option maxHeartbeats 30000000 in
set_option maxRecDepth 100000 in
theorem tint_At_nil.calls  (r : Int × Int) (w : World)  (HGl0 : Aside0 (Gl 0 #[.int .i64 0, .int .i64 0, .int .i64 0, .int .i64 0, .int .i64 0] (fps []) w)) (HS : Aside0 (Sep (fps []) w [] w)) (H : Aside0 (tint_At_nil.f = some r)) :
    Calls Tryz.prog 21 #[.pointer none] w fun e w' => e = .returned (.tuple #[.int .i64 r.1, .int .i64 r.2]) ∧ Sep (fps []) w [] w' := by
  unfold tint_At_nil.f at H
  go_enter Tryz.func21, Tryz.ntmps21
  go_wp2_with fail
  obtain ⟨t61, HA62, H⟩ := bind_some H
  refine (ground_Ground_Reg_nil.calls 12 t61 _ ⟨HGl0.out.pass (l := []) HS.out⟩ ⟨Sep.start _⟩ HA62).mono ?_
  rintro e_ w63 ⟨rfl, hS⟩
  replace HS : Aside0 (Sep (fps []) w [] w63) := ⟨HS.out.call hS⟩
  clear hS
  go_wp2_with fail
  obtain ⟨t64, HA65, H⟩ := bind_some H
  refine (ground_Ground_Reg_nil.calls 13 t64 _ ⟨HGl0.out.pass (l := []) HS.out⟩ ⟨Sep.start _⟩ HA65).mono ?_
  rintro e_ w66 ⟨rfl, hS⟩
  replace HS : Aside0 (Sep (fps []) w [] w66) := ⟨HS.out.call hS⟩
  clear hS
  go_wp2_with fail
  go_ret2
  rw [← some_eq H]
  exact ⟨(by first | rfl | (simp [IntKind.wrap_u32]; done)), HS.out⟩

set_option maxHeartbeats 30000000 in
set_option maxRecDepth 100000 in
theorem tint_Parity_nil.calls  (r : Int) (w : World)  (HGl0 : Aside0 (Gl 0 #[.int .i64 0, .int .i64 0, .int .i64 0, .int .i64 0, .int .i64 0] (fps []) w)) (HS : Aside0 (Sep (fps []) w [] w)) (H : Aside0 (tint_Parity_nil.f = some r)) :
    Calls Tryz.prog 15 #[.pointer none] w fun e w' => e = .returned (.int .i64 r) ∧ Sep (fps []) w [] w' := by
  unfold tint_Parity_nil.f at H
  go_enter Tryz.func15, Tryz.ntmps15
  go_wp2_with fail
  obtain ⟨t70, HA71, H⟩ := bind_some H
  refine (ground_Ground_Reg_nil.calls 10 t70 _ ⟨HGl0.out.pass (l := []) HS.out⟩ ⟨Sep.start _⟩ HA71).mono ?_
  rintro e_ w72 ⟨rfl, hS⟩
  replace HS : Aside0 (Sep (fps []) w [] w72) := ⟨HS.out.call hS⟩
  clear hS
  go_wp2_with fail
  go_ret
  rw [← some_eq H]
  exact ⟨(by first | rfl | (simp [IntKind.wrap_u32]; done)), HS.out⟩

set_option maxHeartbeats 30000000 in
set_option maxRecDepth 100000 in
theorem tint_Phase_nil.calls  (r : Int) (w : World)  (HGl0 : Aside0 (Gl 0 #[.int .i64 0, .int .i64 0, .int .i64 0, .int .i64 0, .int .i64 0] (fps []) w)) (HS : Aside0 (Sep (fps []) w [] w)) (H : Aside0 (tint_Phase_nil.f = some r)) :
    Calls Tryz.prog 22 #[.pointer none] w fun e w' => e = .returned (.int .i64 r) ∧ Sep (fps []) w [] w' := by
  unfold tint_Phase_nil.f at H
  go_enter Tryz.func22, Tryz.ntmps22
  go_wp2_with fail
  obtain ⟨t77, HA78, H⟩ := bind_some H
  refine (ground_Ground_Reg_nil.calls 11 t77 _ ⟨HGl0.out.pass (l := []) HS.out⟩ ⟨Sep.start _⟩ HA78).mono ?_
  rintro e_ w79 ⟨rfl, hS⟩
  replace HS : Aside0 (Sep (fps []) w [] w79) := ⟨HS.out.call hS⟩
  clear hS
  go_wp2_with fail
  go_ret
  rw [← some_eq H]
  exact ⟨(by first | rfl | (simp [IntKind.wrap_u32]; done)), HS.out⟩

set_option maxHeartbeats 30000000 in
set_option maxRecDepth 100000 in
theorem tint_Begin_nil.calls (a84 : Int) (r : Bool) (w : World)  (HGl0 : Aside0 (Gl 0 #[.int .i64 0, .int .i64 0, .int .i64 0, .int .i64 0, .int .i64 0] (fps []) w)) (HS : Aside0 (Sep (fps []) w [] w)) (H : Aside0 (tint_Begin_nil.f a84 = some r)) :
    Calls Tryz.prog 10 #[.pointer none, .int .i64 a84] w fun e w' => e = .returned (.bool r) ∧ Sep (fps []) w [] w' := by
  unfold tint_Begin_nil.f at H
  go_enter Tryz.func10, Tryz.ntmps10
  go_wp2_with fail
  go_ret
  rw [← some_eq H]
  exact ⟨(by first | rfl | (simp [IntKind.wrap_u32]; done)), HS.out⟩

set_option maxHeartbeats 30000000 in
set_option maxRecDepth 100000 in
theorem tint_fits.calls (a93 : Int) (r : Bool) (w : World)  (HGl0 : Aside0 (Gl 0 #[.int .i64 0, .int .i64 0, .int .i64 0, .int .i64 0, .int .i64 0] (fps []) w)) (HS : Aside0 (Sep (fps []) w [] w)) (H : Aside0 (tint_fits.f a93 = some r)) :
    Calls Tryz.prog 58 #[.int .i64 a93] w fun e w' => e = .returned (.bool r) ∧ Sep (fps []) w [] w' := by
  unfold tint_fits.f at H
  go_enter Tryz.func58, Tryz.ntmps58
  by_cases c94 : a93 ≥ 0
  · have H := if_yes c94 H
    have c94b0 : decide (0 ≤ a93) = true := decide_eq_true c94
    clear c94
    go_wp2_with fail
    go_ret
    rw [← some_eq H]
    exact ⟨(by first | rfl | (simp [IntKind.wrap_u32]; done)), HS.out⟩
  · have H := if_no c94 H
    have c94b0 : decide (0 ≤ a93) = false := decide_eq_false c94
    clear c94
    go_wp2_with fail
    go_ret
    rw [← some_eq H]
    exact ⟨(by first | rfl | (simp [IntKind.wrap_u32]; done)), HS.out⟩

set_option maxHeartbeats 30000000 in
set_option maxRecDepth 100000 in
theorem tint_Move_nil.calls (a91 : Int) (a92 : Int) (r : Bool) (w : World)  (HGl0 : Aside0 (Gl 0 #[.int .i64 0, .int .i64 0, .int .i64 0, .int .i64 0, .int .i64 0] (fps []) w)) (HS : Aside0 (Sep (fps []) w [] w)) (H : Aside0 (tint_Move_nil.f a91 a92 = some r)) :
    Calls Tryz.prog 23 #[.pointer none, .int .i64 a91, .int .i64 a92] w fun e w' => e = .returned (.bool r) ∧ Sep (fps []) w [] w' := by
  unfold tint_Move_nil.f at H
  go_enter Tryz.func23, Tryz.ntmps23
  go_wp2_with fail
  obtain ⟨t95, HA96, H⟩ := bind_some H
  refine (tint_fits.calls a91 t95 _ ⟨HGl0.out.pass (l := []) HS.out⟩ ⟨Sep.start _⟩ HA96).mono ?_
  rintro e_ w97 ⟨rfl, hS⟩
  replace HS : Aside0 (Sep (fps []) w [] w97) := ⟨HS.out.call hS⟩
  clear hS
  by_cases c98 : t95 = true
  · have H := if_yes c98 H
    have c98b0 : t95 = true := c98
    have c98b1 : (!t95) = false := by rw [c98b0]; rfl
    clear c98
    go_wp2_with fail
    obtain ⟨t99, HA100, H⟩ := bind_some H
    refine (tint_fits.calls a92 t99 _ ⟨HGl0.out.pass (l := []) HS.out⟩ ⟨Sep.start _⟩ HA100).mono ?_
    rintro e_ w101 ⟨rfl, hS⟩
    replace HS : Aside0 (Sep (fps []) w [] w101) := ⟨HS.out.call hS⟩
    clear hS
    by_cases c102 : t99 = true
    · have H := if_yes c102 H
      have c102b0 : t99 = true := c102
      have c102b1 : (!t99) = false := by rw [c102b0]; rfl
      clear c102
      go_wp2_with fail
      obtain ⟨t103, HA104, H⟩ := bind_some H
      refine (ground_Ground_SetReg_nil.calls 12 a91 t103 _ ⟨HGl0.out.pass (l := []) HS.out⟩ ⟨Sep.start _⟩ HA104).mono ?_
      rintro e_ w105 ⟨rfl, hS⟩
      replace HS : Aside0 (Sep (fps []) w [] w105) := ⟨HS.out.call hS⟩
      clear hS
      by_cases c106 : t103 = true
      · have H := if_yes c106 H
        have c106b0 : t103 = true := c106
        have c106b1 : (!t103) = false := by rw [c106b0]; rfl
        clear c106
        go_wp2_with fail
        obtain ⟨t107, HA108, H⟩ := bind_some H
        refine (ground_Ground_SetReg_nil.calls 13 a92 t107 _ ⟨HGl0.out.pass (l := []) HS.out⟩ ⟨Sep.start _⟩ HA108).mono ?_
        rintro e_ w109 ⟨rfl, hS⟩
        replace HS : Aside0 (Sep (fps []) w [] w109) := ⟨HS.out.call hS⟩
        clear hS
        go_wp2_with fail
        go_ret
        rw [← some_eq H]
        exact ⟨(by first | rfl | (simp [IntKind.wrap_u32]; done)), HS.out⟩
      · have H := if_no c106 H
        have c106b0 : t103 = false := by simpa using c106
        have c106b1 : (!t103) = true := by rw [c106b0]; rfl
        clear c106
        go_wp2_with fail
        go_ret
        rw [← some_eq H]
        exact ⟨(by first | rfl | (simp [IntKind.wrap_u32]; done)), HS.out⟩
    · have H := if_no c102 H
      have c102b0 : t99 = false := by simpa using c102
      have c102b1 : (!t99) = true := by rw [c102b0]; rfl
      clear c102
      go_wp2_with fail
      go_ret
      rw [← some_eq H]
      exact ⟨(by first | rfl | (simp [IntKind.wrap_u32]; done)), HS.out⟩
  · have H := if_no c98 H
    have c98b0 : t95 = false := by simpa using c98
    have c98b1 : (!t95) = true := by rw [c98b0]; rfl
    clear c98
    go_wp2_with fail
    go_ret
    rw [← some_eq H]
    exact ⟨(by first | rfl | (simp [IntKind.wrap_u32]; done)), HS.out⟩

set_option maxHeartbeats 30000000 in
set_option maxRecDepth 100000 in
theorem tint_of_nil.calls (a129 : Int) (r : Int × Int × Int × Int × Int × Int × Int × Bool) (w : World)  (HGl0 : Aside0 (Gl 0 #[.int .i64 0, .int .i64 0, .int .i64 0, .int .i64 0, .int .i64 0] (fps []) w)) (HS : Aside0 (Sep (fps []) w [] w)) (H : Aside0 (tint_of_nil.f a129 = some r)) :
    Calls Tryz.prog 53 #[.pointer none, .int .i64 a129] w fun e w' => e = .returned (.tuple #[.agg #[.int .i64 r.1, .int .i64 r.2.1, .int .i64 r.2.2.1, .int .i64 r.2.2.2.1, .int .i64 r.2.2.2.2.1, .int .i64 r.2.2.2.2.2.1, .int .i64 r.2.2.2.2.2.2.1], .bool r.2.2.2.2.2.2.2]) ∧ Sep (fps []) w [] w' := by
  unfold tint_of_nil.f at H
  go_enter Tryz.func53, Tryz.ntmps53
  go_wp2_with (first | ((with_reducible refine gate_dst (N := 4) rfl ?_); refine box_on ?hg (N := 4) ?hd (cs := #[.int .i64 0, .int .i64 0, .int .i64 0, .int .i64 0, .int .i64 0, .int .i64 0, .int .i64 0]) (t := 79) ?hr ?_; (case hd => rfl); (case hg => rfl); (case hr => first | (go_simp; done) | (go_simp; rfl)); intro g130 hg w131 hbox hb; replace HS : Aside0 (Sep (fps []) w [b3 g130 0 0 0 0 0 0 0] w131) := ⟨HS.out.box hg hbox hb⟩; clear hg hbox hb; have hc133 : w131.cell? ⟨g130, 0, none⟩ = some (.int .i64 0) := blk_cellv (HS.out.at0) 0 rfl; have hz134 : w131.frozen? ⟨g130, 0, none⟩ = false := blk_fz (HS.out.at0) 0; have hc135 : w131.cell? ⟨g130, 1, none⟩ = some (.int .i64 0) := blk_cellv (HS.out.at0) 1 rfl; have hz136 : w131.frozen? ⟨g130, 1, none⟩ = false := blk_fz (HS.out.at0) 1; have hc137 : w131.cell? ⟨g130, 2, none⟩ = some (.int .i64 0) := blk_cellv (HS.out.at0) 2 rfl; have hz138 : w131.frozen? ⟨g130, 2, none⟩ = false := blk_fz (HS.out.at0) 2; have hc139 : w131.cell? ⟨g130, 3, none⟩ = some (.int .i64 0) := blk_cellv (HS.out.at0) 3 rfl; have hz140 : w131.frozen? ⟨g130, 3, none⟩ = false := blk_fz (HS.out.at0) 3; have hc141 : w131.cell? ⟨g130, 4, none⟩ = some (.int .i64 0) := blk_cellv (HS.out.at0) 4 rfl; have hz142 : w131.frozen? ⟨g130, 4, none⟩ = false := blk_fz (HS.out.at0) 4; have hc143 : w131.cell? ⟨g130, 5, none⟩ = some (.int .i64 0) := blk_cellv (HS.out.at0) 5 rfl; have hz144 : w131.frozen? ⟨g130, 5, none⟩ = false := blk_fz (HS.out.at0) 5; have hc145 : w131.cell? ⟨g130, 6, none⟩ = some (.int .i64 0) := blk_cellv (HS.out.at0) 6 rfl; have hz146 : w131.frozen? ⟨g130, 6, none⟩ = false := blk_fz (HS.out.at0) 6) | ((with_reducible refine gate_store (t := 79) (p := 4) rfl ?_); refine store_event (w1 := (World.setCell (World.setCell (World.setCell (World.setCell (World.setCell (World.setCell (World.setCell w131 ⟨g130, 0, none⟩ (.int .i64 0)) ⟨g130, 1, none⟩ (.int .i64 0)) ⟨g130, 2, none⟩ (.int .i64 0)) ⟨g130, 3, none⟩ (.int .i64 0)) ⟨g130, 4, none⟩ (.int .i64 0)) ⟨g130, 5, none⟩ (.int .i64 0)) ⟨g130, 6, none⟩ (.int .i64 0))) rfl (t := 79) (p := 4) rfl rfl ?hr ?_; (case hr => first | (go_simp; done) | (go_simp; rfl)); intro w147 hst; clear hc133 hz134 hc135 hz136 hc137 hz138 hc139 hz140 hc141 hz142 hc143 hz144 hc145 hz146; replace HS : Aside0 (Sep (fps []) w [b3 g130 0 0 0 0 0 0 0] w147) := ⟨by rw [hst]; exact HS.out.setAll (l1 := []) (l2 := []) [.int .i64 0, .int .i64 0, .int .i64 0, .int .i64 0, .int .i64 0, .int .i64 0, .int .i64 0] rfl⟩; clear hst))
  have hc148 : w147.cell? ⟨g130, 0, none⟩ = some (.int .i64 0) := blk_cellv (HS.out.at0) 0 rfl
  have hc149 : w147.cell? ⟨g130, 1, none⟩ = some (.int .i64 0) := blk_cellv (HS.out.at0) 1 rfl
  have hc150 : w147.cell? ⟨g130, 2, none⟩ = some (.int .i64 0) := blk_cellv (HS.out.at0) 2 rfl
  have hc151 : w147.cell? ⟨g130, 3, none⟩ = some (.int .i64 0) := blk_cellv (HS.out.at0) 3 rfl
  have hc152 : w147.cell? ⟨g130, 4, none⟩ = some (.int .i64 0) := blk_cellv (HS.out.at0) 4 rfl
  have hc153 : w147.cell? ⟨g130, 5, none⟩ = some (.int .i64 0) := blk_cellv (HS.out.at0) 5 rfl
  have hc154 : w147.cell? ⟨g130, 6, none⟩ = some (.int .i64 0) := blk_cellv (HS.out.at0) 6 rfl
  refine bodyPost_ret (v := .tuple #[.agg #[.int .i64 0, .int .i64 0, .int .i64 0, .int .i64 0, .int .i64 0, .int .i64 0, .int .i64 0], .bool false]) (by simp [results, Tryz.results53, go_sem, hc148, hc149, hc150, hc151, hc152, hc153, hc154]) rfl ?_
  rw [← some_eq H]
  exact ⟨(by first | rfl | (simp [IntKind.wrap_u32]; done)), HS.out.sub (.cons _ .slnil)⟩

set_option maxHeartbeats 30000000 in
set_option maxRecDepth 100000 in
theorem ground_Ground_Conf_nil.calls  (r : Int × Int × Int × Int) (w : World)  (HGl0 : Aside0 (Gl 0 #[.int .i64 0, .int .i64 0, .int .i64 0, .int .i64 0, .int .i64 0] (fps []) w)) (HS : Aside0 (Sep (fps []) w [] w)) (H : Aside0 (ground_Ground_Conf_nil.f = some r)) :
    Calls Tryz.prog 46 #[.pointer none] w fun e w' => e = .returned (.agg #[.int .i64 r.1, .int .i64 r.2.1, .int .i64 r.2.2.1, .int .i64 r.2.2.2]) ∧ Sep (fps []) w [] w' := by
  unfold ground_Ground_Conf_nil.f at H
  go_enter Tryz.func46, Tryz.ntmps46
  go_wp2_with (first | ((with_reducible refine gate_dst (N := 2) rfl ?_); refine box_on ?hg (N := 2) ?hd (cs := #[.int .i64 0, .int .i64 0, .int .i64 0, .int .i64 0]) (t := 29) ?hr ?_; (case hd => rfl); (case hg => rfl); (case hr => first | (go_simp; done) | (go_simp; rfl)); intro g214 hg w215 hbox hb; replace HS : Aside0 (Sep (fps []) w [b4 g214 0 0 0 0] w215) := ⟨HS.out.box hg hbox hb⟩; clear hg hbox hb; have hc217 : w215.cell? ⟨g214, 0, none⟩ = some (.int .i64 0) := blk_cellv (HS.out.at0) 0 rfl; have hz218 : w215.frozen? ⟨g214, 0, none⟩ = false := blk_fz (HS.out.at0) 0; have hc219 : w215.cell? ⟨g214, 1, none⟩ = some (.int .i64 0) := blk_cellv (HS.out.at0) 1 rfl; have hz220 : w215.frozen? ⟨g214, 1, none⟩ = false := blk_fz (HS.out.at0) 1; have hc221 : w215.cell? ⟨g214, 2, none⟩ = some (.int .i64 0) := blk_cellv (HS.out.at0) 2 rfl; have hz222 : w215.frozen? ⟨g214, 2, none⟩ = false := blk_fz (HS.out.at0) 2; have hc223 : w215.cell? ⟨g214, 3, none⟩ = some (.int .i64 0) := blk_cellv (HS.out.at0) 3 rfl; have hz224 : w215.frozen? ⟨g214, 3, none⟩ = false := blk_fz (HS.out.at0) 3) | ((with_reducible refine gate_store (t := 29) (p := 2) rfl ?_); refine store_event (w1 := (World.setCell (World.setCell (World.setCell (World.setCell w215 ⟨g214, 0, none⟩ (.int .i64 0)) ⟨g214, 1, none⟩ (.int .i64 0)) ⟨g214, 2, none⟩ (.int .i64 0)) ⟨g214, 3, none⟩ (.int .i64 0))) rfl (t := 29) (p := 2) rfl rfl ?hr ?_; (case hr => first | (go_simp; done) | (go_simp; rfl)); intro w225 hst; clear hc217 hz218 hc219 hz220 hc221 hz222 hc223 hz224; replace HS : Aside0 (Sep (fps []) w [b4 g214 0 0 0 0] w225) := ⟨by rw [hst]; exact HS.out.setAll (l1 := []) (l2 := []) [.int .i64 0, .int .i64 0, .int .i64 0, .int .i64 0] rfl⟩; clear hst))
  have hc226 : w225.cell? ⟨g214, 0, none⟩ = some (.int .i64 0) := blk_cellv (HS.out.at0) 0 rfl
  have hc227 : w225.cell? ⟨g214, 1, none⟩ = some (.int .i64 0) := blk_cellv (HS.out.at0) 1 rfl
  have hc228 : w225.cell? ⟨g214, 2, none⟩ = some (.int .i64 0) := blk_cellv (HS.out.at0) 2 rfl
  have hc229 : w225.cell? ⟨g214, 3, none⟩ = some (.int .i64 0) := blk_cellv (HS.out.at0) 3 rfl
  refine bodyPost_ret (v := .agg #[.int .i64 0, .int .i64 0, .int .i64 0, .int .i64 0]) (by simp [results, Tryz.results46, go_sem, hc226, hc227, hc228, hc229]) rfl ?_
  rw [← some_eq H]
  exact ⟨(by first | rfl | (simp [IntKind.wrap_u32]; done)), HS.out.sub (.cons _ .slnil)⟩

set_option maxHeartbeats 30000000 in
set_option maxRecDepth 100000 in
theorem ground_Ground_word_nil.calls (a212 : Int) (a213 : Int) (r : Int) (w : World)  (HGl0 : Aside0 (Gl 0 #[.int .i64 0, .int .i64 0, .int .i64 0, .int .i64 0, .int .i64 0] (fps []) w)) (HS : Aside0 (Sep (fps []) w [] w)) (H : Aside0 (ground_Ground_word_nil.f a212 a213 = some r)) :
    Calls Tryz.prog 108 #[.pointer none, .int .i64 a212, .int .i64 a213] w fun e w' => e = .returned (.int .i64 r) ∧ Sep (fps []) w [] w' := by
  unfold ground_Ground_word_nil.f at H
  go_enter Tryz.func108, Tryz.ntmps108
  go_wp2_with fail
  obtain ⟨t230, HA231, H⟩ := bind_some H
  refine (ground_Ground_Conf_nil.calls t230 _ ⟨HGl0.out.pass (l := []) HS.out⟩ ⟨Sep.start _⟩ HA231).mono ?_
  rintro e_ w232 ⟨rfl, hS⟩
  replace HS : Aside0 (Sep (fps []) w [] w232) := ⟨HS.out.call hS⟩
  clear hS
  go_wp2_with (first | ((with_reducible refine gate_dst (N := 7) rfl ?_); refine box_on ?hg (N := 7) ?hd (cs := #[.int .i64 0, .int .i64 0, .int .i64 0, .int .i64 0]) (t := 29) ?hr ?_; (case hd => rfl); (case hg => rfl); (case hr => first | (go_simp; done) | (go_simp; rfl)); intro g233 hg w234 hbox hb; replace HS : Aside0 (Sep (fps []) w [b4 g233 0 0 0 0] w234) := ⟨HS.out.box hg hbox hb⟩; clear hg hbox hb; have hc236 : w234.cell? ⟨g233, 0, none⟩ = some (.int .i64 0) := blk_cellv (HS.out.at0) 0 rfl; have hz237 : w234.frozen? ⟨g233, 0, none⟩ = false := blk_fz (HS.out.at0) 0; have hc238 : w234.cell? ⟨g233, 1, none⟩ = some (.int .i64 0) := blk_cellv (HS.out.at0) 1 rfl; have hz239 : w234.frozen? ⟨g233, 1, none⟩ = false := blk_fz (HS.out.at0) 1; have hc240 : w234.cell? ⟨g233, 2, none⟩ = some (.int .i64 0) := blk_cellv (HS.out.at0) 2 rfl; have hz241 : w234.frozen? ⟨g233, 2, none⟩ = false := blk_fz (HS.out.at0) 2; have hc242 : w234.cell? ⟨g233, 3, none⟩ = some (.int .i64 0) := blk_cellv (HS.out.at0) 3 rfl; have hz243 : w234.frozen? ⟨g233, 3, none⟩ = false := blk_fz (HS.out.at0) 3) | ((with_reducible refine gate_store (t := 29) (p := 7) rfl ?_); refine store_event (w1 := (World.setCell (World.setCell (World.setCell (World.setCell w234 ⟨g233, 0, none⟩ (.int .i64 t230.1)) ⟨g233, 1, none⟩ (.int .i64 t230.2.1)) ⟨g233, 2, none⟩ (.int .i64 t230.2.2.1)) ⟨g233, 3, none⟩ (.int .i64 t230.2.2.2))) rfl (t := 29) (p := 7) rfl rfl ?hr ?_; (case hr => first | (go_simp; done) | (go_simp; rfl)); intro w244 hst; clear hc236 hz237 hc238 hz239 hc240 hz241 hc242 hz243; replace HS : Aside0 (Sep (fps []) w [b4 g233 t230.1 t230.2.1 t230.2.2.1 t230.2.2.2] w244) := ⟨by rw [hst]; exact HS.out.setAll (l1 := []) (l2 := []) [.int .i64 t230.1, .int .i64 t230.2.1, .int .i64 t230.2.2.1, .int .i64 t230.2.2.2] rfl⟩; clear hst; have hc245 : w244.cell? ⟨g233, 0, none⟩ = some (.int .i64 t230.1) := blk_cellv (HS.out.at0) 0 rfl))
  clear hc245
  obtain ⟨t246, HA247, H⟩ := bind_some H
  refine (ground_within.calls a212 t230.1 0 t246 _ ⟨HGl0.out.pass (l := []) HS.out⟩ ⟨Sep.start _⟩ HA247).mono ?_
  rintro e_ w248 ⟨rfl, hS⟩
  replace HS : Aside0 (Sep (fps []) w [b4 g233 t230.1 t230.2.1 t230.2.2.1 t230.2.2.2] w248) := ⟨HS.out.call hS⟩
  clear hS
  by_cases c249 : t246 = (-1)
  · have H := if_yes c249 H
    have c249b0 : (t246 == (-1)) = true := beq_iff_eq.mpr c249
    have c249b1 : (t246 != (-1)) = false := bne_eq_false_iff_eq.mpr c249
    clear c249
    replace HS : Aside0 (Sep (fps []) w [] w248) := ⟨HS.out.sub (.cons _ .slnil)⟩
    go_wp2_with fail
    go_ret
    rw [← some_eq H]
    exact ⟨(by first | rfl | (simp [IntKind.wrap_u32]; done)), HS.out⟩
  · have H := if_no c249 H
    have c249b0 : (t246 == (-1)) = false := beq_eq_false_iff_ne.mpr c249
    have c249b1 : (t246 != (-1)) = true := bne_iff_ne.mpr c249
    clear c249
    have hc250 : w248.cell? ⟨g233, 1, none⟩ = some (.int .i64 t230.2.1) := blk_cellv (HS.out.at0) 1 rfl
    have hc251 : w248.cell? ⟨g233, 2, none⟩ = some (.int .i64 t230.2.2.1) := blk_cellv (HS.out.at0) 2 rfl
    go_wp2_with fail
    clear hc250 hc251
    obtain ⟨t252, HA253, H⟩ := bind_some H
    refine (ground_within.calls a213 t230.2.1 (wrap64 ((wrap64 (24 + t230.2.2.1)) + (wrap64 (a212 * t230.2.1)))) t252 _ ⟨HGl0.out.pass (l := []) HS.out⟩ ⟨Sep.start _⟩ HA253).mono ?_
    rintro e_ w254 ⟨rfl, hS⟩
    replace HS : Aside0 (Sep (fps []) w [b4 g233 t230.1 t230.2.1 t230.2.2.1 t230.2.2.2] w254) := ⟨HS.out.call hS⟩
    clear hS
    replace HS : Aside0 (Sep (fps []) w [] w254) := ⟨HS.out.sub (.cons _ .slnil)⟩
    go_wp2_with fail
    go_ret
    rw [← some_eq H]
    exact ⟨(by first | rfl | (simp [IntKind.wrap_u32]; done)), HS.out⟩

set_option maxHeartbeats 30000000 in
set_option maxRecDepth 100000 in
theorem ground_Ground_SetWord_nil.calls (a206 : Int) (a207 : Int) (a208 : Int) (r : Bool) (w : World)  (HGl0 : Aside0 (Gl 0 #[.int .i64 0, .int .i64 0, .int .i64 0, .int .i64 0, .int .i64 0] (fps []) w)) (HS : Aside0 (Sep (fps []) w [] w)) (H : Aside0 (ground_Ground_SetWord_nil.f a206 a207 a208 = some r)) :
    Calls Tryz.prog 50 #[.pointer none, .int .i64 a206, .int .i64 a207, .int .u32 a208] w fun e w' => e = .returned (.bool r) ∧ Sep (fps []) w [] w' := by
  unfold ground_Ground_SetWord_nil.f at H
  go_enter Tryz.func50, Tryz.ntmps50
  go_wp2_with fail
  obtain ⟨t209, HA210, H⟩ := bind_some H
  refine (ground_Ground_all_nil.calls t209 _ ⟨HGl0.out.pass (l := []) HS.out⟩ ⟨Sep.start _⟩ HA210).mono ?_
  rintro e_ w211 ⟨rfl, hS⟩
  replace HS : Aside0 (Sep (fps []) w [] w211) := ⟨HS.out.call hS⟩
  clear hS
  go_wp2_with fail
  obtain ⟨t255, HA256, H⟩ := bind_some H
  refine (ground_Ground_word_nil.calls a206 a207 t255 _ ⟨HGl0.out.pass (l := []) HS.out⟩ ⟨Sep.start _⟩ HA256).mono ?_
  rintro e_ w257 ⟨rfl, hS⟩
  replace HS : Aside0 (Sep (fps []) w [] w257) := ⟨HS.out.call hS⟩
  clear hS
  go_wp2_with fail
  obtain ⟨t258, HA259, H⟩ := bind_some H
  refine (store_Store_Put_nil.calls t255 a208 t258 _ ⟨HGl0.out.pass (l := []) HS.out⟩ ⟨Sep.start _⟩ HA259).mono ?_
  rintro e_ w260 ⟨rfl, hS⟩
  replace HS : Aside0 (Sep (fps []) w [] w260) := ⟨HS.out.call hS⟩
  clear hS
  go_wp2_with fail
  go_ret
  rw [← some_eq H]
  exact ⟨(by first | rfl | (simp [IntKind.wrap_u32]; done)), HS.out⟩

set_option maxHeartbeats 30000000 in
set_option maxRecDepth 100000 in
theorem tint_Dye_1.calls (a182 : Int) (a183 : Int) (a184 : Int) (a185 : Int) (a186 : Int) (a187 : Int) (a188 : Int) (a189 : Int) (a194 : Int) (g181 : Nat) (g191 : Nat) (g193 : Nat) (r : Int × Int × Int) (w : World)  (HGl0 : Aside0 (Gl 0 #[.int .i64 0, .int .i64 0, .int .i64 0, .int .i64 0, .int .i64 0] (fps [b3 g181 a182 a183 a184 a185 a186 a187 a188, b1 g191, b2 g193 a194]) w)) (HS : Aside0 (Sep (fps [b3 g181 a182 a183 a184 a185 a186 a187 a188, b1 g191, b2 g193 a194]) w [b3 g181 a182 a183 a184 a185 a186 a187 a188, b1 g191, b2 g193 a194] w)) (H : Aside0 (tint_Dye_1.f a182 a183 a184 a185 a186 a187 a188 a189 a194 = some r)) :
    Calls Tryz.prog 52 #[.pointer (some ⟨g181, 0, none⟩), .int .i64 a189, .pointer (some ⟨g191, 0, none⟩), .pointer (some ⟨g193, 0, none⟩)] w fun e w' => e = .returned (.tuple #[]) ∧ Sep (fps [b3 g181 a182 a183 a184 a185 a186 a187 a188, b1 g191, b2 g193 a194]) w [b3 g181 a182 r.1 r.2.1 r.2.2 a186 a187 a188, b1 g191, b2 g193 a194] w' := by
  generalize (fps [b3 g181 a182 a183 a184 a185 a186 a187 a188, b1 g191, b2 g193 a194]) = FF at HS HGl0 ⊢
  unfold tint_Dye_1.f at H
  go_enter Tryz.func52, Tryz.ntmps52
  have hc264 : w.cell? ⟨g181, 1, none⟩ = some (.int .i64 a183) := blk_cellv (HS.out.at0) 1 rfl
  have hz265 : w.frozen? ⟨g181, 1, none⟩ = false := blk_fz (HS.out.at0) 1
  go_wp2_with (first | ((with_reducible refine gate_store (t := 3) (p := 13) rfl ?_); refine store_event (w1 := (World.setCell w ⟨g181, 1, none⟩ (.int .i64 a189))) rfl (t := 3) (p := 13) rfl rfl ?hr ?_; (case hr => first | (go_simp; done) | (go_simp; rfl)); intro w266 hst; clear hc264 hz265; have hq0 : Sep FF w [b3 g181 a182 a189 a184 a185 a186 a187 a188, b1 g191, b2 g193 a194] (World.setCell w ⟨g181, 1, none⟩ (.int .i64 a189)) := (HS.out).set1 (l1 := []) (l2 := [b1 g191, b2 g193 a194]) 1 (.int .i64 a189); replace HS : Aside0 (Sep FF w [b3 g181 a182 a189 a184 a185 a186 a187 a188, b1 g191, b2 g193 a194] w266) := ⟨by rw [hst]; exact hq0⟩; clear hq0; clear hst; have hc267 : w266.cell? ⟨g181, 2, none⟩ = some (.int .i64 a184) := blk_cellv (HS.out.at0) 2 rfl; have hz268 : w266.frozen? ⟨g181, 2, none⟩ = false := blk_fz (HS.out.at0) 2) | ((with_reducible refine gate_store (t := 3) (p := 15) rfl ?_); refine store_event (w1 := (World.setCell w266 ⟨g181, 2, none⟩ (.int .i64 a189))) rfl (t := 3) (p := 15) rfl rfl ?hr ?_; (case hr => first | (go_simp; done) | (go_simp; rfl)); intro w269 hst; clear hc267 hz268; have hq0 : Sep FF w [b3 g181 a182 a189 a189 a185 a186 a187 a188, b1 g191, b2 g193 a194] (World.setCell w266 ⟨g181, 2, none⟩ (.int .i64 a189)) := (HS.out).set1 (l1 := []) (l2 := [b1 g191, b2 g193 a194]) 2 (.int .i64 a189); replace HS : Aside0 (Sep FF w [b3 g181 a182 a189 a189 a185 a186 a187 a188, b1 g191, b2 g193 a194] w269) := ⟨by rw [hst]; exact hq0⟩; clear hq0; clear hst; have hc270 : w269.cell? ⟨g181, 3, none⟩ = some (.int .i64 a185) := blk_cellv (HS.out.at0) 3 rfl; have hz271 : w269.frozen? ⟨g181, 3, none⟩ = false := blk_fz (HS.out.at0) 3) | ((with_reducible refine gate_store (t := 3) (p := 17) rfl ?_); refine store_event (w1 := (World.setCell w269 ⟨g181, 3, none⟩ (.int .i64 a189))) rfl (t := 3) (p := 17) rfl rfl ?hr ?_; (case hr => first | (go_simp; done) | (go_simp; rfl)); intro w272 hst; clear hc270 hz271; have hq0 : Sep FF w [b3 g181 a182 a189 a189 a189 a186 a187 a188, b1 g191, b2 g193 a194] (World.setCell w269 ⟨g181, 3, none⟩ (.int .i64 a189)) := (HS.out).set1 (l1 := []) (l2 := [b1 g191, b2 g193 a194]) 3 (.int .i64 a189); replace HS : Aside0 (Sep FF w [b3 g181 a182 a189 a189 a189 a186 a187 a188, b1 g191, b2 g193 a194] w272) := ⟨by rw [hst]; exact hq0⟩; clear hq0; clear hst; have hc273 : w272.cell? ⟨g191, 0, none⟩ = some (.pointer none) := blk_cellv (HS.out.at1) 0 rfl; have hc274 : w272.cell? ⟨g193, 0, none⟩ = some (.int .i64 a194) := blk_cellv (HS.out.at2) 0 rfl))
  clear hc273 hc274
  obtain ⟨t275, HA276, H⟩ := bind_some H
  refine (ground_Ground_SetWord_nil.calls (wrap64 (a194 - 1)) 4 0 t275 _ ⟨HGl0.out.pass (l := []) HS.out⟩ ⟨Sep.start _⟩ HA276).mono ?_
  rintro e_ w277 ⟨rfl, hS⟩
  replace HS : Aside0 (Sep FF w [b3 g181 a182 a189 a189 a189 a186 a187 a188, b1 g191, b2 g193 a194] w277) := ⟨HS.out.call hS⟩
  clear hS
  go_wp2_with fail
  first | go_end0 | refine bodyPost_ret (results_none rfl _ _ _) rfl ?_
  rw [← some_eq H]
  exact ⟨rfl, HS.out⟩

set_option maxHeartbeats 30000000 in
set_option maxRecDepth 100000 in
theorem tag_marks.calls (a322 : Int) (a323 : Int) (a324 : Int) (a325 : Int) (a326 : Int) (a327 : Int) (a328 : Int) (r : Int × Int × Int × Int × Int) (w : World)  (HGl0 : Aside0 (Gl 0 #[.int .i64 0, .int .i64 0, .int .i64 0, .int .i64 0, .int .i64 0] (fps []) w)) (HS : Aside0 (Sep (fps []) w [] w)) (H : Aside0 (tag_marks.f a322 a323 a324 a325 a326 a327 a328 = some r)) :
    Calls Tryz.prog 154 #[.agg #[.int .i64 a322, .int .i64 a323, .int .i64 a324, .int .i64 a325, .int .i64 a326, .int .i64 a327, .int .i64 a328]] w fun e w' => e = .returned (.agg #[.int .i64 r.1, .int .i64 r.2.1, .int .i64 r.2.2.1, .int .i64 r.2.2.2.1, .int .i64 r.2.2.2.2]) ∧ Sep (fps []) w [] w' := by
  unfold tag_marks.f at H
  go_enter Tryz.func154, Tryz.ntmps154
  go_wp2_with (first | ((with_reducible refine gate_dst (N := 1) rfl ?_); refine box_on ?hg (N := 1) ?hd (cs := #[.int .i64 a322, .int .i64 a323, .int .i64 a324, .int .i64 a325, .int .i64 a326, .int .i64 a327, .int .i64 a328]) (t := 79) ?hr ?_; (case hd => rfl); (case hg => rfl); (case hr => first | (go_simp; done) | (go_simp; rfl)); intro g329 hg w330 hbox hb; replace HS : Aside0 (Sep (fps []) w [b3 g329 a322 a323 a324 a325 a326 a327 a328] w330) := ⟨HS.out.box hg hbox hb⟩; clear hg hbox hb) | ((with_reducible refine gate_dst (N := 2) rfl ?_); refine box_on ?hg (N := 2) ?hd (cs := #[.int .i64 0, .int .i64 0, .int .i64 0, .int .i64 0, .int .i64 0]) (t := 174) ?hr ?_; (case hd => rfl); (case hg => rfl); (case hr => first | (go_simp; done) | (go_simp; rfl)); intro g332 hg w333 hbox hb; replace HS : Aside0 (Sep (fps []) w [b3 g329 a322 a323 a324 a325 a326 a327 a328, b5 g332 0 0 0 0 0] w333) := ⟨HS.out.box hg hbox hb⟩; clear hg hbox hb; have hc335 : w333.cell? ⟨g329, 1, none⟩ = some (.int .i64 a323) := blk_cellv (HS.out.at0) 1 rfl; have hc336 : w333.cell? ⟨g329, 2, none⟩ = some (.int .i64 a324) := blk_cellv (HS.out.at0) 2 rfl; have hc337 : w333.cell? ⟨g329, 3, none⟩ = some (.int .i64 a325) := blk_cellv (HS.out.at0) 3 rfl; have hc338 : w333.cell? ⟨g329, 4, none⟩ = some (.int .i64 a326) := blk_cellv (HS.out.at0) 4 rfl; have hc339 : w333.cell? ⟨g329, 5, none⟩ = some (.int .i64 a327) := blk_cellv (HS.out.at0) 5 rfl; have hc340 : w333.cell? ⟨g332, 0, none⟩ = some (.int .i64 0) := blk_cellv (HS.out.at1) 0 rfl; have hz341 : w333.frozen? ⟨g332, 0, none⟩ = false := blk_fz (HS.out.at1) 0; have hc342 : w333.cell? ⟨g332, 1, none⟩ = some (.int .i64 0) := blk_cellv (HS.out.at1) 1 rfl; have hz343 : w333.frozen? ⟨g332, 1, none⟩ = false := blk_fz (HS.out.at1) 1; have hc344 : w333.cell? ⟨g332, 2, none⟩ = some (.int .i64 0) := blk_cellv (HS.out.at1) 2 rfl; have hz345 : w333.frozen? ⟨g332, 2, none⟩ = false := blk_fz (HS.out.at1) 2; have hc346 : w333.cell? ⟨g332, 3, none⟩ = some (.int .i64 0) := blk_cellv (HS.out.at1) 3 rfl; have hz347 : w333.frozen? ⟨g332, 3, none⟩ = false := blk_fz (HS.out.at1) 3; have hc348 : w333.cell? ⟨g332, 4, none⟩ = some (.int .i64 0) := blk_cellv (HS.out.at1) 4 rfl; have hz349 : w333.frozen? ⟨g332, 4, none⟩ = false := blk_fz (HS.out.at1) 4) | ((with_reducible refine gate_store (t := 174) (p := 2) rfl ?_); refine store_event (w1 := (World.setCell (World.setCell (World.setCell (World.setCell (World.setCell w333 ⟨g332, 0, none⟩ (.int .i64 a323)) ⟨g332, 1, none⟩ (.int .i64 a324)) ⟨g332, 2, none⟩ (.int .i64 a325)) ⟨g332, 3, none⟩ (.int .i64 a326)) ⟨g332, 4, none⟩ (.int .i64 a327))) rfl (t := 174) (p := 2) rfl rfl ?hr ?_; (case hr => first | (go_simp; done) | (go_simp; rfl)); intro w350 hst; clear hc335 hc336 hc337 hc338 hc339 hc340 hz341 hc342 hz343 hc344 hz345 hc346 hz347 hc348 hz349; replace HS : Aside0 (Sep (fps []) w [b3 g329 a322 a323 a324 a325 a326 a327 a328, b5 g332 a323 a324 a325 a326 a327] w350) := ⟨by rw [hst]; exact HS.out.setAll (l1 := [b3 g329 a322 a323 a324 a325 a326 a327 a328]) (l2 := []) [.int .i64 a323, .int .i64 a324, .int .i64 a325, .int .i64 a326, .int .i64 a327] rfl⟩; clear hst; replace HS : Aside0 (Sep (fps []) w [b5 g332 a323 a324 a325 a326 a327] w350) := ⟨HS.out.sub (.cons _ (.cons_cons _ .slnil))⟩))
  have hc351 : w350.cell? ⟨g332, 0, none⟩ = some (.int .i64 a323) := blk_cellv (HS.out.at0) 0 rfl
  have hc352 : w350.cell? ⟨g332, 1, none⟩ = some (.int .i64 a324) := blk_cellv (HS.out.at0) 1 rfl
  have hc353 : w350.cell? ⟨g332, 2, none⟩ = some (.int .i64 a325) := blk_cellv (HS.out.at0) 2 rfl
  have hc354 : w350.cell? ⟨g332, 3, none⟩ = some (.int .i64 a326) := blk_cellv (HS.out.at0) 3 rfl
  have hc355 : w350.cell? ⟨g332, 4, none⟩ = some (.int .i64 a327) := blk_cellv (HS.out.at0) 4 rfl
  refine bodyPost_ret (v := .agg #[.int .i64 a323, .int .i64 a324, .int .i64 a325, .int .i64 a326, .int .i64 a327]) (by simp [results, Tryz.results154, go_sem, hc351, hc352, hc353, hc354, hc355]) rfl ?_
  rw [← some_eq H]
  exact ⟨(by first | rfl | (simp [IntKind.wrap_u32]; done)), HS.out.sub (.cons _ .slnil)⟩

set_option maxHeartbeats 30000000 in
set_option maxRecDepth 100000 in
theorem tag_Right.calls (k : Nat) (a305 : Int) (a306 : Int) (a307 : Int) (a308 : Int) (a309 : Int) (a310 : Int) (a311 : Int) (r : Bool) (w : World)  (HGl0 : Aside0 (Gl 0 #[.int .i64 0, .int .i64 0, .int .i64 0, .int .i64 0, .int .i64 0] (fps []) w)) (HS : Aside0 (Sep (fps []) w [] w)) (H : Aside0 (tag_Right.f k a305 a306 a307 a308 a309 a310 a311 = some r)) :
    Calls Tryz.prog 153 #[.agg #[.int .i64 a305, .int .i64 a306, .int .i64 a307, .int .i64 a308, .int .i64 a309, .int .i64 a310, .int .i64 a311]] w fun e w' => e = .returned (.bool r) ∧ Sep (fps []) w [] w' := by
  unfold tag_Right.f at H
  go_enter Tryz.func153, Tryz.ntmps153
  go_wp2_with (first | ((with_reducible refine gate_dst (N := 1) rfl ?_); refine box_on ?hg (N := 1) ?hd (cs := #[.int .i64 a305, .int .i64 a306, .int .i64 a307, .int .i64 a308, .int .i64 a309, .int .i64 a310, .int .i64 a311]) (t := 79) ?hr ?_; (case hd => rfl); (case hg => rfl); (case hr => first | (go_simp; done) | (go_simp; rfl)); intro g312 hg w313 hbox hb; replace HS : Aside0 (Sep (fps []) w [b3 g312 a305 a306 a307 a308 a309 a310 a311] w313) := ⟨HS.out.box hg hbox hb⟩; clear hg hbox hb; have hc315 : w313.cell? ⟨g312, 0, none⟩ = some (.int .i64 a305) := blk_cellv (HS.out.at0) 0 rfl; have hc316 : w313.cell? ⟨g312, 1, none⟩ = some (.int .i64 a306) := blk_cellv (HS.out.at0) 1 rfl; have hc317 : w313.cell? ⟨g312, 2, none⟩ = some (.int .i64 a307) := blk_cellv (HS.out.at0) 2 rfl; have hc318 : w313.cell? ⟨g312, 3, none⟩ = some (.int .i64 a308) := blk_cellv (HS.out.at0) 3 rfl; have hc319 : w313.cell? ⟨g312, 4, none⟩ = some (.int .i64 a309) := blk_cellv (HS.out.at0) 4 rfl; have hc320 : w313.cell? ⟨g312, 5, none⟩ = some (.int .i64 a310) := blk_cellv (HS.out.at0) 5 rfl; have hc321 : w313.cell? ⟨g312, 6, none⟩ = some (.int .i64 a311) := blk_cellv (HS.out.at0) 6 rfl))
  clear hc315 hc316 hc317 hc318 hc319 hc320 hc321
  obtain ⟨t356, HA357, H⟩ := bind_some H
  refine (tag_marks.calls a305 a306 a307 a308 a309 a310 a311 t356 _ ⟨HGl0.out.pass (l := []) HS.out⟩ ⟨Sep.start _⟩ HA357).mono ?_
  rintro e_ w358 ⟨rfl, hS⟩
  replace HS : Aside0 (Sep (fps []) w [b3 g312 a305 a306 a307 a308 a309 a310 a311] w358) := ⟨HS.out.call hS⟩
  clear hS
  go_wp2_with fail
  obtain ⟨o371, AL372, H⟩ := bind_some H
  go_loopg [7] k (fun kq v7 wc => ∃ (x375 : Int), v7 = .int .i64 x375 ∧ Aside0 (tag_Right.lo0 kq t356 x375 = some o371) ∧ Aside0 (Sep (fps []) w [b3 g312 a305 a306 a307 a308 a309 a310 a311] wc))
  case atStart => exact ⟨(0), (by first | rfl | (simp [IntKind.wrap_u32]; done)), AL372, ⟨HS.out⟩⟩
  case round =>
    clear AL372 HS
    obtain ⟨x375, rfl, AL372, HS⟩ := hrel
    obtain ⟨w373, rfl⟩ : ∃ x : World, x = wr := ⟨_, rfl⟩
    cases gk with
    | zero => exact absurd AL372.out (by simp [tag_Right.lo0])
    | succ k374 =>
      have AL0 := AL372.out
      rw [tag_Right.lo0] at AL0
      clear AL372
      have AL372 := Aside0.mk AL0
      clear AL0
      by_cases c376 : x375 < 5
      · have AL372 := if_yes c376 AL372
        have c376b0 : decide (x375 < 5) = true := decide_eq_true c376
        clear c376
        by_cases c377 : 0 ≤ x375
        · have AL372 := if_yes c377 AL372
          have c377b0 : decide (0 ≤ x375) = true := decide_eq_true c377
          have c377p : (0 ≤ x375) = True := eq_true c377
          clear c377
          have ip378 : (x375 < 5) = True := eq_true (of_decide_eq_true c376b0)
          have ix379 : ∀ w, (Instr.index 174 (.agg #[.int .i64 t356.1, .int .i64 t356.2.1, .int .i64 t356.2.2.1, .int .i64 t356.2.2.2.1, .int .i64 t356.2.2.2.2]) (.int .i64 x375)).run Tryz.prog w = .ok (.int .i64 (rd [t356.1, t356.2.1, t356.2.2.1, t356.2.2.2.1, t356.2.2.2.2] x375)) w := run_index_ints 174 3 5 .i64 .i64 [t356.1, t356.2.1, t356.2.2.1, t356.2.2.2.1, t356.2.2.2.2] x375 Tryz.underlying174 (fun _ => by kernel_rfl) (fun _ => by kernel_rfl) rfl (of_decide_eq_true c377b0) (of_decide_eq_true c376b0)
          by_cases c380 : (rd [t356.1, t356.2.1, t356.2.2.1, t356.2.2.2.1, t356.2.2.2.2] x375) = 0
          · have AL372 := if_yes c380 AL372
            have c380b0 : ((rd [t356.1, t356.2.1, t356.2.2.1, t356.2.2.2.1, t356.2.2.2.2] x375) == 0) = true := beq_iff_eq.mpr c380
            have c380b1 : ((rd [t356.1, t356.2.1, t356.2.2.1, t356.2.2.2.1, t356.2.2.2.2] x375) != 0) = false := bne_eq_false_iff_eq.mpr c380
            clear c380
            go_wp2_with fail
            go_roundg k374
            case measure => exact Nat.lt_succ_self _
            case rel => exact ⟨(wrap64 (x375 + 1)), (by first | rfl | (simp [IntKind.wrap_u32]; done)), Aside0.mk AL372.out, ⟨HS.out⟩⟩
          · have AL372 := if_no c380 AL372
            have c380b0 : ((rd [t356.1, t356.2.1, t356.2.2.1, t356.2.2.2.1, t356.2.2.2.2] x375) == 0) = false := beq_eq_false_iff_ne.mpr c380
            have c380b1 : ((rd [t356.1, t356.2.1, t356.2.2.1, t356.2.2.2.1, t356.2.2.2.2] x375) != 0) = true := bne_iff_ne.mpr c380
            clear c380
            by_cases c381 : (rd [t356.1, t356.2.1, t356.2.2.1, t356.2.2.2.1, t356.2.2.2.2] x375) = 1
            · have AL372 := if_yes c381 AL372
              have c381b0 : ((rd [t356.1, t356.2.1, t356.2.2.1, t356.2.2.2.1, t356.2.2.2.2] x375) == 1) = true := beq_iff_eq.mpr c381
              have c381b1 : ((rd [t356.1, t356.2.1, t356.2.2.1, t356.2.2.2.1, t356.2.2.2.2] x375) != 1) = false := bne_eq_false_iff_eq.mpr c381
              clear c381
              go_wp2_with fail
              go_roundg k374
              case measure => exact Nat.lt_succ_self _
              case rel => exact ⟨(wrap64 (x375 + 1)), (by first | rfl | (simp [IntKind.wrap_u32]; done)), Aside0.mk AL372.out, ⟨HS.out⟩⟩
            · have AL372 := if_no c381 AL372
              have c381b0 : ((rd [t356.1, t356.2.1, t356.2.2.1, t356.2.2.2.1, t356.2.2.2.2] x375) == 1) = false := beq_eq_false_iff_ne.mpr c381
              have c381b1 : ((rd [t356.1, t356.2.1, t356.2.2.1, t356.2.2.2.1, t356.2.2.2.2] x375) != 1) = true := bne_iff_ne.mpr c381
              clear c381
              go_wp2_with fail
              have ho := some_eq AL372
              subst ho
              have H := lp_ret H
              go_ret
              rw [← some_eq H]
              exact ⟨(by first | rfl | (simp [IntKind.wrap_u32]; done)), HS.out.sub (.cons _ .slnil)⟩
        · have AL372 := if_no c377 AL372
          have c377b0 : decide (0 ≤ x375) = false := decide_eq_false c377
          clear c377
          exact (none_no AL372).elim
      · have AL372 := if_no c376 AL372
        have c376b0 : decide (x375 < 5) = false := decide_eq_false c376
        clear c376
        have ho := some_eq AL372
        subst ho
        clear AL372
        have H := lp_out H
        by_cases c383 : a305 = 1
        · have H := if_yes c383 H
          have c383b0 : (a305 == 1) = true := beq_iff_eq.mpr c383
          have c383b1 : (a305 != 1) = false := bne_eq_false_iff_eq.mpr c383
          clear c383
          have hc382 : w373.cell? ⟨g312, 0, none⟩ = some (.int .i64 a305) := blk_cellv (HS.out.at0) 0 rfl
          have hc384 : w373.cell? ⟨g312, 6, none⟩ = some (.int .i64 a311) := blk_cellv (HS.out.at0) 6 rfl
          replace HS : Aside0 (Sep (fps []) w [] w373) := ⟨HS.out.sub (.cons _ .slnil)⟩
          go_wp2_with fail
          clear hc382 hc384
          go_ret
          rw [← some_eq H]
          exact ⟨(by first | rfl | (simp [IntKind.wrap_u32]; done)), HS.out⟩
        · have H := if_no c383 H
          have c383b0 : (a305 == 1) = false := beq_eq_false_iff_ne.mpr c383
          have c383b1 : (a305 != 1) = true := bne_iff_ne.mpr c383
          clear c383
          by_cases c385 : a305 = 2
          · have H := if_yes c385 H
            have c385b0 : (a305 == 2) = true := beq_iff_eq.mpr c385
            have c385b1 : (a305 != 2) = false := bne_eq_false_iff_eq.mpr c385
            clear c385
            have hc382 : w373.cell? ⟨g312, 0, none⟩ = some (.int .i64 a305) := blk_cellv (HS.out.at0) 0 rfl
            have hc386 : w373.cell? ⟨g312, 6, none⟩ = some (.int .i64 a311) := blk_cellv (HS.out.at0) 6 rfl
            replace HS : Aside0 (Sep (fps []) w [] w373) := ⟨HS.out.sub (.cons _ .slnil)⟩
            go_wp2_with fail
            clear hc382 hc386
            go_ret
            rw [← some_eq H]
            exact ⟨(by first | rfl | (simp [IntKind.wrap_u32]; done)), HS.out⟩
          · have H := if_no c385 H
            have c385b0 : (a305 == 2) = false := beq_eq_false_iff_ne.mpr c385
            have c385b1 : (a305 != 2) = true := bne_iff_ne.mpr c385
            clear c385
            by_cases c387 : a305 = 0
            · have H := if_yes c387 H
              have c387b0 : (a305 == 0) = true := beq_iff_eq.mpr c387
              have c387b1 : (a305 != 0) = false := bne_eq_false_iff_eq.mpr c387
              clear c387
              have hc382 : w373.cell? ⟨g312, 0, none⟩ = some (.int .i64 a305) := blk_cellv (HS.out.at0) 0 rfl
              go_wp2_with fail
              clear hc382
              refine start_ (n := 25) (S := (fun w' => w'.cell? ⟨g312, 0, none⟩ = some (.int .i64 a305) ∧ w'.cell? ⟨g312, 1, none⟩ = some (.int .i64 a306) ∧ w'.cell? ⟨g312, 2, none⟩ = some (.int .i64 a307) ∧ w'.cell? ⟨g312, 3, none⟩ = some (.int .i64 a308) ∧ w'.cell? ⟨g312, 4, none⟩ = some (.int .i64 a309) ∧ w'.cell? ⟨g312, 5, none⟩ = some (.int .i64 a310) ∧ w'.cell? ⟨g312, 6, none⟩ = some (.int .i64 a311) ∧ w'.cell? ⟨0, 0, none⟩ = some (.int .i64 0) ∧ w'.cell? ⟨0, 1, none⟩ = some (.int .i64 0) ∧ w'.cell? ⟨0, 2, none⟩ = some (.int .i64 0) ∧ w'.cell? ⟨0, 3, none⟩ = some (.int .i64 0) ∧ w'.cell? ⟨0, 4, none⟩ = some (.int .i64 0))) (ds := []) #[false, false, false, false, false, false, false, false, false, false, false, false, false, false, false, false, false, false, false, false, false, false, false, false, false] (by kernel_rfl) rfl rfl (⟨blk_cellv ((HS.out.drew).at0) 0 rfl, blk_cellv ((HS.out.drew).at0) 1 rfl, blk_cellv ((HS.out.drew).at0) 2 rfl, blk_cellv ((HS.out.drew).at0) 3 rfl, blk_cellv ((HS.out.drew).at0) 4 rfl, blk_cellv ((HS.out.drew).at0) 5 rfl, blk_cellv ((HS.out.drew).at0) 6 rfl, Gl.cell HGl0.out (HS.out.drew).fr 0 rfl, Gl.cell HGl0.out (HS.out.drew).fr 1 rfl, Gl.cell HGl0.out (HS.out.drew).fr 2 rfl, Gl.cell HGl0.out (HS.out.drew).fr 3 rfl, Gl.cell HGl0.out (HS.out.drew).fr 4 rfl⟩) (fun hHeld => ?_)
              have HS_ := Aside0.mk HS.out.drew
              clear HS
              generalize World.drew _ = w389 at HS_ hHeld ⊢
              have HS := HS_
              clear HS_
              refine take_ (i := 0) (N := some 28) (v := ?_) (a' := ?_) #[true, false, false, false, false, false, false, false, false, false, false, false, false, false, false, false, false, false, false, false, false, false, false, false, false] rfl rfl (by kernel_rfl) (fun _ _ _ h => h) (Or.inl ⟨by rfl, ?_⟩) hHeld ?_ ?_
              rotate_left
              · rintro w' hS'
                obtain ⟨s0, s1, s2, s3, s4, s5, s6, s7, s8, s9, s10, s11⟩ := hS'
                go_simp
                with_reducible rfl
              rotate_left
              · simp only [Act.put, List.setIfInBounds_toArray, List.set_cons_zero, List.set_cons_succ, i64_w, i32_w]
                rfl
              refine take_ (i := 2) (N := some 30) (v := ?_) (a' := ?_) #[true, false, true, false, false, false, false, false, false, false, false, false, false, false, false, false, false, false, false, false, false, false, false, false, false] rfl rfl (by kernel_rfl) (fun _ _ _ h => h) (Or.inl ⟨by rfl, ?_⟩) hHeld ?_ ?_
              rotate_left
              · rintro w' hS'
                obtain ⟨s0, s1, s2, s3, s4, s5, s6, s7, s8, s9, s10, s11⟩ := hS'
                go_simp
                with_reducible rfl
              rotate_left
              · simp only [Act.put, List.setIfInBounds_toArray, List.set_cons_zero, List.set_cons_succ, i64_w, i32_w]
                rfl
              refine one_ (i := 1) (N := some 29) #[true, true, true, false, false, false, false, false, false, false, false, false, false, false, false, false, false, false, false, false, false, false, false, false, false] rfl rfl (by kernel_rfl) (by decide) (fun K hK => ?_)
              obtain ⟨t390, HA391, H⟩ := bind_some H
              refine goes_ Tryz.func154 (by kernel_rfl) rfl #[.agg #[.int .i64 a305, .int .i64 a306, .int .i64 a307, .int .i64 a308, .int .i64 a309, .int .i64 a310, .int .i64 a311]] (by rfl) rfl rfl (by (try simp only [List.map_toArray, List.map_cons, List.map_nil]); first | done | rfl) ?_
              refine (tag_marks.calls a305 a306 a307 a308 a309 a310 a311 t390 _ ⟨HGl0.out.pass (l := []) HS.out⟩ ⟨Sep.start _⟩ HA391).mono ?_
              rintro e_ w392 ⟨rfl, hS⟩
              replace HS : Aside0 (Sep (fps []) w [b3 g312 a305 a306 a307 a308 a309 a310 a311] w392) := ⟨HS.out.call hS⟩
              clear hS
              refine ⟨_, rfl, ?_⟩
              refine hK.out _ _ (⟨blk_cellv (HS.out.at0) 0 rfl, blk_cellv (HS.out.at0) 1 rfl, blk_cellv (HS.out.at0) 2 rfl, blk_cellv (HS.out.at0) 3 rfl, blk_cellv (HS.out.at0) 4 rfl, blk_cellv (HS.out.at0) 5 rfl, blk_cellv (HS.out.at0) 6 rfl, Gl.cell HGl0.out HS.out.fr 0 rfl, Gl.cell HGl0.out HS.out.fr 1 rfl, Gl.cell HGl0.out HS.out.fr 2 rfl, Gl.cell HGl0.out HS.out.fr 3 rfl, Gl.cell HGl0.out HS.out.fr 4 rfl⟩) (fun hHeld => ?_)
              clear hK K
              refine norm_ (a' := ?_) ?_ ?_
              rotate_left
              · show Act.put _ (some 29) _ = _
                simp only [Act.put, List.setIfInBounds_toArray, List.set_cons_zero, List.set_cons_succ, i64_w, i32_w]
                rfl
              obtain ⟨b394, HA395, H⟩ := bind_some H
              have eb393 : ∀ w, (Op.equalIn 10000 174 (.agg #[.int .i64 t390.1, .int .i64 t390.2.1, .int .i64 t390.2.2.1, .int .i64 t390.2.2.2.1, .int .i64 t390.2.2.2.2]) (.agg #[.int .i64 0, .int .i64 0, .int .i64 0, .int .i64 0, .int .i64 0])).run Tryz.prog w = .ok b394 w := some_eq HA395 ▸ run_eq_ints 9998 174 3 5 .i64 [t390.1, t390.2.1, t390.2.2.1, t390.2.2.2.1, t390.2.2.2.2] [0, 0, 0, 0, 0] Tryz.underlying174 (by kernel_rfl) (by kernel_rfl) Tryz.underlying3 (fun _ => by kernel_rfl) rfl rfl
              refine pure_ (i := 3) (N := some 31) (v := ?_) (a' := ?_) #[true, true, true, true, false, false, false, false, false, false, false, false, false, false, false, false, false, false, false, false, false, false, false, false, false] rfl rfl (by kernel_rfl) (fun _ _ _ h => h) (Or.inl ⟨by rfl, ?_⟩) ?_ ?_
              rotate_left
              · intro w'
                go_simp
                with_reducible rfl
              rotate_left
              · simp only [Act.put, List.setIfInBounds_toArray, List.set_cons_zero, List.set_cons_succ, i64_w, i32_w]
                rfl
              refine pure_ (i := 4) (N := some 32) (v := ?_) (a' := ?_) #[true, true, true, true, true, false, false, false, false, false, false, false, false, false, false, false, false, false, false, false, false, false, false, false, false] rfl rfl (by kernel_rfl) (fun _ _ _ h => h) (Or.inl ⟨by rfl, ?_⟩) ?_ ?_
              rotate_left
              · intro w'
                go_simp
                with_reducible rfl
              rotate_left
              · simp only [Act.put, List.setIfInBounds_toArray, List.set_cons_zero, List.set_cons_succ, i64_w, i32_w]
                rfl
              by_cases c396 : b394 = true
              · have H := if_yes c396 H
                have c396b0 : b394 = true := c396
                have c396b1 : (!b394) = false := by rw [c396b0]; rfl
                clear c396
                try simp only [c396b0, Bool.not_true, Bool.not_false]
                refine pure_ (i := 5) (N := some 33) (v := ?_) (a' := ?_) #[true, true, true, true, true, true, false, false, false, false, false, false, false, false, false, false, false, false, false, false, false, false, false, false, false] rfl rfl (by kernel_rfl) (fun _ _ _ h => h) (Or.inl ⟨by rfl, ?_⟩) ?_ ?_
                rotate_left
                · intro w'
                  go_simp
                  with_reducible rfl
                rotate_left
                · simp only [Act.put, List.setIfInBounds_toArray, List.set_cons_zero, List.set_cons_succ, i64_w, i32_w]
                  rfl
                try simp only [c396b0, Bool.not_true, Bool.not_false]
                refine take_ (i := 6) (N := some 34) (v := ?_) (a' := ?_) #[true, true, true, true, true, true, true, false, false, false, false, false, false, false, false, false, false, false, false, false, false, false, false, false, false] rfl rfl (by kernel_rfl) (fun _ _ _ h => h) (Or.inl ⟨by rfl, ?_⟩) hHeld ?_ ?_
                rotate_left
                · rintro w' hS'
                  obtain ⟨s0, s1, s2, s3, s4, s5, s6, s7, s8, s9, s10, s11⟩ := hS'
                  go_simp
                  with_reducible rfl
                rotate_left
                · simp only [Act.put, List.setIfInBounds_toArray, List.set_cons_zero, List.set_cons_succ, i64_w, i32_w]
                  rfl
                try simp only [c396b0, Bool.not_true, Bool.not_false]
                refine pure_ (i := 7) (N := some 35) (v := ?_) (a' := ?_) #[true, true, true, true, true, true, true, true, false, false, false, false, false, false, false, false, false, false, false, false, false, false, false, false, false] rfl rfl (by kernel_rfl) (fun _ _ _ h => h) (Or.inl ⟨by rfl, ?_⟩) ?_ ?_
                rotate_left
                · intro w'
                  go_simp
                  with_reducible rfl
                rotate_left
                · simp only [Act.put, List.setIfInBounds_toArray, List.set_cons_zero, List.set_cons_succ, i64_w, i32_w]
                  rfl
                refine pure_ (i := 8) (N := some 36) (v := ?_) (a' := ?_) #[true, true, true, true, true, true, true, true, true, false, false, false, false, false, false, false, false, false, false, false, false, false, false, false, false] rfl rfl (by kernel_rfl) (fun _ _ _ h => h) (Or.inl ⟨by rfl, ?_⟩) ?_ ?_
                rotate_left
                · intro w'
                  go_simp
                  with_reducible rfl
                rotate_left
                · simp only [Act.put, List.setIfInBounds_toArray, List.set_cons_zero, List.set_cons_succ, i64_w, i32_w]
                  rfl
                refine pure_ (i := 9) (N := some 37) (v := ?_) (a' := ?_) #[true, true, true, true, true, true, true, true, true, true, false, false, false, false, false, false, false, false, false, false, false, false, false, false, false] rfl rfl (by kernel_rfl) (fun _ _ _ h => h) (Or.inl ⟨by rfl, ?_⟩) ?_ ?_
                rotate_left
                · intro w'
                  go_simp
                  with_reducible rfl
                rotate_left
                · simp only [Act.put, List.setIfInBounds_toArray, List.set_cons_zero, List.set_cons_succ, i64_w, i32_w]
                  rfl
                by_cases c397 : a311 ≥ 0
                · have H := if_yes c397 H
                  have c397b0 : decide (0 ≤ a311) = true := decide_eq_true c397
                  clear c397
                  try simp only [c397b0, Bool.not_true, Bool.not_false]
                  refine pure_ (i := 10) (N := some 38) (v := ?_) (a' := ?_) #[true, true, true, true, true, true, true, true, true, true, true, false, false, false, false, false, false, false, false, false, false, false, false, false, false] rfl rfl (by kernel_rfl) (fun _ _ _ h => h) (Or.inl ⟨by rfl, ?_⟩) ?_ ?_
                  rotate_left
                  · intro w'
                    go_simp
                    with_reducible rfl
                  rotate_left
                  · simp only [Act.put, List.setIfInBounds_toArray, List.set_cons_zero, List.set_cons_succ, i64_w, i32_w]
                    rfl
                  try simp only [c397b0, Bool.not_true, Bool.not_false]
                  refine take_ (i := 11) (N := some 39) (v := ?_) (a' := ?_) #[true, true, true, true, true, true, true, true, true, true, true, true, false, false, false, false, false, false, false, false, false, false, false, false, false] rfl rfl (by kernel_rfl) (fun _ _ _ h => h) (Or.inl ⟨by rfl, ?_⟩) hHeld ?_ ?_
                  rotate_left
                  · rintro w' hS'
                    obtain ⟨s0, s1, s2, s3, s4, s5, s6, s7, s8, s9, s10, s11⟩ := hS'
                    go_simp
                    with_reducible rfl
                  rotate_left
                  · simp only [Act.put, List.setIfInBounds_toArray, List.set_cons_zero, List.set_cons_succ, i64_w, i32_w]
                    rfl
                  try simp only [c397b0, Bool.not_true, Bool.not_false]
                  refine pure_ (i := 12) (N := some 40) (v := ?_) (a' := ?_) #[true, true, true, true, true, true, true, true, true, true, true, true, true, false, false, false, false, false, false, false, false, false, false, false, false] rfl rfl (by kernel_rfl) (fun _ _ _ h => h) (Or.inl ⟨by rfl, ?_⟩) ?_ ?_
                  rotate_left
                  · intro w'
                    go_simp
                    with_reducible rfl
                  rotate_left
                  · simp only [Act.put, List.setIfInBounds_toArray, List.set_cons_zero, List.set_cons_succ, i64_w, i32_w]
                    rfl
                  refine pure_ (i := 13) (N := some 41) (v := ?_) (a' := ?_) #[true, true, true, true, true, true, true, true, true, true, true, true, true, true, false, false, false, false, false, false, false, false, false, false, false] rfl rfl (by kernel_rfl) (fun _ _ _ h => h) (Or.inl ⟨by rfl, ?_⟩) ?_ ?_
                  rotate_left
                  · intro w'
                    go_simp
                    with_reducible rfl
                  rotate_left
                  · simp only [Act.put, List.setIfInBounds_toArray, List.set_cons_zero, List.set_cons_succ, i64_w, i32_w]
                    rfl
                  refine pure_ (i := 14) (N := some 42) (v := ?_) (a' := ?_) #[true, true, true, true, true, true, true, true, true, true, true, true, true, true, true, false, false, false, false, false, false, false, false, false, false] rfl rfl (by kernel_rfl) (fun _ _ _ h => h) (Or.inl ⟨by rfl, ?_⟩) ?_ ?_
                  rotate_left
                  · intro w'
                    go_simp
                    with_reducible rfl
                  rotate_left
                  · simp only [Act.put, List.setIfInBounds_toArray, List.set_cons_zero, List.set_cons_succ, i64_w, i32_w]
                    rfl
                  by_cases c398 : a311 < 1048576
                  · have H := if_yes c398 H
                    have c398b0 : decide (a311 < 1048576) = true := decide_eq_true c398
                    clear c398
                    try simp only [c398b0, Bool.not_true, Bool.not_false]
                    refine pure_ (i := 15) (N := some 43) (v := ?_) (a' := ?_) #[true, true, true, true, true, true, true, true, true, true, true, true, true, true, true, true, false, false, false, false, false, false, false, false, false] rfl rfl (by kernel_rfl) (fun _ _ _ h => h) (Or.inl ⟨by rfl, ?_⟩) ?_ ?_
                    rotate_left
                    · intro w'
                      go_simp
                      with_reducible rfl
                    rotate_left
                    · simp only [Act.put, List.setIfInBounds_toArray, List.set_cons_zero, List.set_cons_succ, i64_w, i32_w]
                      rfl
                    try simp only [c398b0, Bool.not_true, Bool.not_false]
                    refine take_ (i := 16) (N := some 44) (v := ?_) (a' := ?_) #[true, true, true, true, true, true, true, true, true, true, true, true, true, true, true, true, true, false, false, false, false, false, false, false, false] rfl rfl (by kernel_rfl) (fun _ _ _ h => h) (Or.inl ⟨by rfl, ?_⟩) hHeld ?_ ?_
                    rotate_left
                    · rintro w' hS'
                      obtain ⟨s0, s1, s2, s3, s4, s5, s6, s7, s8, s9, s10, s11⟩ := hS'
                      go_simp
                      with_reducible rfl
                    rotate_left
                    · simp only [Act.put, List.setIfInBounds_toArray, List.set_cons_zero, List.set_cons_succ, i64_w, i32_w]
                      rfl
                    try simp only [c398b0, Bool.not_true, Bool.not_false]
                    refine pure_ (i := 17) (N := some 45) (v := ?_) (a' := ?_) #[true, true, true, true, true, true, true, true, true, true, true, true, true, true, true, true, true, true, false, false, false, false, false, false, false] rfl rfl (by kernel_rfl) (fun _ _ _ h => h) (Or.inl ⟨by rfl, ?_⟩) ?_ ?_
                    rotate_left
                    · intro w'
                      go_simp
                      with_reducible rfl
                    rotate_left
                    · simp only [Act.put, List.setIfInBounds_toArray, List.set_cons_zero, List.set_cons_succ, i64_w, i32_w]
                      rfl
                    try simp only [c398b0, Bool.not_true, Bool.not_false]
                    refine pure_ (i := 18) (N := some 46) (v := ?_) (a' := ?_) #[true, true, true, true, true, true, true, true, true, true, true, true, true, true, true, true, true, true, true, false, false, false, false, false, false] rfl rfl (by kernel_rfl) (fun _ _ _ h => h) (Or.inl ⟨by rfl, ?_⟩) ?_ ?_
                    rotate_left
                    · intro w'
                      go_simp
                      with_reducible rfl
                    rotate_left
                    · simp only [Act.put, List.setIfInBounds_toArray, List.set_cons_zero, List.set_cons_succ, i64_w, i32_w]
                      rfl
                    by_cases c399 : a305 = 3
                    · have H := if_yes c399 H
                      have c399b0 : (a305 == 3) = true := beq_iff_eq.mpr c399
                      have c399b1 : (a305 != 3) = false := bne_eq_false_iff_eq.mpr c399
                      clear c399
                      try simp only [c399b0, Bool.not_true, Bool.not_false]
                      refine pure_ (i := 19) (N := some 47) (v := undef) (a' := ?_) #[true, true, true, true, true, true, true, true, true, true, true, true, true, true, true, true, true, true, true, true, false, false, false, false, false] rfl rfl (by kernel_rfl) (fun _ _ _ h => h) (Or.inr ⟨by rfl, rfl⟩) ?_ ?_
                      rotate_left
                      · simp only [Act.put, List.setIfInBounds_toArray, List.set_cons_zero, List.set_cons_succ, i64_w, i32_w]
                        rfl
                      try simp only [c399b0, Bool.not_true, Bool.not_false]
                      refine pure_ (i := 20) (N := some 48) (v := undef) (a' := ?_) #[true, true, true, true, true, true, true, true, true, true, true, true, true, true, true, true, true, true, true, true, true, false, false, false, false] rfl rfl (by kernel_rfl) (fun _ _ _ h => h) (Or.inr ⟨by rfl, rfl⟩) ?_ ?_
                      rotate_left
                      · simp only [Act.put, List.setIfInBounds_toArray, List.set_cons_zero, List.set_cons_succ, i64_w, i32_w]
                        rfl
                      try simp only [c399b0, Bool.not_true, Bool.not_false]
                      refine pure_ (i := 21) (N := some 49) (v := undef) (a' := ?_) #[true, true, true, true, true, true, true, true, true, true, true, true, true, true, true, true, true, true, true, true, true, true, false, false, false] rfl rfl (by kernel_rfl) (fun _ _ _ h => h) (Or.inr ⟨by rfl, rfl⟩) ?_ ?_
                      rotate_left
                      · simp only [Act.put, List.setIfInBounds_toArray, List.set_cons_zero, List.set_cons_succ, i64_w, i32_w]
                        rfl
                      try simp only [c398b0, Bool.not_true, Bool.not_false]
                      refine pure_ (i := 22) (N := some 50) (v := ?_) (a' := ?_) #[true, true, true, true, true, true, true, true, true, true, true, true, true, true, true, true, true, true, true, true, true, true, true, false, false] rfl rfl (by kernel_rfl) (fun _ _ _ h => h) (Or.inl ⟨by rfl, ?_⟩) ?_ ?_
                      rotate_left
                      · intro w'
                        go_simp
                        with_reducible rfl
                      rotate_left
                      · simp only [Act.put, List.setIfInBounds_toArray, List.set_cons_zero, List.set_cons_succ, i64_w, i32_w]
                        rfl
                      refine pure_ (i := 23) (N := some 51) (v := ?_) (a' := ?_) #[true, true, true, true, true, true, true, true, true, true, true, true, true, true, true, true, true, true, true, true, true, true, true, true, false] rfl rfl (by kernel_rfl) (fun _ _ _ h => h) (Or.inl ⟨by rfl, ?_⟩) ?_ ?_
                      rotate_left
                      · intro w'
                        go_simp
                        with_reducible rfl
                      rotate_left
                      · simp only [Act.put, List.setIfInBounds_toArray, List.set_cons_zero, List.set_cons_succ, i64_w, i32_w]
                        rfl
                      refine pure_ (i := 24) (N := some 2) (v := ?_) (a' := ?_) #[true, true, true, true, true, true, true, true, true, true, true, true, true, true, true, true, true, true, true, true, true, true, true, true, true] rfl rfl (by kernel_rfl) (fun _ _ _ h => h) (Or.inl ⟨by rfl, ?_⟩) ?_ ?_
                      rotate_left
                      · intro w'
                        go_simp
                        with_reducible rfl
                      rotate_left
                      · simp only [Act.put, List.setIfInBounds_toArray, List.set_cons_zero, List.set_cons_succ, i64_w, i32_w]
                        rfl
                      refine done_ (by kernel_rfl) ?_
                      replace HS : Aside0 (Sep (fps []) w [] w392) := ⟨HS.out.sub (.cons _ .slnil)⟩
                      go_wp2_with fail
                      go_ret
                      rw [← some_eq H]
                      exact ⟨(by first | rfl | (simp [IntKind.wrap_u32]; done)), HS.out⟩
                    · have H := if_no c399 H
                      have c399b0 : (a305 == 3) = false := beq_eq_false_iff_ne.mpr c399
                      have c399b1 : (a305 != 3) = true := bne_iff_ne.mpr c399
                      clear c399
                      try simp only [c399b0, Bool.not_true, Bool.not_false]
                      refine pure_ (i := 19) (N := some 47) (v := ?_) (a' := ?_) #[true, true, true, true, true, true, true, true, true, true, true, true, true, true, true, true, true, true, true, true, false, false, false, false, false] rfl rfl (by kernel_rfl) (fun _ _ _ h => h) (Or.inl ⟨by rfl, ?_⟩) ?_ ?_
                      rotate_left
                      · intro w'
                        go_simp
                        with_reducible rfl
                      rotate_left
                      · simp only [Act.put, List.setIfInBounds_toArray, List.set_cons_zero, List.set_cons_succ, i64_w, i32_w]
                        rfl
                      try simp only [c399b0, Bool.not_true, Bool.not_false]
                      refine take_ (i := 20) (N := some 48) (v := ?_) (a' := ?_) #[true, true, true, true, true, true, true, true, true, true, true, true, true, true, true, true, true, true, true, true, true, false, false, false, false] rfl rfl (by kernel_rfl) (fun _ _ _ h => h) (Or.inl ⟨by rfl, ?_⟩) hHeld ?_ ?_
                      rotate_left
                      · rintro w' hS'
                        obtain ⟨s0, s1, s2, s3, s4, s5, s6, s7, s8, s9, s10, s11⟩ := hS'
                        go_simp
                        with_reducible rfl
                      rotate_left
                      · simp only [Act.put, List.setIfInBounds_toArray, List.set_cons_zero, List.set_cons_succ, i64_w, i32_w]
                        rfl
                      try simp only [c399b0, Bool.not_true, Bool.not_false]
                      refine pure_ (i := 21) (N := some 49) (v := ?_) (a' := ?_) #[true, true, true, true, true, true, true, true, true, true, true, true, true, true, true, true, true, true, true, true, true, true, false, false, false] rfl rfl (by kernel_rfl) (fun _ _ _ h => h) (Or.inl ⟨by rfl, ?_⟩) ?_ ?_
                      rotate_left
                      · intro w'
                        go_simp
                        with_reducible rfl
                      rotate_left
                      · simp only [Act.put, List.setIfInBounds_toArray, List.set_cons_zero, List.set_cons_succ, i64_w, i32_w]
                        rfl
                      try simp only [c398b0, Bool.not_true, Bool.not_false]
                      refine pure_ (i := 22) (N := some 50) (v := ?_) (a' := ?_) #[true, true, true, true, true, true, true, true, true, true, true, true, true, true, true, true, true, true, true, true, true, true, true, false, false] rfl rfl (by kernel_rfl) (fun _ _ _ h => h) (Or.inl ⟨by rfl, ?_⟩) ?_ ?_
                      rotate_left
                      · intro w'
                        go_simp
                        with_reducible rfl
                      rotate_left
                      · simp only [Act.put, List.setIfInBounds_toArray, List.set_cons_zero, List.set_cons_succ, i64_w, i32_w]
                        rfl
                      refine pure_ (i := 23) (N := some 51) (v := ?_) (a' := ?_) #[true, true, true, true, true, true, true, true, true, true, true, true, true, true, true, true, true, true, true, true, true, true, true, true, false] rfl rfl (by kernel_rfl) (fun _ _ _ h => h) (Or.inl ⟨by rfl, ?_⟩) ?_ ?_
                      rotate_left
                      · intro w'
                        go_simp
                        with_reducible rfl
                      rotate_left
                      · simp only [Act.put, List.setIfInBounds_toArray, List.set_cons_zero, List.set_cons_succ, i64_w, i32_w]
                        rfl
                      refine pure_ (i := 24) (N := some 2) (v := ?_) (a' := ?_) #[true, true, true, true, true, true, true, true, true, true, true, true, true, true, true, true, true, true, true, true, true, true, true, true, true] rfl rfl (by kernel_rfl) (fun _ _ _ h => h) (Or.inl ⟨by rfl, ?_⟩) ?_ ?_
                      rotate_left
                      · intro w'
                        go_simp
                        with_reducible rfl
                      rotate_left
                      · simp only [Act.put, List.setIfInBounds_toArray, List.set_cons_zero, List.set_cons_succ, i64_w, i32_w]
                        rfl
                      refine done_ (by kernel_rfl) ?_
                      replace HS : Aside0 (Sep (fps []) w [] w392) := ⟨HS.out.sub (.cons _ .slnil)⟩
                      go_wp2_with fail
                      go_ret
                      rw [← some_eq H]
                      exact ⟨(by first | rfl | (simp [IntKind.wrap_u32]; done)), HS.out⟩
                  · have H := if_no c398 H
                    have c398b0 : decide (a311 < 1048576) = false := decide_eq_false c398
                    clear c398
                    try simp only [c398b0, Bool.not_true, Bool.not_false]
                    refine pure_ (i := 15) (N := some 43) (v := undef) (a' := ?_) #[true, true, true, true, true, true, true, true, true, true, true, true, true, true, true, true, false, false, false, false, false, false, false, false, false] rfl rfl (by kernel_rfl) (fun _ _ _ h => h) (Or.inr ⟨by rfl, rfl⟩) ?_ ?_
                    rotate_left
                    · simp only [Act.put, List.setIfInBounds_toArray, List.set_cons_zero, List.set_cons_succ, i64_w, i32_w]
                      rfl
                    try simp only [c398b0, Bool.not_true, Bool.not_false]
                    refine pure_ (i := 16) (N := some 44) (v := undef) (a' := ?_) #[true, true, true, true, true, true, true, true, true, true, true, true, true, true, true, true, true, false, false, false, false, false, false, false, false] rfl rfl (by kernel_rfl) (fun _ _ _ h => h) (Or.inr ⟨by rfl, rfl⟩) ?_ ?_
                    rotate_left
                    · simp only [Act.put, List.setIfInBounds_toArray, List.set_cons_zero, List.set_cons_succ, i64_w, i32_w]
                      rfl
                    try simp only [c398b0, Bool.not_true, Bool.not_false]
                    refine pure_ (i := 17) (N := some 45) (v := undef) (a' := ?_) #[true, true, true, true, true, true, true, true, true, true, true, true, true, true, true, true, true, true, false, false, false, false, false, false, false] rfl rfl (by kernel_rfl) (fun _ _ _ h => h) (Or.inr ⟨by rfl, rfl⟩) ?_ ?_
                    rotate_left
                    · simp only [Act.put, List.setIfInBounds_toArray, List.set_cons_zero, List.set_cons_succ, i64_w, i32_w]
                      rfl
                    try simp only [c398b0, Bool.not_true, Bool.not_false]
                    refine pure_ (i := 18) (N := some 46) (v := undef) (a' := ?_) #[true, true, true, true, true, true, true, true, true, true, true, true, true, true, true, true, true, true, true, false, false, false, false, false, false] rfl rfl (by kernel_rfl) (fun _ _ _ h => h) (Or.inr ⟨by rfl, rfl⟩) ?_ ?_
                    rotate_left
                    · simp only [Act.put, List.setIfInBounds_toArray, List.set_cons_zero, List.set_cons_succ, i64_w, i32_w]
                      rfl
                    refine pure_ (i := 19) (N := some 47) (v := undef) (a' := ?_) #[true, true, true, true, true, true, true, true, true, true, true, true, true, true, true, true, true, true, true, true, false, false, false, false, false] rfl rfl (by kernel_rfl) (fun _ _ _ h => h) (Or.inr ⟨by rfl, rfl⟩) ?_ ?_
                    rotate_left
                    · simp only [Act.put, List.setIfInBounds_toArray, List.set_cons_zero, List.set_cons_succ, i64_w, i32_w]
                      rfl
                    refine pure_ (i := 20) (N := some 48) (v := undef) (a' := ?_) #[true, true, true, true, true, true, true, true, true, true, true, true, true, true, true, true, true, true, true, true, true, false, false, false, false] rfl rfl (by kernel_rfl) (fun _ _ _ h => h) (Or.inr ⟨by rfl, rfl⟩) ?_ ?_
                    rotate_left
                    · simp only [Act.put, List.setIfInBounds_toArray, List.set_cons_zero, List.set_cons_succ, i64_w, i32_w]
                      rfl
                    refine pure_ (i := 21) (N := some 49) (v := undef) (a' := ?_) #[true, true, true, true, true, true, true, true, true, true, true, true, true, true, true, true, true, true, true, true, true, true, false, false, false] rfl rfl (by kernel_rfl) (fun _ _ _ h => h) (Or.inr ⟨by rfl, rfl⟩) ?_ ?_
                    rotate_left
                    · simp only [Act.put, List.setIfInBounds_toArray, List.set_cons_zero, List.set_cons_succ, i64_w, i32_w]
                      rfl
                    try simp only [c398b0, Bool.not_true, Bool.not_false]
                    refine pure_ (i := 22) (N := some 50) (v := undef) (a' := ?_) #[true, true, true, true, true, true, true, true, true, true, true, true, true, true, true, true, true, true, true, true, true, true, true, false, false] rfl rfl (by kernel_rfl) (fun _ _ _ h => h) (Or.inr ⟨by rfl, rfl⟩) ?_ ?_
                    rotate_left
                    · simp only [Act.put, List.setIfInBounds_toArray, List.set_cons_zero, List.set_cons_succ, i64_w, i32_w]
                      rfl
                    refine pure_ (i := 23) (N := some 51) (v := ?_) (a' := ?_) #[true, true, true, true, true, true, true, true, true, true, true, true, true, true, true, true, true, true, true, true, true, true, true, true, false] rfl rfl (by kernel_rfl) (fun _ _ _ h => h) (Or.inl ⟨by rfl, ?_⟩) ?_ ?_
                    rotate_left
                    · intro w'
                      go_simp
                      with_reducible rfl
                    rotate_left
                    · simp only [Act.put, List.setIfInBounds_toArray, List.set_cons_zero, List.set_cons_succ, i64_w, i32_w]
                      rfl
                    refine pure_ (i := 24) (N := some 2) (v := ?_) (a' := ?_) #[true, true, true, true, true, true, true, true, true, true, true, true, true, true, true, true, true, true, true, true, true, true, true, true, true] rfl rfl (by kernel_rfl) (fun _ _ _ h => h) (Or.inl ⟨by rfl, ?_⟩) ?_ ?_
                    rotate_left
                    · intro w'
                      go_simp
                      with_reducible rfl
                    rotate_left
                    · simp only [Act.put, List.setIfInBounds_toArray, List.set_cons_zero, List.set_cons_succ, i64_w, i32_w]
                      rfl
                    refine done_ (by kernel_rfl) ?_
                    replace HS : Aside0 (Sep (fps []) w [] w392) := ⟨HS.out.sub (.cons _ .slnil)⟩
                    go_wp2_with fail
                    go_ret
                    rw [← some_eq H]
                    exact ⟨(by first | rfl | (simp [IntKind.wrap_u32]; done)), HS.out⟩
                · have H := if_no c397 H
                  have c397b0 : decide (0 ≤ a311) = false := decide_eq_false c397
                  clear c397
                  try simp only [c397b0, Bool.not_true, Bool.not_false]
                  refine pure_ (i := 10) (N := some 38) (v := undef) (a' := ?_) #[true, true, true, true, true, true, true, true, true, true, true, false, false, false, false, false, false, false, false, false, false, false, false, false, false] rfl rfl (by kernel_rfl) (fun _ _ _ h => h) (Or.inr ⟨by rfl, rfl⟩) ?_ ?_
                  rotate_left
                  · simp only [Act.put, List.setIfInBounds_toArray, List.set_cons_zero, List.set_cons_succ, i64_w, i32_w]
                    rfl
                  try simp only [c397b0, Bool.not_true, Bool.not_false]
                  refine pure_ (i := 11) (N := some 39) (v := undef) (a' := ?_) #[true, true, true, true, true, true, true, true, true, true, true, true, false, false, false, false, false, false, false, false, false, false, false, false, false] rfl rfl (by kernel_rfl) (fun _ _ _ h => h) (Or.inr ⟨by rfl, rfl⟩) ?_ ?_
                  rotate_left
                  · simp only [Act.put, List.setIfInBounds_toArray, List.set_cons_zero, List.set_cons_succ, i64_w, i32_w]
                    rfl
                  try simp only [c397b0, Bool.not_true, Bool.not_false]
                  refine pure_ (i := 12) (N := some 40) (v := undef) (a' := ?_) #[true, true, true, true, true, true, true, true, true, true, true, true, true, false, false, false, false, false, false, false, false, false, false, false, false] rfl rfl (by kernel_rfl) (fun _ _ _ h => h) (Or.inr ⟨by rfl, rfl⟩) ?_ ?_
                  rotate_left
                  · simp only [Act.put, List.setIfInBounds_toArray, List.set_cons_zero, List.set_cons_succ, i64_w, i32_w]
                    rfl
                  refine pure_ (i := 13) (N := some 41) (v := ?_) (a' := ?_) #[true, true, true, true, true, true, true, true, true, true, true, true, true, true, false, false, false, false, false, false, false, false, false, false, false] rfl rfl (by kernel_rfl) (fun _ _ _ h => h) (Or.inl ⟨by rfl, ?_⟩) ?_ ?_
                  rotate_left
                  · intro w'
                    go_simp
                    with_reducible rfl
                  rotate_left
                  · simp only [Act.put, List.setIfInBounds_toArray, List.set_cons_zero, List.set_cons_succ, i64_w, i32_w]
                    rfl
                  refine pure_ (i := 14) (N := some 42) (v := ?_) (a' := ?_) #[true, true, true, true, true, true, true, true, true, true, true, true, true, true, true, false, false, false, false, false, false, false, false, false, false] rfl rfl (by kernel_rfl) (fun _ _ _ h => h) (Or.inl ⟨by rfl, ?_⟩) ?_ ?_
                  rotate_left
                  · intro w'
                    go_simp
                    with_reducible rfl
                  rotate_left
                  · simp only [Act.put, List.setIfInBounds_toArray, List.set_cons_zero, List.set_cons_succ, i64_w, i32_w]
                    rfl
                  refine pure_ (i := 15) (N := some 43) (v := undef) (a' := ?_) #[true, true, true, true, true, true, true, true, true, true, true, true, true, true, true, true, false, false, false, false, false, false, false, false, false] rfl rfl (by kernel_rfl) (fun _ _ _ h => h) (Or.inr ⟨by rfl, rfl⟩) ?_ ?_
                  rotate_left
                  · simp only [Act.put, List.setIfInBounds_toArray, List.set_cons_zero, List.set_cons_succ, i64_w, i32_w]
                    rfl
                  refine pure_ (i := 16) (N := some 44) (v := undef) (a' := ?_) #[true, true, true, true, true, true, true, true, true, true, true, true, true, true, true, true, true, false, false, false, false, false, false, false, false] rfl rfl (by kernel_rfl) (fun _ _ _ h => h) (Or.inr ⟨by rfl, rfl⟩) ?_ ?_
                  rotate_left
                  · simp only [Act.put, List.setIfInBounds_toArray, List.set_cons_zero, List.set_cons_succ, i64_w, i32_w]
                    rfl
                  refine pure_ (i := 17) (N := some 45) (v := undef) (a' := ?_) #[true, true, true, true, true, true, true, true, true, true, true, true, true, true, true, true, true, true, false, false, false, false, false, false, false] rfl rfl (by kernel_rfl) (fun _ _ _ h => h) (Or.inr ⟨by rfl, rfl⟩) ?_ ?_
                  rotate_left
                  · simp only [Act.put, List.setIfInBounds_toArray, List.set_cons_zero, List.set_cons_succ, i64_w, i32_w]
                    rfl
                  refine pure_ (i := 18) (N := some 46) (v := undef) (a' := ?_) #[true, true, true, true, true, true, true, true, true, true, true, true, true, true, true, true, true, true, true, false, false, false, false, false, false] rfl rfl (by kernel_rfl) (fun _ _ _ h => h) (Or.inr ⟨by rfl, rfl⟩) ?_ ?_
                  rotate_left
                  · simp only [Act.put, List.setIfInBounds_toArray, List.set_cons_zero, List.set_cons_succ, i64_w, i32_w]
                    rfl
                  refine pure_ (i := 19) (N := some 47) (v := undef) (a' := ?_) #[true, true, true, true, true, true, true, true, true, true, true, true, true, true, true, true, true, true, true, true, false, false, false, false, false] rfl rfl (by kernel_rfl) (fun _ _ _ h => h) (Or.inr ⟨by rfl, rfl⟩) ?_ ?_
                  rotate_left
                  · simp only [Act.put, List.setIfInBounds_toArray, List.set_cons_zero, List.set_cons_succ, i64_w, i32_w]
                    rfl
                  refine pure_ (i := 20) (N := some 48) (v := undef) (a' := ?_) #[true, true, true, true, true, true, true, true, true, true, true, true, true, true, true, true, true, true, true, true, true, false, false, false, false] rfl rfl (by kernel_rfl) (fun _ _ _ h => h) (Or.inr ⟨by rfl, rfl⟩) ?_ ?_
                  rotate_left
                  · simp only [Act.put, List.setIfInBounds_toArray, List.set_cons_zero, List.set_cons_succ, i64_w, i32_w]
                    rfl
                  refine pure_ (i := 21) (N := some 49) (v := undef) (a' := ?_) #[true, true, true, true, true, true, true, true, true, true, true, true, true, true, true, true, true, true, true, true, true, true, false, false, false] rfl rfl (by kernel_rfl) (fun _ _ _ h => h) (Or.inr ⟨by rfl, rfl⟩) ?_ ?_
                  rotate_left
                  · simp only [Act.put, List.setIfInBounds_toArray, List.set_cons_zero, List.set_cons_succ, i64_w, i32_w]
                    rfl
                  refine pure_ (i := 22) (N := some 50) (v := undef) (a' := ?_) #[true, true, true, true, true, true, true, true, true, true, true, true, true, true, true, true, true, true, true, true, true, true, true, false, false] rfl rfl (by kernel_rfl) (fun _ _ _ h => h) (Or.inr ⟨by rfl, rfl⟩) ?_ ?_
                  rotate_left
                  · simp only [Act.put, List.setIfInBounds_toArray, List.set_cons_zero, List.set_cons_succ, i64_w, i32_w]
                    rfl
                  refine pure_ (i := 23) (N := some 51) (v := ?_) (a' := ?_) #[true, true, true, true, true, true, true, true, true, true, true, true, true, true, true, true, true, true, true, true, true, true, true, true, false] rfl rfl (by kernel_rfl) (fun _ _ _ h => h) (Or.inl ⟨by rfl, ?_⟩) ?_ ?_
                  rotate_left
                  · intro w'
                    go_simp
                    with_reducible rfl
                  rotate_left
                  · simp only [Act.put, List.setIfInBounds_toArray, List.set_cons_zero, List.set_cons_succ, i64_w, i32_w]
                    rfl
                  refine pure_ (i := 24) (N := some 2) (v := ?_) (a' := ?_) #[true, true, true, true, true, true, true, true, true, true, true, true, true, true, true, true, true, true, true, true, true, true, true, true, true] rfl rfl (by kernel_rfl) (fun _ _ _ h => h) (Or.inl ⟨by rfl, ?_⟩) ?_ ?_
                  rotate_left
                  · intro w'
                    go_simp
                    with_reducible rfl
                  rotate_left
                  · simp only [Act.put, List.setIfInBounds_toArray, List.set_cons_zero, List.set_cons_succ, i64_w, i32_w]
                    rfl
                  refine done_ (by kernel_rfl) ?_
                  replace HS : Aside0 (Sep (fps []) w [] w392) := ⟨HS.out.sub (.cons _ .slnil)⟩
                  go_wp2_with fail
                  go_ret
                  rw [← some_eq H]
                  exact ⟨(by first | rfl | (simp [IntKind.wrap_u32]; done)), HS.out⟩
              · have H := if_no c396 H
                have c396b0 : b394 = false := by simpa using c396
                have c396b1 : (!b394) = true := by rw [c396b0]; rfl
                clear c396
                try simp only [c396b0, Bool.not_true, Bool.not_false]
                refine pure_ (i := 5) (N := some 33) (v := undef) (a' := ?_) #[true, true, true, true, true, true, false, false, false, false, false, false, false, false, false, false, false, false, false, false, false, false, false, false, false] rfl rfl (by kernel_rfl) (fun _ _ _ h => h) (Or.inr ⟨by rfl, rfl⟩) ?_ ?_
                rotate_left
                · simp only [Act.put, List.setIfInBounds_toArray, List.set_cons_zero, List.set_cons_succ, i64_w, i32_w]
                  rfl
                try simp only [c396b0, Bool.not_true, Bool.not_false]
                refine pure_ (i := 6) (N := some 34) (v := undef) (a' := ?_) #[true, true, true, true, true, true, true, false, false, false, false, false, false, false, false, false, false, false, false, false, false, false, false, false, false] rfl rfl (by kernel_rfl) (fun _ _ _ h => h) (Or.inr ⟨by rfl, rfl⟩) ?_ ?_
                rotate_left
                · simp only [Act.put, List.setIfInBounds_toArray, List.set_cons_zero, List.set_cons_succ, i64_w, i32_w]
                  rfl
                try simp only [c396b0, Bool.not_true, Bool.not_false]
                refine pure_ (i := 7) (N := some 35) (v := undef) (a' := ?_) #[true, true, true, true, true, true, true, true, false, false, false, false, false, false, false, false, false, false, false, false, false, false, false, false, false] rfl rfl (by kernel_rfl) (fun _ _ _ h => h) (Or.inr ⟨by rfl, rfl⟩) ?_ ?_
                rotate_left
                · simp only [Act.put, List.setIfInBounds_toArray, List.set_cons_zero, List.set_cons_succ, i64_w, i32_w]
                  rfl
                refine pure_ (i := 8) (N := some 36) (v := ?_) (a' := ?_) #[true, true, true, true, true, true, true, true, true, false, false, false, false, false, false, false, false, false, false, false, false, false, false, false, false] rfl rfl (by kernel_rfl) (fun _ _ _ h => h) (Or.inl ⟨by rfl, ?_⟩) ?_ ?_
                rotate_left
                · intro w'
                  go_simp
                  with_reducible rfl
                rotate_left
                · simp only [Act.put, List.setIfInBounds_toArray, List.set_cons_zero, List.set_cons_succ, i64_w, i32_w]
                  rfl
                refine pure_ (i := 9) (N := some 37) (v := ?_) (a' := ?_) #[true, true, true, true, true, true, true, true, true, true, false, false, false, false, false, false, false, false, false, false, false, false, false, false, false] rfl rfl (by kernel_rfl) (fun _ _ _ h => h) (Or.inl ⟨by rfl, ?_⟩) ?_ ?_
                rotate_left
                · intro w'
                  go_simp
                  with_reducible rfl
                rotate_left
                · simp only [Act.put, List.setIfInBounds_toArray, List.set_cons_zero, List.set_cons_succ, i64_w, i32_w]
                  rfl
                refine pure_ (i := 10) (N := some 38) (v := undef) (a' := ?_) #[true, true, true, true, true, true, true, true, true, true, true, false, false, false, false, false, false, false, false, false, false, false, false, false, false] rfl rfl (by kernel_rfl) (fun _ _ _ h => h) (Or.inr ⟨by rfl, rfl⟩) ?_ ?_
                rotate_left
                · simp only [Act.put, List.setIfInBounds_toArray, List.set_cons_zero, List.set_cons_succ, i64_w, i32_w]
                  rfl
                refine pure_ (i := 11) (N := some 39) (v := undef) (a' := ?_) #[true, true, true, true, true, true, true, true, true, true, true, true, false, false, false, false, false, false, false, false, false, false, false, false, false] rfl rfl (by kernel_rfl) (fun _ _ _ h => h) (Or.inr ⟨by rfl, rfl⟩) ?_ ?_
                rotate_left
                · simp only [Act.put, List.setIfInBounds_toArray, List.set_cons_zero, List.set_cons_succ, i64_w, i32_w]
                  rfl
                refine pure_ (i := 12) (N := some 40) (v := undef) (a' := ?_) #[true, true, true, true, true, true, true, true, true, true, true, true, true, false, false, false, false, false, false, false, false, false, false, false, false] rfl rfl (by kernel_rfl) (fun _ _ _ h => h) (Or.inr ⟨by rfl, rfl⟩) ?_ ?_
                rotate_left
                · simp only [Act.put, List.setIfInBounds_toArray, List.set_cons_zero, List.set_cons_succ, i64_w, i32_w]
                  rfl
                refine pure_ (i := 13) (N := some 41) (v := ?_) (a' := ?_) #[true, true, true, true, true, true, true, true, true, true, true, true, true, true, false, false, false, false, false, false, false, false, false, false, false] rfl rfl (by kernel_rfl) (fun _ _ _ h => h) (Or.inl ⟨by rfl, ?_⟩) ?_ ?_
                rotate_left
                · intro w'
                  go_simp
                  with_reducible rfl
                rotate_left
                · simp only [Act.put, List.setIfInBounds_toArray, List.set_cons_zero, List.set_cons_succ, i64_w, i32_w]
                  rfl
                refine pure_ (i := 14) (N := some 42) (v := ?_) (a' := ?_) #[true, true, true, true, true, true, true, true, true, true, true, true, true, true, true, false, false, false, false, false, false, false, false, false, false] rfl rfl (by kernel_rfl) (fun _ _ _ h => h) (Or.inl ⟨by rfl, ?_⟩) ?_ ?_
                rotate_left
                · intro w'
                  go_simp
                  with_reducible rfl
                rotate_left
                · simp only [Act.put, List.setIfInBounds_toArray, List.set_cons_zero, List.set_cons_succ, i64_w, i32_w]
                  rfl
                refine pure_ (i := 15) (N := some 43) (v := undef) (a' := ?_) #[true, true, true, true, true, true, true, true, true, true, true, true, true, true, true, true, false, false, false, false, false, false, false, false, false] rfl rfl (by kernel_rfl) (fun _ _ _ h => h) (Or.inr ⟨by rfl, rfl⟩) ?_ ?_
                rotate_left
                · simp only [Act.put, List.setIfInBounds_toArray, List.set_cons_zero, List.set_cons_succ, i64_w, i32_w]
                  rfl
                refine pure_ (i := 16) (N := some 44) (v := undef) (a' := ?_) #[true, true, true, true, true, true, true, true, true, true, true, true, true, true, true, true, true, false, false, false, false, false, false, false, false] rfl rfl (by kernel_rfl) (fun _ _ _ h => h) (Or.inr ⟨by rfl, rfl⟩) ?_ ?_
                rotate_left
                · simp only [Act.put, List.setIfInBounds_toArray, List.set_cons_zero, List.set_cons_succ, i64_w, i32_w]
                  rfl
                refine pure_ (i := 17) (N := some 45) (v := undef) (a' := ?_) #[true, true, true, true, true, true, true, true, true, true, true, true, true, true, true, true, true, true, false, false, false, false, false, false, false] rfl rfl (by kernel_rfl) (fun _ _ _ h => h) (Or.inr ⟨by rfl, rfl⟩) ?_ ?_
                rotate_left
                · simp only [Act.put, List.setIfInBounds_toArray, List.set_cons_zero, List.set_cons_succ, i64_w, i32_w]
                  rfl
                refine pure_ (i := 18) (N := some 46) (v := undef) (a' := ?_) #[true, true, true, true, true, true, true, true, true, true, true, true, true, true, true, true, true, true, true, false, false, false, false, false, false] rfl rfl (by kernel_rfl) (fun _ _ _ h => h) (Or.inr ⟨by rfl, rfl⟩) ?_ ?_
                rotate_left
                · simp only [Act.put, List.setIfInBounds_toArray, List.set_cons_zero, List.set_cons_succ, i64_w, i32_w]
                  rfl
                refine pure_ (i := 19) (N := some 47) (v := undef) (a' := ?_) #[true, true, true, true, true, true, true, true, true, true, true, true, true, true, true, true, true, true, true, true, false, false, false, false, false] rfl rfl (by kernel_rfl) (fun _ _ _ h => h) (Or.inr ⟨by rfl, rfl⟩) ?_ ?_
                rotate_left
                · simp only [Act.put, List.setIfInBounds_toArray, List.set_cons_zero, List.set_cons_succ, i64_w, i32_w]
                  rfl
                refine pure_ (i := 20) (N := some 48) (v := undef) (a' := ?_) #[true, true, true, true, true, true, true, true, true, true, true, true, true, true, true, true, true, true, true, true, true, false, false, false, false] rfl rfl (by kernel_rfl) (fun _ _ _ h => h) (Or.inr ⟨by rfl, rfl⟩) ?_ ?_
                rotate_left
                · simp only [Act.put, List.setIfInBounds_toArray, List.set_cons_zero, List.set_cons_succ, i64_w, i32_w]
                  rfl
                refine pure_ (i := 21) (N := some 49) (v := undef) (a' := ?_) #[true, true, true, true, true, true, true, true, true, true, true, true, true, true, true, true, true, true, true, true, true, true, false, false, false] rfl rfl (by kernel_rfl) (fun _ _ _ h => h) (Or.inr ⟨by rfl, rfl⟩) ?_ ?_
                rotate_left
                · simp only [Act.put, List.setIfInBounds_toArray, List.set_cons_zero, List.set_cons_succ, i64_w, i32_w]
                  rfl
                refine pure_ (i := 22) (N := some 50) (v := undef) (a' := ?_) #[true, true, true, true, true, true, true, true, true, true, true, true, true, true, true, true, true, true, true, true, true, true, true, false, false] rfl rfl (by kernel_rfl) (fun _ _ _ h => h) (Or.inr ⟨by rfl, rfl⟩) ?_ ?_
                rotate_left
                · simp only [Act.put, List.setIfInBounds_toArray, List.set_cons_zero, List.set_cons_succ, i64_w, i32_w]
                  rfl
                refine pure_ (i := 23) (N := some 51) (v := ?_) (a' := ?_) #[true, true, true, true, true, true, true, true, true, true, true, true, true, true, true, true, true, true, true, true, true, true, true, true, false] rfl rfl (by kernel_rfl) (fun _ _ _ h => h) (Or.inl ⟨by rfl, ?_⟩) ?_ ?_
                rotate_left
                · intro w'
                  go_simp
                  with_reducible rfl
                rotate_left
                · simp only [Act.put, List.setIfInBounds_toArray, List.set_cons_zero, List.set_cons_succ, i64_w, i32_w]
                  rfl
                refine pure_ (i := 24) (N := some 2) (v := ?_) (a' := ?_) #[true, true, true, true, true, true, true, true, true, true, true, true, true, true, true, true, true, true, true, true, true, true, true, true, true] rfl rfl (by kernel_rfl) (fun _ _ _ h => h) (Or.inl ⟨by rfl, ?_⟩) ?_ ?_
                rotate_left
                · intro w'
                  go_simp
                  with_reducible rfl
                rotate_left
                · simp only [Act.put, List.setIfInBounds_toArray, List.set_cons_zero, List.set_cons_succ, i64_w, i32_w]
                  rfl
                refine done_ (by kernel_rfl) ?_
                replace HS : Aside0 (Sep (fps []) w [] w392) := ⟨HS.out.sub (.cons _ .slnil)⟩
                go_wp2_with fail
                go_ret
                rw [← some_eq H]
                exact ⟨(by first | rfl | (simp [IntKind.wrap_u32]; done)), HS.out⟩
            · have H := if_no c387 H
              have c387b0 : (a305 == 0) = false := beq_eq_false_iff_ne.mpr c387
              have c387b1 : (a305 != 0) = true := bne_iff_ne.mpr c387
              clear c387
              by_cases c400 : a305 = 3
              · have H := if_yes c400 H
                have c400b0 : (a305 == 3) = true := beq_iff_eq.mpr c400
                have c400b1 : (a305 != 3) = false := bne_eq_false_iff_eq.mpr c400
                clear c400
                have hc382 : w373.cell? ⟨g312, 0, none⟩ = some (.int .i64 a305) := blk_cellv (HS.out.at0) 0 rfl
                go_wp2_with fail
                clear hc382
                refine start_ (n := 25) (S := (fun w' => w'.cell? ⟨g312, 0, none⟩ = some (.int .i64 a305) ∧ w'.cell? ⟨g312, 1, none⟩ = some (.int .i64 a306) ∧ w'.cell? ⟨g312, 2, none⟩ = some (.int .i64 a307) ∧ w'.cell? ⟨g312, 3, none⟩ = some (.int .i64 a308) ∧ w'.cell? ⟨g312, 4, none⟩ = some (.int .i64 a309) ∧ w'.cell? ⟨g312, 5, none⟩ = some (.int .i64 a310) ∧ w'.cell? ⟨g312, 6, none⟩ = some (.int .i64 a311) ∧ w'.cell? ⟨0, 0, none⟩ = some (.int .i64 0) ∧ w'.cell? ⟨0, 1, none⟩ = some (.int .i64 0) ∧ w'.cell? ⟨0, 2, none⟩ = some (.int .i64 0) ∧ w'.cell? ⟨0, 3, none⟩ = some (.int .i64 0) ∧ w'.cell? ⟨0, 4, none⟩ = some (.int .i64 0))) (ds := []) #[false, false, false, false, false, false, false, false, false, false, false, false, false, false, false, false, false, false, false, false, false, false, false, false, false] (by kernel_rfl) rfl rfl (⟨blk_cellv ((HS.out.drew).at0) 0 rfl, blk_cellv ((HS.out.drew).at0) 1 rfl, blk_cellv ((HS.out.drew).at0) 2 rfl, blk_cellv ((HS.out.drew).at0) 3 rfl, blk_cellv ((HS.out.drew).at0) 4 rfl, blk_cellv ((HS.out.drew).at0) 5 rfl, blk_cellv ((HS.out.drew).at0) 6 rfl, Gl.cell HGl0.out (HS.out.drew).fr 0 rfl, Gl.cell HGl0.out (HS.out.drew).fr 1 rfl, Gl.cell HGl0.out (HS.out.drew).fr 2 rfl, Gl.cell HGl0.out (HS.out.drew).fr 3 rfl, Gl.cell HGl0.out (HS.out.drew).fr 4 rfl⟩) (fun hHeld => ?_)
                have HS_ := Aside0.mk HS.out.drew
                clear HS
                generalize World.drew _ = w402 at HS_ hHeld ⊢
                have HS := HS_
                clear HS_
                refine take_ (i := 0) (N := some 28) (v := ?_) (a' := ?_) #[true, false, false, false, false, false, false, false, false, false, false, false, false, false, false, false, false, false, false, false, false, false, false, false, false] rfl rfl (by kernel_rfl) (fun _ _ _ h => h) (Or.inl ⟨by rfl, ?_⟩) hHeld ?_ ?_
                rotate_left
                · rintro w' hS'
                  obtain ⟨s0, s1, s2, s3, s4, s5, s6, s7, s8, s9, s10, s11⟩ := hS'
                  go_simp
                  with_reducible rfl
                rotate_left
                · simp only [Act.put, List.setIfInBounds_toArray, List.set_cons_zero, List.set_cons_succ, i64_w, i32_w]
                  rfl
                refine take_ (i := 2) (N := some 30) (v := ?_) (a' := ?_) #[true, false, true, false, false, false, false, false, false, false, false, false, false, false, false, false, false, false, false, false, false, false, false, false, false] rfl rfl (by kernel_rfl) (fun _ _ _ h => h) (Or.inl ⟨by rfl, ?_⟩) hHeld ?_ ?_
                rotate_left
                · rintro w' hS'
                  obtain ⟨s0, s1, s2, s3, s4, s5, s6, s7, s8, s9, s10, s11⟩ := hS'
                  go_simp
                  with_reducible rfl
                rotate_left
                · simp only [Act.put, List.setIfInBounds_toArray, List.set_cons_zero, List.set_cons_succ, i64_w, i32_w]
                  rfl
                refine one_ (i := 1) (N := some 29) #[true, true, true, false, false, false, false, false, false, false, false, false, false, false, false, false, false, false, false, false, false, false, false, false, false] rfl rfl (by kernel_rfl) (by decide) (fun K hK => ?_)
                obtain ⟨t390, HA403, H⟩ := bind_some H
                refine goes_ Tryz.func154 (by kernel_rfl) rfl #[.agg #[.int .i64 a305, .int .i64 a306, .int .i64 a307, .int .i64 a308, .int .i64 a309, .int .i64 a310, .int .i64 a311]] (by rfl) rfl rfl (by (try simp only [List.map_toArray, List.map_cons, List.map_nil]); first | done | rfl) ?_
                refine (tag_marks.calls a305 a306 a307 a308 a309 a310 a311 t390 _ ⟨HGl0.out.pass (l := []) HS.out⟩ ⟨Sep.start _⟩ HA403).mono ?_
                rintro e_ w404 ⟨rfl, hS⟩
                replace HS : Aside0 (Sep (fps []) w [b3 g312 a305 a306 a307 a308 a309 a310 a311] w404) := ⟨HS.out.call hS⟩
                clear hS
                refine ⟨_, rfl, ?_⟩
                refine hK.out _ _ (⟨blk_cellv (HS.out.at0) 0 rfl, blk_cellv (HS.out.at0) 1 rfl, blk_cellv (HS.out.at0) 2 rfl, blk_cellv (HS.out.at0) 3 rfl, blk_cellv (HS.out.at0) 4 rfl, blk_cellv (HS.out.at0) 5 rfl, blk_cellv (HS.out.at0) 6 rfl, Gl.cell HGl0.out HS.out.fr 0 rfl, Gl.cell HGl0.out HS.out.fr 1 rfl, Gl.cell HGl0.out HS.out.fr 2 rfl, Gl.cell HGl0.out HS.out.fr 3 rfl, Gl.cell HGl0.out HS.out.fr 4 rfl⟩) (fun hHeld => ?_)
                clear hK K
                refine norm_ (a' := ?_) ?_ ?_
                rotate_left
                · show Act.put _ (some 29) _ = _
                  simp only [Act.put, List.setIfInBounds_toArray, List.set_cons_zero, List.set_cons_succ, i64_w, i32_w]
                  rfl
                obtain ⟨b394, HA406, H⟩ := bind_some H
                have eb405 : ∀ w, (Op.equalIn 10000 174 (.agg #[.int .i64 t390.1, .int .i64 t390.2.1, .int .i64 t390.2.2.1, .int .i64 t390.2.2.2.1, .int .i64 t390.2.2.2.2]) (.agg #[.int .i64 0, .int .i64 0, .int .i64 0, .int .i64 0, .int .i64 0])).run Tryz.prog w = .ok b394 w := some_eq HA406 ▸ run_eq_ints 9998 174 3 5 .i64 [t390.1, t390.2.1, t390.2.2.1, t390.2.2.2.1, t390.2.2.2.2] [0, 0, 0, 0, 0] Tryz.underlying174 (by kernel_rfl) (by kernel_rfl) Tryz.underlying3 (fun _ => by kernel_rfl) rfl rfl
                refine pure_ (i := 3) (N := some 31) (v := ?_) (a' := ?_) #[true, true, true, true, false, false, false, false, false, false, false, false, false, false, false, false, false, false, false, false, false, false, false, false, false] rfl rfl (by kernel_rfl) (fun _ _ _ h => h) (Or.inl ⟨by rfl, ?_⟩) ?_ ?_
                rotate_left
                · intro w'
                  go_simp
                  with_reducible rfl
                rotate_left
                · simp only [Act.put, List.setIfInBounds_toArray, List.set_cons_zero, List.set_cons_succ, i64_w, i32_w]
                  rfl
                refine pure_ (i := 4) (N := some 32) (v := ?_) (a' := ?_) #[true, true, true, true, true, false, false, false, false, false, false, false, false, false, false, false, false, false, false, false, false, false, false, false, false] rfl rfl (by kernel_rfl) (fun _ _ _ h => h) (Or.inl ⟨by rfl, ?_⟩) ?_ ?_
                rotate_left
                · intro w'
                  go_simp
                  with_reducible rfl
                rotate_left
                · simp only [Act.put, List.setIfInBounds_toArray, List.set_cons_zero, List.set_cons_succ, i64_w, i32_w]
                  rfl
                by_cases c407 : b394 = true
                · have H := if_yes c407 H
                  have c407b0 : b394 = true := c407
                  have c407b1 : (!b394) = false := by rw [c407b0]; rfl
                  clear c407
                  try simp only [c407b0, Bool.not_true, Bool.not_false]
                  refine pure_ (i := 5) (N := some 33) (v := ?_) (a' := ?_) #[true, true, true, true, true, true, false, false, false, false, false, false, false, false, false, false, false, false, false, false, false, false, false, false, false] rfl rfl (by kernel_rfl) (fun _ _ _ h => h) (Or.inl ⟨by rfl, ?_⟩) ?_ ?_
                  rotate_left
                  · intro w'
                    go_simp
                    with_reducible rfl
                  rotate_left
                  · simp only [Act.put, List.setIfInBounds_toArray, List.set_cons_zero, List.set_cons_succ, i64_w, i32_w]
                    rfl
                  try simp only [c407b0, Bool.not_true, Bool.not_false]
                  refine take_ (i := 6) (N := some 34) (v := ?_) (a' := ?_) #[true, true, true, true, true, true, true, false, false, false, false, false, false, false, false, false, false, false, false, false, false, false, false, false, false] rfl rfl (by kernel_rfl) (fun _ _ _ h => h) (Or.inl ⟨by rfl, ?_⟩) hHeld ?_ ?_
                  rotate_left
                  · rintro w' hS'
                    obtain ⟨s0, s1, s2, s3, s4, s5, s6, s7, s8, s9, s10, s11⟩ := hS'
                    go_simp
                    with_reducible rfl
                  rotate_left
                  · simp only [Act.put, List.setIfInBounds_toArray, List.set_cons_zero, List.set_cons_succ, i64_w, i32_w]
                    rfl
                  try simp only [c407b0, Bool.not_true, Bool.not_false]
                  refine pure_ (i := 7) (N := some 35) (v := ?_) (a' := ?_) #[true, true, true, true, true, true, true, true, false, false, false, false, false, false, false, false, false, false, false, false, false, false, false, false, false] rfl rfl (by kernel_rfl) (fun _ _ _ h => h) (Or.inl ⟨by rfl, ?_⟩) ?_ ?_
                  rotate_left
                  · intro w'
                    go_simp
                    with_reducible rfl
                  rotate_left
                  · simp only [Act.put, List.setIfInBounds_toArray, List.set_cons_zero, List.set_cons_succ, i64_w, i32_w]
                    rfl
                  refine pure_ (i := 8) (N := some 36) (v := ?_) (a' := ?_) #[true, true, true, true, true, true, true, true, true, false, false, false, false, false, false, false, false, false, false, false, false, false, false, false, false] rfl rfl (by kernel_rfl) (fun _ _ _ h => h) (Or.inl ⟨by rfl, ?_⟩) ?_ ?_
                  rotate_left
                  · intro w'
                    go_simp
                    with_reducible rfl
                  rotate_left
                  · simp only [Act.put, List.setIfInBounds_toArray, List.set_cons_zero, List.set_cons_succ, i64_w, i32_w]
                    rfl
                  refine pure_ (i := 9) (N := some 37) (v := ?_) (a' := ?_) #[true, true, true, true, true, true, true, true, true, true, false, false, false, false, false, false, false, false, false, false, false, false, false, false, false] rfl rfl (by kernel_rfl) (fun _ _ _ h => h) (Or.inl ⟨by rfl, ?_⟩) ?_ ?_
                  rotate_left
                  · intro w'
                    go_simp
                    with_reducible rfl
                  rotate_left
                  · simp only [Act.put, List.setIfInBounds_toArray, List.set_cons_zero, List.set_cons_succ, i64_w, i32_w]
                    rfl
                  by_cases c408 : a311 ≥ 0
                  · have H := if_yes c408 H
                    have c408b0 : decide (0 ≤ a311) = true := decide_eq_true c408
                    clear c408
                    try simp only [c408b0, Bool.not_true, Bool.not_false]
                    refine pure_ (i := 10) (N := some 38) (v := ?_) (a' := ?_) #[true, true, true, true, true, true, true, true, true, true, true, false, false, false, false, false, false, false, false, false, false, false, false, false, false] rfl rfl (by kernel_rfl) (fun _ _ _ h => h) (Or.inl ⟨by rfl, ?_⟩) ?_ ?_
                    rotate_left
                    · intro w'
                      go_simp
                      with_reducible rfl
                    rotate_left
                    · simp only [Act.put, List.setIfInBounds_toArray, List.set_cons_zero, List.set_cons_succ, i64_w, i32_w]
                      rfl
                    try simp only [c408b0, Bool.not_true, Bool.not_false]
                    refine take_ (i := 11) (N := some 39) (v := ?_) (a' := ?_) #[true, true, true, true, true, true, true, true, true, true, true, true, false, false, false, false, false, false, false, false, false, false, false, false, false] rfl rfl (by kernel_rfl) (fun _ _ _ h => h) (Or.inl ⟨by rfl, ?_⟩) hHeld ?_ ?_
                    rotate_left
                    · rintro w' hS'
                      obtain ⟨s0, s1, s2, s3, s4, s5, s6, s7, s8, s9, s10, s11⟩ := hS'
                      go_simp
                      with_reducible rfl
                    rotate_left
                    · simp only [Act.put, List.setIfInBounds_toArray, List.set_cons_zero, List.set_cons_succ, i64_w, i32_w]
                      rfl
                    try simp only [c408b0, Bool.not_true, Bool.not_false]
                    refine pure_ (i := 12) (N := some 40) (v := ?_) (a' := ?_) #[true, true, true, true, true, true, true, true, true, true, true, true, true, false, false, false, false, false, false, false, false, false, false, false, false] rfl rfl (by kernel_rfl) (fun _ _ _ h => h) (Or.inl ⟨by rfl, ?_⟩) ?_ ?_
                    rotate_left
                    · intro w'
                      go_simp
                      with_reducible rfl
                    rotate_left
                    · simp only [Act.put, List.setIfInBounds_toArray, List.set_cons_zero, List.set_cons_succ, i64_w, i32_w]
                      rfl
                    refine pure_ (i := 13) (N := some 41) (v := ?_) (a' := ?_) #[true, true, true, true, true, true, true, true, true, true, true, true, true, true, false, false, false, false, false, false, false, false, false, false, false] rfl rfl (by kernel_rfl) (fun _ _ _ h => h) (Or.inl ⟨by rfl, ?_⟩) ?_ ?_
                    rotate_left
                    · intro w'
                      go_simp
                      with_reducible rfl
                    rotate_left
                    · simp only [Act.put, List.setIfInBounds_toArray, List.set_cons_zero, List.set_cons_succ, i64_w, i32_w]
                      rfl
                    refine pure_ (i := 14) (N := some 42) (v := ?_) (a' := ?_) #[true, true, true, true, true, true, true, true, true, true, true, true, true, true, true, false, false, false, false, false, false, false, false, false, false] rfl rfl (by kernel_rfl) (fun _ _ _ h => h) (Or.inl ⟨by rfl, ?_⟩) ?_ ?_
                    rotate_left
                    · intro w'
                      go_simp
                      with_reducible rfl
                    rotate_left
                    · simp only [Act.put, List.setIfInBounds_toArray, List.set_cons_zero, List.set_cons_succ, i64_w, i32_w]
                      rfl
                    by_cases c409 : a311 < 1048576
                    · have H := if_yes c409 H
                      have c409b0 : decide (a311 < 1048576) = true := decide_eq_true c409
                      clear c409
                      try simp only [c409b0, Bool.not_true, Bool.not_false]
                      refine pure_ (i := 15) (N := some 43) (v := ?_) (a' := ?_) #[true, true, true, true, true, true, true, true, true, true, true, true, true, true, true, true, false, false, false, false, false, false, false, false, false] rfl rfl (by kernel_rfl) (fun _ _ _ h => h) (Or.inl ⟨by rfl, ?_⟩) ?_ ?_
                      rotate_left
                      · intro w'
                        go_simp
                        with_reducible rfl
                      rotate_left
                      · simp only [Act.put, List.setIfInBounds_toArray, List.set_cons_zero, List.set_cons_succ, i64_w, i32_w]
                        rfl
                      try simp only [c409b0, Bool.not_true, Bool.not_false]
                      refine take_ (i := 16) (N := some 44) (v := ?_) (a' := ?_) #[true, true, true, true, true, true, true, true, true, true, true, true, true, true, true, true, true, false, false, false, false, false, false, false, false] rfl rfl (by kernel_rfl) (fun _ _ _ h => h) (Or.inl ⟨by rfl, ?_⟩) hHeld ?_ ?_
                      rotate_left
                      · rintro w' hS'
                        obtain ⟨s0, s1, s2, s3, s4, s5, s6, s7, s8, s9, s10, s11⟩ := hS'
                        go_simp
                        with_reducible rfl
                      rotate_left
                      · simp only [Act.put, List.setIfInBounds_toArray, List.set_cons_zero, List.set_cons_succ, i64_w, i32_w]
                        rfl
                      try simp only [c409b0, Bool.not_true, Bool.not_false]
                      refine pure_ (i := 17) (N := some 45) (v := ?_) (a' := ?_) #[true, true, true, true, true, true, true, true, true, true, true, true, true, true, true, true, true, true, false, false, false, false, false, false, false] rfl rfl (by kernel_rfl) (fun _ _ _ h => h) (Or.inl ⟨by rfl, ?_⟩) ?_ ?_
                      rotate_left
                      · intro w'
                        go_simp
                        with_reducible rfl
                      rotate_left
                      · simp only [Act.put, List.setIfInBounds_toArray, List.set_cons_zero, List.set_cons_succ, i64_w, i32_w]
                        rfl
                      try simp only [c409b0, Bool.not_true, Bool.not_false]
                      refine pure_ (i := 18) (N := some 46) (v := ?_) (a' := ?_) #[true, true, true, true, true, true, true, true, true, true, true, true, true, true, true, true, true, true, true, false, false, false, false, false, false] rfl rfl (by kernel_rfl) (fun _ _ _ h => h) (Or.inl ⟨by rfl, ?_⟩) ?_ ?_
                      rotate_left
                      · intro w'
                        go_simp
                        with_reducible rfl
                      rotate_left
                      · simp only [Act.put, List.setIfInBounds_toArray, List.set_cons_zero, List.set_cons_succ, i64_w, i32_w]
                        rfl
                      try simp only [c400b0, Bool.not_true, Bool.not_false]
                      refine pure_ (i := 19) (N := some 47) (v := undef) (a' := ?_) #[true, true, true, true, true, true, true, true, true, true, true, true, true, true, true, true, true, true, true, true, false, false, false, false, false] rfl rfl (by kernel_rfl) (fun _ _ _ h => h) (Or.inr ⟨by rfl, rfl⟩) ?_ ?_
                      rotate_left
                      · simp only [Act.put, List.setIfInBounds_toArray, List.set_cons_zero, List.set_cons_succ, i64_w, i32_w]
                        rfl
                      try simp only [c400b0, Bool.not_true, Bool.not_false]
                      refine pure_ (i := 20) (N := some 48) (v := undef) (a' := ?_) #[true, true, true, true, true, true, true, true, true, true, true, true, true, true, true, true, true, true, true, true, true, false, false, false, false] rfl rfl (by kernel_rfl) (fun _ _ _ h => h) (Or.inr ⟨by rfl, rfl⟩) ?_ ?_
                      rotate_left
                      · simp only [Act.put, List.setIfInBounds_toArray, List.set_cons_zero, List.set_cons_succ, i64_w, i32_w]
                        rfl
                      try simp only [c400b0, Bool.not_true, Bool.not_false]
                      refine pure_ (i := 21) (N := some 49) (v := undef) (a' := ?_) #[true, true, true, true, true, true, true, true, true, true, true, true, true, true, true, true, true, true, true, true, true, true, false, false, false] rfl rfl (by kernel_rfl) (fun _ _ _ h => h) (Or.inr ⟨by rfl, rfl⟩) ?_ ?_
                      rotate_left
                      · simp only [Act.put, List.setIfInBounds_toArray, List.set_cons_zero, List.set_cons_succ, i64_w, i32_w]
                        rfl
                      try simp only [c409b0, Bool.not_true, Bool.not_false]
                      refine pure_ (i := 22) (N := some 50) (v := ?_) (a' := ?_) #[true, true, true, true, true, true, true, true, true, true, true, true, true, true, true, true, true, true, true, true, true, true, true, false, false] rfl rfl (by kernel_rfl) (fun _ _ _ h => h) (Or.inl ⟨by rfl, ?_⟩) ?_ ?_
                      rotate_left
                      · intro w'
                        go_simp
                        with_reducible rfl
                      rotate_left
                      · simp only [Act.put, List.setIfInBounds_toArray, List.set_cons_zero, List.set_cons_succ, i64_w, i32_w]
                        rfl
                      refine pure_ (i := 23) (N := some 51) (v := ?_) (a' := ?_) #[true, true, true, true, true, true, true, true, true, true, true, true, true, true, true, true, true, true, true, true, true, true, true, true, false] rfl rfl (by kernel_rfl) (fun _ _ _ h => h) (Or.inl ⟨by rfl, ?_⟩) ?_ ?_
                      rotate_left
                      · intro w'
                        go_simp
                        with_reducible rfl
                      rotate_left
                      · simp only [Act.put, List.setIfInBounds_toArray, List.set_cons_zero, List.set_cons_succ, i64_w, i32_w]
                        rfl
                      refine pure_ (i := 24) (N := some 2) (v := ?_) (a' := ?_) #[true, true, true, true, true, true, true, true, true, true, true, true, true, true, true, true, true, true, true, true, true, true, true, true, true] rfl rfl (by kernel_rfl) (fun _ _ _ h => h) (Or.inl ⟨by rfl, ?_⟩) ?_ ?_
                      rotate_left
                      · intro w'
                        go_simp
                        with_reducible rfl
                      rotate_left
                      · simp only [Act.put, List.setIfInBounds_toArray, List.set_cons_zero, List.set_cons_succ, i64_w, i32_w]
                        rfl
                      refine done_ (by kernel_rfl) ?_
                      replace HS : Aside0 (Sep (fps []) w [] w404) := ⟨HS.out.sub (.cons _ .slnil)⟩
                      go_wp2_with fail
                      go_ret
                      rw [← some_eq H]
                      exact ⟨(by first | rfl | (simp [IntKind.wrap_u32]; done)), HS.out⟩
                    · have H := if_no c409 H
                      have c409b0 : decide (a311 < 1048576) = false := decide_eq_false c409
                      clear c409
                      try simp only [c409b0, Bool.not_true, Bool.not_false]
                      refine pure_ (i := 15) (N := some 43) (v := undef) (a' := ?_) #[true, true, true, true, true, true, true, true, true, true, true, true, true, true, true, true, false, false, false, false, false, false, false, false, false] rfl rfl (by kernel_rfl) (fun _ _ _ h => h) (Or.inr ⟨by rfl, rfl⟩) ?_ ?_
                      rotate_left
                      · simp only [Act.put, List.setIfInBounds_toArray, List.set_cons_zero, List.set_cons_succ, i64_w, i32_w]
                        rfl
                      try simp only [c409b0, Bool.not_true, Bool.not_false]
                      refine pure_ (i := 16) (N := some 44) (v := undef) (a' := ?_) #[true, true, true, true, true, true, true, true, true, true, true, true, true, true, true, true, true, false, false, false, false, false, false, false, false] rfl rfl (by kernel_rfl) (fun _ _ _ h => h) (Or.inr ⟨by rfl, rfl⟩) ?_ ?_
                      rotate_left
                      · simp only [Act.put, List.setIfInBounds_toArray, List.set_cons_zero, List.set_cons_succ, i64_w, i32_w]
                        rfl
                      try simp only [c409b0, Bool.not_true, Bool.not_false]
                      refine pure_ (i := 17) (N := some 45) (v := undef) (a' := ?_) #[true, true, true, true, true, true, true, true, true, true, true, true, true, true, true, true, true, true, false, false, false, false, false, false, false] rfl rfl (by kernel_rfl) (fun _ _ _ h => h) (Or.inr ⟨by rfl, rfl⟩) ?_ ?_
                      rotate_left
                      · simp only [Act.put, List.setIfInBounds_toArray, List.set_cons_zero, List.set_cons_succ, i64_w, i32_w]
                        rfl
                      try simp only [c409b0, Bool.not_true, Bool.not_false]
                      refine pure_ (i := 18) (N := some 46) (v := undef) (a' := ?_) #[true, true, true, true, true, true, true, true, true, true, true, true, true, true, true, true, true, true, true, false, false, false, false, false, false] rfl rfl (by kernel_rfl) (fun _ _ _ h => h) (Or.inr ⟨by rfl, rfl⟩) ?_ ?_
                      rotate_left
                      · simp only [Act.put, List.setIfInBounds_toArray, List.set_cons_zero, List.set_cons_succ, i64_w, i32_w]
                        rfl
                      refine pure_ (i := 19) (N := some 47) (v := undef) (a' := ?_) #[true, true, true, true, true, true, true, true, true, true, true, true, true, true, true, true, true, true, true, true, false, false, false, false, false] rfl rfl (by kernel_rfl) (fun _ _ _ h => h) (Or.inr ⟨by rfl, rfl⟩) ?_ ?_
                      rotate_left
                      · simp only [Act.put, List.setIfInBounds_toArray, List.set_cons_zero, List.set_cons_succ, i64_w, i32_w]
                        rfl
                      refine pure_ (i := 20) (N := some 48) (v := undef) (a' := ?_) #[true, true, true, true, true, true, true, true, true, true, true, true, true, true, true, true, true, true, true, true, true, false, false, false, false] rfl rfl (by kernel_rfl) (fun _ _ _ h => h) (Or.inr ⟨by rfl, rfl⟩) ?_ ?_
                      rotate_left
                      · simp only [Act.put, List.setIfInBounds_toArray, List.set_cons_zero, List.set_cons_succ, i64_w, i32_w]
                        rfl
                      refine pure_ (i := 21) (N := some 49) (v := undef) (a' := ?_) #[true, true, true, true, true, true, true, true, true, true, true, true, true, true, true, true, true, true, true, true, true, true, false, false, false] rfl rfl (by kernel_rfl) (fun _ _ _ h => h) (Or.inr ⟨by rfl, rfl⟩) ?_ ?_
                      rotate_left
                      · simp only [Act.put, List.setIfInBounds_toArray, List.set_cons_zero, List.set_cons_succ, i64_w, i32_w]
                        rfl
                      try simp only [c409b0, Bool.not_true, Bool.not_false]
                      refine pure_ (i := 22) (N := some 50) (v := undef) (a' := ?_) #[true, true, true, true, true, true, true, true, true, true, true, true, true, true, true, true, true, true, true, true, true, true, true, false, false] rfl rfl (by kernel_rfl) (fun _ _ _ h => h) (Or.inr ⟨by rfl, rfl⟩) ?_ ?_
                      rotate_left
                      · simp only [Act.put, List.setIfInBounds_toArray, List.set_cons_zero, List.set_cons_succ, i64_w, i32_w]
                        rfl
                      refine pure_ (i := 23) (N := some 51) (v := ?_) (a' := ?_) #[true, true, true, true, true, true, true, true, true, true, true, true, true, true, true, true, true, true, true, true, true, true, true, true, false] rfl rfl (by kernel_rfl) (fun _ _ _ h => h) (Or.inl ⟨by rfl, ?_⟩) ?_ ?_
                      rotate_left
                      · intro w'
                        go_simp
                        with_reducible rfl
                      rotate_left
                      · simp only [Act.put, List.setIfInBounds_toArray, List.set_cons_zero, List.set_cons_succ, i64_w, i32_w]
                        rfl
                      refine pure_ (i := 24) (N := some 2) (v := ?_) (a' := ?_) #[true, true, true, true, true, true, true, true, true, true, true, true, true, true, true, true, true, true, true, true, true, true, true, true, true] rfl rfl (by kernel_rfl) (fun _ _ _ h => h) (Or.inl ⟨by rfl, ?_⟩) ?_ ?_
                      rotate_left
                      · intro w'
                        go_simp
                        with_reducible rfl
                      rotate_left
                      · simp only [Act.put, List.setIfInBounds_toArray, List.set_cons_zero, List.set_cons_succ, i64_w, i32_w]
                        rfl
                      refine done_ (by kernel_rfl) ?_
                      replace HS : Aside0 (Sep (fps []) w [] w404) := ⟨HS.out.sub (.cons _ .slnil)⟩
                      go_wp2_with fail
                      go_ret
                      rw [← some_eq H]
                      exact ⟨(by first | rfl | (simp [IntKind.wrap_u32]; done)), HS.out⟩
                  · have H := if_no c408 H
                    have c408b0 : decide (0 ≤ a311) = false := decide_eq_false c408
                    clear c408
                    try simp only [c408b0, Bool.not_true, Bool.not_false]
                    refine pure_ (i := 10) (N := some 38) (v := undef) (a' := ?_) #[true, true, true, true, true, true, true, true, true, true, true, false, false, false, false, false, false, false, false, false, false, false, false, false, false] rfl rfl (by kernel_rfl) (fun _ _ _ h => h) (Or.inr ⟨by rfl, rfl⟩) ?_ ?_
                    rotate_left
                    · simp only [Act.put, List.setIfInBounds_toArray, List.set_cons_zero, List.set_cons_succ, i64_w, i32_w]
                      rfl
                    try simp only [c408b0, Bool.not_true, Bool.not_false]
                    refine pure_ (i := 11) (N := some 39) (v := undef) (a' := ?_) #[true, true, true, true, true, true, true, true, true, true, true, true, false, false, false, false, false, false, false, false, false, false, false, false, false] rfl rfl (by kernel_rfl) (fun _ _ _ h => h) (Or.inr ⟨by rfl, rfl⟩) ?_ ?_
                    rotate_left
                    · simp only [Act.put, List.setIfInBounds_toArray, List.set_cons_zero, List.set_cons_succ, i64_w, i32_w]
                      rfl
                    try simp only [c408b0, Bool.not_true, Bool.not_false]
                    refine pure_ (i := 12) (N := some 40) (v := undef) (a' := ?_) #[true, true, true, true, true, true, true, true, true, true, true, true, true, false, false, false, false, false, false, false, false, false, false, false, false] rfl rfl (by kernel_rfl) (fun _ _ _ h => h) (Or.inr ⟨by rfl, rfl⟩) ?_ ?_
                    rotate_left
                    · simp only [Act.put, List.setIfInBounds_toArray, List.set_cons_zero, List.set_cons_succ, i64_w, i32_w]
                      rfl
                    refine pure_ (i := 13) (N := some 41) (v := ?_) (a' := ?_) #[true, true, true, true, true, true, true, true, true, true, true, true, true, true, false, false, false, false, false, false, false, false, false, false, false] rfl rfl (by kernel_rfl) (fun _ _ _ h => h) (Or.inl ⟨by rfl, ?_⟩) ?_ ?_
                    rotate_left
                    · intro w'
                      go_simp
                      with_reducible rfl
                    rotate_left
                    · simp only [Act.put, List.setIfInBounds_toArray, List.set_cons_zero, List.set_cons_succ, i64_w, i32_w]
                      rfl
                    refine pure_ (i := 14) (N := some 42) (v := ?_) (a' := ?_) #[true, true, true, true, true, true, true, true, true, true, true, true, true, true, true, false, false, false, false, false, false, false, false, false, false] rfl rfl (by kernel_rfl) (fun _ _ _ h => h) (Or.inl ⟨by rfl, ?_⟩) ?_ ?_
                    rotate_left
                    · intro w'
                      go_simp
                      with_reducible rfl
                    rotate_left
                    · simp only [Act.put, List.setIfInBounds_toArray, List.set_cons_zero, List.set_cons_succ, i64_w, i32_w]
                      rfl
                    refine pure_ (i := 15) (N := some 43) (v := undef) (a' := ?_) #[true, true, true, true, true, true, true, true, true, true, true, true, true, true, true, true, false, false, false, false, false, false, false, false, false] rfl rfl (by kernel_rfl) (fun _ _ _ h => h) (Or.inr ⟨by rfl, rfl⟩) ?_ ?_
                    rotate_left
                    · simp only [Act.put, List.setIfInBounds_toArray, List.set_cons_zero, List.set_cons_succ, i64_w, i32_w]
                      rfl
                    refine pure_ (i := 16) (N := some 44) (v := undef) (a' := ?_) #[true, true, true, true, true, true, true, true, true, true, true, true, true, true, true, true, true, false, false, false, false, false, false, false, false] rfl rfl (by kernel_rfl) (fun _ _ _ h => h) (Or.inr ⟨by rfl, rfl⟩) ?_ ?_
                    rotate_left
                    · simp only [Act.put, List.setIfInBounds_toArray, List.set_cons_zero, List.set_cons_succ, i64_w, i32_w]
                      rfl
                    refine pure_ (i := 17) (N := some 45) (v := undef) (a' := ?_) #[true, true, true, true, true, true, true, true, true, true, true, true, true, true, true, true, true, true, false, false, false, false, false, false, false] rfl rfl (by kernel_rfl) (fun _ _ _ h => h) (Or.inr ⟨by rfl, rfl⟩) ?_ ?_
                    rotate_left
                    · simp only [Act.put, List.setIfInBounds_toArray, List.set_cons_zero, List.set_cons_succ, i64_w, i32_w]
                      rfl
                    refine pure_ (i := 18) (N := some 46) (v := undef) (a' := ?_) #[true, true, true, true, true, true, true, true, true, true, true, true, true, true, true, true, true, true, true, false, false, false, false, false, false] rfl rfl (by kernel_rfl) (fun _ _ _ h => h) (Or.inr ⟨by rfl, rfl⟩) ?_ ?_
                    rotate_left
                    · simp only [Act.put, List.setIfInBounds_toArray, List.set_cons_zero, List.set_cons_succ, i64_w, i32_w]
                      rfl
                    refine pure_ (i := 19) (N := some 47) (v := undef) (a' := ?_) #[true, true, true, true, true, true, true, true, true, true, true, true, true, true, true, true, true, true, true, true, false, false, false, false, false] rfl rfl (by kernel_rfl) (fun _ _ _ h => h) (Or.inr ⟨by rfl, rfl⟩) ?_ ?_
                    rotate_left
                    · simp only [Act.put, List.setIfInBounds_toArray, List.set_cons_zero, List.set_cons_succ, i64_w, i32_w]
                      rfl
                    refine pure_ (i := 20) (N := some 48) (v := undef) (a' := ?_) #[true, true, true, true, true, true, true, true, true, true, true, true, true, true, true, true, true, true, true, true, true, false, false, false, false] rfl rfl (by kernel_rfl) (fun _ _ _ h => h) (Or.inr ⟨by rfl, rfl⟩) ?_ ?_
                    rotate_left
                    · simp only [Act.put, List.setIfInBounds_toArray, List.set_cons_zero, List.set_cons_succ, i64_w, i32_w]
                      rfl
                    refine pure_ (i := 21) (N := some 49) (v := undef) (a' := ?_) #[true, true, true, true, true, true, true, true, true, true, true, true, true, true, true, true, true, true, true, true, true, true, false, false, false] rfl rfl (by kernel_rfl) (fun _ _ _ h => h) (Or.inr ⟨by rfl, rfl⟩) ?_ ?_
                    rotate_left
                    · simp only [Act.put, List.setIfInBounds_toArray, List.set_cons_zero, List.set_cons_succ, i64_w, i32_w]
                      rfl
                    refine pure_ (i := 22) (N := some 50) (v := undef) (a' := ?_) #[true, true, true, true, true, true, true, true, true, true, true, true, true, true, true, true, true, true, true, true, true, true, true, false, false] rfl rfl (by kernel_rfl) (fun _ _ _ h => h) (Or.inr ⟨by rfl, rfl⟩) ?_ ?_
                    rotate_left
                    · simp only [Act.put, List.setIfInBounds_toArray, List.set_cons_zero, List.set_cons_succ, i64_w, i32_w]
                      rfl
                    refine pure_ (i := 23) (N := some 51) (v := ?_) (a' := ?_) #[true, true, true, true, true, true, true, true, true, true, true, true, true, true, true, true, true, true, true, true, true, true, true, true, false] rfl rfl (by kernel_rfl) (fun _ _ _ h => h) (Or.inl ⟨by rfl, ?_⟩) ?_ ?_
                    rotate_left
                    · intro w'
                      go_simp
                      with_reducible rfl
                    rotate_left
                    · simp only [Act.put, List.setIfInBounds_toArray, List.set_cons_zero, List.set_cons_succ, i64_w, i32_w]
                      rfl
                    refine pure_ (i := 24) (N := some 2) (v := ?_) (a' := ?_) #[true, true, true, true, true, true, true, true, true, true, true, true, true, true, true, true, true, true, true, true, true, true, true, true, true] rfl rfl (by kernel_rfl) (fun _ _ _ h => h) (Or.inl ⟨by rfl, ?_⟩) ?_ ?_
                    rotate_left
                    · intro w'
                      go_simp
                      with_reducible rfl
                    rotate_left
                    · simp only [Act.put, List.setIfInBounds_toArray, List.set_cons_zero, List.set_cons_succ, i64_w, i32_w]
                      rfl
                    refine done_ (by kernel_rfl) ?_
                    replace HS : Aside0 (Sep (fps []) w [] w404) := ⟨HS.out.sub (.cons _ .slnil)⟩
                    go_wp2_with fail
                    go_ret
                    rw [← some_eq H]
                    exact ⟨(by first | rfl | (simp [IntKind.wrap_u32]; done)), HS.out⟩
                · have H := if_no c407 H
                  have c407b0 : b394 = false := by simpa using c407
                  have c407b1 : (!b394) = true := by rw [c407b0]; rfl
                  clear c407
                  try simp only [c407b0, Bool.not_true, Bool.not_false]
                  refine pure_ (i := 5) (N := some 33) (v := undef) (a' := ?_) #[true, true, true, true, true, true, false, false, false, false, false, false, false, false, false, false, false, false, false, false, false, false, false, false, false] rfl rfl (by kernel_rfl) (fun _ _ _ h => h) (Or.inr ⟨by rfl, rfl⟩) ?_ ?_
                  rotate_left
                  · simp only [Act.put, List.setIfInBounds_toArray, List.set_cons_zero, List.set_cons_succ, i64_w, i32_w]
                    rfl
                  try simp only [c407b0, Bool.not_true, Bool.not_false]
                  refine pure_ (i := 6) (N := some 34) (v := undef) (a' := ?_) #[true, true, true, true, true, true, true, false, false, false, false, false, false, false, false, false, false, false, false, false, false, false, false, false, false] rfl rfl (by kernel_rfl) (fun _ _ _ h => h) (Or.inr ⟨by rfl, rfl⟩) ?_ ?_
                  rotate_left
                  · simp only [Act.put, List.setIfInBounds_toArray, List.set_cons_zero, List.set_cons_succ, i64_w, i32_w]
                    rfl
                  try simp only [c407b0, Bool.not_true, Bool.not_false]
                  refine pure_ (i := 7) (N := some 35) (v := undef) (a' := ?_) #[true, true, true, true, true, true, true, true, false, false, false, false, false, false, false, false, false, false, false, false, false, false, false, false, false] rfl rfl (by kernel_rfl) (fun _ _ _ h => h) (Or.inr ⟨by rfl, rfl⟩) ?_ ?_
                  rotate_left
                  · simp only [Act.put, List.setIfInBounds_toArray, List.set_cons_zero, List.set_cons_succ, i64_w, i32_w]
                    rfl
                  refine pure_ (i := 8) (N := some 36) (v := ?_) (a' := ?_) #[true, true, true, true, true, true, true, true, true, false, false, false, false, false, false, false, false, false, false, false, false, false, false, false, false] rfl rfl (by kernel_rfl) (fun _ _ _ h => h) (Or.inl ⟨by rfl, ?_⟩) ?_ ?_
                  rotate_left
                  · intro w'
                    go_simp
                    with_reducible rfl
                  rotate_left
                  · simp only [Act.put, List.setIfInBounds_toArray, List.set_cons_zero, List.set_cons_succ, i64_w, i32_w]
                    rfl
                  refine pure_ (i := 9) (N := some 37) (v := ?_) (a' := ?_) #[true, true, true, true, true, true, true, true, true, true, false, false, false, false, false, false, false, false, false, false, false, false, false, false, false] rfl rfl (by kernel_rfl) (fun _ _ _ h => h) (Or.inl ⟨by rfl, ?_⟩) ?_ ?_
                  rotate_left
                  · intro w'
                    go_simp
                    with_reducible rfl
                  rotate_left
                  · simp only [Act.put, List.setIfInBounds_toArray, List.set_cons_zero, List.set_cons_succ, i64_w, i32_w]
                    rfl
                  refine pure_ (i := 10) (N := some 38) (v := undef) (a' := ?_) #[true, true, true, true, true, true, true, true, true, true, true, false, false, false, false, false, false, false, false, false, false, false, false, false, false] rfl rfl (by kernel_rfl) (fun _ _ _ h => h) (Or.inr ⟨by rfl, rfl⟩) ?_ ?_
                  rotate_left
                  · simp only [Act.put, List.setIfInBounds_toArray, List.set_cons_zero, List.set_cons_succ, i64_w, i32_w]
                    rfl
                  refine pure_ (i := 11) (N := some 39) (v := undef) (a' := ?_) #[true, true, true, true, true, true, true, true, true, true, true, true, false, false, false, false, false, false, false, false, false, false, false, false, false] rfl rfl (by kernel_rfl) (fun _ _ _ h => h) (Or.inr ⟨by rfl, rfl⟩) ?_ ?_
                  rotate_left
                  · simp only [Act.put, List.setIfInBounds_toArray, List.set_cons_zero, List.set_cons_succ, i64_w, i32_w]
                    rfl
                  refine pure_ (i := 12) (N := some 40) (v := undef) (a' := ?_) #[true, true, true, true, true, true, true, true, true, true, true, true, true, false, false, false, false, false, false, false, false, false, false, false, false] rfl rfl (by kernel_rfl) (fun _ _ _ h => h) (Or.inr ⟨by rfl, rfl⟩) ?_ ?_
                  rotate_left
                  · simp only [Act.put, List.setIfInBounds_toArray, List.set_cons_zero, List.set_cons_succ, i64_w, i32_w]
                    rfl
                  refine pure_ (i := 13) (N := some 41) (v := ?_) (a' := ?_) #[true, true, true, true, true, true, true, true, true, true, true, true, true, true, false, false, false, false, false, false, false, false, false, false, false] rfl rfl (by kernel_rfl) (fun _ _ _ h => h) (Or.inl ⟨by rfl, ?_⟩) ?_ ?_
                  rotate_left
                  · intro w'
                    go_simp
                    with_reducible rfl
                  rotate_left
                  · simp only [Act.put, List.setIfInBounds_toArray, List.set_cons_zero, List.set_cons_succ, i64_w, i32_w]
                    rfl
                  refine pure_ (i := 14) (N := some 42) (v := ?_) (a' := ?_) #[true, true, true, true, true, true, true, true, true, true, true, true, true, true, true, false, false, false, false, false, false, false, false, false, false] rfl rfl (by kernel_rfl) (fun _ _ _ h => h) (Or.inl ⟨by rfl, ?_⟩) ?_ ?_
                  rotate_left
                  · intro w'
                    go_simp
                    with_reducible rfl
                  rotate_left
                  · simp only [Act.put, List.setIfInBounds_toArray, List.set_cons_zero, List.set_cons_succ, i64_w, i32_w]
                    rfl
                  refine pure_ (i := 15) (N := some 43) (v := undef) (a' := ?_) #[true, true, true, true, true, true, true, true, true, true, true, true, true, true, true, true, false, false, false, false, false, false, false, false, false] rfl rfl (by kernel_rfl) (fun _ _ _ h => h) (Or.inr ⟨by rfl, rfl⟩) ?_ ?_
                  rotate_left
                  · simp only [Act.put, List.setIfInBounds_toArray, List.set_cons_zero, List.set_cons_succ, i64_w, i32_w]
                    rfl
                  refine pure_ (i := 16) (N := some 44) (v := undef) (a' := ?_) #[true, true, true, true, true, true, true, true, true, true, true, true, true, true, true, true, true, false, false, false, false, false, false, false, false] rfl rfl (by kernel_rfl) (fun _ _ _ h => h) (Or.inr ⟨by rfl, rfl⟩) ?_ ?_
                  rotate_left
                  · simp only [Act.put, List.setIfInBounds_toArray, List.set_cons_zero, List.set_cons_succ, i64_w, i32_w]
                    rfl
                  refine pure_ (i := 17) (N := some 45) (v := undef) (a' := ?_) #[true, true, true, true, true, true, true, true, true, true, true, true, true, true, true, true, true, true, false, false, false, false, false, false, false] rfl rfl (by kernel_rfl) (fun _ _ _ h => h) (Or.inr ⟨by rfl, rfl⟩) ?_ ?_
                  rotate_left
                  · simp only [Act.put, List.setIfInBounds_toArray, List.set_cons_zero, List.set_cons_succ, i64_w, i32_w]
                    rfl
                  refine pure_ (i := 18) (N := some 46) (v := undef) (a' := ?_) #[true, true, true, true, true, true, true, true, true, true, true, true, true, true, true, true, true, true, true, false, false, false, false, false, false] rfl rfl (by kernel_rfl) (fun _ _ _ h => h) (Or.inr ⟨by rfl, rfl⟩) ?_ ?_
                  rotate_left
                  · simp only [Act.put, List.setIfInBounds_toArray, List.set_cons_zero, List.set_cons_succ, i64_w, i32_w]
                    rfl
                  refine pure_ (i := 19) (N := some 47) (v := undef) (a' := ?_) #[true, true, true, true, true, true, true, true, true, true, true, true, true, true, true, true, true, true, true, true, false, false, false, false, false] rfl rfl (by kernel_rfl) (fun _ _ _ h => h) (Or.inr ⟨by rfl, rfl⟩) ?_ ?_
                  rotate_left
                  · simp only [Act.put, List.setIfInBounds_toArray, List.set_cons_zero, List.set_cons_succ, i64_w, i32_w]
                    rfl
                  refine pure_ (i := 20) (N := some 48) (v := undef) (a' := ?_) #[true, true, true, true, true, true, true, true, true, true, true, true, true, true, true, true, true, true, true, true, true, false, false, false, false] rfl rfl (by kernel_rfl) (fun _ _ _ h => h) (Or.inr ⟨by rfl, rfl⟩) ?_ ?_
                  rotate_left
                  · simp only [Act.put, List.setIfInBounds_toArray, List.set_cons_zero, List.set_cons_succ, i64_w, i32_w]
                    rfl
                  refine pure_ (i := 21) (N := some 49) (v := undef) (a' := ?_) #[true, true, true, true, true, true, true, true, true, true, true, true, true, true, true, true, true, true, true, true, true, true, false, false, false] rfl rfl (by kernel_rfl) (fun _ _ _ h => h) (Or.inr ⟨by rfl, rfl⟩) ?_ ?_
                  rotate_left
                  · simp only [Act.put, List.setIfInBounds_toArray, List.set_cons_zero, List.set_cons_succ, i64_w, i32_w]
                    rfl
                  refine pure_ (i := 22) (N := some 50) (v := undef) (a' := ?_) #[true, true, true, true, true, true, true, true, true, true, true, true, true, true, true, true, true, true, true, true, true, true, true, false, false] rfl rfl (by kernel_rfl) (fun _ _ _ h => h) (Or.inr ⟨by rfl, rfl⟩) ?_ ?_
                  rotate_left
                  · simp only [Act.put, List.setIfInBounds_toArray, List.set_cons_zero, List.set_cons_succ, i64_w, i32_w]
                    rfl
                  refine pure_ (i := 23) (N := some 51) (v := ?_) (a' := ?_) #[true, true, true, true, true, true, true, true, true, true, true, true, true, true, true, true, true, true, true, true, true, true, true, true, false] rfl rfl (by kernel_rfl) (fun _ _ _ h => h) (Or.inl ⟨by rfl, ?_⟩) ?_ ?_
                  rotate_left
                  · intro w'
                    go_simp
                    with_reducible rfl
                  rotate_left
                  · simp only [Act.put, List.setIfInBounds_toArray, List.set_cons_zero, List.set_cons_succ, i64_w, i32_w]
                    rfl
                  refine pure_ (i := 24) (N := some 2) (v := ?_) (a' := ?_) #[true, true, true, true, true, true, true, true, true, true, true, true, true, true, true, true, true, true, true, true, true, true, true, true, true] rfl rfl (by kernel_rfl) (fun _ _ _ h => h) (Or.inl ⟨by rfl, ?_⟩) ?_ ?_
                  rotate_left
                  · intro w'
                    go_simp
                    with_reducible rfl
                  rotate_left
                  · simp only [Act.put, List.setIfInBounds_toArray, List.set_cons_zero, List.set_cons_succ, i64_w, i32_w]
                    rfl
                  refine done_ (by kernel_rfl) ?_
                  replace HS : Aside0 (Sep (fps []) w [] w404) := ⟨HS.out.sub (.cons _ .slnil)⟩
                  go_wp2_with fail
                  go_ret
                  rw [← some_eq H]
                  exact ⟨(by first | rfl | (simp [IntKind.wrap_u32]; done)), HS.out⟩
              · have H := if_no c400 H
                have c400b0 : (a305 == 3) = false := beq_eq_false_iff_ne.mpr c400
                have c400b1 : (a305 != 3) = true := bne_iff_ne.mpr c400
                clear c400
                have hc382 : w373.cell? ⟨g312, 0, none⟩ = some (.int .i64 a305) := blk_cellv (HS.out.at0) 0 rfl
                replace HS : Aside0 (Sep (fps []) w [] w373) := ⟨HS.out.sub (.cons _ .slnil)⟩
                go_wp2_with fail
                clear hc382
                go_ret
                rw [← some_eq H]
                exact ⟨(by first | rfl | (simp [IntKind.wrap_u32]; done)), HS.out⟩

set_option maxHeartbeats 30000000 in
set_option maxRecDepth 100000 in
theorem pack_total.calls (k : Nat) (l503 : List Int) (A504 : Option Addr) (n505 : Nat) (r : Int) (w : World) (HR506 : Aside0 (Rd (Kd.int .i64) (fps []) w A504 l503.length l503)) (HGl0 : Aside0 (Gl 0 #[.int .i64 0, .int .i64 0, .int .i64 0, .int .i64 0, .int .i64 0] (fps []) w)) (HS : Aside0 (Sep (fps []) w [] w)) (H : Aside0 (pack_total.f k l503 = some r)) :
    Calls Tryz.prog 184 #[.slice A504 l503.length n505] w fun e w' => e = .returned (.int .i64 r) ∧ Sep (fps []) w [] w' := by
  unfold pack_total.f at H
  go_enter Tryz.func184, Tryz.ntmps184
  go_wp2_with fail
  obtain ⟨o519, AL520, H⟩ := bind_some H
  go_loopg [3, 8] k (fun kq v3 v8 wc => ∃ (x523 : Int) (x524 : Int), v3 = .int .i64 x523 ∧ v8 = .int .i64 x524 ∧ Aside0 (pack_total.lo0 kq l503 x523 x524 = some o519) ∧ Aside0 (Sep (fps []) w [] wc))
  case atStart => exact ⟨(0), (0), (by first | rfl | (simp [IntKind.wrap_u32]; done)), (by first | rfl | (simp [IntKind.wrap_u32]; done)), AL520, ⟨HS.out⟩⟩
  case round =>
    clear AL520 HS
    obtain ⟨x523, x524, rfl, rfl, AL520, HS⟩ := hrel
    obtain ⟨w521, rfl⟩ : ∃ x : World, x = wr := ⟨_, rfl⟩
    cases gk with
    | zero => exact absurd AL520.out (by simp [pack_total.lo0])
    | succ k522 =>
      have AL0 := AL520.out
      rw [pack_total.lo0] at AL0
      clear AL520
      have AL520 := Aside0.mk AL0
      clear AL0
      by_cases c525 : x524 < (l503.length : Int)
      · have AL520 := if_yes c525 AL520
        have c525b0 : decide (x524 < (l503.length : Int)) = true := decide_eq_true c525
        clear c525
        by_cases c526 : 0 ≤ x524
        · have AL520 := if_yes c526 AL520
          have c526b0 : decide (0 ≤ x524) = true := decide_eq_true c526
          have c526p : (0 ≤ x524) = True := eq_true c526
          clear c526
          have ip527 : (x524 < (l503.length : Int)) = True := eq_true (of_decide_eq_true c525b0)
          by_cases c529 : (rd l503 x524) < 1
          · have AL520 := if_yes c529 AL520
            have c529b0 : decide ((rd l503 x524) < 1) = true := decide_eq_true c529
            clear c529
            obtain ⟨hx528a, hx528e, hx528⟩ := Kd.at_int (Rd.read (fun _ _ _ _ h => h) HR506.out HS.out.fr) x524 (of_decide_eq_true c526b0) (of_decide_eq_true c525b0); cases hx528e
            go_wp2_with fail
            clear hx528
            have ho := some_eq AL520
            subst ho
            have H := lp_ret H
            go_ret
            rw [← some_eq H]
            exact ⟨(by first | rfl | (simp [IntKind.wrap_u32]; done)), HS.out⟩
          · have AL520 := if_no c529 AL520
            have c529b0 : decide ((rd l503 x524) < 1) = false := decide_eq_false c529
            clear c529
            by_cases c530 : (rd l503 x524) > (wrap64 (32 - x523))
            · have AL520 := if_yes c530 AL520
              have c530b0 : decide ((wrap64 (32 - x523)) < (rd l503 x524)) = true := decide_eq_true c530
              clear c530
              obtain ⟨hx528a, hx528e, hx528⟩ := Kd.at_int (Rd.read (fun _ _ _ _ h => h) HR506.out HS.out.fr) x524 (of_decide_eq_true c526b0) (of_decide_eq_true c525b0); cases hx528e
              go_wp2_with fail
              clear hx528
              have ho := some_eq AL520
              subst ho
              have H := lp_ret H
              go_ret
              rw [← some_eq H]
              exact ⟨(by first | rfl | (simp [IntKind.wrap_u32]; done)), HS.out⟩
            · have AL520 := if_no c530 AL520
              have c530b0 : decide ((wrap64 (32 - x523)) < (rd l503 x524)) = false := decide_eq_false c530
              clear c530
              obtain ⟨hx528a, hx528e, hx528⟩ := Kd.at_int (Rd.read (fun _ _ _ _ h => h) HR506.out HS.out.fr) x524 (of_decide_eq_true c526b0) (of_decide_eq_true c525b0); cases hx528e
              go_wp2_with fail
              clear hx528
              go_roundg k522
              case measure => exact Nat.lt_succ_self _
              case rel => exact ⟨(wrap64 (x523 + (rd l503 x524))), (wrap64 (x524 + 1)), (by first | rfl | (simp [IntKind.wrap_u32]; done)), (by first | rfl | (simp [IntKind.wrap_u32]; done)), Aside0.mk AL520.out, ⟨HS.out⟩⟩
        · have AL520 := if_no c526 AL520
          have c526b0 : decide (0 ≤ x524) = false := decide_eq_false c526
          clear c526
          exact (none_no AL520).elim
      · have AL520 := if_no c525 AL520
        have c525b0 : decide (x524 < (l503.length : Int)) = false := decide_eq_false c525
        clear c525
        have ho := some_eq AL520
        subst ho
        clear AL520
        have H := lp_out H
        go_wp2_with fail
        go_ret
        rw [← some_eq H]
        exact ⟨(by first | rfl | (simp [IntKind.wrap_u32]; done)), HS.out⟩

set_option maxHeartbeats 30000000 in
set_option maxRecDepth 100000 in
theorem pack_isPiece.calls (a555 : Int) (a556 : Int) (r : Bool) (w : World)  (HGl0 : Aside0 (Gl 0 #[.int .i64 0, .int .i64 0, .int .i64 0, .int .i64 0, .int .i64 0] (fps []) w)) (HS : Aside0 (Sep (fps []) w [] w)) (H : Aside0 (pack_isPiece.f a555 a556 = some r)) :
    Calls Tryz.prog 186 #[.int .i64 a555, .int .i64 a556] w fun e w' => e = .returned (.bool r) ∧ Sep (fps []) w [] w' := by
  unfold pack_isPiece.f at H
  go_enter Tryz.func186, Tryz.ntmps186
  by_cases c557 : a555 ≥ 0
  · have H := if_yes c557 H
    have c557b0 : decide (0 ≤ a555) = true := decide_eq_true c557
    clear c557
    by_cases c558 : a556 ≥ 1
    · have H := if_yes c558 H
      have c558b0 : decide (1 ≤ a556) = true := decide_eq_true c558
      clear c558
      by_cases c559 : a556 ≤ 32
      · have H := if_yes c559 H
        have c559b0 : decide (a556 ≤ 32) = true := decide_eq_true c559
        clear c559
        go_wp2_with fail
        go_ret
        rw [← some_eq H]
        exact ⟨(by first | rfl | (simp [IntKind.wrap_u32]; done)), HS.out⟩
      · have H := if_no c559 H
        have c559b0 : decide (a556 ≤ 32) = false := decide_eq_false c559
        clear c559
        go_wp2_with fail
        go_ret
        rw [← some_eq H]
        exact ⟨(by first | rfl | (simp [IntKind.wrap_u32]; done)), HS.out⟩
    · have H := if_no c558 H
      have c558b0 : decide (1 ≤ a556) = false := decide_eq_false c558
      clear c558
      go_wp2_with fail
      go_ret
      rw [← some_eq H]
      exact ⟨(by first | rfl | (simp [IntKind.wrap_u32]; done)), HS.out⟩
  · have H := if_no c557 H
    have c557b0 : decide (0 ≤ a555) = false := decide_eq_false c557
    clear c557
    go_wp2_with fail
    go_ret
    rw [← some_eq H]
    exact ⟨(by first | rfl | (simp [IntKind.wrap_u32]; done)), HS.out⟩

set_option maxHeartbeats 30000000 in
set_option maxRecDepth 100000 in
theorem pack_Fits.calls (a564 : Int) (a565 : Int) (r : Bool) (w : World)  (HGl0 : Aside0 (Gl 0 #[.int .i64 0, .int .i64 0, .int .i64 0, .int .i64 0, .int .i64 0] (fps []) w)) (HS : Aside0 (Sep (fps []) w [] w)) (H : Aside0 (pack_Fits.f a564 a565 = some r)) :
    Calls Tryz.prog 205 #[.int .u32 a564, .int .i64 a565] w fun e w' => e = .returned (.bool r) ∧ Sep (fps []) w [] w' := by
  unfold pack_Fits.f at H
  go_enter Tryz.func205, Tryz.ntmps205
  by_cases c566 : a565 ≥ 32
  · have H := if_yes c566 H
    have c566b0 : decide (32 ≤ a565) = true := decide_eq_true c566
    clear c566
    go_wp2_with fail
    go_ret
    rw [← some_eq H]
    exact ⟨(by first | rfl | (simp [IntKind.wrap_u32]; done)), HS.out⟩
  · have H := if_no c566 H
    have c566b0 : decide (32 ≤ a565) = false := decide_eq_false c566
    clear c566
    by_cases c567 : a565 < 0
    · have H := if_yes c567 H
      have c567b0 : decide (a565 < 0) = true := decide_eq_true c567
      skip
      go_wp2_with fail
      clear c567
      go_ret
      rw [← some_eq H]
      exact ⟨(by first | rfl | (simp [IntKind.wrap_u32]; done)), HS.out⟩
    · have H := if_no c567 H
      have c567b0 : decide (a565 < 0) = false := decide_eq_false c567
      by_cases c568 : 0 ≤ (IntKind.u64.wrap (a565))
      · have H := if_yes c568 H
        have c568b0 : decide (0 ≤ (IntKind.u64.wrap (a565))) = true := decide_eq_true c568
        skip
        skip
        go_wp2_with fail
        clear c567 c568
        go_ret
        rw [← some_eq H]
        exact ⟨(by first | rfl | (simp [IntKind.wrap_u32]; done)), HS.out⟩
      · have H := if_no c568 H
        have c568b0 : decide (0 ≤ (IntKind.u64.wrap (a565))) = false := decide_eq_false c568
        exact (none_no H).elim

set_option maxHeartbeats 30000000 in
set_option maxRecDepth 100000 in
theorem pack_mask.calls (a573 : Int) (a574 : Int) (r : Int) (w : World)  (HGl0 : Aside0 (Gl 0 #[.int .i64 0, .int .i64 0, .int .i64 0, .int .i64 0, .int .i64 0] (fps []) w)) (HS : Aside0 (Sep (fps []) w [] w)) (H : Aside0 (pack_mask.f a573 a574 = some r)) :
    Calls Tryz.prog 187 #[.int .i64 a573, .int .i64 a574] w fun e w' => e = .returned (.int .u32 r) ∧ Sep (fps []) w [] w' := by
  unfold pack_mask.f at H
  go_enter Tryz.func187, Tryz.ntmps187
  by_cases c575 : 0 ≤ (IntKind.u64.wrap (a574))
  · have H := if_yes c575 H
    have c575b0 : decide (0 ≤ (IntKind.u64.wrap (a574))) = true := decide_eq_true c575
    by_cases c576 : 0 ≤ (IntKind.u64.wrap (a573))
    · have H := if_yes c576 H
      have c576b0 : decide (0 ≤ (IntKind.u64.wrap (a573))) = true := decide_eq_true c576
      skip
      skip
      go_wp2_with fail
      clear c575 c576
      go_ret
      rw [← some_eq H]
      exact ⟨(by first | rfl | (simp [IntKind.wrap_u32]; done)), HS.out⟩
    · have H := if_no c576 H
      have c576b0 : decide (0 ≤ (IntKind.u64.wrap (a573))) = false := decide_eq_false c576
      exact (none_no H).elim
  · have H := if_no c575 H
    have c575b0 : decide (0 ≤ (IntKind.u64.wrap (a574))) = false := decide_eq_false c575
    exact (none_no H).elim

set_option maxHeartbeats 30000000 in
set_option maxRecDepth 100000 in
theorem pack_Put.calls (a551 : Int) (a552 : Int) (a553 : Int) (a554 : Int) (r : Int × Int) (w : World)  (HGl0 : Aside0 (Gl 0 #[.int .i64 0, .int .i64 0, .int .i64 0, .int .i64 0, .int .i64 0] (fps []) w)) (HS : Aside0 (Sep (fps []) w [] w)) (H : Aside0 (pack_Put.f a551 a552 a553 a554 = some r)) :
    Calls Tryz.prog 185 #[.int .u32 a551, .int .i64 a552, .int .i64 a553, .int .u32 a554] w fun e w' => e = .returned (.tuple #[.int .u32 r.1, .int .i64 r.2]) ∧ Sep (fps []) w [] w' := by
  unfold pack_Put.f at H
  go_enter Tryz.func185, Tryz.ntmps185
  go_wp2_with fail
  obtain ⟨t560, HA561, H⟩ := bind_some H
  refine (pack_isPiece.calls a552 a553 t560 _ ⟨HGl0.out.pass (l := []) HS.out⟩ ⟨Sep.start _⟩ HA561).mono ?_
  rintro e_ w562 ⟨rfl, hS⟩
  replace HS : Aside0 (Sep (fps []) w [] w562) := ⟨HS.out.call hS⟩
  clear hS
  by_cases c563 : t560 = true
  · have H := if_yes c563 H
    have c563b0 : t560 = true := c563
    have c563b1 : (!t560) = false := by rw [c563b0]; rfl
    try rw [c563b1]
    clear c563
    go_wp2_with fail
    obtain ⟨t569, HA570, H⟩ := bind_some H
    refine (pack_Fits.calls a554 a553 t569 _ ⟨HGl0.out.pass (l := []) HS.out⟩ ⟨Sep.start _⟩ HA570).mono ?_
    rintro e_ w571 ⟨rfl, hS⟩
    replace HS : Aside0 (Sep (fps []) w [] w571) := ⟨HS.out.call hS⟩
    clear hS
    by_cases c572 : t569 = true
    · have H := if_yes c572 H
      have c572b0 : t569 = true := c572
      have c572b1 : (!t569) = false := by rw [c572b0]; rfl
      try rw [c572b1]
      clear c572
      go_wp2_with fail
      obtain ⟨t577, HA578, H⟩ := bind_some H
      refine (pack_mask.calls a552 a553 t577 _ ⟨HGl0.out.pass (l := []) HS.out⟩ ⟨Sep.start _⟩ HA578).mono ?_
      rintro e_ w579 ⟨rfl, hS⟩
      replace HS : Aside0 (Sep (fps []) w [] w579) := ⟨HS.out.call hS⟩
      clear hS
      by_cases c580 : 0 ≤ (IntKind.u64.wrap (a552))
      · have H := if_yes c580 H
        have c580b0 : decide (0 ≤ (IntKind.u64.wrap (a552))) = true := decide_eq_true c580
        skip
        go_wp2_with fail
        clear c580
        go_ret2
        rw [← some_eq H]
        exact ⟨(by first | rfl | (simp [IntKind.wrap_u32]; done)), HS.out⟩
      · have H := if_no c580 H
        have c580b0 : decide (0 ≤ (IntKind.u64.wrap (a552))) = false := decide_eq_false c580
        exact (none_no H).elim
    · have H := if_no c572 H
      have c572b0 : t569 = false := by simpa using c572
      have c572b1 : (!t569) = true := by rw [c572b0]; rfl
      try rw [c572b1]
      clear c572
      go_wp2_with fail
      go_ret2
      rw [← some_eq H]
      exact ⟨(by first | rfl | (simp [IntKind.wrap_u32]; done)), HS.out⟩
  · have H := if_no c563 H
    have c563b0 : t560 = false := by simpa using c563
    have c563b1 : (!t560) = true := by rw [c563b0]; rfl
    try rw [c563b1]
    clear c563
    go_wp2_with fail
    go_ret2
    rw [← some_eq H]
    exact ⟨(by first | rfl | (simp [IntKind.wrap_u32]; done)), HS.out⟩

set_option maxHeartbeats 30000000 in
set_option maxRecDepth 100000 in
theorem pack_Join.calls (k : Nat) (l495 : List Int) (l499 : List Int) (A496 : Option Addr) (n497 : Nat) (A500 : Option Addr) (n501 : Nat) (r : Int × Int) (w : World) (HR498 : Aside0 (Rd (Kd.int .u32) (fps []) w A496 l495.length l495)) (HR502 : Aside0 (Rd (Kd.int .i64) (fps []) w A500 l499.length l499)) (HGl0 : Aside0 (Gl 0 #[.int .i64 0, .int .i64 0, .int .i64 0, .int .i64 0, .int .i64 0] (fps []) w)) (HS : Aside0 (Sep (fps []) w [] w)) (H : Aside0 (pack_Join.f k l495 l499 = some r)) :
    Calls Tryz.prog 155 #[.slice A496 l495.length n497, .slice A500 l499.length n501] w fun e w' => e = .returned (.tuple #[.int .u32 r.1, .int .i64 r.2]) ∧ Sep (fps []) w [] w' := by
  unfold pack_Join.f at H
  go_enter Tryz.func155, Tryz.ntmps155
  go_wp2_with fail
  obtain ⟨t532, HA533, H⟩ := bind_some H
  refine (pack_total.calls _ l499 A500 n501 t532 _ ⟨Rd.pass (l := []) (by decide) (fun _ _ _ _ h => h) HR502.out HS.out⟩ ⟨HGl0.out.pass (l := []) HS.out⟩ ⟨Sep.start _⟩ HA533).mono ?_
  rintro e_ w534 ⟨rfl, hS⟩
  replace HS : Aside0 (Sep (fps []) w [] w534) := ⟨HS.out.call hS⟩
  clear hS
  by_cases c535 : t532 < 0
  · have H := if_yes c535 H
    have c535b0 : decide (t532 < 0) = true := decide_eq_true c535
    clear c535
    go_wp2_with fail
    go_ret2
    rw [← some_eq H]
    exact ⟨(by first | rfl | (simp [IntKind.wrap_u32]; done)), HS.out⟩
  · have H := if_no c535 H
    have c535b0 : decide (t532 < 0) = false := decide_eq_false c535
    clear c535
    by_cases c536 : (l495.length : Int) = (l499.length : Int)
    · have H := if_yes c536 H
      have c536b0 : ((l495.length : Int) == (l499.length : Int)) = true := beq_iff_eq.mpr c536
      have c536b1 : ((l495.length : Int) != (l499.length : Int)) = false := bne_eq_false_iff_eq.mpr c536
      clear c536
      go_wp2_with fail
      obtain ⟨o585, AL586, H⟩ := bind_some H
      go_loopg [6, 7, 24] k (fun kq v6 v7 v24 wc => ∃ (x589 : Int) (x590 : Int) (x591 : Int), v6 = .int .u32 x589 ∧ v7 = .int .i64 x590 ∧ v24 = .int .i64 x591 ∧ Aside0 (pack_Join.lo0 kq l495 l499 x589 x590 x591 = some o585) ∧ Aside0 (Sep (fps []) w [] wc))
      case atStart => exact ⟨(0), (0), (0), (by first | rfl | (simp [IntKind.wrap_u32]; done)), (by first | rfl | (simp [IntKind.wrap_u32]; done)), (by first | rfl | (simp [IntKind.wrap_u32]; done)), AL586, ⟨HS.out⟩⟩
      case round =>
        clear AL586 HS
        obtain ⟨x589, x590, x591, rfl, rfl, rfl, AL586, HS⟩ := hrel
        obtain ⟨w587, rfl⟩ : ∃ x : World, x = wr := ⟨_, rfl⟩
        cases gk with
        | zero => exact absurd AL586.out (by simp [pack_Join.lo0])
        | succ k588 =>
          have AL0 := AL586.out
          rw [pack_Join.lo0] at AL0
          clear AL586
          have AL586 := Aside0.mk AL0
          clear AL0
          by_cases c592 : x591 < (l499.length : Int)
          · have AL586 := if_yes c592 AL586
            have c592b0 : decide (x591 < (l499.length : Int)) = true := decide_eq_true c592
            clear c592
            by_cases c593 : 0 ≤ x591
            · have AL586 := if_yes c593 AL586
              have c593b0 : decide (0 ≤ x591) = true := decide_eq_true c593
              have c593p : (0 ≤ x591) = True := eq_true c593
              clear c593
              have ip594 : (x591 < (l499.length : Int)) = True := eq_true (of_decide_eq_true c592b0)
              by_cases c596 : x591 < (l495.length : Int)
              · have AL586 := if_yes c596 AL586
                have c596b0 : decide (x591 < (l495.length : Int)) = true := decide_eq_true c596
                have c596p : (x591 < (l495.length : Int)) = True := eq_true c596
                clear c596
                obtain ⟨hx595a, hx595e, hx595⟩ := Kd.at_int (Rd.read (fun _ _ _ _ h => h) HR502.out HS.out.fr) x591 (of_decide_eq_true c593b0) (of_decide_eq_true c592b0); cases hx595e
                obtain ⟨hx597a, hx597e, hx597⟩ := Kd.at_int (Rd.read (fun _ _ _ _ h => h) HR498.out HS.out.fr) x591 (of_decide_eq_true c593b0) (of_decide_eq_true c596b0); cases hx597e
                go_wp2_with fail
                clear hx595 hx597
                obtain ⟨t581, HA598, AL586⟩ := bind_some AL586
                refine (pack_Put.calls x589 x590 (rd l499 x591) (rd l495 x591) t581 _ ⟨HGl0.out.pass (l := []) HS.out⟩ ⟨Sep.start _⟩ HA598).mono ?_
                rintro e_ w599 ⟨rfl, hS⟩
                replace HS : Aside0 (Sep (fps []) w [] w599) := ⟨HS.out.call hS⟩
                clear hS
                by_cases c600 : t581.2 = 0
                · have AL586 := if_yes c600 AL586
                  have c600b0 : (t581.2 == 0) = true := beq_iff_eq.mpr c600
                  have c600b1 : (t581.2 != 0) = false := bne_eq_false_iff_eq.mpr c600
                  clear c600
                  go_wp2_with fail
                  go_roundg k588
                  case measure => exact Nat.lt_succ_self _
                  case rel => exact ⟨(t581.1), (wrap64 (x590 + (rd l499 x591))), (wrap64 (x591 + 1)), (by first | rfl | (simp [IntKind.wrap_u32]; done)), (by first | rfl | (simp [IntKind.wrap_u32]; done)), (by first | rfl | (simp [IntKind.wrap_u32]; done)), Aside0.mk AL586.out, ⟨HS.out⟩⟩
                · have AL586 := if_no c600 AL586
                  have c600b0 : (t581.2 == 0) = false := beq_eq_false_iff_ne.mpr c600
                  have c600b1 : (t581.2 != 0) = true := bne_iff_ne.mpr c600
                  clear c600
                  go_wp2_with fail
                  have ho := some_eq AL586
                  subst ho
                  have H := lp_ret H
                  go_ret2
                  rw [← some_eq H]
                  exact ⟨(by first | rfl | (simp [IntKind.wrap_u32]; done)), HS.out⟩
              · have AL586 := if_no c596 AL586
                have c596b0 : decide (x591 < (l495.length : Int)) = false := decide_eq_false c596
                clear c596
                exact (none_no AL586).elim
            · have AL586 := if_no c593 AL586
              have c593b0 : decide (0 ≤ x591) = false := decide_eq_false c593
              clear c593
              exact (none_no AL586).elim
          · have AL586 := if_no c592 AL586
            have c592b0 : decide (x591 < (l499.length : Int)) = false := decide_eq_false c592
            clear c592
            have ho := some_eq AL586
            subst ho
            clear AL586
            have H := lp_out H
            go_wp2_with fail
            go_ret2
            rw [← some_eq H]
            exact ⟨(by first | rfl | (simp [IntKind.wrap_u32]; done)), HS.out⟩
    · have H := if_no c536 H
      have c536b0 : ((l495.length : Int) == (l499.length : Int)) = false := beq_eq_false_iff_ne.mpr c536
      have c536b1 : ((l495.length : Int) != (l499.length : Int)) = true := bne_iff_ne.mpr c536
      clear c536
      go_wp2_with fail
      go_ret2
      rw [← some_eq H]
      exact ⟨(by first | rfl | (simp [IntKind.wrap_u32]; done)), HS.out⟩

set_option maxHeartbeats 30000000 in
set_option maxRecDepth 100000 in
theorem tag_Pack.calls (k : Nat) (a288 : Int) (a289 : Int) (a290 : Int) (a291 : Int) (a292 : Int) (a293 : Int) (a294 : Int) (r : Int × Int) (w : World)  (HGl0 : Aside0 (Gl 0 #[.int .i64 0, .int .i64 0, .int .i64 0, .int .i64 0, .int .i64 0] (fps []) w)) (HS : Aside0 (Sep (fps []) w [] w)) (H : Aside0 (tag_Pack.f k a288 a289 a290 a291 a292 a293 a294 = some r)) :
    Calls Tryz.prog 106 #[.agg #[.int .i64 a288, .int .i64 a289, .int .i64 a290, .int .i64 a291, .int .i64 a292, .int .i64 a293, .int .i64 a294]] w fun e w' => e = .returned (.tuple #[.int .u32 r.1, .int .i64 r.2]) ∧ Sep (fps []) w [] w' := by
  unfold tag_Pack.f at H
  go_enter Tryz.func106, Tryz.ntmps106
  go_wp2_with (first | ((with_reducible refine gate_dst (N := 1) rfl ?_); refine box_on ?hg (N := 1) ?hd (cs := #[.int .i64 a288, .int .i64 a289, .int .i64 a290, .int .i64 a291, .int .i64 a292, .int .i64 a293, .int .i64 a294]) (t := 79) ?hr ?_; (case hd => rfl); (case hg => rfl); (case hr => first | (go_simp; done) | (go_simp; rfl)); intro g295 hg w296 hbox hb; replace HS : Aside0 (Sep (fps []) w [b3 g295 a288 a289 a290 a291 a292 a293 a294] w296) := ⟨HS.out.box hg hbox hb⟩; clear hg hbox hb; have hc298 : w296.cell? ⟨g295, 0, none⟩ = some (.int .i64 a288) := blk_cellv (HS.out.at0) 0 rfl; have hc299 : w296.cell? ⟨g295, 1, none⟩ = some (.int .i64 a289) := blk_cellv (HS.out.at0) 1 rfl; have hc300 : w296.cell? ⟨g295, 2, none⟩ = some (.int .i64 a290) := blk_cellv (HS.out.at0) 2 rfl; have hc301 : w296.cell? ⟨g295, 3, none⟩ = some (.int .i64 a291) := blk_cellv (HS.out.at0) 3 rfl; have hc302 : w296.cell? ⟨g295, 4, none⟩ = some (.int .i64 a292) := blk_cellv (HS.out.at0) 4 rfl; have hc303 : w296.cell? ⟨g295, 5, none⟩ = some (.int .i64 a293) := blk_cellv (HS.out.at0) 5 rfl; have hc304 : w296.cell? ⟨g295, 6, none⟩ = some (.int .i64 a294) := blk_cellv (HS.out.at0) 6 rfl))
  clear hc298 hc299 hc300 hc301 hc302 hc303 hc304
  obtain ⟨t437, HA438, H⟩ := bind_some H
  refine (tag_Right.calls _ a288 a289 a290 a291 a292 a293 a294 t437 _ ⟨HGl0.out.pass (l := []) HS.out⟩ ⟨Sep.start _⟩ HA438).mono ?_
  rintro e_ w439 ⟨rfl, hS⟩
  replace HS : Aside0 (Sep (fps []) w [b3 g295 a288 a289 a290 a291 a292 a293 a294] w439) := ⟨HS.out.call hS⟩
  clear hS
  by_cases c440 : t437 = true
  · have H := if_yes c440 H
    have c440b0 : t437 = true := c440
    have c440b1 : (!t437) = false := by rw [c440b0]; rfl
    try rw [c440b1]
    clear c440
    have hc441 : w439.cell? ⟨g295, 0, none⟩ = some (.int .i64 a288) := blk_cellv (HS.out.at0) 0 rfl
    go_wp2_with (first | ((with_reducible refine gate_dst (N := 13) rfl ?_); refine slice_on (n := 1) ?hg (N := 13) ?hd (cs := #[.int .u32 ((a288) % 4294967296)]) (t := 57) ?hr ?_; (case hd => rfl); (case hg => rfl); (case hr => first | (go_simp; done) | (go_simp; rfl)); intro g442 hg w443 hbox hb; clear hc441; replace HS : Aside0 (Sep (fps []) w [b3 g295 a288 a289 a290 a291 a292 a293 a294, b6 g442 ((a288) % 4294967296)] w443) := ⟨HS.out.box hg hbox hb⟩; clear hg hbox hb; have hc445 : w443.cell? ⟨g295, 0, none⟩ = some (.int .i64 a288) := blk_cellv (HS.out.at0) 0 rfl; have hc446 : w443.cell? ⟨g295, 1, none⟩ = some (.int .i64 a289) := blk_cellv (HS.out.at0) 1 rfl; have hc447 : w443.cell? ⟨g295, 2, none⟩ = some (.int .i64 a290) := blk_cellv (HS.out.at0) 2 rfl; have hc448 : w443.cell? ⟨g295, 3, none⟩ = some (.int .i64 a291) := blk_cellv (HS.out.at0) 3 rfl; have hc449 : w443.cell? ⟨g295, 4, none⟩ = some (.int .i64 a292) := blk_cellv (HS.out.at0) 4 rfl; have hc450 : w443.cell? ⟨g295, 5, none⟩ = some (.int .i64 a293) := blk_cellv (HS.out.at0) 5 rfl; have hc451 : w443.cell? ⟨g295, 6, none⟩ = some (.int .i64 a294) := blk_cellv (HS.out.at0) 6 rfl))
    clear hc445 hc446 hc447 hc448 hc449 hc450 hc451
    obtain ⟨t452, HA453, H⟩ := bind_some H
    refine (tag_marks.calls a288 a289 a290 a291 a292 a293 a294 t452 _ ⟨HGl0.out.pass (l := []) HS.out⟩ ⟨Sep.start _⟩ HA453).mono ?_
    rintro e_ w454 ⟨rfl, hS⟩
    replace HS : Aside0 (Sep (fps []) w [b3 g295 a288 a289 a290 a291 a292 a293 a294, b6 g442 ((a288) % 4294967296)] w454) := ⟨HS.out.call hS⟩
    clear hS
    go_wp2_with fail
    replace HS : Aside0 (Sep (fps []) w [b3 g295 a288 a289 a290 a291 a292 a293 a294, r7 (some ⟨g442, 0, none⟩) 1 1 [(a288) % 4294967296]] w454) := ⟨Sep.litrow (l1 := [b3 g295 a288 a289 a290 a291 a292 a293 a294]) (l2 := []) (enc := Value.int .u32) (xs := [(a288) % 4294967296]) (n := 1) HS.out rfl (by decide)⟩
    obtain ⟨o456, AL457, H⟩ := bind_some H
    go_loopg [4, 16] k (fun kq v4 v16 wc => ∃ (x461 : Int) (x462 : List Int) (A463 : Option Addr) (m464 : Nat) (n465 : Nat), v4 = .slice A463 m464 n465 ∧ v16 = .int .i64 x461 ∧ Aside0 (tag_Pack.lo0 kq t452 x461 x462 = some o456) ∧ Aside0 (Sep (fps []) w [b3 g295 a288 a289 a290 a291 a292 a293 a294, r7 A463 m464 n465 x462] wc))
    case atStart => exact ⟨(0), ([(a288) % 4294967296]), ((some ⟨g442, 0, none⟩)), (1), (1), (by first | rfl | (simp [IntKind.wrap_u32]; done)), (by first | rfl | (simp [IntKind.wrap_u32]; done)), AL457, ⟨HS.out⟩⟩
    case round =>
      clear AL457 HS
      obtain ⟨x461, x462, A463, m464, n465, rfl, rfl, AL457, HS⟩ := hrel
      obtain ⟨w458, rfl⟩ : ∃ x : World, x = wr := ⟨_, rfl⟩
      obtain rfl := (row_len (HS.out.at1)).symm
      cases gk with
      | zero => exact absurd AL457.out (by simp [tag_Pack.lo0])
      | succ k459 =>
        have AL0 := AL457.out
        rw [tag_Pack.lo0] at AL0
        clear AL457
        have AL457 := Aside0.mk AL0
        clear AL0
        by_cases c467 : x461 < 5
        · have AL457 := if_yes c467 AL457
          have c467b0 : decide (x461 < 5) = true := decide_eq_true c467
          clear c467
          by_cases c468 : 0 ≤ x461
          · have AL457 := if_yes c468 AL457
            have c468b0 : decide (0 ≤ x461) = true := decide_eq_true c468
            have c468p : (0 ≤ x461) = True := eq_true c468
            clear c468
            have ip469 : (x461 < 5) = True := eq_true (of_decide_eq_true c467b0)
            have ix470 : ∀ w, (Instr.index 174 (.agg #[.int .i64 t452.1, .int .i64 t452.2.1, .int .i64 t452.2.2.1, .int .i64 t452.2.2.2.1, .int .i64 t452.2.2.2.2]) (.int .i64 x461)).run Tryz.prog w = .ok (.int .i64 (rd [t452.1, t452.2.1, t452.2.2.1, t452.2.2.2.1, t452.2.2.2.2] x461)) w := run_index_ints 174 3 5 .i64 .i64 [t452.1, t452.2.1, t452.2.2.1, t452.2.2.2.1, t452.2.2.2.2] x461 Tryz.underlying174 (fun _ => by kernel_rfl) (fun _ => by kernel_rfl) rfl (of_decide_eq_true c468b0) (of_decide_eq_true c467b0)
            by_cases c474 : x462.length < 35184372088832
            · have AL457 := if_yes c474 AL457
              have c474b0 : decide (x462.length < 35184372088832) = true := decide_eq_true c474
              clear c474
              obtain ⟨y478, HA479, AL457⟩ := bind_some AL457
              go_wp2_with (first | ((with_reducible refine gate_dst (N := 22) rfl ?_); refine slice_on (n := 1) ?hg (N := 22) ?hd (cs := #[.int .u32 ((rd [t452.1, t452.2.1, t452.2.2.1, t452.2.2.2.1, t452.2.2.2.2] x461) % 4294967296)]) (t := 57) ?hr ?_; (case hd => rfl); (case hg => rfl); (case hr => first | (go_simp; done) | (go_simp; rfl)); intro g471 hg w472 hbox hb; replace HS : Aside0 (Sep (fps []) w [b3 g295 a288 a289 a290 a291 a292 a293 a294, r7 A463 x462.length n465 x462, b6 g471 ((rd [t452.1, t452.2.1, t452.2.2.1, t452.2.2.2.1, t452.2.2.2.2] x461) % 4294967296)] w472) := ⟨HS.out.box hg hbox hb⟩; clear hg hbox hb) | ((with_reducible refine gate_dst (N := 23) rfl ?_); refine append_event (l1 := [b3 g295 a288 a289 a290 a291 a292 a293 a294]) (l2 := [b6 g471 ((rd [t452.1, t452.2.1, t452.2.2.1, t452.2.2.2.1, t452.2.2.2.2] x461) % 4294967296)]) rfl (.tmp 19) (.tmp 22) 134 57 (.int .u32 0) 4 rfl Tryz.underlying134 (by kernel_rfl) rfl (by decide) (Value.int .u32) (fun _ => rfl) (.slice A463 x462.length n465) (x462 : List Int) [(rd [t452.1, t452.2.1, t452.2.2.1, t452.2.2.2.1, t452.2.2.2.2] x461) % 4294967296] ⟨g471, 0, none⟩ 1 rfl rfl (blk_news (xs := [(rd [t452.1, t452.2.1, t452.2.2.1, t452.2.2.2.1, t452.2.2.2.2] x461) % 4294967296]) (HS.out.at2)) HS.out (by have := of_decide_eq_true c474b0; simp only [List.length_cons, List.length_nil]; omega) HA479 ?_; intro A475 n476 w477 HS1; replace HS : Aside0 (Sep (fps []) w [b3 g295 a288 a289 a290 a291 a292 a293 a294, r7 A475 y478.length n476 y478, b6 g471 ((rd [t452.1, t452.2.1, t452.2.2.1, t452.2.2.2.1, t452.2.2.2.2] x461) % 4294967296)] w477) := ⟨HS1⟩; clear HS1; replace HS : Aside0 (Sep (fps []) w [b3 g295 a288 a289 a290 a291 a292 a293 a294, r7 A475 y478.length n476 y478] w477) := ⟨HS.out.sub (.cons_cons _ (.cons_cons _ (.cons _ .slnil)))⟩))
              go_roundg k459
              case measure => exact Nat.lt_succ_self _
              case rel => exact ⟨(wrap64 (x461 + 1)), (y478), (A475), (y478.length), (n476), (by first | rfl | (simp [IntKind.wrap_u32]; done)), (by first | rfl | (simp [IntKind.wrap_u32]; done)), Aside0.mk AL457.out, ⟨HS.out⟩⟩
            · have AL457 := if_no c474 AL457
              have c474b0 : decide (x462.length < 35184372088832) = false := decide_eq_false c474
              clear c474
              exact (none_no AL457).elim
          · have AL457 := if_no c468 AL457
            have c468b0 : decide (0 ≤ x461) = false := decide_eq_false c468
            clear c468
            exact (none_no AL457).elim
        · have AL457 := if_no c467 AL457
          have c467b0 : decide (x461 < 5) = false := decide_eq_false c467
          clear c467
          have ho := some_eq AL457
          subst ho
          clear AL457
          by_cases c485 : x462.length < 35184372088831
          · have H := if_yes c485 H
            have c485b0 : decide (x462.length < 35184372088831) = true := decide_eq_true c485
            clear c485
            obtain ⟨y489, HA490, H⟩ := bind_some H
            have hc481 : w458.cell? ⟨g295, 6, none⟩ = some (.int .i64 a294) := blk_cellv (HS.out.at0) 6 rfl
            go_wp2_with (first | ((with_reducible refine gate_dst (N := 29) rfl ?_); refine slice_on (n := 2) ?hg (N := 29) ?hd (cs := #[.int .u32 0, .int .u32 ((a294) % 4294967296)]) (t := 57) ?hr ?_; (case hd => rfl); (case hg => rfl); (case hr => first | (go_simp; done) | (go_simp; rfl)); intro g482 hg w483 hbox hb; clear hc481; replace HS : Aside0 (Sep (fps []) w [b3 g295 a288 a289 a290 a291 a292 a293 a294, r7 A463 x462.length n465 x462, b8 g482 0 ((a294) % 4294967296)] w483) := ⟨HS.out.box hg hbox hb⟩; clear hg hbox hb) | ((with_reducible refine gate_dst (N := 30) rfl ?_); refine append_event (l1 := [b3 g295 a288 a289 a290 a291 a292 a293 a294]) (l2 := [b8 g482 0 ((a294) % 4294967296)]) rfl (.tmp 25) (.tmp 29) 134 57 (.int .u32 0) 4 rfl Tryz.underlying134 (by kernel_rfl) rfl (by decide) (Value.int .u32) (fun _ => rfl) (.slice A463 x462.length n465) (x462 : List Int) [0, (a294) % 4294967296] ⟨g482, 0, none⟩ 2 rfl rfl (blk_news (xs := [0, (a294) % 4294967296]) (HS.out.at2)) HS.out (by have := of_decide_eq_true c485b0; simp only [List.length_cons, List.length_nil]; omega) HA490 ?_; intro A486 n487 w488 HS1; replace HS : Aside0 (Sep (fps []) w [b3 g295 a288 a289 a290 a291 a292 a293 a294, r7 A486 y489.length n487 y489, b8 g482 0 ((a294) % 4294967296)] w488) := ⟨HS1⟩; clear HS1) | ((with_reducible refine gate_dst (N := 31) rfl ?_); refine slice_on (n := 8) ?hg (N := 31) ?hd (cs := #[.int .i64 2, .int .i64 1, .int .i64 1, .int .i64 1, .int .i64 1, .int .i64 1, .int .i64 1, .int .i64 24]) (t := 3) ?hr ?_; (case hd => rfl); (case hg => rfl); (case hr => first | (go_simp; done) | (go_simp; rfl)); intro g492 hg w493 hbox hb; replace HS : Aside0 (Sep (fps []) w [b3 g295 a288 a289 a290 a291 a292 a293 a294, r7 A486 y489.length n487 y489, b8 g482 0 ((a294) % 4294967296), b9 g492 2 1 1 1 1 1 1 24] w493) := ⟨HS.out.box hg hbox hb⟩; clear hg hbox hb))
            obtain ⟨t602, HA603, H⟩ := bind_some H
            refine (pack_Join.calls _ y489 [2, 1, 1, 1, 1, 1, 1, 24] A486 n487 (some ⟨g492, 0, none⟩) 8 t602 _ ⟨Rd.ownI (l := []) HS.out 1 rfl⟩ ⟨Rd.lit (l := []) (xs := [2, 1, 1, 1, 1, 1, 1, 24]) HS.out 3 rfl (by simp)⟩ ⟨HGl0.out.pass (l := []) HS.out⟩ ⟨Sep.start _⟩ HA603).mono ?_
            rintro e_ w604 ⟨rfl, hS⟩
            replace HS : Aside0 (Sep (fps []) w [b3 g295 a288 a289 a290 a291 a292 a293 a294, r7 A486 y489.length n487 y489, b8 g482 0 ((a294) % 4294967296), b9 g492 2 1 1 1 1 1 1 24] w604) := ⟨HS.out.call hS⟩
            clear hS
            replace HS : Aside0 (Sep (fps []) w [] w604) := ⟨HS.out.sub (.cons _ (.cons _ (.cons _ (.cons _ .slnil))))⟩
            go_wp2_with fail
            go_ret2
            rw [← some_eq H]
            exact ⟨(by first | rfl | (simp [IntKind.wrap_u32]; done)), HS.out⟩
          · have H := if_no c485 H
            have c485b0 : decide (x462.length < 35184372088831) = false := decide_eq_false c485
            clear c485
            exact (none_no H).elim
  · have H := if_no c440 H
    have c440b0 : t437 = false := by simpa using c440
    have c440b1 : (!t437) = true := by rw [c440b0]; rfl
    try rw [c440b1]
    clear c440
    replace HS : Aside0 (Sep (fps []) w [] w439) := ⟨HS.out.sub (.cons _ .slnil)⟩
    go_wp2_with fail
    go_ret2
    rw [← some_eq H]
    exact ⟨(by first | rfl | (simp [IntKind.wrap_u32]; done)), HS.out⟩

set_option maxHeartbeats 30000000 in
set_option maxRecDepth 100000 in
theorem tint_change_nil_F52.calls (k : Nat) (a123 : Int) (a128 : Int) (g125 : Nat) (g127 : Nat) (r : Bool) (w : World)  (HGl0 : Aside0 (Gl 0 #[.int .i64 0, .int .i64 0, .int .i64 0, .int .i64 0, .int .i64 0] (fps [b1 g125, b2 g127 a128]) w)) (HS : Aside0 (Sep (fps [b1 g125, b2 g127 a128]) w [b1 g125, b2 g127 a128] w)) (H : Aside0 (tint_change_nil_F52.f k a123 a128 = some r)) :
    Calls Tryz.prog 51 #[.pointer none, .int .i64 a123, .func (.func 52) #[] #[.pointer (some ⟨g125, 0, none⟩), .pointer (some ⟨g127, 0, none⟩)]] w fun e w' => e = .returned (.bool r) ∧ Sep (fps [b1 g125, b2 g127 a128]) w [b1 g125, b2 g127 a128] w' := by
  generalize (fps [b1 g125, b2 g127 a128]) = FF at HS HGl0 ⊢
  unfold tint_change_nil_F52.f at H
  go_enter Tryz.func51, Tryz.ntmps51
  go_wp2_with fail
  obtain ⟨t155, HA156, H⟩ := bind_some H
  refine (tint_of_nil.calls a123 t155 _ ⟨HGl0.out.pass (l := []) HS.out⟩ ⟨Sep.start _⟩ HA156).mono ?_
  rintro e_ w157 ⟨rfl, hS⟩
  replace HS : Aside0 (Sep FF w [b1 g125, b2 g127 a128] w157) := ⟨HS.out.call hS⟩
  clear hS
  by_cases c176 : t155.2.2.2.2.2.2.2 = true
  · have H := if_yes c176 H
    have c176b0 : t155.2.2.2.2.2.2.2 = true := c176
    have c176b1 : (!t155.2.2.2.2.2.2.2) = false := by rw [c176b0]; rfl
    try rw [c176b1]
    clear c176
    go_wp2_with (first | ((with_reducible refine gate_dst (N := 7) rfl ?_); refine box_on ?hg (N := 7) ?hd (cs := #[.int .i64 0, .int .i64 0, .int .i64 0, .int .i64 0, .int .i64 0, .int .i64 0, .int .i64 0]) (t := 79) ?hr ?_; (case hd => rfl); (case hg => rfl); (case hr => first | (go_simp; done) | (go_simp; rfl)); intro g158 hg w159 hbox hb; replace HS : Aside0 (Sep FF w [b1 g125, b2 g127 a128, b3 g158 0 0 0 0 0 0 0] w159) := ⟨HS.out.box hg hbox hb⟩; clear hg hbox hb; have hc161 : w159.cell? ⟨g158, 0, none⟩ = some (.int .i64 0) := blk_cellv (HS.out.at2) 0 rfl; have hz162 : w159.frozen? ⟨g158, 0, none⟩ = false := blk_fz (HS.out.at2) 0; have hc163 : w159.cell? ⟨g158, 1, none⟩ = some (.int .i64 0) := blk_cellv (HS.out.at2) 1 rfl; have hz164 : w159.frozen? ⟨g158, 1, none⟩ = false := blk_fz (HS.out.at2) 1; have hc165 : w159.cell? ⟨g158, 2, none⟩ = some (.int .i64 0) := blk_cellv (HS.out.at2) 2 rfl; have hz166 : w159.frozen? ⟨g158, 2, none⟩ = false := blk_fz (HS.out.at2) 2; have hc167 : w159.cell? ⟨g158, 3, none⟩ = some (.int .i64 0) := blk_cellv (HS.out.at2) 3 rfl; have hz168 : w159.frozen? ⟨g158, 3, none⟩ = false := blk_fz (HS.out.at2) 3; have hc169 : w159.cell? ⟨g158, 4, none⟩ = some (.int .i64 0) := blk_cellv (HS.out.at2) 4 rfl; have hz170 : w159.frozen? ⟨g158, 4, none⟩ = false := blk_fz (HS.out.at2) 4; have hc171 : w159.cell? ⟨g158, 5, none⟩ = some (.int .i64 0) := blk_cellv (HS.out.at2) 5 rfl; have hz172 : w159.frozen? ⟨g158, 5, none⟩ = false := blk_fz (HS.out.at2) 5; have hc173 : w159.cell? ⟨g158, 6, none⟩ = some (.int .i64 0) := blk_cellv (HS.out.at2) 6 rfl; have hz174 : w159.frozen? ⟨g158, 6, none⟩ = false := blk_fz (HS.out.at2) 6) | ((with_reducible refine gate_store (t := 79) (p := 7) rfl ?_); refine store_event (w1 := (World.setCell (World.setCell (World.setCell (World.setCell (World.setCell (World.setCell (World.setCell w159 ⟨g158, 0, none⟩ (.int .i64 t155.1)) ⟨g158, 1, none⟩ (.int .i64 t155.2.1)) ⟨g158, 2, none⟩ (.int .i64 t155.2.2.1)) ⟨g158, 3, none⟩ (.int .i64 t155.2.2.2.1)) ⟨g158, 4, none⟩ (.int .i64 t155.2.2.2.2.1)) ⟨g158, 5, none⟩ (.int .i64 t155.2.2.2.2.2.1)) ⟨g158, 6, none⟩ (.int .i64 t155.2.2.2.2.2.2.1))) rfl (t := 79) (p := 7) rfl rfl ?hr ?_; (case hr => first | (go_simp; done) | (go_simp; rfl)); intro w175 hst; clear hc161 hz162 hc163 hz164 hc165 hz166 hc167 hz168 hc169 hz170 hc171 hz172 hc173 hz174; replace HS : Aside0 (Sep FF w [b1 g125, b2 g127 a128, b3 g158 t155.1 t155.2.1 t155.2.2.1 t155.2.2.2.1 t155.2.2.2.2.1 t155.2.2.2.2.2.1 t155.2.2.2.2.2.2.1] w175) := ⟨by rw [hst]; exact HS.out.setAll (l1 := [b1 g125, b2 g127 a128]) (l2 := []) [.int .i64 t155.1, .int .i64 t155.2.1, .int .i64 t155.2.2.1, .int .i64 t155.2.2.2.1, .int .i64 t155.2.2.2.2.1, .int .i64 t155.2.2.2.2.2.1, .int .i64 t155.2.2.2.2.2.2.1] rfl⟩; clear hst))
    obtain ⟨t177, HA178, H⟩ := bind_some H
    refine (tint_Parity_nil.calls t177 _ ⟨HGl0.out.pass (l := []) HS.out⟩ ⟨Sep.start _⟩ HA178).mono ?_
    rintro e_ w179 ⟨rfl, hS⟩
    replace HS : Aside0 (Sep FF w [b1 g125, b2 g127 a128, b3 g158 t155.1 t155.2.1 t155.2.2.1 t155.2.2.2.1 t155.2.2.2.2.1 t155.2.2.2.2.2.1 t155.2.2.2.2.2.2.1] w179) := ⟨HS.out.call hS⟩
    clear hS
    go_wp2_with fail
    replace HS : Aside0 (Sep FF w [b2 g127 a128, b1 g125, b3 g158 t155.1 t155.2.1 t155.2.2.1 t155.2.2.2.1 t155.2.2.2.2.1 t155.2.2.2.2.2.1 t155.2.2.2.2.2.2.1] w179) := ⟨HS.out.front 1 (by simp)⟩
    replace HS : Aside0 (Sep FF w [b1 g125, b2 g127 a128, b3 g158 t155.1 t155.2.1 t155.2.2.1 t155.2.2.2.1 t155.2.2.2.2.1 t155.2.2.2.2.2.1 t155.2.2.2.2.2.2.1] w179) := ⟨HS.out.front 1 (by simp)⟩
    replace HS : Aside0 (Sep FF w [b3 g158 t155.1 t155.2.1 t155.2.2.1 t155.2.2.2.1 t155.2.2.2.2.1 t155.2.2.2.2.2.1 t155.2.2.2.2.2.2.1, b1 g125, b2 g127 a128] w179) := ⟨HS.out.front 2 (by simp)⟩
    obtain ⟨t278, HA279, H⟩ := bind_some H
    refine (tint_Dye_1.calls t155.1 t155.2.1 t155.2.2.1 t155.2.2.2.1 t155.2.2.2.2.1 t155.2.2.2.2.2.1 t155.2.2.2.2.2.2.1 t177 a128 g158 g125 g127 t278 _ ⟨HGl0.out.pass HS.out⟩ ⟨HS.out.begin⟩ HA279).mono ?_
    rintro e_ w280 ⟨rfl, hS⟩
    replace HS : Aside0 (Sep FF w [b3 g158 t155.1 t278.1 t278.2.1 t278.2.2 t155.2.2.2.2.1 t155.2.2.2.2.2.1 t155.2.2.2.2.2.2.1, b1 g125, b2 g127 a128] w280) := ⟨HS.out.call hS⟩
    clear hS
    have hc281 : w280.cell? ⟨g158, 0, none⟩ = some (.int .i64 t155.1) := blk_cellv (HS.out.at0) 0 rfl
    have hc282 : w280.cell? ⟨g158, 1, none⟩ = some (.int .i64 t278.1) := blk_cellv (HS.out.at0) 1 rfl
    have hc283 : w280.cell? ⟨g158, 2, none⟩ = some (.int .i64 t278.2.1) := blk_cellv (HS.out.at0) 2 rfl
    have hc284 : w280.cell? ⟨g158, 3, none⟩ = some (.int .i64 t278.2.2) := blk_cellv (HS.out.at0) 3 rfl
    have hc285 : w280.cell? ⟨g158, 4, none⟩ = some (.int .i64 t155.2.2.2.2.1) := blk_cellv (HS.out.at0) 4 rfl
    have hc286 : w280.cell? ⟨g158, 5, none⟩ = some (.int .i64 t155.2.2.2.2.2.1) := blk_cellv (HS.out.at0) 5 rfl
    have hc287 : w280.cell? ⟨g158, 6, none⟩ = some (.int .i64 t155.2.2.2.2.2.2.1) := blk_cellv (HS.out.at0) 6 rfl
    go_wp2_with fail
    clear hc281 hc282 hc283 hc284 hc285 hc286 hc287
    obtain ⟨t624, HA625, H⟩ := bind_some H
    refine (tag_Pack.calls _ t155.1 t278.1 t278.2.1 t278.2.2 t155.2.2.2.2.1 t155.2.2.2.2.2.1 t155.2.2.2.2.2.2.1 t624 _ ⟨HGl0.out.pass (l := []) HS.out⟩ ⟨Sep.start _⟩ HA625).mono ?_
    rintro e_ w626 ⟨rfl, hS⟩
    replace HS : Aside0 (Sep FF w [b3 g158 t155.1 t278.1 t278.2.1 t278.2.2 t155.2.2.2.2.1 t155.2.2.2.2.2.1 t155.2.2.2.2.2.2.1, b1 g125, b2 g127 a128] w626) := ⟨HS.out.call hS⟩
    clear hS
    by_cases c627 : t624.2 = 0
    · have H := if_yes c627 H
      have c627b0 : (t624.2 == 0) = true := beq_iff_eq.mpr c627
      have c627b1 : (t624.2 != 0) = false := bne_eq_false_iff_eq.mpr c627
      clear c627
      replace HS : Aside0 (Sep FF w [b1 g125, b2 g127 a128] w626) := ⟨HS.out.sub (.cons _ (.cons_cons _ (.cons_cons _ .slnil)))⟩
      go_wp2_with fail
      obtain ⟨t628, HA629, H⟩ := bind_some H
      refine (ground_Ground_SetWord_nil.calls (wrap64 (a123 - 1)) 0 t624.1 t628 _ ⟨HGl0.out.pass (l := []) HS.out⟩ ⟨Sep.start _⟩ HA629).mono ?_
      rintro e_ w630 ⟨rfl, hS⟩
      replace HS : Aside0 (Sep FF w [b1 g125, b2 g127 a128] w630) := ⟨HS.out.call hS⟩
      clear hS
      go_wp2_with fail
      go_ret
      rw [← some_eq H]
      exact ⟨(by first | rfl | (simp [IntKind.wrap_u32]; done)), HS.out⟩
    · have H := if_no c627 H
      have c627b0 : (t624.2 == 0) = false := beq_eq_false_iff_ne.mpr c627
      have c627b1 : (t624.2 != 0) = true := bne_iff_ne.mpr c627
      clear c627
      replace HS : Aside0 (Sep FF w [b1 g125, b2 g127 a128] w626) := ⟨HS.out.sub (.cons _ (.cons_cons _ (.cons_cons _ .slnil)))⟩
      go_wp2_with fail
      go_ret
      rw [← some_eq H]
      exact ⟨(by first | rfl | (simp [IntKind.wrap_u32]; done)), HS.out⟩
  · have H := if_no c176 H
    have c176b0 : t155.2.2.2.2.2.2.2 = false := by simpa using c176
    have c176b1 : (!t155.2.2.2.2.2.2.2) = true := by rw [c176b0]; rfl
    try rw [c176b1]
    clear c176
    go_wp2_with (first | ((with_reducible refine gate_dst (N := 7) rfl ?_); refine box_on ?hg (N := 7) ?hd (cs := #[.int .i64 0, .int .i64 0, .int .i64 0, .int .i64 0, .int .i64 0, .int .i64 0, .int .i64 0]) (t := 79) ?hr ?_; (case hd => rfl); (case hg => rfl); (case hr => first | (go_simp; done) | (go_simp; rfl)); intro g158 hg w159 hbox hb; replace HS : Aside0 (Sep FF w [b1 g125, b2 g127 a128, b3 g158 0 0 0 0 0 0 0] w159) := ⟨HS.out.box hg hbox hb⟩; clear hg hbox hb; have hc161 : w159.cell? ⟨g158, 0, none⟩ = some (.int .i64 0) := blk_cellv (HS.out.at2) 0 rfl; have hz162 : w159.frozen? ⟨g158, 0, none⟩ = false := blk_fz (HS.out.at2) 0; have hc163 : w159.cell? ⟨g158, 1, none⟩ = some (.int .i64 0) := blk_cellv (HS.out.at2) 1 rfl; have hz164 : w159.frozen? ⟨g158, 1, none⟩ = false := blk_fz (HS.out.at2) 1; have hc165 : w159.cell? ⟨g158, 2, none⟩ = some (.int .i64 0) := blk_cellv (HS.out.at2) 2 rfl; have hz166 : w159.frozen? ⟨g158, 2, none⟩ = false := blk_fz (HS.out.at2) 2; have hc167 : w159.cell? ⟨g158, 3, none⟩ = some (.int .i64 0) := blk_cellv (HS.out.at2) 3 rfl; have hz168 : w159.frozen? ⟨g158, 3, none⟩ = false := blk_fz (HS.out.at2) 3; have hc169 : w159.cell? ⟨g158, 4, none⟩ = some (.int .i64 0) := blk_cellv (HS.out.at2) 4 rfl; have hz170 : w159.frozen? ⟨g158, 4, none⟩ = false := blk_fz (HS.out.at2) 4; have hc171 : w159.cell? ⟨g158, 5, none⟩ = some (.int .i64 0) := blk_cellv (HS.out.at2) 5 rfl; have hz172 : w159.frozen? ⟨g158, 5, none⟩ = false := blk_fz (HS.out.at2) 5; have hc173 : w159.cell? ⟨g158, 6, none⟩ = some (.int .i64 0) := blk_cellv (HS.out.at2) 6 rfl; have hz174 : w159.frozen? ⟨g158, 6, none⟩ = false := blk_fz (HS.out.at2) 6) | ((with_reducible refine gate_store (t := 79) (p := 7) rfl ?_); refine store_event (w1 := (World.setCell (World.setCell (World.setCell (World.setCell (World.setCell (World.setCell (World.setCell w159 ⟨g158, 0, none⟩ (.int .i64 t155.1)) ⟨g158, 1, none⟩ (.int .i64 t155.2.1)) ⟨g158, 2, none⟩ (.int .i64 t155.2.2.1)) ⟨g158, 3, none⟩ (.int .i64 t155.2.2.2.1)) ⟨g158, 4, none⟩ (.int .i64 t155.2.2.2.2.1)) ⟨g158, 5, none⟩ (.int .i64 t155.2.2.2.2.2.1)) ⟨g158, 6, none⟩ (.int .i64 t155.2.2.2.2.2.2.1))) rfl (t := 79) (p := 7) rfl rfl ?hr ?_; (case hr => first | (go_simp; done) | (go_simp; rfl)); intro w175 hst; clear hc161 hz162 hc163 hz164 hc165 hz166 hc167 hz168 hc169 hz170 hc171 hz172 hc173 hz174; replace HS : Aside0 (Sep FF w [b1 g125, b2 g127 a128, b3 g158 t155.1 t155.2.1 t155.2.2.1 t155.2.2.2.1 t155.2.2.2.2.1 t155.2.2.2.2.2.1 t155.2.2.2.2.2.2.1] w175) := ⟨by rw [hst]; exact HS.out.setAll (l1 := [b1 g125, b2 g127 a128]) (l2 := []) [.int .i64 t155.1, .int .i64 t155.2.1, .int .i64 t155.2.2.1, .int .i64 t155.2.2.2.1, .int .i64 t155.2.2.2.2.1, .int .i64 t155.2.2.2.2.2.1, .int .i64 t155.2.2.2.2.2.2.1] rfl⟩; clear hst; replace HS : Aside0 (Sep FF w [b1 g125, b2 g127 a128] w175) := ⟨HS.out.sub (.cons_cons _ (.cons_cons _ (.cons _ .slnil)))⟩))
    go_ret
    rw [← some_eq H]
    exact ⟨(by first | rfl | (simp [IntKind.wrap_u32]; done)), HS.out⟩

set_option maxHeartbeats 30000000 in
set_option maxRecDepth 100000 in
theorem tint_Dye_nil.calls (k : Nat) (a114 : Int) (r : Bool) (w : World)  (HGl0 : Aside0 (Gl 0 #[.int .i64 0, .int .i64 0, .int .i64 0, .int .i64 0, .int .i64 0] (fps []) w)) (HS : Aside0 (Sep (fps []) w [] w)) (H : Aside0 (tint_Dye_nil.f k a114 = some r)) :
    Calls Tryz.prog 12 #[.pointer none, .int .i64 a114] w fun e w' => e = .returned (.bool r) ∧ Sep (fps []) w [] w' := by
  unfold tint_Dye_nil.f at H
  go_enter Tryz.func12, Tryz.ntmps12
  go_wp2_with (first | ((with_reducible refine gate_dst (N := 2) rfl ?_); refine box_on ?hg (N := 2) ?hd (cs := #[.pointer none]) (t := 24) ?hr ?_; (case hd => rfl); (case hg => rfl); (case hr => first | (go_simp; done) | (go_simp; rfl)); intro g115 hg w116 hbox hb; replace HS : Aside0 (Sep (fps []) w [b1 g115] w116) := ⟨HS.out.box hg hbox hb⟩; clear hg hbox hb) | ((with_reducible refine gate_dst (N := 3) rfl ?_); refine box_on ?hg (N := 3) ?hd (cs := #[.int .i64 a114]) (t := 3) ?hr ?_; (case hd => rfl); (case hg => rfl); (case hr => first | (go_simp; done) | (go_simp; rfl)); intro g118 hg w119 hbox hb; replace HS : Aside0 (Sep (fps []) w [b1 g115, b2 g118 a114] w119) := ⟨HS.out.box hg hbox hb⟩; clear hg hbox hb; have hc121 : w119.cell? ⟨g115, 0, none⟩ = some (.pointer none) := blk_cellv (HS.out.at0) 0 rfl; have hc122 : w119.cell? ⟨g118, 0, none⟩ = some (.int .i64 a114) := blk_cellv (HS.out.at1) 0 rfl))
  clear hc121 hc122
  obtain ⟨t631, HA632, H⟩ := bind_some H
  refine (tint_change_nil_F52.calls _ a114 a114 g115 g118 t631 _ ⟨HGl0.out.pass HS.out⟩ ⟨HS.out.begin⟩ HA632).mono ?_
  rintro e_ w633 ⟨rfl, hS⟩
  replace HS : Aside0 (Sep (fps []) w [b1 g115, b2 g118 a114] w633) := ⟨HS.out.call hS⟩
  clear hS
  replace HS : Aside0 (Sep (fps []) w [] w633) := ⟨HS.out.sub (.cons _ (.cons _ .slnil))⟩
  go_wp2_with fail
  go_ret
  rw [← some_eq H]
  exact ⟨(by first | rfl | (simp [IntKind.wrap_u32]; done)), HS.out⟩

set_option maxHeartbeats 30000000 in
set_option maxRecDepth 100000 in
theorem tint_Black_nil.calls (a638 : Int) (r : Bool) (w : World)  (HGl0 : Aside0 (Gl 0 #[.int .i64 0, .int .i64 0, .int .i64 0, .int .i64 0, .int .i64 0] (fps []) w)) (HS : Aside0 (Sep (fps []) w [] w)) (H : Aside0 (tint_Black_nil.f a638 = some r)) :
    Calls Tryz.prog 16 #[.pointer none, .int .i64 a638] w fun e w' => e = .returned (.bool r) ∧ Sep (fps []) w [] w' := by
  unfold tint_Black_nil.f at H
  go_enter Tryz.func16, Tryz.ntmps16
  go_wp2_with fail
  obtain ⟨t639, HA640, H⟩ := bind_some H
  refine (tint_of_nil.calls a638 t639 _ ⟨HGl0.out.pass (l := []) HS.out⟩ ⟨Sep.start _⟩ HA640).mono ?_
  rintro e_ w641 ⟨rfl, hS⟩
  replace HS : Aside0 (Sep (fps []) w [] w641) := ⟨HS.out.call hS⟩
  clear hS
  go_wp2_with (first | ((with_reducible refine gate_dst (N := 5) rfl ?_); refine box_on ?hg (N := 5) ?hd (cs := #[.int .i64 0, .int .i64 0, .int .i64 0, .int .i64 0, .int .i64 0, .int .i64 0, .int .i64 0]) (t := 79) ?hr ?_; (case hd => rfl); (case hg => rfl); (case hr => first | (go_simp; done) | (go_simp; rfl)); intro g642 hg w643 hbox hb; replace HS : Aside0 (Sep (fps []) w [b3 g642 0 0 0 0 0 0 0] w643) := ⟨HS.out.box hg hbox hb⟩; clear hg hbox hb; have hc645 : w643.cell? ⟨g642, 0, none⟩ = some (.int .i64 0) := blk_cellv (HS.out.at0) 0 rfl; have hz646 : w643.frozen? ⟨g642, 0, none⟩ = false := blk_fz (HS.out.at0) 0; have hc647 : w643.cell? ⟨g642, 1, none⟩ = some (.int .i64 0) := blk_cellv (HS.out.at0) 1 rfl; have hz648 : w643.frozen? ⟨g642, 1, none⟩ = false := blk_fz (HS.out.at0) 1; have hc649 : w643.cell? ⟨g642, 2, none⟩ = some (.int .i64 0) := blk_cellv (HS.out.at0) 2 rfl; have hz650 : w643.frozen? ⟨g642, 2, none⟩ = false := blk_fz (HS.out.at0) 2; have hc651 : w643.cell? ⟨g642, 3, none⟩ = some (.int .i64 0) := blk_cellv (HS.out.at0) 3 rfl; have hz652 : w643.frozen? ⟨g642, 3, none⟩ = false := blk_fz (HS.out.at0) 3; have hc653 : w643.cell? ⟨g642, 4, none⟩ = some (.int .i64 0) := blk_cellv (HS.out.at0) 4 rfl; have hz654 : w643.frozen? ⟨g642, 4, none⟩ = false := blk_fz (HS.out.at0) 4; have hc655 : w643.cell? ⟨g642, 5, none⟩ = some (.int .i64 0) := blk_cellv (HS.out.at0) 5 rfl; have hz656 : w643.frozen? ⟨g642, 5, none⟩ = false := blk_fz (HS.out.at0) 5; have hc657 : w643.cell? ⟨g642, 6, none⟩ = some (.int .i64 0) := blk_cellv (HS.out.at0) 6 rfl; have hz658 : w643.frozen? ⟨g642, 6, none⟩ = false := blk_fz (HS.out.at0) 6) | ((with_reducible refine gate_store (t := 79) (p := 5) rfl ?_); refine store_event (w1 := (World.setCell (World.setCell (World.setCell (World.setCell (World.setCell (World.setCell (World.setCell w643 ⟨g642, 0, none⟩ (.int .i64 t639.1)) ⟨g642, 1, none⟩ (.int .i64 t639.2.1)) ⟨g642, 2, none⟩ (.int .i64 t639.2.2.1)) ⟨g642, 3, none⟩ (.int .i64 t639.2.2.2.1)) ⟨g642, 4, none⟩ (.int .i64 t639.2.2.2.2.1)) ⟨g642, 5, none⟩ (.int .i64 t639.2.2.2.2.2.1)) ⟨g642, 6, none⟩ (.int .i64 t639.2.2.2.2.2.2.1))) rfl (t := 79) (p := 5) rfl rfl ?hr ?_; (case hr => first | (go_simp; done) | (go_simp; rfl)); intro w659 hst; clear hc645 hz646 hc647 hz648 hc649 hz650 hc651 hz652 hc653 hz654 hc655 hz656 hc657 hz658; replace HS : Aside0 (Sep (fps []) w [b3 g642 t639.1 t639.2.1 t639.2.2.1 t639.2.2.2.1 t639.2.2.2.2.1 t639.2.2.2.2.2.1 t639.2.2.2.2.2.2.1] w659) := ⟨by rw [hst]; exact HS.out.setAll (l1 := []) (l2 := []) [.int .i64 t639.1, .int .i64 t639.2.1, .int .i64 t639.2.2.1, .int .i64 t639.2.2.2.1, .int .i64 t639.2.2.2.2.1, .int .i64 t639.2.2.2.2.2.1, .int .i64 t639.2.2.2.2.2.2.1] rfl⟩; clear hst))
  refine start_ (n := 9) (S := (fun w' => w'.cell? ⟨g642, 1, none⟩ = some (.int .i64 t639.2.1))) (ds := []) #[false, false, false, false, false, false, false, false, false] (by kernel_rfl) rfl rfl (blk_cellv ((HS.out.drew).at0) 1 rfl) (fun hHeld => ?_)
  have HS_ := Aside0.mk HS.out.drew
  clear HS
  generalize World.drew _ = w661 at HS_ hHeld ⊢
  have HS := HS_
  clear HS_
  refine pure_ (i := 0) (N := some 13) (v := ?_) (a' := ?_) #[true, false, false, false, false, false, false, false, false] rfl rfl (by kernel_rfl) (fun _ _ _ h => h) (Or.inl ⟨by rfl, ?_⟩) ?_ ?_
  rotate_left
  · intro w'
    go_simp
    with_reducible rfl
  rotate_left
  · simp only [Act.put, List.setIfInBounds_toArray, List.set_cons_zero, List.set_cons_succ, i64_w, i32_w]
    rfl
  refine pure_ (i := 1) (N := some 14) (v := ?_) (a' := ?_) #[true, true, false, false, false, false, false, false, false] rfl rfl (by kernel_rfl) (fun _ _ _ h => h) (Or.inl ⟨by rfl, ?_⟩) ?_ ?_
  rotate_left
  · intro w'
    go_simp
    with_reducible rfl
  rotate_left
  · simp only [Act.put, List.setIfInBounds_toArray, List.set_cons_zero, List.set_cons_succ, i64_w, i32_w]
    rfl
  by_cases c662 : t639.2.2.2.2.2.2.2 = true
  · have H := if_yes c662 H
    have c662b0 : t639.2.2.2.2.2.2.2 = true := c662
    have c662b1 : (!t639.2.2.2.2.2.2.2) = false := by rw [c662b0]; rfl
    clear c662
    try simp only [c662b0, Bool.not_true, Bool.not_false]
    refine pure_ (i := 2) (N := some 15) (v := ?_) (a' := ?_) #[true, true, true, false, false, false, false, false, false] rfl rfl (by kernel_rfl) (fun _ _ _ h => h) (Or.inl ⟨by rfl, ?_⟩) ?_ ?_
    rotate_left
    · intro w'
      go_simp
      with_reducible rfl
    rotate_left
    · simp only [Act.put, List.setIfInBounds_toArray, List.set_cons_zero, List.set_cons_succ, i64_w, i32_w]
      rfl
    try simp only [c662b0, Bool.not_true, Bool.not_false]
    refine pure_ (i := 4) (N := some 17) (v := ?_) (a' := ?_) #[true, true, true, false, true, false, false, false, false] rfl rfl (by kernel_rfl) (fun _ _ _ h => h) (Or.inl ⟨by rfl, ?_⟩) ?_ ?_
    rotate_left
    · intro w'
      go_simp
      with_reducible rfl
    rotate_left
    · simp only [Act.put, List.setIfInBounds_toArray, List.set_cons_zero, List.set_cons_succ, i64_w, i32_w]
      rfl
    try simp only [c662b0, Bool.not_true, Bool.not_false]
    refine take_ (i := 3) (N := some 16) (v := ?_) (a' := ?_) #[true, true, true, true, true, false, false, false, false] rfl rfl (by kernel_rfl) (fun _ _ _ h => h) (Or.inl ⟨by rfl, ?_⟩) hHeld ?_ ?_
    rotate_left
    · rintro w' hS'
      have s0 := hS'
      go_simp
      with_reducible rfl
    rotate_left
    · simp only [Act.put, List.setIfInBounds_toArray, List.set_cons_zero, List.set_cons_succ, i64_w, i32_w]
      rfl
    try simp only [c662b0, Bool.not_true, Bool.not_false]
    refine one_ (i := 5) (N := some 18) #[true, true, true, true, true, true, false, false, false] rfl rfl (by kernel_rfl) (by decide) (fun K hK => ?_)
    obtain ⟨t663, HA664, H⟩ := bind_some H
    refine goes_ Tryz.func15 (by kernel_rfl) rfl #[.pointer none] (by rfl) rfl rfl (by (try simp only [List.map_toArray, List.map_cons, List.map_nil]); first | done | rfl) ?_
    refine (tint_Parity_nil.calls t663 _ ⟨HGl0.out.pass (l := []) HS.out⟩ ⟨Sep.start _⟩ HA664).mono ?_
    rintro e_ w665 ⟨rfl, hS⟩
    replace HS : Aside0 (Sep (fps []) w [b3 g642 t639.1 t639.2.1 t639.2.2.1 t639.2.2.2.1 t639.2.2.2.2.1 t639.2.2.2.2.2.1 t639.2.2.2.2.2.2.1] w665) := ⟨HS.out.call hS⟩
    clear hS
    refine ⟨_, rfl, ?_⟩
    refine hK.out _ _ (blk_cellv (HS.out.at0) 1 rfl) (fun hHeld => ?_)
    clear hK K
    refine norm_ (a' := ?_) ?_ ?_
    rotate_left
    · show Act.put _ (some 18) _ = _
      simp only [Act.put, List.setIfInBounds_toArray, List.set_cons_zero, List.set_cons_succ, i64_w, i32_w]
      rfl
    try simp only [c662b0, Bool.not_true, Bool.not_false]
    refine pure_ (i := 6) (N := some 19) (v := ?_) (a' := ?_) #[true, true, true, true, true, true, true, false, false] rfl rfl (by kernel_rfl) (fun _ _ _ h => h) (Or.inl ⟨by rfl, ?_⟩) ?_ ?_
    rotate_left
    · intro w'
      go_simp
      with_reducible rfl
    rotate_left
    · simp only [Act.put, List.setIfInBounds_toArray, List.set_cons_zero, List.set_cons_succ, i64_w, i32_w]
      rfl
    refine pure_ (i := 7) (N := some 20) (v := ?_) (a' := ?_) #[true, true, true, true, true, true, true, true, false] rfl rfl (by kernel_rfl) (fun _ _ _ h => h) (Or.inl ⟨by rfl, ?_⟩) ?_ ?_
    rotate_left
    · intro w'
      go_simp
      with_reducible rfl
    rotate_left
    · simp only [Act.put, List.setIfInBounds_toArray, List.set_cons_zero, List.set_cons_succ, i64_w, i32_w]
      rfl
    refine pure_ (i := 8) (N := some 4) (v := ?_) (a' := ?_) #[true, true, true, true, true, true, true, true, true] rfl rfl (by kernel_rfl) (fun _ _ _ h => h) (Or.inl ⟨by rfl, ?_⟩) ?_ ?_
    rotate_left
    · intro w'
      go_simp
      with_reducible rfl
    rotate_left
    · simp only [Act.put, List.setIfInBounds_toArray, List.set_cons_zero, List.set_cons_succ, i64_w, i32_w]
      rfl
    refine done_ (by kernel_rfl) ?_
    replace HS : Aside0 (Sep (fps []) w [] w665) := ⟨HS.out.sub (.cons _ .slnil)⟩
    go_wp2_with fail
    go_ret
    rw [← some_eq H]
    exact ⟨(by first | rfl | (simp [IntKind.wrap_u32]; done)), HS.out⟩
  · have H := if_no c662 H
    have c662b0 : t639.2.2.2.2.2.2.2 = false := by simpa using c662
    have c662b1 : (!t639.2.2.2.2.2.2.2) = true := by rw [c662b0]; rfl
    clear c662
    try simp only [c662b0, Bool.not_true, Bool.not_false]
    refine pure_ (i := 2) (N := some 15) (v := undef) (a' := ?_) #[true, true, true, false, false, false, false, false, false] rfl rfl (by kernel_rfl) (fun _ _ _ h => h) (Or.inr ⟨by rfl, rfl⟩) ?_ ?_
    rotate_left
    · simp only [Act.put, List.setIfInBounds_toArray, List.set_cons_zero, List.set_cons_succ, i64_w, i32_w]
      rfl
    try simp only [c662b0, Bool.not_true, Bool.not_false]
    refine pure_ (i := 3) (N := some 16) (v := undef) (a' := ?_) #[true, true, true, true, false, false, false, false, false] rfl rfl (by kernel_rfl) (fun _ _ _ h => h) (Or.inr ⟨by rfl, rfl⟩) ?_ ?_
    rotate_left
    · simp only [Act.put, List.setIfInBounds_toArray, List.set_cons_zero, List.set_cons_succ, i64_w, i32_w]
      rfl
    try simp only [c662b0, Bool.not_true, Bool.not_false]
    refine pure_ (i := 4) (N := some 17) (v := undef) (a' := ?_) #[true, true, true, true, true, false, false, false, false] rfl rfl (by kernel_rfl) (fun _ _ _ h => h) (Or.inr ⟨by rfl, rfl⟩) ?_ ?_
    rotate_left
    · simp only [Act.put, List.setIfInBounds_toArray, List.set_cons_zero, List.set_cons_succ, i64_w, i32_w]
      rfl
    try simp only [c662b0, Bool.not_true, Bool.not_false]
    refine pure_ (i := 5) (N := some 18) (v := undef) (a' := ?_) #[true, true, true, true, true, true, false, false, false] rfl rfl (by kernel_rfl) (fun _ _ _ h => h) (Or.inr ⟨by rfl, rfl⟩) ?_ ?_
    rotate_left
    · simp only [Act.put, List.setIfInBounds_toArray, List.set_cons_zero, List.set_cons_succ, i64_w, i32_w]
      rfl
    try simp only [c662b0, Bool.not_true, Bool.not_false]
    refine pure_ (i := 6) (N := some 19) (v := undef) (a' := ?_) #[true, true, true, true, true, true, true, false, false] rfl rfl (by kernel_rfl) (fun _ _ _ h => h) (Or.inr ⟨by rfl, rfl⟩) ?_ ?_
    rotate_left
    · simp only [Act.put, List.setIfInBounds_toArray, List.set_cons_zero, List.set_cons_succ, i64_w, i32_w]
      rfl
    refine pure_ (i := 7) (N := some 20) (v := ?_) (a' := ?_) #[true, true, true, true, true, true, true, true, false] rfl rfl (by kernel_rfl) (fun _ _ _ h => h) (Or.inl ⟨by rfl, ?_⟩) ?_ ?_
    rotate_left
    · intro w'
      go_simp
      with_reducible rfl
    rotate_left
    · simp only [Act.put, List.setIfInBounds_toArray, List.set_cons_zero, List.set_cons_succ, i64_w, i32_w]
      rfl
    refine pure_ (i := 8) (N := some 4) (v := ?_) (a' := ?_) #[true, true, true, true, true, true, true, true, true] rfl rfl (by kernel_rfl) (fun _ _ _ h => h) (Or.inl ⟨by rfl, ?_⟩) ?_ ?_
    rotate_left
    · intro w'
      go_simp
      with_reducible rfl
    rotate_left
    · simp only [Act.put, List.setIfInBounds_toArray, List.set_cons_zero, List.set_cons_succ, i64_w, i32_w]
      rfl
    refine done_ (by kernel_rfl) ?_
    replace HS : Aside0 (Sep (fps []) w [] w661) := ⟨HS.out.sub (.cons _ .slnil)⟩
    go_wp2_with fail
    go_ret
    rw [← some_eq H]
    exact ⟨(by first | rfl | (simp [IntKind.wrap_u32]; done)), HS.out⟩

set_option maxHeartbeats 30000000 in
set_option maxRecDepth 100000 in
theorem tint_Paint_1.calls (a699 : Int) (a700 : Int) (a701 : Int) (a702 : Int) (a703 : Int) (a704 : Int) (a705 : Int) (a706 : Int) (g698 : Nat) (r : Int) (w : World)  (HGl0 : Aside0 (Gl 0 #[.int .i64 0, .int .i64 0, .int .i64 0, .int .i64 0, .int .i64 0] (fps [b3 g698 a699 a700 a701 a702 a703 a704 a705]) w)) (HS : Aside0 (Sep (fps [b3 g698 a699 a700 a701 a702 a703 a704 a705]) w [b3 g698 a699 a700 a701 a702 a703 a704 a705] w)) (H : Aside0 (tint_Paint_1.f a699 a700 a701 a702 a703 a704 a705 a706 = some r)) :
    Calls Tryz.prog 59 #[.pointer (some ⟨g698, 0, none⟩), .int .i64 a706] w fun e w' => e = .returned (.tuple #[]) ∧ Sep (fps [b3 g698 a699 a700 a701 a702 a703 a704 a705]) w [b3 g698 a699 r a701 a702 a703 a704 a705] w' := by
  generalize (fps [b3 g698 a699 a700 a701 a702 a703 a704 a705]) = FF at HS HGl0 ⊢
  unfold tint_Paint_1.f at H
  go_enter Tryz.func59, Tryz.ntmps59
  have hc710 : w.cell? ⟨g698, 1, none⟩ = some (.int .i64 a700) := blk_cellv (HS.out.at0) 1 rfl
  have hz711 : w.frozen? ⟨g698, 1, none⟩ = false := blk_fz (HS.out.at0) 1
  go_wp2_with (first | ((with_reducible refine gate_store (t := 3) (p := 7) rfl ?_); refine store_event (w1 := (World.setCell w ⟨g698, 1, none⟩ (.int .i64 a706))) rfl (t := 3) (p := 7) rfl rfl ?hr ?_; (case hr => first | (go_simp; done) | (go_simp; rfl)); intro w712 hst; clear hc710 hz711; have hq0 : Sep FF w [b3 g698 a699 a706 a701 a702 a703 a704 a705] (World.setCell w ⟨g698, 1, none⟩ (.int .i64 a706)) := (HS.out).set1 (l1 := []) (l2 := []) 1 (.int .i64 a706); replace HS : Aside0 (Sep FF w [b3 g698 a699 a706 a701 a702 a703 a704 a705] w712) := ⟨by rw [hst]; exact hq0⟩; clear hq0; clear hst))
  first | go_end0 | refine bodyPost_ret (results_none rfl _ _ _) rfl ?_
  rw [← some_eq H]
  exact ⟨rfl, HS.out⟩

set_option maxHeartbeats 30000000 in
set_option maxRecDepth 100000 in
theorem tint_change_nil_F59.calls (k : Nat) (a671 : Int) (r : Bool) (w : World)  (HGl0 : Aside0 (Gl 0 #[.int .i64 0, .int .i64 0, .int .i64 0, .int .i64 0, .int .i64 0] (fps []) w)) (HS : Aside0 (Sep (fps []) w [] w)) (H : Aside0 (tint_change_nil_F59.f k a671 = some r)) :
    Calls Tryz.prog 51 #[.pointer none, .int .i64 a671, .func (.func 59) #[] #[]] w fun e w' => e = .returned (.bool r) ∧ Sep (fps []) w [] w' := by
  unfold tint_change_nil_F59.f at H
  go_enter Tryz.func51, Tryz.ntmps51
  go_wp2_with fail
  obtain ⟨t672, HA673, H⟩ := bind_some H
  refine (tint_of_nil.calls a671 t672 _ ⟨HGl0.out.pass (l := []) HS.out⟩ ⟨Sep.start _⟩ HA673).mono ?_
  rintro e_ w674 ⟨rfl, hS⟩
  replace HS : Aside0 (Sep (fps []) w [] w674) := ⟨HS.out.call hS⟩
  clear hS
  by_cases c693 : t672.2.2.2.2.2.2.2 = true
  · have H := if_yes c693 H
    have c693b0 : t672.2.2.2.2.2.2.2 = true := c693
    have c693b1 : (!t672.2.2.2.2.2.2.2) = false := by rw [c693b0]; rfl
    try rw [c693b1]
    clear c693
    go_wp2_with (first | ((with_reducible refine gate_dst (N := 7) rfl ?_); refine box_on ?hg (N := 7) ?hd (cs := #[.int .i64 0, .int .i64 0, .int .i64 0, .int .i64 0, .int .i64 0, .int .i64 0, .int .i64 0]) (t := 79) ?hr ?_; (case hd => rfl); (case hg => rfl); (case hr => first | (go_simp; done) | (go_simp; rfl)); intro g675 hg w676 hbox hb; replace HS : Aside0 (Sep (fps []) w [b3 g675 0 0 0 0 0 0 0] w676) := ⟨HS.out.box hg hbox hb⟩; clear hg hbox hb; have hc678 : w676.cell? ⟨g675, 0, none⟩ = some (.int .i64 0) := blk_cellv (HS.out.at0) 0 rfl; have hz679 : w676.frozen? ⟨g675, 0, none⟩ = false := blk_fz (HS.out.at0) 0; have hc680 : w676.cell? ⟨g675, 1, none⟩ = some (.int .i64 0) := blk_cellv (HS.out.at0) 1 rfl; have hz681 : w676.frozen? ⟨g675, 1, none⟩ = false := blk_fz (HS.out.at0) 1; have hc682 : w676.cell? ⟨g675, 2, none⟩ = some (.int .i64 0) := blk_cellv (HS.out.at0) 2 rfl; have hz683 : w676.frozen? ⟨g675, 2, none⟩ = false := blk_fz (HS.out.at0) 2; have hc684 : w676.cell? ⟨g675, 3, none⟩ = some (.int .i64 0) := blk_cellv (HS.out.at0) 3 rfl; have hz685 : w676.frozen? ⟨g675, 3, none⟩ = false := blk_fz (HS.out.at0) 3; have hc686 : w676.cell? ⟨g675, 4, none⟩ = some (.int .i64 0) := blk_cellv (HS.out.at0) 4 rfl; have hz687 : w676.frozen? ⟨g675, 4, none⟩ = false := blk_fz (HS.out.at0) 4; have hc688 : w676.cell? ⟨g675, 5, none⟩ = some (.int .i64 0) := blk_cellv (HS.out.at0) 5 rfl; have hz689 : w676.frozen? ⟨g675, 5, none⟩ = false := blk_fz (HS.out.at0) 5; have hc690 : w676.cell? ⟨g675, 6, none⟩ = some (.int .i64 0) := blk_cellv (HS.out.at0) 6 rfl; have hz691 : w676.frozen? ⟨g675, 6, none⟩ = false := blk_fz (HS.out.at0) 6) | ((with_reducible refine gate_store (t := 79) (p := 7) rfl ?_); refine store_event (w1 := (World.setCell (World.setCell (World.setCell (World.setCell (World.setCell (World.setCell (World.setCell w676 ⟨g675, 0, none⟩ (.int .i64 t672.1)) ⟨g675, 1, none⟩ (.int .i64 t672.2.1)) ⟨g675, 2, none⟩ (.int .i64 t672.2.2.1)) ⟨g675, 3, none⟩ (.int .i64 t672.2.2.2.1)) ⟨g675, 4, none⟩ (.int .i64 t672.2.2.2.2.1)) ⟨g675, 5, none⟩ (.int .i64 t672.2.2.2.2.2.1)) ⟨g675, 6, none⟩ (.int .i64 t672.2.2.2.2.2.2.1))) rfl (t := 79) (p := 7) rfl rfl ?hr ?_; (case hr => first | (go_simp; done) | (go_simp; rfl)); intro w692 hst; clear hc678 hz679 hc680 hz681 hc682 hz683 hc684 hz685 hc686 hz687 hc688 hz689 hc690 hz691; replace HS : Aside0 (Sep (fps []) w [b3 g675 t672.1 t672.2.1 t672.2.2.1 t672.2.2.2.1 t672.2.2.2.2.1 t672.2.2.2.2.2.1 t672.2.2.2.2.2.2.1] w692) := ⟨by rw [hst]; exact HS.out.setAll (l1 := []) (l2 := []) [.int .i64 t672.1, .int .i64 t672.2.1, .int .i64 t672.2.2.1, .int .i64 t672.2.2.2.1, .int .i64 t672.2.2.2.2.1, .int .i64 t672.2.2.2.2.2.1, .int .i64 t672.2.2.2.2.2.2.1] rfl⟩; clear hst))
    obtain ⟨t694, HA695, H⟩ := bind_some H
    refine (tint_Parity_nil.calls t694 _ ⟨HGl0.out.pass (l := []) HS.out⟩ ⟨Sep.start _⟩ HA695).mono ?_
    rintro e_ w696 ⟨rfl, hS⟩
    replace HS : Aside0 (Sep (fps []) w [b3 g675 t672.1 t672.2.1 t672.2.2.1 t672.2.2.2.1 t672.2.2.2.2.1 t672.2.2.2.2.2.1 t672.2.2.2.2.2.2.1] w696) := ⟨HS.out.call hS⟩
    clear hS
    go_wp2_with fail
    obtain ⟨t713, HA714, H⟩ := bind_some H
    refine (tint_Paint_1.calls t672.1 t672.2.1 t672.2.2.1 t672.2.2.2.1 t672.2.2.2.2.1 t672.2.2.2.2.2.1 t672.2.2.2.2.2.2.1 t694 g675 t713 _ ⟨HGl0.out.pass HS.out⟩ ⟨HS.out.begin⟩ HA714).mono ?_
    rintro e_ w715 ⟨rfl, hS⟩
    replace HS : Aside0 (Sep (fps []) w [b3 g675 t672.1 t713 t672.2.2.1 t672.2.2.2.1 t672.2.2.2.2.1 t672.2.2.2.2.2.1 t672.2.2.2.2.2.2.1] w715) := ⟨HS.out.call hS⟩
    clear hS
    have hc716 : w715.cell? ⟨g675, 0, none⟩ = some (.int .i64 t672.1) := blk_cellv (HS.out.at0) 0 rfl
    have hc717 : w715.cell? ⟨g675, 1, none⟩ = some (.int .i64 t713) := blk_cellv (HS.out.at0) 1 rfl
    have hc718 : w715.cell? ⟨g675, 2, none⟩ = some (.int .i64 t672.2.2.1) := blk_cellv (HS.out.at0) 2 rfl
    have hc719 : w715.cell? ⟨g675, 3, none⟩ = some (.int .i64 t672.2.2.2.1) := blk_cellv (HS.out.at0) 3 rfl
    have hc720 : w715.cell? ⟨g675, 4, none⟩ = some (.int .i64 t672.2.2.2.2.1) := blk_cellv (HS.out.at0) 4 rfl
    have hc721 : w715.cell? ⟨g675, 5, none⟩ = some (.int .i64 t672.2.2.2.2.2.1) := blk_cellv (HS.out.at0) 5 rfl
    have hc722 : w715.cell? ⟨g675, 6, none⟩ = some (.int .i64 t672.2.2.2.2.2.2.1) := blk_cellv (HS.out.at0) 6 rfl
    go_wp2_with fail
    clear hc716 hc717 hc718 hc719 hc720 hc721 hc722
    obtain ⟨t723, HA724, H⟩ := bind_some H
    refine (tag_Pack.calls _ t672.1 t713 t672.2.2.1 t672.2.2.2.1 t672.2.2.2.2.1 t672.2.2.2.2.2.1 t672.2.2.2.2.2.2.1 t723 _ ⟨HGl0.out.pass (l := []) HS.out⟩ ⟨Sep.start _⟩ HA724).mono ?_
    rintro e_ w725 ⟨rfl, hS⟩
    replace HS : Aside0 (Sep (fps []) w [b3 g675 t672.1 t713 t672.2.2.1 t672.2.2.2.1 t672.2.2.2.2.1 t672.2.2.2.2.2.1 t672.2.2.2.2.2.2.1] w725) := ⟨HS.out.call hS⟩
    clear hS
    by_cases c726 : t723.2 = 0
    · have H := if_yes c726 H
      have c726b0 : (t723.2 == 0) = true := beq_iff_eq.mpr c726
      have c726b1 : (t723.2 != 0) = false := bne_eq_false_iff_eq.mpr c726
      clear c726
      replace HS : Aside0 (Sep (fps []) w [] w725) := ⟨HS.out.sub (.cons _ .slnil)⟩
      go_wp2_with fail
      obtain ⟨t727, HA728, H⟩ := bind_some H
      refine (ground_Ground_SetWord_nil.calls (wrap64 (a671 - 1)) 0 t723.1 t727 _ ⟨HGl0.out.pass (l := []) HS.out⟩ ⟨Sep.start _⟩ HA728).mono ?_
      rintro e_ w729 ⟨rfl, hS⟩
      replace HS : Aside0 (Sep (fps []) w [] w729) := ⟨HS.out.call hS⟩
      clear hS
      go_wp2_with fail
      go_ret
      rw [← some_eq H]
      exact ⟨(by first | rfl | (simp [IntKind.wrap_u32]; done)), HS.out⟩
    · have H := if_no c726 H
      have c726b0 : (t723.2 == 0) = false := beq_eq_false_iff_ne.mpr c726
      have c726b1 : (t723.2 != 0) = true := bne_iff_ne.mpr c726
      clear c726
      replace HS : Aside0 (Sep (fps []) w [] w725) := ⟨HS.out.sub (.cons _ .slnil)⟩
      go_wp2_with fail
      go_ret
      rw [← some_eq H]
      exact ⟨(by first | rfl | (simp [IntKind.wrap_u32]; done)), HS.out⟩
  · have H := if_no c693 H
    have c693b0 : t672.2.2.2.2.2.2.2 = false := by simpa using c693
    have c693b1 : (!t672.2.2.2.2.2.2.2) = true := by rw [c693b0]; rfl
    try rw [c693b1]
    clear c693
    go_wp2_with (first | ((with_reducible refine gate_dst (N := 7) rfl ?_); refine box_on ?hg (N := 7) ?hd (cs := #[.int .i64 0, .int .i64 0, .int .i64 0, .int .i64 0, .int .i64 0, .int .i64 0, .int .i64 0]) (t := 79) ?hr ?_; (case hd => rfl); (case hg => rfl); (case hr => first | (go_simp; done) | (go_simp; rfl)); intro g675 hg w676 hbox hb; replace HS : Aside0 (Sep (fps []) w [b3 g675 0 0 0 0 0 0 0] w676) := ⟨HS.out.box hg hbox hb⟩; clear hg hbox hb; have hc678 : w676.cell? ⟨g675, 0, none⟩ = some (.int .i64 0) := blk_cellv (HS.out.at0) 0 rfl; have hz679 : w676.frozen? ⟨g675, 0, none⟩ = false := blk_fz (HS.out.at0) 0; have hc680 : w676.cell? ⟨g675, 1, none⟩ = some (.int .i64 0) := blk_cellv (HS.out.at0) 1 rfl; have hz681 : w676.frozen? ⟨g675, 1, none⟩ = false := blk_fz (HS.out.at0) 1; have hc682 : w676.cell? ⟨g675, 2, none⟩ = some (.int .i64 0) := blk_cellv (HS.out.at0) 2 rfl; have hz683 : w676.frozen? ⟨g675, 2, none⟩ = false := blk_fz (HS.out.at0) 2; have hc684 : w676.cell? ⟨g675, 3, none⟩ = some (.int .i64 0) := blk_cellv (HS.out.at0) 3 rfl; have hz685 : w676.frozen? ⟨g675, 3, none⟩ = false := blk_fz (HS.out.at0) 3; have hc686 : w676.cell? ⟨g675, 4, none⟩ = some (.int .i64 0) := blk_cellv (HS.out.at0) 4 rfl; have hz687 : w676.frozen? ⟨g675, 4, none⟩ = false := blk_fz (HS.out.at0) 4; have hc688 : w676.cell? ⟨g675, 5, none⟩ = some (.int .i64 0) := blk_cellv (HS.out.at0) 5 rfl; have hz689 : w676.frozen? ⟨g675, 5, none⟩ = false := blk_fz (HS.out.at0) 5; have hc690 : w676.cell? ⟨g675, 6, none⟩ = some (.int .i64 0) := blk_cellv (HS.out.at0) 6 rfl; have hz691 : w676.frozen? ⟨g675, 6, none⟩ = false := blk_fz (HS.out.at0) 6) | ((with_reducible refine gate_store (t := 79) (p := 7) rfl ?_); refine store_event (w1 := (World.setCell (World.setCell (World.setCell (World.setCell (World.setCell (World.setCell (World.setCell w676 ⟨g675, 0, none⟩ (.int .i64 t672.1)) ⟨g675, 1, none⟩ (.int .i64 t672.2.1)) ⟨g675, 2, none⟩ (.int .i64 t672.2.2.1)) ⟨g675, 3, none⟩ (.int .i64 t672.2.2.2.1)) ⟨g675, 4, none⟩ (.int .i64 t672.2.2.2.2.1)) ⟨g675, 5, none⟩ (.int .i64 t672.2.2.2.2.2.1)) ⟨g675, 6, none⟩ (.int .i64 t672.2.2.2.2.2.2.1))) rfl (t := 79) (p := 7) rfl rfl ?hr ?_; (case hr => first | (go_simp; done) | (go_simp; rfl)); intro w692 hst; clear hc678 hz679 hc680 hz681 hc682 hz683 hc684 hz685 hc686 hz687 hc688 hz689 hc690 hz691; replace HS : Aside0 (Sep (fps []) w [b3 g675 t672.1 t672.2.1 t672.2.2.1 t672.2.2.2.1 t672.2.2.2.2.1 t672.2.2.2.2.2.1 t672.2.2.2.2.2.2.1] w692) := ⟨by rw [hst]; exact HS.out.setAll (l1 := []) (l2 := []) [.int .i64 t672.1, .int .i64 t672.2.1, .int .i64 t672.2.2.1, .int .i64 t672.2.2.2.1, .int .i64 t672.2.2.2.2.1, .int .i64 t672.2.2.2.2.2.1, .int .i64 t672.2.2.2.2.2.2.1] rfl⟩; clear hst; replace HS : Aside0 (Sep (fps []) w [] w692) := ⟨HS.out.sub (.cons _ .slnil)⟩))
    go_ret
    rw [← some_eq H]
    exact ⟨(by first | rfl | (simp [IntKind.wrap_u32]; done)), HS.out⟩

set_option maxHeartbeats 30000000 in
set_option maxRecDepth 100000 in
theorem tint_Paint_nil.calls (k : Nat) (a670 : Int) (r : Bool) (w : World)  (HGl0 : Aside0 (Gl 0 #[.int .i64 0, .int .i64 0, .int .i64 0, .int .i64 0, .int .i64 0] (fps []) w)) (HS : Aside0 (Sep (fps []) w [] w)) (H : Aside0 (tint_Paint_nil.f k a670 = some r)) :
    Calls Tryz.prog 24 #[.pointer none, .int .i64 a670] w fun e w' => e = .returned (.bool r) ∧ Sep (fps []) w [] w' := by
  unfold tint_Paint_nil.f at H
  go_enter Tryz.func24, Tryz.ntmps24
  go_wp2_with fail
  obtain ⟨t730, HA731, H⟩ := bind_some H
  refine (tint_change_nil_F59.calls _ a670 t730 _ ⟨HGl0.out.pass (l := []) HS.out⟩ ⟨Sep.start _⟩ HA731).mono ?_
  rintro e_ w732 ⟨rfl, hS⟩
  replace HS : Aside0 (Sep (fps []) w [] w732) := ⟨HS.out.call hS⟩
  clear hS
  go_wp2_with fail
  go_ret
  rw [← some_eq H]
  exact ⟨(by first | rfl | (simp [IntKind.wrap_u32]; done)), HS.out⟩

set_option maxHeartbeats 30000000 in
set_option maxRecDepth 100000 in
theorem ring_marked_nil.calls (a776 : Int) (a777 : Int) (r : Int × Int × Int × Int × Int × Int × Int × Bool) (w : World)  (HGl0 : Aside0 (Gl 0 #[.int .i64 0, .int .i64 0, .int .i64 0, .int .i64 0, .int .i64 0] (fps []) w)) (HS : Aside0 (Sep (fps []) w [] w)) (H : Aside0 (ring_marked_nil.f a776 a777 = some r)) :
    Calls Tryz.prog 57 #[.pointer none, .int .i64 a776, .int .i64 a777] w fun e w' => e = .returned (.tuple #[.agg #[.int .i64 r.1, .int .i64 r.2.1, .int .i64 r.2.2.1, .int .i64 r.2.2.2.1, .int .i64 r.2.2.2.2.1, .int .i64 r.2.2.2.2.2.1, .int .i64 r.2.2.2.2.2.2.1], .bool r.2.2.2.2.2.2.2]) ∧ Sep (fps []) w [] w' := by
  unfold ring_marked_nil.f at H
  go_enter Tryz.func57, Tryz.ntmps57
  go_wp2_with (first | ((with_reducible refine gate_dst (N := 6) rfl ?_); refine box_on ?hg (N := 6) ?hd (cs := #[.int .i64 0, .int .i64 0, .int .i64 0, .int .i64 0, .int .i64 0, .int .i64 0, .int .i64 0]) (t := 79) ?hr ?_; (case hd => rfl); (case hg => rfl); (case hr => first | (go_simp; done) | (go_simp; rfl)); intro g778 hg w779 hbox hb; replace HS : Aside0 (Sep (fps []) w [b3 g778 0 0 0 0 0 0 0] w779) := ⟨HS.out.box hg hbox hb⟩; clear hg hbox hb; have hc781 : w779.cell? ⟨g778, 0, none⟩ = some (.int .i64 0) := blk_cellv (HS.out.at0) 0 rfl; have hz782 : w779.frozen? ⟨g778, 0, none⟩ = false := blk_fz (HS.out.at0) 0; have hc783 : w779.cell? ⟨g778, 1, none⟩ = some (.int .i64 0) := blk_cellv (HS.out.at0) 1 rfl; have hz784 : w779.frozen? ⟨g778, 1, none⟩ = false := blk_fz (HS.out.at0) 1; have hc785 : w779.cell? ⟨g778, 2, none⟩ = some (.int .i64 0) := blk_cellv (HS.out.at0) 2 rfl; have hz786 : w779.frozen? ⟨g778, 2, none⟩ = false := blk_fz (HS.out.at0) 2; have hc787 : w779.cell? ⟨g778, 3, none⟩ = some (.int .i64 0) := blk_cellv (HS.out.at0) 3 rfl; have hz788 : w779.frozen? ⟨g778, 3, none⟩ = false := blk_fz (HS.out.at0) 3; have hc789 : w779.cell? ⟨g778, 4, none⟩ = some (.int .i64 0) := blk_cellv (HS.out.at0) 4 rfl; have hz790 : w779.frozen? ⟨g778, 4, none⟩ = false := blk_fz (HS.out.at0) 4; have hc791 : w779.cell? ⟨g778, 5, none⟩ = some (.int .i64 0) := blk_cellv (HS.out.at0) 5 rfl; have hz792 : w779.frozen? ⟨g778, 5, none⟩ = false := blk_fz (HS.out.at0) 5; have hc793 : w779.cell? ⟨g778, 6, none⟩ = some (.int .i64 0) := blk_cellv (HS.out.at0) 6 rfl; have hz794 : w779.frozen? ⟨g778, 6, none⟩ = false := blk_fz (HS.out.at0) 6) | ((with_reducible refine gate_store (t := 79) (p := 6) rfl ?_); refine store_event (w1 := (World.setCell (World.setCell (World.setCell (World.setCell (World.setCell (World.setCell (World.setCell w779 ⟨g778, 0, none⟩ (.int .i64 0)) ⟨g778, 1, none⟩ (.int .i64 0)) ⟨g778, 2, none⟩ (.int .i64 0)) ⟨g778, 3, none⟩ (.int .i64 0)) ⟨g778, 4, none⟩ (.int .i64 0)) ⟨g778, 5, none⟩ (.int .i64 0)) ⟨g778, 6, none⟩ (.int .i64 0))) rfl (t := 79) (p := 6) rfl rfl ?hr ?_; (case hr => first | (go_simp; done) | (go_simp; rfl)); intro w795 hst; clear hc781 hz782 hc783 hz784 hc785 hz786 hc787 hz788 hc789 hz790 hc791 hz792 hc793 hz794; replace HS : Aside0 (Sep (fps []) w [b3 g778 0 0 0 0 0 0 0] w795) := ⟨by rw [hst]; exact HS.out.setAll (l1 := []) (l2 := []) [.int .i64 0, .int .i64 0, .int .i64 0, .int .i64 0, .int .i64 0, .int .i64 0, .int .i64 0] rfl⟩; clear hst))
  have hc796 : w795.cell? ⟨g778, 0, none⟩ = some (.int .i64 0) := blk_cellv (HS.out.at0) 0 rfl
  have hc797 : w795.cell? ⟨g778, 1, none⟩ = some (.int .i64 0) := blk_cellv (HS.out.at0) 1 rfl
  have hc798 : w795.cell? ⟨g778, 2, none⟩ = some (.int .i64 0) := blk_cellv (HS.out.at0) 2 rfl
  have hc799 : w795.cell? ⟨g778, 3, none⟩ = some (.int .i64 0) := blk_cellv (HS.out.at0) 3 rfl
  have hc800 : w795.cell? ⟨g778, 4, none⟩ = some (.int .i64 0) := blk_cellv (HS.out.at0) 4 rfl
  have hc801 : w795.cell? ⟨g778, 5, none⟩ = some (.int .i64 0) := blk_cellv (HS.out.at0) 5 rfl
  have hc802 : w795.cell? ⟨g778, 6, none⟩ = some (.int .i64 0) := blk_cellv (HS.out.at0) 6 rfl
  refine bodyPost_ret (v := .tuple #[.agg #[.int .i64 0, .int .i64 0, .int .i64 0, .int .i64 0, .int .i64 0, .int .i64 0, .int .i64 0], .bool false]) (by simp [results, Tryz.results57, go_sem, hc796, hc797, hc798, hc799, hc800, hc801, hc802]) rfl ?_
  rw [← some_eq H]
  exact ⟨(by first | rfl | (simp [IntKind.wrap_u32]; done)), HS.out.sub (.cons _ .slnil)⟩

set_option maxHeartbeats 30000000 in
set_option maxRecDepth 100000 in
theorem ring_mark_nil.calls (k : Nat) (a832 : Int) (a833 : Int) (a834 : Int) (a835 : Int) (a836 : Int) (a837 : Int) (a838 : Int) (a839 : Int) (a840 : Int) (r : Unit) (w : World)  (HGl0 : Aside0 (Gl 0 #[.int .i64 0, .int .i64 0, .int .i64 0, .int .i64 0, .int .i64 0] (fps []) w)) (HS : Aside0 (Sep (fps []) w [] w)) (H : Aside0 (ring_mark_nil.f k a832 a833 a834 a835 a836 a837 a838 a839 a840 = some r)) :
    Calls Tryz.prog 110 #[.pointer none, .int .i64 a832, .agg #[.int .i64 a833, .int .i64 a834, .int .i64 a835, .int .i64 a836, .int .i64 a837, .int .i64 a838, .int .i64 a839], .int .i64 a840] w fun e w' => e = .returned (.tuple #[]) ∧ Sep (fps []) w [] w' := by
  unfold ring_mark_nil.f at H
  go_enter Tryz.func110, Tryz.ntmps110
  go_wp2_with (first | ((with_reducible refine gate_dst (N := 6) rfl ?_); refine box_on ?hg (N := 6) ?hd (cs := #[.int .i64 a833, .int .i64 a834, .int .i64 a835, .int .i64 a836, .int .i64 a837, .int .i64 a838, .int .i64 a839]) (t := 79) ?hr ?_; (case hd => rfl); (case hg => rfl); (case hr => first | (go_simp; done) | (go_simp; rfl)); intro g841 hg w842 hbox hb; replace HS : Aside0 (Sep (fps []) w [b3 g841 a833 a834 a835 a836 a837 a838 a839] w842) := ⟨HS.out.box hg hbox hb⟩; clear hg hbox hb; have hc844 : w842.cell? ⟨g841, 5, none⟩ = some (.int .i64 a838) := blk_cellv (HS.out.at0) 5 rfl; have hz845 : w842.frozen? ⟨g841, 5, none⟩ = false := blk_fz (HS.out.at0) 5) | ((with_reducible refine gate_store (t := 3) (p := 11) rfl ?_); refine store_event (w1 := (World.setCell w842 ⟨g841, 5, none⟩ (.int .i64 a840))) rfl (t := 3) (p := 11) rfl rfl ?hr ?_; (case hr => first | (go_simp; done) | (go_simp; rfl)); intro w846 hst; clear hc844 hz845; have hq0 : Sep (fps []) w [b3 g841 a833 a834 a835 a836 a837 a840 a839] (World.setCell w842 ⟨g841, 5, none⟩ (.int .i64 a840)) := (HS.out).set1 (l1 := []) (l2 := []) 5 (.int .i64 a840); replace HS : Aside0 (Sep (fps []) w [b3 g841 a833 a834 a835 a836 a837 a840 a839] w846) := ⟨by rw [hst]; exact hq0⟩; clear hq0; clear hst; have hc847 : w846.cell? ⟨g841, 0, none⟩ = some (.int .i64 a833) := blk_cellv (HS.out.at0) 0 rfl; have hc848 : w846.cell? ⟨g841, 1, none⟩ = some (.int .i64 a834) := blk_cellv (HS.out.at0) 1 rfl; have hc849 : w846.cell? ⟨g841, 2, none⟩ = some (.int .i64 a835) := blk_cellv (HS.out.at0) 2 rfl; have hc850 : w846.cell? ⟨g841, 3, none⟩ = some (.int .i64 a836) := blk_cellv (HS.out.at0) 3 rfl; have hc851 : w846.cell? ⟨g841, 4, none⟩ = some (.int .i64 a837) := blk_cellv (HS.out.at0) 4 rfl; have hc852 : w846.cell? ⟨g841, 5, none⟩ = some (.int .i64 a840) := blk_cellv (HS.out.at0) 5 rfl; have hc853 : w846.cell? ⟨g841, 6, none⟩ = some (.int .i64 a839) := blk_cellv (HS.out.at0) 6 rfl))
  clear hc847 hc848 hc849 hc850 hc851 hc852 hc853
  obtain ⟨t854, HA855, H⟩ := bind_some H
  refine (tag_Pack.calls _ a833 a834 a835 a836 a837 a840 a839 t854 _ ⟨HGl0.out.pass (l := []) HS.out⟩ ⟨Sep.start _⟩ HA855).mono ?_
  rintro e_ w856 ⟨rfl, hS⟩
  replace HS : Aside0 (Sep (fps []) w [b3 g841 a833 a834 a835 a836 a837 a840 a839] w856) := ⟨HS.out.call hS⟩
  clear hS
  by_cases c857 : t854.2 = 0
  · have H := if_yes c857 H
    have c857b0 : (t854.2 == 0) = true := beq_iff_eq.mpr c857
    have c857b1 : (t854.2 != 0) = false := bne_eq_false_iff_eq.mpr c857
    clear c857
    replace HS : Aside0 (Sep (fps []) w [] w856) := ⟨HS.out.sub (.cons _ .slnil)⟩
    go_wp2_with fail
    obtain ⟨t858, HA859, H⟩ := bind_some H
    refine (ground_Ground_SetWord_nil.calls a832 0 t854.1 t858 _ ⟨HGl0.out.pass (l := []) HS.out⟩ ⟨Sep.start _⟩ HA859).mono ?_
    rintro e_ w860 ⟨rfl, hS⟩
    replace HS : Aside0 (Sep (fps []) w [] w860) := ⟨HS.out.call hS⟩
    clear hS
    go_wp2_with fail
    first | go_end0 | refine bodyPost_ret (results_none rfl _ _ _) rfl ?_
    clear H
    exact ⟨rfl, HS.out⟩
  · have H := if_no c857 H
    have c857b0 : (t854.2 == 0) = false := beq_eq_false_iff_ne.mpr c857
    have c857b1 : (t854.2 != 0) = true := bne_iff_ne.mpr c857
    clear c857
    replace HS : Aside0 (Sep (fps []) w [] w856) := ⟨HS.out.sub (.cons _ .slnil)⟩
    go_wp2_with fail
    first | go_end0 | refine bodyPost_ret (results_none rfl _ _ _) rfl ?_
    clear H
    exact ⟨rfl, HS.out⟩

set_option maxHeartbeats 30000000 in
set_option maxRecDepth 100000 in
theorem ring_link_nil.calls (a873 : Int) (a874 : Int) (a875 : Int) (a876 : Int) (r : Unit) (w : World)  (HGl0 : Aside0 (Gl 0 #[.int .i64 0, .int .i64 0, .int .i64 0, .int .i64 0, .int .i64 0] (fps []) w)) (HS : Aside0 (Sep (fps []) w [] w)) (H : Aside0 (ring_link_nil.f a873 a874 a875 a876 = some r)) :
    Calls Tryz.prog 111 #[.pointer none, .int .i64 a873, .int .i64 a874, .int .i64 a875, .int .i64 a876] w fun e w' => e = .returned (.tuple #[]) ∧ Sep (fps []) w [] w' := by
  unfold ring_link_nil.f at H
  go_enter Tryz.func111, Tryz.ntmps111
  by_cases c877 : a873 = 0
  · have H := if_yes c877 H
    have c877b0 : (a873 == 0) = true := beq_iff_eq.mpr c877
    have c877b1 : (a873 != 0) = false := bne_eq_false_iff_eq.mpr c877
    clear c877
    go_wp2_with fail
    obtain ⟨t878, HA879, H⟩ := bind_some H
    refine (ground_Ground_SetReg_nil.calls a875 a876 t878 _ ⟨HGl0.out.pass (l := []) HS.out⟩ ⟨Sep.start _⟩ HA879).mono ?_
    rintro e_ w880 ⟨rfl, hS⟩
    replace HS : Aside0 (Sep (fps []) w [] w880) := ⟨HS.out.call hS⟩
    clear hS
    go_wp2_with fail
    first | go_end0 | refine bodyPost_ret (results_none rfl _ _ _) rfl ?_
    clear H
    exact ⟨rfl, HS.out⟩
  · have H := if_no c877 H
    have c877b0 : (a873 == 0) = false := beq_eq_false_iff_ne.mpr c877
    have c877b1 : (a873 != 0) = true := bne_iff_ne.mpr c877
    clear c877
    go_wp2_with fail
    obtain ⟨t881, HA882, H⟩ := bind_some H
    refine (ground_Ground_SetWord_nil.calls (wrap64 (a873 - 1)) a874 ((a876) % 4294967296) t881 _ ⟨HGl0.out.pass (l := []) HS.out⟩ ⟨Sep.start _⟩ HA882).mono ?_
    rintro e_ w883 ⟨rfl, hS⟩
    replace HS : Aside0 (Sep (fps []) w [] w883) := ⟨HS.out.call hS⟩
    clear hS
    go_wp2_with fail
    first | go_end0 | refine bodyPost_ret (results_none rfl _ _ _) rfl ?_
    clear H
    exact ⟨rfl, HS.out⟩

set_option maxHeartbeats 30000000 in
set_option maxRecDepth 100000 in
theorem ring_Add_nil.calls (k : Nat) (a775 : Int) (r : Bool) (w : World)  (HGl0 : Aside0 (Gl 0 #[.int .i64 0, .int .i64 0, .int .i64 0, .int .i64 0, .int .i64 0] (fps []) w)) (HS : Aside0 (Sep (fps []) w [] w)) (H : Aside0 (ring_Add_nil.f k a775 = some r)) :
    Calls Tryz.prog 56 #[.pointer none, .int .i64 a775] w fun e w' => e = .returned (.bool r) ∧ Sep (fps []) w [] w' := by
  unfold ring_Add_nil.f at H
  go_enter Tryz.func56, Tryz.ntmps56
  go_wp2_with fail
  obtain ⟨t803, HA804, H⟩ := bind_some H
  refine (ring_marked_nil.calls a775 0 t803 _ ⟨HGl0.out.pass (l := []) HS.out⟩ ⟨Sep.start _⟩ HA804).mono ?_
  rintro e_ w805 ⟨rfl, hS⟩
  replace HS : Aside0 (Sep (fps []) w [] w805) := ⟨HS.out.call hS⟩
  clear hS
  by_cases c824 : t803.2.2.2.2.2.2.2 = true
  · have H := if_yes c824 H
    have c824b0 : t803.2.2.2.2.2.2.2 = true := c824
    have c824b1 : (!t803.2.2.2.2.2.2.2) = false := by rw [c824b0]; rfl
    try rw [c824b1]
    clear c824
    go_wp2_with (first | ((with_reducible refine gate_dst (N := 5) rfl ?_); refine box_on ?hg (N := 5) ?hd (cs := #[.int .i64 0, .int .i64 0, .int .i64 0, .int .i64 0, .int .i64 0, .int .i64 0, .int .i64 0]) (t := 79) ?hr ?_; (case hd => rfl); (case hg => rfl); (case hr => first | (go_simp; done) | (go_simp; rfl)); intro g806 hg w807 hbox hb; replace HS : Aside0 (Sep (fps []) w [b3 g806 0 0 0 0 0 0 0] w807) := ⟨HS.out.box hg hbox hb⟩; clear hg hbox hb; have hc809 : w807.cell? ⟨g806, 0, none⟩ = some (.int .i64 0) := blk_cellv (HS.out.at0) 0 rfl; have hz810 : w807.frozen? ⟨g806, 0, none⟩ = false := blk_fz (HS.out.at0) 0; have hc811 : w807.cell? ⟨g806, 1, none⟩ = some (.int .i64 0) := blk_cellv (HS.out.at0) 1 rfl; have hz812 : w807.frozen? ⟨g806, 1, none⟩ = false := blk_fz (HS.out.at0) 1; have hc813 : w807.cell? ⟨g806, 2, none⟩ = some (.int .i64 0) := blk_cellv (HS.out.at0) 2 rfl; have hz814 : w807.frozen? ⟨g806, 2, none⟩ = false := blk_fz (HS.out.at0) 2; have hc815 : w807.cell? ⟨g806, 3, none⟩ = some (.int .i64 0) := blk_cellv (HS.out.at0) 3 rfl; have hz816 : w807.frozen? ⟨g806, 3, none⟩ = false := blk_fz (HS.out.at0) 3; have hc817 : w807.cell? ⟨g806, 4, none⟩ = some (.int .i64 0) := blk_cellv (HS.out.at0) 4 rfl; have hz818 : w807.frozen? ⟨g806, 4, none⟩ = false := blk_fz (HS.out.at0) 4; have hc819 : w807.cell? ⟨g806, 5, none⟩ = some (.int .i64 0) := blk_cellv (HS.out.at0) 5 rfl; have hz820 : w807.frozen? ⟨g806, 5, none⟩ = false := blk_fz (HS.out.at0) 5; have hc821 : w807.cell? ⟨g806, 6, none⟩ = some (.int .i64 0) := blk_cellv (HS.out.at0) 6 rfl; have hz822 : w807.frozen? ⟨g806, 6, none⟩ = false := blk_fz (HS.out.at0) 6) | ((with_reducible refine gate_store (t := 79) (p := 5) rfl ?_); refine store_event (w1 := (World.setCell (World.setCell (World.setCell (World.setCell (World.setCell (World.setCell (World.setCell w807 ⟨g806, 0, none⟩ (.int .i64 t803.1)) ⟨g806, 1, none⟩ (.int .i64 t803.2.1)) ⟨g806, 2, none⟩ (.int .i64 t803.2.2.1)) ⟨g806, 3, none⟩ (.int .i64 t803.2.2.2.1)) ⟨g806, 4, none⟩ (.int .i64 t803.2.2.2.2.1)) ⟨g806, 5, none⟩ (.int .i64 t803.2.2.2.2.2.1)) ⟨g806, 6, none⟩ (.int .i64 t803.2.2.2.2.2.2.1))) rfl (t := 79) (p := 5) rfl rfl ?hr ?_; (case hr => first | (go_simp; done) | (go_simp; rfl)); intro w823 hst; clear hc809 hz810 hc811 hz812 hc813 hz814 hc815 hz816 hc817 hz818 hc819 hz820 hc821 hz822; replace HS : Aside0 (Sep (fps []) w [b3 g806 t803.1 t803.2.1 t803.2.2.1 t803.2.2.2.1 t803.2.2.2.2.1 t803.2.2.2.2.2.1 t803.2.2.2.2.2.2.1] w823) := ⟨by rw [hst]; exact HS.out.setAll (l1 := []) (l2 := []) [.int .i64 t803.1, .int .i64 t803.2.1, .int .i64 t803.2.2.1, .int .i64 t803.2.2.2.1, .int .i64 t803.2.2.2.2.1, .int .i64 t803.2.2.2.2.2.1, .int .i64 t803.2.2.2.2.2.2.1] rfl⟩; clear hst; have hc825 : w823.cell? ⟨g806, 0, none⟩ = some (.int .i64 t803.1) := blk_cellv (HS.out.at0) 0 rfl; have hc826 : w823.cell? ⟨g806, 1, none⟩ = some (.int .i64 t803.2.1) := blk_cellv (HS.out.at0) 1 rfl; have hc827 : w823.cell? ⟨g806, 2, none⟩ = some (.int .i64 t803.2.2.1) := blk_cellv (HS.out.at0) 2 rfl; have hc828 : w823.cell? ⟨g806, 3, none⟩ = some (.int .i64 t803.2.2.2.1) := blk_cellv (HS.out.at0) 3 rfl; have hc829 : w823.cell? ⟨g806, 4, none⟩ = some (.int .i64 t803.2.2.2.2.1) := blk_cellv (HS.out.at0) 4 rfl; have hc830 : w823.cell? ⟨g806, 5, none⟩ = some (.int .i64 t803.2.2.2.2.2.1) := blk_cellv (HS.out.at0) 5 rfl; have hc831 : w823.cell? ⟨g806, 6, none⟩ = some (.int .i64 t803.2.2.2.2.2.2.1) := blk_cellv (HS.out.at0) 6 rfl))
    clear hc825 hc826 hc827 hc828 hc829 hc830 hc831
    obtain ⟨t861, HA862, H⟩ := bind_some H
    refine (ring_mark_nil.calls _ a775 t803.1 t803.2.1 t803.2.2.1 t803.2.2.2.1 t803.2.2.2.2.1 t803.2.2.2.2.2.1 t803.2.2.2.2.2.2.1 1 t861 _ ⟨HGl0.out.pass (l := []) HS.out⟩ ⟨Sep.start _⟩ HA862).mono ?_
    rintro e_ w863 ⟨rfl, hS⟩
    replace HS : Aside0 (Sep (fps []) w [b3 g806 t803.1 t803.2.1 t803.2.2.1 t803.2.2.2.1 t803.2.2.2.2.1 t803.2.2.2.2.2.1 t803.2.2.2.2.2.2.1] w863) := ⟨HS.out.call hS⟩
    clear hS
    replace HS : Aside0 (Sep (fps []) w [] w863) := ⟨HS.out.sub (.cons _ .slnil)⟩
    go_wp2_with fail
    obtain ⟨t864, HA865, H⟩ := bind_some H
    refine (ground_Ground_Reg_nil.calls 8 t864 _ ⟨HGl0.out.pass (l := []) HS.out⟩ ⟨Sep.start _⟩ HA865).mono ?_
    rintro e_ w866 ⟨rfl, hS⟩
    replace HS : Aside0 (Sep (fps []) w [] w866) := ⟨HS.out.call hS⟩
    clear hS
    go_wp2_with fail
    obtain ⟨t867, HA868, H⟩ := bind_some H
    refine (ground_Ground_SetWord_nil.calls a775 6 ((t864) % 4294967296) t867 _ ⟨HGl0.out.pass (l := []) HS.out⟩ ⟨Sep.start _⟩ HA868).mono ?_
    rintro e_ w869 ⟨rfl, hS⟩
    replace HS : Aside0 (Sep (fps []) w [] w869) := ⟨HS.out.call hS⟩
    clear hS
    go_wp2_with fail
    obtain ⟨t870, HA871, H⟩ := bind_some H
    refine (ground_Ground_SetWord_nil.calls a775 7 0 t870 _ ⟨HGl0.out.pass (l := []) HS.out⟩ ⟨Sep.start _⟩ HA871).mono ?_
    rintro e_ w872 ⟨rfl, hS⟩
    replace HS : Aside0 (Sep (fps []) w [] w872) := ⟨HS.out.call hS⟩
    clear hS
    go_wp2_with fail
    obtain ⟨t884, HA885, H⟩ := bind_some H
    refine (ring_link_nil.calls t864 7 7 (wrap64 (a775 + 1)) t884 _ ⟨HGl0.out.pass (l := []) HS.out⟩ ⟨Sep.start _⟩ HA885).mono ?_
    rintro e_ w886 ⟨rfl, hS⟩
    replace HS : Aside0 (Sep (fps []) w [] w886) := ⟨HS.out.call hS⟩
    clear hS
    go_wp2_with fail
    obtain ⟨t887, HA888, H⟩ := bind_some H
    refine (ground_Ground_SetReg_nil.calls 8 (wrap64 (a775 + 1)) t887 _ ⟨HGl0.out.pass (l := []) HS.out⟩ ⟨Sep.start _⟩ HA888).mono ?_
    rintro e_ w889 ⟨rfl, hS⟩
    replace HS : Aside0 (Sep (fps []) w [] w889) := ⟨HS.out.call hS⟩
    clear hS
    go_wp2_with fail
    obtain ⟨t890, HA891, H⟩ := bind_some H
    refine (ground_Ground_Reg_nil.calls 9 t890 _ ⟨HGl0.out.pass (l := []) HS.out⟩ ⟨Sep.start _⟩ HA891).mono ?_
    rintro e_ w892 ⟨rfl, hS⟩
    replace HS : Aside0 (Sep (fps []) w [] w892) := ⟨HS.out.call hS⟩
    clear hS
    go_wp2_with fail
    obtain ⟨t893, HA894, H⟩ := bind_some H
    refine (ground_Ground_SetReg_nil.calls 9 (wrap64 (t890 + 1)) t893 _ ⟨HGl0.out.pass (l := []) HS.out⟩ ⟨Sep.start _⟩ HA894).mono ?_
    rintro e_ w895 ⟨rfl, hS⟩
    replace HS : Aside0 (Sep (fps []) w [] w895) := ⟨HS.out.call hS⟩
    clear hS
    go_wp2_with fail
    go_ret
    rw [← some_eq H]
    exact ⟨(by first | rfl | (simp [IntKind.wrap_u32]; done)), HS.out⟩
  · have H := if_no c824 H
    have c824b0 : t803.2.2.2.2.2.2.2 = false := by simpa using c824
    have c824b1 : (!t803.2.2.2.2.2.2.2) = true := by rw [c824b0]; rfl
    try rw [c824b1]
    clear c824
    go_wp2_with (first | ((with_reducible refine gate_dst (N := 5) rfl ?_); refine box_on ?hg (N := 5) ?hd (cs := #[.int .i64 0, .int .i64 0, .int .i64 0, .int .i64 0, .int .i64 0, .int .i64 0, .int .i64 0]) (t := 79) ?hr ?_; (case hd => rfl); (case hg => rfl); (case hr => first | (go_simp; done) | (go_simp; rfl)); intro g806 hg w807 hbox hb; replace HS : Aside0 (Sep (fps []) w [b3 g806 0 0 0 0 0 0 0] w807) := ⟨HS.out.box hg hbox hb⟩; clear hg hbox hb; have hc809 : w807.cell? ⟨g806, 0, none⟩ = some (.int .i64 0) := blk_cellv (HS.out.at0) 0 rfl; have hz810 : w807.frozen? ⟨g806, 0, none⟩ = false := blk_fz (HS.out.at0) 0; have hc811 : w807.cell? ⟨g806, 1, none⟩ = some (.int .i64 0) := blk_cellv (HS.out.at0) 1 rfl; have hz812 : w807.frozen? ⟨g806, 1, none⟩ = false := blk_fz (HS.out.at0) 1; have hc813 : w807.cell? ⟨g806, 2, none⟩ = some (.int .i64 0) := blk_cellv (HS.out.at0) 2 rfl; have hz814 : w807.frozen? ⟨g806, 2, none⟩ = false := blk_fz (HS.out.at0) 2; have hc815 : w807.cell? ⟨g806, 3, none⟩ = some (.int .i64 0) := blk_cellv (HS.out.at0) 3 rfl; have hz816 : w807.frozen? ⟨g806, 3, none⟩ = false := blk_fz (HS.out.at0) 3; have hc817 : w807.cell? ⟨g806, 4, none⟩ = some (.int .i64 0) := blk_cellv (HS.out.at0) 4 rfl; have hz818 : w807.frozen? ⟨g806, 4, none⟩ = false := blk_fz (HS.out.at0) 4; have hc819 : w807.cell? ⟨g806, 5, none⟩ = some (.int .i64 0) := blk_cellv (HS.out.at0) 5 rfl; have hz820 : w807.frozen? ⟨g806, 5, none⟩ = false := blk_fz (HS.out.at0) 5; have hc821 : w807.cell? ⟨g806, 6, none⟩ = some (.int .i64 0) := blk_cellv (HS.out.at0) 6 rfl; have hz822 : w807.frozen? ⟨g806, 6, none⟩ = false := blk_fz (HS.out.at0) 6) | ((with_reducible refine gate_store (t := 79) (p := 5) rfl ?_); refine store_event (w1 := (World.setCell (World.setCell (World.setCell (World.setCell (World.setCell (World.setCell (World.setCell w807 ⟨g806, 0, none⟩ (.int .i64 t803.1)) ⟨g806, 1, none⟩ (.int .i64 t803.2.1)) ⟨g806, 2, none⟩ (.int .i64 t803.2.2.1)) ⟨g806, 3, none⟩ (.int .i64 t803.2.2.2.1)) ⟨g806, 4, none⟩ (.int .i64 t803.2.2.2.2.1)) ⟨g806, 5, none⟩ (.int .i64 t803.2.2.2.2.2.1)) ⟨g806, 6, none⟩ (.int .i64 t803.2.2.2.2.2.2.1))) rfl (t := 79) (p := 5) rfl rfl ?hr ?_; (case hr => first | (go_simp; done) | (go_simp; rfl)); intro w823 hst; clear hc809 hz810 hc811 hz812 hc813 hz814 hc815 hz816 hc817 hz818 hc819 hz820 hc821 hz822; replace HS : Aside0 (Sep (fps []) w [b3 g806 t803.1 t803.2.1 t803.2.2.1 t803.2.2.2.1 t803.2.2.2.2.1 t803.2.2.2.2.2.1 t803.2.2.2.2.2.2.1] w823) := ⟨by rw [hst]; exact HS.out.setAll (l1 := []) (l2 := []) [.int .i64 t803.1, .int .i64 t803.2.1, .int .i64 t803.2.2.1, .int .i64 t803.2.2.2.1, .int .i64 t803.2.2.2.2.1, .int .i64 t803.2.2.2.2.2.1, .int .i64 t803.2.2.2.2.2.2.1] rfl⟩; clear hst; replace HS : Aside0 (Sep (fps []) w [] w823) := ⟨HS.out.sub (.cons _ .slnil)⟩))
    go_ret
    rw [← some_eq H]
    exact ⟨(by first | rfl | (simp [IntKind.wrap_u32]; done)), HS.out⟩
end Go.Proofs.YtobeonkddamnoaaGreatDoor.C

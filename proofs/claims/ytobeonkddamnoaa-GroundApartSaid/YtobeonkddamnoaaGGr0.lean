/- Each function of the group Gr does what its plain function says, and changes nothing that was there; proved by walking its code. No condition. -/
import Derived.Test.YtobeonkddamnoaaQw
import Derived.Test.YtobeonkddamnoaaMGr
namespace Go.Proofs.Ytobeonkddamnoaa.C
open Go.RowKit Go.Proofs.YtobeonkddamnoaaW.PrintWords Go.Proofs.YtobeonkddamnoaaW.PrintLast Go.Proofs.YtobeonkddamnoaaW.PrintMore Go.Proofs.Ytobeonkddamnoaa.Q Go.Proofs.Ytobeonkddamnoaa.M
set_option linter.unusedVariables false
set_option linter.unusedSimpArgs false
def b1 (g : Nat) (x0 : Int) (x1 : Int) (x2 : Int) (x3 : Int) : Ob := blk g #[.int .i64 x0, .int .i64 x1, .int .i64 x2, .int .i64 x3] 49
def r2 (A : Option Addr) (n c : Nat) (l : List Int) : Ob := row 23 (Value.int .u32) (.slice A n c) l
def b3 (g : Nat) (x0 : Int) (x1 : Int) (x2 : Int) (x3 : Int) (x4 : Int) (x5 : Int) (x6 : Int) (x7 : Int) : Ob := blk g #[.int .i64 x0, .int .i64 x1, .int .i64 x2, .int .i64 x3, .int .i64 x4, .int .i64 x5, .int .i64 x6, .int .i64 x7] 120
def b4 (g : Nat) (x0 : Int) (x1 : Int) : Ob := blk g #[.int .i64 x0, .int .i64 x1] 3
def b5 (g : Nat) (x0 : Int) (x1 : Int) (x2 : Int) : Ob := blk g #[.int .i64 x0, .int .i64 x1, .int .i64 x2] 3
def b6 (g : Nat) (x0 : Option Addr) (x1 : Nat) (x2 : Nat) (x3 : Int) : Ob := blk g #[.slice x0 x1 x2, .int .u64 x3] 115
def b7 (g : Nat) (x0 : Nat) (x1 : Int) (x2 : Int) (x3 : Int) (x4 : Int) : Ob := blk g #[.pointer (some ⟨x0, 0, none⟩), .int .i64 x1, .int .i64 x2, .int .i64 x3, .int .i64 x4] 126
def b8 (g : Nat) (x0 : Int) (x1 : Int) (x2 : Int) : Ob := blk g #[.int .u8 x0, .int .i64 x1, .int .i64 x2] 57

set_option maxHeartbeats 30000000 in
set_option maxRecDepth 100000 in
theorem ground_Ground_Conf_nil.calls  (r : Int × Int × Int × Int) (w : World)   (HS : Aside0 (Sep (fps []) w [] w)) (H : Aside0 (ground_Ground_Conf_nil.f = some r)) :
    Calls Try.prog 39 #[.pointer none] w fun e w' => e = .returned (.agg #[.int .i64 r.1, .int .i64 r.2.1, .int .i64 r.2.2.1, .int .i64 r.2.2.2]) ∧ Sep (fps []) w [] w' := by
  unfold ground_Ground_Conf_nil.f at H
  go_enter Try.func39, Try.ntmps39
  go_wp2_with (first | ((with_reducible refine gate_dst (N := 2) rfl ?_); refine box_on ?hg (N := 2) ?hd (cs := #[.int .i64 0, .int .i64 0, .int .i64 0, .int .i64 0]) (t := 49) ?hr ?_; (case hd => rfl); (case hg => rfl); (case hr => first | (go_simp; done) | (go_simp; rfl)); intro g4 hg w5 hbox hb; replace HS : Aside0 (Sep (fps []) w [b1 g4 0 0 0 0] w5) := ⟨HS.out.box hg hbox hb⟩; clear hg hbox hb; have hc7 : w5.cell? ⟨g4, 0, none⟩ = some (.int .i64 0) := blk_cellv (HS.out.at0) 0 rfl; have hz8 : w5.frozen? ⟨g4, 0, none⟩ = false := blk_fz (HS.out.at0) 0; have hc9 : w5.cell? ⟨g4, 1, none⟩ = some (.int .i64 0) := blk_cellv (HS.out.at0) 1 rfl; have hz10 : w5.frozen? ⟨g4, 1, none⟩ = false := blk_fz (HS.out.at0) 1; have hc11 : w5.cell? ⟨g4, 2, none⟩ = some (.int .i64 0) := blk_cellv (HS.out.at0) 2 rfl; have hz12 : w5.frozen? ⟨g4, 2, none⟩ = false := blk_fz (HS.out.at0) 2; have hc13 : w5.cell? ⟨g4, 3, none⟩ = some (.int .i64 0) := blk_cellv (HS.out.at0) 3 rfl; have hz14 : w5.frozen? ⟨g4, 3, none⟩ = false := blk_fz (HS.out.at0) 3) | ((with_reducible refine gate_store (t := 49) (p := 2) rfl ?_); refine store_event (w1 := (World.setCell (World.setCell (World.setCell (World.setCell w5 ⟨g4, 0, none⟩ (.int .i64 0)) ⟨g4, 1, none⟩ (.int .i64 0)) ⟨g4, 2, none⟩ (.int .i64 0)) ⟨g4, 3, none⟩ (.int .i64 0))) rfl (t := 49) (p := 2) rfl rfl ?hr ?_; (case hr => first | (go_simp; done) | (go_simp; rfl)); intro w15 hst; clear hc7 hz8 hc9 hz10 hc11 hz12 hc13 hz14; replace HS : Aside0 (Sep (fps []) w [b1 g4 0 0 0 0] w15) := ⟨by rw [hst]; exact HS.out.setAll (l1 := []) (l2 := []) [.int .i64 0, .int .i64 0, .int .i64 0, .int .i64 0] rfl⟩; clear hst))
  have hc16 : w15.cell? ⟨g4, 0, none⟩ = some (.int .i64 0) := blk_cellv (HS.out.at0) 0 rfl
  have hc17 : w15.cell? ⟨g4, 1, none⟩ = some (.int .i64 0) := blk_cellv (HS.out.at0) 1 rfl
  have hc18 : w15.cell? ⟨g4, 2, none⟩ = some (.int .i64 0) := blk_cellv (HS.out.at0) 2 rfl
  have hc19 : w15.cell? ⟨g4, 3, none⟩ = some (.int .i64 0) := blk_cellv (HS.out.at0) 3 rfl
  refine bodyPost_ret (v := .agg #[.int .i64 0, .int .i64 0, .int .i64 0, .int .i64 0]) (by simp [results, Try.results39, go_sem, hc16, hc17, hc18, hc19]) rfl ?_
  rw [← some_eq H]
  exact ⟨(by first | rfl | (simp [IntKind.wrap_u32]; done)), (HS.out).keep (l := []) (rest := [b1 g4 0 0 0 0])⟩

set_option maxHeartbeats 30000000 in
set_option maxRecDepth 100000 in
theorem ground_Ground_all_nil.calls  (r : Unit) (w : World)   (HS : Aside0 (Sep (fps []) w [] w)) (H : Aside0 (ground_Ground_all_nil.f = some r)) :
    Calls Try.prog 77 #[.pointer none] w fun e w' => e = .returned (.pointer none) ∧ Sep (fps []) w [] w' := by
  unfold ground_Ground_all_nil.f at H
  go_enter Try.func77, Try.ntmps77
  go_wp2_with fail
  go_ret
  clear H
  exact ⟨(by first | rfl | (simp [IntKind.wrap_u32]; done)), (HS.out).keep (l := []) (rest := [])⟩

set_option maxHeartbeats 30000000 in
set_option maxRecDepth 100000 in
theorem ground_within.calls (a32 : Int) (a33 : Int) (a34 : Int) (r : Int) (w : World)   (HS : Aside0 (Sep (fps []) w [] w)) (H : Aside0 (ground_within.f a32 a33 a34 = some r)) :
    Calls Try.prog 109 #[.int .i64 a32, .int .i64 a33, .int .i64 a34] w fun e w' => e = .returned (.int .i64 r) ∧ Sep (fps []) w [] w' := by
  unfold ground_within.f at H
  go_enter Try.func109, Try.ntmps109
  by_cases c35 : a32 < 0
  · have H := if_yes c35 H
    have c35b0 : decide (a32 < 0) = true := decide_eq_true c35
    clear c35
    go_wp2_with fail
    go_ret
    rw [← some_eq H]
    exact ⟨(by first | rfl | (simp [IntKind.wrap_u32]; done)), (HS.out).keep (l := []) (rest := [])⟩
  · have H := if_no c35 H
    have c35b0 : decide (a32 < 0) = false := decide_eq_false c35
    clear c35
    by_cases c36 : a32 ≥ a33
    · have H := if_yes c36 H
      have c36b0 : decide (a33 ≤ a32) = true := decide_eq_true c36
      clear c36
      go_wp2_with fail
      go_ret
      rw [← some_eq H]
      exact ⟨(by first | rfl | (simp [IntKind.wrap_u32]; done)), (HS.out).keep (l := []) (rest := [])⟩
    · have H := if_no c36 H
      have c36b0 : decide (a33 ≤ a32) = false := decide_eq_false c36
      clear c36
      go_wp2_with fail
      go_ret
      rw [← some_eq H]
      exact ⟨(by first | rfl | (simp [IntKind.wrap_u32]; done)), (HS.out).keep (l := []) (rest := [])⟩

set_option maxHeartbeats 30000000 in
set_option maxRecDepth 100000 in
theorem ground_reg.calls (a31 : Int) (r : Int) (w : World)   (HS : Aside0 (Sep (fps []) w [] w)) (H : Aside0 (ground_reg.f a31 = some r)) :
    Calls Try.prog 78 #[.int .i64 a31] w fun e w' => e = .returned (.int .i64 r) ∧ Sep (fps []) w [] w' := by
  unfold ground_reg.f at H
  go_enter Try.func78, Try.ntmps78
  go_wp2_with fail
  obtain ⟨t37, HA38, H⟩ := bind_some H
  refine (ground_within.calls a31 24 0 t37 _ ⟨HS.out.begin (l := []) (rest := [])⟩ HA38).mono ?_
  rintro e_ w39 ⟨rfl, hS⟩
  replace HS : Aside0 (Sep (fps []) w [] w39) := ⟨HS.out.call (l := []) (rest := []) hS⟩
  clear hS
  go_wp2_with fail
  go_ret
  rw [← some_eq H]
  exact ⟨(by first | rfl | (simp [IntKind.wrap_u32]; done)), (HS.out).keep (l := []) (rest := [])⟩

set_option maxHeartbeats 30000000 in
set_option maxRecDepth 100000 in
theorem store_Store_has_nil.calls (a44 : Int) (r : Bool) (w : World)   (HS : Aside0 (Sep (fps []) w [] w)) (H : Aside0 (store_Store_has_nil.f a44 = some r)) :
    Calls Try.prog 69 #[.pointer none, .int .i64 a44] w fun e w' => e = .returned (.bool r) ∧ Sep (fps []) w [] w' := by
  unfold store_Store_has_nil.f at H
  go_enter Try.func69, Try.ntmps69
  go_wp2_with fail
  go_ret
  rw [← some_eq H]
  exact ⟨(by first | rfl | (simp [IntKind.wrap_u32]; done)), (HS.out).keep (l := []) (rest := [])⟩

set_option maxHeartbeats 30000000 in
set_option maxRecDepth 100000 in
theorem store_Store_Get_nil.calls (a43 : Int) (r : Int) (w : World)   (HS : Aside0 (Sep (fps []) w [] w)) (H : Aside0 (store_Store_Get_nil.f a43 = some r)) :
    Calls Try.prog 25 #[.pointer none, .int .i64 a43] w fun e w' => e = .returned (.int .u32 r) ∧ Sep (fps []) w [] w' := by
  unfold store_Store_Get_nil.f at H
  go_enter Try.func25, Try.ntmps25
  go_wp2_with fail
  obtain ⟨t45, HA46, H⟩ := bind_some H
  refine (store_Store_has_nil.calls a43 t45 _ ⟨HS.out.begin (l := []) (rest := [])⟩ HA46).mono ?_
  rintro e_ w47 ⟨rfl, hS⟩
  replace HS : Aside0 (Sep (fps []) w [] w47) := ⟨HS.out.call (l := []) (rest := []) hS⟩
  clear hS
  by_cases c48 : t45 = true
  · have H := if_yes c48 H
    have c48b0 : t45 = true := c48
    have c48b1 : (!t45) = false := by rw [c48b0]; rfl
    try rw [c48b1]
    clear c48
    exact (none_no H).elim
  · have H := if_no c48 H
    have c48b0 : t45 = false := by simpa using c48
    have c48b1 : (!t45) = true := by rw [c48b0]; rfl
    try rw [c48b1]
    clear c48
    go_wp2_with fail
    go_ret
    rw [← some_eq H]
    exact ⟨(by first | rfl | (simp [IntKind.wrap_u32]; done)), (HS.out).keep (l := []) (rest := [])⟩

set_option maxHeartbeats 30000000 in
set_option maxRecDepth 100000 in
theorem ground_Ground_Reg_nil.calls (a27 : Int) (r : Int) (w : World)   (HS : Aside0 (Sep (fps []) w [] w)) (H : Aside0 (ground_Ground_Reg_nil.f a27 = some r)) :
    Calls Try.prog 36 #[.pointer none, .int .i64 a27] w fun e w' => e = .returned (.int .i64 r) ∧ Sep (fps []) w [] w' := by
  unfold ground_Ground_Reg_nil.f at H
  go_enter Try.func36, Try.ntmps36
  go_wp2_with fail
  obtain ⟨t28, HA29, H⟩ := bind_some H
  refine (ground_Ground_all_nil.calls t28 _ ⟨HS.out.begin (l := []) (rest := [])⟩ HA29).mono ?_
  rintro e_ w30 ⟨rfl, hS⟩
  replace HS : Aside0 (Sep (fps []) w [] w30) := ⟨HS.out.call (l := []) (rest := []) hS⟩
  clear hS
  go_wp2_with fail
  obtain ⟨t40, HA41, H⟩ := bind_some H
  refine (ground_reg.calls a27 t40 _ ⟨HS.out.begin (l := []) (rest := [])⟩ HA41).mono ?_
  rintro e_ w42 ⟨rfl, hS⟩
  replace HS : Aside0 (Sep (fps []) w [] w42) := ⟨HS.out.call (l := []) (rest := []) hS⟩
  clear hS
  go_wp2_with fail
  obtain ⟨t49, HA50, H⟩ := bind_some H
  refine (store_Store_Get_nil.calls t40 t49 _ ⟨HS.out.begin (l := []) (rest := [])⟩ HA50).mono ?_
  rintro e_ w51 ⟨rfl, hS⟩
  replace HS : Aside0 (Sep (fps []) w [] w51) := ⟨HS.out.call (l := []) (rest := []) hS⟩
  clear hS
  go_wp2_with fail
  go_ret
  rw [← some_eq H]
  exact ⟨(by first | rfl | (simp [IntKind.wrap_u32]; done)), (HS.out).keep (l := []) (rest := [])⟩

set_option maxHeartbeats 30000000 in
set_option maxRecDepth 100000 in
theorem store_Store_Put_nil.calls (a68 : Int) (a69 : Int) (r : Bool) (w : World)   (HS : Aside0 (Sep (fps []) w [] w)) (H : Aside0 (store_Store_Put_nil.f a68 a69 = some r)) :
    Calls Try.prog 22 #[.pointer none, .int .i64 a68, .int .u32 a69] w fun e w' => e = .returned (.bool r) ∧ Sep (fps []) w [] w' := by
  unfold store_Store_Put_nil.f at H
  go_enter Try.func22, Try.ntmps22
  go_wp2_with fail
  obtain ⟨t70, HA71, H⟩ := bind_some H
  refine (store_Store_has_nil.calls a68 t70 _ ⟨HS.out.begin (l := []) (rest := [])⟩ HA71).mono ?_
  rintro e_ w72 ⟨rfl, hS⟩
  replace HS : Aside0 (Sep (fps []) w [] w72) := ⟨HS.out.call (l := []) (rest := []) hS⟩
  clear hS
  by_cases c73 : t70 = true
  · have H := if_yes c73 H
    have c73b0 : t70 = true := c73
    have c73b1 : (!t70) = false := by rw [c73b0]; rfl
    try rw [c73b1]
    clear c73
    exact (none_no H).elim
  · have H := if_no c73 H
    have c73b0 : t70 = false := by simpa using c73
    have c73b1 : (!t70) = true := by rw [c73b0]; rfl
    try rw [c73b1]
    clear c73
    go_wp2_with fail
    go_ret
    rw [← some_eq H]
    exact ⟨(by first | rfl | (simp [IntKind.wrap_u32]; done)), (HS.out).keep (l := []) (rest := [])⟩

set_option maxHeartbeats 30000000 in
set_option maxRecDepth 100000 in
theorem ground_Ground_set_nil.calls (a61 : Int) (a62 : Int) (r : Bool) (w : World)   (HS : Aside0 (Sep (fps []) w [] w)) (H : Aside0 (ground_Ground_set_nil.f a61 a62 = some r)) :
    Calls Try.prog 85 #[.pointer none, .int .i64 a61, .int .i64 a62] w fun e w' => e = .returned (.bool r) ∧ Sep (fps []) w [] w' := by
  unfold ground_Ground_set_nil.f at H
  go_enter Try.func85, Try.ntmps85
  by_cases c63 : a62 < 0
  · have H := if_yes c63 H
    have c63b0 : decide (a62 < 0) = true := decide_eq_true c63
    clear c63
    go_wp2_with fail
    go_ret
    rw [← some_eq H]
    exact ⟨(by first | rfl | (simp [IntKind.wrap_u32]; done)), (HS.out).keep (l := []) (rest := [])⟩
  · have H := if_no c63 H
    have c63b0 : decide (a62 < 0) = false := decide_eq_false c63
    clear c63
    by_cases c64 : a62 > 4294967295
    · have H := if_yes c64 H
      have c64b0 : decide (4294967295 < a62) = true := decide_eq_true c64
      clear c64
      go_wp2_with fail
      go_ret
      rw [← some_eq H]
      exact ⟨(by first | rfl | (simp [IntKind.wrap_u32]; done)), (HS.out).keep (l := []) (rest := [])⟩
    · have H := if_no c64 H
      have c64b0 : decide (4294967295 < a62) = false := decide_eq_false c64
      clear c64
      go_wp2_with fail
      obtain ⟨t65, HA66, H⟩ := bind_some H
      refine (ground_Ground_all_nil.calls t65 _ ⟨HS.out.begin (l := []) (rest := [])⟩ HA66).mono ?_
      rintro e_ w67 ⟨rfl, hS⟩
      replace HS : Aside0 (Sep (fps []) w [] w67) := ⟨HS.out.call (l := []) (rest := []) hS⟩
      clear hS
      go_wp2_with fail
      obtain ⟨t74, HA75, H⟩ := bind_some H
      refine (store_Store_Put_nil.calls a61 ((a62) % 4294967296) t74 _ ⟨HS.out.begin (l := []) (rest := [])⟩ HA75).mono ?_
      rintro e_ w76 ⟨rfl, hS⟩
      replace HS : Aside0 (Sep (fps []) w [] w76) := ⟨HS.out.call (l := []) (rest := []) hS⟩
      clear hS
      go_wp2_with fail
      go_ret
      rw [← some_eq H]
      exact ⟨(by first | rfl | (simp [IntKind.wrap_u32]; done)), (HS.out).keep (l := []) (rest := [])⟩

set_option maxHeartbeats 30000000 in
set_option maxRecDepth 100000 in
theorem ground_Ground_SetReg_nil.calls (a56 : Int) (a57 : Int) (r : Bool) (w : World)   (HS : Aside0 (Sep (fps []) w [] w)) (H : Aside0 (ground_Ground_SetReg_nil.f a56 a57 = some r)) :
    Calls Try.prog 42 #[.pointer none, .int .i64 a56, .int .i64 a57] w fun e w' => e = .returned (.bool r) ∧ Sep (fps []) w [] w' := by
  unfold ground_Ground_SetReg_nil.f at H
  go_enter Try.func42, Try.ntmps42
  go_wp2_with fail
  obtain ⟨t58, HA59, H⟩ := bind_some H
  refine (ground_reg.calls a56 t58 _ ⟨HS.out.begin (l := []) (rest := [])⟩ HA59).mono ?_
  rintro e_ w60 ⟨rfl, hS⟩
  replace HS : Aside0 (Sep (fps []) w [] w60) := ⟨HS.out.call (l := []) (rest := []) hS⟩
  clear hS
  go_wp2_with fail
  obtain ⟨t77, HA78, H⟩ := bind_some H
  refine (ground_Ground_set_nil.calls t58 a57 t77 _ ⟨HS.out.begin (l := []) (rest := [])⟩ HA78).mono ?_
  rintro e_ w79 ⟨rfl, hS⟩
  replace HS : Aside0 (Sep (fps []) w [] w79) := ⟨HS.out.call (l := []) (rest := []) hS⟩
  clear hS
  go_wp2_with fail
  go_ret
  rw [← some_eq H]
  exact ⟨(by first | rfl | (simp [IntKind.wrap_u32]; done)), (HS.out).keep (l := []) (rest := [])⟩

set_option maxHeartbeats 30000000 in
set_option maxRecDepth 100000 in
theorem ground_Ground_root_nil.calls (a88 : Int) (r : Int) (w : World)   (HS : Aside0 (Sep (fps []) w [] w)) (H : Aside0 (ground_Ground_root_nil.f a88 = some r)) :
    Calls Try.prog 86 #[.pointer none, .int .i64 a88] w fun e w' => e = .returned (.int .i64 r) ∧ Sep (fps []) w [] w' := by
  unfold ground_Ground_root_nil.f at H
  go_enter Try.func86, Try.ntmps86
  go_wp2_with fail
  obtain ⟨t89, HA90, H⟩ := bind_some H
  refine (ground_Ground_Conf_nil.calls t89 _ ⟨HS.out.begin (l := []) (rest := [])⟩ HA90).mono ?_
  rintro e_ w91 ⟨rfl, hS⟩
  replace HS : Aside0 (Sep (fps []) w [] w91) := ⟨HS.out.call (l := []) (rest := []) hS⟩
  clear hS
  have fl92 : ∀ w, (Instr.field 49 (.agg #[.int .i64 t89.1, .int .i64 t89.2.1, .int .i64 t89.2.2.1, .int .i64 t89.2.2.2]) 2).run Try.prog w = .ok (.int .i64 t89.2.2.1) w := fun _ => by kernel_rfl
  go_wp2_with fail
  clear fl92
  obtain ⟨t93, HA94, H⟩ := bind_some H
  refine (ground_within.calls a88 t89.2.2.1 24 t93 _ ⟨HS.out.begin (l := []) (rest := [])⟩ HA94).mono ?_
  rintro e_ w95 ⟨rfl, hS⟩
  replace HS : Aside0 (Sep (fps []) w [] w95) := ⟨HS.out.call (l := []) (rest := []) hS⟩
  clear hS
  go_wp2_with fail
  go_ret
  rw [← some_eq H]
  exact ⟨(by first | rfl | (simp [IntKind.wrap_u32]; done)), (HS.out).keep (l := []) (rest := [])⟩

set_option maxHeartbeats 30000000 in
set_option maxRecDepth 100000 in
theorem ground_Ground_Root_nil.calls (a84 : Int) (r : Int) (w : World)   (HS : Aside0 (Sep (fps []) w [] w)) (H : Aside0 (ground_Ground_Root_nil.f a84 = some r)) :
    Calls Try.prog 43 #[.pointer none, .int .i64 a84] w fun e w' => e = .returned (.int .i64 r) ∧ Sep (fps []) w [] w' := by
  unfold ground_Ground_Root_nil.f at H
  go_enter Try.func43, Try.ntmps43
  go_wp2_with fail
  obtain ⟨t85, HA86, H⟩ := bind_some H
  refine (ground_Ground_all_nil.calls t85 _ ⟨HS.out.begin (l := []) (rest := [])⟩ HA86).mono ?_
  rintro e_ w87 ⟨rfl, hS⟩
  replace HS : Aside0 (Sep (fps []) w [] w87) := ⟨HS.out.call (l := []) (rest := []) hS⟩
  clear hS
  go_wp2_with fail
  obtain ⟨t96, HA97, H⟩ := bind_some H
  refine (ground_Ground_root_nil.calls a84 t96 _ ⟨HS.out.begin (l := []) (rest := [])⟩ HA97).mono ?_
  rintro e_ w98 ⟨rfl, hS⟩
  replace HS : Aside0 (Sep (fps []) w [] w98) := ⟨HS.out.call (l := []) (rest := []) hS⟩
  clear hS
  go_wp2_with fail
  obtain ⟨t99, HA100, H⟩ := bind_some H
  refine (store_Store_Get_nil.calls t96 t99 _ ⟨HS.out.begin (l := []) (rest := [])⟩ HA100).mono ?_
  rintro e_ w101 ⟨rfl, hS⟩
  replace HS : Aside0 (Sep (fps []) w [] w101) := ⟨HS.out.call (l := []) (rest := []) hS⟩
  clear hS
  go_wp2_with fail
  go_ret
  rw [← some_eq H]
  exact ⟨(by first | rfl | (simp [IntKind.wrap_u32]; done)), (HS.out).keep (l := []) (rest := [])⟩

set_option maxHeartbeats 30000000 in
set_option maxRecDepth 100000 in
theorem ground_Ground_SetRoot_nil.calls (a106 : Int) (a107 : Int) (r : Bool) (w : World)   (HS : Aside0 (Sep (fps []) w [] w)) (H : Aside0 (ground_Ground_SetRoot_nil.f a106 a107 = some r)) :
    Calls Try.prog 44 #[.pointer none, .int .i64 a106, .int .i64 a107] w fun e w' => e = .returned (.bool r) ∧ Sep (fps []) w [] w' := by
  unfold ground_Ground_SetRoot_nil.f at H
  go_enter Try.func44, Try.ntmps44
  go_wp2_with fail
  obtain ⟨t108, HA109, H⟩ := bind_some H
  refine (ground_Ground_root_nil.calls a106 t108 _ ⟨HS.out.begin (l := []) (rest := [])⟩ HA109).mono ?_
  rintro e_ w110 ⟨rfl, hS⟩
  replace HS : Aside0 (Sep (fps []) w [] w110) := ⟨HS.out.call (l := []) (rest := []) hS⟩
  clear hS
  go_wp2_with fail
  obtain ⟨t111, HA112, H⟩ := bind_some H
  refine (ground_Ground_set_nil.calls t108 a107 t111 _ ⟨HS.out.begin (l := []) (rest := [])⟩ HA112).mono ?_
  rintro e_ w113 ⟨rfl, hS⟩
  replace HS : Aside0 (Sep (fps []) w [] w113) := ⟨HS.out.call (l := []) (rest := []) hS⟩
  clear hS
  go_wp2_with fail
  go_ret
  rw [← some_eq H]
  exact ⟨(by first | rfl | (simp [IntKind.wrap_u32]; done)), (HS.out).keep (l := []) (rest := [])⟩

set_option maxHeartbeats 30000000 in
set_option maxRecDepth 100000 in
theorem ground_Ground_word_nil.calls (a123 : Int) (a124 : Int) (r : Int) (w : World)   (HS : Aside0 (Sep (fps []) w [] w)) (H : Aside0 (ground_Ground_word_nil.f a123 a124 = some r)) :
    Calls Try.prog 87 #[.pointer none, .int .i64 a123, .int .i64 a124] w fun e w' => e = .returned (.int .i64 r) ∧ Sep (fps []) w [] w' := by
  unfold ground_Ground_word_nil.f at H
  go_enter Try.func87, Try.ntmps87
  go_wp2_with fail
  obtain ⟨t125, HA126, H⟩ := bind_some H
  refine (ground_Ground_Conf_nil.calls t125 _ ⟨HS.out.begin (l := []) (rest := [])⟩ HA126).mono ?_
  rintro e_ w127 ⟨rfl, hS⟩
  replace HS : Aside0 (Sep (fps []) w [] w127) := ⟨HS.out.call (l := []) (rest := []) hS⟩
  clear hS
  go_wp2_with (first | ((with_reducible refine gate_dst (N := 7) rfl ?_); refine box_on ?hg (N := 7) ?hd (cs := #[.int .i64 0, .int .i64 0, .int .i64 0, .int .i64 0]) (t := 49) ?hr ?_; (case hd => rfl); (case hg => rfl); (case hr => first | (go_simp; done) | (go_simp; rfl)); intro g128 hg w129 hbox hb; replace HS : Aside0 (Sep (fps []) w [b1 g128 0 0 0 0] w129) := ⟨HS.out.box hg hbox hb⟩; clear hg hbox hb; have hc131 : w129.cell? ⟨g128, 0, none⟩ = some (.int .i64 0) := blk_cellv (HS.out.at0) 0 rfl; have hz132 : w129.frozen? ⟨g128, 0, none⟩ = false := blk_fz (HS.out.at0) 0; have hc133 : w129.cell? ⟨g128, 1, none⟩ = some (.int .i64 0) := blk_cellv (HS.out.at0) 1 rfl; have hz134 : w129.frozen? ⟨g128, 1, none⟩ = false := blk_fz (HS.out.at0) 1; have hc135 : w129.cell? ⟨g128, 2, none⟩ = some (.int .i64 0) := blk_cellv (HS.out.at0) 2 rfl; have hz136 : w129.frozen? ⟨g128, 2, none⟩ = false := blk_fz (HS.out.at0) 2; have hc137 : w129.cell? ⟨g128, 3, none⟩ = some (.int .i64 0) := blk_cellv (HS.out.at0) 3 rfl; have hz138 : w129.frozen? ⟨g128, 3, none⟩ = false := blk_fz (HS.out.at0) 3) | ((with_reducible refine gate_store (t := 49) (p := 7) rfl ?_); refine store_event (w1 := (World.setCell (World.setCell (World.setCell (World.setCell w129 ⟨g128, 0, none⟩ (.int .i64 t125.1)) ⟨g128, 1, none⟩ (.int .i64 t125.2.1)) ⟨g128, 2, none⟩ (.int .i64 t125.2.2.1)) ⟨g128, 3, none⟩ (.int .i64 t125.2.2.2))) rfl (t := 49) (p := 7) rfl rfl ?hr ?_; (case hr => first | (go_simp; done) | (go_simp; rfl)); intro w139 hst; clear hc131 hz132 hc133 hz134 hc135 hz136 hc137 hz138; replace HS : Aside0 (Sep (fps []) w [b1 g128 t125.1 t125.2.1 t125.2.2.1 t125.2.2.2] w139) := ⟨by rw [hst]; exact HS.out.setAll (l1 := []) (l2 := []) [.int .i64 t125.1, .int .i64 t125.2.1, .int .i64 t125.2.2.1, .int .i64 t125.2.2.2] rfl⟩; clear hst; have hc140 : w139.cell? ⟨g128, 0, none⟩ = some (.int .i64 t125.1) := blk_cellv (HS.out.at0) 0 rfl))
  clear hc140
  obtain ⟨t141, HA142, H⟩ := bind_some H
  refine (ground_within.calls a123 t125.1 0 t141 _ ⟨HS.out.begin (l := []) (rest := [b1 g128 t125.1 t125.2.1 t125.2.2.1 t125.2.2.2])⟩ HA142).mono ?_
  rintro e_ w143 ⟨rfl, hS⟩
  replace HS : Aside0 (Sep (fps []) w [b1 g128 t125.1 t125.2.1 t125.2.2.1 t125.2.2.2] w143) := ⟨HS.out.call (l := []) (rest := [b1 g128 t125.1 t125.2.1 t125.2.2.1 t125.2.2.2]) hS⟩
  clear hS
  by_cases c144 : t141 = (-1)
  · have H := if_yes c144 H
    have c144b0 : (t141 == (-1)) = true := beq_iff_eq.mpr c144
    have c144b1 : (t141 != (-1)) = false := bne_eq_false_iff_eq.mpr c144
    clear c144
    replace HS : Aside0 (Sep (fps []) w [] w143) := ⟨HS.out.sub (.cons _ .slnil)⟩
    go_wp2_with fail
    go_ret
    rw [← some_eq H]
    exact ⟨(by first | rfl | (simp [IntKind.wrap_u32]; done)), (HS.out).keep (l := []) (rest := [])⟩
  · have H := if_no c144 H
    have c144b0 : (t141 == (-1)) = false := beq_eq_false_iff_ne.mpr c144
    have c144b1 : (t141 != (-1)) = true := bne_iff_ne.mpr c144
    clear c144
    have hc145 : w143.cell? ⟨g128, 1, none⟩ = some (.int .i64 t125.2.1) := blk_cellv (HS.out.at0) 1 rfl
    have hc146 : w143.cell? ⟨g128, 2, none⟩ = some (.int .i64 t125.2.2.1) := blk_cellv (HS.out.at0) 2 rfl
    go_wp2_with fail
    clear hc145 hc146
    obtain ⟨t147, HA148, H⟩ := bind_some H
    refine (ground_within.calls a124 t125.2.1 (wrap64 ((wrap64 (24 + t125.2.2.1)) + (wrap64 (a123 * t125.2.1)))) t147 _ ⟨HS.out.begin (l := []) (rest := [b1 g128 t125.1 t125.2.1 t125.2.2.1 t125.2.2.2])⟩ HA148).mono ?_
    rintro e_ w149 ⟨rfl, hS⟩
    replace HS : Aside0 (Sep (fps []) w [b1 g128 t125.1 t125.2.1 t125.2.2.1 t125.2.2.2] w149) := ⟨HS.out.call (l := []) (rest := [b1 g128 t125.1 t125.2.1 t125.2.2.1 t125.2.2.2]) hS⟩
    clear hS
    replace HS : Aside0 (Sep (fps []) w [] w149) := ⟨HS.out.sub (.cons _ .slnil)⟩
    go_wp2_with fail
    go_ret
    rw [← some_eq H]
    exact ⟨(by first | rfl | (simp [IntKind.wrap_u32]; done)), (HS.out).keep (l := []) (rest := [])⟩

set_option maxHeartbeats 30000000 in
set_option maxRecDepth 100000 in
theorem ground_Ground_Word_nil.calls (a118 : Int) (a119 : Int) (r : Int) (w : World)   (HS : Aside0 (Sep (fps []) w [] w)) (H : Aside0 (ground_Ground_Word_nil.f a118 a119 = some r)) :
    Calls Try.prog 45 #[.pointer none, .int .i64 a118, .int .i64 a119] w fun e w' => e = .returned (.int .u32 r) ∧ Sep (fps []) w [] w' := by
  unfold ground_Ground_Word_nil.f at H
  go_enter Try.func45, Try.ntmps45
  go_wp2_with fail
  obtain ⟨t120, HA121, H⟩ := bind_some H
  refine (ground_Ground_all_nil.calls t120 _ ⟨HS.out.begin (l := []) (rest := [])⟩ HA121).mono ?_
  rintro e_ w122 ⟨rfl, hS⟩
  replace HS : Aside0 (Sep (fps []) w [] w122) := ⟨HS.out.call (l := []) (rest := []) hS⟩
  clear hS
  go_wp2_with fail
  obtain ⟨t150, HA151, H⟩ := bind_some H
  refine (ground_Ground_word_nil.calls a118 a119 t150 _ ⟨HS.out.begin (l := []) (rest := [])⟩ HA151).mono ?_
  rintro e_ w152 ⟨rfl, hS⟩
  replace HS : Aside0 (Sep (fps []) w [] w152) := ⟨HS.out.call (l := []) (rest := []) hS⟩
  clear hS
  go_wp2_with fail
  obtain ⟨t153, HA154, H⟩ := bind_some H
  refine (store_Store_Get_nil.calls t150 t153 _ ⟨HS.out.begin (l := []) (rest := [])⟩ HA154).mono ?_
  rintro e_ w155 ⟨rfl, hS⟩
  replace HS : Aside0 (Sep (fps []) w [] w155) := ⟨HS.out.call (l := []) (rest := []) hS⟩
  clear hS
  go_wp2_with fail
  go_ret
  rw [← some_eq H]
  exact ⟨(by first | rfl | (simp [IntKind.wrap_u32]; done)), (HS.out).keep (l := []) (rest := [])⟩

set_option maxHeartbeats 30000000 in
set_option maxRecDepth 100000 in
theorem ground_Ground_SetWord_nil.calls (a160 : Int) (a161 : Int) (a162 : Int) (r : Bool) (w : World)   (HS : Aside0 (Sep (fps []) w [] w)) (H : Aside0 (ground_Ground_SetWord_nil.f a160 a161 a162 = some r)) :
    Calls Try.prog 46 #[.pointer none, .int .i64 a160, .int .i64 a161, .int .u32 a162] w fun e w' => e = .returned (.bool r) ∧ Sep (fps []) w [] w' := by
  unfold ground_Ground_SetWord_nil.f at H
  go_enter Try.func46, Try.ntmps46
  go_wp2_with fail
  obtain ⟨t163, HA164, H⟩ := bind_some H
  refine (ground_Ground_all_nil.calls t163 _ ⟨HS.out.begin (l := []) (rest := [])⟩ HA164).mono ?_
  rintro e_ w165 ⟨rfl, hS⟩
  replace HS : Aside0 (Sep (fps []) w [] w165) := ⟨HS.out.call (l := []) (rest := []) hS⟩
  clear hS
  go_wp2_with fail
  obtain ⟨t166, HA167, H⟩ := bind_some H
  refine (ground_Ground_word_nil.calls a160 a161 t166 _ ⟨HS.out.begin (l := []) (rest := [])⟩ HA167).mono ?_
  rintro e_ w168 ⟨rfl, hS⟩
  replace HS : Aside0 (Sep (fps []) w [] w168) := ⟨HS.out.call (l := []) (rest := []) hS⟩
  clear hS
  go_wp2_with fail
  obtain ⟨t169, HA170, H⟩ := bind_some H
  refine (store_Store_Put_nil.calls t166 a162 t169 _ ⟨HS.out.begin (l := []) (rest := [])⟩ HA170).mono ?_
  rintro e_ w171 ⟨rfl, hS⟩
  replace HS : Aside0 (Sep (fps []) w [] w171) := ⟨HS.out.call (l := []) (rest := []) hS⟩
  clear hS
  go_wp2_with fail
  go_ret
  rw [← some_eq H]
  exact ⟨(by first | rfl | (simp [IntKind.wrap_u32]; done)), (HS.out).keep (l := []) (rest := [])⟩

set_option maxHeartbeats 30000000 in
set_option maxRecDepth 100000 in
theorem ground_Ground_Wipe_nil.calls (k : Nat) (a176 : Int) (r : Int) (w : World)   (HS : Aside0 (Sep (fps []) w [] w)) (H : Aside0 (ground_Ground_Wipe_nil.f k a176 = some r)) :
    Calls Try.prog 47 #[.pointer none, .int .i64 a176] w fun e w' => e = .returned (.int .i64 r) ∧ Sep (fps []) w [] w' := by
  unfold ground_Ground_Wipe_nil.f at H
  go_enter Try.func47, Try.ntmps47
  go_wp2_with fail
  obtain ⟨t177, HA178, H⟩ := bind_some H
  refine (ground_Ground_Conf_nil.calls t177 _ ⟨HS.out.begin (l := []) (rest := [])⟩ HA178).mono ?_
  rintro e_ w179 ⟨rfl, hS⟩
  replace HS : Aside0 (Sep (fps []) w [] w179) := ⟨HS.out.call (l := []) (rest := []) hS⟩
  clear hS
  have fl180 : ∀ w, (Instr.field 49 (.agg #[.int .i64 t177.1, .int .i64 t177.2.1, .int .i64 t177.2.2.1, .int .i64 t177.2.2.2]) 1).run Try.prog w = .ok (.int .i64 t177.2.1) w := fun _ => by kernel_rfl
  go_wp2_with fail
  clear fl180
  obtain ⟨o182, AL183, H⟩ := bind_some H
  go_loopg [5, 10] k (fun kq v5 v10 wc => ∃ (x186 : Int) (x187 : Int), v5 = .int .i64 x186 ∧ v10 = .int .i64 x187 ∧ Aside0 (ground_Ground_Wipe_nil.lo0 kq a176 t177 x186 x187 = some o182) ∧ Aside0 (Sep (fps []) w [] wc))
  case atStart => exact ⟨(0), (0), (by first | rfl | (simp [IntKind.wrap_u32]; done)), (by first | rfl | (simp [IntKind.wrap_u32]; done)), AL183, ⟨HS.out⟩⟩
  case round =>
    clear AL183 HS
    obtain ⟨x186, x187, rfl, rfl, AL183, HS⟩ := hrel
    obtain ⟨w184, rfl⟩ : ∃ x : World, x = wr := ⟨_, rfl⟩
    cases gk with
    | zero => exact absurd AL183.out (by simp [ground_Ground_Wipe_nil.lo0])
    | succ k185 =>
      have AL0 := AL183.out
      rw [ground_Ground_Wipe_nil.lo0] at AL0
      clear AL183
      have AL183 := Aside0.mk AL0
      clear AL0
      by_cases c188 : x187 < t177.2.1
      · have AL183 := if_yes c188 AL183
        have c188b0 : decide (x187 < t177.2.1) = true := decide_eq_true c188
        clear c188
        go_wp2_with fail
        obtain ⟨t189, HA190, AL183⟩ := bind_some AL183
        refine (ground_Ground_SetWord_nil.calls a176 x187 0 t189 _ ⟨HS.out.begin (l := []) (rest := [])⟩ HA190).mono ?_
        rintro e_ w191 ⟨rfl, hS⟩
        replace HS : Aside0 (Sep (fps []) w [] w191) := ⟨HS.out.call (l := []) (rest := []) hS⟩
        clear hS
        by_cases c192 : t189 = true
        · have AL183 := if_yes c192 AL183
          have c192b0 : t189 = true := c192
          have c192b1 : (!t189) = false := by rw [c192b0]; rfl
          clear c192
          go_wp2_with fail
          go_roundg k185
          case measure => exact Nat.lt_succ_self _
          case rel => exact ⟨(wrap64 (x186 + 1)), (wrap64 (x187 + 1)), (by first | rfl | (simp [IntKind.wrap_u32]; done)), (by first | rfl | (simp [IntKind.wrap_u32]; done)), Aside0.mk AL183.out, ⟨(HS.out).keep (l := []) (rest := [])⟩⟩
        · have AL183 := if_no c192 AL183
          have c192b0 : t189 = false := by simpa using c192
          have c192b1 : (!t189) = true := by rw [c192b0]; rfl
          clear c192
          go_wp2_with fail
          go_roundg k185
          case measure => exact Nat.lt_succ_self _
          case rel => exact ⟨(x186), (wrap64 (x187 + 1)), (by first | rfl | (simp [IntKind.wrap_u32]; done)), (by first | rfl | (simp [IntKind.wrap_u32]; done)), Aside0.mk AL183.out, ⟨(HS.out).keep (l := []) (rest := [])⟩⟩
      · have AL183 := if_no c188 AL183
        have c188b0 : decide (x187 < t177.2.1) = false := decide_eq_false c188
        clear c188
        have ho := some_eq AL183
        subst ho
        clear AL183
        go_wp2_with fail
        go_ret
        rw [← some_eq H]
        exact ⟨(by first | rfl | (simp [IntKind.wrap_u32]; done)), (HS.out).keep (l := []) (rest := [])⟩

set_option maxHeartbeats 30000000 in
set_option maxRecDepth 100000 in
theorem store_Store_Meter_nil.calls  (r : Int) (w : World)   (HS : Aside0 (Sep (fps []) w [] w)) (H : Aside0 (store_Store_Meter_nil.f = some r)) :
    Calls Try.prog 21 #[.pointer none] w fun e w' => e = .returned (.int .u64 r) ∧ Sep (fps []) w [] w' := by
  unfold store_Store_Meter_nil.f at H
  go_enter Try.func21, Try.ntmps21
  go_wp2_with fail
  go_ret
  rw [← some_eq H]
  exact ⟨(by first | rfl | (simp [IntKind.wrap_u32]; done)), (HS.out).keep (l := []) (rest := [])⟩

set_option maxHeartbeats 30000000 in
set_option maxRecDepth 100000 in
theorem ground_Ground_Meter_nil.calls  (r : Int) (w : World)   (HS : Aside0 (Sep (fps []) w [] w)) (H : Aside0 (ground_Ground_Meter_nil.f = some r)) :
    Calls Try.prog 35 #[.pointer none] w fun e w' => e = .returned (.int .u64 r) ∧ Sep (fps []) w [] w' := by
  unfold ground_Ground_Meter_nil.f at H
  go_enter Try.func35, Try.ntmps35
  go_wp2_with fail
  obtain ⟨t198, HA199, H⟩ := bind_some H
  refine (ground_Ground_all_nil.calls t198 _ ⟨HS.out.begin (l := []) (rest := [])⟩ HA199).mono ?_
  rintro e_ w200 ⟨rfl, hS⟩
  replace HS : Aside0 (Sep (fps []) w [] w200) := ⟨HS.out.call (l := []) (rest := []) hS⟩
  clear hS
  go_wp2_with fail
  obtain ⟨t201, HA202, H⟩ := bind_some H
  refine (store_Store_Meter_nil.calls t201 _ ⟨HS.out.begin (l := []) (rest := [])⟩ HA202).mono ?_
  rintro e_ w203 ⟨rfl, hS⟩
  replace HS : Aside0 (Sep (fps []) w [] w203) := ⟨HS.out.call (l := []) (rest := []) hS⟩
  clear hS
  go_wp2_with fail
  go_ret
  rw [← some_eq H]
  exact ⟨(by first | rfl | (simp [IntKind.wrap_u32]; done)), (HS.out).keep (l := []) (rest := [])⟩

set_option maxHeartbeats 30000000 in
set_option maxRecDepth 100000 in
theorem store_Store_Words_nil.calls  (r : List Int) (w : World)   (HS : Aside0 (Sep (fps []) w [] w)) (H : Aside0 (store_Store_Words_nil.f = some r)) :
    Calls Try.prog 24 #[.pointer none] w fun e w' => ∃ (A219 : Option Addr) (m220 : Nat) (n221 : Nat), e = .returned (.slice A219 m220 n221) ∧ Sep (fps []) w [r2 A219 m220 n221 r] w' := by
  unfold store_Store_Words_nil.f at H
  go_enter Try.func24, Try.ntmps24
  go_wp2_with fail
  replace HS : Aside0 (Sep (fps []) w [r2 none 0 0 []] w) := ⟨HS.out.nilrow 23 (Value.int .u32)⟩
  go_ret
  rw [← some_eq H]
  exact ⟨none, 0, 0, (by first | rfl | (simp [IntKind.wrap_u32]; done)), (HS.out).keep (l := [r2 none 0 0 []]) (rest := [])⟩

set_option maxHeartbeats 30000000 in
set_option maxRecDepth 100000 in
theorem ground_Ground_Words_nil.calls  (r : List Int) (w : World)   (HS : Aside0 (Sep (fps []) w [] w)) (H : Aside0 (ground_Ground_Words_nil.f = some r)) :
    Calls Try.prog 33 #[.pointer none] w fun e w' => ∃ (A237 : Option Addr) (m238 : Nat) (n239 : Nat), e = .returned (.slice A237 m238 n239) ∧ Sep (fps []) w [r2 A237 m238 n239 r] w' := by
  unfold ground_Ground_Words_nil.f at H
  go_enter Try.func33, Try.ntmps33
  go_wp2_with fail
  obtain ⟨t208, HA209, H⟩ := bind_some H
  refine (ground_Ground_all_nil.calls t208 _ ⟨HS.out.begin (l := []) (rest := [])⟩ HA209).mono ?_
  rintro e_ w210 ⟨rfl, hS⟩
  replace HS : Aside0 (Sep (fps []) w [] w210) := ⟨HS.out.call (l := []) (rest := []) hS⟩
  clear hS
  go_wp2_with fail
  obtain ⟨t223, HA224, H⟩ := bind_some H
  refine (store_Store_Words_nil.calls t223 _ ⟨HS.out.begin (l := []) (rest := [])⟩ HA224).mono ?_
  rintro e_ w225 ⟨A227, m228, n229, rfl, hS⟩
  replace HS : Aside0 (Sep (fps []) w [r2 A227 m228 n229 t223] w225) := ⟨HS.out.call (l := []) (rest := []) hS⟩
  clear hS
  obtain rfl := (row_len (HS.out.at0)).symm
  go_wp2_with fail
  go_ret
  rw [← some_eq H]
  exact ⟨A227, t223.length, n229, (by first | rfl | (simp [IntKind.wrap_u32]; done)), (HS.out).keep (l := [r2 A227 t223.length n229 t223]) (rest := [])⟩

set_option maxHeartbeats 30000000 in
set_option maxRecDepth 100000 in
theorem store_Store_Load_nil.calls (l257 : List Int) (A258 : Option Addr) (n259 : Nat) (r : Bool) (w : World) (HR260 : Aside0 (Rd (Kd.int .u32) (fps []) w A258 l257.length l257))  (HS : Aside0 (Sep (fps []) w [] w)) (H : Aside0 (store_Store_Load_nil.f l257 = some r)) :
    Calls Try.prog 18 #[.pointer none, .slice A258 l257.length n259] w fun e w' => e = .returned (.bool r) ∧ Sep (fps []) w [] w' := by
  unfold store_Store_Load_nil.f at H
  go_enter Try.func18, Try.ntmps18
  go_wp2_with fail
  go_ret
  rw [← some_eq H]
  exact ⟨(by first | rfl | (simp [IntKind.wrap_u32]; done)), (HS.out).keep (l := []) (rest := [])⟩

set_option maxHeartbeats 30000000 in
set_option maxRecDepth 100000 in
theorem ground_Ground_Load_nil.calls (l250 : List Int) (A251 : Option Addr) (n252 : Nat) (r : Bool) (w : World) (HR253 : Aside0 (Rd (Kd.int .u32) (fps []) w A251 l250.length l250))  (HS : Aside0 (Sep (fps []) w [] w)) (H : Aside0 (ground_Ground_Load_nil.f l250 = some r)) :
    Calls Try.prog 34 #[.pointer none, .slice A251 l250.length n252] w fun e w' => e = .returned (.bool r) ∧ Sep (fps []) w [] w' := by
  unfold ground_Ground_Load_nil.f at H
  go_enter Try.func34, Try.ntmps34
  go_wp2_with fail
  obtain ⟨t254, HA255, H⟩ := bind_some H
  refine (ground_Ground_all_nil.calls t254 _ ⟨HS.out.begin (l := []) (rest := [])⟩ HA255).mono ?_
  rintro e_ w256 ⟨rfl, hS⟩
  replace HS : Aside0 (Sep (fps []) w [] w256) := ⟨HS.out.call (l := []) (rest := []) hS⟩
  clear hS
  go_wp2_with fail
  obtain ⟨t261, HA262, H⟩ := bind_some H
  refine (store_Store_Load_nil.calls l250 A251 n252 t261 _ ⟨Rd.pass (l := []) (rest := []) (by decide) (fun _ _ _ _ h => h) HR253.out HS.out⟩ ⟨HS.out.begin (l := []) (rest := [])⟩ HA262).mono ?_
  rintro e_ w263 ⟨rfl, hS⟩
  replace HS : Aside0 (Sep (fps []) w [] w263) := ⟨HS.out.call (l := []) (rest := []) hS⟩
  clear hS
  go_wp2_with fail
  go_ret
  rw [← some_eq H]
  exact ⟨(by first | rfl | (simp [IntKind.wrap_u32]; done)), (HS.out).keep (l := []) (rest := [])⟩

set_option maxHeartbeats 30000000 in
set_option maxRecDepth 100000 in
theorem store_Store_Peek_nil.calls (a275 : Int) (r : Int) (w : World)   (HS : Aside0 (Sep (fps []) w [] w)) (H : Aside0 (store_Store_Peek_nil.f a275 = some r)) :
    Calls Try.prog 20 #[.pointer none, .int .i64 a275] w fun e w' => e = .returned (.int .u32 r) ∧ Sep (fps []) w [] w' := by
  unfold store_Store_Peek_nil.f at H
  go_enter Try.func20, Try.ntmps20
  go_wp2_with fail
  obtain ⟨t276, HA277, H⟩ := bind_some H
  refine (store_Store_has_nil.calls a275 t276 _ ⟨HS.out.begin (l := []) (rest := [])⟩ HA277).mono ?_
  rintro e_ w278 ⟨rfl, hS⟩
  replace HS : Aside0 (Sep (fps []) w [] w278) := ⟨HS.out.call (l := []) (rest := []) hS⟩
  clear hS
  by_cases c279 : t276 = true
  · have H := if_yes c279 H
    have c279b0 : t276 = true := c279
    have c279b1 : (!t276) = false := by rw [c279b0]; rfl
    try rw [c279b1]
    clear c279
    exact (none_no H).elim
  · have H := if_no c279 H
    have c279b0 : t276 = false := by simpa using c279
    have c279b1 : (!t276) = true := by rw [c279b0]; rfl
    try rw [c279b1]
    clear c279
    go_wp2_with fail
    go_ret
    rw [← some_eq H]
    exact ⟨(by first | rfl | (simp [IntKind.wrap_u32]; done)), (HS.out).keep (l := []) (rest := [])⟩

set_option maxHeartbeats 30000000 in
set_option maxRecDepth 100000 in
theorem ground_Ground_SeeReg_nil.calls (a268 : Int) (r : Int) (w : World)   (HS : Aside0 (Sep (fps []) w [] w)) (H : Aside0 (ground_Ground_SeeReg_nil.f a268 = some r)) :
    Calls Try.prog 48 #[.pointer none, .int .i64 a268] w fun e w' => e = .returned (.int .i64 r) ∧ Sep (fps []) w [] w' := by
  unfold ground_Ground_SeeReg_nil.f at H
  go_enter Try.func48, Try.ntmps48
  go_wp2_with fail
  obtain ⟨t269, HA270, H⟩ := bind_some H
  refine (ground_Ground_all_nil.calls t269 _ ⟨HS.out.begin (l := []) (rest := [])⟩ HA270).mono ?_
  rintro e_ w271 ⟨rfl, hS⟩
  replace HS : Aside0 (Sep (fps []) w [] w271) := ⟨HS.out.call (l := []) (rest := []) hS⟩
  clear hS
  go_wp2_with fail
  obtain ⟨t272, HA273, H⟩ := bind_some H
  refine (ground_reg.calls a268 t272 _ ⟨HS.out.begin (l := []) (rest := [])⟩ HA273).mono ?_
  rintro e_ w274 ⟨rfl, hS⟩
  replace HS : Aside0 (Sep (fps []) w [] w274) := ⟨HS.out.call (l := []) (rest := []) hS⟩
  clear hS
  go_wp2_with fail
  obtain ⟨t280, HA281, H⟩ := bind_some H
  refine (store_Store_Peek_nil.calls t272 t280 _ ⟨HS.out.begin (l := []) (rest := [])⟩ HA281).mono ?_
  rintro e_ w282 ⟨rfl, hS⟩
  replace HS : Aside0 (Sep (fps []) w [] w282) := ⟨HS.out.call (l := []) (rest := []) hS⟩
  clear hS
  go_wp2_with fail
  go_ret
  rw [← some_eq H]
  exact ⟨(by first | rfl | (simp [IntKind.wrap_u32]; done)), (HS.out).keep (l := []) (rest := [])⟩

set_option maxHeartbeats 30000000 in
set_option maxRecDepth 100000 in
theorem ground_Ground_SeeRoot_nil.calls (a287 : Int) (r : Int) (w : World)   (HS : Aside0 (Sep (fps []) w [] w)) (H : Aside0 (ground_Ground_SeeRoot_nil.f a287 = some r)) :
    Calls Try.prog 49 #[.pointer none, .int .i64 a287] w fun e w' => e = .returned (.int .i64 r) ∧ Sep (fps []) w [] w' := by
  unfold ground_Ground_SeeRoot_nil.f at H
  go_enter Try.func49, Try.ntmps49
  go_wp2_with fail
  obtain ⟨t288, HA289, H⟩ := bind_some H
  refine (ground_Ground_all_nil.calls t288 _ ⟨HS.out.begin (l := []) (rest := [])⟩ HA289).mono ?_
  rintro e_ w290 ⟨rfl, hS⟩
  replace HS : Aside0 (Sep (fps []) w [] w290) := ⟨HS.out.call (l := []) (rest := []) hS⟩
  clear hS
  go_wp2_with fail
  obtain ⟨t291, HA292, H⟩ := bind_some H
  refine (ground_Ground_root_nil.calls a287 t291 _ ⟨HS.out.begin (l := []) (rest := [])⟩ HA292).mono ?_
  rintro e_ w293 ⟨rfl, hS⟩
  replace HS : Aside0 (Sep (fps []) w [] w293) := ⟨HS.out.call (l := []) (rest := []) hS⟩
  clear hS
  go_wp2_with fail
  obtain ⟨t294, HA295, H⟩ := bind_some H
  refine (store_Store_Peek_nil.calls t291 t294 _ ⟨HS.out.begin (l := []) (rest := [])⟩ HA295).mono ?_
  rintro e_ w296 ⟨rfl, hS⟩
  replace HS : Aside0 (Sep (fps []) w [] w296) := ⟨HS.out.call (l := []) (rest := []) hS⟩
  clear hS
  go_wp2_with fail
  go_ret
  rw [← some_eq H]
  exact ⟨(by first | rfl | (simp [IntKind.wrap_u32]; done)), (HS.out).keep (l := []) (rest := [])⟩

set_option maxHeartbeats 30000000 in
set_option maxRecDepth 100000 in
theorem ground_Ground_SeeWord_nil.calls (a301 : Int) (a302 : Int) (r : Int) (w : World)   (HS : Aside0 (Sep (fps []) w [] w)) (H : Aside0 (ground_Ground_SeeWord_nil.f a301 a302 = some r)) :
    Calls Try.prog 50 #[.pointer none, .int .i64 a301, .int .i64 a302] w fun e w' => e = .returned (.int .u32 r) ∧ Sep (fps []) w [] w' := by
  unfold ground_Ground_SeeWord_nil.f at H
  go_enter Try.func50, Try.ntmps50
  go_wp2_with fail
  obtain ⟨t303, HA304, H⟩ := bind_some H
  refine (ground_Ground_all_nil.calls t303 _ ⟨HS.out.begin (l := []) (rest := [])⟩ HA304).mono ?_
  rintro e_ w305 ⟨rfl, hS⟩
  replace HS : Aside0 (Sep (fps []) w [] w305) := ⟨HS.out.call (l := []) (rest := []) hS⟩
  clear hS
  go_wp2_with fail
  obtain ⟨t306, HA307, H⟩ := bind_some H
  refine (ground_Ground_word_nil.calls a301 a302 t306 _ ⟨HS.out.begin (l := []) (rest := [])⟩ HA307).mono ?_
  rintro e_ w308 ⟨rfl, hS⟩
  replace HS : Aside0 (Sep (fps []) w [] w308) := ⟨HS.out.call (l := []) (rest := []) hS⟩
  clear hS
  go_wp2_with fail
  obtain ⟨t309, HA310, H⟩ := bind_some H
  refine (store_Store_Peek_nil.calls t306 t309 _ ⟨HS.out.begin (l := []) (rest := [])⟩ HA310).mono ?_
  rintro e_ w311 ⟨rfl, hS⟩
  replace HS : Aside0 (Sep (fps []) w [] w311) := ⟨HS.out.call (l := []) (rest := []) hS⟩
  clear hS
  go_wp2_with fail
  go_ret
  rw [← some_eq H]
  exact ⟨(by first | rfl | (simp [IntKind.wrap_u32]; done)), (HS.out).keep (l := []) (rest := [])⟩

set_option maxHeartbeats 30000000 in
set_option maxRecDepth 100000 in
theorem ratio_Clamp.calls (a352 : Int) (a353 : Int) (a354 : Int) (r : Int) (w : World)   (HS : Aside0 (Sep (fps []) w [] w)) (H : Aside0 (ratio_Clamp.f a352 a353 a354 = some r)) :
    Calls Try.prog 123 #[.int .i64 a352, .int .i64 a353, .int .i64 a354] w fun e w' => e = .returned (.int .i64 r) ∧ Sep (fps []) w [] w' := by
  unfold ratio_Clamp.f at H
  go_enter Try.func123, Try.ntmps123
  by_cases c355 : a352 > a354
  · have H := if_yes c355 H
    have c355b0 : decide (a354 < a352) = true := decide_eq_true c355
    clear c355
    go_wp2_with fail
    go_ret
    rw [← some_eq H]
    exact ⟨(by first | rfl | (simp [IntKind.wrap_u32]; done)), (HS.out).keep (l := []) (rest := [])⟩
  · have H := if_no c355 H
    have c355b0 : decide (a354 < a352) = false := decide_eq_false c355
    clear c355
    by_cases c356 : a352 < a353
    · have H := if_yes c356 H
      have c356b0 : decide (a352 < a353) = true := decide_eq_true c356
      skip
      go_wp2_with fail
      clear c356
      go_ret
      rw [← some_eq H]
      exact ⟨(by first | rfl | (simp [IntKind.wrap_u32]; done)), (HS.out).keep (l := []) (rest := [])⟩
    · have H := if_no c356 H
      have c356b0 : decide (a352 < a353) = false := decide_eq_false c356
      skip
      go_wp2_with fail
      clear c356
      go_ret
      rw [← some_eq H]
      exact ⟨(by first | rfl | (simp [IntKind.wrap_u32]; done)), (HS.out).keep (l := []) (rest := [])⟩

set_option maxHeartbeats 30000000 in
set_option maxRecDepth 100000 in
theorem plan_within.calls (a349 : Int) (a350 : Int) (a351 : Int) (r : Bool) (w : World)   (HS : Aside0 (Sep (fps []) w [] w)) (H : Aside0 (plan_within.f a349 a350 a351 = some r)) :
    Calls Try.prog 115 #[.int .i64 a349, .int .i64 a350, .int .i64 a351] w fun e w' => e = .returned (.bool r) ∧ Sep (fps []) w [] w' := by
  unfold plan_within.f at H
  go_enter Try.func115, Try.ntmps115
  go_wp2_with fail
  obtain ⟨t357, HA358, H⟩ := bind_some H
  refine (ratio_Clamp.calls a349 a350 a351 t357 _ ⟨HS.out.begin (l := []) (rest := [])⟩ HA358).mono ?_
  rintro e_ w359 ⟨rfl, hS⟩
  replace HS : Aside0 (Sep (fps []) w [] w359) := ⟨HS.out.call (l := []) (rest := []) hS⟩
  clear hS
  go_wp2_with fail
  go_ret
  rw [← some_eq H]
  exact ⟨(by first | rfl | (simp [IntKind.wrap_u32]; done)), (HS.out).keep (l := []) (rest := [])⟩

set_option maxHeartbeats 30000000 in
set_option maxRecDepth 100000 in
theorem plan_Check.calls (a341 : Int) (a342 : Int) (a343 : Int) (a344 : Int) (r : Int) (w : World)   (HS : Aside0 (Sep (fps []) w [] w)) (H : Aside0 (plan_Check.f a341 a342 a343 a344 = some r)) :
    Calls Try.prog 105 #[.agg #[.int .i64 a341, .int .i64 a342, .int .i64 a343, .int .i64 a344]] w fun e w' => e = .returned (.int .i64 r) ∧ Sep (fps []) w [] w' := by
  unfold plan_Check.f at H
  go_enter Try.func105, Try.ntmps105
  go_wp2_with (first | ((with_reducible refine gate_dst (N := 1) rfl ?_); refine box_on ?hg (N := 1) ?hd (cs := #[.int .i64 a341, .int .i64 a342, .int .i64 a343, .int .i64 a344]) (t := 49) ?hr ?_; (case hd => rfl); (case hg => rfl); (case hr => first | (go_simp; done) | (go_simp; rfl)); intro g345 hg w346 hbox hb; replace HS : Aside0 (Sep (fps []) w [b1 g345 a341 a342 a343 a344] w346) := ⟨HS.out.box hg hbox hb⟩; clear hg hbox hb; have hc348 : w346.cell? ⟨g345, 0, none⟩ = some (.int .i64 a341) := blk_cellv (HS.out.at0) 0 rfl))
  clear hc348
  obtain ⟨t360, HA361, H⟩ := bind_some H
  refine (plan_within.calls a341 1 1048576 t360 _ ⟨HS.out.begin (l := []) (rest := [b1 g345 a341 a342 a343 a344])⟩ HA361).mono ?_
  rintro e_ w362 ⟨rfl, hS⟩
  replace HS : Aside0 (Sep (fps []) w [b1 g345 a341 a342 a343 a344] w362) := ⟨HS.out.call (l := []) (rest := [b1 g345 a341 a342 a343 a344]) hS⟩
  clear hS
  by_cases c363 : t360 = true
  · have H := if_yes c363 H
    have c363b0 : t360 = true := c363
    have c363b1 : (!t360) = false := by rw [c363b0]; rfl
    clear c363
    have hc364 : w362.cell? ⟨g345, 1, none⟩ = some (.int .i64 a342) := blk_cellv (HS.out.at0) 1 rfl
    go_wp2_with fail
    clear hc364
    obtain ⟨t365, HA366, H⟩ := bind_some H
    refine (plan_within.calls a342 16 256 t365 _ ⟨HS.out.begin (l := []) (rest := [b1 g345 a341 a342 a343 a344])⟩ HA366).mono ?_
    rintro e_ w367 ⟨rfl, hS⟩
    replace HS : Aside0 (Sep (fps []) w [b1 g345 a341 a342 a343 a344] w367) := ⟨HS.out.call (l := []) (rest := [b1 g345 a341 a342 a343 a344]) hS⟩
    clear hS
    by_cases c368 : t365 = true
    · have H := if_yes c368 H
      have c368b0 : t365 = true := c368
      have c368b1 : (!t365) = false := by rw [c368b0]; rfl
      clear c368
      have hc369 : w367.cell? ⟨g345, 2, none⟩ = some (.int .i64 a343) := blk_cellv (HS.out.at0) 2 rfl
      go_wp2_with fail
      clear hc369
      obtain ⟨t370, HA371, H⟩ := bind_some H
      refine (plan_within.calls a343 1 4096 t370 _ ⟨HS.out.begin (l := []) (rest := [b1 g345 a341 a342 a343 a344])⟩ HA371).mono ?_
      rintro e_ w372 ⟨rfl, hS⟩
      replace HS : Aside0 (Sep (fps []) w [b1 g345 a341 a342 a343 a344] w372) := ⟨HS.out.call (l := []) (rest := [b1 g345 a341 a342 a343 a344]) hS⟩
      clear hS
      by_cases c373 : t370 = true
      · have H := if_yes c373 H
        have c373b0 : t370 = true := c373
        have c373b1 : (!t370) = false := by rw [c373b0]; rfl
        clear c373
        have hc374 : w372.cell? ⟨g345, 3, none⟩ = some (.int .i64 a344) := blk_cellv (HS.out.at0) 3 rfl
        go_wp2_with fail
        clear hc374
        obtain ⟨t375, HA376, H⟩ := bind_some H
        refine (plan_within.calls a344 1 65536 t375 _ ⟨HS.out.begin (l := []) (rest := [b1 g345 a341 a342 a343 a344])⟩ HA376).mono ?_
        rintro e_ w377 ⟨rfl, hS⟩
        replace HS : Aside0 (Sep (fps []) w [b1 g345 a341 a342 a343 a344] w377) := ⟨HS.out.call (l := []) (rest := [b1 g345 a341 a342 a343 a344]) hS⟩
        clear hS
        by_cases c378 : t375 = true
        · have H := if_yes c378 H
          have c378b0 : t375 = true := c378
          have c378b1 : (!t375) = false := by rw [c378b0]; rfl
          clear c378
          by_cases c381 : (wrap64 (a341 * a342)) ≤ 4194304
          · have H := if_yes c381 H
            have c381b0 : decide ((wrap64 (a341 * a342)) ≤ 4194304) = true := decide_eq_true c381
            clear c381
            have hc379 : w377.cell? ⟨g345, 0, none⟩ = some (.int .i64 a341) := blk_cellv (HS.out.at0) 0 rfl
            have hc380 : w377.cell? ⟨g345, 1, none⟩ = some (.int .i64 a342) := blk_cellv (HS.out.at0) 1 rfl
            replace HS : Aside0 (Sep (fps []) w [] w377) := ⟨HS.out.sub (.cons _ .slnil)⟩
            go_wp2_with fail
            clear hc379 hc380
            go_ret
            rw [← some_eq H]
            exact ⟨(by first | rfl | (simp [IntKind.wrap_u32]; done)), (HS.out).keep (l := []) (rest := [])⟩
          · have H := if_no c381 H
            have c381b0 : decide ((wrap64 (a341 * a342)) ≤ 4194304) = false := decide_eq_false c381
            clear c381
            have hc379 : w377.cell? ⟨g345, 0, none⟩ = some (.int .i64 a341) := blk_cellv (HS.out.at0) 0 rfl
            have hc380 : w377.cell? ⟨g345, 1, none⟩ = some (.int .i64 a342) := blk_cellv (HS.out.at0) 1 rfl
            replace HS : Aside0 (Sep (fps []) w [] w377) := ⟨HS.out.sub (.cons _ .slnil)⟩
            go_wp2_with fail
            clear hc379 hc380
            go_ret
            rw [← some_eq H]
            exact ⟨(by first | rfl | (simp [IntKind.wrap_u32]; done)), (HS.out).keep (l := []) (rest := [])⟩
        · have H := if_no c378 H
          have c378b0 : t375 = false := by simpa using c378
          have c378b1 : (!t375) = true := by rw [c378b0]; rfl
          clear c378
          replace HS : Aside0 (Sep (fps []) w [] w377) := ⟨HS.out.sub (.cons _ .slnil)⟩
          go_wp2_with fail
          go_ret
          rw [← some_eq H]
          exact ⟨(by first | rfl | (simp [IntKind.wrap_u32]; done)), (HS.out).keep (l := []) (rest := [])⟩
      · have H := if_no c373 H
        have c373b0 : t370 = false := by simpa using c373
        have c373b1 : (!t370) = true := by rw [c373b0]; rfl
        clear c373
        replace HS : Aside0 (Sep (fps []) w [] w372) := ⟨HS.out.sub (.cons _ .slnil)⟩
        go_wp2_with fail
        go_ret
        rw [← some_eq H]
        exact ⟨(by first | rfl | (simp [IntKind.wrap_u32]; done)), (HS.out).keep (l := []) (rest := [])⟩
    · have H := if_no c368 H
      have c368b0 : t365 = false := by simpa using c368
      have c368b1 : (!t365) = true := by rw [c368b0]; rfl
      clear c368
      replace HS : Aside0 (Sep (fps []) w [] w367) := ⟨HS.out.sub (.cons _ .slnil)⟩
      go_wp2_with fail
      go_ret
      rw [← some_eq H]
      exact ⟨(by first | rfl | (simp [IntKind.wrap_u32]; done)), (HS.out).keep (l := []) (rest := [])⟩
  · have H := if_no c363 H
    have c363b0 : t360 = false := by simpa using c363
    have c363b1 : (!t360) = true := by rw [c363b0]; rfl
    clear c363
    replace HS : Aside0 (Sep (fps []) w [] w362) := ⟨HS.out.sub (.cons _ .slnil)⟩
    go_wp2_with fail
    go_ret
    rw [← some_eq H]
    exact ⟨(by first | rfl | (simp [IntKind.wrap_u32]; done)), (HS.out).keep (l := []) (rest := [])⟩

set_option maxHeartbeats 30000000 in
set_option maxRecDepth 100000 in
theorem ratio_counts.calls (a414 : Int) (r : Int) (w : World)   (HS : Aside0 (Sep (fps []) w [] w)) (H : Aside0 (ratio_counts.f a414 = some r)) :
    Calls Try.prog 116 #[.int .i64 a414] w fun e w' => e = .returned (.int .i64 r) ∧ Sep (fps []) w [] w' := by
  unfold ratio_counts.f at H
  go_enter Try.func116, Try.ntmps116
  go_wp2_with fail
  obtain ⟨t415, HA416, H⟩ := bind_some H
  refine (ratio_Clamp.calls a414 0 1125899906842624 t415 _ ⟨HS.out.begin (l := []) (rest := [])⟩ HA416).mono ?_
  rintro e_ w417 ⟨rfl, hS⟩
  replace HS : Aside0 (Sep (fps []) w [] w417) := ⟨HS.out.call (l := []) (rest := []) hS⟩
  clear hS
  go_wp2_with fail
  go_ret
  rw [← some_eq H]
  exact ⟨(by first | rfl | (simp [IntKind.wrap_u32]; done)), (HS.out).keep (l := []) (rest := [])⟩

set_option maxHeartbeats 30000000 in
set_option maxRecDepth 100000 in
theorem ratio_zero.calls (a413 : Int) (r : Bool) (w : World)   (HS : Aside0 (Sep (fps []) w [] w)) (H : Aside0 (ratio_zero.f a413 = some r)) :
    Calls Try.prog 118 #[.int .i64 a413] w fun e w' => e = .returned (.bool r) ∧ Sep (fps []) w [] w' := by
  unfold ratio_zero.f at H
  go_enter Try.func118, Try.ntmps118
  go_wp2_with fail
  obtain ⟨t418, HA419, H⟩ := bind_some H
  refine (ratio_counts.calls a413 t418 _ ⟨HS.out.begin (l := []) (rest := [])⟩ HA419).mono ?_
  rintro e_ w420 ⟨rfl, hS⟩
  replace HS : Aside0 (Sep (fps []) w [] w420) := ⟨HS.out.call (l := []) (rest := []) hS⟩
  clear hS
  go_wp2_with fail
  go_ret
  rw [← some_eq H]
  exact ⟨(by first | rfl | (simp [IntKind.wrap_u32]; done)), (HS.out).keep (l := []) (rest := [])⟩

set_option maxHeartbeats 30000000 in
set_option maxRecDepth 100000 in
theorem slices_IndexFunc_int_int_F118.calls (k : Nat) (l399 : List Int) (A400 : Option Addr) (n401 : Nat) (r : Int) (w : World) (HR402 : Aside0 (Rd (Kd.int .i64) (fps []) w A400 l399.length l399))  (HS : Aside0 (Sep (fps []) w [] w)) (H : Aside0 (slices_IndexFunc_int_int_F118.f k l399 = some r)) :
    Calls Try.prog 124 #[.slice A400 l399.length n401, .func (.func 118) #[] #[]] w fun e w' => e = .returned (.int .i64 r) ∧ Sep (fps []) w [] w' := by
  unfold slices_IndexFunc_int_int_F118.f at H
  go_enter Try.func124, Try.ntmps124
  go_wp2_with fail
  obtain ⟨o425, AL426, H⟩ := bind_some H
  go_loopg [8] k (fun kq v8 wc => ∃ (x429 : Int), v8 = .int .i64 x429 ∧ Aside0 (slices_IndexFunc_int_int_F118.lo0 kq l399 x429 = some o425) ∧ Aside0 (Sep (fps []) w [] wc))
  case atStart => exact ⟨(0), (by first | rfl | (simp [IntKind.wrap_u32]; done)), AL426, ⟨HS.out⟩⟩
  case round =>
    clear AL426 HS
    obtain ⟨x429, rfl, AL426, HS⟩ := hrel
    obtain ⟨w427, rfl⟩ : ∃ x : World, x = wr := ⟨_, rfl⟩
    cases gk with
    | zero => exact absurd AL426.out (by simp [slices_IndexFunc_int_int_F118.lo0])
    | succ k428 =>
      have AL0 := AL426.out
      rw [slices_IndexFunc_int_int_F118.lo0] at AL0
      clear AL426
      have AL426 := Aside0.mk AL0
      clear AL0
      by_cases c430 : x429 < (l399.length : Int)
      · have AL426 := if_yes c430 AL426
        have c430b0 : decide (x429 < (l399.length : Int)) = true := decide_eq_true c430
        clear c430
        by_cases c431 : 0 ≤ x429
        · have AL426 := if_yes c431 AL426
          have c431b0 : decide (0 ≤ x429) = true := decide_eq_true c431
          have c431p : (0 ≤ x429) = True := eq_true c431
          clear c431
          have ip432 : (x429 < (l399.length : Int)) = True := eq_true (of_decide_eq_true c430b0)
          obtain ⟨hx433a, hx433e, hx433⟩ := Kd.at_int (Rd.read (fun _ _ _ _ h => h) HR402.out HS.out.fr) x429 (of_decide_eq_true c431b0) (of_decide_eq_true c430b0); cases hx433e
          go_wp2_with fail
          clear hx433
          obtain ⟨t421, HA434, AL426⟩ := bind_some AL426
          refine (ratio_zero.calls (rd l399 x429) t421 _ ⟨HS.out.begin (l := []) (rest := [])⟩ HA434).mono ?_
          rintro e_ w435 ⟨rfl, hS⟩
          replace HS : Aside0 (Sep (fps []) w [] w435) := ⟨HS.out.call (l := []) (rest := []) hS⟩
          clear hS
          by_cases c436 : t421 = true
          · have AL426 := if_yes c436 AL426
            have c436b0 : t421 = true := c436
            have c436b1 : (!t421) = false := by rw [c436b0]; rfl
            clear c436
            go_wp2_with fail
            have ho := some_eq AL426
            subst ho
            have H := lp_ret H
            go_ret
            rw [← some_eq H]
            exact ⟨(by first | rfl | (simp [IntKind.wrap_u32]; done)), (HS.out).keep (l := []) (rest := [])⟩
          · have AL426 := if_no c436 AL426
            have c436b0 : t421 = false := by simpa using c436
            have c436b1 : (!t421) = true := by rw [c436b0]; rfl
            clear c436
            go_wp2_with fail
            go_roundg k428
            case measure => exact Nat.lt_succ_self _
            case rel => exact ⟨(wrap64 (x429 + 1)), (by first | rfl | (simp [IntKind.wrap_u32]; done)), Aside0.mk AL426.out, ⟨(HS.out).keep (l := []) (rest := [])⟩⟩
        · have AL426 := if_no c431 AL426
          have c431b0 : decide (0 ≤ x429) = false := decide_eq_false c431
          clear c431
          exact (none_no AL426).elim
      · have AL426 := if_no c430 AL426
        have c430b0 : decide (x429 < (l399.length : Int)) = false := decide_eq_false c430
        clear c430
        have ho := some_eq AL426
        subst ho
        clear AL426
        have H := lp_out H
        go_wp2_with fail
        go_ret
        rw [← some_eq H]
        exact ⟨(by first | rfl | (simp [IntKind.wrap_u32]; done)), (HS.out).keep (l := []) (rest := [])⟩

set_option maxHeartbeats 30000000 in
set_option maxRecDepth 100000 in
theorem slices_ContainsFunc_int_int_F118.calls (k : Nat) (l395 : List Int) (A396 : Option Addr) (n397 : Nat) (r : Bool) (w : World) (HR398 : Aside0 (Rd (Kd.int .i64) (fps []) w A396 l395.length l395))  (HS : Aside0 (Sep (fps []) w [] w)) (H : Aside0 (slices_ContainsFunc_int_int_F118.f k l395 = some r)) :
    Calls Try.prog 117 #[.slice A396 l395.length n397, .func (.func 118) #[] #[]] w fun e w' => e = .returned (.bool r) ∧ Sep (fps []) w [] w' := by
  unfold slices_ContainsFunc_int_int_F118.f at H
  go_enter Try.func117, Try.ntmps117
  go_wp2_with fail
  obtain ⟨t438, HA439, H⟩ := bind_some H
  refine (slices_IndexFunc_int_int_F118.calls _ l395 A396 n397 t438 _ ⟨Rd.pass (l := []) (rest := []) (by decide) (fun _ _ _ _ h => h) HR398.out HS.out⟩ ⟨HS.out.begin (l := []) (rest := [])⟩ HA439).mono ?_
  rintro e_ w440 ⟨rfl, hS⟩
  replace HS : Aside0 (Sep (fps []) w [] w440) := ⟨HS.out.call (l := []) (rest := []) hS⟩
  clear hS
  go_wp2_with fail
  go_ret
  rw [← some_eq H]
  exact ⟨(by first | rfl | (simp [IntKind.wrap_u32]; done)), (HS.out).keep (l := []) (rest := [])⟩

set_option maxHeartbeats 30000000 in
set_option maxRecDepth 100000 in
theorem ratio_Mul.calls (k : Nat) (l391 : List Int) (A392 : Option Addr) (n393 : Nat) (r : Int) (w : World) (HR394 : Aside0 (Rd (Kd.int .i64) (fps []) w A392 l391.length l391))  (HS : Aside0 (Sep (fps []) w [] w)) (H : Aside0 (ratio_Mul.f k l391 = some r)) :
    Calls Try.prog 107 #[.slice A392 l391.length n393] w fun e w' => e = .returned (.int .i64 r) ∧ Sep (fps []) w [] w' := by
  unfold ratio_Mul.f at H
  go_enter Try.func107, Try.ntmps107
  go_wp2_with fail
  obtain ⟨t441, HA442, H⟩ := bind_some H
  refine (slices_ContainsFunc_int_int_F118.calls _ l391 A392 n393 t441 _ ⟨Rd.pass (l := []) (rest := []) (by decide) (fun _ _ _ _ h => h) HR394.out HS.out⟩ ⟨HS.out.begin (l := []) (rest := [])⟩ HA442).mono ?_
  rintro e_ w443 ⟨rfl, hS⟩
  replace HS : Aside0 (Sep (fps []) w [] w443) := ⟨HS.out.call (l := []) (rest := []) hS⟩
  clear hS
  by_cases c444 : t441 = true
  · have H := if_yes c444 H
    have c444b0 : t441 = true := c444
    have c444b1 : (!t441) = false := by rw [c444b0]; rfl
    clear c444
    go_wp2_with fail
    go_ret
    rw [← some_eq H]
    exact ⟨(by first | rfl | (simp [IntKind.wrap_u32]; done)), (HS.out).keep (l := []) (rest := [])⟩
  · have H := if_no c444 H
    have c444b0 : t441 = false := by simpa using c444
    have c444b1 : (!t441) = true := by rw [c444b0]; rfl
    clear c444
    go_wp2_with fail
    obtain ⟨o446, AL447, H⟩ := bind_some H
    go_loopg [3, 11] k (fun kq v3 v11 wc => ∃ (x450 : Int) (x451 : Int), v3 = .int .i64 x450 ∧ v11 = .int .i64 x451 ∧ Aside0 (ratio_Mul.lo0 kq l391 x450 x451 = some o446) ∧ Aside0 (Sep (fps []) w [] wc))
    case atStart => exact ⟨(1), (0), (by first | rfl | (simp [IntKind.wrap_u32]; done)), (by first | rfl | (simp [IntKind.wrap_u32]; done)), AL447, ⟨HS.out⟩⟩
    case round =>
      clear AL447 HS
      obtain ⟨x450, x451, rfl, rfl, AL447, HS⟩ := hrel
      obtain ⟨w448, rfl⟩ : ∃ x : World, x = wr := ⟨_, rfl⟩
      cases gk with
      | zero => exact absurd AL447.out (by simp [ratio_Mul.lo0])
      | succ k449 =>
        have AL0 := AL447.out
        rw [ratio_Mul.lo0] at AL0
        clear AL447
        have AL447 := Aside0.mk AL0
        clear AL0
        by_cases c452 : x451 < (l391.length : Int)
        · have AL447 := if_yes c452 AL447
          have c452b0 : decide (x451 < (l391.length : Int)) = true := decide_eq_true c452
          clear c452
          by_cases c453 : 0 ≤ x451
          · have AL447 := if_yes c453 AL447
            have c453b0 : decide (0 ≤ x451) = true := decide_eq_true c453
            have c453p : (0 ≤ x451) = True := eq_true c453
            clear c453
            have ip454 : (x451 < (l391.length : Int)) = True := eq_true (of_decide_eq_true c452b0)
            obtain ⟨hx455a, hx455e, hx455⟩ := Kd.at_int (Rd.read (fun _ _ _ _ h => h) HR394.out HS.out.fr) x451 (of_decide_eq_true c453b0) (of_decide_eq_true c452b0); cases hx455e
            go_wp2_with fail
            clear hx455
            obtain ⟨t456, HA457, AL447⟩ := bind_some AL447
            refine (ratio_counts.calls (rd l391 x451) t456 _ ⟨HS.out.begin (l := []) (rest := [])⟩ HA457).mono ?_
            rintro e_ w458 ⟨rfl, hS⟩
            replace HS : Aside0 (Sep (fps []) w [] w458) := ⟨HS.out.call (l := []) (rest := []) hS⟩
            clear hS
            by_cases c459 : t456 = 0
            · have AL447 := if_yes c459 AL447
              have c459b0 : (t456 == 0) = true := beq_iff_eq.mpr c459
              have c459b1 : (t456 != 0) = false := bne_eq_false_iff_eq.mpr c459
              exact (none_no AL447).elim
            · have AL447 := if_no c459 AL447
              have c459b0 : (t456 == 0) = false := beq_eq_false_iff_ne.mpr c459
              have c459b1 : (t456 != 0) = true := bne_iff_ne.mpr c459
              by_cases c460 : x450 ≤ (wrap64 (Int.tdiv (1125899906842624 : Int) t456))
              · have AL447 := if_yes c460 AL447
                have c460b0 : decide (x450 ≤ (wrap64 (Int.tdiv (1125899906842624 : Int) t456))) = true := decide_eq_true c460
                clear c460
                skip
                go_wp2_with fail
                clear c459
                go_roundg k449
                case measure => exact Nat.lt_succ_self _
                case rel => exact ⟨(wrap64 (x450 * t456)), (wrap64 (x451 + 1)), (by first | rfl | (simp [IntKind.wrap_u32]; done)), (by first | rfl | (simp [IntKind.wrap_u32]; done)), Aside0.mk AL447.out, ⟨(HS.out).keep (l := []) (rest := [])⟩⟩
              · have AL447 := if_no c460 AL447
                have c460b0 : decide (x450 ≤ (wrap64 (Int.tdiv (1125899906842624 : Int) t456))) = false := decide_eq_false c460
                clear c460
                skip
                go_wp2_with fail
                clear c459
                go_roundg k449
                case measure => exact Nat.lt_succ_self _
                case rel => exact ⟨(1125899906842624), (wrap64 (x451 + 1)), (by first | rfl | (simp [IntKind.wrap_u32]; done)), (by first | rfl | (simp [IntKind.wrap_u32]; done)), Aside0.mk AL447.out, ⟨(HS.out).keep (l := []) (rest := [])⟩⟩
          · have AL447 := if_no c453 AL447
            have c453b0 : decide (0 ≤ x451) = false := decide_eq_false c453
            clear c453
            exact (none_no AL447).elim
        · have AL447 := if_no c452 AL447
          have c452b0 : decide (x451 < (l391.length : Int)) = false := decide_eq_false c452
          clear c452
          have ho := some_eq AL447
          subst ho
          clear AL447
          go_wp2_with fail
          go_ret
          rw [← some_eq H]
          exact ⟨(by first | rfl | (simp [IntKind.wrap_u32]; done)), (HS.out).keep (l := []) (rest := [])⟩

set_option maxHeartbeats 30000000 in
set_option maxRecDepth 100000 in
theorem ratio_Add.calls (k : Nat) (l468 : List Int) (A469 : Option Addr) (n470 : Nat) (r : Int) (w : World) (HR471 : Aside0 (Rd (Kd.int .i64) (fps []) w A469 l468.length l468))  (HS : Aside0 (Sep (fps []) w [] w)) (H : Aside0 (ratio_Add.f k l468 = some r)) :
    Calls Try.prog 106 #[.slice A469 l468.length n470] w fun e w' => e = .returned (.int .i64 r) ∧ Sep (fps []) w [] w' := by
  unfold ratio_Add.f at H
  go_enter Try.func106, Try.ntmps106
  go_wp2_with fail
  obtain ⟨o473, AL474, H⟩ := bind_some H
  go_loopg [3, 8] k (fun kq v3 v8 wc => ∃ (x477 : Int) (x478 : Int), v3 = .int .i64 x477 ∧ v8 = .int .i64 x478 ∧ Aside0 (ratio_Add.lo0 kq l468 x477 x478 = some o473) ∧ Aside0 (Sep (fps []) w [] wc))
  case atStart => exact ⟨(0), (0), (by first | rfl | (simp [IntKind.wrap_u32]; done)), (by first | rfl | (simp [IntKind.wrap_u32]; done)), AL474, ⟨HS.out⟩⟩
  case round =>
    clear AL474 HS
    obtain ⟨x477, x478, rfl, rfl, AL474, HS⟩ := hrel
    obtain ⟨w475, rfl⟩ : ∃ x : World, x = wr := ⟨_, rfl⟩
    cases gk with
    | zero => exact absurd AL474.out (by simp [ratio_Add.lo0])
    | succ k476 =>
      have AL0 := AL474.out
      rw [ratio_Add.lo0] at AL0
      clear AL474
      have AL474 := Aside0.mk AL0
      clear AL0
      by_cases c479 : x478 < (l468.length : Int)
      · have AL474 := if_yes c479 AL474
        have c479b0 : decide (x478 < (l468.length : Int)) = true := decide_eq_true c479
        clear c479
        by_cases c480 : 0 ≤ x478
        · have AL474 := if_yes c480 AL474
          have c480b0 : decide (0 ≤ x478) = true := decide_eq_true c480
          have c480p : (0 ≤ x478) = True := eq_true c480
          clear c480
          have ip481 : (x478 < (l468.length : Int)) = True := eq_true (of_decide_eq_true c479b0)
          obtain ⟨hx482a, hx482e, hx482⟩ := Kd.at_int (Rd.read (fun _ _ _ _ h => h) HR471.out HS.out.fr) x478 (of_decide_eq_true c480b0) (of_decide_eq_true c479b0); cases hx482e
          go_wp2_with fail
          clear hx482
          obtain ⟨t483, HA484, AL474⟩ := bind_some AL474
          refine (ratio_counts.calls (rd l468 x478) t483 _ ⟨HS.out.begin (l := []) (rest := [])⟩ HA484).mono ?_
          rintro e_ w485 ⟨rfl, hS⟩
          replace HS : Aside0 (Sep (fps []) w [] w485) := ⟨HS.out.call (l := []) (rest := []) hS⟩
          clear hS
          by_cases c486 : 1125899906842624 < (wrap64 (x477 + t483))
          · have AL474 := if_yes c486 AL474
            have c486b0 : decide (1125899906842624 < (wrap64 (x477 + t483))) = true := decide_eq_true c486
            skip
            go_wp2_with fail
            clear c486
            go_roundg k476
            case measure => exact Nat.lt_succ_self _
            case rel => exact ⟨(1125899906842624), (wrap64 (x478 + 1)), (by first | rfl | (simp [IntKind.wrap_u32]; done)), (by first | rfl | (simp [IntKind.wrap_u32]; done)), Aside0.mk AL474.out, ⟨(HS.out).keep (l := []) (rest := [])⟩⟩
          · have AL474 := if_no c486 AL474
            have c486b0 : decide (1125899906842624 < (wrap64 (x477 + t483))) = false := decide_eq_false c486
            skip
            go_wp2_with fail
            clear c486
            go_roundg k476
            case measure => exact Nat.lt_succ_self _
            case rel => exact ⟨(wrap64 (x477 + t483)), (wrap64 (x478 + 1)), (by first | rfl | (simp [IntKind.wrap_u32]; done)), (by first | rfl | (simp [IntKind.wrap_u32]; done)), Aside0.mk AL474.out, ⟨(HS.out).keep (l := []) (rest := [])⟩⟩
        · have AL474 := if_no c480 AL474
          have c480b0 : decide (0 ≤ x478) = false := decide_eq_false c480
          clear c480
          exact (none_no AL474).elim
      · have AL474 := if_no c479 AL474
        have c479b0 : decide (x478 < (l468.length : Int)) = false := decide_eq_false c479
        clear c479
        have ho := some_eq AL474
        subst ho
        clear AL474
        go_wp2_with fail
        go_ret
        rw [← some_eq H]
        exact ⟨(by first | rfl | (simp [IntKind.wrap_u32]; done)), (HS.out).keep (l := []) (rest := [])⟩

set_option maxHeartbeats 30000000 in
set_option maxRecDepth 100000 in
theorem ratio_by.calls (a697 : Int) (r : Int) (w : World)   (HS : Aside0 (Sep (fps []) w [] w)) (H : Aside0 (ratio_by.f a697 = some r)) :
    Calls Try.prog 119 #[.int .i64 a697] w fun e w' => e = .returned (.int .i64 r) ∧ Sep (fps []) w [] w' := by
  unfold ratio_by.f at H
  go_enter Try.func119, Try.ntmps119
  go_wp2_with fail
  obtain ⟨t698, HA699, H⟩ := bind_some H
  refine (ratio_counts.calls a697 t698 _ ⟨HS.out.begin (l := []) (rest := [])⟩ HA699).mono ?_
  rintro e_ w700 ⟨rfl, hS⟩
  replace HS : Aside0 (Sep (fps []) w [] w700) := ⟨HS.out.call (l := []) (rest := []) hS⟩
  clear hS
  by_cases c701 : t698 < 1
  · have H := if_yes c701 H
    have c701b0 : decide (t698 < 1) = true := decide_eq_true c701
    skip
    go_wp2_with fail
    clear c701
    go_ret
    rw [← some_eq H]
    exact ⟨(by first | rfl | (simp [IntKind.wrap_u32]; done)), (HS.out).keep (l := []) (rest := [])⟩
  · have H := if_no c701 H
    have c701b0 : decide (t698 < 1) = false := decide_eq_false c701
    skip
    go_wp2_with fail
    clear c701
    go_ret
    rw [← some_eq H]
    exact ⟨(by first | rfl | (simp [IntKind.wrap_u32]; done)), (HS.out).keep (l := []) (rest := [])⟩

set_option maxHeartbeats 30000000 in
set_option maxRecDepth 100000 in
theorem ratio_Up.calls (a692 : Int) (a693 : Int) (r : Int) (w : World)   (HS : Aside0 (Sep (fps []) w [] w)) (H : Aside0 (ratio_Up.f a692 a693 = some r)) :
    Calls Try.prog 108 #[.int .i64 a692, .int .i64 a693] w fun e w' => e = .returned (.int .i64 r) ∧ Sep (fps []) w [] w' := by
  unfold ratio_Up.f at H
  go_enter Try.func108, Try.ntmps108
  go_wp2_with fail
  obtain ⟨t694, HA695, H⟩ := bind_some H
  refine (ratio_counts.calls a692 t694 _ ⟨HS.out.begin (l := []) (rest := [])⟩ HA695).mono ?_
  rintro e_ w696 ⟨rfl, hS⟩
  replace HS : Aside0 (Sep (fps []) w [] w696) := ⟨HS.out.call (l := []) (rest := []) hS⟩
  clear hS
  go_wp2_with fail
  obtain ⟨t702, HA703, H⟩ := bind_some H
  refine (ratio_by.calls a693 t702 _ ⟨HS.out.begin (l := []) (rest := [])⟩ HA703).mono ?_
  rintro e_ w704 ⟨rfl, hS⟩
  replace HS : Aside0 (Sep (fps []) w [] w704) := ⟨HS.out.call (l := []) (rest := []) hS⟩
  clear hS
  go_wp2_with fail
  obtain ⟨t705, HA706, H⟩ := bind_some H
  refine (ratio_by.calls a693 t705 _ ⟨HS.out.begin (l := []) (rest := [])⟩ HA706).mono ?_
  rintro e_ w707 ⟨rfl, hS⟩
  replace HS : Aside0 (Sep (fps []) w [] w707) := ⟨HS.out.call (l := []) (rest := []) hS⟩
  clear hS
  by_cases c708 : t705 = 0
  · have H := if_yes c708 H
    have c708b0 : (t705 == 0) = true := beq_iff_eq.mpr c708
    have c708b1 : (t705 != 0) = false := bne_eq_false_iff_eq.mpr c708
    exact (none_no H).elim
  · have H := if_no c708 H
    have c708b0 : (t705 == 0) = false := beq_eq_false_iff_ne.mpr c708
    have c708b1 : (t705 != 0) = true := bne_iff_ne.mpr c708
    skip
    go_wp2_with fail
    clear c708
    go_ret
    rw [← some_eq H]
    exact ⟨(by first | rfl | (simp [IntKind.wrap_u32]; done)), (HS.out).keep (l := []) (rest := [])⟩

set_option maxHeartbeats 30000000 in
set_option maxRecDepth 100000 in
theorem plan_Of.calls (k : Nat) (a327 : Int) (a328 : Int) (a329 : Int) (a330 : Int) (r : Int × Int × Int × Int × Int × Int × Int × Int × Int) (w : World)   (HS : Aside0 (Sep (fps []) w [] w)) (H : Aside0 (plan_Of.f k a327 a328 a329 a330 = some r)) :
    Calls Try.prog 76 #[.agg #[.int .i64 a327, .int .i64 a328, .int .i64 a329, .int .i64 a330]] w fun e w' => e = .returned (.tuple #[.agg #[.int .i64 r.1, .int .i64 r.2.1, .int .i64 r.2.2.1, .int .i64 r.2.2.2.1, .int .i64 r.2.2.2.2.1, .int .i64 r.2.2.2.2.2.1, .int .i64 r.2.2.2.2.2.2.1, .int .i64 r.2.2.2.2.2.2.2.1], .int .i64 r.2.2.2.2.2.2.2.2]) ∧ Sep (fps []) w [] w' := by
  unfold plan_Of.f at H
  go_enter Try.func76, Try.ntmps76
  go_wp2_with (first | ((with_reducible refine gate_dst (N := 1) rfl ?_); refine box_on ?hg (N := 1) ?hd (cs := #[.int .i64 a327, .int .i64 a328, .int .i64 a329, .int .i64 a330]) (t := 49) ?hr ?_; (case hd => rfl); (case hg => rfl); (case hr => first | (go_simp; done) | (go_simp; rfl)); intro g331 hg w332 hbox hb; replace HS : Aside0 (Sep (fps []) w [b1 g331 a327 a328 a329 a330] w332) := ⟨HS.out.box hg hbox hb⟩; clear hg hbox hb) | ((with_reducible refine gate_dst (N := 2) rfl ?_); refine box_on ?hg (N := 2) ?hd (cs := #[.int .i64 0, .int .i64 0, .int .i64 0, .int .i64 0, .int .i64 0, .int .i64 0, .int .i64 0, .int .i64 0]) (t := 120) ?hr ?_; (case hd => rfl); (case hg => rfl); (case hr => first | (go_simp; done) | (go_simp; rfl)); intro g334 hg w335 hbox hb; replace HS : Aside0 (Sep (fps []) w [b1 g331 a327 a328 a329 a330, b3 g334 0 0 0 0 0 0 0 0] w335) := ⟨HS.out.box hg hbox hb⟩; clear hg hbox hb; have hc337 : w335.cell? ⟨g331, 0, none⟩ = some (.int .i64 a327) := blk_cellv (HS.out.at0) 0 rfl; have hc338 : w335.cell? ⟨g331, 1, none⟩ = some (.int .i64 a328) := blk_cellv (HS.out.at0) 1 rfl; have hc339 : w335.cell? ⟨g331, 2, none⟩ = some (.int .i64 a329) := blk_cellv (HS.out.at0) 2 rfl; have hc340 : w335.cell? ⟨g331, 3, none⟩ = some (.int .i64 a330) := blk_cellv (HS.out.at0) 3 rfl))
  clear hc337 hc338 hc339 hc340
  obtain ⟨t382, HA383, H⟩ := bind_some H
  refine (plan_Check.calls a327 a328 a329 a330 t382 _ ⟨HS.out.begin (l := []) (rest := [b1 g331 a327 a328 a329 a330, b3 g334 0 0 0 0 0 0 0 0])⟩ HA383).mono ?_
  rintro e_ w384 ⟨rfl, hS⟩
  replace HS : Aside0 (Sep (fps []) w [b1 g331 a327 a328 a329 a330, b3 g334 0 0 0 0 0 0 0 0] w384) := ⟨HS.out.call (l := []) (rest := [b1 g331 a327 a328 a329 a330, b3 g334 0 0 0 0 0 0 0 0]) hS⟩
  clear hS
  by_cases c385 : t382 = 0
  · have H := if_yes c385 H
    have c385b0 : (t382 == 0) = true := beq_iff_eq.mpr c385
    have c385b1 : (t382 != 0) = false := bne_eq_false_iff_eq.mpr c385
    clear c385
    go_wp2_with fail
    obtain ⟨t462, HA463, H⟩ := bind_some H
    obtain ⟨t488, HA489, H⟩ := bind_some H
    go_cut [5] (fun v5 wc => ∃ (g388 : Nat) (g465 : Nat) (g491 : Nat), v5 = .pointer (some ⟨g491, 0, none⟩) ∧ Aside0 (Sep (fps []) w [b1 g331 a327 a328 a329 a330, b3 g334 0 0 0 0 0 0 0 0, b4 g388 a327 a328, b5 g465 24 a329 t462, b3 g491 t488 (wrap64 (a328 - 8)) 0 0 0 0 0 0] wc))
    case first =>
      go_wp2_with fail
      refine start_ (n := 16) (S := (fun w' => w'.cell? ⟨g331, 2, none⟩ = some (.int .i64 a329) ∧ w'.cell? ⟨g331, 0, none⟩ = some (.int .i64 a327) ∧ w'.cell? ⟨g331, 1, none⟩ = some (.int .i64 a328))) (ds := []) #[false, false, false, false, false, false, false, false, false, false, false, false, false, false, false, false] (by kernel_rfl) rfl rfl (⟨blk_cellv ((HS.out.drew).at0) 2 rfl, blk_cellv ((HS.out.drew).at0) 0 rfl, blk_cellv ((HS.out.drew).at0) 1 rfl⟩) (fun hHeld => ?_)
      have HS_ := Aside0.mk HS.out.drew
      clear HS
      generalize World.drew _ = w513 at HS_ hHeld ⊢
      have HS := HS_
      clear HS_
      refine pure_ (i := 0) (N := some 12) (v := ?_) (a' := ?_) #[true, false, false, false, false, false, false, false, false, false, false, false, false, false, false, false] rfl rfl (by kernel_rfl) (fun _ _ _ h => h) (Or.inl ⟨by rfl, ?_⟩) ?_ ?_
      rotate_left
      · intro w'
        go_simp
        with_reducible rfl
      rotate_left
      · simp only [Act.put, List.setIfInBounds_toArray, List.set_cons_zero, List.set_cons_succ, i64_w, i32_w]
        rfl
      refine pure_ (i := 2) (N := some 14) (v := ?_) (a' := ?_) #[true, false, true, false, false, false, false, false, false, false, false, false, false, false, false, false] rfl rfl (by kernel_rfl) (fun _ _ _ h => h) (Or.inl ⟨by rfl, ?_⟩) ?_ ?_
      rotate_left
      · intro w'
        go_simp
        with_reducible rfl
      rotate_left
      · simp only [Act.put, List.setIfInBounds_toArray, List.set_cons_zero, List.set_cons_succ, i64_w, i32_w]
        rfl
      refine pure_ (i := 4) (N := some 16) (v := ?_) (a' := ?_) #[true, false, true, false, true, false, false, false, false, false, false, false, false, false, false, false] rfl rfl (by kernel_rfl) (fun _ _ _ h => h) (Or.inl ⟨by rfl, ?_⟩) ?_ ?_
      rotate_left
      · intro w'
        go_simp
        with_reducible rfl
      rotate_left
      · simp only [Act.put, List.setIfInBounds_toArray, List.set_cons_zero, List.set_cons_succ, i64_w, i32_w]
        rfl
      refine pure_ (i := 10) (N := some 22) (v := ?_) (a' := ?_) #[true, false, true, false, true, false, false, false, false, false, true, false, false, false, false, false] rfl rfl (by kernel_rfl) (fun _ _ _ h => h) (Or.inl ⟨by rfl, ?_⟩) ?_ ?_
      rotate_left
      · intro w'
        go_simp
        with_reducible rfl
      rotate_left
      · simp only [Act.put, List.setIfInBounds_toArray, List.set_cons_zero, List.set_cons_succ, i64_w, i32_w]
        rfl
      refine take_ (i := 1) (N := some 13) (v := ?_) (a' := ?_) #[true, true, true, false, true, false, false, false, false, false, true, false, false, false, false, false] rfl rfl (by kernel_rfl) (fun _ _ _ h => h) (Or.inl ⟨by rfl, ?_⟩) hHeld ?_ ?_
      rotate_left
      · rintro w' hS'
        obtain ⟨s0, s1, s2⟩ := hS'
        go_simp
        with_reducible rfl
      rotate_left
      · simp only [Act.put, List.setIfInBounds_toArray, List.set_cons_zero, List.set_cons_succ, i64_w, i32_w]
        rfl
      refine take_ (i := 3) (N := some 15) (v := ?_) (a' := ?_) #[true, true, true, true, true, false, false, false, false, false, true, false, false, false, false, false] rfl rfl (by kernel_rfl) (fun _ _ _ h => h) (Or.inl ⟨by rfl, ?_⟩) hHeld ?_ ?_
      rotate_left
      · rintro w' hS'
        obtain ⟨s0, s1, s2⟩ := hS'
        go_simp
        with_reducible rfl
      rotate_left
      · simp only [Act.put, List.setIfInBounds_toArray, List.set_cons_zero, List.set_cons_succ, i64_w, i32_w]
        rfl
      refine take_ (i := 5) (N := some 17) (v := ?_) (a' := ?_) #[true, true, true, true, true, true, false, false, false, false, true, false, false, false, false, false] rfl rfl (by kernel_rfl) (fun _ _ _ h => h) (Or.inl ⟨by rfl, ?_⟩) hHeld ?_ ?_
      rotate_left
      · rintro w' hS'
        obtain ⟨s0, s1, s2⟩ := hS'
        go_simp
        with_reducible rfl
      rotate_left
      · simp only [Act.put, List.setIfInBounds_toArray, List.set_cons_zero, List.set_cons_succ, i64_w, i32_w]
        rfl
      refine take_ (i := 11) (N := some 23) (v := ?_) (a' := ?_) #[true, true, true, true, true, true, false, false, false, false, true, true, false, false, false, false] rfl rfl (by kernel_rfl) (fun _ _ _ h => h) (Or.inl ⟨by rfl, ?_⟩) hHeld ?_ ?_
      rotate_left
      · rintro w' hS'
        obtain ⟨s0, s1, s2⟩ := hS'
        go_simp
        with_reducible rfl
      rotate_left
      · simp only [Act.put, List.setIfInBounds_toArray, List.set_cons_zero, List.set_cons_succ, i64_w, i32_w]
        rfl
      refine pure_ (i := 12) (N := some 24) (v := ?_) (a' := ?_) #[true, true, true, true, true, true, false, false, false, false, true, true, true, false, false, false] rfl rfl (by kernel_rfl) (fun _ _ _ h => h) (Or.inl ⟨by rfl, ?_⟩) ?_ ?_
      rotate_left
      · intro w'
        go_simp
        with_reducible rfl
      rotate_left
      · simp only [Act.put, List.setIfInBounds_toArray, List.set_cons_zero, List.set_cons_succ, i64_w, i32_w]
        rfl
      refine two_ (i := 6) (j := 14) (Ni := some 18) (Nj := some 5) #[true, true, true, true, true, true, true, false, false, false, true, true, true, false, false, false] #[true, true, true, true, true, true, false, false, false, false, true, true, true, false, true, false] rfl rfl rfl rfl (by kernel_rfl) (by decide) (by decide) (fun K hK => ?_) (fun K hK => ?_)
      · refine slice_step (n := 2) (by rfl) (N := 18) rfl (cs := #[.int .i64 a327, .int .i64 a328]) (t := 3) ?hr ?_
        case hr => first | (go_simp; done) | (go_simp; rfl)
        intro g514 hg w515 hbox hb
        replace HS : Aside0 (Sep (fps []) w [b1 g331 a327 a328 a329 a330, b3 g334 0 0 0 0 0 0 0 0, b4 g514 a327 a328] w515) := ⟨HS.out.box hg hbox hb⟩
        clear hg hbox hb
        refine hK.out _ _ (⟨blk_cellv (HS.out.at0) 2 rfl, blk_cellv (HS.out.at0) 0 rfl, blk_cellv (HS.out.at0) 1 rfl⟩) (fun hHeld => ?_)
        clear hK K
        refine norm_ (a' := ?_) ?_ ?_
        rotate_left
        · show Act.put _ (some 18) _ = _
          simp only [Act.put, List.setIfInBounds_toArray, List.set_cons_zero, List.set_cons_succ, i64_w, i32_w]
          rfl
        refine two_ (i := 7) (j := 14) (Ni := some 19) (Nj := some 5) #[true, true, true, true, true, true, true, true, false, false, true, true, true, false, false, false] #[true, true, true, true, true, true, true, false, false, false, true, true, true, false, true, false] rfl rfl rfl rfl (by kernel_rfl) (by decide) (by decide) (fun K hK => ?_) (fun K hK => ?_)
        · refine goes_ Try.func107 (by kernel_rfl) rfl #[.slice (some ⟨g514, 0, none⟩) 2 2] (by rfl) rfl rfl (by (try simp only [List.map_toArray, List.map_cons, List.map_nil]); first | done | rfl) ?_
          refine (ratio_Mul.calls _ [a327, a328] (some ⟨g514, 0, none⟩) 2 t462 _ ⟨Rd.lit (l := []) (rest := [b1 g331 a327 a328 a329 a330, b3 g334 0 0 0 0 0 0 0 0, b4 g514 a327 a328]) (xs := [a327, a328]) HS.out 2 rfl (by simp)⟩ ⟨HS.out.begin (l := []) (rest := [b1 g331 a327 a328 a329 a330, b3 g334 0 0 0 0 0 0 0 0, b4 g514 a327 a328])⟩ HA463).mono ?_
          rintro e_ w518 ⟨rfl, hS⟩
          replace HS : Aside0 (Sep (fps []) w [b1 g331 a327 a328 a329 a330, b3 g334 0 0 0 0 0 0 0 0, b4 g514 a327 a328] w518) := ⟨HS.out.call (l := []) (rest := [b1 g331 a327 a328 a329 a330, b3 g334 0 0 0 0 0 0 0 0, b4 g514 a327 a328]) hS⟩
          clear hS
          refine ⟨_, rfl, ?_⟩
          refine hK.out _ _ (⟨blk_cellv (HS.out.at0) 2 rfl, blk_cellv (HS.out.at0) 0 rfl, blk_cellv (HS.out.at0) 1 rfl⟩) (fun hHeld => ?_)
          clear hK K
          refine norm_ (a' := ?_) ?_ ?_
          rotate_left
          · show Act.put _ (some 19) _ = _
            simp only [Act.put, List.setIfInBounds_toArray, List.set_cons_zero, List.set_cons_succ, i64_w, i32_w]
            rfl
          refine two_ (i := 8) (j := 14) (Ni := some 20) (Nj := some 5) #[true, true, true, true, true, true, true, true, true, false, true, true, true, false, false, false] #[true, true, true, true, true, true, true, true, false, false, true, true, true, false, true, false] rfl rfl rfl rfl (by kernel_rfl) (by decide) (by decide) (fun K hK => ?_) (fun K hK => ?_)
          · refine slice_step (n := 3) (by rfl) (N := 20) rfl (cs := #[.int .i64 24, .int .i64 a329, .int .i64 t462]) (t := 3) ?hr ?_
            case hr => first | (go_simp; done) | (go_simp; rfl)
            intro g519 hg w520 hbox hb
            replace HS : Aside0 (Sep (fps []) w [b1 g331 a327 a328 a329 a330, b3 g334 0 0 0 0 0 0 0 0, b4 g514 a327 a328, b5 g519 24 a329 t462] w520) := ⟨HS.out.box hg hbox hb⟩
            clear hg hbox hb
            refine hK.out _ _ (⟨blk_cellv (HS.out.at0) 2 rfl, blk_cellv (HS.out.at0) 0 rfl, blk_cellv (HS.out.at0) 1 rfl⟩) (fun hHeld => ?_)
            clear hK K
            refine norm_ (a' := ?_) ?_ ?_
            rotate_left
            · show Act.put _ (some 20) _ = _
              simp only [Act.put, List.setIfInBounds_toArray, List.set_cons_zero, List.set_cons_succ, i64_w, i32_w]
              rfl
            refine two_ (i := 9) (j := 14) (Ni := some 21) (Nj := some 5) #[true, true, true, true, true, true, true, true, true, true, true, true, true, false, false, false] #[true, true, true, true, true, true, true, true, true, false, true, true, true, false, true, false] rfl rfl rfl rfl (by kernel_rfl) (by decide) (by decide) (fun K hK => ?_) (fun K hK => ?_)
            · refine goes_ Try.func106 (by kernel_rfl) rfl #[.slice (some ⟨g519, 0, none⟩) 3 3] (by rfl) rfl rfl (by (try simp only [List.map_toArray, List.map_cons, List.map_nil]); first | done | rfl) ?_
              refine (ratio_Add.calls _ [24, a329, t462] (some ⟨g519, 0, none⟩) 3 t488 _ ⟨Rd.lit (l := []) (rest := [b1 g331 a327 a328 a329 a330, b3 g334 0 0 0 0 0 0 0 0, b4 g514 a327 a328, b5 g519 24 a329 t462]) (xs := [24, a329, t462]) HS.out 3 rfl (by simp)⟩ ⟨HS.out.begin (l := []) (rest := [b1 g331 a327 a328 a329 a330, b3 g334 0 0 0 0 0 0 0 0, b4 g514 a327 a328, b5 g519 24 a329 t462])⟩ HA489).mono ?_
              rintro e_ w523 ⟨rfl, hS⟩
              replace HS : Aside0 (Sep (fps []) w [b1 g331 a327 a328 a329 a330, b3 g334 0 0 0 0 0 0 0 0, b4 g514 a327 a328, b5 g519 24 a329 t462] w523) := ⟨HS.out.call (l := []) (rest := [b1 g331 a327 a328 a329 a330, b3 g334 0 0 0 0 0 0 0 0, b4 g514 a327 a328, b5 g519 24 a329 t462]) hS⟩
              clear hS
              refine ⟨_, rfl, ?_⟩
              refine hK.out _ _ (⟨blk_cellv (HS.out.at0) 2 rfl, blk_cellv (HS.out.at0) 0 rfl, blk_cellv (HS.out.at0) 1 rfl⟩) (fun hHeld => ?_)
              clear hK K
              refine norm_ (a' := ?_) ?_ ?_
              rotate_left
              · show Act.put _ (some 21) _ = _
                simp only [Act.put, List.setIfInBounds_toArray, List.set_cons_zero, List.set_cons_succ, i64_w, i32_w]
                rfl
              refine pure_ (i := 13) (N := some 25) (v := ?_) (a' := ?_) #[true, true, true, true, true, true, true, true, true, true, true, true, true, true, false, false] rfl rfl (by kernel_rfl) (fun _ _ _ h => h) (Or.inl ⟨by rfl, ?_⟩) ?_ ?_
              rotate_left
              · intro w'
                go_simp
                with_reducible rfl
              rotate_left
              · simp only [Act.put, List.setIfInBounds_toArray, List.set_cons_zero, List.set_cons_succ, i64_w, i32_w]
                rfl
              refine one_ (i := 14) (N := some 5) #[true, true, true, true, true, true, true, true, true, true, true, true, true, true, true, false] rfl rfl (by kernel_rfl) (by decide) (fun K hK => ?_)
              refine box_step (by rfl) (N := 5) rfl (cs := #[.int .i64 0, .int .i64 0, .int .i64 0, .int .i64 0, .int .i64 0, .int .i64 0, .int .i64 0, .int .i64 0]) (t := 120) ?hr ?_
              case hr => first | (go_simp; done) | (go_simp; rfl)
              intro g524 hg w525 hbox hb
              replace HS : Aside0 (Sep (fps []) w [b1 g331 a327 a328 a329 a330, b3 g334 0 0 0 0 0 0 0 0, b4 g514 a327 a328, b5 g519 24 a329 t462, b3 g524 0 0 0 0 0 0 0 0] w525) := ⟨HS.out.box hg hbox hb⟩
              clear hg hbox hb
              refine hK.out _ _ (⟨blk_cellv (HS.out.at0) 2 rfl, blk_cellv (HS.out.at0) 0 rfl, blk_cellv (HS.out.at0) 1 rfl⟩) (fun hHeld => ?_)
              clear hK K
              refine norm_ (a' := ?_) ?_ ?_
              rotate_left
              · show Act.put _ (some 5) _ = _
                simp only [Act.put, List.setIfInBounds_toArray, List.set_cons_zero, List.set_cons_succ, i64_w, i32_w]
                rfl
              refine one_ (i := 15) (N := none) #[true, true, true, true, true, true, true, true, true, true, true, true, true, true, true, true] rfl rfl (by kernel_rfl) (by decide) (fun K hK => ?_)
              have hc528 := blk_cellv (v := .int .i64 0) (HS.out.at4) 0 rfl
              have hz529 := blk_fz (HS.out.at4) 0
              have hc530 := blk_cellv (v := .int .i64 0) (HS.out.at4) 1 rfl
              have hz531 := blk_fz (HS.out.at4) 1
              have hc532 := blk_cellv (v := .int .i64 0) (HS.out.at4) 2 rfl
              have hz533 := blk_fz (HS.out.at4) 2
              have hc534 := blk_cellv (v := .int .i64 0) (HS.out.at4) 3 rfl
              have hz535 := blk_fz (HS.out.at4) 3
              have hc536 := blk_cellv (v := .int .i64 0) (HS.out.at4) 4 rfl
              have hz537 := blk_fz (HS.out.at4) 4
              have hc538 := blk_cellv (v := .int .i64 0) (HS.out.at4) 5 rfl
              have hz539 := blk_fz (HS.out.at4) 5
              have hc540 := blk_cellv (v := .int .i64 0) (HS.out.at4) 6 rfl
              have hz541 := blk_fz (HS.out.at4) 6
              have hc542 := blk_cellv (v := .int .i64 0) (HS.out.at4) 7 rfl
              have hz543 := blk_fz (HS.out.at4) 7
              refine store_step (w1 := (World.setCell (World.setCell (World.setCell (World.setCell (World.setCell (World.setCell (World.setCell (World.setCell w525 ⟨g524, 0, none⟩ (.int .i64 t488)) ⟨g524, 1, none⟩ (.int .i64 (wrap64 (a328 - 8)))) ⟨g524, 2, none⟩ (.int .i64 0)) ⟨g524, 3, none⟩ (.int .i64 0)) ⟨g524, 4, none⟩ (.int .i64 0)) ⟨g524, 5, none⟩ (.int .i64 0)) ⟨g524, 6, none⟩ (.int .i64 0)) ⟨g524, 7, none⟩ (.int .i64 0))) (by rfl) rfl ?hr ?_
              case hr => first | (go_simp; done) | (go_simp; rfl)
              clear hc528 hz529 hc530 hz531 hc532 hz533 hc534 hz535 hc536 hz537 hc538 hz539 hc540 hz541 hc542 hz543
              intro w527 hst
              replace HS : Aside0 (Sep (fps []) w [b1 g331 a327 a328 a329 a330, b3 g334 0 0 0 0 0 0 0 0, b4 g514 a327 a328, b5 g519 24 a329 t462, b3 g524 t488 (wrap64 (a328 - 8)) 0 0 0 0 0 0] w527) := ⟨by rw [hst]; exact HS.out.setAll (l1 := [b1 g331 a327 a328 a329 a330, b3 g334 0 0 0 0 0 0 0 0, b4 g514 a327 a328, b5 g519 24 a329 t462]) (l2 := []) [.int .i64 t488, .int .i64 (wrap64 (a328 - 8)), .int .i64 0, .int .i64 0, .int .i64 0, .int .i64 0, .int .i64 0, .int .i64 0] rfl⟩
              clear hst
              refine hK.out _ _ (⟨blk_cellv (HS.out.at0) 2 rfl, blk_cellv (HS.out.at0) 0 rfl, blk_cellv (HS.out.at0) 1 rfl⟩) (fun hHeld => ?_)
              clear hK K
              refine done_ (by kernel_rfl) ?_
              go_wp2_with fail
              go_meet
              case rel => exact ⟨g514, g519, g524, (by first | rfl | (simp [IntKind.wrap_u32]; done)), ⟨(((((HS.out).front 4 (by simp)).front 4 (by simp)).front 4 (by simp)).front 4 (by simp)).front 4 (by simp)⟩⟩
            · refine box_step (by rfl) (N := 5) rfl (cs := #[.int .i64 0, .int .i64 0, .int .i64 0, .int .i64 0, .int .i64 0, .int .i64 0, .int .i64 0, .int .i64 0]) (t := 120) ?hr ?_
              case hr => first | (go_simp; done) | (go_simp; rfl)
              intro g544 hg w545 hbox hb
              replace HS : Aside0 (Sep (fps []) w [b1 g331 a327 a328 a329 a330, b3 g334 0 0 0 0 0 0 0 0, b4 g514 a327 a328, b5 g519 24 a329 t462, b3 g544 0 0 0 0 0 0 0 0] w545) := ⟨HS.out.box hg hbox hb⟩
              clear hg hbox hb
              refine hK.out _ _ (⟨blk_cellv (HS.out.at0) 2 rfl, blk_cellv (HS.out.at0) 0 rfl, blk_cellv (HS.out.at0) 1 rfl⟩) (fun hHeld => ?_)
              clear hK K
              refine norm_ (a' := ?_) ?_ ?_
              rotate_left
              · show Act.put _ (some 5) _ = _
                simp only [Act.put, List.setIfInBounds_toArray, List.set_cons_zero, List.set_cons_succ, i64_w, i32_w]
                rfl
              refine one_ (i := 9) (N := some 21) #[true, true, true, true, true, true, true, true, true, true, true, true, true, false, true, false] rfl rfl (by kernel_rfl) (by decide) (fun K hK => ?_)
              refine goes_ Try.func106 (by kernel_rfl) rfl #[.slice (some ⟨g519, 0, none⟩) 3 3] (by rfl) rfl rfl (by (try simp only [List.map_toArray, List.map_cons, List.map_nil]); first | done | rfl) ?_
              refine (ratio_Add.calls _ [24, a329, t462] (some ⟨g519, 0, none⟩) 3 t488 _ ⟨Rd.lit (l := []) (rest := [b1 g331 a327 a328 a329 a330, b3 g334 0 0 0 0 0 0 0 0, b4 g514 a327 a328, b5 g519 24 a329 t462, b3 g544 0 0 0 0 0 0 0 0]) (xs := [24, a329, t462]) HS.out 3 rfl (by simp)⟩ ⟨HS.out.begin (l := []) (rest := [b1 g331 a327 a328 a329 a330, b3 g334 0 0 0 0 0 0 0 0, b4 g514 a327 a328, b5 g519 24 a329 t462, b3 g544 0 0 0 0 0 0 0 0])⟩ HA489).mono ?_
              rintro e_ w548 ⟨rfl, hS⟩
              replace HS : Aside0 (Sep (fps []) w [b1 g331 a327 a328 a329 a330, b3 g334 0 0 0 0 0 0 0 0, b4 g514 a327 a328, b5 g519 24 a329 t462, b3 g544 0 0 0 0 0 0 0 0] w548) := ⟨HS.out.call (l := []) (rest := [b1 g331 a327 a328 a329 a330, b3 g334 0 0 0 0 0 0 0 0, b4 g514 a327 a328, b5 g519 24 a329 t462, b3 g544 0 0 0 0 0 0 0 0]) hS⟩
              clear hS
              refine ⟨_, rfl, ?_⟩
              refine hK.out _ _ (⟨blk_cellv (HS.out.at0) 2 rfl, blk_cellv (HS.out.at0) 0 rfl, blk_cellv (HS.out.at0) 1 rfl⟩) (fun hHeld => ?_)
              clear hK K
              refine norm_ (a' := ?_) ?_ ?_
              rotate_left
              · show Act.put _ (some 21) _ = _
                simp only [Act.put, List.setIfInBounds_toArray, List.set_cons_zero, List.set_cons_succ, i64_w, i32_w]
                rfl
              refine pure_ (i := 13) (N := some 25) (v := ?_) (a' := ?_) #[true, true, true, true, true, true, true, true, true, true, true, true, true, true, true, false] rfl rfl (by kernel_rfl) (fun _ _ _ h => h) (Or.inl ⟨by rfl, ?_⟩) ?_ ?_
              rotate_left
              · intro w'
                go_simp
                with_reducible rfl
              rotate_left
              · simp only [Act.put, List.setIfInBounds_toArray, List.set_cons_zero, List.set_cons_succ, i64_w, i32_w]
                rfl
              refine one_ (i := 15) (N := none) #[true, true, true, true, true, true, true, true, true, true, true, true, true, true, true, true] rfl rfl (by kernel_rfl) (by decide) (fun K hK => ?_)
              have hc550 := blk_cellv (v := .int .i64 0) (HS.out.at4) 0 rfl
              have hz551 := blk_fz (HS.out.at4) 0
              have hc552 := blk_cellv (v := .int .i64 0) (HS.out.at4) 1 rfl
              have hz553 := blk_fz (HS.out.at4) 1
              have hc554 := blk_cellv (v := .int .i64 0) (HS.out.at4) 2 rfl
              have hz555 := blk_fz (HS.out.at4) 2
              have hc556 := blk_cellv (v := .int .i64 0) (HS.out.at4) 3 rfl
              have hz557 := blk_fz (HS.out.at4) 3
              have hc558 := blk_cellv (v := .int .i64 0) (HS.out.at4) 4 rfl
              have hz559 := blk_fz (HS.out.at4) 4
              have hc560 := blk_cellv (v := .int .i64 0) (HS.out.at4) 5 rfl
              have hz561 := blk_fz (HS.out.at4) 5
              have hc562 := blk_cellv (v := .int .i64 0) (HS.out.at4) 6 rfl
              have hz563 := blk_fz (HS.out.at4) 6
              have hc564 := blk_cellv (v := .int .i64 0) (HS.out.at4) 7 rfl
              have hz565 := blk_fz (HS.out.at4) 7
              refine store_step (w1 := (World.setCell (World.setCell (World.setCell (World.setCell (World.setCell (World.setCell (World.setCell (World.setCell w548 ⟨g544, 0, none⟩ (.int .i64 t488)) ⟨g544, 1, none⟩ (.int .i64 (wrap64 (a328 - 8)))) ⟨g544, 2, none⟩ (.int .i64 0)) ⟨g544, 3, none⟩ (.int .i64 0)) ⟨g544, 4, none⟩ (.int .i64 0)) ⟨g544, 5, none⟩ (.int .i64 0)) ⟨g544, 6, none⟩ (.int .i64 0)) ⟨g544, 7, none⟩ (.int .i64 0))) (by rfl) rfl ?hr ?_
              case hr => first | (go_simp; done) | (go_simp; rfl)
              clear hc550 hz551 hc552 hz553 hc554 hz555 hc556 hz557 hc558 hz559 hc560 hz561 hc562 hz563 hc564 hz565
              intro w549 hst
              replace HS : Aside0 (Sep (fps []) w [b1 g331 a327 a328 a329 a330, b3 g334 0 0 0 0 0 0 0 0, b4 g514 a327 a328, b5 g519 24 a329 t462, b3 g544 t488 (wrap64 (a328 - 8)) 0 0 0 0 0 0] w549) := ⟨by rw [hst]; exact HS.out.setAll (l1 := [b1 g331 a327 a328 a329 a330, b3 g334 0 0 0 0 0 0 0 0, b4 g514 a327 a328, b5 g519 24 a329 t462]) (l2 := []) [.int .i64 t488, .int .i64 (wrap64 (a328 - 8)), .int .i64 0, .int .i64 0, .int .i64 0, .int .i64 0, .int .i64 0, .int .i64 0] rfl⟩
              clear hst
              refine hK.out _ _ (⟨blk_cellv (HS.out.at0) 2 rfl, blk_cellv (HS.out.at0) 0 rfl, blk_cellv (HS.out.at0) 1 rfl⟩) (fun hHeld => ?_)
              clear hK K
              refine done_ (by kernel_rfl) ?_
              go_wp2_with fail
              go_meet
              case rel => exact ⟨g514, g519, g544, (by first | rfl | (simp [IntKind.wrap_u32]; done)), ⟨(((((HS.out).front 4 (by simp)).front 4 (by simp)).front 4 (by simp)).front 4 (by simp)).front 4 (by simp)⟩⟩
          · refine box_step (by rfl) (N := 5) rfl (cs := #[.int .i64 0, .int .i64 0, .int .i64 0, .int .i64 0, .int .i64 0, .int .i64 0, .int .i64 0, .int .i64 0]) (t := 120) ?hr ?_
            case hr => first | (go_simp; done) | (go_simp; rfl)
            intro g566 hg w567 hbox hb
            replace HS : Aside0 (Sep (fps []) w [b1 g331 a327 a328 a329 a330, b3 g334 0 0 0 0 0 0 0 0, b4 g514 a327 a328, b3 g566 0 0 0 0 0 0 0 0] w567) := ⟨HS.out.box hg hbox hb⟩
            clear hg hbox hb
            refine hK.out _ _ (⟨blk_cellv (HS.out.at0) 2 rfl, blk_cellv (HS.out.at0) 0 rfl, blk_cellv (HS.out.at0) 1 rfl⟩) (fun hHeld => ?_)
            clear hK K
            refine norm_ (a' := ?_) ?_ ?_
            rotate_left
            · show Act.put _ (some 5) _ = _
              simp only [Act.put, List.setIfInBounds_toArray, List.set_cons_zero, List.set_cons_succ, i64_w, i32_w]
              rfl
            refine one_ (i := 8) (N := some 20) #[true, true, true, true, true, true, true, true, true, false, true, true, true, false, true, false] rfl rfl (by kernel_rfl) (by decide) (fun K hK => ?_)
            refine slice_step (n := 3) (by rfl) (N := 20) rfl (cs := #[.int .i64 24, .int .i64 a329, .int .i64 t462]) (t := 3) ?hr ?_
            case hr => first | (go_simp; done) | (go_simp; rfl)
            intro g569 hg w570 hbox hb
            replace HS : Aside0 (Sep (fps []) w [b1 g331 a327 a328 a329 a330, b3 g334 0 0 0 0 0 0 0 0, b4 g514 a327 a328, b3 g566 0 0 0 0 0 0 0 0, b5 g569 24 a329 t462] w570) := ⟨HS.out.box hg hbox hb⟩
            clear hg hbox hb
            refine hK.out _ _ (⟨blk_cellv (HS.out.at0) 2 rfl, blk_cellv (HS.out.at0) 0 rfl, blk_cellv (HS.out.at0) 1 rfl⟩) (fun hHeld => ?_)
            clear hK K
            refine norm_ (a' := ?_) ?_ ?_
            rotate_left
            · show Act.put _ (some 20) _ = _
              simp only [Act.put, List.setIfInBounds_toArray, List.set_cons_zero, List.set_cons_succ, i64_w, i32_w]
              rfl
            refine one_ (i := 9) (N := some 21) #[true, true, true, true, true, true, true, true, true, true, true, true, true, false, true, false] rfl rfl (by kernel_rfl) (by decide) (fun K hK => ?_)
            refine goes_ Try.func106 (by kernel_rfl) rfl #[.slice (some ⟨g569, 0, none⟩) 3 3] (by rfl) rfl rfl (by (try simp only [List.map_toArray, List.map_cons, List.map_nil]); first | done | rfl) ?_
            refine (ratio_Add.calls _ [24, a329, t462] (some ⟨g569, 0, none⟩) 3 t488 _ ⟨Rd.lit (l := []) (rest := [b1 g331 a327 a328 a329 a330, b3 g334 0 0 0 0 0 0 0 0, b4 g514 a327 a328, b3 g566 0 0 0 0 0 0 0 0, b5 g569 24 a329 t462]) (xs := [24, a329, t462]) HS.out 4 rfl (by simp)⟩ ⟨HS.out.begin (l := []) (rest := [b1 g331 a327 a328 a329 a330, b3 g334 0 0 0 0 0 0 0 0, b4 g514 a327 a328, b3 g566 0 0 0 0 0 0 0 0, b5 g569 24 a329 t462])⟩ HA489).mono ?_
            rintro e_ w573 ⟨rfl, hS⟩
            replace HS : Aside0 (Sep (fps []) w [b1 g331 a327 a328 a329 a330, b3 g334 0 0 0 0 0 0 0 0, b4 g514 a327 a328, b3 g566 0 0 0 0 0 0 0 0, b5 g569 24 a329 t462] w573) := ⟨HS.out.call (l := []) (rest := [b1 g331 a327 a328 a329 a330, b3 g334 0 0 0 0 0 0 0 0, b4 g514 a327 a328, b3 g566 0 0 0 0 0 0 0 0, b5 g569 24 a329 t462]) hS⟩
            clear hS
            refine ⟨_, rfl, ?_⟩
            refine hK.out _ _ (⟨blk_cellv (HS.out.at0) 2 rfl, blk_cellv (HS.out.at0) 0 rfl, blk_cellv (HS.out.at0) 1 rfl⟩) (fun hHeld => ?_)
            clear hK K
            refine norm_ (a' := ?_) ?_ ?_
            rotate_left
            · show Act.put _ (some 21) _ = _
              simp only [Act.put, List.setIfInBounds_toArray, List.set_cons_zero, List.set_cons_succ, i64_w, i32_w]
              rfl
            refine pure_ (i := 13) (N := some 25) (v := ?_) (a' := ?_) #[true, true, true, true, true, true, true, true, true, true, true, true, true, true, true, false] rfl rfl (by kernel_rfl) (fun _ _ _ h => h) (Or.inl ⟨by rfl, ?_⟩) ?_ ?_
            rotate_left
            · intro w'
              go_simp
              with_reducible rfl
            rotate_left
            · simp only [Act.put, List.setIfInBounds_toArray, List.set_cons_zero, List.set_cons_succ, i64_w, i32_w]
              rfl
            refine one_ (i := 15) (N := none) #[true, true, true, true, true, true, true, true, true, true, true, true, true, true, true, true] rfl rfl (by kernel_rfl) (by decide) (fun K hK => ?_)
            have hc575 := blk_cellv (v := .int .i64 0) (HS.out.at3) 0 rfl
            have hz576 := blk_fz (HS.out.at3) 0
            have hc577 := blk_cellv (v := .int .i64 0) (HS.out.at3) 1 rfl
            have hz578 := blk_fz (HS.out.at3) 1
            have hc579 := blk_cellv (v := .int .i64 0) (HS.out.at3) 2 rfl
            have hz580 := blk_fz (HS.out.at3) 2
            have hc581 := blk_cellv (v := .int .i64 0) (HS.out.at3) 3 rfl
            have hz582 := blk_fz (HS.out.at3) 3
            have hc583 := blk_cellv (v := .int .i64 0) (HS.out.at3) 4 rfl
            have hz584 := blk_fz (HS.out.at3) 4
            have hc585 := blk_cellv (v := .int .i64 0) (HS.out.at3) 5 rfl
            have hz586 := blk_fz (HS.out.at3) 5
            have hc587 := blk_cellv (v := .int .i64 0) (HS.out.at3) 6 rfl
            have hz588 := blk_fz (HS.out.at3) 6
            have hc589 := blk_cellv (v := .int .i64 0) (HS.out.at3) 7 rfl
            have hz590 := blk_fz (HS.out.at3) 7
            refine store_step (w1 := (World.setCell (World.setCell (World.setCell (World.setCell (World.setCell (World.setCell (World.setCell (World.setCell w573 ⟨g566, 0, none⟩ (.int .i64 t488)) ⟨g566, 1, none⟩ (.int .i64 (wrap64 (a328 - 8)))) ⟨g566, 2, none⟩ (.int .i64 0)) ⟨g566, 3, none⟩ (.int .i64 0)) ⟨g566, 4, none⟩ (.int .i64 0)) ⟨g566, 5, none⟩ (.int .i64 0)) ⟨g566, 6, none⟩ (.int .i64 0)) ⟨g566, 7, none⟩ (.int .i64 0))) (by rfl) rfl ?hr ?_
            case hr => first | (go_simp; done) | (go_simp; rfl)
            clear hc575 hz576 hc577 hz578 hc579 hz580 hc581 hz582 hc583 hz584 hc585 hz586 hc587 hz588 hc589 hz590
            intro w574 hst
            replace HS : Aside0 (Sep (fps []) w [b1 g331 a327 a328 a329 a330, b3 g334 0 0 0 0 0 0 0 0, b4 g514 a327 a328, b3 g566 t488 (wrap64 (a328 - 8)) 0 0 0 0 0 0, b5 g569 24 a329 t462] w574) := ⟨by rw [hst]; exact HS.out.setAll (l1 := [b1 g331 a327 a328 a329 a330, b3 g334 0 0 0 0 0 0 0 0, b4 g514 a327 a328]) (l2 := [b5 g569 24 a329 t462]) [.int .i64 t488, .int .i64 (wrap64 (a328 - 8)), .int .i64 0, .int .i64 0, .int .i64 0, .int .i64 0, .int .i64 0, .int .i64 0] rfl⟩
            clear hst
            refine hK.out _ _ (⟨blk_cellv (HS.out.at0) 2 rfl, blk_cellv (HS.out.at0) 0 rfl, blk_cellv (HS.out.at0) 1 rfl⟩) (fun hHeld => ?_)
            clear hK K
            refine done_ (by kernel_rfl) ?_
            go_wp2_with fail
            go_meet
            case rel => exact ⟨g514, g569, g566, (by first | rfl | (simp [IntKind.wrap_u32]; done)), ⟨(((((HS.out).front 3 (by simp)).front 4 (by simp)).front 4 (by simp)).front 4 (by simp)).front 4 (by simp)⟩⟩
        · refine box_step (by rfl) (N := 5) rfl (cs := #[.int .i64 0, .int .i64 0, .int .i64 0, .int .i64 0, .int .i64 0, .int .i64 0, .int .i64 0, .int .i64 0]) (t := 120) ?hr ?_
          case hr => first | (go_simp; done) | (go_simp; rfl)
          intro g591 hg w592 hbox hb
          replace HS : Aside0 (Sep (fps []) w [b1 g331 a327 a328 a329 a330, b3 g334 0 0 0 0 0 0 0 0, b4 g514 a327 a328, b3 g591 0 0 0 0 0 0 0 0] w592) := ⟨HS.out.box hg hbox hb⟩
          clear hg hbox hb
          refine hK.out _ _ (⟨blk_cellv (HS.out.at0) 2 rfl, blk_cellv (HS.out.at0) 0 rfl, blk_cellv (HS.out.at0) 1 rfl⟩) (fun hHeld => ?_)
          clear hK K
          refine norm_ (a' := ?_) ?_ ?_
          rotate_left
          · show Act.put _ (some 5) _ = _
            simp only [Act.put, List.setIfInBounds_toArray, List.set_cons_zero, List.set_cons_succ, i64_w, i32_w]
            rfl
          refine one_ (i := 7) (N := some 19) #[true, true, true, true, true, true, true, true, false, false, true, true, true, false, true, false] rfl rfl (by kernel_rfl) (by decide) (fun K hK => ?_)
          refine goes_ Try.func107 (by kernel_rfl) rfl #[.slice (some ⟨g514, 0, none⟩) 2 2] (by rfl) rfl rfl (by (try simp only [List.map_toArray, List.map_cons, List.map_nil]); first | done | rfl) ?_
          refine (ratio_Mul.calls _ [a327, a328] (some ⟨g514, 0, none⟩) 2 t462 _ ⟨Rd.lit (l := []) (rest := [b1 g331 a327 a328 a329 a330, b3 g334 0 0 0 0 0 0 0 0, b4 g514 a327 a328, b3 g591 0 0 0 0 0 0 0 0]) (xs := [a327, a328]) HS.out 2 rfl (by simp)⟩ ⟨HS.out.begin (l := []) (rest := [b1 g331 a327 a328 a329 a330, b3 g334 0 0 0 0 0 0 0 0, b4 g514 a327 a328, b3 g591 0 0 0 0 0 0 0 0])⟩ HA463).mono ?_
          rintro e_ w595 ⟨rfl, hS⟩
          replace HS : Aside0 (Sep (fps []) w [b1 g331 a327 a328 a329 a330, b3 g334 0 0 0 0 0 0 0 0, b4 g514 a327 a328, b3 g591 0 0 0 0 0 0 0 0] w595) := ⟨HS.out.call (l := []) (rest := [b1 g331 a327 a328 a329 a330, b3 g334 0 0 0 0 0 0 0 0, b4 g514 a327 a328, b3 g591 0 0 0 0 0 0 0 0]) hS⟩
          clear hS
          refine ⟨_, rfl, ?_⟩
          refine hK.out _ _ (⟨blk_cellv (HS.out.at0) 2 rfl, blk_cellv (HS.out.at0) 0 rfl, blk_cellv (HS.out.at0) 1 rfl⟩) (fun hHeld => ?_)
          clear hK K
          refine norm_ (a' := ?_) ?_ ?_
          rotate_left
          · show Act.put _ (some 19) _ = _
            simp only [Act.put, List.setIfInBounds_toArray, List.set_cons_zero, List.set_cons_succ, i64_w, i32_w]
            rfl
          refine one_ (i := 8) (N := some 20) #[true, true, true, true, true, true, true, true, true, false, true, true, true, false, true, false] rfl rfl (by kernel_rfl) (by decide) (fun K hK => ?_)
          refine slice_step (n := 3) (by rfl) (N := 20) rfl (cs := #[.int .i64 24, .int .i64 a329, .int .i64 t462]) (t := 3) ?hr ?_
          case hr => first | (go_simp; done) | (go_simp; rfl)
          intro g596 hg w597 hbox hb
          replace HS : Aside0 (Sep (fps []) w [b1 g331 a327 a328 a329 a330, b3 g334 0 0 0 0 0 0 0 0, b4 g514 a327 a328, b3 g591 0 0 0 0 0 0 0 0, b5 g596 24 a329 t462] w597) := ⟨HS.out.box hg hbox hb⟩
          clear hg hbox hb
          refine hK.out _ _ (⟨blk_cellv (HS.out.at0) 2 rfl, blk_cellv (HS.out.at0) 0 rfl, blk_cellv (HS.out.at0) 1 rfl⟩) (fun hHeld => ?_)
          clear hK K
          refine norm_ (a' := ?_) ?_ ?_
          rotate_left
          · show Act.put _ (some 20) _ = _
            simp only [Act.put, List.setIfInBounds_toArray, List.set_cons_zero, List.set_cons_succ, i64_w, i32_w]
            rfl
          refine one_ (i := 9) (N := some 21) #[true, true, true, true, true, true, true, true, true, true, true, true, true, false, true, false] rfl rfl (by kernel_rfl) (by decide) (fun K hK => ?_)
          refine goes_ Try.func106 (by kernel_rfl) rfl #[.slice (some ⟨g596, 0, none⟩) 3 3] (by rfl) rfl rfl (by (try simp only [List.map_toArray, List.map_cons, List.map_nil]); first | done | rfl) ?_
          refine (ratio_Add.calls _ [24, a329, t462] (some ⟨g596, 0, none⟩) 3 t488 _ ⟨Rd.lit (l := []) (rest := [b1 g331 a327 a328 a329 a330, b3 g334 0 0 0 0 0 0 0 0, b4 g514 a327 a328, b3 g591 0 0 0 0 0 0 0 0, b5 g596 24 a329 t462]) (xs := [24, a329, t462]) HS.out 4 rfl (by simp)⟩ ⟨HS.out.begin (l := []) (rest := [b1 g331 a327 a328 a329 a330, b3 g334 0 0 0 0 0 0 0 0, b4 g514 a327 a328, b3 g591 0 0 0 0 0 0 0 0, b5 g596 24 a329 t462])⟩ HA489).mono ?_
          rintro e_ w600 ⟨rfl, hS⟩
          replace HS : Aside0 (Sep (fps []) w [b1 g331 a327 a328 a329 a330, b3 g334 0 0 0 0 0 0 0 0, b4 g514 a327 a328, b3 g591 0 0 0 0 0 0 0 0, b5 g596 24 a329 t462] w600) := ⟨HS.out.call (l := []) (rest := [b1 g331 a327 a328 a329 a330, b3 g334 0 0 0 0 0 0 0 0, b4 g514 a327 a328, b3 g591 0 0 0 0 0 0 0 0, b5 g596 24 a329 t462]) hS⟩
          clear hS
          refine ⟨_, rfl, ?_⟩
          refine hK.out _ _ (⟨blk_cellv (HS.out.at0) 2 rfl, blk_cellv (HS.out.at0) 0 rfl, blk_cellv (HS.out.at0) 1 rfl⟩) (fun hHeld => ?_)
          clear hK K
          refine norm_ (a' := ?_) ?_ ?_
          rotate_left
          · show Act.put _ (some 21) _ = _
            simp only [Act.put, List.setIfInBounds_toArray, List.set_cons_zero, List.set_cons_succ, i64_w, i32_w]
            rfl
          refine pure_ (i := 13) (N := some 25) (v := ?_) (a' := ?_) #[true, true, true, true, true, true, true, true, true, true, true, true, true, true, true, false] rfl rfl (by kernel_rfl) (fun _ _ _ h => h) (Or.inl ⟨by rfl, ?_⟩) ?_ ?_
          rotate_left
          · intro w'
            go_simp
            with_reducible rfl
          rotate_left
          · simp only [Act.put, List.setIfInBounds_toArray, List.set_cons_zero, List.set_cons_succ, i64_w, i32_w]
            rfl
          refine one_ (i := 15) (N := none) #[true, true, true, true, true, true, true, true, true, true, true, true, true, true, true, true] rfl rfl (by kernel_rfl) (by decide) (fun K hK => ?_)
          have hc602 := blk_cellv (v := .int .i64 0) (HS.out.at3) 0 rfl
          have hz603 := blk_fz (HS.out.at3) 0
          have hc604 := blk_cellv (v := .int .i64 0) (HS.out.at3) 1 rfl
          have hz605 := blk_fz (HS.out.at3) 1
          have hc606 := blk_cellv (v := .int .i64 0) (HS.out.at3) 2 rfl
          have hz607 := blk_fz (HS.out.at3) 2
          have hc608 := blk_cellv (v := .int .i64 0) (HS.out.at3) 3 rfl
          have hz609 := blk_fz (HS.out.at3) 3
          have hc610 := blk_cellv (v := .int .i64 0) (HS.out.at3) 4 rfl
          have hz611 := blk_fz (HS.out.at3) 4
          have hc612 := blk_cellv (v := .int .i64 0) (HS.out.at3) 5 rfl
          have hz613 := blk_fz (HS.out.at3) 5
          have hc614 := blk_cellv (v := .int .i64 0) (HS.out.at3) 6 rfl
          have hz615 := blk_fz (HS.out.at3) 6
          have hc616 := blk_cellv (v := .int .i64 0) (HS.out.at3) 7 rfl
          have hz617 := blk_fz (HS.out.at3) 7
          refine store_step (w1 := (World.setCell (World.setCell (World.setCell (World.setCell (World.setCell (World.setCell (World.setCell (World.setCell w600 ⟨g591, 0, none⟩ (.int .i64 t488)) ⟨g591, 1, none⟩ (.int .i64 (wrap64 (a328 - 8)))) ⟨g591, 2, none⟩ (.int .i64 0)) ⟨g591, 3, none⟩ (.int .i64 0)) ⟨g591, 4, none⟩ (.int .i64 0)) ⟨g591, 5, none⟩ (.int .i64 0)) ⟨g591, 6, none⟩ (.int .i64 0)) ⟨g591, 7, none⟩ (.int .i64 0))) (by rfl) rfl ?hr ?_
          case hr => first | (go_simp; done) | (go_simp; rfl)
          clear hc602 hz603 hc604 hz605 hc606 hz607 hc608 hz609 hc610 hz611 hc612 hz613 hc614 hz615 hc616 hz617
          intro w601 hst
          replace HS : Aside0 (Sep (fps []) w [b1 g331 a327 a328 a329 a330, b3 g334 0 0 0 0 0 0 0 0, b4 g514 a327 a328, b3 g591 t488 (wrap64 (a328 - 8)) 0 0 0 0 0 0, b5 g596 24 a329 t462] w601) := ⟨by rw [hst]; exact HS.out.setAll (l1 := [b1 g331 a327 a328 a329 a330, b3 g334 0 0 0 0 0 0 0 0, b4 g514 a327 a328]) (l2 := [b5 g596 24 a329 t462]) [.int .i64 t488, .int .i64 (wrap64 (a328 - 8)), .int .i64 0, .int .i64 0, .int .i64 0, .int .i64 0, .int .i64 0, .int .i64 0] rfl⟩
          clear hst
          refine hK.out _ _ (⟨blk_cellv (HS.out.at0) 2 rfl, blk_cellv (HS.out.at0) 0 rfl, blk_cellv (HS.out.at0) 1 rfl⟩) (fun hHeld => ?_)
          clear hK K
          refine done_ (by kernel_rfl) ?_
          go_wp2_with fail
          go_meet
          case rel => exact ⟨g514, g596, g591, (by first | rfl | (simp [IntKind.wrap_u32]; done)), ⟨(((((HS.out).front 3 (by simp)).front 4 (by simp)).front 4 (by simp)).front 4 (by simp)).front 4 (by simp)⟩⟩
      · refine box_step (by rfl) (N := 5) rfl (cs := #[.int .i64 0, .int .i64 0, .int .i64 0, .int .i64 0, .int .i64 0, .int .i64 0, .int .i64 0, .int .i64 0]) (t := 120) ?hr ?_
        case hr => first | (go_simp; done) | (go_simp; rfl)
        intro g618 hg w619 hbox hb
        replace HS : Aside0 (Sep (fps []) w [b1 g331 a327 a328 a329 a330, b3 g334 0 0 0 0 0 0 0 0, b3 g618 0 0 0 0 0 0 0 0] w619) := ⟨HS.out.box hg hbox hb⟩
        clear hg hbox hb
        refine hK.out _ _ (⟨blk_cellv (HS.out.at0) 2 rfl, blk_cellv (HS.out.at0) 0 rfl, blk_cellv (HS.out.at0) 1 rfl⟩) (fun hHeld => ?_)
        clear hK K
        refine norm_ (a' := ?_) ?_ ?_
        rotate_left
        · show Act.put _ (some 5) _ = _
          simp only [Act.put, List.setIfInBounds_toArray, List.set_cons_zero, List.set_cons_succ, i64_w, i32_w]
          rfl
        refine one_ (i := 6) (N := some 18) #[true, true, true, true, true, true, true, false, false, false, true, true, true, false, true, false] rfl rfl (by kernel_rfl) (by decide) (fun K hK => ?_)
        refine slice_step (n := 2) (by rfl) (N := 18) rfl (cs := #[.int .i64 a327, .int .i64 a328]) (t := 3) ?hr ?_
        case hr => first | (go_simp; done) | (go_simp; rfl)
        intro g621 hg w622 hbox hb
        replace HS : Aside0 (Sep (fps []) w [b1 g331 a327 a328 a329 a330, b3 g334 0 0 0 0 0 0 0 0, b3 g618 0 0 0 0 0 0 0 0, b4 g621 a327 a328] w622) := ⟨HS.out.box hg hbox hb⟩
        clear hg hbox hb
        refine hK.out _ _ (⟨blk_cellv (HS.out.at0) 2 rfl, blk_cellv (HS.out.at0) 0 rfl, blk_cellv (HS.out.at0) 1 rfl⟩) (fun hHeld => ?_)
        clear hK K
        refine norm_ (a' := ?_) ?_ ?_
        rotate_left
        · show Act.put _ (some 18) _ = _
          simp only [Act.put, List.setIfInBounds_toArray, List.set_cons_zero, List.set_cons_succ, i64_w, i32_w]
          rfl
        refine one_ (i := 7) (N := some 19) #[true, true, true, true, true, true, true, true, false, false, true, true, true, false, true, false] rfl rfl (by kernel_rfl) (by decide) (fun K hK => ?_)
        refine goes_ Try.func107 (by kernel_rfl) rfl #[.slice (some ⟨g621, 0, none⟩) 2 2] (by rfl) rfl rfl (by (try simp only [List.map_toArray, List.map_cons, List.map_nil]); first | done | rfl) ?_
        refine (ratio_Mul.calls _ [a327, a328] (some ⟨g621, 0, none⟩) 2 t462 _ ⟨Rd.lit (l := []) (rest := [b1 g331 a327 a328 a329 a330, b3 g334 0 0 0 0 0 0 0 0, b3 g618 0 0 0 0 0 0 0 0, b4 g621 a327 a328]) (xs := [a327, a328]) HS.out 3 rfl (by simp)⟩ ⟨HS.out.begin (l := []) (rest := [b1 g331 a327 a328 a329 a330, b3 g334 0 0 0 0 0 0 0 0, b3 g618 0 0 0 0 0 0 0 0, b4 g621 a327 a328])⟩ HA463).mono ?_
        rintro e_ w625 ⟨rfl, hS⟩
        replace HS : Aside0 (Sep (fps []) w [b1 g331 a327 a328 a329 a330, b3 g334 0 0 0 0 0 0 0 0, b3 g618 0 0 0 0 0 0 0 0, b4 g621 a327 a328] w625) := ⟨HS.out.call (l := []) (rest := [b1 g331 a327 a328 a329 a330, b3 g334 0 0 0 0 0 0 0 0, b3 g618 0 0 0 0 0 0 0 0, b4 g621 a327 a328]) hS⟩
        clear hS
        refine ⟨_, rfl, ?_⟩
        refine hK.out _ _ (⟨blk_cellv (HS.out.at0) 2 rfl, blk_cellv (HS.out.at0) 0 rfl, blk_cellv (HS.out.at0) 1 rfl⟩) (fun hHeld => ?_)
        clear hK K
        refine norm_ (a' := ?_) ?_ ?_
        rotate_left
        · show Act.put _ (some 19) _ = _
          simp only [Act.put, List.setIfInBounds_toArray, List.set_cons_zero, List.set_cons_succ, i64_w, i32_w]
          rfl
        refine one_ (i := 8) (N := some 20) #[true, true, true, true, true, true, true, true, true, false, true, true, true, false, true, false] rfl rfl (by kernel_rfl) (by decide) (fun K hK => ?_)
        refine slice_step (n := 3) (by rfl) (N := 20) rfl (cs := #[.int .i64 24, .int .i64 a329, .int .i64 t462]) (t := 3) ?hr ?_
        case hr => first | (go_simp; done) | (go_simp; rfl)
        intro g626 hg w627 hbox hb
        replace HS : Aside0 (Sep (fps []) w [b1 g331 a327 a328 a329 a330, b3 g334 0 0 0 0 0 0 0 0, b3 g618 0 0 0 0 0 0 0 0, b4 g621 a327 a328, b5 g626 24 a329 t462] w627) := ⟨HS.out.box hg hbox hb⟩
        clear hg hbox hb
        refine hK.out _ _ (⟨blk_cellv (HS.out.at0) 2 rfl, blk_cellv (HS.out.at0) 0 rfl, blk_cellv (HS.out.at0) 1 rfl⟩) (fun hHeld => ?_)
        clear hK K
        refine norm_ (a' := ?_) ?_ ?_
        rotate_left
        · show Act.put _ (some 20) _ = _
          simp only [Act.put, List.setIfInBounds_toArray, List.set_cons_zero, List.set_cons_succ, i64_w, i32_w]
          rfl
        refine one_ (i := 9) (N := some 21) #[true, true, true, true, true, true, true, true, true, true, true, true, true, false, true, false] rfl rfl (by kernel_rfl) (by decide) (fun K hK => ?_)
        refine goes_ Try.func106 (by kernel_rfl) rfl #[.slice (some ⟨g626, 0, none⟩) 3 3] (by rfl) rfl rfl (by (try simp only [List.map_toArray, List.map_cons, List.map_nil]); first | done | rfl) ?_
        refine (ratio_Add.calls _ [24, a329, t462] (some ⟨g626, 0, none⟩) 3 t488 _ ⟨Rd.lit (l := []) (rest := [b1 g331 a327 a328 a329 a330, b3 g334 0 0 0 0 0 0 0 0, b3 g618 0 0 0 0 0 0 0 0, b4 g621 a327 a328, b5 g626 24 a329 t462]) (xs := [24, a329, t462]) HS.out 4 rfl (by simp)⟩ ⟨HS.out.begin (l := []) (rest := [b1 g331 a327 a328 a329 a330, b3 g334 0 0 0 0 0 0 0 0, b3 g618 0 0 0 0 0 0 0 0, b4 g621 a327 a328, b5 g626 24 a329 t462])⟩ HA489).mono ?_
        rintro e_ w630 ⟨rfl, hS⟩
        replace HS : Aside0 (Sep (fps []) w [b1 g331 a327 a328 a329 a330, b3 g334 0 0 0 0 0 0 0 0, b3 g618 0 0 0 0 0 0 0 0, b4 g621 a327 a328, b5 g626 24 a329 t462] w630) := ⟨HS.out.call (l := []) (rest := [b1 g331 a327 a328 a329 a330, b3 g334 0 0 0 0 0 0 0 0, b3 g618 0 0 0 0 0 0 0 0, b4 g621 a327 a328, b5 g626 24 a329 t462]) hS⟩
        clear hS
        refine ⟨_, rfl, ?_⟩
        refine hK.out _ _ (⟨blk_cellv (HS.out.at0) 2 rfl, blk_cellv (HS.out.at0) 0 rfl, blk_cellv (HS.out.at0) 1 rfl⟩) (fun hHeld => ?_)
        clear hK K
        refine norm_ (a' := ?_) ?_ ?_
        rotate_left
        · show Act.put _ (some 21) _ = _
          simp only [Act.put, List.setIfInBounds_toArray, List.set_cons_zero, List.set_cons_succ, i64_w, i32_w]
          rfl
        refine pure_ (i := 13) (N := some 25) (v := ?_) (a' := ?_) #[true, true, true, true, true, true, true, true, true, true, true, true, true, true, true, false] rfl rfl (by kernel_rfl) (fun _ _ _ h => h) (Or.inl ⟨by rfl, ?_⟩) ?_ ?_
        rotate_left
        · intro w'
          go_simp
          with_reducible rfl
        rotate_left
        · simp only [Act.put, List.setIfInBounds_toArray, List.set_cons_zero, List.set_cons_succ, i64_w, i32_w]
          rfl
        refine one_ (i := 15) (N := none) #[true, true, true, true, true, true, true, true, true, true, true, true, true, true, true, true] rfl rfl (by kernel_rfl) (by decide) (fun K hK => ?_)
        have hc632 := blk_cellv (v := .int .i64 0) (HS.out.at2) 0 rfl
        have hz633 := blk_fz (HS.out.at2) 0
        have hc634 := blk_cellv (v := .int .i64 0) (HS.out.at2) 1 rfl
        have hz635 := blk_fz (HS.out.at2) 1
        have hc636 := blk_cellv (v := .int .i64 0) (HS.out.at2) 2 rfl
        have hz637 := blk_fz (HS.out.at2) 2
        have hc638 := blk_cellv (v := .int .i64 0) (HS.out.at2) 3 rfl
        have hz639 := blk_fz (HS.out.at2) 3
        have hc640 := blk_cellv (v := .int .i64 0) (HS.out.at2) 4 rfl
        have hz641 := blk_fz (HS.out.at2) 4
        have hc642 := blk_cellv (v := .int .i64 0) (HS.out.at2) 5 rfl
        have hz643 := blk_fz (HS.out.at2) 5
        have hc644 := blk_cellv (v := .int .i64 0) (HS.out.at2) 6 rfl
        have hz645 := blk_fz (HS.out.at2) 6
        have hc646 := blk_cellv (v := .int .i64 0) (HS.out.at2) 7 rfl
        have hz647 := blk_fz (HS.out.at2) 7
        refine store_step (w1 := (World.setCell (World.setCell (World.setCell (World.setCell (World.setCell (World.setCell (World.setCell (World.setCell w630 ⟨g618, 0, none⟩ (.int .i64 t488)) ⟨g618, 1, none⟩ (.int .i64 (wrap64 (a328 - 8)))) ⟨g618, 2, none⟩ (.int .i64 0)) ⟨g618, 3, none⟩ (.int .i64 0)) ⟨g618, 4, none⟩ (.int .i64 0)) ⟨g618, 5, none⟩ (.int .i64 0)) ⟨g618, 6, none⟩ (.int .i64 0)) ⟨g618, 7, none⟩ (.int .i64 0))) (by rfl) rfl ?hr ?_
        case hr => first | (go_simp; done) | (go_simp; rfl)
        clear hc632 hz633 hc634 hz635 hc636 hz637 hc638 hz639 hc640 hz641 hc642 hz643 hc644 hz645 hc646 hz647
        intro w631 hst
        replace HS : Aside0 (Sep (fps []) w [b1 g331 a327 a328 a329 a330, b3 g334 0 0 0 0 0 0 0 0, b3 g618 t488 (wrap64 (a328 - 8)) 0 0 0 0 0 0, b4 g621 a327 a328, b5 g626 24 a329 t462] w631) := ⟨by rw [hst]; exact HS.out.setAll (l1 := [b1 g331 a327 a328 a329 a330, b3 g334 0 0 0 0 0 0 0 0]) (l2 := [b4 g621 a327 a328, b5 g626 24 a329 t462]) [.int .i64 t488, .int .i64 (wrap64 (a328 - 8)), .int .i64 0, .int .i64 0, .int .i64 0, .int .i64 0, .int .i64 0, .int .i64 0] rfl⟩
        clear hst
        refine hK.out _ _ (⟨blk_cellv (HS.out.at0) 2 rfl, blk_cellv (HS.out.at0) 0 rfl, blk_cellv (HS.out.at0) 1 rfl⟩) (fun hHeld => ?_)
        clear hK K
        refine done_ (by kernel_rfl) ?_
        go_wp2_with fail
        go_meet
        case rel => exact ⟨g621, g626, g618, (by first | rfl | (simp [IntKind.wrap_u32]; done)), ⟨(((((HS.out).front 2 (by simp)).front 4 (by simp)).front 4 (by simp)).front 4 (by simp)).front 4 (by simp)⟩⟩
    case rest =>
      clear HS
      obtain ⟨g388, g465, g491, rfl, HS⟩ := hcut
      obtain ⟨w511, rfl⟩ : ∃ x : World, x = wc := ⟨_, rfl⟩
      replace HS : Aside0 (Sep (fps []) w [b1 g331 a327 a328 a329 a330, b3 g334 0 0 0 0 0 0 0 0, b3 g491 t488 (wrap64 (a328 - 8)) 0 0 0 0 0 0] w511) := ⟨HS.out.sub (.cons_cons _ (.cons_cons _ (.cons _ (.cons _ (.cons_cons _ .slnil)))))⟩
      have hc648 : w511.cell? ⟨g491, 1, none⟩ = some (.int .i64 (wrap64 (a328 - 8))) := blk_cellv (HS.out.at2) 1 rfl
      have hc649 : w511.cell? ⟨g491, 2, none⟩ = some (.int .i64 0) := blk_cellv (HS.out.at2) 2 rfl
      have hz650 : w511.frozen? ⟨g491, 2, none⟩ = false := blk_fz (HS.out.at2) 2
      go_wp2_with (first | ((with_reducible refine gate_store (t := 3) (p := 29) rfl ?_); refine store_event (w1 := (World.setCell w511 ⟨g491, 2, none⟩ (.int .i64 (wrap64 ((wrap64 (a328 - 8)) + 1))))) rfl (t := 3) (p := 29) rfl rfl ?hr ?_; (case hr => first | (go_simp; done) | (go_simp; rfl)); intro w651 hst; clear hc648 hc649 hz650; have hq0 : Sep (fps []) w [b1 g331 a327 a328 a329 a330, b3 g334 0 0 0 0 0 0 0 0, b3 g491 t488 (wrap64 (a328 - 8)) (wrap64 ((wrap64 (a328 - 8)) + 1)) 0 0 0 0 0] (World.setCell w511 ⟨g491, 2, none⟩ (.int .i64 (wrap64 ((wrap64 (a328 - 8)) + 1)))) := (HS.out).set1 (l1 := [b1 g331 a327 a328 a329 a330, b3 g334 0 0 0 0 0 0 0 0]) (l2 := []) 2 (.int .i64 (wrap64 ((wrap64 (a328 - 8)) + 1))); replace HS : Aside0 (Sep (fps []) w [b1 g331 a327 a328 a329 a330, b3 g334 0 0 0 0 0 0 0 0, b3 g491 t488 (wrap64 (a328 - 8)) (wrap64 ((wrap64 (a328 - 8)) + 1)) 0 0 0 0 0] w651) := ⟨by rw [hst]; exact hq0⟩; clear hq0; clear hst; have hc652 : w651.cell? ⟨g491, 1, none⟩ = some (.int .i64 (wrap64 (a328 - 8))) := blk_cellv (HS.out.at2) 1 rfl; have hc653 : w651.cell? ⟨g331, 1, none⟩ = some (.int .i64 a328) := blk_cellv (HS.out.at0) 1 rfl) | ((with_reducible refine gate_dst (N := 35) rfl ?_); refine slice_on (n := 2) ?hg (N := 35) ?hd (cs := #[.int .i64 (wrap64 (a328 - 8)), .int .i64 (wrap64 (a328 - 1))]) (t := 3) ?hr ?_; (case hd => rfl); (case hg => rfl); (case hr => first | (go_simp; done) | (go_simp; rfl)); intro g654 hg w655 hbox hb; clear hc652 hc653; replace HS : Aside0 (Sep (fps []) w [b1 g331 a327 a328 a329 a330, b3 g334 0 0 0 0 0 0 0 0, b3 g491 t488 (wrap64 (a328 - 8)) (wrap64 ((wrap64 (a328 - 8)) + 1)) 0 0 0 0 0, b4 g654 (wrap64 (a328 - 8)) (wrap64 (a328 - 1))] w655) := ⟨HS.out.box hg hbox hb⟩; clear hg hbox hb))
      obtain ⟨t657, HA658, H⟩ := bind_some H
      refine (ratio_Mul.calls _ [wrap64 (a328 - 8), wrap64 (a328 - 1)] (some ⟨g654, 0, none⟩) 2 t657 _ ⟨Rd.lit (l := []) (rest := [b1 g331 a327 a328 a329 a330, b3 g334 0 0 0 0 0 0 0 0, b3 g491 t488 (wrap64 (a328 - 8)) (wrap64 ((wrap64 (a328 - 8)) + 1)) 0 0 0 0 0, b4 g654 (wrap64 (a328 - 8)) (wrap64 (a328 - 1))]) (xs := [wrap64 (a328 - 8), wrap64 (a328 - 1)]) HS.out 3 rfl (by simp)⟩ ⟨HS.out.begin (l := []) (rest := [b1 g331 a327 a328 a329 a330, b3 g334 0 0 0 0 0 0 0 0, b3 g491 t488 (wrap64 (a328 - 8)) (wrap64 ((wrap64 (a328 - 8)) + 1)) 0 0 0 0 0, b4 g654 (wrap64 (a328 - 8)) (wrap64 (a328 - 1))])⟩ HA658).mono ?_
      rintro e_ w659 ⟨rfl, hS⟩
      replace HS : Aside0 (Sep (fps []) w [b1 g331 a327 a328 a329 a330, b3 g334 0 0 0 0 0 0 0 0, b3 g491 t488 (wrap64 (a328 - 8)) (wrap64 ((wrap64 (a328 - 8)) + 1)) 0 0 0 0 0, b4 g654 (wrap64 (a328 - 8)) (wrap64 (a328 - 1))] w659) := ⟨HS.out.call (l := []) (rest := [b1 g331 a327 a328 a329 a330, b3 g334 0 0 0 0 0 0 0 0, b3 g491 t488 (wrap64 (a328 - 8)) (wrap64 ((wrap64 (a328 - 8)) + 1)) 0 0 0 0 0, b4 g654 (wrap64 (a328 - 8)) (wrap64 (a328 - 1))]) hS⟩
      clear hS
      have hc660 : w659.cell? ⟨g491, 3, none⟩ = some (.int .i64 0) := blk_cellv (HS.out.at2) 3 rfl
      have hz661 : w659.frozen? ⟨g491, 3, none⟩ = false := blk_fz (HS.out.at2) 3
      go_wp2_with (first | ((with_reducible refine gate_store (t := 3) (p := 37) rfl ?_); refine store_event (w1 := (World.setCell w659 ⟨g491, 3, none⟩ (.int .i64 t657))) rfl (t := 3) (p := 37) rfl rfl ?hr ?_; (case hr => first | (go_simp; done) | (go_simp; rfl)); intro w662 hst; clear hc660 hz661; have hq0 : Sep (fps []) w [b1 g331 a327 a328 a329 a330, b3 g334 0 0 0 0 0 0 0 0, b3 g491 t488 (wrap64 (a328 - 8)) (wrap64 ((wrap64 (a328 - 8)) + 1)) t657 0 0 0 0, b4 g654 (wrap64 (a328 - 8)) (wrap64 (a328 - 1))] (World.setCell w659 ⟨g491, 3, none⟩ (.int .i64 t657)) := (HS.out).set1 (l1 := [b1 g331 a327 a328 a329 a330, b3 g334 0 0 0 0 0 0 0 0]) (l2 := [b4 g654 (wrap64 (a328 - 8)) (wrap64 (a328 - 1))]) 3 (.int .i64 t657); replace HS : Aside0 (Sep (fps []) w [b1 g331 a327 a328 a329 a330, b3 g334 0 0 0 0 0 0 0 0, b3 g491 t488 (wrap64 (a328 - 8)) (wrap64 ((wrap64 (a328 - 8)) + 1)) t657 0 0 0 0, b4 g654 (wrap64 (a328 - 8)) (wrap64 (a328 - 1))] w662) := ⟨by rw [hst]; exact hq0⟩; clear hq0; clear hst; replace HS : Aside0 (Sep (fps []) w [b1 g331 a327 a328 a329 a330, b3 g334 0 0 0 0 0 0 0 0, b3 g491 t488 (wrap64 (a328 - 8)) (wrap64 ((wrap64 (a328 - 8)) + 1)) t657 0 0 0 0] w662) := ⟨HS.out.sub (.cons_cons _ (.cons_cons _ (.cons_cons _ (.cons _ .slnil))))⟩; have hc663 : w662.cell? ⟨g331, 0, none⟩ = some (.int .i64 a327) := blk_cellv (HS.out.at0) 0 rfl; have hc664 : w662.cell? ⟨g331, 1, none⟩ = some (.int .i64 a328) := blk_cellv (HS.out.at0) 1 rfl) | ((with_reducible refine gate_dst (N := 43) rfl ?_); refine slice_on (n := 2) ?hg (N := 43) ?hd (cs := #[.int .i64 a327, .int .i64 (wrap64 (a328 + 1))]) (t := 3) ?hr ?_; (case hd => rfl); (case hg => rfl); (case hr => first | (go_simp; done) | (go_simp; rfl)); intro g665 hg w666 hbox hb; clear hc663 hc664; replace HS : Aside0 (Sep (fps []) w [b1 g331 a327 a328 a329 a330, b3 g334 0 0 0 0 0 0 0 0, b3 g491 t488 (wrap64 (a328 - 8)) (wrap64 ((wrap64 (a328 - 8)) + 1)) t657 0 0 0 0, b4 g665 a327 (wrap64 (a328 + 1))] w666) := ⟨HS.out.box hg hbox hb⟩; clear hg hbox hb))
      obtain ⟨t668, HA669, H⟩ := bind_some H
      refine (ratio_Mul.calls _ [a327, wrap64 (a328 + 1)] (some ⟨g665, 0, none⟩) 2 t668 _ ⟨Rd.lit (l := []) (rest := [b1 g331 a327 a328 a329 a330, b3 g334 0 0 0 0 0 0 0 0, b3 g491 t488 (wrap64 (a328 - 8)) (wrap64 ((wrap64 (a328 - 8)) + 1)) t657 0 0 0 0, b4 g665 a327 (wrap64 (a328 + 1))]) (xs := [a327, wrap64 (a328 + 1)]) HS.out 3 rfl (by simp)⟩ ⟨HS.out.begin (l := []) (rest := [b1 g331 a327 a328 a329 a330, b3 g334 0 0 0 0 0 0 0 0, b3 g491 t488 (wrap64 (a328 - 8)) (wrap64 ((wrap64 (a328 - 8)) + 1)) t657 0 0 0 0, b4 g665 a327 (wrap64 (a328 + 1))])⟩ HA669).mono ?_
      rintro e_ w670 ⟨rfl, hS⟩
      replace HS : Aside0 (Sep (fps []) w [b1 g331 a327 a328 a329 a330, b3 g334 0 0 0 0 0 0 0 0, b3 g491 t488 (wrap64 (a328 - 8)) (wrap64 ((wrap64 (a328 - 8)) + 1)) t657 0 0 0 0, b4 g665 a327 (wrap64 (a328 + 1))] w670) := ⟨HS.out.call (l := []) (rest := [b1 g331 a327 a328 a329 a330, b3 g334 0 0 0 0 0 0 0 0, b3 g491 t488 (wrap64 (a328 - 8)) (wrap64 ((wrap64 (a328 - 8)) + 1)) t657 0 0 0 0, b4 g665 a327 (wrap64 (a328 + 1))]) hS⟩
      clear hS
      have hc671 : w670.cell? ⟨g491, 5, none⟩ = some (.int .i64 0) := blk_cellv (HS.out.at2) 5 rfl
      have hz672 : w670.frozen? ⟨g491, 5, none⟩ = false := blk_fz (HS.out.at2) 5
      go_wp2_with (first | ((with_reducible refine gate_store (t := 3) (p := 45) rfl ?_); refine store_event (w1 := (World.setCell w670 ⟨g491, 5, none⟩ (.int .i64 t668))) rfl (t := 3) (p := 45) rfl rfl ?hr ?_; (case hr => first | (go_simp; done) | (go_simp; rfl)); intro w673 hst; clear hc671 hz672; have hq0 : Sep (fps []) w [b1 g331 a327 a328 a329 a330, b3 g334 0 0 0 0 0 0 0 0, b3 g491 t488 (wrap64 (a328 - 8)) (wrap64 ((wrap64 (a328 - 8)) + 1)) t657 0 t668 0 0, b4 g665 a327 (wrap64 (a328 + 1))] (World.setCell w670 ⟨g491, 5, none⟩ (.int .i64 t668)) := (HS.out).set1 (l1 := [b1 g331 a327 a328 a329 a330, b3 g334 0 0 0 0 0 0 0 0]) (l2 := [b4 g665 a327 (wrap64 (a328 + 1))]) 5 (.int .i64 t668); replace HS : Aside0 (Sep (fps []) w [b1 g331 a327 a328 a329 a330, b3 g334 0 0 0 0 0 0 0 0, b3 g491 t488 (wrap64 (a328 - 8)) (wrap64 ((wrap64 (a328 - 8)) + 1)) t657 0 t668 0 0, b4 g665 a327 (wrap64 (a328 + 1))] w673) := ⟨by rw [hst]; exact hq0⟩; clear hq0; clear hst; replace HS : Aside0 (Sep (fps []) w [b1 g331 a327 a328 a329 a330, b3 g334 0 0 0 0 0 0 0 0, b3 g491 t488 (wrap64 (a328 - 8)) (wrap64 ((wrap64 (a328 - 8)) + 1)) t657 0 t668 0 0] w673) := ⟨HS.out.sub (.cons_cons _ (.cons_cons _ (.cons_cons _ (.cons _ .slnil))))⟩; have hc674 : w673.cell? ⟨g491, 5, none⟩ = some (.int .i64 t668) := blk_cellv (HS.out.at2) 5 rfl) | ((with_reducible refine gate_dst (N := 48) rfl ?_); refine slice_on (n := 2) ?hg (N := 48) ?hd (cs := #[.int .i64 3, .int .i64 t668]) (t := 3) ?hr ?_; (case hd => rfl); (case hg => rfl); (case hr => first | (go_simp; done) | (go_simp; rfl)); intro g675 hg w676 hbox hb; clear hc674; replace HS : Aside0 (Sep (fps []) w [b1 g331 a327 a328 a329 a330, b3 g334 0 0 0 0 0 0 0 0, b3 g491 t488 (wrap64 (a328 - 8)) (wrap64 ((wrap64 (a328 - 8)) + 1)) t657 0 t668 0 0, b4 g675 3 t668] w676) := ⟨HS.out.box hg hbox hb⟩; clear hg hbox hb))
      obtain ⟨t678, HA679, H⟩ := bind_some H
      refine (ratio_Mul.calls _ [3, t668] (some ⟨g675, 0, none⟩) 2 t678 _ ⟨Rd.lit (l := []) (rest := [b1 g331 a327 a328 a329 a330, b3 g334 0 0 0 0 0 0 0 0, b3 g491 t488 (wrap64 (a328 - 8)) (wrap64 ((wrap64 (a328 - 8)) + 1)) t657 0 t668 0 0, b4 g675 3 t668]) (xs := [3, t668]) HS.out 3 rfl (by simp)⟩ ⟨HS.out.begin (l := []) (rest := [b1 g331 a327 a328 a329 a330, b3 g334 0 0 0 0 0 0 0 0, b3 g491 t488 (wrap64 (a328 - 8)) (wrap64 ((wrap64 (a328 - 8)) + 1)) t657 0 t668 0 0, b4 g675 3 t668])⟩ HA679).mono ?_
      rintro e_ w680 ⟨rfl, hS⟩
      replace HS : Aside0 (Sep (fps []) w [b1 g331 a327 a328 a329 a330, b3 g334 0 0 0 0 0 0 0 0, b3 g491 t488 (wrap64 (a328 - 8)) (wrap64 ((wrap64 (a328 - 8)) + 1)) t657 0 t668 0 0, b4 g675 3 t668] w680) := ⟨HS.out.call (l := []) (rest := [b1 g331 a327 a328 a329 a330, b3 g334 0 0 0 0 0 0 0 0, b3 g491 t488 (wrap64 (a328 - 8)) (wrap64 ((wrap64 (a328 - 8)) + 1)) t657 0 t668 0 0, b4 g675 3 t668]) hS⟩
      clear hS
      go_wp2_with (first | ((with_reducible refine gate_dst (N := 50) rfl ?_); refine slice_on (n := 2) ?hg (N := 50) ?hd (cs := #[.int .i64 t678, .int .i64 4]) (t := 3) ?hr ?_; (case hd => rfl); (case hg => rfl); (case hr => first | (go_simp; done) | (go_simp; rfl)); intro g681 hg w682 hbox hb; replace HS : Aside0 (Sep (fps []) w [b1 g331 a327 a328 a329 a330, b3 g334 0 0 0 0 0 0 0 0, b3 g491 t488 (wrap64 (a328 - 8)) (wrap64 ((wrap64 (a328 - 8)) + 1)) t657 0 t668 0 0, b4 g675 3 t668, b4 g681 t678 4] w682) := ⟨HS.out.box hg hbox hb⟩; clear hg hbox hb))
      obtain ⟨t684, HA685, H⟩ := bind_some H
      refine (ratio_Add.calls _ [t678, 4] (some ⟨g681, 0, none⟩) 2 t684 _ ⟨Rd.lit (l := []) (rest := [b1 g331 a327 a328 a329 a330, b3 g334 0 0 0 0 0 0 0 0, b3 g491 t488 (wrap64 (a328 - 8)) (wrap64 ((wrap64 (a328 - 8)) + 1)) t657 0 t668 0 0, b4 g675 3 t668, b4 g681 t678 4]) (xs := [t678, 4]) HS.out 4 rfl (by simp)⟩ ⟨HS.out.begin (l := []) (rest := [b1 g331 a327 a328 a329 a330, b3 g334 0 0 0 0 0 0 0 0, b3 g491 t488 (wrap64 (a328 - 8)) (wrap64 ((wrap64 (a328 - 8)) + 1)) t657 0 t668 0 0, b4 g675 3 t668, b4 g681 t678 4])⟩ HA685).mono ?_
      rintro e_ w686 ⟨rfl, hS⟩
      replace HS : Aside0 (Sep (fps []) w [b1 g331 a327 a328 a329 a330, b3 g334 0 0 0 0 0 0 0 0, b3 g491 t488 (wrap64 (a328 - 8)) (wrap64 ((wrap64 (a328 - 8)) + 1)) t657 0 t668 0 0, b4 g675 3 t668, b4 g681 t678 4] w686) := ⟨HS.out.call (l := []) (rest := [b1 g331 a327 a328 a329 a330, b3 g334 0 0 0 0 0 0 0 0, b3 g491 t488 (wrap64 (a328 - 8)) (wrap64 ((wrap64 (a328 - 8)) + 1)) t657 0 t668 0 0, b4 g675 3 t668, b4 g681 t678 4]) hS⟩
      clear hS
      have hc687 : w686.cell? ⟨g491, 4, none⟩ = some (.int .i64 0) := blk_cellv (HS.out.at2) 4 rfl
      have hz688 : w686.frozen? ⟨g491, 4, none⟩ = false := blk_fz (HS.out.at2) 4
      go_wp2_with (first | ((with_reducible refine gate_store (t := 3) (p := 52) rfl ?_); refine store_event (w1 := (World.setCell w686 ⟨g491, 4, none⟩ (.int .i64 t684))) rfl (t := 3) (p := 52) rfl rfl ?hr ?_; (case hr => first | (go_simp; done) | (go_simp; rfl)); intro w689 hst; clear hc687 hz688; have hq0 : Sep (fps []) w [b1 g331 a327 a328 a329 a330, b3 g334 0 0 0 0 0 0 0 0, b3 g491 t488 (wrap64 (a328 - 8)) (wrap64 ((wrap64 (a328 - 8)) + 1)) t657 t684 t668 0 0, b4 g675 3 t668, b4 g681 t678 4] (World.setCell w686 ⟨g491, 4, none⟩ (.int .i64 t684)) := (HS.out).set1 (l1 := [b1 g331 a327 a328 a329 a330, b3 g334 0 0 0 0 0 0 0 0]) (l2 := [b4 g675 3 t668, b4 g681 t678 4]) 4 (.int .i64 t684); replace HS : Aside0 (Sep (fps []) w [b1 g331 a327 a328 a329 a330, b3 g334 0 0 0 0 0 0 0 0, b3 g491 t488 (wrap64 (a328 - 8)) (wrap64 ((wrap64 (a328 - 8)) + 1)) t657 t684 t668 0 0, b4 g675 3 t668, b4 g681 t678 4] w689) := ⟨by rw [hst]; exact hq0⟩; clear hq0; clear hst; replace HS : Aside0 (Sep (fps []) w [b1 g331 a327 a328 a329 a330, b3 g334 0 0 0 0 0 0 0 0, b3 g491 t488 (wrap64 (a328 - 8)) (wrap64 ((wrap64 (a328 - 8)) + 1)) t657 t684 t668 0 0] w689) := ⟨HS.out.sub (.cons_cons _ (.cons_cons _ (.cons_cons _ (.cons _ (.cons _ .slnil)))))⟩))
      obtain ⟨t709, HA710, H⟩ := bind_some H
      obtain ⟨t715, HA716, H⟩ := bind_some H
      obtain ⟨t721, HA722, H⟩ := bind_some H
      obtain ⟨t727, HA728, H⟩ := bind_some H
      go_cut [] (fun wc => ∃ (g712 : Nat) (g718 : Nat) (g724 : Nat), Aside0 (Sep (fps []) w [b1 g331 a327 a328 a329 a330, b3 g334 0 0 0 0 0 0 0 0, b3 g491 t488 (wrap64 (a328 - 8)) (wrap64 ((wrap64 (a328 - 8)) + 1)) t657 t684 t668 t727 0, b4 g712 2 t709, b4 g718 2 (wrap64 ((wrap64 (a328 - 8)) + 1)), b4 g724 t715 t721] wc))
      case first =>
        go_wp2_with fail
        refine start_ (n := 15) (S := (fun w' => w'.cell? ⟨g491, 4, none⟩ = some (.int .i64 t684) ∧ w'.cell? ⟨g331, 3, none⟩ = some (.int .i64 a330) ∧ w'.cell? ⟨g491, 2, none⟩ = some (.int .i64 (wrap64 ((wrap64 (a328 - 8)) + 1))))) (ds := []) #[false, false, false, false, false, false, false, false, false, false, false, false, false, false, false] (by kernel_rfl) rfl rfl (⟨blk_cellv ((HS.out.drew).at2) 4 rfl, blk_cellv ((HS.out.drew).at0) 3 rfl, blk_cellv ((HS.out.drew).at2) 2 rfl⟩) (fun hHeld => ?_)
        have HS_ := Aside0.mk HS.out.drew
        clear HS
        generalize World.drew _ = w735 at HS_ hHeld ⊢
        have HS := HS_
        clear HS_
        refine pure_ (i := 0) (N := some 53) (v := ?_) (a' := ?_) #[true, false, false, false, false, false, false, false, false, false, false, false, false, false, false] rfl rfl (by kernel_rfl) (fun _ _ _ h => h) (Or.inl ⟨by rfl, ?_⟩) ?_ ?_
        rotate_left
        · intro w'
          go_simp
          with_reducible rfl
        rotate_left
        · simp only [Act.put, List.setIfInBounds_toArray, List.set_cons_zero, List.set_cons_succ, i64_w, i32_w]
          rfl
        refine pure_ (i := 2) (N := some 55) (v := ?_) (a' := ?_) #[true, false, true, false, false, false, false, false, false, false, false, false, false, false, false] rfl rfl (by kernel_rfl) (fun _ _ _ h => h) (Or.inl ⟨by rfl, ?_⟩) ?_ ?_
        rotate_left
        · intro w'
          go_simp
          with_reducible rfl
        rotate_left
        · simp only [Act.put, List.setIfInBounds_toArray, List.set_cons_zero, List.set_cons_succ, i64_w, i32_w]
          rfl
        refine pure_ (i := 7) (N := some 60) (v := ?_) (a' := ?_) #[true, false, true, false, false, false, false, true, false, false, false, false, false, false, false] rfl rfl (by kernel_rfl) (fun _ _ _ h => h) (Or.inl ⟨by rfl, ?_⟩) ?_ ?_
        rotate_left
        · intro w'
          go_simp
          with_reducible rfl
        rotate_left
        · simp only [Act.put, List.setIfInBounds_toArray, List.set_cons_zero, List.set_cons_succ, i64_w, i32_w]
          rfl
        refine take_ (i := 1) (N := some 54) (v := ?_) (a' := ?_) #[true, true, true, false, false, false, false, true, false, false, false, false, false, false, false] rfl rfl (by kernel_rfl) (fun _ _ _ h => h) (Or.inl ⟨by rfl, ?_⟩) hHeld ?_ ?_
        rotate_left
        · rintro w' hS'
          obtain ⟨s0, s1, s2⟩ := hS'
          go_simp
          with_reducible rfl
        rotate_left
        · simp only [Act.put, List.setIfInBounds_toArray, List.set_cons_zero, List.set_cons_succ, i64_w, i32_w]
          rfl
        refine take_ (i := 3) (N := some 56) (v := ?_) (a' := ?_) #[true, true, true, true, false, false, false, true, false, false, false, false, false, false, false] rfl rfl (by kernel_rfl) (fun _ _ _ h => h) (Or.inl ⟨by rfl, ?_⟩) hHeld ?_ ?_
        rotate_left
        · rintro w' hS'
          obtain ⟨s0, s1, s2⟩ := hS'
          go_simp
          with_reducible rfl
        rotate_left
        · simp only [Act.put, List.setIfInBounds_toArray, List.set_cons_zero, List.set_cons_succ, i64_w, i32_w]
          rfl
        refine take_ (i := 8) (N := some 61) (v := ?_) (a' := ?_) #[true, true, true, true, false, false, false, true, true, false, false, false, false, false, false] rfl rfl (by kernel_rfl) (fun _ _ _ h => h) (Or.inl ⟨by rfl, ?_⟩) hHeld ?_ ?_
        rotate_left
        · rintro w' hS'
          obtain ⟨s0, s1, s2⟩ := hS'
          go_simp
          with_reducible rfl
        rotate_left
        · simp only [Act.put, List.setIfInBounds_toArray, List.set_cons_zero, List.set_cons_succ, i64_w, i32_w]
          rfl
        refine two_ (i := 4) (j := 9) (Ni := some 57) (Nj := some 62) #[true, true, true, true, true, false, false, true, true, false, false, false, false, false, false] #[true, true, true, true, false, false, false, true, true, true, false, false, false, false, false] rfl rfl rfl rfl (by kernel_rfl) (by decide) (by decide) (fun K hK => ?_) (fun K hK => ?_)
        · refine goes_ Try.func108 (by kernel_rfl) rfl #[.int .i64 t684, .int .i64 a330] (by rfl) rfl rfl (by (try simp only [List.map_toArray, List.map_cons, List.map_nil]); first | done | rfl) ?_
          refine (ratio_Up.calls t684 a330 t709 _ ⟨HS.out.begin (l := []) (rest := [b1 g331 a327 a328 a329 a330, b3 g334 0 0 0 0 0 0 0 0, b3 g491 t488 (wrap64 (a328 - 8)) (wrap64 ((wrap64 (a328 - 8)) + 1)) t657 t684 t668 0 0])⟩ HA710).mono ?_
          rintro e_ w737 ⟨rfl, hS⟩
          replace HS : Aside0 (Sep (fps []) w [b1 g331 a327 a328 a329 a330, b3 g334 0 0 0 0 0 0 0 0, b3 g491 t488 (wrap64 (a328 - 8)) (wrap64 ((wrap64 (a328 - 8)) + 1)) t657 t684 t668 0 0] w737) := ⟨HS.out.call (l := []) (rest := [b1 g331 a327 a328 a329 a330, b3 g334 0 0 0 0 0 0 0 0, b3 g491 t488 (wrap64 (a328 - 8)) (wrap64 ((wrap64 (a328 - 8)) + 1)) t657 t684 t668 0 0]) hS⟩
          clear hS
          refine ⟨_, rfl, ?_⟩
          refine hK.out _ _ (⟨blk_cellv (HS.out.at2) 4 rfl, blk_cellv (HS.out.at0) 3 rfl, blk_cellv (HS.out.at2) 2 rfl⟩) (fun hHeld => ?_)
          clear hK K
          refine norm_ (a' := ?_) ?_ ?_
          rotate_left
          · show Act.put _ (some 57) _ = _
            simp only [Act.put, List.setIfInBounds_toArray, List.set_cons_zero, List.set_cons_succ, i64_w, i32_w]
            rfl
          refine two_ (i := 5) (j := 9) (Ni := some 58) (Nj := some 62) #[true, true, true, true, true, true, false, true, true, false, false, false, false, false, false] #[true, true, true, true, true, false, false, true, true, true, false, false, false, false, false] rfl rfl rfl rfl (by kernel_rfl) (by decide) (by decide) (fun K hK => ?_) (fun K hK => ?_)
          · refine slice_step (n := 2) (by rfl) (N := 58) rfl (cs := #[.int .i64 2, .int .i64 t709]) (t := 3) ?hr ?_
            case hr => first | (go_simp; done) | (go_simp; rfl)
            intro g738 hg w739 hbox hb
            replace HS : Aside0 (Sep (fps []) w [b1 g331 a327 a328 a329 a330, b3 g334 0 0 0 0 0 0 0 0, b3 g491 t488 (wrap64 (a328 - 8)) (wrap64 ((wrap64 (a328 - 8)) + 1)) t657 t684 t668 0 0, b4 g738 2 t709] w739) := ⟨HS.out.box hg hbox hb⟩
            clear hg hbox hb
            refine hK.out _ _ (⟨blk_cellv (HS.out.at2) 4 rfl, blk_cellv (HS.out.at0) 3 rfl, blk_cellv (HS.out.at2) 2 rfl⟩) (fun hHeld => ?_)
            clear hK K
            refine norm_ (a' := ?_) ?_ ?_
            rotate_left
            · show Act.put _ (some 58) _ = _
              simp only [Act.put, List.setIfInBounds_toArray, List.set_cons_zero, List.set_cons_succ, i64_w, i32_w]
              rfl
            refine two_ (i := 6) (j := 9) (Ni := some 59) (Nj := some 62) #[true, true, true, true, true, true, true, true, true, false, false, false, false, false, false] #[true, true, true, true, true, true, false, true, true, true, false, false, false, false, false] rfl rfl rfl rfl (by kernel_rfl) (by decide) (by decide) (fun K hK => ?_) (fun K hK => ?_)
            · refine goes_ Try.func107 (by kernel_rfl) rfl #[.slice (some ⟨g738, 0, none⟩) 2 2] (by rfl) rfl rfl (by (try simp only [List.map_toArray, List.map_cons, List.map_nil]); first | done | rfl) ?_
              refine (ratio_Mul.calls _ [2, t709] (some ⟨g738, 0, none⟩) 2 t715 _ ⟨Rd.lit (l := []) (rest := [b1 g331 a327 a328 a329 a330, b3 g334 0 0 0 0 0 0 0 0, b3 g491 t488 (wrap64 (a328 - 8)) (wrap64 ((wrap64 (a328 - 8)) + 1)) t657 t684 t668 0 0, b4 g738 2 t709]) (xs := [2, t709]) HS.out 3 rfl (by simp)⟩ ⟨HS.out.begin (l := []) (rest := [b1 g331 a327 a328 a329 a330, b3 g334 0 0 0 0 0 0 0 0, b3 g491 t488 (wrap64 (a328 - 8)) (wrap64 ((wrap64 (a328 - 8)) + 1)) t657 t684 t668 0 0, b4 g738 2 t709])⟩ HA716).mono ?_
              rintro e_ w742 ⟨rfl, hS⟩
              replace HS : Aside0 (Sep (fps []) w [b1 g331 a327 a328 a329 a330, b3 g334 0 0 0 0 0 0 0 0, b3 g491 t488 (wrap64 (a328 - 8)) (wrap64 ((wrap64 (a328 - 8)) + 1)) t657 t684 t668 0 0, b4 g738 2 t709] w742) := ⟨HS.out.call (l := []) (rest := [b1 g331 a327 a328 a329 a330, b3 g334 0 0 0 0 0 0 0 0, b3 g491 t488 (wrap64 (a328 - 8)) (wrap64 ((wrap64 (a328 - 8)) + 1)) t657 t684 t668 0 0, b4 g738 2 t709]) hS⟩
              clear hS
              refine ⟨_, rfl, ?_⟩
              refine hK.out _ _ (⟨blk_cellv (HS.out.at2) 4 rfl, blk_cellv (HS.out.at0) 3 rfl, blk_cellv (HS.out.at2) 2 rfl⟩) (fun hHeld => ?_)
              clear hK K
              refine norm_ (a' := ?_) ?_ ?_
              rotate_left
              · show Act.put _ (some 59) _ = _
                simp only [Act.put, List.setIfInBounds_toArray, List.set_cons_zero, List.set_cons_succ, i64_w, i32_w]
                rfl
              refine one_ (i := 9) (N := some 62) #[true, true, true, true, true, true, true, true, true, true, false, false, false, false, false] rfl rfl (by kernel_rfl) (by decide) (fun K hK => ?_)
              refine slice_step (n := 2) (by rfl) (N := 62) rfl (cs := #[.int .i64 2, .int .i64 (wrap64 ((wrap64 (a328 - 8)) + 1))]) (t := 3) ?hr ?_
              case hr => first | (go_simp; done) | (go_simp; rfl)
              intro g743 hg w744 hbox hb
              replace HS : Aside0 (Sep (fps []) w [b1 g331 a327 a328 a329 a330, b3 g334 0 0 0 0 0 0 0 0, b3 g491 t488 (wrap64 (a328 - 8)) (wrap64 ((wrap64 (a328 - 8)) + 1)) t657 t684 t668 0 0, b4 g738 2 t709, b4 g743 2 (wrap64 ((wrap64 (a328 - 8)) + 1))] w744) := ⟨HS.out.box hg hbox hb⟩
              clear hg hbox hb
              refine hK.out _ _ (⟨blk_cellv (HS.out.at2) 4 rfl, blk_cellv (HS.out.at0) 3 rfl, blk_cellv (HS.out.at2) 2 rfl⟩) (fun hHeld => ?_)
              clear hK K
              refine norm_ (a' := ?_) ?_ ?_
              rotate_left
              · show Act.put _ (some 62) _ = _
                simp only [Act.put, List.setIfInBounds_toArray, List.set_cons_zero, List.set_cons_succ, i64_w, i32_w]
                rfl
              refine one_ (i := 10) (N := some 63) #[true, true, true, true, true, true, true, true, true, true, true, false, false, false, false] rfl rfl (by kernel_rfl) (by decide) (fun K hK => ?_)
              refine goes_ Try.func107 (by kernel_rfl) rfl #[.slice (some ⟨g743, 0, none⟩) 2 2] (by rfl) rfl rfl (by (try simp only [List.map_toArray, List.map_cons, List.map_nil]); first | done | rfl) ?_
              refine (ratio_Mul.calls _ [2, wrap64 ((wrap64 (a328 - 8)) + 1)] (some ⟨g743, 0, none⟩) 2 t721 _ ⟨Rd.lit (l := []) (rest := [b1 g331 a327 a328 a329 a330, b3 g334 0 0 0 0 0 0 0 0, b3 g491 t488 (wrap64 (a328 - 8)) (wrap64 ((wrap64 (a328 - 8)) + 1)) t657 t684 t668 0 0, b4 g738 2 t709, b4 g743 2 (wrap64 ((wrap64 (a328 - 8)) + 1))]) (xs := [2, wrap64 ((wrap64 (a328 - 8)) + 1)]) HS.out 4 rfl (by simp)⟩ ⟨HS.out.begin (l := []) (rest := [b1 g331 a327 a328 a329 a330, b3 g334 0 0 0 0 0 0 0 0, b3 g491 t488 (wrap64 (a328 - 8)) (wrap64 ((wrap64 (a328 - 8)) + 1)) t657 t684 t668 0 0, b4 g738 2 t709, b4 g743 2 (wrap64 ((wrap64 (a328 - 8)) + 1))])⟩ HA722).mono ?_
              rintro e_ w747 ⟨rfl, hS⟩
              replace HS : Aside0 (Sep (fps []) w [b1 g331 a327 a328 a329 a330, b3 g334 0 0 0 0 0 0 0 0, b3 g491 t488 (wrap64 (a328 - 8)) (wrap64 ((wrap64 (a328 - 8)) + 1)) t657 t684 t668 0 0, b4 g738 2 t709, b4 g743 2 (wrap64 ((wrap64 (a328 - 8)) + 1))] w747) := ⟨HS.out.call (l := []) (rest := [b1 g331 a327 a328 a329 a330, b3 g334 0 0 0 0 0 0 0 0, b3 g491 t488 (wrap64 (a328 - 8)) (wrap64 ((wrap64 (a328 - 8)) + 1)) t657 t684 t668 0 0, b4 g738 2 t709, b4 g743 2 (wrap64 ((wrap64 (a328 - 8)) + 1))]) hS⟩
              clear hS
              refine ⟨_, rfl, ?_⟩
              refine hK.out _ _ (⟨blk_cellv (HS.out.at2) 4 rfl, blk_cellv (HS.out.at0) 3 rfl, blk_cellv (HS.out.at2) 2 rfl⟩) (fun hHeld => ?_)
              clear hK K
              refine norm_ (a' := ?_) ?_ ?_
              rotate_left
              · show Act.put _ (some 63) _ = _
                simp only [Act.put, List.setIfInBounds_toArray, List.set_cons_zero, List.set_cons_succ, i64_w, i32_w]
                rfl
              refine one_ (i := 11) (N := some 64) #[true, true, true, true, true, true, true, true, true, true, true, true, false, false, false] rfl rfl (by kernel_rfl) (by decide) (fun K hK => ?_)
              refine slice_step (n := 2) (by rfl) (N := 64) rfl (cs := #[.int .i64 t715, .int .i64 t721]) (t := 3) ?hr ?_
              case hr => first | (go_simp; done) | (go_simp; rfl)
              intro g748 hg w749 hbox hb
              replace HS : Aside0 (Sep (fps []) w [b1 g331 a327 a328 a329 a330, b3 g334 0 0 0 0 0 0 0 0, b3 g491 t488 (wrap64 (a328 - 8)) (wrap64 ((wrap64 (a328 - 8)) + 1)) t657 t684 t668 0 0, b4 g738 2 t709, b4 g743 2 (wrap64 ((wrap64 (a328 - 8)) + 1)), b4 g748 t715 t721] w749) := ⟨HS.out.box hg hbox hb⟩
              clear hg hbox hb
              refine hK.out _ _ (⟨blk_cellv (HS.out.at2) 4 rfl, blk_cellv (HS.out.at0) 3 rfl, blk_cellv (HS.out.at2) 2 rfl⟩) (fun hHeld => ?_)
              clear hK K
              refine norm_ (a' := ?_) ?_ ?_
              rotate_left
              · show Act.put _ (some 64) _ = _
                simp only [Act.put, List.setIfInBounds_toArray, List.set_cons_zero, List.set_cons_succ, i64_w, i32_w]
                rfl
              refine one_ (i := 12) (N := some 65) #[true, true, true, true, true, true, true, true, true, true, true, true, true, false, false] rfl rfl (by kernel_rfl) (by decide) (fun K hK => ?_)
              refine goes_ Try.func106 (by kernel_rfl) rfl #[.slice (some ⟨g748, 0, none⟩) 2 2] (by rfl) rfl rfl (by (try simp only [List.map_toArray, List.map_cons, List.map_nil]); first | done | rfl) ?_
              refine (ratio_Add.calls _ [t715, t721] (some ⟨g748, 0, none⟩) 2 t727 _ ⟨Rd.lit (l := []) (rest := [b1 g331 a327 a328 a329 a330, b3 g334 0 0 0 0 0 0 0 0, b3 g491 t488 (wrap64 (a328 - 8)) (wrap64 ((wrap64 (a328 - 8)) + 1)) t657 t684 t668 0 0, b4 g738 2 t709, b4 g743 2 (wrap64 ((wrap64 (a328 - 8)) + 1)), b4 g748 t715 t721]) (xs := [t715, t721]) HS.out 5 rfl (by simp)⟩ ⟨HS.out.begin (l := []) (rest := [b1 g331 a327 a328 a329 a330, b3 g334 0 0 0 0 0 0 0 0, b3 g491 t488 (wrap64 (a328 - 8)) (wrap64 ((wrap64 (a328 - 8)) + 1)) t657 t684 t668 0 0, b4 g738 2 t709, b4 g743 2 (wrap64 ((wrap64 (a328 - 8)) + 1)), b4 g748 t715 t721])⟩ HA728).mono ?_
              rintro e_ w752 ⟨rfl, hS⟩
              replace HS : Aside0 (Sep (fps []) w [b1 g331 a327 a328 a329 a330, b3 g334 0 0 0 0 0 0 0 0, b3 g491 t488 (wrap64 (a328 - 8)) (wrap64 ((wrap64 (a328 - 8)) + 1)) t657 t684 t668 0 0, b4 g738 2 t709, b4 g743 2 (wrap64 ((wrap64 (a328 - 8)) + 1)), b4 g748 t715 t721] w752) := ⟨HS.out.call (l := []) (rest := [b1 g331 a327 a328 a329 a330, b3 g334 0 0 0 0 0 0 0 0, b3 g491 t488 (wrap64 (a328 - 8)) (wrap64 ((wrap64 (a328 - 8)) + 1)) t657 t684 t668 0 0, b4 g738 2 t709, b4 g743 2 (wrap64 ((wrap64 (a328 - 8)) + 1)), b4 g748 t715 t721]) hS⟩
              clear hS
              refine ⟨_, rfl, ?_⟩
              refine hK.out _ _ (⟨blk_cellv (HS.out.at2) 4 rfl, blk_cellv (HS.out.at0) 3 rfl, blk_cellv (HS.out.at2) 2 rfl⟩) (fun hHeld => ?_)
              clear hK K
              refine norm_ (a' := ?_) ?_ ?_
              rotate_left
              · show Act.put _ (some 65) _ = _
                simp only [Act.put, List.setIfInBounds_toArray, List.set_cons_zero, List.set_cons_succ, i64_w, i32_w]
                rfl
              refine pure_ (i := 13) (N := some 66) (v := ?_) (a' := ?_) #[true, true, true, true, true, true, true, true, true, true, true, true, true, true, false] rfl rfl (by kernel_rfl) (fun _ _ _ h => h) (Or.inl ⟨by rfl, ?_⟩) ?_ ?_
              rotate_left
              · intro w'
                go_simp
                with_reducible rfl
              rotate_left
              · simp only [Act.put, List.setIfInBounds_toArray, List.set_cons_zero, List.set_cons_succ, i64_w, i32_w]
                rfl
              refine one_ (i := 14) (N := none) #[true, true, true, true, true, true, true, true, true, true, true, true, true, true, true] rfl rfl (by kernel_rfl) (by decide) (fun K hK => ?_)
              have hc754 := blk_cellv (v := .int .i64 0) (HS.out.at2) 6 rfl
              have hz755 := blk_fz (HS.out.at2) 6
              refine store_step (w1 := (World.setCell w752 ⟨g491, 6, none⟩ (.int .i64 t727))) (by rfl) rfl ?hr ?_
              case hr => first | (go_simp; done) | (go_simp; rfl)
              clear hc754 hz755
              intro w753 hst
              have hq0 : Sep (fps []) w [b1 g331 a327 a328 a329 a330, b3 g334 0 0 0 0 0 0 0 0, b3 g491 t488 (wrap64 (a328 - 8)) (wrap64 ((wrap64 (a328 - 8)) + 1)) t657 t684 t668 t727 0, b4 g738 2 t709, b4 g743 2 (wrap64 ((wrap64 (a328 - 8)) + 1)), b4 g748 t715 t721] (World.setCell w752 ⟨g491, 6, none⟩ (.int .i64 t727)) := (HS.out).set1 (l1 := [b1 g331 a327 a328 a329 a330, b3 g334 0 0 0 0 0 0 0 0]) (l2 := [b4 g738 2 t709, b4 g743 2 (wrap64 ((wrap64 (a328 - 8)) + 1)), b4 g748 t715 t721]) 6 (.int .i64 t727)
              have HS_ : Aside0 (Sep (fps []) w [b1 g331 a327 a328 a329 a330, b3 g334 0 0 0 0 0 0 0 0, b3 g491 t488 (wrap64 (a328 - 8)) (wrap64 ((wrap64 (a328 - 8)) + 1)) t657 t684 t668 t727 0, b4 g738 2 t709, b4 g743 2 (wrap64 ((wrap64 (a328 - 8)) + 1)), b4 g748 t715 t721] w753) := ⟨by rw [hst]; exact hq0⟩
              clear hq0
              clear HS hst
              have HS := HS_
              clear HS_
              refine hK.out _ _ (⟨blk_cellv (HS.out.at2) 4 rfl, blk_cellv (HS.out.at0) 3 rfl, blk_cellv (HS.out.at2) 2 rfl⟩) (fun hHeld => ?_)
              clear hK K
              refine done_ (by kernel_rfl) ?_
              go_wp2_with fail
              go_meet
              case rel => exact ⟨g738, g743, g748, ⟨((((((HS.out).front 5 (by simp)).front 5 (by simp)).front 5 (by simp)).front 5 (by simp)).front 5 (by simp)).front 5 (by simp)⟩⟩
            · refine slice_step (n := 2) (by rfl) (N := 62) rfl (cs := #[.int .i64 2, .int .i64 (wrap64 ((wrap64 (a328 - 8)) + 1))]) (t := 3) ?hr ?_
              case hr => first | (go_simp; done) | (go_simp; rfl)
              intro g756 hg w757 hbox hb
              replace HS : Aside0 (Sep (fps []) w [b1 g331 a327 a328 a329 a330, b3 g334 0 0 0 0 0 0 0 0, b3 g491 t488 (wrap64 (a328 - 8)) (wrap64 ((wrap64 (a328 - 8)) + 1)) t657 t684 t668 0 0, b4 g738 2 t709, b4 g756 2 (wrap64 ((wrap64 (a328 - 8)) + 1))] w757) := ⟨HS.out.box hg hbox hb⟩
              clear hg hbox hb
              refine hK.out _ _ (⟨blk_cellv (HS.out.at2) 4 rfl, blk_cellv (HS.out.at0) 3 rfl, blk_cellv (HS.out.at2) 2 rfl⟩) (fun hHeld => ?_)
              clear hK K
              refine norm_ (a' := ?_) ?_ ?_
              rotate_left
              · show Act.put _ (some 62) _ = _
                simp only [Act.put, List.setIfInBounds_toArray, List.set_cons_zero, List.set_cons_succ, i64_w, i32_w]
                rfl
              refine one_ (i := 6) (N := some 59) #[true, true, true, true, true, true, true, true, true, true, false, false, false, false, false] rfl rfl (by kernel_rfl) (by decide) (fun K hK => ?_)
              refine goes_ Try.func107 (by kernel_rfl) rfl #[.slice (some ⟨g738, 0, none⟩) 2 2] (by rfl) rfl rfl (by (try simp only [List.map_toArray, List.map_cons, List.map_nil]); first | done | rfl) ?_
              refine (ratio_Mul.calls _ [2, t709] (some ⟨g738, 0, none⟩) 2 t715 _ ⟨Rd.lit (l := []) (rest := [b1 g331 a327 a328 a329 a330, b3 g334 0 0 0 0 0 0 0 0, b3 g491 t488 (wrap64 (a328 - 8)) (wrap64 ((wrap64 (a328 - 8)) + 1)) t657 t684 t668 0 0, b4 g738 2 t709, b4 g756 2 (wrap64 ((wrap64 (a328 - 8)) + 1))]) (xs := [2, t709]) HS.out 3 rfl (by simp)⟩ ⟨HS.out.begin (l := []) (rest := [b1 g331 a327 a328 a329 a330, b3 g334 0 0 0 0 0 0 0 0, b3 g491 t488 (wrap64 (a328 - 8)) (wrap64 ((wrap64 (a328 - 8)) + 1)) t657 t684 t668 0 0, b4 g738 2 t709, b4 g756 2 (wrap64 ((wrap64 (a328 - 8)) + 1))])⟩ HA716).mono ?_
              rintro e_ w760 ⟨rfl, hS⟩
              replace HS : Aside0 (Sep (fps []) w [b1 g331 a327 a328 a329 a330, b3 g334 0 0 0 0 0 0 0 0, b3 g491 t488 (wrap64 (a328 - 8)) (wrap64 ((wrap64 (a328 - 8)) + 1)) t657 t684 t668 0 0, b4 g738 2 t709, b4 g756 2 (wrap64 ((wrap64 (a328 - 8)) + 1))] w760) := ⟨HS.out.call (l := []) (rest := [b1 g331 a327 a328 a329 a330, b3 g334 0 0 0 0 0 0 0 0, b3 g491 t488 (wrap64 (a328 - 8)) (wrap64 ((wrap64 (a328 - 8)) + 1)) t657 t684 t668 0 0, b4 g738 2 t709, b4 g756 2 (wrap64 ((wrap64 (a328 - 8)) + 1))]) hS⟩
              clear hS
              refine ⟨_, rfl, ?_⟩
              refine hK.out _ _ (⟨blk_cellv (HS.out.at2) 4 rfl, blk_cellv (HS.out.at0) 3 rfl, blk_cellv (HS.out.at2) 2 rfl⟩) (fun hHeld => ?_)
              clear hK K
              refine norm_ (a' := ?_) ?_ ?_
              rotate_left
              · show Act.put _ (some 59) _ = _
                simp only [Act.put, List.setIfInBounds_toArray, List.set_cons_zero, List.set_cons_succ, i64_w, i32_w]
                rfl
              refine one_ (i := 10) (N := some 63) #[true, true, true, true, true, true, true, true, true, true, true, false, false, false, false] rfl rfl (by kernel_rfl) (by decide) (fun K hK => ?_)
              refine goes_ Try.func107 (by kernel_rfl) rfl #[.slice (some ⟨g756, 0, none⟩) 2 2] (by rfl) rfl rfl (by (try simp only [List.map_toArray, List.map_cons, List.map_nil]); first | done | rfl) ?_
              refine (ratio_Mul.calls _ [2, wrap64 ((wrap64 (a328 - 8)) + 1)] (some ⟨g756, 0, none⟩) 2 t721 _ ⟨Rd.lit (l := []) (rest := [b1 g331 a327 a328 a329 a330, b3 g334 0 0 0 0 0 0 0 0, b3 g491 t488 (wrap64 (a328 - 8)) (wrap64 ((wrap64 (a328 - 8)) + 1)) t657 t684 t668 0 0, b4 g738 2 t709, b4 g756 2 (wrap64 ((wrap64 (a328 - 8)) + 1))]) (xs := [2, wrap64 ((wrap64 (a328 - 8)) + 1)]) HS.out 4 rfl (by simp)⟩ ⟨HS.out.begin (l := []) (rest := [b1 g331 a327 a328 a329 a330, b3 g334 0 0 0 0 0 0 0 0, b3 g491 t488 (wrap64 (a328 - 8)) (wrap64 ((wrap64 (a328 - 8)) + 1)) t657 t684 t668 0 0, b4 g738 2 t709, b4 g756 2 (wrap64 ((wrap64 (a328 - 8)) + 1))])⟩ HA722).mono ?_
              rintro e_ w762 ⟨rfl, hS⟩
              replace HS : Aside0 (Sep (fps []) w [b1 g331 a327 a328 a329 a330, b3 g334 0 0 0 0 0 0 0 0, b3 g491 t488 (wrap64 (a328 - 8)) (wrap64 ((wrap64 (a328 - 8)) + 1)) t657 t684 t668 0 0, b4 g738 2 t709, b4 g756 2 (wrap64 ((wrap64 (a328 - 8)) + 1))] w762) := ⟨HS.out.call (l := []) (rest := [b1 g331 a327 a328 a329 a330, b3 g334 0 0 0 0 0 0 0 0, b3 g491 t488 (wrap64 (a328 - 8)) (wrap64 ((wrap64 (a328 - 8)) + 1)) t657 t684 t668 0 0, b4 g738 2 t709, b4 g756 2 (wrap64 ((wrap64 (a328 - 8)) + 1))]) hS⟩
              clear hS
              refine ⟨_, rfl, ?_⟩
              refine hK.out _ _ (⟨blk_cellv (HS.out.at2) 4 rfl, blk_cellv (HS.out.at0) 3 rfl, blk_cellv (HS.out.at2) 2 rfl⟩) (fun hHeld => ?_)
              clear hK K
              refine norm_ (a' := ?_) ?_ ?_
              rotate_left
              · show Act.put _ (some 63) _ = _
                simp only [Act.put, List.setIfInBounds_toArray, List.set_cons_zero, List.set_cons_succ, i64_w, i32_w]
                rfl
              refine one_ (i := 11) (N := some 64) #[true, true, true, true, true, true, true, true, true, true, true, true, false, false, false] rfl rfl (by kernel_rfl) (by decide) (fun K hK => ?_)
              refine slice_step (n := 2) (by rfl) (N := 64) rfl (cs := #[.int .i64 t715, .int .i64 t721]) (t := 3) ?hr ?_
              case hr => first | (go_simp; done) | (go_simp; rfl)
              intro g763 hg w764 hbox hb
              replace HS : Aside0 (Sep (fps []) w [b1 g331 a327 a328 a329 a330, b3 g334 0 0 0 0 0 0 0 0, b3 g491 t488 (wrap64 (a328 - 8)) (wrap64 ((wrap64 (a328 - 8)) + 1)) t657 t684 t668 0 0, b4 g738 2 t709, b4 g756 2 (wrap64 ((wrap64 (a328 - 8)) + 1)), b4 g763 t715 t721] w764) := ⟨HS.out.box hg hbox hb⟩
              clear hg hbox hb
              refine hK.out _ _ (⟨blk_cellv (HS.out.at2) 4 rfl, blk_cellv (HS.out.at0) 3 rfl, blk_cellv (HS.out.at2) 2 rfl⟩) (fun hHeld => ?_)
              clear hK K
              refine norm_ (a' := ?_) ?_ ?_
              rotate_left
              · show Act.put _ (some 64) _ = _
                simp only [Act.put, List.setIfInBounds_toArray, List.set_cons_zero, List.set_cons_succ, i64_w, i32_w]
                rfl
              refine one_ (i := 12) (N := some 65) #[true, true, true, true, true, true, true, true, true, true, true, true, true, false, false] rfl rfl (by kernel_rfl) (by decide) (fun K hK => ?_)
              refine goes_ Try.func106 (by kernel_rfl) rfl #[.slice (some ⟨g763, 0, none⟩) 2 2] (by rfl) rfl rfl (by (try simp only [List.map_toArray, List.map_cons, List.map_nil]); first | done | rfl) ?_
              refine (ratio_Add.calls _ [t715, t721] (some ⟨g763, 0, none⟩) 2 t727 _ ⟨Rd.lit (l := []) (rest := [b1 g331 a327 a328 a329 a330, b3 g334 0 0 0 0 0 0 0 0, b3 g491 t488 (wrap64 (a328 - 8)) (wrap64 ((wrap64 (a328 - 8)) + 1)) t657 t684 t668 0 0, b4 g738 2 t709, b4 g756 2 (wrap64 ((wrap64 (a328 - 8)) + 1)), b4 g763 t715 t721]) (xs := [t715, t721]) HS.out 5 rfl (by simp)⟩ ⟨HS.out.begin (l := []) (rest := [b1 g331 a327 a328 a329 a330, b3 g334 0 0 0 0 0 0 0 0, b3 g491 t488 (wrap64 (a328 - 8)) (wrap64 ((wrap64 (a328 - 8)) + 1)) t657 t684 t668 0 0, b4 g738 2 t709, b4 g756 2 (wrap64 ((wrap64 (a328 - 8)) + 1)), b4 g763 t715 t721])⟩ HA728).mono ?_
              rintro e_ w767 ⟨rfl, hS⟩
              replace HS : Aside0 (Sep (fps []) w [b1 g331 a327 a328 a329 a330, b3 g334 0 0 0 0 0 0 0 0, b3 g491 t488 (wrap64 (a328 - 8)) (wrap64 ((wrap64 (a328 - 8)) + 1)) t657 t684 t668 0 0, b4 g738 2 t709, b4 g756 2 (wrap64 ((wrap64 (a328 - 8)) + 1)), b4 g763 t715 t721] w767) := ⟨HS.out.call (l := []) (rest := [b1 g331 a327 a328 a329 a330, b3 g334 0 0 0 0 0 0 0 0, b3 g491 t488 (wrap64 (a328 - 8)) (wrap64 ((wrap64 (a328 - 8)) + 1)) t657 t684 t668 0 0, b4 g738 2 t709, b4 g756 2 (wrap64 ((wrap64 (a328 - 8)) + 1)), b4 g763 t715 t721]) hS⟩
              clear hS
              refine ⟨_, rfl, ?_⟩
              refine hK.out _ _ (⟨blk_cellv (HS.out.at2) 4 rfl, blk_cellv (HS.out.at0) 3 rfl, blk_cellv (HS.out.at2) 2 rfl⟩) (fun hHeld => ?_)
              clear hK K
              refine norm_ (a' := ?_) ?_ ?_
              rotate_left
              · show Act.put _ (some 65) _ = _
                simp only [Act.put, List.setIfInBounds_toArray, List.set_cons_zero, List.set_cons_succ, i64_w, i32_w]
                rfl
              refine pure_ (i := 13) (N := some 66) (v := ?_) (a' := ?_) #[true, true, true, true, true, true, true, true, true, true, true, true, true, true, false] rfl rfl (by kernel_rfl) (fun _ _ _ h => h) (Or.inl ⟨by rfl, ?_⟩) ?_ ?_
              rotate_left
              · intro w'
                go_simp
                with_reducible rfl
              rotate_left
              · simp only [Act.put, List.setIfInBounds_toArray, List.set_cons_zero, List.set_cons_succ, i64_w, i32_w]
                rfl
              refine one_ (i := 14) (N := none) #[true, true, true, true, true, true, true, true, true, true, true, true, true, true, true] rfl rfl (by kernel_rfl) (by decide) (fun K hK => ?_)
              have hc769 := blk_cellv (v := .int .i64 0) (HS.out.at2) 6 rfl
              have hz770 := blk_fz (HS.out.at2) 6
              refine store_step (w1 := (World.setCell w767 ⟨g491, 6, none⟩ (.int .i64 t727))) (by rfl) rfl ?hr ?_
              case hr => first | (go_simp; done) | (go_simp; rfl)
              clear hc769 hz770
              intro w768 hst
              have hq0 : Sep (fps []) w [b1 g331 a327 a328 a329 a330, b3 g334 0 0 0 0 0 0 0 0, b3 g491 t488 (wrap64 (a328 - 8)) (wrap64 ((wrap64 (a328 - 8)) + 1)) t657 t684 t668 t727 0, b4 g738 2 t709, b4 g756 2 (wrap64 ((wrap64 (a328 - 8)) + 1)), b4 g763 t715 t721] (World.setCell w767 ⟨g491, 6, none⟩ (.int .i64 t727)) := (HS.out).set1 (l1 := [b1 g331 a327 a328 a329 a330, b3 g334 0 0 0 0 0 0 0 0]) (l2 := [b4 g738 2 t709, b4 g756 2 (wrap64 ((wrap64 (a328 - 8)) + 1)), b4 g763 t715 t721]) 6 (.int .i64 t727)
              have HS_ : Aside0 (Sep (fps []) w [b1 g331 a327 a328 a329 a330, b3 g334 0 0 0 0 0 0 0 0, b3 g491 t488 (wrap64 (a328 - 8)) (wrap64 ((wrap64 (a328 - 8)) + 1)) t657 t684 t668 t727 0, b4 g738 2 t709, b4 g756 2 (wrap64 ((wrap64 (a328 - 8)) + 1)), b4 g763 t715 t721] w768) := ⟨by rw [hst]; exact hq0⟩
              clear hq0
              clear HS hst
              have HS := HS_
              clear HS_
              refine hK.out _ _ (⟨blk_cellv (HS.out.at2) 4 rfl, blk_cellv (HS.out.at0) 3 rfl, blk_cellv (HS.out.at2) 2 rfl⟩) (fun hHeld => ?_)
              clear hK K
              refine done_ (by kernel_rfl) ?_
              go_wp2_with fail
              go_meet
              case rel => exact ⟨g738, g756, g763, ⟨((((((HS.out).front 5 (by simp)).front 5 (by simp)).front 5 (by simp)).front 5 (by simp)).front 5 (by simp)).front 5 (by simp)⟩⟩
          · refine slice_step (n := 2) (by rfl) (N := 62) rfl (cs := #[.int .i64 2, .int .i64 (wrap64 ((wrap64 (a328 - 8)) + 1))]) (t := 3) ?hr ?_
            case hr => first | (go_simp; done) | (go_simp; rfl)
            intro g771 hg w772 hbox hb
            replace HS : Aside0 (Sep (fps []) w [b1 g331 a327 a328 a329 a330, b3 g334 0 0 0 0 0 0 0 0, b3 g491 t488 (wrap64 (a328 - 8)) (wrap64 ((wrap64 (a328 - 8)) + 1)) t657 t684 t668 0 0, b4 g771 2 (wrap64 ((wrap64 (a328 - 8)) + 1))] w772) := ⟨HS.out.box hg hbox hb⟩
            clear hg hbox hb
            refine hK.out _ _ (⟨blk_cellv (HS.out.at2) 4 rfl, blk_cellv (HS.out.at0) 3 rfl, blk_cellv (HS.out.at2) 2 rfl⟩) (fun hHeld => ?_)
            clear hK K
            refine norm_ (a' := ?_) ?_ ?_
            rotate_left
            · show Act.put _ (some 62) _ = _
              simp only [Act.put, List.setIfInBounds_toArray, List.set_cons_zero, List.set_cons_succ, i64_w, i32_w]
              rfl
            refine one_ (i := 5) (N := some 58) #[true, true, true, true, true, true, false, true, true, true, false, false, false, false, false] rfl rfl (by kernel_rfl) (by decide) (fun K hK => ?_)
            refine slice_step (n := 2) (by rfl) (N := 58) rfl (cs := #[.int .i64 2, .int .i64 t709]) (t := 3) ?hr ?_
            case hr => first | (go_simp; done) | (go_simp; rfl)
            intro g774 hg w775 hbox hb
            replace HS : Aside0 (Sep (fps []) w [b1 g331 a327 a328 a329 a330, b3 g334 0 0 0 0 0 0 0 0, b3 g491 t488 (wrap64 (a328 - 8)) (wrap64 ((wrap64 (a328 - 8)) + 1)) t657 t684 t668 0 0, b4 g771 2 (wrap64 ((wrap64 (a328 - 8)) + 1)), b4 g774 2 t709] w775) := ⟨HS.out.box hg hbox hb⟩
            clear hg hbox hb
            refine hK.out _ _ (⟨blk_cellv (HS.out.at2) 4 rfl, blk_cellv (HS.out.at0) 3 rfl, blk_cellv (HS.out.at2) 2 rfl⟩) (fun hHeld => ?_)
            clear hK K
            refine norm_ (a' := ?_) ?_ ?_
            rotate_left
            · show Act.put _ (some 58) _ = _
              simp only [Act.put, List.setIfInBounds_toArray, List.set_cons_zero, List.set_cons_succ, i64_w, i32_w]
              rfl
            refine one_ (i := 6) (N := some 59) #[true, true, true, true, true, true, true, true, true, true, false, false, false, false, false] rfl rfl (by kernel_rfl) (by decide) (fun K hK => ?_)
            refine goes_ Try.func107 (by kernel_rfl) rfl #[.slice (some ⟨g774, 0, none⟩) 2 2] (by rfl) rfl rfl (by (try simp only [List.map_toArray, List.map_cons, List.map_nil]); first | done | rfl) ?_
            refine (ratio_Mul.calls _ [2, t709] (some ⟨g774, 0, none⟩) 2 t715 _ ⟨Rd.lit (l := []) (rest := [b1 g331 a327 a328 a329 a330, b3 g334 0 0 0 0 0 0 0 0, b3 g491 t488 (wrap64 (a328 - 8)) (wrap64 ((wrap64 (a328 - 8)) + 1)) t657 t684 t668 0 0, b4 g771 2 (wrap64 ((wrap64 (a328 - 8)) + 1)), b4 g774 2 t709]) (xs := [2, t709]) HS.out 4 rfl (by simp)⟩ ⟨HS.out.begin (l := []) (rest := [b1 g331 a327 a328 a329 a330, b3 g334 0 0 0 0 0 0 0 0, b3 g491 t488 (wrap64 (a328 - 8)) (wrap64 ((wrap64 (a328 - 8)) + 1)) t657 t684 t668 0 0, b4 g771 2 (wrap64 ((wrap64 (a328 - 8)) + 1)), b4 g774 2 t709])⟩ HA716).mono ?_
            rintro e_ w778 ⟨rfl, hS⟩
            replace HS : Aside0 (Sep (fps []) w [b1 g331 a327 a328 a329 a330, b3 g334 0 0 0 0 0 0 0 0, b3 g491 t488 (wrap64 (a328 - 8)) (wrap64 ((wrap64 (a328 - 8)) + 1)) t657 t684 t668 0 0, b4 g771 2 (wrap64 ((wrap64 (a328 - 8)) + 1)), b4 g774 2 t709] w778) := ⟨HS.out.call (l := []) (rest := [b1 g331 a327 a328 a329 a330, b3 g334 0 0 0 0 0 0 0 0, b3 g491 t488 (wrap64 (a328 - 8)) (wrap64 ((wrap64 (a328 - 8)) + 1)) t657 t684 t668 0 0, b4 g771 2 (wrap64 ((wrap64 (a328 - 8)) + 1)), b4 g774 2 t709]) hS⟩
            clear hS
            refine ⟨_, rfl, ?_⟩
            refine hK.out _ _ (⟨blk_cellv (HS.out.at2) 4 rfl, blk_cellv (HS.out.at0) 3 rfl, blk_cellv (HS.out.at2) 2 rfl⟩) (fun hHeld => ?_)
            clear hK K
            refine norm_ (a' := ?_) ?_ ?_
            rotate_left
            · show Act.put _ (some 59) _ = _
              simp only [Act.put, List.setIfInBounds_toArray, List.set_cons_zero, List.set_cons_succ, i64_w, i32_w]
              rfl
            refine one_ (i := 10) (N := some 63) #[true, true, true, true, true, true, true, true, true, true, true, false, false, false, false] rfl rfl (by kernel_rfl) (by decide) (fun K hK => ?_)
            refine goes_ Try.func107 (by kernel_rfl) rfl #[.slice (some ⟨g771, 0, none⟩) 2 2] (by rfl) rfl rfl (by (try simp only [List.map_toArray, List.map_cons, List.map_nil]); first | done | rfl) ?_
            refine (ratio_Mul.calls _ [2, wrap64 ((wrap64 (a328 - 8)) + 1)] (some ⟨g771, 0, none⟩) 2 t721 _ ⟨Rd.lit (l := []) (rest := [b1 g331 a327 a328 a329 a330, b3 g334 0 0 0 0 0 0 0 0, b3 g491 t488 (wrap64 (a328 - 8)) (wrap64 ((wrap64 (a328 - 8)) + 1)) t657 t684 t668 0 0, b4 g771 2 (wrap64 ((wrap64 (a328 - 8)) + 1)), b4 g774 2 t709]) (xs := [2, wrap64 ((wrap64 (a328 - 8)) + 1)]) HS.out 3 rfl (by simp)⟩ ⟨HS.out.begin (l := []) (rest := [b1 g331 a327 a328 a329 a330, b3 g334 0 0 0 0 0 0 0 0, b3 g491 t488 (wrap64 (a328 - 8)) (wrap64 ((wrap64 (a328 - 8)) + 1)) t657 t684 t668 0 0, b4 g771 2 (wrap64 ((wrap64 (a328 - 8)) + 1)), b4 g774 2 t709])⟩ HA722).mono ?_
            rintro e_ w780 ⟨rfl, hS⟩
            replace HS : Aside0 (Sep (fps []) w [b1 g331 a327 a328 a329 a330, b3 g334 0 0 0 0 0 0 0 0, b3 g491 t488 (wrap64 (a328 - 8)) (wrap64 ((wrap64 (a328 - 8)) + 1)) t657 t684 t668 0 0, b4 g771 2 (wrap64 ((wrap64 (a328 - 8)) + 1)), b4 g774 2 t709] w780) := ⟨HS.out.call (l := []) (rest := [b1 g331 a327 a328 a329 a330, b3 g334 0 0 0 0 0 0 0 0, b3 g491 t488 (wrap64 (a328 - 8)) (wrap64 ((wrap64 (a328 - 8)) + 1)) t657 t684 t668 0 0, b4 g771 2 (wrap64 ((wrap64 (a328 - 8)) + 1)), b4 g774 2 t709]) hS⟩
            clear hS
            refine ⟨_, rfl, ?_⟩
            refine hK.out _ _ (⟨blk_cellv (HS.out.at2) 4 rfl, blk_cellv (HS.out.at0) 3 rfl, blk_cellv (HS.out.at2) 2 rfl⟩) (fun hHeld => ?_)
            clear hK K
            refine norm_ (a' := ?_) ?_ ?_
            rotate_left
            · show Act.put _ (some 63) _ = _
              simp only [Act.put, List.setIfInBounds_toArray, List.set_cons_zero, List.set_cons_succ, i64_w, i32_w]
              rfl
            refine one_ (i := 11) (N := some 64) #[true, true, true, true, true, true, true, true, true, true, true, true, false, false, false] rfl rfl (by kernel_rfl) (by decide) (fun K hK => ?_)
            refine slice_step (n := 2) (by rfl) (N := 64) rfl (cs := #[.int .i64 t715, .int .i64 t721]) (t := 3) ?hr ?_
            case hr => first | (go_simp; done) | (go_simp; rfl)
            intro g781 hg w782 hbox hb
            replace HS : Aside0 (Sep (fps []) w [b1 g331 a327 a328 a329 a330, b3 g334 0 0 0 0 0 0 0 0, b3 g491 t488 (wrap64 (a328 - 8)) (wrap64 ((wrap64 (a328 - 8)) + 1)) t657 t684 t668 0 0, b4 g771 2 (wrap64 ((wrap64 (a328 - 8)) + 1)), b4 g774 2 t709, b4 g781 t715 t721] w782) := ⟨HS.out.box hg hbox hb⟩
            clear hg hbox hb
            refine hK.out _ _ (⟨blk_cellv (HS.out.at2) 4 rfl, blk_cellv (HS.out.at0) 3 rfl, blk_cellv (HS.out.at2) 2 rfl⟩) (fun hHeld => ?_)
            clear hK K
            refine norm_ (a' := ?_) ?_ ?_
            rotate_left
            · show Act.put _ (some 64) _ = _
              simp only [Act.put, List.setIfInBounds_toArray, List.set_cons_zero, List.set_cons_succ, i64_w, i32_w]
              rfl
            refine one_ (i := 12) (N := some 65) #[true, true, true, true, true, true, true, true, true, true, true, true, true, false, false] rfl rfl (by kernel_rfl) (by decide) (fun K hK => ?_)
            refine goes_ Try.func106 (by kernel_rfl) rfl #[.slice (some ⟨g781, 0, none⟩) 2 2] (by rfl) rfl rfl (by (try simp only [List.map_toArray, List.map_cons, List.map_nil]); first | done | rfl) ?_
            refine (ratio_Add.calls _ [t715, t721] (some ⟨g781, 0, none⟩) 2 t727 _ ⟨Rd.lit (l := []) (rest := [b1 g331 a327 a328 a329 a330, b3 g334 0 0 0 0 0 0 0 0, b3 g491 t488 (wrap64 (a328 - 8)) (wrap64 ((wrap64 (a328 - 8)) + 1)) t657 t684 t668 0 0, b4 g771 2 (wrap64 ((wrap64 (a328 - 8)) + 1)), b4 g774 2 t709, b4 g781 t715 t721]) (xs := [t715, t721]) HS.out 5 rfl (by simp)⟩ ⟨HS.out.begin (l := []) (rest := [b1 g331 a327 a328 a329 a330, b3 g334 0 0 0 0 0 0 0 0, b3 g491 t488 (wrap64 (a328 - 8)) (wrap64 ((wrap64 (a328 - 8)) + 1)) t657 t684 t668 0 0, b4 g771 2 (wrap64 ((wrap64 (a328 - 8)) + 1)), b4 g774 2 t709, b4 g781 t715 t721])⟩ HA728).mono ?_
            rintro e_ w785 ⟨rfl, hS⟩
            replace HS : Aside0 (Sep (fps []) w [b1 g331 a327 a328 a329 a330, b3 g334 0 0 0 0 0 0 0 0, b3 g491 t488 (wrap64 (a328 - 8)) (wrap64 ((wrap64 (a328 - 8)) + 1)) t657 t684 t668 0 0, b4 g771 2 (wrap64 ((wrap64 (a328 - 8)) + 1)), b4 g774 2 t709, b4 g781 t715 t721] w785) := ⟨HS.out.call (l := []) (rest := [b1 g331 a327 a328 a329 a330, b3 g334 0 0 0 0 0 0 0 0, b3 g491 t488 (wrap64 (a328 - 8)) (wrap64 ((wrap64 (a328 - 8)) + 1)) t657 t684 t668 0 0, b4 g771 2 (wrap64 ((wrap64 (a328 - 8)) + 1)), b4 g774 2 t709, b4 g781 t715 t721]) hS⟩
            clear hS
            refine ⟨_, rfl, ?_⟩
            refine hK.out _ _ (⟨blk_cellv (HS.out.at2) 4 rfl, blk_cellv (HS.out.at0) 3 rfl, blk_cellv (HS.out.at2) 2 rfl⟩) (fun hHeld => ?_)
            clear hK K
            refine norm_ (a' := ?_) ?_ ?_
            rotate_left
            · show Act.put _ (some 65) _ = _
              simp only [Act.put, List.setIfInBounds_toArray, List.set_cons_zero, List.set_cons_succ, i64_w, i32_w]
              rfl
            refine pure_ (i := 13) (N := some 66) (v := ?_) (a' := ?_) #[true, true, true, true, true, true, true, true, true, true, true, true, true, true, false] rfl rfl (by kernel_rfl) (fun _ _ _ h => h) (Or.inl ⟨by rfl, ?_⟩) ?_ ?_
            rotate_left
            · intro w'
              go_simp
              with_reducible rfl
            rotate_left
            · simp only [Act.put, List.setIfInBounds_toArray, List.set_cons_zero, List.set_cons_succ, i64_w, i32_w]
              rfl
            refine one_ (i := 14) (N := none) #[true, true, true, true, true, true, true, true, true, true, true, true, true, true, true] rfl rfl (by kernel_rfl) (by decide) (fun K hK => ?_)
            have hc787 := blk_cellv (v := .int .i64 0) (HS.out.at2) 6 rfl
            have hz788 := blk_fz (HS.out.at2) 6
            refine store_step (w1 := (World.setCell w785 ⟨g491, 6, none⟩ (.int .i64 t727))) (by rfl) rfl ?hr ?_
            case hr => first | (go_simp; done) | (go_simp; rfl)
            clear hc787 hz788
            intro w786 hst
            have hq0 : Sep (fps []) w [b1 g331 a327 a328 a329 a330, b3 g334 0 0 0 0 0 0 0 0, b3 g491 t488 (wrap64 (a328 - 8)) (wrap64 ((wrap64 (a328 - 8)) + 1)) t657 t684 t668 t727 0, b4 g771 2 (wrap64 ((wrap64 (a328 - 8)) + 1)), b4 g774 2 t709, b4 g781 t715 t721] (World.setCell w785 ⟨g491, 6, none⟩ (.int .i64 t727)) := (HS.out).set1 (l1 := [b1 g331 a327 a328 a329 a330, b3 g334 0 0 0 0 0 0 0 0]) (l2 := [b4 g771 2 (wrap64 ((wrap64 (a328 - 8)) + 1)), b4 g774 2 t709, b4 g781 t715 t721]) 6 (.int .i64 t727)
            have HS_ : Aside0 (Sep (fps []) w [b1 g331 a327 a328 a329 a330, b3 g334 0 0 0 0 0 0 0 0, b3 g491 t488 (wrap64 (a328 - 8)) (wrap64 ((wrap64 (a328 - 8)) + 1)) t657 t684 t668 t727 0, b4 g771 2 (wrap64 ((wrap64 (a328 - 8)) + 1)), b4 g774 2 t709, b4 g781 t715 t721] w786) := ⟨by rw [hst]; exact hq0⟩
            clear hq0
            clear HS hst
            have HS := HS_
            clear HS_
            refine hK.out _ _ (⟨blk_cellv (HS.out.at2) 4 rfl, blk_cellv (HS.out.at0) 3 rfl, blk_cellv (HS.out.at2) 2 rfl⟩) (fun hHeld => ?_)
            clear hK K
            refine done_ (by kernel_rfl) ?_
            go_wp2_with fail
            go_meet
            case rel => exact ⟨g774, g771, g781, ⟨((((((HS.out).front 5 (by simp)).front 4 (by simp)).front 5 (by simp)).front 5 (by simp)).front 5 (by simp)).front 5 (by simp)⟩⟩
        · refine slice_step (n := 2) (by rfl) (N := 62) rfl (cs := #[.int .i64 2, .int .i64 (wrap64 ((wrap64 (a328 - 8)) + 1))]) (t := 3) ?hr ?_
          case hr => first | (go_simp; done) | (go_simp; rfl)
          intro g789 hg w790 hbox hb
          replace HS : Aside0 (Sep (fps []) w [b1 g331 a327 a328 a329 a330, b3 g334 0 0 0 0 0 0 0 0, b3 g491 t488 (wrap64 (a328 - 8)) (wrap64 ((wrap64 (a328 - 8)) + 1)) t657 t684 t668 0 0, b4 g789 2 (wrap64 ((wrap64 (a328 - 8)) + 1))] w790) := ⟨HS.out.box hg hbox hb⟩
          clear hg hbox hb
          refine hK.out _ _ (⟨blk_cellv (HS.out.at2) 4 rfl, blk_cellv (HS.out.at0) 3 rfl, blk_cellv (HS.out.at2) 2 rfl⟩) (fun hHeld => ?_)
          clear hK K
          refine norm_ (a' := ?_) ?_ ?_
          rotate_left
          · show Act.put _ (some 62) _ = _
            simp only [Act.put, List.setIfInBounds_toArray, List.set_cons_zero, List.set_cons_succ, i64_w, i32_w]
            rfl
          refine one_ (i := 4) (N := some 57) #[true, true, true, true, true, false, false, true, true, true, false, false, false, false, false] rfl rfl (by kernel_rfl) (by decide) (fun K hK => ?_)
          refine goes_ Try.func108 (by kernel_rfl) rfl #[.int .i64 t684, .int .i64 a330] (by rfl) rfl rfl (by (try simp only [List.map_toArray, List.map_cons, List.map_nil]); first | done | rfl) ?_
          refine (ratio_Up.calls t684 a330 t709 _ ⟨HS.out.begin (l := []) (rest := [b1 g331 a327 a328 a329 a330, b3 g334 0 0 0 0 0 0 0 0, b3 g491 t488 (wrap64 (a328 - 8)) (wrap64 ((wrap64 (a328 - 8)) + 1)) t657 t684 t668 0 0, b4 g789 2 (wrap64 ((wrap64 (a328 - 8)) + 1))])⟩ HA710).mono ?_
          rintro e_ w793 ⟨rfl, hS⟩
          replace HS : Aside0 (Sep (fps []) w [b1 g331 a327 a328 a329 a330, b3 g334 0 0 0 0 0 0 0 0, b3 g491 t488 (wrap64 (a328 - 8)) (wrap64 ((wrap64 (a328 - 8)) + 1)) t657 t684 t668 0 0, b4 g789 2 (wrap64 ((wrap64 (a328 - 8)) + 1))] w793) := ⟨HS.out.call (l := []) (rest := [b1 g331 a327 a328 a329 a330, b3 g334 0 0 0 0 0 0 0 0, b3 g491 t488 (wrap64 (a328 - 8)) (wrap64 ((wrap64 (a328 - 8)) + 1)) t657 t684 t668 0 0, b4 g789 2 (wrap64 ((wrap64 (a328 - 8)) + 1))]) hS⟩
          clear hS
          refine ⟨_, rfl, ?_⟩
          refine hK.out _ _ (⟨blk_cellv (HS.out.at2) 4 rfl, blk_cellv (HS.out.at0) 3 rfl, blk_cellv (HS.out.at2) 2 rfl⟩) (fun hHeld => ?_)
          clear hK K
          refine norm_ (a' := ?_) ?_ ?_
          rotate_left
          · show Act.put _ (some 57) _ = _
            simp only [Act.put, List.setIfInBounds_toArray, List.set_cons_zero, List.set_cons_succ, i64_w, i32_w]
            rfl
          refine one_ (i := 5) (N := some 58) #[true, true, true, true, true, true, false, true, true, true, false, false, false, false, false] rfl rfl (by kernel_rfl) (by decide) (fun K hK => ?_)
          refine slice_step (n := 2) (by rfl) (N := 58) rfl (cs := #[.int .i64 2, .int .i64 t709]) (t := 3) ?hr ?_
          case hr => first | (go_simp; done) | (go_simp; rfl)
          intro g794 hg w795 hbox hb
          replace HS : Aside0 (Sep (fps []) w [b1 g331 a327 a328 a329 a330, b3 g334 0 0 0 0 0 0 0 0, b3 g491 t488 (wrap64 (a328 - 8)) (wrap64 ((wrap64 (a328 - 8)) + 1)) t657 t684 t668 0 0, b4 g789 2 (wrap64 ((wrap64 (a328 - 8)) + 1)), b4 g794 2 t709] w795) := ⟨HS.out.box hg hbox hb⟩
          clear hg hbox hb
          refine hK.out _ _ (⟨blk_cellv (HS.out.at2) 4 rfl, blk_cellv (HS.out.at0) 3 rfl, blk_cellv (HS.out.at2) 2 rfl⟩) (fun hHeld => ?_)
          clear hK K
          refine norm_ (a' := ?_) ?_ ?_
          rotate_left
          · show Act.put _ (some 58) _ = _
            simp only [Act.put, List.setIfInBounds_toArray, List.set_cons_zero, List.set_cons_succ, i64_w, i32_w]
            rfl
          refine one_ (i := 6) (N := some 59) #[true, true, true, true, true, true, true, true, true, true, false, false, false, false, false] rfl rfl (by kernel_rfl) (by decide) (fun K hK => ?_)
          refine goes_ Try.func107 (by kernel_rfl) rfl #[.slice (some ⟨g794, 0, none⟩) 2 2] (by rfl) rfl rfl (by (try simp only [List.map_toArray, List.map_cons, List.map_nil]); first | done | rfl) ?_
          refine (ratio_Mul.calls _ [2, t709] (some ⟨g794, 0, none⟩) 2 t715 _ ⟨Rd.lit (l := []) (rest := [b1 g331 a327 a328 a329 a330, b3 g334 0 0 0 0 0 0 0 0, b3 g491 t488 (wrap64 (a328 - 8)) (wrap64 ((wrap64 (a328 - 8)) + 1)) t657 t684 t668 0 0, b4 g789 2 (wrap64 ((wrap64 (a328 - 8)) + 1)), b4 g794 2 t709]) (xs := [2, t709]) HS.out 4 rfl (by simp)⟩ ⟨HS.out.begin (l := []) (rest := [b1 g331 a327 a328 a329 a330, b3 g334 0 0 0 0 0 0 0 0, b3 g491 t488 (wrap64 (a328 - 8)) (wrap64 ((wrap64 (a328 - 8)) + 1)) t657 t684 t668 0 0, b4 g789 2 (wrap64 ((wrap64 (a328 - 8)) + 1)), b4 g794 2 t709])⟩ HA716).mono ?_
          rintro e_ w798 ⟨rfl, hS⟩
          replace HS : Aside0 (Sep (fps []) w [b1 g331 a327 a328 a329 a330, b3 g334 0 0 0 0 0 0 0 0, b3 g491 t488 (wrap64 (a328 - 8)) (wrap64 ((wrap64 (a328 - 8)) + 1)) t657 t684 t668 0 0, b4 g789 2 (wrap64 ((wrap64 (a328 - 8)) + 1)), b4 g794 2 t709] w798) := ⟨HS.out.call (l := []) (rest := [b1 g331 a327 a328 a329 a330, b3 g334 0 0 0 0 0 0 0 0, b3 g491 t488 (wrap64 (a328 - 8)) (wrap64 ((wrap64 (a328 - 8)) + 1)) t657 t684 t668 0 0, b4 g789 2 (wrap64 ((wrap64 (a328 - 8)) + 1)), b4 g794 2 t709]) hS⟩
          clear hS
          refine ⟨_, rfl, ?_⟩
          refine hK.out _ _ (⟨blk_cellv (HS.out.at2) 4 rfl, blk_cellv (HS.out.at0) 3 rfl, blk_cellv (HS.out.at2) 2 rfl⟩) (fun hHeld => ?_)
          clear hK K
          refine norm_ (a' := ?_) ?_ ?_
          rotate_left
          · show Act.put _ (some 59) _ = _
            simp only [Act.put, List.setIfInBounds_toArray, List.set_cons_zero, List.set_cons_succ, i64_w, i32_w]
            rfl
          refine one_ (i := 10) (N := some 63) #[true, true, true, true, true, true, true, true, true, true, true, false, false, false, false] rfl rfl (by kernel_rfl) (by decide) (fun K hK => ?_)
          refine goes_ Try.func107 (by kernel_rfl) rfl #[.slice (some ⟨g789, 0, none⟩) 2 2] (by rfl) rfl rfl (by (try simp only [List.map_toArray, List.map_cons, List.map_nil]); first | done | rfl) ?_
          refine (ratio_Mul.calls _ [2, wrap64 ((wrap64 (a328 - 8)) + 1)] (some ⟨g789, 0, none⟩) 2 t721 _ ⟨Rd.lit (l := []) (rest := [b1 g331 a327 a328 a329 a330, b3 g334 0 0 0 0 0 0 0 0, b3 g491 t488 (wrap64 (a328 - 8)) (wrap64 ((wrap64 (a328 - 8)) + 1)) t657 t684 t668 0 0, b4 g789 2 (wrap64 ((wrap64 (a328 - 8)) + 1)), b4 g794 2 t709]) (xs := [2, wrap64 ((wrap64 (a328 - 8)) + 1)]) HS.out 3 rfl (by simp)⟩ ⟨HS.out.begin (l := []) (rest := [b1 g331 a327 a328 a329 a330, b3 g334 0 0 0 0 0 0 0 0, b3 g491 t488 (wrap64 (a328 - 8)) (wrap64 ((wrap64 (a328 - 8)) + 1)) t657 t684 t668 0 0, b4 g789 2 (wrap64 ((wrap64 (a328 - 8)) + 1)), b4 g794 2 t709])⟩ HA722).mono ?_
          rintro e_ w800 ⟨rfl, hS⟩
          replace HS : Aside0 (Sep (fps []) w [b1 g331 a327 a328 a329 a330, b3 g334 0 0 0 0 0 0 0 0, b3 g491 t488 (wrap64 (a328 - 8)) (wrap64 ((wrap64 (a328 - 8)) + 1)) t657 t684 t668 0 0, b4 g789 2 (wrap64 ((wrap64 (a328 - 8)) + 1)), b4 g794 2 t709] w800) := ⟨HS.out.call (l := []) (rest := [b1 g331 a327 a328 a329 a330, b3 g334 0 0 0 0 0 0 0 0, b3 g491 t488 (wrap64 (a328 - 8)) (wrap64 ((wrap64 (a328 - 8)) + 1)) t657 t684 t668 0 0, b4 g789 2 (wrap64 ((wrap64 (a328 - 8)) + 1)), b4 g794 2 t709]) hS⟩
          clear hS
          refine ⟨_, rfl, ?_⟩
          refine hK.out _ _ (⟨blk_cellv (HS.out.at2) 4 rfl, blk_cellv (HS.out.at0) 3 rfl, blk_cellv (HS.out.at2) 2 rfl⟩) (fun hHeld => ?_)
          clear hK K
          refine norm_ (a' := ?_) ?_ ?_
          rotate_left
          · show Act.put _ (some 63) _ = _
            simp only [Act.put, List.setIfInBounds_toArray, List.set_cons_zero, List.set_cons_succ, i64_w, i32_w]
            rfl
          refine one_ (i := 11) (N := some 64) #[true, true, true, true, true, true, true, true, true, true, true, true, false, false, false] rfl rfl (by kernel_rfl) (by decide) (fun K hK => ?_)
          refine slice_step (n := 2) (by rfl) (N := 64) rfl (cs := #[.int .i64 t715, .int .i64 t721]) (t := 3) ?hr ?_
          case hr => first | (go_simp; done) | (go_simp; rfl)
          intro g801 hg w802 hbox hb
          replace HS : Aside0 (Sep (fps []) w [b1 g331 a327 a328 a329 a330, b3 g334 0 0 0 0 0 0 0 0, b3 g491 t488 (wrap64 (a328 - 8)) (wrap64 ((wrap64 (a328 - 8)) + 1)) t657 t684 t668 0 0, b4 g789 2 (wrap64 ((wrap64 (a328 - 8)) + 1)), b4 g794 2 t709, b4 g801 t715 t721] w802) := ⟨HS.out.box hg hbox hb⟩
          clear hg hbox hb
          refine hK.out _ _ (⟨blk_cellv (HS.out.at2) 4 rfl, blk_cellv (HS.out.at0) 3 rfl, blk_cellv (HS.out.at2) 2 rfl⟩) (fun hHeld => ?_)
          clear hK K
          refine norm_ (a' := ?_) ?_ ?_
          rotate_left
          · show Act.put _ (some 64) _ = _
            simp only [Act.put, List.setIfInBounds_toArray, List.set_cons_zero, List.set_cons_succ, i64_w, i32_w]
            rfl
          refine one_ (i := 12) (N := some 65) #[true, true, true, true, true, true, true, true, true, true, true, true, true, false, false] rfl rfl (by kernel_rfl) (by decide) (fun K hK => ?_)
          refine goes_ Try.func106 (by kernel_rfl) rfl #[.slice (some ⟨g801, 0, none⟩) 2 2] (by rfl) rfl rfl (by (try simp only [List.map_toArray, List.map_cons, List.map_nil]); first | done | rfl) ?_
          refine (ratio_Add.calls _ [t715, t721] (some ⟨g801, 0, none⟩) 2 t727 _ ⟨Rd.lit (l := []) (rest := [b1 g331 a327 a328 a329 a330, b3 g334 0 0 0 0 0 0 0 0, b3 g491 t488 (wrap64 (a328 - 8)) (wrap64 ((wrap64 (a328 - 8)) + 1)) t657 t684 t668 0 0, b4 g789 2 (wrap64 ((wrap64 (a328 - 8)) + 1)), b4 g794 2 t709, b4 g801 t715 t721]) (xs := [t715, t721]) HS.out 5 rfl (by simp)⟩ ⟨HS.out.begin (l := []) (rest := [b1 g331 a327 a328 a329 a330, b3 g334 0 0 0 0 0 0 0 0, b3 g491 t488 (wrap64 (a328 - 8)) (wrap64 ((wrap64 (a328 - 8)) + 1)) t657 t684 t668 0 0, b4 g789 2 (wrap64 ((wrap64 (a328 - 8)) + 1)), b4 g794 2 t709, b4 g801 t715 t721])⟩ HA728).mono ?_
          rintro e_ w805 ⟨rfl, hS⟩
          replace HS : Aside0 (Sep (fps []) w [b1 g331 a327 a328 a329 a330, b3 g334 0 0 0 0 0 0 0 0, b3 g491 t488 (wrap64 (a328 - 8)) (wrap64 ((wrap64 (a328 - 8)) + 1)) t657 t684 t668 0 0, b4 g789 2 (wrap64 ((wrap64 (a328 - 8)) + 1)), b4 g794 2 t709, b4 g801 t715 t721] w805) := ⟨HS.out.call (l := []) (rest := [b1 g331 a327 a328 a329 a330, b3 g334 0 0 0 0 0 0 0 0, b3 g491 t488 (wrap64 (a328 - 8)) (wrap64 ((wrap64 (a328 - 8)) + 1)) t657 t684 t668 0 0, b4 g789 2 (wrap64 ((wrap64 (a328 - 8)) + 1)), b4 g794 2 t709, b4 g801 t715 t721]) hS⟩
          clear hS
          refine ⟨_, rfl, ?_⟩
          refine hK.out _ _ (⟨blk_cellv (HS.out.at2) 4 rfl, blk_cellv (HS.out.at0) 3 rfl, blk_cellv (HS.out.at2) 2 rfl⟩) (fun hHeld => ?_)
          clear hK K
          refine norm_ (a' := ?_) ?_ ?_
          rotate_left
          · show Act.put _ (some 65) _ = _
            simp only [Act.put, List.setIfInBounds_toArray, List.set_cons_zero, List.set_cons_succ, i64_w, i32_w]
            rfl
          refine pure_ (i := 13) (N := some 66) (v := ?_) (a' := ?_) #[true, true, true, true, true, true, true, true, true, true, true, true, true, true, false] rfl rfl (by kernel_rfl) (fun _ _ _ h => h) (Or.inl ⟨by rfl, ?_⟩) ?_ ?_
          rotate_left
          · intro w'
            go_simp
            with_reducible rfl
          rotate_left
          · simp only [Act.put, List.setIfInBounds_toArray, List.set_cons_zero, List.set_cons_succ, i64_w, i32_w]
            rfl
          refine one_ (i := 14) (N := none) #[true, true, true, true, true, true, true, true, true, true, true, true, true, true, true] rfl rfl (by kernel_rfl) (by decide) (fun K hK => ?_)
          have hc807 := blk_cellv (v := .int .i64 0) (HS.out.at2) 6 rfl
          have hz808 := blk_fz (HS.out.at2) 6
          refine store_step (w1 := (World.setCell w805 ⟨g491, 6, none⟩ (.int .i64 t727))) (by rfl) rfl ?hr ?_
          case hr => first | (go_simp; done) | (go_simp; rfl)
          clear hc807 hz808
          intro w806 hst
          have hq0 : Sep (fps []) w [b1 g331 a327 a328 a329 a330, b3 g334 0 0 0 0 0 0 0 0, b3 g491 t488 (wrap64 (a328 - 8)) (wrap64 ((wrap64 (a328 - 8)) + 1)) t657 t684 t668 t727 0, b4 g789 2 (wrap64 ((wrap64 (a328 - 8)) + 1)), b4 g794 2 t709, b4 g801 t715 t721] (World.setCell w805 ⟨g491, 6, none⟩ (.int .i64 t727)) := (HS.out).set1 (l1 := [b1 g331 a327 a328 a329 a330, b3 g334 0 0 0 0 0 0 0 0]) (l2 := [b4 g789 2 (wrap64 ((wrap64 (a328 - 8)) + 1)), b4 g794 2 t709, b4 g801 t715 t721]) 6 (.int .i64 t727)
          have HS_ : Aside0 (Sep (fps []) w [b1 g331 a327 a328 a329 a330, b3 g334 0 0 0 0 0 0 0 0, b3 g491 t488 (wrap64 (a328 - 8)) (wrap64 ((wrap64 (a328 - 8)) + 1)) t657 t684 t668 t727 0, b4 g789 2 (wrap64 ((wrap64 (a328 - 8)) + 1)), b4 g794 2 t709, b4 g801 t715 t721] w806) := ⟨by rw [hst]; exact hq0⟩
          clear hq0
          clear HS hst
          have HS := HS_
          clear HS_
          refine hK.out _ _ (⟨blk_cellv (HS.out.at2) 4 rfl, blk_cellv (HS.out.at0) 3 rfl, blk_cellv (HS.out.at2) 2 rfl⟩) (fun hHeld => ?_)
          clear hK K
          refine done_ (by kernel_rfl) ?_
          go_wp2_with fail
          go_meet
          case rel => exact ⟨g794, g789, g801, ⟨((((((HS.out).front 5 (by simp)).front 4 (by simp)).front 5 (by simp)).front 5 (by simp)).front 5 (by simp)).front 5 (by simp)⟩⟩
      case rest =>
        clear HS
        obtain ⟨g712, g718, g724, HS⟩ := hcut
        obtain ⟨w733, rfl⟩ : ∃ x : World, x = wc := ⟨_, rfl⟩
        replace HS : Aside0 (Sep (fps []) w [b1 g331 a327 a328 a329 a330, b3 g334 0 0 0 0 0 0 0 0, b3 g491 t488 (wrap64 (a328 - 8)) (wrap64 ((wrap64 (a328 - 8)) + 1)) t657 t684 t668 t727 0] w733) := ⟨HS.out.sub (.cons_cons _ (.cons_cons _ (.cons_cons _ (.cons _ (.cons _ (.cons _ .slnil))))))⟩
        go_wp2_with fail
        refine start_ (n := 15) (S := (fun w' => w'.cell? ⟨g491, 4, none⟩ = some (.int .i64 t684) ∧ w'.cell? ⟨g491, 5, none⟩ = some (.int .i64 t668) ∧ w'.cell? ⟨g331, 3, none⟩ = some (.int .i64 a330))) (ds := []) #[false, false, false, false, false, false, false, false, false, false, false, false, false, false, false] (by kernel_rfl) rfl rfl (⟨blk_cellv ((HS.out.drew).at2) 4 rfl, blk_cellv ((HS.out.drew).at2) 5 rfl, blk_cellv ((HS.out.drew).at0) 3 rfl⟩) (fun hHeld => ?_)
        have HS_ := Aside0.mk HS.out.drew
        clear HS
        generalize World.drew _ = w810 at HS_ hHeld ⊢
        have HS := HS_
        clear HS_
        refine pure_ (i := 0) (N := some 67) (v := ?_) (a' := ?_) #[true, false, false, false, false, false, false, false, false, false, false, false, false, false, false] rfl rfl (by kernel_rfl) (fun _ _ _ h => h) (Or.inl ⟨by rfl, ?_⟩) ?_ ?_
        rotate_left
        · intro w'
          go_simp
          with_reducible rfl
        rotate_left
        · simp only [Act.put, List.setIfInBounds_toArray, List.set_cons_zero, List.set_cons_succ, i64_w, i32_w]
          rfl
        refine pure_ (i := 2) (N := some 69) (v := ?_) (a' := ?_) #[true, false, true, false, false, false, false, false, false, false, false, false, false, false, false] rfl rfl (by kernel_rfl) (fun _ _ _ h => h) (Or.inl ⟨by rfl, ?_⟩) ?_ ?_
        rotate_left
        · intro w'
          go_simp
          with_reducible rfl
        rotate_left
        · simp only [Act.put, List.setIfInBounds_toArray, List.set_cons_zero, List.set_cons_succ, i64_w, i32_w]
          rfl
        refine pure_ (i := 4) (N := some 71) (v := ?_) (a' := ?_) #[true, false, true, false, true, false, false, false, false, false, false, false, false, false, false] rfl rfl (by kernel_rfl) (fun _ _ _ h => h) (Or.inl ⟨by rfl, ?_⟩) ?_ ?_
        rotate_left
        · intro w'
          go_simp
          with_reducible rfl
        rotate_left
        · simp only [Act.put, List.setIfInBounds_toArray, List.set_cons_zero, List.set_cons_succ, i64_w, i32_w]
          rfl
        refine pure_ (i := 8) (N := some 75) (v := ?_) (a' := ?_) #[true, false, true, false, true, false, false, false, true, false, false, false, false, false, false] rfl rfl (by kernel_rfl) (fun _ _ _ h => h) (Or.inl ⟨by rfl, ?_⟩) ?_ ?_
        rotate_left
        · intro w'
          go_simp
          with_reducible rfl
        rotate_left
        · simp only [Act.put, List.setIfInBounds_toArray, List.set_cons_zero, List.set_cons_succ, i64_w, i32_w]
          rfl
        refine take_ (i := 1) (N := some 68) (v := ?_) (a' := ?_) #[true, true, true, false, true, false, false, false, true, false, false, false, false, false, false] rfl rfl (by kernel_rfl) (fun _ _ _ h => h) (Or.inl ⟨by rfl, ?_⟩) hHeld ?_ ?_
        rotate_left
        · rintro w' hS'
          obtain ⟨s0, s1, s2⟩ := hS'
          go_simp
          with_reducible rfl
        rotate_left
        · simp only [Act.put, List.setIfInBounds_toArray, List.set_cons_zero, List.set_cons_succ, i64_w, i32_w]
          rfl
        refine take_ (i := 3) (N := some 70) (v := ?_) (a' := ?_) #[true, true, true, true, true, false, false, false, true, false, false, false, false, false, false] rfl rfl (by kernel_rfl) (fun _ _ _ h => h) (Or.inl ⟨by rfl, ?_⟩) hHeld ?_ ?_
        rotate_left
        · rintro w' hS'
          obtain ⟨s0, s1, s2⟩ := hS'
          go_simp
          with_reducible rfl
        rotate_left
        · simp only [Act.put, List.setIfInBounds_toArray, List.set_cons_zero, List.set_cons_succ, i64_w, i32_w]
          rfl
        refine take_ (i := 5) (N := some 72) (v := ?_) (a' := ?_) #[true, true, true, true, true, true, false, false, true, false, false, false, false, false, false] rfl rfl (by kernel_rfl) (fun _ _ _ h => h) (Or.inl ⟨by rfl, ?_⟩) hHeld ?_ ?_
        rotate_left
        · rintro w' hS'
          obtain ⟨s0, s1, s2⟩ := hS'
          go_simp
          with_reducible rfl
        rotate_left
        · simp only [Act.put, List.setIfInBounds_toArray, List.set_cons_zero, List.set_cons_succ, i64_w, i32_w]
          rfl
        refine take_ (i := 9) (N := some 76) (v := ?_) (a' := ?_) #[true, true, true, true, true, true, false, false, true, true, false, false, false, false, false] rfl rfl (by kernel_rfl) (fun _ _ _ h => h) (Or.inl ⟨by rfl, ?_⟩) hHeld ?_ ?_
        rotate_left
        · rintro w' hS'
          obtain ⟨s0, s1, s2⟩ := hS'
          go_simp
          with_reducible rfl
        rotate_left
        · simp only [Act.put, List.setIfInBounds_toArray, List.set_cons_zero, List.set_cons_succ, i64_w, i32_w]
          rfl
        refine one_ (i := 6) (N := some 73) #[true, true, true, true, true, true, true, false, true, true, false, false, false, false, false] rfl rfl (by kernel_rfl) (by decide) (fun K hK => ?_)
        refine slice_step (n := 3) (by rfl) (N := 73) rfl (cs := #[.int .i64 t684, .int .i64 t684, .int .i64 t668]) (t := 3) ?hr ?_
        case hr => first | (go_simp; done) | (go_simp; rfl)
        intro g811 hg w812 hbox hb
        replace HS : Aside0 (Sep (fps []) w [b1 g331 a327 a328 a329 a330, b3 g334 0 0 0 0 0 0 0 0, b3 g491 t488 (wrap64 (a328 - 8)) (wrap64 ((wrap64 (a328 - 8)) + 1)) t657 t684 t668 t727 0, b5 g811 t684 t684 t668] w812) := ⟨HS.out.box hg hbox hb⟩
        clear hg hbox hb
        refine hK.out _ _ (⟨blk_cellv (HS.out.at2) 4 rfl, blk_cellv (HS.out.at2) 5 rfl, blk_cellv (HS.out.at0) 3 rfl⟩) (fun hHeld => ?_)
        clear hK K
        refine norm_ (a' := ?_) ?_ ?_
        rotate_left
        · show Act.put _ (some 73) _ = _
          simp only [Act.put, List.setIfInBounds_toArray, List.set_cons_zero, List.set_cons_succ, i64_w, i32_w]
          rfl
        refine one_ (i := 7) (N := some 74) #[true, true, true, true, true, true, true, true, true, true, false, false, false, false, false] rfl rfl (by kernel_rfl) (by decide) (fun K hK => ?_)
        obtain ⟨t814, HA815, H⟩ := bind_some H
        refine goes_ Try.func106 (by kernel_rfl) rfl #[.slice (some ⟨g811, 0, none⟩) 3 3] (by rfl) rfl rfl (by (try simp only [List.map_toArray, List.map_cons, List.map_nil]); first | done | rfl) ?_
        refine (ratio_Add.calls _ [t684, t684, t668] (some ⟨g811, 0, none⟩) 3 t814 _ ⟨Rd.lit (l := []) (rest := [b1 g331 a327 a328 a329 a330, b3 g334 0 0 0 0 0 0 0 0, b3 g491 t488 (wrap64 (a328 - 8)) (wrap64 ((wrap64 (a328 - 8)) + 1)) t657 t684 t668 t727 0, b5 g811 t684 t684 t668]) (xs := [t684, t684, t668]) HS.out 3 rfl (by simp)⟩ ⟨HS.out.begin (l := []) (rest := [b1 g331 a327 a328 a329 a330, b3 g334 0 0 0 0 0 0 0 0, b3 g491 t488 (wrap64 (a328 - 8)) (wrap64 ((wrap64 (a328 - 8)) + 1)) t657 t684 t668 t727 0, b5 g811 t684 t684 t668])⟩ HA815).mono ?_
        rintro e_ w816 ⟨rfl, hS⟩
        replace HS : Aside0 (Sep (fps []) w [b1 g331 a327 a328 a329 a330, b3 g334 0 0 0 0 0 0 0 0, b3 g491 t488 (wrap64 (a328 - 8)) (wrap64 ((wrap64 (a328 - 8)) + 1)) t657 t684 t668 t727 0, b5 g811 t684 t684 t668] w816) := ⟨HS.out.call (l := []) (rest := [b1 g331 a327 a328 a329 a330, b3 g334 0 0 0 0 0 0 0 0, b3 g491 t488 (wrap64 (a328 - 8)) (wrap64 ((wrap64 (a328 - 8)) + 1)) t657 t684 t668 t727 0, b5 g811 t684 t684 t668]) hS⟩
        clear hS
        refine ⟨_, rfl, ?_⟩
        refine hK.out _ _ (⟨blk_cellv (HS.out.at2) 4 rfl, blk_cellv (HS.out.at2) 5 rfl, blk_cellv (HS.out.at0) 3 rfl⟩) (fun hHeld => ?_)
        clear hK K
        refine norm_ (a' := ?_) ?_ ?_
        rotate_left
        · show Act.put _ (some 74) _ = _
          simp only [Act.put, List.setIfInBounds_toArray, List.set_cons_zero, List.set_cons_succ, i64_w, i32_w]
          rfl
        refine one_ (i := 10) (N := some 77) #[true, true, true, true, true, true, true, true, true, true, true, false, false, false, false] rfl rfl (by kernel_rfl) (by decide) (fun K hK => ?_)
        obtain ⟨t817, HA818, H⟩ := bind_some H
        refine goes_ Try.func108 (by kernel_rfl) rfl #[.int .i64 t814, .int .i64 a330] (by rfl) rfl rfl (by (try simp only [List.map_toArray, List.map_cons, List.map_nil]); first | done | rfl) ?_
        refine (ratio_Up.calls t814 a330 t817 _ ⟨HS.out.begin (l := []) (rest := [b1 g331 a327 a328 a329 a330, b3 g334 0 0 0 0 0 0 0 0, b3 g491 t488 (wrap64 (a328 - 8)) (wrap64 ((wrap64 (a328 - 8)) + 1)) t657 t684 t668 t727 0, b5 g811 t684 t684 t668])⟩ HA818).mono ?_
        rintro e_ w819 ⟨rfl, hS⟩
        replace HS : Aside0 (Sep (fps []) w [b1 g331 a327 a328 a329 a330, b3 g334 0 0 0 0 0 0 0 0, b3 g491 t488 (wrap64 (a328 - 8)) (wrap64 ((wrap64 (a328 - 8)) + 1)) t657 t684 t668 t727 0, b5 g811 t684 t684 t668] w819) := ⟨HS.out.call (l := []) (rest := [b1 g331 a327 a328 a329 a330, b3 g334 0 0 0 0 0 0 0 0, b3 g491 t488 (wrap64 (a328 - 8)) (wrap64 ((wrap64 (a328 - 8)) + 1)) t657 t684 t668 t727 0, b5 g811 t684 t684 t668]) hS⟩
        clear hS
        refine ⟨_, rfl, ?_⟩
        refine hK.out _ _ (⟨blk_cellv (HS.out.at2) 4 rfl, blk_cellv (HS.out.at2) 5 rfl, blk_cellv (HS.out.at0) 3 rfl⟩) (fun hHeld => ?_)
        clear hK K
        refine norm_ (a' := ?_) ?_ ?_
        rotate_left
        · show Act.put _ (some 77) _ = _
          simp only [Act.put, List.setIfInBounds_toArray, List.set_cons_zero, List.set_cons_succ, i64_w, i32_w]
          rfl
        refine one_ (i := 11) (N := some 78) #[true, true, true, true, true, true, true, true, true, true, true, true, false, false, false] rfl rfl (by kernel_rfl) (by decide) (fun K hK => ?_)
        refine slice_step (n := 2) (by rfl) (N := 78) rfl (cs := #[.int .i64 t817, .int .i64 2]) (t := 3) ?hr ?_
        case hr => first | (go_simp; done) | (go_simp; rfl)
        intro g820 hg w821 hbox hb
        replace HS : Aside0 (Sep (fps []) w [b1 g331 a327 a328 a329 a330, b3 g334 0 0 0 0 0 0 0 0, b3 g491 t488 (wrap64 (a328 - 8)) (wrap64 ((wrap64 (a328 - 8)) + 1)) t657 t684 t668 t727 0, b5 g811 t684 t684 t668, b4 g820 t817 2] w821) := ⟨HS.out.box hg hbox hb⟩
        clear hg hbox hb
        refine hK.out _ _ (⟨blk_cellv (HS.out.at2) 4 rfl, blk_cellv (HS.out.at2) 5 rfl, blk_cellv (HS.out.at0) 3 rfl⟩) (fun hHeld => ?_)
        clear hK K
        refine norm_ (a' := ?_) ?_ ?_
        rotate_left
        · show Act.put _ (some 78) _ = _
          simp only [Act.put, List.setIfInBounds_toArray, List.set_cons_zero, List.set_cons_succ, i64_w, i32_w]
          rfl
        refine one_ (i := 12) (N := some 79) #[true, true, true, true, true, true, true, true, true, true, true, true, true, false, false] rfl rfl (by kernel_rfl) (by decide) (fun K hK => ?_)
        obtain ⟨t823, HA824, H⟩ := bind_some H
        refine goes_ Try.func106 (by kernel_rfl) rfl #[.slice (some ⟨g820, 0, none⟩) 2 2] (by rfl) rfl rfl (by (try simp only [List.map_toArray, List.map_cons, List.map_nil]); first | done | rfl) ?_
        refine (ratio_Add.calls _ [t817, 2] (some ⟨g820, 0, none⟩) 2 t823 _ ⟨Rd.lit (l := []) (rest := [b1 g331 a327 a328 a329 a330, b3 g334 0 0 0 0 0 0 0 0, b3 g491 t488 (wrap64 (a328 - 8)) (wrap64 ((wrap64 (a328 - 8)) + 1)) t657 t684 t668 t727 0, b5 g811 t684 t684 t668, b4 g820 t817 2]) (xs := [t817, 2]) HS.out 4 rfl (by simp)⟩ ⟨HS.out.begin (l := []) (rest := [b1 g331 a327 a328 a329 a330, b3 g334 0 0 0 0 0 0 0 0, b3 g491 t488 (wrap64 (a328 - 8)) (wrap64 ((wrap64 (a328 - 8)) + 1)) t657 t684 t668 t727 0, b5 g811 t684 t684 t668, b4 g820 t817 2])⟩ HA824).mono ?_
        rintro e_ w825 ⟨rfl, hS⟩
        replace HS : Aside0 (Sep (fps []) w [b1 g331 a327 a328 a329 a330, b3 g334 0 0 0 0 0 0 0 0, b3 g491 t488 (wrap64 (a328 - 8)) (wrap64 ((wrap64 (a328 - 8)) + 1)) t657 t684 t668 t727 0, b5 g811 t684 t684 t668, b4 g820 t817 2] w825) := ⟨HS.out.call (l := []) (rest := [b1 g331 a327 a328 a329 a330, b3 g334 0 0 0 0 0 0 0 0, b3 g491 t488 (wrap64 (a328 - 8)) (wrap64 ((wrap64 (a328 - 8)) + 1)) t657 t684 t668 t727 0, b5 g811 t684 t684 t668, b4 g820 t817 2]) hS⟩
        clear hS
        refine ⟨_, rfl, ?_⟩
        refine hK.out _ _ (⟨blk_cellv (HS.out.at2) 4 rfl, blk_cellv (HS.out.at2) 5 rfl, blk_cellv (HS.out.at0) 3 rfl⟩) (fun hHeld => ?_)
        clear hK K
        refine norm_ (a' := ?_) ?_ ?_
        rotate_left
        · show Act.put _ (some 79) _ = _
          simp only [Act.put, List.setIfInBounds_toArray, List.set_cons_zero, List.set_cons_succ, i64_w, i32_w]
          rfl
        refine pure_ (i := 13) (N := some 80) (v := ?_) (a' := ?_) #[true, true, true, true, true, true, true, true, true, true, true, true, true, true, false] rfl rfl (by kernel_rfl) (fun _ _ _ h => h) (Or.inl ⟨by rfl, ?_⟩) ?_ ?_
        rotate_left
        · intro w'
          go_simp
          with_reducible rfl
        rotate_left
        · simp only [Act.put, List.setIfInBounds_toArray, List.set_cons_zero, List.set_cons_succ, i64_w, i32_w]
          rfl
        refine one_ (i := 14) (N := none) #[true, true, true, true, true, true, true, true, true, true, true, true, true, true, true] rfl rfl (by kernel_rfl) (by decide) (fun K hK => ?_)
        have hc827 := blk_cellv (v := .int .i64 0) (HS.out.at2) 7 rfl
        have hz828 := blk_fz (HS.out.at2) 7
        refine store_step (w1 := (World.setCell w825 ⟨g491, 7, none⟩ (.int .i64 t823))) (by rfl) rfl ?hr ?_
        case hr => first | (go_simp; done) | (go_simp; rfl)
        clear hc827 hz828
        intro w826 hst
        have hq0 : Sep (fps []) w [b1 g331 a327 a328 a329 a330, b3 g334 0 0 0 0 0 0 0 0, b3 g491 t488 (wrap64 (a328 - 8)) (wrap64 ((wrap64 (a328 - 8)) + 1)) t657 t684 t668 t727 t823, b5 g811 t684 t684 t668, b4 g820 t817 2] (World.setCell w825 ⟨g491, 7, none⟩ (.int .i64 t823)) := (HS.out).set1 (l1 := [b1 g331 a327 a328 a329 a330, b3 g334 0 0 0 0 0 0 0 0]) (l2 := [b5 g811 t684 t684 t668, b4 g820 t817 2]) 7 (.int .i64 t823)
        have HS_ : Aside0 (Sep (fps []) w [b1 g331 a327 a328 a329 a330, b3 g334 0 0 0 0 0 0 0 0, b3 g491 t488 (wrap64 (a328 - 8)) (wrap64 ((wrap64 (a328 - 8)) + 1)) t657 t684 t668 t727 t823, b5 g811 t684 t684 t668, b4 g820 t817 2] w826) := ⟨by rw [hst]; exact hq0⟩
        clear hq0
        clear HS hst
        have HS := HS_
        clear HS_
        refine hK.out _ _ (⟨blk_cellv (HS.out.at2) 4 rfl, blk_cellv (HS.out.at2) 5 rfl, blk_cellv (HS.out.at0) 3 rfl⟩) (fun hHeld => ?_)
        clear hK K
        refine done_ (by kernel_rfl) ?_
        replace HS : Aside0 (Sep (fps []) w [b3 g334 0 0 0 0 0 0 0 0, b3 g491 t488 (wrap64 (a328 - 8)) (wrap64 ((wrap64 (a328 - 8)) + 1)) t657 t684 t668 t727 t823] w826) := ⟨HS.out.sub (.cons _ (.cons_cons _ (.cons_cons _ (.cons _ (.cons _ .slnil)))))⟩
        have hc829 : w826.cell? ⟨g491, 0, none⟩ = some (.int .i64 t488) := blk_cellv (HS.out.at1) 0 rfl
        have hc830 : w826.cell? ⟨g491, 1, none⟩ = some (.int .i64 (wrap64 (a328 - 8))) := blk_cellv (HS.out.at1) 1 rfl
        have hc831 : w826.cell? ⟨g491, 2, none⟩ = some (.int .i64 (wrap64 ((wrap64 (a328 - 8)) + 1))) := blk_cellv (HS.out.at1) 2 rfl
        have hc832 : w826.cell? ⟨g491, 3, none⟩ = some (.int .i64 t657) := blk_cellv (HS.out.at1) 3 rfl
        have hc833 : w826.cell? ⟨g491, 4, none⟩ = some (.int .i64 t684) := blk_cellv (HS.out.at1) 4 rfl
        have hc834 : w826.cell? ⟨g491, 5, none⟩ = some (.int .i64 t668) := blk_cellv (HS.out.at1) 5 rfl
        have hc835 : w826.cell? ⟨g491, 6, none⟩ = some (.int .i64 t727) := blk_cellv (HS.out.at1) 6 rfl
        have hc836 : w826.cell? ⟨g491, 7, none⟩ = some (.int .i64 t823) := blk_cellv (HS.out.at1) 7 rfl
        have hc837 : w826.cell? ⟨g334, 0, none⟩ = some (.int .i64 0) := blk_cellv (HS.out.at0) 0 rfl
        have hz838 : w826.frozen? ⟨g334, 0, none⟩ = false := blk_fz (HS.out.at0) 0
        have hc839 : w826.cell? ⟨g334, 1, none⟩ = some (.int .i64 0) := blk_cellv (HS.out.at0) 1 rfl
        have hz840 : w826.frozen? ⟨g334, 1, none⟩ = false := blk_fz (HS.out.at0) 1
        have hc841 : w826.cell? ⟨g334, 2, none⟩ = some (.int .i64 0) := blk_cellv (HS.out.at0) 2 rfl
        have hz842 : w826.frozen? ⟨g334, 2, none⟩ = false := blk_fz (HS.out.at0) 2
        have hc843 : w826.cell? ⟨g334, 3, none⟩ = some (.int .i64 0) := blk_cellv (HS.out.at0) 3 rfl
        have hz844 : w826.frozen? ⟨g334, 3, none⟩ = false := blk_fz (HS.out.at0) 3
        have hc845 : w826.cell? ⟨g334, 4, none⟩ = some (.int .i64 0) := blk_cellv (HS.out.at0) 4 rfl
        have hz846 : w826.frozen? ⟨g334, 4, none⟩ = false := blk_fz (HS.out.at0) 4
        have hc847 : w826.cell? ⟨g334, 5, none⟩ = some (.int .i64 0) := blk_cellv (HS.out.at0) 5 rfl
        have hz848 : w826.frozen? ⟨g334, 5, none⟩ = false := blk_fz (HS.out.at0) 5
        have hc849 : w826.cell? ⟨g334, 6, none⟩ = some (.int .i64 0) := blk_cellv (HS.out.at0) 6 rfl
        have hz850 : w826.frozen? ⟨g334, 6, none⟩ = false := blk_fz (HS.out.at0) 6
        have hc851 : w826.cell? ⟨g334, 7, none⟩ = some (.int .i64 0) := blk_cellv (HS.out.at0) 7 rfl
        have hz852 : w826.frozen? ⟨g334, 7, none⟩ = false := blk_fz (HS.out.at0) 7
        go_wp2_with (first | ((with_reducible refine gate_store (t := 120) (p := 2) rfl ?_); refine store_event (w1 := (World.setCell (World.setCell (World.setCell (World.setCell (World.setCell (World.setCell (World.setCell (World.setCell w826 ⟨g334, 0, none⟩ (.int .i64 t488)) ⟨g334, 1, none⟩ (.int .i64 (wrap64 (a328 - 8)))) ⟨g334, 2, none⟩ (.int .i64 (wrap64 ((wrap64 (a328 - 8)) + 1)))) ⟨g334, 3, none⟩ (.int .i64 t657)) ⟨g334, 4, none⟩ (.int .i64 t684)) ⟨g334, 5, none⟩ (.int .i64 t668)) ⟨g334, 6, none⟩ (.int .i64 t727)) ⟨g334, 7, none⟩ (.int .i64 t823))) rfl (t := 120) (p := 2) rfl rfl ?hr ?_; (case hr => first | (go_simp; done) | (go_simp; rfl)); intro w853 hst; clear hc829 hc830 hc831 hc832 hc833 hc834 hc835 hc836 hc837 hz838 hc839 hz840 hc841 hz842 hc843 hz844 hc845 hz846 hc847 hz848 hc849 hz850 hc851 hz852; replace HS : Aside0 (Sep (fps []) w [b3 g334 t488 (wrap64 (a328 - 8)) (wrap64 ((wrap64 (a328 - 8)) + 1)) t657 t684 t668 t727 t823, b3 g491 t488 (wrap64 (a328 - 8)) (wrap64 ((wrap64 (a328 - 8)) + 1)) t657 t684 t668 t727 t823] w853) := ⟨by rw [hst]; exact HS.out.setAll (l1 := []) (l2 := [b3 g491 t488 (wrap64 (a328 - 8)) (wrap64 ((wrap64 (a328 - 8)) + 1)) t657 t684 t668 t727 t823]) [.int .i64 t488, .int .i64 (wrap64 (a328 - 8)), .int .i64 (wrap64 ((wrap64 (a328 - 8)) + 1)), .int .i64 t657, .int .i64 t684, .int .i64 t668, .int .i64 t727, .int .i64 t823] rfl⟩; clear hst; replace HS : Aside0 (Sep (fps []) w [b3 g334 t488 (wrap64 (a328 - 8)) (wrap64 ((wrap64 (a328 - 8)) + 1)) t657 t684 t668 t727 t823] w853) := ⟨HS.out.sub (.cons_cons _ (.cons _ .slnil))⟩))
        have hc854 : w853.cell? ⟨g334, 0, none⟩ = some (.int .i64 t488) := blk_cellv (HS.out.at0) 0 rfl
        have hc855 : w853.cell? ⟨g334, 1, none⟩ = some (.int .i64 (wrap64 (a328 - 8))) := blk_cellv (HS.out.at0) 1 rfl
        have hc856 : w853.cell? ⟨g334, 2, none⟩ = some (.int .i64 (wrap64 ((wrap64 (a328 - 8)) + 1))) := blk_cellv (HS.out.at0) 2 rfl
        have hc857 : w853.cell? ⟨g334, 3, none⟩ = some (.int .i64 t657) := blk_cellv (HS.out.at0) 3 rfl
        have hc858 : w853.cell? ⟨g334, 4, none⟩ = some (.int .i64 t684) := blk_cellv (HS.out.at0) 4 rfl
        have hc859 : w853.cell? ⟨g334, 5, none⟩ = some (.int .i64 t668) := blk_cellv (HS.out.at0) 5 rfl
        have hc860 : w853.cell? ⟨g334, 6, none⟩ = some (.int .i64 t727) := blk_cellv (HS.out.at0) 6 rfl
        have hc861 : w853.cell? ⟨g334, 7, none⟩ = some (.int .i64 t823) := blk_cellv (HS.out.at0) 7 rfl
        refine bodyPost_ret (v := .tuple #[.agg #[.int .i64 t488, .int .i64 (wrap64 (a328 - 8)), .int .i64 (wrap64 ((wrap64 (a328 - 8)) + 1)), .int .i64 t657, .int .i64 t684, .int .i64 t668, .int .i64 t727, .int .i64 t823], .int .i64 0]) (by simp [results, Try.results76, go_sem, hc854, hc855, hc856, hc857, hc858, hc859, hc860, hc861]) rfl ?_
        rw [← some_eq H]
        exact ⟨(by first | rfl | (simp [IntKind.wrap_u32]; done)), (HS.out).keep (l := []) (rest := [b3 g334 t488 (wrap64 (a328 - 8)) (wrap64 ((wrap64 (a328 - 8)) + 1)) t657 t684 t668 t727 t823])⟩
  · have H := if_no c385 H
    have c385b0 : (t382 == 0) = false := beq_eq_false_iff_ne.mpr c385
    have c385b1 : (t382 != 0) = true := bne_iff_ne.mpr c385
    clear c385
    have hc862 : w384.cell? ⟨g334, 0, none⟩ = some (.int .i64 0) := blk_cellv (HS.out.at1) 0 rfl
    have hz863 : w384.frozen? ⟨g334, 0, none⟩ = false := blk_fz (HS.out.at1) 0
    have hc864 : w384.cell? ⟨g334, 1, none⟩ = some (.int .i64 0) := blk_cellv (HS.out.at1) 1 rfl
    have hz865 : w384.frozen? ⟨g334, 1, none⟩ = false := blk_fz (HS.out.at1) 1
    have hc866 : w384.cell? ⟨g334, 2, none⟩ = some (.int .i64 0) := blk_cellv (HS.out.at1) 2 rfl
    have hz867 : w384.frozen? ⟨g334, 2, none⟩ = false := blk_fz (HS.out.at1) 2
    have hc868 : w384.cell? ⟨g334, 3, none⟩ = some (.int .i64 0) := blk_cellv (HS.out.at1) 3 rfl
    have hz869 : w384.frozen? ⟨g334, 3, none⟩ = false := blk_fz (HS.out.at1) 3
    have hc870 : w384.cell? ⟨g334, 4, none⟩ = some (.int .i64 0) := blk_cellv (HS.out.at1) 4 rfl
    have hz871 : w384.frozen? ⟨g334, 4, none⟩ = false := blk_fz (HS.out.at1) 4
    have hc872 : w384.cell? ⟨g334, 5, none⟩ = some (.int .i64 0) := blk_cellv (HS.out.at1) 5 rfl
    have hz873 : w384.frozen? ⟨g334, 5, none⟩ = false := blk_fz (HS.out.at1) 5
    have hc874 : w384.cell? ⟨g334, 6, none⟩ = some (.int .i64 0) := blk_cellv (HS.out.at1) 6 rfl
    have hz875 : w384.frozen? ⟨g334, 6, none⟩ = false := blk_fz (HS.out.at1) 6
    have hc876 : w384.cell? ⟨g334, 7, none⟩ = some (.int .i64 0) := blk_cellv (HS.out.at1) 7 rfl
    have hz877 : w384.frozen? ⟨g334, 7, none⟩ = false := blk_fz (HS.out.at1) 7
    go_wp2_with (first | ((with_reducible refine gate_store (t := 120) (p := 2) rfl ?_); refine store_event (w1 := (World.setCell (World.setCell (World.setCell (World.setCell (World.setCell (World.setCell (World.setCell (World.setCell w384 ⟨g334, 0, none⟩ (.int .i64 0)) ⟨g334, 1, none⟩ (.int .i64 0)) ⟨g334, 2, none⟩ (.int .i64 0)) ⟨g334, 3, none⟩ (.int .i64 0)) ⟨g334, 4, none⟩ (.int .i64 0)) ⟨g334, 5, none⟩ (.int .i64 0)) ⟨g334, 6, none⟩ (.int .i64 0)) ⟨g334, 7, none⟩ (.int .i64 0))) rfl (t := 120) (p := 2) rfl rfl ?hr ?_; (case hr => first | (go_simp; done) | (go_simp; rfl)); intro w878 hst; clear hc862 hz863 hc864 hz865 hc866 hz867 hc868 hz869 hc870 hz871 hc872 hz873 hc874 hz875 hc876 hz877; replace HS : Aside0 (Sep (fps []) w [b1 g331 a327 a328 a329 a330, b3 g334 0 0 0 0 0 0 0 0] w878) := ⟨by rw [hst]; exact HS.out.setAll (l1 := [b1 g331 a327 a328 a329 a330]) (l2 := []) [.int .i64 0, .int .i64 0, .int .i64 0, .int .i64 0, .int .i64 0, .int .i64 0, .int .i64 0, .int .i64 0] rfl⟩; clear hst; replace HS : Aside0 (Sep (fps []) w [b3 g334 0 0 0 0 0 0 0 0] w878) := ⟨HS.out.sub (.cons _ (.cons_cons _ .slnil))⟩))
    have hc879 : w878.cell? ⟨g334, 0, none⟩ = some (.int .i64 0) := blk_cellv (HS.out.at0) 0 rfl
    have hc880 : w878.cell? ⟨g334, 1, none⟩ = some (.int .i64 0) := blk_cellv (HS.out.at0) 1 rfl
    have hc881 : w878.cell? ⟨g334, 2, none⟩ = some (.int .i64 0) := blk_cellv (HS.out.at0) 2 rfl
    have hc882 : w878.cell? ⟨g334, 3, none⟩ = some (.int .i64 0) := blk_cellv (HS.out.at0) 3 rfl
    have hc883 : w878.cell? ⟨g334, 4, none⟩ = some (.int .i64 0) := blk_cellv (HS.out.at0) 4 rfl
    have hc884 : w878.cell? ⟨g334, 5, none⟩ = some (.int .i64 0) := blk_cellv (HS.out.at0) 5 rfl
    have hc885 : w878.cell? ⟨g334, 6, none⟩ = some (.int .i64 0) := blk_cellv (HS.out.at0) 6 rfl
    have hc886 : w878.cell? ⟨g334, 7, none⟩ = some (.int .i64 0) := blk_cellv (HS.out.at0) 7 rfl
    refine bodyPost_ret (v := .tuple #[.agg #[.int .i64 0, .int .i64 0, .int .i64 0, .int .i64 0, .int .i64 0, .int .i64 0, .int .i64 0, .int .i64 0], .int .i64 t382]) (by simp [results, Try.results76, go_sem, hc879, hc880, hc881, hc882, hc883, hc884, hc885, hc886]) rfl ?_
    rw [← some_eq H]
    exact ⟨(by first | rfl | (simp [IntKind.wrap_u32]; done)), (HS.out).keep (l := []) (rest := [b3 g334 0 0 0 0 0 0 0 0])⟩

set_option maxHeartbeats 30000000 in
set_option maxRecDepth 100000 in
theorem store_New.calls (a912 : Int) (r : Unit ⊕ (List Int)) (w : World)   (HS : Aside0 (Sep (fps []) w [] w)) (H : Aside0 (store_New.f a912 = some r)) :
    Calls Try.prog 17 #[.int .i64 a912] w fun e w' => Sum.elim (fun (r : Unit) => e = .returned (.tuple #[.pointer none, .int .i64 2]) ∧ Sep (fps []) w [] w') (fun (r : List Int) => ∃ (g948 : Nat), e = .returned (.tuple #[.pointer (some ⟨g948, 0, none⟩), .int .i64 0]) ∧ ∃ (A949 : Option Addr) (m950 : Nat) (n951 : Nat), Sep (fps []) w [b6 g948 A949 m950 n951 0, r2 A949 m950 n951 r] w') r := by
  unfold store_New.f at H
  go_enter Try.func17, Try.ntmps17
  by_cases c926 : a912 < 0
  · have H := if_yes c926 H
    have c926b0 : decide (a912 < 0) = true := decide_eq_true c926
    clear c926
    go_wp2_with fail
    go_ret2
    rw [← some_eq H]
    exact ⟨(by first | rfl | (simp [IntKind.wrap_u32]; done)), (HS.out).keep (l := []) (rest := [])⟩
  · have H := if_no c926 H
    have c926b0 : decide (a912 < 0) = false := decide_eq_false c926
    clear c926
    by_cases c927 : a912 > 8388608
    · have H := if_yes c927 H
      have c927b0 : decide (8388608 < a912) = true := decide_eq_true c927
      clear c927
      go_wp2_with fail
      go_ret2
      rw [← some_eq H]
      exact ⟨(by first | rfl | (simp [IntKind.wrap_u32]; done)), (HS.out).keep (l := []) (rest := [])⟩
    · have H := if_no c927 H
      have c927b0 : decide (8388608 < a912) = false := decide_eq_false c927
      clear c927
      obtain ⟨m928, HA929, H⟩ := bind_some H
      obtain ⟨hm930, hn931⟩ := mkLen_eq HA929
      have hm930H := Aside0.mk hm930
      clear hm930
      go_wp2_with (first | ((with_reducible refine gate_dst (N := 11) rfl ?_); refine make_event rfl (N := 11) rfl 22 23 (.tmp 10) (.tmp 10) rfl .i64 (.int .u32 0) 4 Try.underlying22 (by kernel_rfl) rfl (by decide) (Value.int .u32) 0 rfl m928 (by show Value.int _ _ = _; rw [hm930H.out]) (by show Value.int _ _ = _; rw [hm930H.out]) (by omega) HS.out ?_; intro g932 w933 HS1; replace HS : Aside0 (Sep (fps []) w [r2 (some ⟨g932, 0, none⟩) m928 m928 (List.replicate m928 (0 : Int))] w933) := ⟨HS1⟩; clear HS1) | ((with_reducible refine gate_dst (N := 13) rfl ?_); refine box_on ?hg (N := 13) ?hd (cs := #[.slice (some ⟨g932, 0, none⟩) m928 m928, .int .u64 0]) (t := 115) ?hr ?_; (case hd => rfl); (case hg => rfl); (case hr => first | (go_simp; done) | (go_simp; rfl)); intro g936 hg w937 hbox hb; replace HS : Aside0 (Sep (fps []) w [r2 (some ⟨g932, 0, none⟩) m928 m928 (List.replicate m928 (0 : Int)), b6 g936 (some ⟨g932, 0, none⟩) m928 m928 0] w937) := ⟨HS.out.box hg hbox hb⟩; clear hg hbox hb))
      go_ret2
      rw [← some_eq H]
      exact ⟨g936, (by first | rfl | (simp [IntKind.wrap_u32]; done)), (some ⟨g932, 0, none⟩), m928, m928, ((HS.out).front 1 (by simp)).keep (l := [b6 g936 (some ⟨g932, 0, none⟩) m928 m928 0, r2 (some ⟨g932, 0, none⟩) m928 m928 (List.replicate m928 (0 : Int))]) (rest := [])⟩

set_option maxHeartbeats 30000000 in
set_option maxRecDepth 100000 in
theorem ground_New.calls (k : Nat) (a316 : Int) (a317 : Int) (a318 : Int) (a319 : Int) (r : Unit ⊕ ((Int × Int × Int × Int × List Int) ⊕ Int)) (w : World)   (HS : Aside0 (Sep (fps []) w [] w)) (H : Aside0 (ground_New.f k a316 a317 a318 a319 = some r)) :
    Calls Try.prog 29 #[.agg #[.int .i64 a316, .int .i64 a317, .int .i64 a318, .int .i64 a319]] w fun e w' => Sum.elim (fun (r : Unit) => e = .returned (.tuple #[.pointer none, .int .i64 2]) ∧ Sep (fps []) w [] w') (fun (r_ : (Int × Int × Int × Int × List Int) ⊕ Int) => Sum.elim (fun (r : Int × Int × Int × Int × List Int) => ∃ (g1098 : Nat), e = .returned (.tuple #[.pointer (some ⟨g1098, 0, none⟩), .int .i64 0]) ∧ ∃ (g1099 : Nat) (A1100 : Option Addr) (m1101 : Nat) (n1102 : Nat), Sep (fps []) w [b7 g1098 g1099 r.1 r.2.1 r.2.2.1 r.2.2.2.1, b6 g1099 A1100 m1101 n1102 0, r2 A1100 m1101 n1102 r.2.2.2.2] w') (fun (r : Int) => e = .returned (.tuple #[.pointer none, .int .i64 r]) ∧ Sep (fps []) w [] w') r_) r := by
  unfold ground_New.f at H
  go_enter Try.func29, Try.ntmps29
  go_wp2_with (first | ((with_reducible refine gate_dst (N := 1) rfl ?_); refine box_on ?hg (N := 1) ?hd (cs := #[.int .i64 a316, .int .i64 a317, .int .i64 a318, .int .i64 a319]) (t := 49) ?hr ?_; (case hd => rfl); (case hg => rfl); (case hr => first | (go_simp; done) | (go_simp; rfl)); intro g1034 hg w1035 hbox hb; replace HS : Aside0 (Sep (fps []) w [b1 g1034 a316 a317 a318 a319] w1035) := ⟨HS.out.box hg hbox hb⟩; clear hg hbox hb; have hc1037 : w1035.cell? ⟨g1034, 0, none⟩ = some (.int .i64 a316) := blk_cellv (HS.out.at0) 0 rfl; have hc1038 : w1035.cell? ⟨g1034, 1, none⟩ = some (.int .i64 a317) := blk_cellv (HS.out.at0) 1 rfl; have hc1039 : w1035.cell? ⟨g1034, 2, none⟩ = some (.int .i64 a318) := blk_cellv (HS.out.at0) 2 rfl; have hc1040 : w1035.cell? ⟨g1034, 3, none⟩ = some (.int .i64 a319) := blk_cellv (HS.out.at0) 3 rfl))
  clear hc1037 hc1038 hc1039 hc1040
  obtain ⟨t1041, HA1042, H⟩ := bind_some H
  refine (plan_Of.calls _ a316 a317 a318 a319 t1041 _ ⟨HS.out.begin (l := []) (rest := [b1 g1034 a316 a317 a318 a319])⟩ HA1042).mono ?_
  rintro e_ w1043 ⟨rfl, hS⟩
  replace HS : Aside0 (Sep (fps []) w [b1 g1034 a316 a317 a318 a319] w1043) := ⟨HS.out.call (l := []) (rest := [b1 g1034 a316 a317 a318 a319]) hS⟩
  clear hS
  by_cases c1064 : t1041.2.2.2.2.2.2.2.2 = 0
  · have H := if_yes c1064 H
    have c1064b0 : (t1041.2.2.2.2.2.2.2.2 == 0) = true := beq_iff_eq.mpr c1064
    have c1064b1 : (t1041.2.2.2.2.2.2.2.2 != 0) = false := bne_eq_false_iff_eq.mpr c1064
    clear c1064
    go_wp2_with (first | ((with_reducible refine gate_dst (N := 4) rfl ?_); refine box_on ?hg (N := 4) ?hd (cs := #[.int .i64 0, .int .i64 0, .int .i64 0, .int .i64 0, .int .i64 0, .int .i64 0, .int .i64 0, .int .i64 0]) (t := 120) ?hr ?_; (case hd => rfl); (case hg => rfl); (case hr => first | (go_simp; done) | (go_simp; rfl)); intro g1044 hg w1045 hbox hb; replace HS : Aside0 (Sep (fps []) w [b1 g1034 a316 a317 a318 a319, b3 g1044 0 0 0 0 0 0 0 0] w1045) := ⟨HS.out.box hg hbox hb⟩; clear hg hbox hb; have hc1047 : w1045.cell? ⟨g1044, 0, none⟩ = some (.int .i64 0) := blk_cellv (HS.out.at1) 0 rfl; have hz1048 : w1045.frozen? ⟨g1044, 0, none⟩ = false := blk_fz (HS.out.at1) 0; have hc1049 : w1045.cell? ⟨g1044, 1, none⟩ = some (.int .i64 0) := blk_cellv (HS.out.at1) 1 rfl; have hz1050 : w1045.frozen? ⟨g1044, 1, none⟩ = false := blk_fz (HS.out.at1) 1; have hc1051 : w1045.cell? ⟨g1044, 2, none⟩ = some (.int .i64 0) := blk_cellv (HS.out.at1) 2 rfl; have hz1052 : w1045.frozen? ⟨g1044, 2, none⟩ = false := blk_fz (HS.out.at1) 2; have hc1053 : w1045.cell? ⟨g1044, 3, none⟩ = some (.int .i64 0) := blk_cellv (HS.out.at1) 3 rfl; have hz1054 : w1045.frozen? ⟨g1044, 3, none⟩ = false := blk_fz (HS.out.at1) 3; have hc1055 : w1045.cell? ⟨g1044, 4, none⟩ = some (.int .i64 0) := blk_cellv (HS.out.at1) 4 rfl; have hz1056 : w1045.frozen? ⟨g1044, 4, none⟩ = false := blk_fz (HS.out.at1) 4; have hc1057 : w1045.cell? ⟨g1044, 5, none⟩ = some (.int .i64 0) := blk_cellv (HS.out.at1) 5 rfl; have hz1058 : w1045.frozen? ⟨g1044, 5, none⟩ = false := blk_fz (HS.out.at1) 5; have hc1059 : w1045.cell? ⟨g1044, 6, none⟩ = some (.int .i64 0) := blk_cellv (HS.out.at1) 6 rfl; have hz1060 : w1045.frozen? ⟨g1044, 6, none⟩ = false := blk_fz (HS.out.at1) 6; have hc1061 : w1045.cell? ⟨g1044, 7, none⟩ = some (.int .i64 0) := blk_cellv (HS.out.at1) 7 rfl; have hz1062 : w1045.frozen? ⟨g1044, 7, none⟩ = false := blk_fz (HS.out.at1) 7) | ((with_reducible refine gate_store (t := 120) (p := 4) rfl ?_); refine store_event (w1 := (World.setCell (World.setCell (World.setCell (World.setCell (World.setCell (World.setCell (World.setCell (World.setCell w1045 ⟨g1044, 0, none⟩ (.int .i64 t1041.1)) ⟨g1044, 1, none⟩ (.int .i64 t1041.2.1)) ⟨g1044, 2, none⟩ (.int .i64 t1041.2.2.1)) ⟨g1044, 3, none⟩ (.int .i64 t1041.2.2.2.1)) ⟨g1044, 4, none⟩ (.int .i64 t1041.2.2.2.2.1)) ⟨g1044, 5, none⟩ (.int .i64 t1041.2.2.2.2.2.1)) ⟨g1044, 6, none⟩ (.int .i64 t1041.2.2.2.2.2.2.1)) ⟨g1044, 7, none⟩ (.int .i64 t1041.2.2.2.2.2.2.2.1))) rfl (t := 120) (p := 4) rfl rfl ?hr ?_; (case hr => first | (go_simp; done) | (go_simp; rfl)); intro w1063 hst; clear hc1047 hz1048 hc1049 hz1050 hc1051 hz1052 hc1053 hz1054 hc1055 hz1056 hc1057 hz1058 hc1059 hz1060 hc1061 hz1062; replace HS : Aside0 (Sep (fps []) w [b1 g1034 a316 a317 a318 a319, b3 g1044 t1041.1 t1041.2.1 t1041.2.2.1 t1041.2.2.2.1 t1041.2.2.2.2.1 t1041.2.2.2.2.2.1 t1041.2.2.2.2.2.2.1 t1041.2.2.2.2.2.2.2.1] w1063) := ⟨by rw [hst]; exact HS.out.setAll (l1 := [b1 g1034 a316 a317 a318 a319]) (l2 := []) [.int .i64 t1041.1, .int .i64 t1041.2.1, .int .i64 t1041.2.2.1, .int .i64 t1041.2.2.2.1, .int .i64 t1041.2.2.2.2.1, .int .i64 t1041.2.2.2.2.2.1, .int .i64 t1041.2.2.2.2.2.2.1, .int .i64 t1041.2.2.2.2.2.2.2.1] rfl⟩; clear hst; have hc1065 : w1063.cell? ⟨g1044, 0, none⟩ = some (.int .i64 t1041.1) := blk_cellv (HS.out.at1) 0 rfl))
    clear hc1065
    obtain ⟨t1066, HA1067, H⟩ := bind_some H
    rcases t1066 with t1068 | t1069
    · have H := sum_l H
      refine (store_New.calls t1041.1 (.inl t1068) _ ⟨HS.out.begin (l := []) (rest := [b1 g1034 a316 a317 a318 a319, b3 g1044 t1041.1 t1041.2.1 t1041.2.2.1 t1041.2.2.2.1 t1041.2.2.2.2.1 t1041.2.2.2.2.2.1 t1041.2.2.2.2.2.2.1 t1041.2.2.2.2.2.2.2.1])⟩ HA1067).mono ?_
      rintro e_ w1070 ⟨rfl, hS⟩
      replace HS : Aside0 (Sep (fps []) w [b1 g1034 a316 a317 a318 a319, b3 g1044 t1041.1 t1041.2.1 t1041.2.2.1 t1041.2.2.2.1 t1041.2.2.2.2.1 t1041.2.2.2.2.2.1 t1041.2.2.2.2.2.2.1 t1041.2.2.2.2.2.2.2.1] w1070) := ⟨HS.out.call (l := []) (rest := [b1 g1034 a316 a317 a318 a319, b3 g1044 t1041.1 t1041.2.1 t1041.2.2.1 t1041.2.2.2.1 t1041.2.2.2.2.1 t1041.2.2.2.2.2.1 t1041.2.2.2.2.2.2.1 t1041.2.2.2.2.2.2.2.1]) hS⟩
      clear hS
      replace HS : Aside0 (Sep (fps []) w [b1 g1034 a316 a317 a318 a319] w1070) := ⟨HS.out.sub (.cons_cons _ (.cons _ .slnil))⟩
      replace HS : Aside0 (Sep (fps []) w [] w1070) := ⟨HS.out.sub (.cons _ .slnil)⟩
      go_wp2_with fail
      go_ret2
      rw [← some_eq H]
      exact ⟨(by first | rfl | (simp [IntKind.wrap_u32]; done)), (HS.out).keep (l := []) (rest := [])⟩
    · have H := sum_r H
      refine (store_New.calls t1041.1 (.inr t1069) _ ⟨HS.out.begin (l := []) (rest := [b1 g1034 a316 a317 a318 a319, b3 g1044 t1041.1 t1041.2.1 t1041.2.2.1 t1041.2.2.2.1 t1041.2.2.2.2.1 t1041.2.2.2.2.2.1 t1041.2.2.2.2.2.2.1 t1041.2.2.2.2.2.2.2.1])⟩ HA1067).mono ?_
      rintro e_ w1071 ⟨g1074, rfl, A1075, m1076, n1077, hS⟩
      replace HS : Aside0 (Sep (fps []) w [b6 g1074 A1075 m1076 n1077 0, r2 A1075 m1076 n1077 t1069, b1 g1034 a316 a317 a318 a319, b3 g1044 t1041.1 t1041.2.1 t1041.2.2.1 t1041.2.2.2.1 t1041.2.2.2.2.1 t1041.2.2.2.2.2.1 t1041.2.2.2.2.2.2.1 t1041.2.2.2.2.2.2.2.1] w1071) := ⟨HS.out.call (l := []) (rest := [b1 g1034 a316 a317 a318 a319, b3 g1044 t1041.1 t1041.2.1 t1041.2.2.1 t1041.2.2.2.1 t1041.2.2.2.2.1 t1041.2.2.2.2.2.1 t1041.2.2.2.2.2.2.1 t1041.2.2.2.2.2.2.2.1]) hS⟩
      clear hS
      obtain rfl := (row_len (HS.out.at1)).symm
      replace HS : Aside0 (Sep (fps []) w [b6 g1074 A1075 t1069.length n1077 0, r2 A1075 t1069.length n1077 t1069, b1 g1034 a316 a317 a318 a319] w1071) := ⟨HS.out.sub (.cons_cons _ (.cons_cons _ (.cons_cons _ (.cons _ .slnil))))⟩
      have hc1079 : w1071.cell? ⟨g1034, 0, none⟩ = some (.int .i64 a316) := blk_cellv (HS.out.at2) 0 rfl
      have hc1080 : w1071.cell? ⟨g1034, 1, none⟩ = some (.int .i64 a317) := blk_cellv (HS.out.at2) 1 rfl
      have hc1081 : w1071.cell? ⟨g1034, 2, none⟩ = some (.int .i64 a318) := blk_cellv (HS.out.at2) 2 rfl
      have hc1082 : w1071.cell? ⟨g1034, 3, none⟩ = some (.int .i64 a319) := blk_cellv (HS.out.at2) 3 rfl
      go_wp2_with (first | ((with_reducible refine gate_dst (N := 28) rfl ?_); refine box_on ?hg (N := 28) ?hd (cs := #[.pointer (some ⟨g1074, 0, none⟩), .int .i64 a316, .int .i64 a317, .int .i64 a318, .int .i64 a319]) (t := 126) ?hr ?_; (case hd => rfl); (case hg => rfl); (case hr => first | (go_simp; done) | (go_simp; rfl)); intro g1083 hg w1084 hbox hb; clear hc1079 hc1080 hc1081 hc1082; replace HS : Aside0 (Sep (fps []) w [b6 g1074 A1075 t1069.length n1077 0, r2 A1075 t1069.length n1077 t1069, b1 g1034 a316 a317 a318 a319, b7 g1083 g1074 a316 a317 a318 a319] w1084) := ⟨HS.out.box hg hbox hb⟩; clear hg hbox hb; replace HS : Aside0 (Sep (fps []) w [b6 g1074 A1075 t1069.length n1077 0, r2 A1075 t1069.length n1077 t1069, b7 g1083 g1074 a316 a317 a318 a319] w1084) := ⟨HS.out.sub (.cons_cons _ (.cons_cons _ (.cons _ (.cons_cons _ .slnil))))⟩))
      go_ret2
      rw [← some_eq H]
      exact ⟨g1083, (by first | rfl | (simp [IntKind.wrap_u32]; done)), g1074, A1075, t1069.length, n1077, ((((HS.out).front 1 (by simp)).front 1 (by simp)).front 2 (by simp)).keep (l := [b7 g1083 g1074 a316 a317 a318 a319, b6 g1074 A1075 t1069.length n1077 0, r2 A1075 t1069.length n1077 t1069]) (rest := [])⟩
  · have H := if_no c1064 H
    have c1064b0 : (t1041.2.2.2.2.2.2.2.2 == 0) = false := beq_eq_false_iff_ne.mpr c1064
    have c1064b1 : (t1041.2.2.2.2.2.2.2.2 != 0) = true := bne_iff_ne.mpr c1064
    clear c1064
    go_wp2_with (first | ((with_reducible refine gate_dst (N := 4) rfl ?_); refine box_on ?hg (N := 4) ?hd (cs := #[.int .i64 0, .int .i64 0, .int .i64 0, .int .i64 0, .int .i64 0, .int .i64 0, .int .i64 0, .int .i64 0]) (t := 120) ?hr ?_; (case hd => rfl); (case hg => rfl); (case hr => first | (go_simp; done) | (go_simp; rfl)); intro g1044 hg w1045 hbox hb; replace HS : Aside0 (Sep (fps []) w [b1 g1034 a316 a317 a318 a319, b3 g1044 0 0 0 0 0 0 0 0] w1045) := ⟨HS.out.box hg hbox hb⟩; clear hg hbox hb; have hc1047 : w1045.cell? ⟨g1044, 0, none⟩ = some (.int .i64 0) := blk_cellv (HS.out.at1) 0 rfl; have hz1048 : w1045.frozen? ⟨g1044, 0, none⟩ = false := blk_fz (HS.out.at1) 0; have hc1049 : w1045.cell? ⟨g1044, 1, none⟩ = some (.int .i64 0) := blk_cellv (HS.out.at1) 1 rfl; have hz1050 : w1045.frozen? ⟨g1044, 1, none⟩ = false := blk_fz (HS.out.at1) 1; have hc1051 : w1045.cell? ⟨g1044, 2, none⟩ = some (.int .i64 0) := blk_cellv (HS.out.at1) 2 rfl; have hz1052 : w1045.frozen? ⟨g1044, 2, none⟩ = false := blk_fz (HS.out.at1) 2; have hc1053 : w1045.cell? ⟨g1044, 3, none⟩ = some (.int .i64 0) := blk_cellv (HS.out.at1) 3 rfl; have hz1054 : w1045.frozen? ⟨g1044, 3, none⟩ = false := blk_fz (HS.out.at1) 3; have hc1055 : w1045.cell? ⟨g1044, 4, none⟩ = some (.int .i64 0) := blk_cellv (HS.out.at1) 4 rfl; have hz1056 : w1045.frozen? ⟨g1044, 4, none⟩ = false := blk_fz (HS.out.at1) 4; have hc1057 : w1045.cell? ⟨g1044, 5, none⟩ = some (.int .i64 0) := blk_cellv (HS.out.at1) 5 rfl; have hz1058 : w1045.frozen? ⟨g1044, 5, none⟩ = false := blk_fz (HS.out.at1) 5; have hc1059 : w1045.cell? ⟨g1044, 6, none⟩ = some (.int .i64 0) := blk_cellv (HS.out.at1) 6 rfl; have hz1060 : w1045.frozen? ⟨g1044, 6, none⟩ = false := blk_fz (HS.out.at1) 6; have hc1061 : w1045.cell? ⟨g1044, 7, none⟩ = some (.int .i64 0) := blk_cellv (HS.out.at1) 7 rfl; have hz1062 : w1045.frozen? ⟨g1044, 7, none⟩ = false := blk_fz (HS.out.at1) 7) | ((with_reducible refine gate_store (t := 120) (p := 4) rfl ?_); refine store_event (w1 := (World.setCell (World.setCell (World.setCell (World.setCell (World.setCell (World.setCell (World.setCell (World.setCell w1045 ⟨g1044, 0, none⟩ (.int .i64 t1041.1)) ⟨g1044, 1, none⟩ (.int .i64 t1041.2.1)) ⟨g1044, 2, none⟩ (.int .i64 t1041.2.2.1)) ⟨g1044, 3, none⟩ (.int .i64 t1041.2.2.2.1)) ⟨g1044, 4, none⟩ (.int .i64 t1041.2.2.2.2.1)) ⟨g1044, 5, none⟩ (.int .i64 t1041.2.2.2.2.2.1)) ⟨g1044, 6, none⟩ (.int .i64 t1041.2.2.2.2.2.2.1)) ⟨g1044, 7, none⟩ (.int .i64 t1041.2.2.2.2.2.2.2.1))) rfl (t := 120) (p := 4) rfl rfl ?hr ?_; (case hr => first | (go_simp; done) | (go_simp; rfl)); intro w1063 hst; clear hc1047 hz1048 hc1049 hz1050 hc1051 hz1052 hc1053 hz1054 hc1055 hz1056 hc1057 hz1058 hc1059 hz1060 hc1061 hz1062; replace HS : Aside0 (Sep (fps []) w [b1 g1034 a316 a317 a318 a319, b3 g1044 t1041.1 t1041.2.1 t1041.2.2.1 t1041.2.2.2.1 t1041.2.2.2.2.1 t1041.2.2.2.2.2.1 t1041.2.2.2.2.2.2.1 t1041.2.2.2.2.2.2.2.1] w1063) := ⟨by rw [hst]; exact HS.out.setAll (l1 := [b1 g1034 a316 a317 a318 a319]) (l2 := []) [.int .i64 t1041.1, .int .i64 t1041.2.1, .int .i64 t1041.2.2.1, .int .i64 t1041.2.2.2.1, .int .i64 t1041.2.2.2.2.1, .int .i64 t1041.2.2.2.2.2.1, .int .i64 t1041.2.2.2.2.2.2.1, .int .i64 t1041.2.2.2.2.2.2.2.1] rfl⟩; clear hst; replace HS : Aside0 (Sep (fps []) w [] w1063) := ⟨HS.out.sub (.cons _ (.cons _ .slnil))⟩))
    go_ret2
    rw [← some_eq H]
    exact ⟨(by first | rfl | (simp [IntKind.wrap_u32]; done)), (HS.out).keep (l := []) (rest := [])⟩

set_option maxHeartbeats 30000000 in
set_option maxRecDepth 100000 in
theorem ground_Ground_all.calls (l1143 : List Int) (a1148 : Int) (a1149 : Int) (a1150 : Int) (a1151 : Int) (a1152 : Int) (g1139 : Nat) (g1141 : Nat) (A1144 : Option Addr) (m1145 : Nat) (n1146 : Nat) (r : Unit) (w : World)   (HS : Aside0 (Sep (fps [b7 g1139 g1141 a1149 a1150 a1151 a1152, b6 g1141 A1144 m1145 n1146 a1148, r2 A1144 m1145 n1146 l1143]) w [b7 g1139 g1141 a1149 a1150 a1151 a1152, b6 g1141 A1144 m1145 n1146 a1148, r2 A1144 m1145 n1146 l1143] w)) (H : Aside0 (ground_Ground_all.f l1143 a1148 a1149 a1150 a1151 a1152 = some r)) :
    Calls Try.prog 77 #[.pointer (some ⟨g1139, 0, none⟩)] w fun e w' => e = .returned (.pointer (some ⟨g1141, 0, none⟩)) ∧ Sep (fps [b7 g1139 g1141 a1149 a1150 a1151 a1152, b6 g1141 A1144 m1145 n1146 a1148, r2 A1144 m1145 n1146 l1143]) w [b7 g1139 g1141 a1149 a1150 a1151 a1152, b6 g1141 A1144 m1145 n1146 a1148, r2 A1144 m1145 n1146 l1143] w' := by
  generalize (fps [b7 g1139 g1141 a1149 a1150 a1151 a1152, b6 g1141 A1144 m1145 n1146 a1148, r2 A1144 m1145 n1146 l1143]) = FF at HS ⊢
  obtain rfl := (row_len (HS.out.at2)).symm
  unfold ground_Ground_all.f at H
  go_enter Try.func77, Try.ntmps77
  have hc1153 : w.cell? ⟨g1139, 0, none⟩ = some (.pointer (some ⟨g1141, 0, none⟩)) := blk_cellv (HS.out.at0) 0 rfl
  go_wp2_with fail
  clear hc1153
  go_ret
  clear H
  exact ⟨(by first | rfl | (simp [IntKind.wrap_u32]; done)), ((((HS.out).front 2 (by simp)).front 2 (by simp)).front 2 (by simp)).keep (l := [b7 g1139 g1141 a1149 a1150 a1151 a1152, b6 g1141 A1144 l1143.length n1146 a1148, r2 A1144 l1143.length n1146 l1143]) (rest := [])⟩

set_option maxHeartbeats 30000000 in
set_option maxRecDepth 100000 in
theorem ground_Ground_Conf.calls (l1179 : List Int) (a1184 : Int) (a1185 : Int) (a1186 : Int) (a1187 : Int) (a1188 : Int) (g1175 : Nat) (g1177 : Nat) (A1180 : Option Addr) (m1181 : Nat) (n1182 : Nat) (r : Int × Int × Int × Int) (w : World)   (HS : Aside0 (Sep (fps [b7 g1175 g1177 a1185 a1186 a1187 a1188, b6 g1177 A1180 m1181 n1182 a1184, r2 A1180 m1181 n1182 l1179]) w [b7 g1175 g1177 a1185 a1186 a1187 a1188, b6 g1177 A1180 m1181 n1182 a1184, r2 A1180 m1181 n1182 l1179] w)) (H : Aside0 (ground_Ground_Conf.f l1179 a1184 a1185 a1186 a1187 a1188 = some r)) :
    Calls Try.prog 39 #[.pointer (some ⟨g1175, 0, none⟩)] w fun e w' => e = .returned (.agg #[.int .i64 r.1, .int .i64 r.2.1, .int .i64 r.2.2.1, .int .i64 r.2.2.2]) ∧ Sep (fps [b7 g1175 g1177 a1185 a1186 a1187 a1188, b6 g1177 A1180 m1181 n1182 a1184, r2 A1180 m1181 n1182 l1179]) w [b7 g1175 g1177 a1185 a1186 a1187 a1188, b6 g1177 A1180 m1181 n1182 a1184, r2 A1180 m1181 n1182 l1179] w' := by
  generalize (fps [b7 g1175 g1177 a1185 a1186 a1187 a1188, b6 g1177 A1180 m1181 n1182 a1184, r2 A1180 m1181 n1182 l1179]) = FF at HS ⊢
  obtain rfl := (row_len (HS.out.at2)).symm
  unfold ground_Ground_Conf.f at H
  go_enter Try.func39, Try.ntmps39
  go_wp2_with (first | ((with_reducible refine gate_dst (N := 2) rfl ?_); refine box_on ?hg (N := 2) ?hd (cs := #[.int .i64 0, .int .i64 0, .int .i64 0, .int .i64 0]) (t := 49) ?hr ?_; (case hd => rfl); (case hg => rfl); (case hr => first | (go_simp; done) | (go_simp; rfl)); intro g1189 hg w1190 hbox hb; replace HS : Aside0 (Sep FF w [b7 g1175 g1177 a1185 a1186 a1187 a1188, b6 g1177 A1180 l1179.length n1182 a1184, r2 A1180 l1179.length n1182 l1179, b1 g1189 0 0 0 0] w1190) := ⟨HS.out.box hg hbox hb⟩; clear hg hbox hb; have hc1192 : w1190.cell? ⟨g1175, 1, none⟩ = some (.int .i64 a1185) := blk_cellv (HS.out.at0) 1 rfl; have hc1193 : w1190.cell? ⟨g1175, 2, none⟩ = some (.int .i64 a1186) := blk_cellv (HS.out.at0) 2 rfl; have hc1194 : w1190.cell? ⟨g1175, 3, none⟩ = some (.int .i64 a1187) := blk_cellv (HS.out.at0) 3 rfl; have hc1195 : w1190.cell? ⟨g1175, 4, none⟩ = some (.int .i64 a1188) := blk_cellv (HS.out.at0) 4 rfl; have hc1196 : w1190.cell? ⟨g1189, 0, none⟩ = some (.int .i64 0) := blk_cellv (HS.out.at3) 0 rfl; have hz1197 : w1190.frozen? ⟨g1189, 0, none⟩ = false := blk_fz (HS.out.at3) 0; have hc1198 : w1190.cell? ⟨g1189, 1, none⟩ = some (.int .i64 0) := blk_cellv (HS.out.at3) 1 rfl; have hz1199 : w1190.frozen? ⟨g1189, 1, none⟩ = false := blk_fz (HS.out.at3) 1; have hc1200 : w1190.cell? ⟨g1189, 2, none⟩ = some (.int .i64 0) := blk_cellv (HS.out.at3) 2 rfl; have hz1201 : w1190.frozen? ⟨g1189, 2, none⟩ = false := blk_fz (HS.out.at3) 2; have hc1202 : w1190.cell? ⟨g1189, 3, none⟩ = some (.int .i64 0) := blk_cellv (HS.out.at3) 3 rfl; have hz1203 : w1190.frozen? ⟨g1189, 3, none⟩ = false := blk_fz (HS.out.at3) 3) | ((with_reducible refine gate_store (t := 49) (p := 2) rfl ?_); refine store_event (w1 := (World.setCell (World.setCell (World.setCell (World.setCell w1190 ⟨g1189, 0, none⟩ (.int .i64 a1185)) ⟨g1189, 1, none⟩ (.int .i64 a1186)) ⟨g1189, 2, none⟩ (.int .i64 a1187)) ⟨g1189, 3, none⟩ (.int .i64 a1188))) rfl (t := 49) (p := 2) rfl rfl ?hr ?_; (case hr => first | (go_simp; done) | (go_simp; rfl)); intro w1204 hst; clear hc1192 hc1193 hc1194 hc1195 hc1196 hz1197 hc1198 hz1199 hc1200 hz1201 hc1202 hz1203; replace HS : Aside0 (Sep FF w [b7 g1175 g1177 a1185 a1186 a1187 a1188, b6 g1177 A1180 l1179.length n1182 a1184, r2 A1180 l1179.length n1182 l1179, b1 g1189 a1185 a1186 a1187 a1188] w1204) := ⟨by rw [hst]; exact HS.out.setAll (l1 := [b7 g1175 g1177 a1185 a1186 a1187 a1188, b6 g1177 A1180 l1179.length n1182 a1184, r2 A1180 l1179.length n1182 l1179]) (l2 := []) [.int .i64 a1185, .int .i64 a1186, .int .i64 a1187, .int .i64 a1188] rfl⟩; clear hst))
  have hc1205 : w1204.cell? ⟨g1189, 0, none⟩ = some (.int .i64 a1185) := blk_cellv (HS.out.at3) 0 rfl
  have hc1206 : w1204.cell? ⟨g1189, 1, none⟩ = some (.int .i64 a1186) := blk_cellv (HS.out.at3) 1 rfl
  have hc1207 : w1204.cell? ⟨g1189, 2, none⟩ = some (.int .i64 a1187) := blk_cellv (HS.out.at3) 2 rfl
  have hc1208 : w1204.cell? ⟨g1189, 3, none⟩ = some (.int .i64 a1188) := blk_cellv (HS.out.at3) 3 rfl
  refine bodyPost_ret (v := .agg #[.int .i64 a1185, .int .i64 a1186, .int .i64 a1187, .int .i64 a1188]) (by simp [results, Try.results39, go_sem, hc1205, hc1206, hc1207, hc1208]) rfl ?_
  rw [← some_eq H]
  exact ⟨(by first | rfl | (simp [IntKind.wrap_u32]; done)), ((((HS.out).front 2 (by simp)).front 2 (by simp)).front 2 (by simp)).keep (l := [b7 g1175 g1177 a1185 a1186 a1187 a1188, b6 g1177 A1180 l1179.length n1182 a1184, r2 A1180 l1179.length n1182 l1179]) (rest := [b1 g1189 a1185 a1186 a1187 a1188])⟩

set_option maxHeartbeats 30000000 in
set_option maxRecDepth 100000 in
theorem ground_Ground_word.calls (l1162 : List Int) (a1167 : Int) (a1168 : Int) (a1169 : Int) (a1170 : Int) (a1171 : Int) (a1172 : Int) (a1173 : Int) (g1158 : Nat) (g1160 : Nat) (A1163 : Option Addr) (m1164 : Nat) (n1165 : Nat) (r : Int) (w : World)   (HS : Aside0 (Sep (fps [b7 g1158 g1160 a1168 a1169 a1170 a1171, b6 g1160 A1163 m1164 n1165 a1167, r2 A1163 m1164 n1165 l1162]) w [b7 g1158 g1160 a1168 a1169 a1170 a1171, b6 g1160 A1163 m1164 n1165 a1167, r2 A1163 m1164 n1165 l1162] w)) (H : Aside0 (ground_Ground_word.f l1162 a1167 a1168 a1169 a1170 a1171 a1172 a1173 = some r)) :
    Calls Try.prog 87 #[.pointer (some ⟨g1158, 0, none⟩), .int .i64 a1172, .int .i64 a1173] w fun e w' => e = .returned (.int .i64 r) ∧ Sep (fps [b7 g1158 g1160 a1168 a1169 a1170 a1171, b6 g1160 A1163 m1164 n1165 a1167, r2 A1163 m1164 n1165 l1162]) w [b7 g1158 g1160 a1168 a1169 a1170 a1171, b6 g1160 A1163 m1164 n1165 a1167, r2 A1163 m1164 n1165 l1162] w' := by
  generalize (fps [b7 g1158 g1160 a1168 a1169 a1170 a1171, b6 g1160 A1163 m1164 n1165 a1167, r2 A1163 m1164 n1165 l1162]) = FF at HS ⊢
  obtain rfl := (row_len (HS.out.at2)).symm
  unfold ground_Ground_word.f at H
  go_enter Try.func87, Try.ntmps87
  go_wp2_with fail
  obtain ⟨t1209, HA1210, H⟩ := bind_some H
  refine (ground_Ground_Conf.calls l1162 a1167 a1168 a1169 a1170 a1171 g1158 g1160 A1163 l1162.length n1165 t1209 _ ⟨HS.out.begin (l := [b7 g1158 g1160 a1168 a1169 a1170 a1171, b6 g1160 A1163 l1162.length n1165 a1167, r2 A1163 l1162.length n1165 l1162]) (rest := [])⟩ HA1210).mono ?_
  rintro e_ w1211 ⟨rfl, hS⟩
  replace HS : Aside0 (Sep FF w [b7 g1158 g1160 a1168 a1169 a1170 a1171, b6 g1160 A1163 l1162.length n1165 a1167, r2 A1163 l1162.length n1165 l1162] w1211) := ⟨HS.out.call (l := [b7 g1158 g1160 a1168 a1169 a1170 a1171, b6 g1160 A1163 l1162.length n1165 a1167, r2 A1163 l1162.length n1165 l1162]) (rest := []) hS⟩
  clear hS
  go_wp2_with (first | ((with_reducible refine gate_dst (N := 7) rfl ?_); refine box_on ?hg (N := 7) ?hd (cs := #[.int .i64 0, .int .i64 0, .int .i64 0, .int .i64 0]) (t := 49) ?hr ?_; (case hd => rfl); (case hg => rfl); (case hr => first | (go_simp; done) | (go_simp; rfl)); intro g1212 hg w1213 hbox hb; replace HS : Aside0 (Sep FF w [b7 g1158 g1160 a1168 a1169 a1170 a1171, b6 g1160 A1163 l1162.length n1165 a1167, r2 A1163 l1162.length n1165 l1162, b1 g1212 0 0 0 0] w1213) := ⟨HS.out.box hg hbox hb⟩; clear hg hbox hb; have hc1215 : w1213.cell? ⟨g1212, 0, none⟩ = some (.int .i64 0) := blk_cellv (HS.out.at3) 0 rfl; have hz1216 : w1213.frozen? ⟨g1212, 0, none⟩ = false := blk_fz (HS.out.at3) 0; have hc1217 : w1213.cell? ⟨g1212, 1, none⟩ = some (.int .i64 0) := blk_cellv (HS.out.at3) 1 rfl; have hz1218 : w1213.frozen? ⟨g1212, 1, none⟩ = false := blk_fz (HS.out.at3) 1; have hc1219 : w1213.cell? ⟨g1212, 2, none⟩ = some (.int .i64 0) := blk_cellv (HS.out.at3) 2 rfl; have hz1220 : w1213.frozen? ⟨g1212, 2, none⟩ = false := blk_fz (HS.out.at3) 2; have hc1221 : w1213.cell? ⟨g1212, 3, none⟩ = some (.int .i64 0) := blk_cellv (HS.out.at3) 3 rfl; have hz1222 : w1213.frozen? ⟨g1212, 3, none⟩ = false := blk_fz (HS.out.at3) 3) | ((with_reducible refine gate_store (t := 49) (p := 7) rfl ?_); refine store_event (w1 := (World.setCell (World.setCell (World.setCell (World.setCell w1213 ⟨g1212, 0, none⟩ (.int .i64 t1209.1)) ⟨g1212, 1, none⟩ (.int .i64 t1209.2.1)) ⟨g1212, 2, none⟩ (.int .i64 t1209.2.2.1)) ⟨g1212, 3, none⟩ (.int .i64 t1209.2.2.2))) rfl (t := 49) (p := 7) rfl rfl ?hr ?_; (case hr => first | (go_simp; done) | (go_simp; rfl)); intro w1223 hst; clear hc1215 hz1216 hc1217 hz1218 hc1219 hz1220 hc1221 hz1222; replace HS : Aside0 (Sep FF w [b7 g1158 g1160 a1168 a1169 a1170 a1171, b6 g1160 A1163 l1162.length n1165 a1167, r2 A1163 l1162.length n1165 l1162, b1 g1212 t1209.1 t1209.2.1 t1209.2.2.1 t1209.2.2.2] w1223) := ⟨by rw [hst]; exact HS.out.setAll (l1 := [b7 g1158 g1160 a1168 a1169 a1170 a1171, b6 g1160 A1163 l1162.length n1165 a1167, r2 A1163 l1162.length n1165 l1162]) (l2 := []) [.int .i64 t1209.1, .int .i64 t1209.2.1, .int .i64 t1209.2.2.1, .int .i64 t1209.2.2.2] rfl⟩; clear hst; have hc1224 : w1223.cell? ⟨g1212, 0, none⟩ = some (.int .i64 t1209.1) := blk_cellv (HS.out.at3) 0 rfl))
  clear hc1224
  obtain ⟨t1225, HA1226, H⟩ := bind_some H
  refine (ground_within.calls a1172 t1209.1 0 t1225 _ ⟨HS.out.begin (l := []) (rest := [b7 g1158 g1160 a1168 a1169 a1170 a1171, b6 g1160 A1163 l1162.length n1165 a1167, r2 A1163 l1162.length n1165 l1162, b1 g1212 t1209.1 t1209.2.1 t1209.2.2.1 t1209.2.2.2])⟩ HA1226).mono ?_
  rintro e_ w1227 ⟨rfl, hS⟩
  replace HS : Aside0 (Sep FF w [b7 g1158 g1160 a1168 a1169 a1170 a1171, b6 g1160 A1163 l1162.length n1165 a1167, r2 A1163 l1162.length n1165 l1162, b1 g1212 t1209.1 t1209.2.1 t1209.2.2.1 t1209.2.2.2] w1227) := ⟨HS.out.call (l := []) (rest := [b7 g1158 g1160 a1168 a1169 a1170 a1171, b6 g1160 A1163 l1162.length n1165 a1167, r2 A1163 l1162.length n1165 l1162, b1 g1212 t1209.1 t1209.2.1 t1209.2.2.1 t1209.2.2.2]) hS⟩
  clear hS
  by_cases c1228 : t1225 = (-1)
  · have H := if_yes c1228 H
    have c1228b0 : (t1225 == (-1)) = true := beq_iff_eq.mpr c1228
    have c1228b1 : (t1225 != (-1)) = false := bne_eq_false_iff_eq.mpr c1228
    clear c1228
    replace HS : Aside0 (Sep FF w [b7 g1158 g1160 a1168 a1169 a1170 a1171, b6 g1160 A1163 l1162.length n1165 a1167, r2 A1163 l1162.length n1165 l1162] w1227) := ⟨HS.out.sub (.cons_cons _ (.cons_cons _ (.cons_cons _ (.cons _ .slnil))))⟩
    go_wp2_with fail
    go_ret
    rw [← some_eq H]
    exact ⟨(by first | rfl | (simp [IntKind.wrap_u32]; done)), ((((HS.out).front 2 (by simp)).front 2 (by simp)).front 2 (by simp)).keep (l := [b7 g1158 g1160 a1168 a1169 a1170 a1171, b6 g1160 A1163 l1162.length n1165 a1167, r2 A1163 l1162.length n1165 l1162]) (rest := [])⟩
  · have H := if_no c1228 H
    have c1228b0 : (t1225 == (-1)) = false := beq_eq_false_iff_ne.mpr c1228
    have c1228b1 : (t1225 != (-1)) = true := bne_iff_ne.mpr c1228
    clear c1228
    have hc1229 : w1227.cell? ⟨g1212, 1, none⟩ = some (.int .i64 t1209.2.1) := blk_cellv (HS.out.at3) 1 rfl
    have hc1230 : w1227.cell? ⟨g1212, 2, none⟩ = some (.int .i64 t1209.2.2.1) := blk_cellv (HS.out.at3) 2 rfl
    go_wp2_with fail
    clear hc1229 hc1230
    obtain ⟨t1231, HA1232, H⟩ := bind_some H
    refine (ground_within.calls a1173 t1209.2.1 (wrap64 ((wrap64 (24 + t1209.2.2.1)) + (wrap64 (a1172 * t1209.2.1)))) t1231 _ ⟨HS.out.begin (l := []) (rest := [b7 g1158 g1160 a1168 a1169 a1170 a1171, b6 g1160 A1163 l1162.length n1165 a1167, r2 A1163 l1162.length n1165 l1162, b1 g1212 t1209.1 t1209.2.1 t1209.2.2.1 t1209.2.2.2])⟩ HA1232).mono ?_
    rintro e_ w1233 ⟨rfl, hS⟩
    replace HS : Aside0 (Sep FF w [b7 g1158 g1160 a1168 a1169 a1170 a1171, b6 g1160 A1163 l1162.length n1165 a1167, r2 A1163 l1162.length n1165 l1162, b1 g1212 t1209.1 t1209.2.1 t1209.2.2.1 t1209.2.2.2] w1233) := ⟨HS.out.call (l := []) (rest := [b7 g1158 g1160 a1168 a1169 a1170 a1171, b6 g1160 A1163 l1162.length n1165 a1167, r2 A1163 l1162.length n1165 l1162, b1 g1212 t1209.1 t1209.2.1 t1209.2.2.1 t1209.2.2.2]) hS⟩
    clear hS
    replace HS : Aside0 (Sep FF w [b7 g1158 g1160 a1168 a1169 a1170 a1171, b6 g1160 A1163 l1162.length n1165 a1167, r2 A1163 l1162.length n1165 l1162] w1233) := ⟨HS.out.sub (.cons_cons _ (.cons_cons _ (.cons_cons _ (.cons _ .slnil))))⟩
    go_wp2_with fail
    go_ret
    rw [← some_eq H]
    exact ⟨(by first | rfl | (simp [IntKind.wrap_u32]; done)), ((((HS.out).front 2 (by simp)).front 2 (by simp)).front 2 (by simp)).keep (l := [b7 g1158 g1160 a1168 a1169 a1170 a1171, b6 g1160 A1163 l1162.length n1165 a1167, r2 A1163 l1162.length n1165 l1162]) (rest := [])⟩

set_option maxHeartbeats 30000000 in
set_option maxRecDepth 100000 in
theorem store_Store_has.calls (l1251 : List Int) (a1256 : Int) (a1257 : Int) (g1249 : Nat) (A1252 : Option Addr) (m1253 : Nat) (n1254 : Nat) (r : Bool) (w : World)   (HS : Aside0 (Sep (fps [b6 g1249 A1252 m1253 n1254 a1256, r2 A1252 m1253 n1254 l1251]) w [b6 g1249 A1252 m1253 n1254 a1256, r2 A1252 m1253 n1254 l1251] w)) (H : Aside0 (store_Store_has.f l1251 a1256 a1257 = some r)) :
    Calls Try.prog 69 #[.pointer (some ⟨g1249, 0, none⟩), .int .i64 a1257] w fun e w' => e = .returned (.bool r) ∧ Sep (fps [b6 g1249 A1252 m1253 n1254 a1256, r2 A1252 m1253 n1254 l1251]) w [b6 g1249 A1252 m1253 n1254 a1256, r2 A1252 m1253 n1254 l1251] w' := by
  generalize (fps [b6 g1249 A1252 m1253 n1254 a1256, r2 A1252 m1253 n1254 l1251]) = FF at HS ⊢
  obtain rfl := (row_len (HS.out.at1)).symm
  unfold store_Store_has.f at H
  go_enter Try.func69, Try.ntmps69
  by_cases c1258 : a1257 ≥ 0
  · have H := if_yes c1258 H
    have c1258b0 : decide (0 ≤ a1257) = true := decide_eq_true c1258
    clear c1258
    have hc1259 : w.cell? ⟨g1249, 0, none⟩ = some (.slice A1252 l1251.length n1254) := blk_cellv (HS.out.at0) 0 rfl
    go_wp2_with fail
    clear hc1259
    go_ret
    rw [← some_eq H]
    exact ⟨(by first | rfl | (simp [IntKind.wrap_u32]; done)), (((HS.out).front 1 (by simp)).front 1 (by simp)).keep (l := [b6 g1249 A1252 l1251.length n1254 a1256, r2 A1252 l1251.length n1254 l1251]) (rest := [])⟩
  · have H := if_no c1258 H
    have c1258b0 : decide (0 ≤ a1257) = false := decide_eq_false c1258
    clear c1258
    go_wp2_with fail
    go_ret
    rw [← some_eq H]
    exact ⟨(by first | rfl | (simp [IntKind.wrap_u32]; done)), (((HS.out).front 1 (by simp)).front 1 (by simp)).keep (l := [b6 g1249 A1252 l1251.length n1254 a1256, r2 A1252 l1251.length n1254 l1251]) (rest := [])⟩

set_option maxHeartbeats 30000000 in
set_option maxRecDepth 100000 in
theorem atomic_Uint64_Add.calls (l1267 : List Int) (a1272 : Int) (a1273 : Int) (g1265 : Nat) (A1268 : Option Addr) (m1269 : Nat) (n1270 : Nat) (r : Int × Int) (w : World)   (HS : Aside0 (Sep (fps [b6 g1265 A1268 m1269 n1270 a1272, r2 A1268 m1269 n1270 l1267]) w [b6 g1265 A1268 m1269 n1270 a1272, r2 A1268 m1269 n1270 l1267] w)) (H : Aside0 (atomic_Uint64_Add.f l1267 a1272 a1273 = some r)) :
    Calls Try.prog 71 #[.pointer (some ⟨g1265, 1, none⟩), .int .u64 a1273] w fun e w' => e = .returned (.int .u64 r.1) ∧ Sep (fps [b6 g1265 A1268 m1269 n1270 a1272, r2 A1268 m1269 n1270 l1267]) w [b6 g1265 A1268 m1269 n1270 r.2, r2 A1268 m1269 n1270 l1267] w' := by
  generalize (fps [b6 g1265 A1268 m1269 n1270 a1272, r2 A1268 m1269 n1270 l1267]) = FF at HS ⊢
  obtain rfl := (row_len (HS.out.at1)).symm
  unfold atomic_Uint64_Add.f at H
  go_enter Try.func71, Try.ntmps71
  obtain ⟨y1283, HA1284, H⟩ := bind_some H
  have hc1280 : w.cell? ⟨g1265, 1, none⟩ = some (.int .u64 a1272) := blk_cellv (HS.out.at0) 1 rfl
  have hz1282 : w.frozen? ⟨g1265, 1, none⟩ = false := blk_fz (HS.out.at0) 1
  have hn1281 : (callFunc 104 #[.pointer (some ⟨g1265, 1, none⟩), .int .u64 a1273]).run Try.prog w = .ok (.value (.int .u64 y1283)) ((World.setCell w ⟨g1265, 1, none⟩ (.int .u64 y1283))) := (some_eq HA1284) ▸ run_call_add Try.func104 (by kernel_rfl) (by kernel_rfl) (by kernel_rfl) .u64 (by kernel_rfl) hc1280 hz1282 (by rfl)
  go_wp2_with (first | ((with_reducible refine gate_dst (N := 9) rfl ?_); refine run_on2 (by rfl) (w1 := (World.setCell w ⟨g1265, 1, none⟩ (.int .u64 y1283))) (v := .int .u64 y1283) ?hr ?_; (case hr => first | (go_simp; done) | (go_simp; rfl)); intro w1285 hst; clear hc1280 hz1282; have hq0 : Sep FF w [b6 g1265 A1268 l1267.length n1270 y1283, r2 A1268 l1267.length n1270 l1267] (World.setCell w ⟨g1265, 1, none⟩ (.int .u64 y1283)) := (HS.out).set1 (l1 := []) (l2 := [r2 A1268 l1267.length n1270 l1267]) 1 (.int .u64 y1283); replace HS : Aside0 (Sep FF w [b6 g1265 A1268 l1267.length n1270 y1283, r2 A1268 l1267.length n1270 l1267] w1285) := ⟨by rw [hst]; exact hq0⟩; clear hst hn1281 hq0))
  go_ret
  rw [← some_eq H]
  exact ⟨(by first | rfl | (simp [IntKind.wrap_u32]; done)), (((HS.out).front 1 (by simp)).front 1 (by simp)).keep (l := [b6 g1265 A1268 l1267.length n1270 y1283, r2 A1268 l1267.length n1270 l1267]) (rest := [])⟩

set_option maxHeartbeats 30000000 in
set_option maxRecDepth 100000 in
theorem store_Store_Put.calls (l1240 : List Int) (a1245 : Int) (a1246 : Int) (a1247 : Int) (g1238 : Nat) (A1241 : Option Addr) (m1242 : Nat) (n1243 : Nat) (r : Bool × Int × List Int) (w : World)   (HS : Aside0 (Sep (fps [b6 g1238 A1241 m1242 n1243 a1245, r2 A1241 m1242 n1243 l1240]) w [b6 g1238 A1241 m1242 n1243 a1245, r2 A1241 m1242 n1243 l1240] w)) (H : Aside0 (store_Store_Put.f l1240 a1245 a1246 a1247 = some r)) :
    Calls Try.prog 22 #[.pointer (some ⟨g1238, 0, none⟩), .int .i64 a1246, .int .u32 a1247] w fun e w' => e = .returned (.bool r.1) ∧ Sep (fps [b6 g1238 A1241 m1242 n1243 a1245, r2 A1241 m1242 n1243 l1240]) w [b6 g1238 A1241 m1242 n1243 r.2.1, r2 A1241 m1242 n1243 r.2.2] w' := by
  generalize (fps [b6 g1238 A1241 m1242 n1243 a1245, r2 A1241 m1242 n1243 l1240]) = FF at HS ⊢
  obtain rfl := (row_len (HS.out.at1)).symm
  unfold store_Store_Put.f at H
  go_enter Try.func22, Try.ntmps22
  go_wp2_with fail
  obtain ⟨t1298, HA1299, H⟩ := bind_some H
  refine (store_Store_has.calls l1240 a1245 a1246 g1238 A1241 l1240.length n1243 t1298 _ ⟨HS.out.begin (l := [b6 g1238 A1241 l1240.length n1243 a1245, r2 A1241 l1240.length n1243 l1240]) (rest := [])⟩ HA1299).mono ?_
  rintro e_ w1300 ⟨rfl, hS⟩
  replace HS : Aside0 (Sep FF w [b6 g1238 A1241 l1240.length n1243 a1245, r2 A1241 l1240.length n1243 l1240] w1300) := ⟨HS.out.call (l := [b6 g1238 A1241 l1240.length n1243 a1245, r2 A1241 l1240.length n1243 l1240]) (rest := []) hS⟩
  clear hS
  by_cases c1301 : t1298 = true
  · have H := if_yes c1301 H
    have c1301b0 : t1298 = true := c1301
    have c1301b1 : (!t1298) = false := by rw [c1301b0]; rfl
    try rw [c1301b1]
    clear c1301
    go_wp2_with fail
    obtain ⟨t1302, HA1303, H⟩ := bind_some H
    refine (atomic_Uint64_Add.calls l1240 a1245 1 g1238 A1241 l1240.length n1243 t1302 _ ⟨HS.out.begin (l := [b6 g1238 A1241 l1240.length n1243 a1245, r2 A1241 l1240.length n1243 l1240]) (rest := [])⟩ HA1303).mono ?_
    rintro e_ w1304 ⟨rfl, hS⟩
    replace HS : Aside0 (Sep FF w [b6 g1238 A1241 l1240.length n1243 t1302.2, r2 A1241 l1240.length n1243 l1240] w1304) := ⟨HS.out.call (l := [b6 g1238 A1241 l1240.length n1243 a1245, r2 A1241 l1240.length n1243 l1240]) (rest := []) hS⟩
    clear hS
    by_cases c1306 : 0 ≤ a1246
    · have H := if_yes c1306 H
      have c1306b0 : decide (0 ≤ a1246) = true := decide_eq_true c1306
      have c1306p : (0 ≤ a1246) = True := eq_true c1306
      clear c1306
      by_cases c1307 : a1246 < (l1240.length : Int)
      · have H := if_yes c1307 H
        have c1307b0 : decide (a1246 < (l1240.length : Int)) = true := decide_eq_true c1307
        have c1307p : (a1246 < (l1240.length : Int)) = True := eq_true c1307
        clear c1307
        obtain ⟨y1310, HA1311, H⟩ := bind_some H
        have hc1305 : w1304.cell? ⟨g1238, 0, none⟩ = some (.slice A1241 l1240.length n1243) := blk_cellv (HS.out.at0) 0 rfl
        obtain ⟨g1308, ea⟩ := row_at (HS.out.at1) (by have := (of_decide_eq_true c1306b0); have := (of_decide_eq_true c1307b0); omega); cases ea
        have hx1312 := (row_get 0 (HS.out.at1) a1246 (of_decide_eq_true c1306b0) (of_decide_eq_true c1307b0)).1
        have hz1313 := (row_get 0 (HS.out.at1) a1246 (of_decide_eq_true c1306b0) (of_decide_eq_true c1307b0)).2
        go_wp2_with (first | ((with_reducible refine gate_store (t := 23) (p := 21) rfl ?_); refine store_event (w1 := World.setCell w1304 ⟨g1308, (a1246).toNat, none⟩ (.int .u32 a1247)) rfl (t := 23) (p := 21) rfl rfl ?hr ?_; (case hr => first | (go_simp; done) | (go_simp; rfl)); intro w1309 hst; clear hc1305 hx1312 hz1313; have hq := Sep.rowset (l1 := [b6 g1238 (some ⟨g1308, 0, none⟩) l1240.length n1243 t1302.2]) (l2 := []) HS.out a1246 a1247; rw [← hst, some_eq HA1311] at hq; replace HS : Aside0 (Sep FF w [b6 g1238 (some ⟨g1308, 0, none⟩) l1240.length n1243 t1302.2, r2 (some ⟨g1308, 0, none⟩) l1240.length n1243 y1310] w1309) := ⟨hq⟩; clear hst hq))
        go_ret
        rw [← some_eq H]
        exact ⟨(by first | rfl | (simp [IntKind.wrap_u32]; done)), (((HS.out).front 1 (by simp)).front 1 (by simp)).keep (l := [b6 g1238 (some ⟨g1308, 0, none⟩) l1240.length n1243 t1302.2, r2 (some ⟨g1308, 0, none⟩) l1240.length n1243 y1310]) (rest := [])⟩
      · have H := if_no c1307 H
        have c1307b0 : decide (a1246 < (l1240.length : Int)) = false := decide_eq_false c1307
        clear c1307
        exact (none_no H).elim
    · have H := if_no c1306 H
      have c1306b0 : decide (0 ≤ a1246) = false := decide_eq_false c1306
      clear c1306
      exact (none_no H).elim
  · have H := if_no c1301 H
    have c1301b0 : t1298 = false := by simpa using c1301
    have c1301b1 : (!t1298) = true := by rw [c1301b0]; rfl
    try rw [c1301b1]
    clear c1301
    go_wp2_with fail
    go_ret
    rw [← some_eq H]
    exact ⟨(by first | rfl | (simp [IntKind.wrap_u32]; done)), (((HS.out).front 1 (by simp)).front 1 (by simp)).keep (l := [b6 g1238 A1241 l1240.length n1243 a1245, r2 A1241 l1240.length n1243 l1240]) (rest := [])⟩
end Go.Proofs.Ytobeonkddamnoaa.C

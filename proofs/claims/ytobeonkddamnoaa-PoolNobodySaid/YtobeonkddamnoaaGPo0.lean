/- Each function of the group Po does what its plain function says, and changes nothing that was there; proved by walking its code. No condition. -/
import Derived.Test.YtobeonkddamnoaaQw
import Derived.Test.YtobeonkddamnoaaMPo
namespace Go.Proofs.Ytobeonkddamnoaa.C
open Go.RowKit Go.Proofs.YtobeonkddamnoaaW.PrintWords Go.Proofs.YtobeonkddamnoaaW.PrintLast Go.Proofs.YtobeonkddamnoaaW.PrintMore Go.Proofs.Ytobeonkddamnoaa.Q Go.Proofs.Ytobeonkddamnoaa.M
set_option linter.unusedVariables false
set_option linter.unusedSimpArgs false
def b1 (g : Nat) (x0 : Int) (x1 : Int) (x2 : Int) : Ob := blk g #[.int .i64 x0, .int .i64 x1, .int .i64 x2] 134
def b2 (g : Nat) (x0 : Int) (x1 : Int) (x2 : Int) (x3 : Int) : Ob := blk g #[.int .i64 x0, .int .i64 x1, .int .i64 x2, .int .i64 x3] 49
def b3 (g : Nat) (x0 : Int) : Ob := blk g #[.int .u32 x0] 23
def b4 (g : Nat) (x0 : Int) (x1 : Int) (x2 : Int) (x3 : Int) (x4 : Int) (x5 : Int) (x6 : Int) : Ob := blk g #[.int .i64 x0, .int .i64 x1, .int .i64 x2, .int .i64 x3, .int .i64 x4, .int .i64 x5, .int .i64 x6] 102
def b5 (g : Nat)  : Ob := blk g #[.pointer none] 50
def b6 (g : Nat) (x0 : Int) : Ob := blk g #[.int .i64 x0] 3
def r7 (A : Option Addr) (n c : Nat) (l : List Int) : Ob := row 3 (Value.int .i64) (.slice A n c) l
def b8 (g : Nat) (x0 : Int) (x1 : Int) (x2 : Int) (x3 : Int) (x4 : Int) (x5 : Int) (x6 : Int) (x7 : Int) : Ob := blk g #[.int .i64 x0, .int .i64 x1, .int .i64 x2, .int .i64 x3, .int .i64 x4, .int .i64 x5, .int .i64 x6, .int .i64 x7] 120
def b9 (g : Nat) (x0 : Int) (x1 : Int) : Ob := blk g #[.int .i64 x0, .int .i64 x1] 3
def b10 (g : Nat) (x0 : Int) (x1 : Int) (x2 : Int) : Ob := blk g #[.int .i64 x0, .int .i64 x1, .int .i64 x2] 3
def r11 (A : Option Addr) (n c : Nat) (l : List Int) : Ob := row 23 (Value.int .u32) (.slice A n c) l
def b12 (g : Nat) (x0 : Option Addr) (x1 : Nat) (x2 : Nat) (x3 : Int) : Ob := blk g #[.slice x0 x1 x2, .int .u64 x3] 115
def b13 (g : Nat) (x0 : Nat) (x1 : Int) (x2 : Int) (x3 : Int) (x4 : Int) : Ob := blk g #[.pointer (some ⟨x0, 0, none⟩), .int .i64 x1, .int .i64 x2, .int .i64 x3, .int .i64 x4] 126
def b14 (g : Nat) (x0 : Nat) : Ob := blk g #[.pointer (some ⟨x0, 0, none⟩)] 50

set_option maxHeartbeats 30000000 in
set_option maxRecDepth 100000 in
theorem chain_of_nil.calls (a4 : Int) (r : Int × Int × Int × Bool) (w : World)   (HS : Aside0 (Sep (fps []) w [] w)) (H : Aside0 (chain_of_nil.f a4 = some r)) :
    Calls Try.prog 91 #[.pointer none, .int .i64 a4] w fun e w' => e = .returned (.tuple #[.agg #[.int .i64 r.1, .int .i64 r.2.1, .int .i64 r.2.2.1], .bool r.2.2.2]) ∧ Sep (fps []) w [] w' := by
  unfold chain_of_nil.f at H
  go_enter Try.func91, Try.ntmps91
  go_wp2_with (first | ((with_reducible refine gate_dst (N := 4) rfl ?_); refine box_on ?hg (N := 4) ?hd (cs := #[.int .i64 0, .int .i64 0, .int .i64 0]) (t := 134) ?hr ?_; (case hd => rfl); (case hg => rfl); (case hr => first | (go_simp; done) | (go_simp; rfl)); intro g5 hg w6 hbox hb; replace HS : Aside0 (Sep (fps []) w [b1 g5 0 0 0] w6) := ⟨HS.out.box hg hbox hb⟩; clear hg hbox hb; have hc8 : w6.cell? ⟨g5, 0, none⟩ = some (.int .i64 0) := blk_cellv (HS.out.at0) 0 rfl; have hz9 : w6.frozen? ⟨g5, 0, none⟩ = false := blk_fz (HS.out.at0) 0; have hc10 : w6.cell? ⟨g5, 1, none⟩ = some (.int .i64 0) := blk_cellv (HS.out.at0) 1 rfl; have hz11 : w6.frozen? ⟨g5, 1, none⟩ = false := blk_fz (HS.out.at0) 1; have hc12 : w6.cell? ⟨g5, 2, none⟩ = some (.int .i64 0) := blk_cellv (HS.out.at0) 2 rfl; have hz13 : w6.frozen? ⟨g5, 2, none⟩ = false := blk_fz (HS.out.at0) 2) | ((with_reducible refine gate_store (t := 134) (p := 4) rfl ?_); refine store_event (w1 := (World.setCell (World.setCell (World.setCell w6 ⟨g5, 0, none⟩ (.int .i64 0)) ⟨g5, 1, none⟩ (.int .i64 0)) ⟨g5, 2, none⟩ (.int .i64 0))) rfl (t := 134) (p := 4) rfl rfl ?hr ?_; (case hr => first | (go_simp; done) | (go_simp; rfl)); intro w14 hst; clear hc8 hz9 hc10 hz11 hc12 hz13; replace HS : Aside0 (Sep (fps []) w [b1 g5 0 0 0] w14) := ⟨by rw [hst]; exact HS.out.setAll (l1 := []) (l2 := []) [.int .i64 0, .int .i64 0, .int .i64 0] rfl⟩; clear hst))
  have hc15 : w14.cell? ⟨g5, 0, none⟩ = some (.int .i64 0) := blk_cellv (HS.out.at0) 0 rfl
  have hc16 : w14.cell? ⟨g5, 1, none⟩ = some (.int .i64 0) := blk_cellv (HS.out.at0) 1 rfl
  have hc17 : w14.cell? ⟨g5, 2, none⟩ = some (.int .i64 0) := blk_cellv (HS.out.at0) 2 rfl
  refine bodyPost_ret (v := .tuple #[.agg #[.int .i64 0, .int .i64 0, .int .i64 0], .bool false]) (by simp [results, Try.results91, go_sem, hc15, hc16, hc17]) rfl ?_
  rw [← some_eq H]
  exact ⟨(by first | rfl | (simp [IntKind.wrap_u32]; done)), HS.out.sub (.cons _ .slnil)⟩

set_option maxHeartbeats 30000000 in
set_option maxRecDepth 100000 in
theorem ground_Ground_all_nil.calls  (r : Unit) (w : World)   (HS : Aside0 (Sep (fps []) w [] w)) (H : Aside0 (ground_Ground_all_nil.f = some r)) :
    Calls Try.prog 77 #[.pointer none] w fun e w' => e = .returned (.pointer none) ∧ Sep (fps []) w [] w' := by
  unfold ground_Ground_all_nil.f at H
  go_enter Try.func77, Try.ntmps77
  go_wp2_with fail
  go_ret
  clear H
  exact ⟨(by first | rfl | (simp [IntKind.wrap_u32]; done)), HS.out⟩

set_option maxHeartbeats 30000000 in
set_option maxRecDepth 100000 in
theorem ground_within.calls (a38 : Int) (a39 : Int) (a40 : Int) (r : Int) (w : World)   (HS : Aside0 (Sep (fps []) w [] w)) (H : Aside0 (ground_within.f a38 a39 a40 = some r)) :
    Calls Try.prog 109 #[.int .i64 a38, .int .i64 a39, .int .i64 a40] w fun e w' => e = .returned (.int .i64 r) ∧ Sep (fps []) w [] w' := by
  unfold ground_within.f at H
  go_enter Try.func109, Try.ntmps109
  by_cases c41 : a38 < 0
  · have H := if_yes c41 H
    have c41b0 : decide (a38 < 0) = true := decide_eq_true c41
    clear c41
    go_wp2_with fail
    go_ret
    rw [← some_eq H]
    exact ⟨(by first | rfl | (simp [IntKind.wrap_u32]; done)), HS.out⟩
  · have H := if_no c41 H
    have c41b0 : decide (a38 < 0) = false := decide_eq_false c41
    clear c41
    by_cases c42 : a38 ≥ a39
    · have H := if_yes c42 H
      have c42b0 : decide (a39 ≤ a38) = true := decide_eq_true c42
      clear c42
      go_wp2_with fail
      go_ret
      rw [← some_eq H]
      exact ⟨(by first | rfl | (simp [IntKind.wrap_u32]; done)), HS.out⟩
    · have H := if_no c42 H
      have c42b0 : decide (a39 ≤ a38) = false := decide_eq_false c42
      clear c42
      go_wp2_with fail
      go_ret
      rw [← some_eq H]
      exact ⟨(by first | rfl | (simp [IntKind.wrap_u32]; done)), HS.out⟩

set_option maxHeartbeats 30000000 in
set_option maxRecDepth 100000 in
theorem ground_reg.calls (a37 : Int) (r : Int) (w : World)   (HS : Aside0 (Sep (fps []) w [] w)) (H : Aside0 (ground_reg.f a37 = some r)) :
    Calls Try.prog 78 #[.int .i64 a37] w fun e w' => e = .returned (.int .i64 r) ∧ Sep (fps []) w [] w' := by
  unfold ground_reg.f at H
  go_enter Try.func78, Try.ntmps78
  go_wp2_with fail
  obtain ⟨t43, HA44, H⟩ := bind_some H
  refine (ground_within.calls a37 24 0 t43 _ ⟨Sep.start _⟩ HA44).mono ?_
  rintro e_ w45 ⟨rfl, hS⟩
  replace HS : Aside0 (Sep (fps []) w [] w45) := ⟨HS.out.call hS⟩
  clear hS
  go_wp2_with fail
  go_ret
  rw [← some_eq H]
  exact ⟨(by first | rfl | (simp [IntKind.wrap_u32]; done)), HS.out⟩

set_option maxHeartbeats 30000000 in
set_option maxRecDepth 100000 in
theorem store_Store_has_nil.calls (a50 : Int) (r : Bool) (w : World)   (HS : Aside0 (Sep (fps []) w [] w)) (H : Aside0 (store_Store_has_nil.f a50 = some r)) :
    Calls Try.prog 69 #[.pointer none, .int .i64 a50] w fun e w' => e = .returned (.bool r) ∧ Sep (fps []) w [] w' := by
  unfold store_Store_has_nil.f at H
  go_enter Try.func69, Try.ntmps69
  go_wp2_with fail
  go_ret
  rw [← some_eq H]
  exact ⟨(by first | rfl | (simp [IntKind.wrap_u32]; done)), HS.out⟩

set_option maxHeartbeats 30000000 in
set_option maxRecDepth 100000 in
theorem store_Store_Get_nil.calls (a49 : Int) (r : Int) (w : World)   (HS : Aside0 (Sep (fps []) w [] w)) (H : Aside0 (store_Store_Get_nil.f a49 = some r)) :
    Calls Try.prog 25 #[.pointer none, .int .i64 a49] w fun e w' => e = .returned (.int .u32 r) ∧ Sep (fps []) w [] w' := by
  unfold store_Store_Get_nil.f at H
  go_enter Try.func25, Try.ntmps25
  go_wp2_with fail
  obtain ⟨t51, HA52, H⟩ := bind_some H
  refine (store_Store_has_nil.calls a49 t51 _ ⟨Sep.start _⟩ HA52).mono ?_
  rintro e_ w53 ⟨rfl, hS⟩
  replace HS : Aside0 (Sep (fps []) w [] w53) := ⟨HS.out.call hS⟩
  clear hS
  by_cases c54 : t51 = true
  · have H := if_yes c54 H
    have c54b0 : t51 = true := c54
    have c54b1 : (!t51) = false := by rw [c54b0]; rfl
    try rw [c54b1]
    clear c54
    exact (none_no H).elim
  · have H := if_no c54 H
    have c54b0 : t51 = false := by simpa using c54
    have c54b1 : (!t51) = true := by rw [c54b0]; rfl
    try rw [c54b1]
    clear c54
    go_wp2_with fail
    go_ret
    rw [← some_eq H]
    exact ⟨(by first | rfl | (simp [IntKind.wrap_u32]; done)), HS.out⟩

set_option maxHeartbeats 30000000 in
set_option maxRecDepth 100000 in
theorem ground_Ground_Reg_nil.calls (a33 : Int) (r : Int) (w : World)   (HS : Aside0 (Sep (fps []) w [] w)) (H : Aside0 (ground_Ground_Reg_nil.f a33 = some r)) :
    Calls Try.prog 36 #[.pointer none, .int .i64 a33] w fun e w' => e = .returned (.int .i64 r) ∧ Sep (fps []) w [] w' := by
  unfold ground_Ground_Reg_nil.f at H
  go_enter Try.func36, Try.ntmps36
  go_wp2_with fail
  obtain ⟨t34, HA35, H⟩ := bind_some H
  refine (ground_Ground_all_nil.calls t34 _ ⟨Sep.start _⟩ HA35).mono ?_
  rintro e_ w36 ⟨rfl, hS⟩
  replace HS : Aside0 (Sep (fps []) w [] w36) := ⟨HS.out.call hS⟩
  clear hS
  go_wp2_with fail
  obtain ⟨t46, HA47, H⟩ := bind_some H
  refine (ground_reg.calls a33 t46 _ ⟨Sep.start _⟩ HA47).mono ?_
  rintro e_ w48 ⟨rfl, hS⟩
  replace HS : Aside0 (Sep (fps []) w [] w48) := ⟨HS.out.call hS⟩
  clear hS
  go_wp2_with fail
  obtain ⟨t55, HA56, H⟩ := bind_some H
  refine (store_Store_Get_nil.calls t46 t55 _ ⟨Sep.start _⟩ HA56).mono ?_
  rintro e_ w57 ⟨rfl, hS⟩
  replace HS : Aside0 (Sep (fps []) w [] w57) := ⟨HS.out.call hS⟩
  clear hS
  go_wp2_with fail
  go_ret
  rw [← some_eq H]
  exact ⟨(by first | rfl | (simp [IntKind.wrap_u32]; done)), HS.out⟩

set_option maxHeartbeats 30000000 in
set_option maxRecDepth 100000 in
theorem ground_Ground_Conf_nil.calls  (r : Int × Int × Int × Int) (w : World)   (HS : Aside0 (Sep (fps []) w [] w)) (H : Aside0 (ground_Ground_Conf_nil.f = some r)) :
    Calls Try.prog 39 #[.pointer none] w fun e w' => e = .returned (.agg #[.int .i64 r.1, .int .i64 r.2.1, .int .i64 r.2.2.1, .int .i64 r.2.2.2]) ∧ Sep (fps []) w [] w' := by
  unfold ground_Ground_Conf_nil.f at H
  go_enter Try.func39, Try.ntmps39
  go_wp2_with (first | ((with_reducible refine gate_dst (N := 2) rfl ?_); refine box_on ?hg (N := 2) ?hd (cs := #[.int .i64 0, .int .i64 0, .int .i64 0, .int .i64 0]) (t := 49) ?hr ?_; (case hd => rfl); (case hg => rfl); (case hr => first | (go_simp; done) | (go_simp; rfl)); intro g69 hg w70 hbox hb; replace HS : Aside0 (Sep (fps []) w [b2 g69 0 0 0 0] w70) := ⟨HS.out.box hg hbox hb⟩; clear hg hbox hb; have hc72 : w70.cell? ⟨g69, 0, none⟩ = some (.int .i64 0) := blk_cellv (HS.out.at0) 0 rfl; have hz73 : w70.frozen? ⟨g69, 0, none⟩ = false := blk_fz (HS.out.at0) 0; have hc74 : w70.cell? ⟨g69, 1, none⟩ = some (.int .i64 0) := blk_cellv (HS.out.at0) 1 rfl; have hz75 : w70.frozen? ⟨g69, 1, none⟩ = false := blk_fz (HS.out.at0) 1; have hc76 : w70.cell? ⟨g69, 2, none⟩ = some (.int .i64 0) := blk_cellv (HS.out.at0) 2 rfl; have hz77 : w70.frozen? ⟨g69, 2, none⟩ = false := blk_fz (HS.out.at0) 2; have hc78 : w70.cell? ⟨g69, 3, none⟩ = some (.int .i64 0) := blk_cellv (HS.out.at0) 3 rfl; have hz79 : w70.frozen? ⟨g69, 3, none⟩ = false := blk_fz (HS.out.at0) 3) | ((with_reducible refine gate_store (t := 49) (p := 2) rfl ?_); refine store_event (w1 := (World.setCell (World.setCell (World.setCell (World.setCell w70 ⟨g69, 0, none⟩ (.int .i64 0)) ⟨g69, 1, none⟩ (.int .i64 0)) ⟨g69, 2, none⟩ (.int .i64 0)) ⟨g69, 3, none⟩ (.int .i64 0))) rfl (t := 49) (p := 2) rfl rfl ?hr ?_; (case hr => first | (go_simp; done) | (go_simp; rfl)); intro w80 hst; clear hc72 hz73 hc74 hz75 hc76 hz77 hc78 hz79; replace HS : Aside0 (Sep (fps []) w [b2 g69 0 0 0 0] w80) := ⟨by rw [hst]; exact HS.out.setAll (l1 := []) (l2 := []) [.int .i64 0, .int .i64 0, .int .i64 0, .int .i64 0] rfl⟩; clear hst))
  have hc81 : w80.cell? ⟨g69, 0, none⟩ = some (.int .i64 0) := blk_cellv (HS.out.at0) 0 rfl
  have hc82 : w80.cell? ⟨g69, 1, none⟩ = some (.int .i64 0) := blk_cellv (HS.out.at0) 1 rfl
  have hc83 : w80.cell? ⟨g69, 2, none⟩ = some (.int .i64 0) := blk_cellv (HS.out.at0) 2 rfl
  have hc84 : w80.cell? ⟨g69, 3, none⟩ = some (.int .i64 0) := blk_cellv (HS.out.at0) 3 rfl
  refine bodyPost_ret (v := .agg #[.int .i64 0, .int .i64 0, .int .i64 0, .int .i64 0]) (by simp [results, Try.results39, go_sem, hc81, hc82, hc83, hc84]) rfl ?_
  rw [← some_eq H]
  exact ⟨(by first | rfl | (simp [IntKind.wrap_u32]; done)), HS.out.sub (.cons _ .slnil)⟩

set_option maxHeartbeats 30000000 in
set_option maxRecDepth 100000 in
theorem ground_Ground_word_nil.calls (a67 : Int) (a68 : Int) (r : Int) (w : World)   (HS : Aside0 (Sep (fps []) w [] w)) (H : Aside0 (ground_Ground_word_nil.f a67 a68 = some r)) :
    Calls Try.prog 87 #[.pointer none, .int .i64 a67, .int .i64 a68] w fun e w' => e = .returned (.int .i64 r) ∧ Sep (fps []) w [] w' := by
  unfold ground_Ground_word_nil.f at H
  go_enter Try.func87, Try.ntmps87
  go_wp2_with fail
  obtain ⟨t85, HA86, H⟩ := bind_some H
  refine (ground_Ground_Conf_nil.calls t85 _ ⟨Sep.start _⟩ HA86).mono ?_
  rintro e_ w87 ⟨rfl, hS⟩
  replace HS : Aside0 (Sep (fps []) w [] w87) := ⟨HS.out.call hS⟩
  clear hS
  go_wp2_with (first | ((with_reducible refine gate_dst (N := 7) rfl ?_); refine box_on ?hg (N := 7) ?hd (cs := #[.int .i64 0, .int .i64 0, .int .i64 0, .int .i64 0]) (t := 49) ?hr ?_; (case hd => rfl); (case hg => rfl); (case hr => first | (go_simp; done) | (go_simp; rfl)); intro g88 hg w89 hbox hb; replace HS : Aside0 (Sep (fps []) w [b2 g88 0 0 0 0] w89) := ⟨HS.out.box hg hbox hb⟩; clear hg hbox hb; have hc91 : w89.cell? ⟨g88, 0, none⟩ = some (.int .i64 0) := blk_cellv (HS.out.at0) 0 rfl; have hz92 : w89.frozen? ⟨g88, 0, none⟩ = false := blk_fz (HS.out.at0) 0; have hc93 : w89.cell? ⟨g88, 1, none⟩ = some (.int .i64 0) := blk_cellv (HS.out.at0) 1 rfl; have hz94 : w89.frozen? ⟨g88, 1, none⟩ = false := blk_fz (HS.out.at0) 1; have hc95 : w89.cell? ⟨g88, 2, none⟩ = some (.int .i64 0) := blk_cellv (HS.out.at0) 2 rfl; have hz96 : w89.frozen? ⟨g88, 2, none⟩ = false := blk_fz (HS.out.at0) 2; have hc97 : w89.cell? ⟨g88, 3, none⟩ = some (.int .i64 0) := blk_cellv (HS.out.at0) 3 rfl; have hz98 : w89.frozen? ⟨g88, 3, none⟩ = false := blk_fz (HS.out.at0) 3) | ((with_reducible refine gate_store (t := 49) (p := 7) rfl ?_); refine store_event (w1 := (World.setCell (World.setCell (World.setCell (World.setCell w89 ⟨g88, 0, none⟩ (.int .i64 t85.1)) ⟨g88, 1, none⟩ (.int .i64 t85.2.1)) ⟨g88, 2, none⟩ (.int .i64 t85.2.2.1)) ⟨g88, 3, none⟩ (.int .i64 t85.2.2.2))) rfl (t := 49) (p := 7) rfl rfl ?hr ?_; (case hr => first | (go_simp; done) | (go_simp; rfl)); intro w99 hst; clear hc91 hz92 hc93 hz94 hc95 hz96 hc97 hz98; replace HS : Aside0 (Sep (fps []) w [b2 g88 t85.1 t85.2.1 t85.2.2.1 t85.2.2.2] w99) := ⟨by rw [hst]; exact HS.out.setAll (l1 := []) (l2 := []) [.int .i64 t85.1, .int .i64 t85.2.1, .int .i64 t85.2.2.1, .int .i64 t85.2.2.2] rfl⟩; clear hst; have hc100 : w99.cell? ⟨g88, 0, none⟩ = some (.int .i64 t85.1) := blk_cellv (HS.out.at0) 0 rfl))
  clear hc100
  obtain ⟨t101, HA102, H⟩ := bind_some H
  refine (ground_within.calls a67 t85.1 0 t101 _ ⟨Sep.start _⟩ HA102).mono ?_
  rintro e_ w103 ⟨rfl, hS⟩
  replace HS : Aside0 (Sep (fps []) w [b2 g88 t85.1 t85.2.1 t85.2.2.1 t85.2.2.2] w103) := ⟨HS.out.call hS⟩
  clear hS
  by_cases c104 : t101 = (-1)
  · have H := if_yes c104 H
    have c104b0 : (t101 == (-1)) = true := beq_iff_eq.mpr c104
    have c104b1 : (t101 != (-1)) = false := bne_eq_false_iff_eq.mpr c104
    clear c104
    replace HS : Aside0 (Sep (fps []) w [] w103) := ⟨HS.out.sub (.cons _ .slnil)⟩
    go_wp2_with fail
    go_ret
    rw [← some_eq H]
    exact ⟨(by first | rfl | (simp [IntKind.wrap_u32]; done)), HS.out⟩
  · have H := if_no c104 H
    have c104b0 : (t101 == (-1)) = false := beq_eq_false_iff_ne.mpr c104
    have c104b1 : (t101 != (-1)) = true := bne_iff_ne.mpr c104
    clear c104
    have hc105 : w103.cell? ⟨g88, 1, none⟩ = some (.int .i64 t85.2.1) := blk_cellv (HS.out.at0) 1 rfl
    have hc106 : w103.cell? ⟨g88, 2, none⟩ = some (.int .i64 t85.2.2.1) := blk_cellv (HS.out.at0) 2 rfl
    go_wp2_with fail
    clear hc105 hc106
    obtain ⟨t107, HA108, H⟩ := bind_some H
    refine (ground_within.calls a68 t85.2.1 (wrap64 ((wrap64 (24 + t85.2.2.1)) + (wrap64 (a67 * t85.2.1)))) t107 _ ⟨Sep.start _⟩ HA108).mono ?_
    rintro e_ w109 ⟨rfl, hS⟩
    replace HS : Aside0 (Sep (fps []) w [b2 g88 t85.1 t85.2.1 t85.2.2.1 t85.2.2.2] w109) := ⟨HS.out.call hS⟩
    clear hS
    replace HS : Aside0 (Sep (fps []) w [] w109) := ⟨HS.out.sub (.cons _ .slnil)⟩
    go_wp2_with fail
    go_ret
    rw [← some_eq H]
    exact ⟨(by first | rfl | (simp [IntKind.wrap_u32]; done)), HS.out⟩

set_option maxHeartbeats 30000000 in
set_option maxRecDepth 100000 in
theorem ground_Ground_Word_nil.calls (a62 : Int) (a63 : Int) (r : Int) (w : World)   (HS : Aside0 (Sep (fps []) w [] w)) (H : Aside0 (ground_Ground_Word_nil.f a62 a63 = some r)) :
    Calls Try.prog 45 #[.pointer none, .int .i64 a62, .int .i64 a63] w fun e w' => e = .returned (.int .u32 r) ∧ Sep (fps []) w [] w' := by
  unfold ground_Ground_Word_nil.f at H
  go_enter Try.func45, Try.ntmps45
  go_wp2_with fail
  obtain ⟨t64, HA65, H⟩ := bind_some H
  refine (ground_Ground_all_nil.calls t64 _ ⟨Sep.start _⟩ HA65).mono ?_
  rintro e_ w66 ⟨rfl, hS⟩
  replace HS : Aside0 (Sep (fps []) w [] w66) := ⟨HS.out.call hS⟩
  clear hS
  go_wp2_with fail
  obtain ⟨t110, HA111, H⟩ := bind_some H
  refine (ground_Ground_word_nil.calls a62 a63 t110 _ ⟨Sep.start _⟩ HA111).mono ?_
  rintro e_ w112 ⟨rfl, hS⟩
  replace HS : Aside0 (Sep (fps []) w [] w112) := ⟨HS.out.call hS⟩
  clear hS
  go_wp2_with fail
  obtain ⟨t113, HA114, H⟩ := bind_some H
  refine (store_Store_Get_nil.calls t110 t113 _ ⟨Sep.start _⟩ HA114).mono ?_
  rintro e_ w115 ⟨rfl, hS⟩
  replace HS : Aside0 (Sep (fps []) w [] w115) := ⟨HS.out.call hS⟩
  clear hS
  go_wp2_with fail
  go_ret
  rw [← some_eq H]
  exact ⟨(by first | rfl | (simp [IntKind.wrap_u32]; done)), HS.out⟩

set_option maxHeartbeats 30000000 in
set_option maxRecDepth 100000 in
theorem store_Store_Put_nil.calls (a128 : Int) (a129 : Int) (r : Bool) (w : World)   (HS : Aside0 (Sep (fps []) w [] w)) (H : Aside0 (store_Store_Put_nil.f a128 a129 = some r)) :
    Calls Try.prog 22 #[.pointer none, .int .i64 a128, .int .u32 a129] w fun e w' => e = .returned (.bool r) ∧ Sep (fps []) w [] w' := by
  unfold store_Store_Put_nil.f at H
  go_enter Try.func22, Try.ntmps22
  go_wp2_with fail
  obtain ⟨t130, HA131, H⟩ := bind_some H
  refine (store_Store_has_nil.calls a128 t130 _ ⟨Sep.start _⟩ HA131).mono ?_
  rintro e_ w132 ⟨rfl, hS⟩
  replace HS : Aside0 (Sep (fps []) w [] w132) := ⟨HS.out.call hS⟩
  clear hS
  by_cases c133 : t130 = true
  · have H := if_yes c133 H
    have c133b0 : t130 = true := c133
    have c133b1 : (!t130) = false := by rw [c133b0]; rfl
    try rw [c133b1]
    clear c133
    exact (none_no H).elim
  · have H := if_no c133 H
    have c133b0 : t130 = false := by simpa using c133
    have c133b1 : (!t130) = true := by rw [c133b0]; rfl
    try rw [c133b1]
    clear c133
    go_wp2_with fail
    go_ret
    rw [← some_eq H]
    exact ⟨(by first | rfl | (simp [IntKind.wrap_u32]; done)), HS.out⟩

set_option maxHeartbeats 30000000 in
set_option maxRecDepth 100000 in
theorem ground_Ground_SetWord_nil.calls (a119 : Int) (a120 : Int) (a121 : Int) (r : Bool) (w : World)   (HS : Aside0 (Sep (fps []) w [] w)) (H : Aside0 (ground_Ground_SetWord_nil.f a119 a120 a121 = some r)) :
    Calls Try.prog 46 #[.pointer none, .int .i64 a119, .int .i64 a120, .int .u32 a121] w fun e w' => e = .returned (.bool r) ∧ Sep (fps []) w [] w' := by
  unfold ground_Ground_SetWord_nil.f at H
  go_enter Try.func46, Try.ntmps46
  go_wp2_with fail
  obtain ⟨t122, HA123, H⟩ := bind_some H
  refine (ground_Ground_all_nil.calls t122 _ ⟨Sep.start _⟩ HA123).mono ?_
  rintro e_ w124 ⟨rfl, hS⟩
  replace HS : Aside0 (Sep (fps []) w [] w124) := ⟨HS.out.call hS⟩
  clear hS
  go_wp2_with fail
  obtain ⟨t125, HA126, H⟩ := bind_some H
  refine (ground_Ground_word_nil.calls a119 a120 t125 _ ⟨Sep.start _⟩ HA126).mono ?_
  rintro e_ w127 ⟨rfl, hS⟩
  replace HS : Aside0 (Sep (fps []) w [] w127) := ⟨HS.out.call hS⟩
  clear hS
  go_wp2_with fail
  obtain ⟨t134, HA135, H⟩ := bind_some H
  refine (store_Store_Put_nil.calls t125 a121 t134 _ ⟨Sep.start _⟩ HA135).mono ?_
  rintro e_ w136 ⟨rfl, hS⟩
  replace HS : Aside0 (Sep (fps []) w [] w136) := ⟨HS.out.call hS⟩
  clear hS
  go_wp2_with fail
  go_ret
  rw [← some_eq H]
  exact ⟨(by first | rfl | (simp [IntKind.wrap_u32]; done)), HS.out⟩

set_option maxHeartbeats 30000000 in
set_option maxRecDepth 100000 in
theorem ground_Ground_set_nil.calls (a146 : Int) (a147 : Int) (r : Bool) (w : World)   (HS : Aside0 (Sep (fps []) w [] w)) (H : Aside0 (ground_Ground_set_nil.f a146 a147 = some r)) :
    Calls Try.prog 85 #[.pointer none, .int .i64 a146, .int .i64 a147] w fun e w' => e = .returned (.bool r) ∧ Sep (fps []) w [] w' := by
  unfold ground_Ground_set_nil.f at H
  go_enter Try.func85, Try.ntmps85
  by_cases c148 : a147 < 0
  · have H := if_yes c148 H
    have c148b0 : decide (a147 < 0) = true := decide_eq_true c148
    clear c148
    go_wp2_with fail
    go_ret
    rw [← some_eq H]
    exact ⟨(by first | rfl | (simp [IntKind.wrap_u32]; done)), HS.out⟩
  · have H := if_no c148 H
    have c148b0 : decide (a147 < 0) = false := decide_eq_false c148
    clear c148
    by_cases c149 : a147 > 4294967295
    · have H := if_yes c149 H
      have c149b0 : decide (4294967295 < a147) = true := decide_eq_true c149
      clear c149
      go_wp2_with fail
      go_ret
      rw [← some_eq H]
      exact ⟨(by first | rfl | (simp [IntKind.wrap_u32]; done)), HS.out⟩
    · have H := if_no c149 H
      have c149b0 : decide (4294967295 < a147) = false := decide_eq_false c149
      clear c149
      go_wp2_with fail
      obtain ⟨t150, HA151, H⟩ := bind_some H
      refine (ground_Ground_all_nil.calls t150 _ ⟨Sep.start _⟩ HA151).mono ?_
      rintro e_ w152 ⟨rfl, hS⟩
      replace HS : Aside0 (Sep (fps []) w [] w152) := ⟨HS.out.call hS⟩
      clear hS
      go_wp2_with fail
      obtain ⟨t153, HA154, H⟩ := bind_some H
      refine (store_Store_Put_nil.calls a146 ((a147) % 4294967296) t153 _ ⟨Sep.start _⟩ HA154).mono ?_
      rintro e_ w155 ⟨rfl, hS⟩
      replace HS : Aside0 (Sep (fps []) w [] w155) := ⟨HS.out.call hS⟩
      clear hS
      go_wp2_with fail
      go_ret
      rw [← some_eq H]
      exact ⟨(by first | rfl | (simp [IntKind.wrap_u32]; done)), HS.out⟩

set_option maxHeartbeats 30000000 in
set_option maxRecDepth 100000 in
theorem ground_Ground_SetReg_nil.calls (a141 : Int) (a142 : Int) (r : Bool) (w : World)   (HS : Aside0 (Sep (fps []) w [] w)) (H : Aside0 (ground_Ground_SetReg_nil.f a141 a142 = some r)) :
    Calls Try.prog 42 #[.pointer none, .int .i64 a141, .int .i64 a142] w fun e w' => e = .returned (.bool r) ∧ Sep (fps []) w [] w' := by
  unfold ground_Ground_SetReg_nil.f at H
  go_enter Try.func42, Try.ntmps42
  go_wp2_with fail
  obtain ⟨t143, HA144, H⟩ := bind_some H
  refine (ground_reg.calls a141 t143 _ ⟨Sep.start _⟩ HA144).mono ?_
  rintro e_ w145 ⟨rfl, hS⟩
  replace HS : Aside0 (Sep (fps []) w [] w145) := ⟨HS.out.call hS⟩
  clear hS
  go_wp2_with fail
  obtain ⟨t156, HA157, H⟩ := bind_some H
  refine (ground_Ground_set_nil.calls t143 a142 t156 _ ⟨Sep.start _⟩ HA157).mono ?_
  rintro e_ w158 ⟨rfl, hS⟩
  replace HS : Aside0 (Sep (fps []) w [] w158) := ⟨HS.out.call hS⟩
  clear hS
  go_wp2_with fail
  go_ret
  rw [← some_eq H]
  exact ⟨(by first | rfl | (simp [IntKind.wrap_u32]; done)), HS.out⟩

set_option maxHeartbeats 30000000 in
set_option maxRecDepth 100000 in
theorem chain_Take_nil.calls (a3 : Int) (r : Int × Bool) (w : World)   (HS : Aside0 (Sep (fps []) w [] w)) (H : Aside0 (chain_Take_nil.f a3 = some r)) :
    Calls Try.prog 54 #[.pointer none, .int .i64 a3] w fun e w' => e = .returned (.tuple #[.int .i64 r.1, .bool r.2]) ∧ Sep (fps []) w [] w' := by
  unfold chain_Take_nil.f at H
  go_enter Try.func54, Try.ntmps54
  go_wp2_with fail
  obtain ⟨t18, HA19, H⟩ := bind_some H
  refine (chain_of_nil.calls a3 t18 _ ⟨Sep.start _⟩ HA19).mono ?_
  rintro e_ w20 ⟨rfl, hS⟩
  replace HS : Aside0 (Sep (fps []) w [] w20) := ⟨HS.out.call hS⟩
  clear hS
  by_cases c31 : t18.2.2.2 = true
  · have H := if_yes c31 H
    have c31b0 : t18.2.2.2 = true := c31
    have c31b1 : (!t18.2.2.2) = false := by rw [c31b0]; rfl
    try rw [c31b1]
    clear c31
    go_wp2_with (first | ((with_reducible refine gate_dst (N := 6) rfl ?_); refine box_on ?hg (N := 6) ?hd (cs := #[.int .i64 0, .int .i64 0, .int .i64 0]) (t := 134) ?hr ?_; (case hd => rfl); (case hg => rfl); (case hr => first | (go_simp; done) | (go_simp; rfl)); intro g21 hg w22 hbox hb; replace HS : Aside0 (Sep (fps []) w [b1 g21 0 0 0] w22) := ⟨HS.out.box hg hbox hb⟩; clear hg hbox hb; have hc24 : w22.cell? ⟨g21, 0, none⟩ = some (.int .i64 0) := blk_cellv (HS.out.at0) 0 rfl; have hz25 : w22.frozen? ⟨g21, 0, none⟩ = false := blk_fz (HS.out.at0) 0; have hc26 : w22.cell? ⟨g21, 1, none⟩ = some (.int .i64 0) := blk_cellv (HS.out.at0) 1 rfl; have hz27 : w22.frozen? ⟨g21, 1, none⟩ = false := blk_fz (HS.out.at0) 1; have hc28 : w22.cell? ⟨g21, 2, none⟩ = some (.int .i64 0) := blk_cellv (HS.out.at0) 2 rfl; have hz29 : w22.frozen? ⟨g21, 2, none⟩ = false := blk_fz (HS.out.at0) 2) | ((with_reducible refine gate_store (t := 134) (p := 6) rfl ?_); refine store_event (w1 := (World.setCell (World.setCell (World.setCell w22 ⟨g21, 0, none⟩ (.int .i64 t18.1)) ⟨g21, 1, none⟩ (.int .i64 t18.2.1)) ⟨g21, 2, none⟩ (.int .i64 t18.2.2.1))) rfl (t := 134) (p := 6) rfl rfl ?hr ?_; (case hr => first | (go_simp; done) | (go_simp; rfl)); intro w30 hst; clear hc24 hz25 hc26 hz27 hc28 hz29; replace HS : Aside0 (Sep (fps []) w [b1 g21 t18.1 t18.2.1 t18.2.2.1] w30) := ⟨by rw [hst]; exact HS.out.setAll (l1 := []) (l2 := []) [.int .i64 t18.1, .int .i64 t18.2.1, .int .i64 t18.2.2.1] rfl⟩; clear hst; have hc32 : w30.cell? ⟨g21, 0, none⟩ = some (.int .i64 t18.1) := blk_cellv (HS.out.at0) 0 rfl))
    clear hc32
    obtain ⟨t58, HA59, H⟩ := bind_some H
    refine (ground_Ground_Reg_nil.calls t18.1 t58 _ ⟨Sep.start _⟩ HA59).mono ?_
    rintro e_ w60 ⟨rfl, hS⟩
    replace HS : Aside0 (Sep (fps []) w [b1 g21 t18.1 t18.2.1 t18.2.2.1] w60) := ⟨HS.out.call hS⟩
    clear hS
    by_cases c61 : t58 = 0
    · have H := if_yes c61 H
      have c61b0 : (t58 == 0) = true := beq_iff_eq.mpr c61
      have c61b1 : (t58 != 0) = false := bne_eq_false_iff_eq.mpr c61
      clear c61
      replace HS : Aside0 (Sep (fps []) w [] w60) := ⟨HS.out.sub (.cons _ .slnil)⟩
      go_wp2_with fail
      go_ret2
      rw [← some_eq H]
      exact ⟨(by first | rfl | (simp [IntKind.wrap_u32]; done)), HS.out⟩
    · have H := if_no c61 H
      have c61b0 : (t58 == 0) = false := beq_eq_false_iff_ne.mpr c61
      have c61b1 : (t58 != 0) = true := bne_iff_ne.mpr c61
      clear c61
      go_wp2_with fail
      obtain ⟨t116, HA117, H⟩ := bind_some H
      refine (ground_Ground_Word_nil.calls (wrap64 (t58 - 1)) 5 t116 _ ⟨Sep.start _⟩ HA117).mono ?_
      rintro e_ w118 ⟨rfl, hS⟩
      replace HS : Aside0 (Sep (fps []) w [b1 g21 t18.1 t18.2.1 t18.2.2.1] w118) := ⟨HS.out.call hS⟩
      clear hS
      go_wp2_with fail
      obtain ⟨t137, HA138, H⟩ := bind_some H
      refine (ground_Ground_SetWord_nil.calls (wrap64 (t58 - 1)) 5 0 t137 _ ⟨Sep.start _⟩ HA138).mono ?_
      rintro e_ w139 ⟨rfl, hS⟩
      replace HS : Aside0 (Sep (fps []) w [b1 g21 t18.1 t18.2.1 t18.2.2.1] w139) := ⟨HS.out.call hS⟩
      clear hS
      have hc140 : w139.cell? ⟨g21, 0, none⟩ = some (.int .i64 t18.1) := blk_cellv (HS.out.at0) 0 rfl
      go_wp2_with fail
      clear hc140
      obtain ⟨t159, HA160, H⟩ := bind_some H
      refine (ground_Ground_SetReg_nil.calls t18.1 (wrap64 (t116)) t159 _ ⟨Sep.start _⟩ HA160).mono ?_
      rintro e_ w161 ⟨rfl, hS⟩
      replace HS : Aside0 (Sep (fps []) w [b1 g21 t18.1 t18.2.1 t18.2.2.1] w161) := ⟨HS.out.call hS⟩
      clear hS
      by_cases c162 : (wrap64 (t116)) = 0
      · have H := if_yes c162 H
        have c162b0 : ((wrap64 (t116)) == 0) = true := beq_iff_eq.mpr c162
        have c162b1 : ((wrap64 (t116)) != 0) = false := bne_eq_false_iff_eq.mpr c162
        clear c162
        have hc163 : w161.cell? ⟨g21, 1, none⟩ = some (.int .i64 t18.2.1) := blk_cellv (HS.out.at0) 1 rfl
        go_wp2_with fail
        clear hc163
        obtain ⟨t164, HA165, H⟩ := bind_some H
        refine (ground_Ground_SetReg_nil.calls t18.2.1 0 t164 _ ⟨Sep.start _⟩ HA165).mono ?_
        rintro e_ w166 ⟨rfl, hS⟩
        replace HS : Aside0 (Sep (fps []) w [b1 g21 t18.1 t18.2.1 t18.2.2.1] w166) := ⟨HS.out.call hS⟩
        clear hS
        go_wp2_with fail
        refine start_ (n := 9) (S := (fun w' => w'.cell? ⟨g21, 2, none⟩ = some (.int .i64 t18.2.2.1))) (ds := []) #[false, false, false, false, false, false, false, false, false] (by kernel_rfl) rfl rfl (blk_cellv ((HS.out.drew).at0) 2 rfl) (fun hHeld => ?_)
        have HS_ := Aside0.mk HS.out.drew
        clear HS
        generalize World.drew _ = w168 at HS_ hHeld ⊢
        have HS := HS_
        clear HS_
        refine pure_ (i := 0) (N := some 44) (v := ?_) (a' := ?_) #[true, false, false, false, false, false, false, false, false] rfl rfl (by kernel_rfl) (fun _ _ _ h => h) (Or.inl ⟨by rfl, ?_⟩) ?_ ?_
        rotate_left
        · intro w'
          go_simp
          with_reducible rfl
        rotate_left
        · simp only [Act.put, List.setIfInBounds_toArray, List.set_cons_zero, List.set_cons_succ, i64_w, i32_w]
          rfl
        refine pure_ (i := 1) (N := some 45) (v := ?_) (a' := ?_) #[true, true, false, false, false, false, false, false, false] rfl rfl (by kernel_rfl) (fun _ _ _ h => h) (Or.inl ⟨by rfl, ?_⟩) ?_ ?_
        rotate_left
        · intro w'
          go_simp
          with_reducible rfl
        rotate_left
        · simp only [Act.put, List.setIfInBounds_toArray, List.set_cons_zero, List.set_cons_succ, i64_w, i32_w]
          rfl
        refine pure_ (i := 3) (N := some 47) (v := ?_) (a' := ?_) #[true, true, false, true, false, false, false, false, false] rfl rfl (by kernel_rfl) (fun _ _ _ h => h) (Or.inl ⟨by rfl, ?_⟩) ?_ ?_
        rotate_left
        · intro w'
          go_simp
          with_reducible rfl
        rotate_left
        · simp only [Act.put, List.setIfInBounds_toArray, List.set_cons_zero, List.set_cons_succ, i64_w, i32_w]
          rfl
        refine pure_ (i := 4) (N := some 48) (v := ?_) (a' := ?_) #[true, true, false, true, true, false, false, false, false] rfl rfl (by kernel_rfl) (fun _ _ _ h => h) (Or.inl ⟨by rfl, ?_⟩) ?_ ?_
        rotate_left
        · intro w'
          go_simp
          with_reducible rfl
        rotate_left
        · simp only [Act.put, List.setIfInBounds_toArray, List.set_cons_zero, List.set_cons_succ, i64_w, i32_w]
          rfl
        refine take_ (i := 2) (N := some 46) (v := ?_) (a' := ?_) #[true, true, true, true, true, false, false, false, false] rfl rfl (by kernel_rfl) (fun _ _ _ h => h) (Or.inl ⟨by rfl, ?_⟩) hHeld ?_ ?_
        rotate_left
        · rintro w' hS'
          have s0 := hS'
          go_simp
          with_reducible rfl
        rotate_left
        · simp only [Act.put, List.setIfInBounds_toArray, List.set_cons_zero, List.set_cons_succ, i64_w, i32_w]
          rfl
        refine take_ (i := 5) (N := some 49) (v := ?_) (a' := ?_) #[true, true, true, true, true, true, false, false, false] rfl rfl (by kernel_rfl) (fun _ _ _ h => h) (Or.inl ⟨by rfl, ?_⟩) hHeld ?_ ?_
        rotate_left
        · rintro w' hS'
          have s0 := hS'
          go_simp
          with_reducible rfl
        rotate_left
        · simp only [Act.put, List.setIfInBounds_toArray, List.set_cons_zero, List.set_cons_succ, i64_w, i32_w]
          rfl
        refine one_ (i := 6) (N := some 50) #[true, true, true, true, true, true, true, false, false] rfl rfl (by kernel_rfl) (by decide) (fun K hK => ?_)
        obtain ⟨t169, HA170, H⟩ := bind_some H
        refine goes_ Try.func36 (by kernel_rfl) rfl #[.pointer none, .int .i64 t18.2.2.1] (by rfl) rfl rfl (by (try simp only [List.map_toArray, List.map_cons, List.map_nil]); first | done | rfl) ?_
        refine (ground_Ground_Reg_nil.calls t18.2.2.1 t169 _ ⟨Sep.start _⟩ HA170).mono ?_
        rintro e_ w171 ⟨rfl, hS⟩
        replace HS : Aside0 (Sep (fps []) w [b1 g21 t18.1 t18.2.1 t18.2.2.1] w171) := ⟨HS.out.call hS⟩
        clear hS
        refine ⟨_, rfl, ?_⟩
        refine hK.out _ _ (blk_cellv (HS.out.at0) 2 rfl) (fun hHeld => ?_)
        clear hK K
        refine norm_ (a' := ?_) ?_ ?_
        rotate_left
        · show Act.put _ (some 50) _ = _
          simp only [Act.put, List.setIfInBounds_toArray, List.set_cons_zero, List.set_cons_succ, i64_w, i32_w]
          rfl
        refine pure_ (i := 7) (N := some 51) (v := ?_) (a' := ?_) #[true, true, true, true, true, true, true, true, false] rfl rfl (by kernel_rfl) (fun _ _ _ h => h) (Or.inl ⟨by rfl, ?_⟩) ?_ ?_
        rotate_left
        · intro w'
          go_simp
          with_reducible rfl
        rotate_left
        · simp only [Act.put, List.setIfInBounds_toArray, List.set_cons_zero, List.set_cons_succ, i64_w, i32_w]
          rfl
        refine one_ (i := 8) (N := some 52) #[true, true, true, true, true, true, true, true, true] rfl rfl (by kernel_rfl) (by decide) (fun K hK => ?_)
        obtain ⟨t172, HA173, H⟩ := bind_some H
        refine goes_ Try.func42 (by kernel_rfl) rfl #[.pointer none, .int .i64 t18.2.2.1, .int .i64 (wrap64 (t169 - 1))] (by rfl) rfl rfl (by (try simp only [List.map_toArray, List.map_cons, List.map_nil]); first | done | rfl) ?_
        refine (ground_Ground_SetReg_nil.calls t18.2.2.1 (wrap64 (t169 - 1)) t172 _ ⟨Sep.start _⟩ HA173).mono ?_
        rintro e_ w174 ⟨rfl, hS⟩
        replace HS : Aside0 (Sep (fps []) w [b1 g21 t18.1 t18.2.1 t18.2.2.1] w174) := ⟨HS.out.call hS⟩
        clear hS
        refine ⟨_, rfl, ?_⟩
        refine hK.out _ _ (blk_cellv (HS.out.at0) 2 rfl) (fun hHeld => ?_)
        clear hK K
        refine norm_ (a' := ?_) ?_ ?_
        rotate_left
        · show Act.put _ (some 52) _ = _
          simp only [Act.put, List.setIfInBounds_toArray, List.set_cons_zero, List.set_cons_succ, i64_w, i32_w]
          rfl
        refine done_ (by kernel_rfl) ?_
        replace HS : Aside0 (Sep (fps []) w [] w174) := ⟨HS.out.sub (.cons _ .slnil)⟩
        go_wp2_with fail
        go_ret2
        rw [← some_eq H]
        exact ⟨(by first | rfl | (simp [IntKind.wrap_u32]; done)), HS.out⟩
      · have H := if_no c162 H
        have c162b0 : ((wrap64 (t116)) == 0) = false := beq_eq_false_iff_ne.mpr c162
        have c162b1 : ((wrap64 (t116)) != 0) = true := bne_iff_ne.mpr c162
        clear c162
        go_wp2_with fail
        refine start_ (n := 9) (S := (fun w' => w'.cell? ⟨g21, 2, none⟩ = some (.int .i64 t18.2.2.1))) (ds := []) #[false, false, false, false, false, false, false, false, false] (by kernel_rfl) rfl rfl (blk_cellv ((HS.out.drew).at0) 2 rfl) (fun hHeld => ?_)
        have HS_ := Aside0.mk HS.out.drew
        clear HS
        generalize World.drew _ = w176 at HS_ hHeld ⊢
        have HS := HS_
        clear HS_
        refine pure_ (i := 0) (N := some 44) (v := ?_) (a' := ?_) #[true, false, false, false, false, false, false, false, false] rfl rfl (by kernel_rfl) (fun _ _ _ h => h) (Or.inl ⟨by rfl, ?_⟩) ?_ ?_
        rotate_left
        · intro w'
          go_simp
          with_reducible rfl
        rotate_left
        · simp only [Act.put, List.setIfInBounds_toArray, List.set_cons_zero, List.set_cons_succ, i64_w, i32_w]
          rfl
        refine pure_ (i := 1) (N := some 45) (v := ?_) (a' := ?_) #[true, true, false, false, false, false, false, false, false] rfl rfl (by kernel_rfl) (fun _ _ _ h => h) (Or.inl ⟨by rfl, ?_⟩) ?_ ?_
        rotate_left
        · intro w'
          go_simp
          with_reducible rfl
        rotate_left
        · simp only [Act.put, List.setIfInBounds_toArray, List.set_cons_zero, List.set_cons_succ, i64_w, i32_w]
          rfl
        refine pure_ (i := 3) (N := some 47) (v := ?_) (a' := ?_) #[true, true, false, true, false, false, false, false, false] rfl rfl (by kernel_rfl) (fun _ _ _ h => h) (Or.inl ⟨by rfl, ?_⟩) ?_ ?_
        rotate_left
        · intro w'
          go_simp
          with_reducible rfl
        rotate_left
        · simp only [Act.put, List.setIfInBounds_toArray, List.set_cons_zero, List.set_cons_succ, i64_w, i32_w]
          rfl
        refine pure_ (i := 4) (N := some 48) (v := ?_) (a' := ?_) #[true, true, false, true, true, false, false, false, false] rfl rfl (by kernel_rfl) (fun _ _ _ h => h) (Or.inl ⟨by rfl, ?_⟩) ?_ ?_
        rotate_left
        · intro w'
          go_simp
          with_reducible rfl
        rotate_left
        · simp only [Act.put, List.setIfInBounds_toArray, List.set_cons_zero, List.set_cons_succ, i64_w, i32_w]
          rfl
        refine take_ (i := 2) (N := some 46) (v := ?_) (a' := ?_) #[true, true, true, true, true, false, false, false, false] rfl rfl (by kernel_rfl) (fun _ _ _ h => h) (Or.inl ⟨by rfl, ?_⟩) hHeld ?_ ?_
        rotate_left
        · rintro w' hS'
          have s0 := hS'
          go_simp
          with_reducible rfl
        rotate_left
        · simp only [Act.put, List.setIfInBounds_toArray, List.set_cons_zero, List.set_cons_succ, i64_w, i32_w]
          rfl
        refine take_ (i := 5) (N := some 49) (v := ?_) (a' := ?_) #[true, true, true, true, true, true, false, false, false] rfl rfl (by kernel_rfl) (fun _ _ _ h => h) (Or.inl ⟨by rfl, ?_⟩) hHeld ?_ ?_
        rotate_left
        · rintro w' hS'
          have s0 := hS'
          go_simp
          with_reducible rfl
        rotate_left
        · simp only [Act.put, List.setIfInBounds_toArray, List.set_cons_zero, List.set_cons_succ, i64_w, i32_w]
          rfl
        refine one_ (i := 6) (N := some 50) #[true, true, true, true, true, true, true, false, false] rfl rfl (by kernel_rfl) (by decide) (fun K hK => ?_)
        obtain ⟨t169, HA177, H⟩ := bind_some H
        refine goes_ Try.func36 (by kernel_rfl) rfl #[.pointer none, .int .i64 t18.2.2.1] (by rfl) rfl rfl (by (try simp only [List.map_toArray, List.map_cons, List.map_nil]); first | done | rfl) ?_
        refine (ground_Ground_Reg_nil.calls t18.2.2.1 t169 _ ⟨Sep.start _⟩ HA177).mono ?_
        rintro e_ w178 ⟨rfl, hS⟩
        replace HS : Aside0 (Sep (fps []) w [b1 g21 t18.1 t18.2.1 t18.2.2.1] w178) := ⟨HS.out.call hS⟩
        clear hS
        refine ⟨_, rfl, ?_⟩
        refine hK.out _ _ (blk_cellv (HS.out.at0) 2 rfl) (fun hHeld => ?_)
        clear hK K
        refine norm_ (a' := ?_) ?_ ?_
        rotate_left
        · show Act.put _ (some 50) _ = _
          simp only [Act.put, List.setIfInBounds_toArray, List.set_cons_zero, List.set_cons_succ, i64_w, i32_w]
          rfl
        refine pure_ (i := 7) (N := some 51) (v := ?_) (a' := ?_) #[true, true, true, true, true, true, true, true, false] rfl rfl (by kernel_rfl) (fun _ _ _ h => h) (Or.inl ⟨by rfl, ?_⟩) ?_ ?_
        rotate_left
        · intro w'
          go_simp
          with_reducible rfl
        rotate_left
        · simp only [Act.put, List.setIfInBounds_toArray, List.set_cons_zero, List.set_cons_succ, i64_w, i32_w]
          rfl
        refine one_ (i := 8) (N := some 52) #[true, true, true, true, true, true, true, true, true] rfl rfl (by kernel_rfl) (by decide) (fun K hK => ?_)
        obtain ⟨t172, HA179, H⟩ := bind_some H
        refine goes_ Try.func42 (by kernel_rfl) rfl #[.pointer none, .int .i64 t18.2.2.1, .int .i64 (wrap64 (t169 - 1))] (by rfl) rfl rfl (by (try simp only [List.map_toArray, List.map_cons, List.map_nil]); first | done | rfl) ?_
        refine (ground_Ground_SetReg_nil.calls t18.2.2.1 (wrap64 (t169 - 1)) t172 _ ⟨Sep.start _⟩ HA179).mono ?_
        rintro e_ w180 ⟨rfl, hS⟩
        replace HS : Aside0 (Sep (fps []) w [b1 g21 t18.1 t18.2.1 t18.2.2.1] w180) := ⟨HS.out.call hS⟩
        clear hS
        refine ⟨_, rfl, ?_⟩
        refine hK.out _ _ (blk_cellv (HS.out.at0) 2 rfl) (fun hHeld => ?_)
        clear hK K
        refine norm_ (a' := ?_) ?_ ?_
        rotate_left
        · show Act.put _ (some 52) _ = _
          simp only [Act.put, List.setIfInBounds_toArray, List.set_cons_zero, List.set_cons_succ, i64_w, i32_w]
          rfl
        refine done_ (by kernel_rfl) ?_
        replace HS : Aside0 (Sep (fps []) w [] w180) := ⟨HS.out.sub (.cons _ .slnil)⟩
        go_wp2_with fail
        go_ret2
        rw [← some_eq H]
        exact ⟨(by first | rfl | (simp [IntKind.wrap_u32]; done)), HS.out⟩
  · have H := if_no c31 H
    have c31b0 : t18.2.2.2 = false := by simpa using c31
    have c31b1 : (!t18.2.2.2) = true := by rw [c31b0]; rfl
    try rw [c31b1]
    clear c31
    go_wp2_with (first | ((with_reducible refine gate_dst (N := 6) rfl ?_); refine box_on ?hg (N := 6) ?hd (cs := #[.int .i64 0, .int .i64 0, .int .i64 0]) (t := 134) ?hr ?_; (case hd => rfl); (case hg => rfl); (case hr => first | (go_simp; done) | (go_simp; rfl)); intro g21 hg w22 hbox hb; replace HS : Aside0 (Sep (fps []) w [b1 g21 0 0 0] w22) := ⟨HS.out.box hg hbox hb⟩; clear hg hbox hb; have hc24 : w22.cell? ⟨g21, 0, none⟩ = some (.int .i64 0) := blk_cellv (HS.out.at0) 0 rfl; have hz25 : w22.frozen? ⟨g21, 0, none⟩ = false := blk_fz (HS.out.at0) 0; have hc26 : w22.cell? ⟨g21, 1, none⟩ = some (.int .i64 0) := blk_cellv (HS.out.at0) 1 rfl; have hz27 : w22.frozen? ⟨g21, 1, none⟩ = false := blk_fz (HS.out.at0) 1; have hc28 : w22.cell? ⟨g21, 2, none⟩ = some (.int .i64 0) := blk_cellv (HS.out.at0) 2 rfl; have hz29 : w22.frozen? ⟨g21, 2, none⟩ = false := blk_fz (HS.out.at0) 2) | ((with_reducible refine gate_store (t := 134) (p := 6) rfl ?_); refine store_event (w1 := (World.setCell (World.setCell (World.setCell w22 ⟨g21, 0, none⟩ (.int .i64 t18.1)) ⟨g21, 1, none⟩ (.int .i64 t18.2.1)) ⟨g21, 2, none⟩ (.int .i64 t18.2.2.1))) rfl (t := 134) (p := 6) rfl rfl ?hr ?_; (case hr => first | (go_simp; done) | (go_simp; rfl)); intro w30 hst; clear hc24 hz25 hc26 hz27 hc28 hz29; replace HS : Aside0 (Sep (fps []) w [b1 g21 t18.1 t18.2.1 t18.2.2.1] w30) := ⟨by rw [hst]; exact HS.out.setAll (l1 := []) (l2 := []) [.int .i64 t18.1, .int .i64 t18.2.1, .int .i64 t18.2.2.1] rfl⟩; clear hst; replace HS : Aside0 (Sep (fps []) w [] w30) := ⟨HS.out.sub (.cons _ .slnil)⟩))
    go_ret2
    rw [← some_eq H]
    exact ⟨(by first | rfl | (simp [IntKind.wrap_u32]; done)), HS.out⟩

set_option maxHeartbeats 30000000 in
set_option maxRecDepth 100000 in
theorem ground_Ground_Wipe_nil.calls (k : Nat) (a185 : Int) (r : Int) (w : World)   (HS : Aside0 (Sep (fps []) w [] w)) (H : Aside0 (ground_Ground_Wipe_nil.f k a185 = some r)) :
    Calls Try.prog 47 #[.pointer none, .int .i64 a185] w fun e w' => e = .returned (.int .i64 r) ∧ Sep (fps []) w [] w' := by
  unfold ground_Ground_Wipe_nil.f at H
  go_enter Try.func47, Try.ntmps47
  go_wp2_with fail
  obtain ⟨t186, HA187, H⟩ := bind_some H
  refine (ground_Ground_Conf_nil.calls t186 _ ⟨Sep.start _⟩ HA187).mono ?_
  rintro e_ w188 ⟨rfl, hS⟩
  replace HS : Aside0 (Sep (fps []) w [] w188) := ⟨HS.out.call hS⟩
  clear hS
  have fl189 : ∀ w, (Instr.field 49 (.agg #[.int .i64 t186.1, .int .i64 t186.2.1, .int .i64 t186.2.2.1, .int .i64 t186.2.2.2]) 1).run Try.prog w = .ok (.int .i64 t186.2.1) w := fun _ => by kernel_rfl
  go_wp2_with fail
  clear fl189
  obtain ⟨o191, AL192, H⟩ := bind_some H
  go_loopg [5, 10] k (fun kq v5 v10 wc => ∃ (x195 : Int) (x196 : Int), v5 = .int .i64 x195 ∧ v10 = .int .i64 x196 ∧ Aside0 (ground_Ground_Wipe_nil.lo0 kq a185 t186 x195 x196 = some o191) ∧ Aside0 (Sep (fps []) w [] wc))
  case atStart => exact ⟨(0), (0), (by first | rfl | (simp [IntKind.wrap_u32]; done)), (by first | rfl | (simp [IntKind.wrap_u32]; done)), AL192, ⟨HS.out⟩⟩
  case round =>
    clear AL192 HS
    obtain ⟨x195, x196, rfl, rfl, AL192, HS⟩ := hrel
    obtain ⟨w193, rfl⟩ : ∃ x : World, x = wr := ⟨_, rfl⟩
    cases gk with
    | zero => exact absurd AL192.out (by simp [ground_Ground_Wipe_nil.lo0])
    | succ k194 =>
      have AL0 := AL192.out
      rw [ground_Ground_Wipe_nil.lo0] at AL0
      clear AL192
      have AL192 := Aside0.mk AL0
      clear AL0
      by_cases c197 : x196 < t186.2.1
      · have AL192 := if_yes c197 AL192
        have c197b0 : decide (x196 < t186.2.1) = true := decide_eq_true c197
        clear c197
        go_wp2_with fail
        obtain ⟨t198, HA199, AL192⟩ := bind_some AL192
        refine (ground_Ground_SetWord_nil.calls a185 x196 0 t198 _ ⟨Sep.start _⟩ HA199).mono ?_
        rintro e_ w200 ⟨rfl, hS⟩
        replace HS : Aside0 (Sep (fps []) w [] w200) := ⟨HS.out.call hS⟩
        clear hS
        by_cases c201 : t198 = true
        · have AL192 := if_yes c201 AL192
          have c201b0 : t198 = true := c201
          have c201b1 : (!t198) = false := by rw [c201b0]; rfl
          clear c201
          go_wp2_with fail
          go_roundg k194
          case measure => exact Nat.lt_succ_self _
          case rel => exact ⟨(wrap64 (x195 + 1)), (wrap64 (x196 + 1)), (by first | rfl | (simp [IntKind.wrap_u32]; done)), (by first | rfl | (simp [IntKind.wrap_u32]; done)), Aside0.mk AL192.out, ⟨HS.out⟩⟩
        · have AL192 := if_no c201 AL192
          have c201b0 : t198 = false := by simpa using c201
          have c201b1 : (!t198) = true := by rw [c201b0]; rfl
          clear c201
          go_wp2_with fail
          go_roundg k194
          case measure => exact Nat.lt_succ_self _
          case rel => exact ⟨(x195), (wrap64 (x196 + 1)), (by first | rfl | (simp [IntKind.wrap_u32]; done)), (by first | rfl | (simp [IntKind.wrap_u32]; done)), Aside0.mk AL192.out, ⟨HS.out⟩⟩
      · have AL192 := if_no c197 AL192
        have c197b0 : decide (x196 < t186.2.1) = false := decide_eq_false c197
        clear c197
        have ho := some_eq AL192
        subst ho
        clear AL192
        go_wp2_with fail
        go_ret
        rw [← some_eq H]
        exact ⟨(by first | rfl | (simp [IntKind.wrap_u32]; done)), HS.out⟩

set_option maxHeartbeats 30000000 in
set_option maxRecDepth 100000 in
theorem pool_Take_nil.calls (k : Nat)  (r : Int × Bool) (w : World)   (HS : Aside0 (Sep (fps []) w [] w)) (H : Aside0 (pool_Take_nil.f k = some r)) :
    Calls Try.prog 63 #[.pointer none] w fun e w' => e = .returned (.tuple #[.int .i64 r.1, .bool r.2]) ∧ Sep (fps []) w [] w' := by
  unfold pool_Take_nil.f at H
  go_enter Try.func63, Try.ntmps63
  go_wp2_with fail
  obtain ⟨t181, HA182, H⟩ := bind_some H
  refine (chain_Take_nil.calls 0 t181 _ ⟨Sep.start _⟩ HA182).mono ?_
  rintro e_ w183 ⟨rfl, hS⟩
  replace HS : Aside0 (Sep (fps []) w [] w183) := ⟨HS.out.call hS⟩
  clear hS
  by_cases c184 : t181.2 = true
  · have H := if_yes c184 H
    have c184b0 : t181.2 = true := c184
    have c184b1 : (!t181.2) = false := by rw [c184b0]; rfl
    try rw [c184b1]
    clear c184
    go_wp2_with fail
    obtain ⟨t203, HA204, H⟩ := bind_some H
    refine (ground_Ground_Wipe_nil.calls _ t181.1 t203 _ ⟨Sep.start _⟩ HA204).mono ?_
    rintro e_ w205 ⟨rfl, hS⟩
    replace HS : Aside0 (Sep (fps []) w [] w205) := ⟨HS.out.call hS⟩
    clear hS
    go_wp2_with fail
    go_ret2
    rw [← some_eq H]
    exact ⟨(by first | rfl | (simp [IntKind.wrap_u32]; done)), HS.out⟩
  · have H := if_no c184 H
    have c184b0 : t181.2 = false := by simpa using c184
    have c184b1 : (!t181.2) = true := by rw [c184b0]; rfl
    try rw [c184b1]
    clear c184
    go_wp2_with fail
    go_ret2
    rw [← some_eq H]
    exact ⟨(by first | rfl | (simp [IntKind.wrap_u32]; done)), HS.out⟩

set_option maxHeartbeats 30000000 in
set_option maxRecDepth 100000 in
theorem pool_Open_nil.calls  (r : Bool) (w : World)   (HS : Aside0 (Sep (fps []) w [] w)) (H : Aside0 (pool_Open_nil.f = some r)) :
    Calls Try.prog 61 #[.pointer none] w fun e w' => e = .returned (.bool r) ∧ Sep (fps []) w [] w' := by
  unfold pool_Open_nil.f at H
  go_enter Try.func61, Try.ntmps61
  go_wp2_with fail
  go_ret
  rw [← some_eq H]
  exact ⟨(by first | rfl | (simp [IntKind.wrap_u32]; done)), HS.out⟩

set_option maxHeartbeats 30000000 in
set_option maxRecDepth 100000 in
theorem pack_isPiece.calls (a235 : Int) (a236 : Int) (r : Bool) (w : World)   (HS : Aside0 (Sep (fps []) w [] w)) (H : Aside0 (pack_isPiece.f a235 a236 = some r)) :
    Calls Try.prog 120 #[.int .i64 a235, .int .i64 a236] w fun e w' => e = .returned (.bool r) ∧ Sep (fps []) w [] w' := by
  unfold pack_isPiece.f at H
  go_enter Try.func120, Try.ntmps120
  by_cases c237 : a235 ≥ 0
  · have H := if_yes c237 H
    have c237b0 : decide (0 ≤ a235) = true := decide_eq_true c237
    clear c237
    by_cases c238 : a236 ≥ 1
    · have H := if_yes c238 H
      have c238b0 : decide (1 ≤ a236) = true := decide_eq_true c238
      clear c238
      by_cases c239 : a236 ≤ 32
      · have H := if_yes c239 H
        have c239b0 : decide (a236 ≤ 32) = true := decide_eq_true c239
        clear c239
        go_wp2_with fail
        go_ret
        rw [← some_eq H]
        exact ⟨(by first | rfl | (simp [IntKind.wrap_u32]; done)), HS.out⟩
      · have H := if_no c239 H
        have c239b0 : decide (a236 ≤ 32) = false := decide_eq_false c239
        clear c239
        go_wp2_with fail
        go_ret
        rw [← some_eq H]
        exact ⟨(by first | rfl | (simp [IntKind.wrap_u32]; done)), HS.out⟩
    · have H := if_no c238 H
      have c238b0 : decide (1 ≤ a236) = false := decide_eq_false c238
      clear c238
      go_wp2_with fail
      go_ret
      rw [← some_eq H]
      exact ⟨(by first | rfl | (simp [IntKind.wrap_u32]; done)), HS.out⟩
  · have H := if_no c237 H
    have c237b0 : decide (0 ≤ a235) = false := decide_eq_false c237
    clear c237
    go_wp2_with fail
    go_ret
    rw [← some_eq H]
    exact ⟨(by first | rfl | (simp [IntKind.wrap_u32]; done)), HS.out⟩

set_option maxHeartbeats 30000000 in
set_option maxRecDepth 100000 in
theorem pack_mask.calls (a244 : Int) (a245 : Int) (r : Int) (w : World)   (HS : Aside0 (Sep (fps []) w [] w)) (H : Aside0 (pack_mask.f a244 a245 = some r)) :
    Calls Try.prog 121 #[.int .i64 a244, .int .i64 a245] w fun e w' => e = .returned (.int .u32 r) ∧ Sep (fps []) w [] w' := by
  unfold pack_mask.f at H
  go_enter Try.func121, Try.ntmps121
  by_cases c246 : 0 ≤ (IntKind.u64.wrap (a245))
  · have H := if_yes c246 H
    have c246b0 : decide (0 ≤ (IntKind.u64.wrap (a245))) = true := decide_eq_true c246
    by_cases c247 : 0 ≤ (IntKind.u64.wrap (a244))
    · have H := if_yes c247 H
      have c247b0 : decide (0 ≤ (IntKind.u64.wrap (a244))) = true := decide_eq_true c247
      skip
      skip
      go_wp2_with fail
      clear c246 c247
      go_ret
      rw [← some_eq H]
      exact ⟨(by first | rfl | (simp [IntKind.wrap_u32]; done)), HS.out⟩
    · have H := if_no c247 H
      have c247b0 : decide (0 ≤ (IntKind.u64.wrap (a244))) = false := decide_eq_false c247
      exact (none_no H).elim
  · have H := if_no c246 H
    have c246b0 : decide (0 ≤ (IntKind.u64.wrap (a245))) = false := decide_eq_false c246
    exact (none_no H).elim

set_option maxHeartbeats 30000000 in
set_option maxRecDepth 100000 in
theorem pack_Get.calls (a232 : Int) (a233 : Int) (a234 : Int) (r : Int) (w : World)   (HS : Aside0 (Sep (fps []) w [] w)) (H : Aside0 (pack_Get.f a232 a233 a234 = some r)) :
    Calls Try.prog 112 #[.int .u32 a232, .int .i64 a233, .int .i64 a234] w fun e w' => e = .returned (.int .u32 r) ∧ Sep (fps []) w [] w' := by
  unfold pack_Get.f at H
  go_enter Try.func112, Try.ntmps112
  go_wp2_with fail
  obtain ⟨t240, HA241, H⟩ := bind_some H
  refine (pack_isPiece.calls a233 a234 t240 _ ⟨Sep.start _⟩ HA241).mono ?_
  rintro e_ w242 ⟨rfl, hS⟩
  replace HS : Aside0 (Sep (fps []) w [] w242) := ⟨HS.out.call hS⟩
  clear hS
  by_cases c243 : t240 = true
  · have H := if_yes c243 H
    have c243b0 : t240 = true := c243
    have c243b1 : (!t240) = false := by rw [c243b0]; rfl
    try rw [c243b1]
    clear c243
    go_wp2_with fail
    obtain ⟨t248, HA249, H⟩ := bind_some H
    refine (pack_mask.calls a233 a234 t248 _ ⟨Sep.start _⟩ HA249).mono ?_
    rintro e_ w250 ⟨rfl, hS⟩
    replace HS : Aside0 (Sep (fps []) w [] w250) := ⟨HS.out.call hS⟩
    clear hS
    by_cases c251 : 0 ≤ (IntKind.u64.wrap (a233))
    · have H := if_yes c251 H
      have c251b0 : decide (0 ≤ (IntKind.u64.wrap (a233))) = true := decide_eq_true c251
      skip
      go_wp2_with fail
      clear c251
      go_ret
      rw [← some_eq H]
      exact ⟨(by first | rfl | (simp [IntKind.wrap_u32]; done)), HS.out⟩
    · have H := if_no c251 H
      have c251b0 : decide (0 ≤ (IntKind.u64.wrap (a233))) = false := decide_eq_false c251
      exact (none_no H).elim
  · have H := if_no c243 H
    have c243b0 : t240 = false := by simpa using c243
    have c243b1 : (!t240) = true := by rw [c243b0]; rfl
    try rw [c243b1]
    clear c243
    go_wp2_with fail
    go_ret
    rw [← some_eq H]
    exact ⟨(by first | rfl | (simp [IntKind.wrap_u32]; done)), HS.out⟩

set_option maxHeartbeats 30000000 in
set_option maxRecDepth 100000 in
theorem tag_Unpack_1.calls (a226 : Int) (a227 : Int) (a230 : Int) (g229 : Nat) (r : Int) (w : World)   (HS : Aside0 (Sep (fps [b3 g229 a230]) w [b3 g229 a230] w)) (H : Aside0 (tag_Unpack_1.f a226 a227 a230 = some r)) :
    Calls Try.prog 111 #[.int .i64 a226, .int .i64 a227, .pointer (some ⟨g229, 0, none⟩)] w fun e w' => e = .returned (.int .i64 r) ∧ Sep (fps [b3 g229 a230]) w [b3 g229 a230] w' := by
  generalize (fps [b3 g229 a230]) = FF at HS ⊢
  unfold tag_Unpack_1.f at H
  go_enter Try.func111, Try.ntmps111
  have hc231 : w.cell? ⟨g229, 0, none⟩ = some (.int .u32 a230) := blk_cellv (HS.out.at0) 0 rfl
  go_wp2_with fail
  clear hc231
  obtain ⟨t252, HA253, H⟩ := bind_some H
  refine (pack_Get.calls a230 a226 a227 t252 _ ⟨Sep.start _⟩ HA253).mono ?_
  rintro e_ w254 ⟨rfl, hS⟩
  replace HS : Aside0 (Sep FF w [b3 g229 a230] w254) := ⟨HS.out.call hS⟩
  clear hS
  go_wp2_with fail
  go_ret
  rw [← some_eq H]
  exact ⟨(by first | rfl | (simp [IntKind.wrap_u32]; done)), HS.out⟩

set_option maxHeartbeats 30000000 in
set_option maxRecDepth 100000 in
theorem tag_Unpack.calls (a219 : Int) (r : Int × Int × Int × Int × Int × Int × Int) (w : World)   (HS : Aside0 (Sep (fps []) w [] w)) (H : Aside0 (tag_Unpack.f a219 = some r)) :
    Calls Try.prog 100 #[.int .u32 a219] w fun e w' => e = .returned (.agg #[.int .i64 r.1, .int .i64 r.2.1, .int .i64 r.2.2.1, .int .i64 r.2.2.2.1, .int .i64 r.2.2.2.2.1, .int .i64 r.2.2.2.2.2.1, .int .i64 r.2.2.2.2.2.2]) ∧ Sep (fps []) w [] w' := by
  unfold tag_Unpack.f at H
  go_enter Try.func100, Try.ntmps100
  go_wp2_with (first | ((with_reducible refine gate_dst (N := 1) rfl ?_); refine box_on ?hg (N := 1) ?hd (cs := #[.int .u32 a219]) (t := 23) ?hr ?_; (case hd => rfl); (case hg => rfl); (case hr => first | (go_simp; done) | (go_simp; rfl)); intro g220 hg w221 hbox hb; replace HS : Aside0 (Sep (fps []) w [b3 g220 a219] w221) := ⟨HS.out.box hg hbox hb⟩; clear hg hbox hb) | ((with_reducible refine gate_dst (N := 2) rfl ?_); refine box_on ?hg (N := 2) ?hd (cs := #[.int .i64 0, .int .i64 0, .int .i64 0, .int .i64 0, .int .i64 0, .int .i64 0, .int .i64 0]) (t := 102) ?hr ?_; (case hd => rfl); (case hg => rfl); (case hr => first | (go_simp; done) | (go_simp; rfl)); intro g223 hg w224 hbox hb; replace HS : Aside0 (Sep (fps []) w [b3 g220 a219, b4 g223 0 0 0 0 0 0 0] w224) := ⟨HS.out.box hg hbox hb⟩; clear hg hbox hb))
  obtain ⟨t255, HA256, H⟩ := bind_some H
  refine (tag_Unpack_1.calls 0 2 a219 g220 t255 _ ⟨HS.out.begin⟩ HA256).mono ?_
  rintro e_ w257 ⟨rfl, hS⟩
  replace HS : Aside0 (Sep (fps []) w [b3 g220 a219, b4 g223 0 0 0 0 0 0 0] w257) := ⟨HS.out.call hS⟩
  clear hS
  go_wp2_with fail
  obtain ⟨t258, HA259, H⟩ := bind_some H
  refine (tag_Unpack_1.calls 2 1 a219 g220 t258 _ ⟨HS.out.begin⟩ HA259).mono ?_
  rintro e_ w260 ⟨rfl, hS⟩
  replace HS : Aside0 (Sep (fps []) w [b3 g220 a219, b4 g223 0 0 0 0 0 0 0] w260) := ⟨HS.out.call hS⟩
  clear hS
  go_wp2_with fail
  obtain ⟨t261, HA262, H⟩ := bind_some H
  refine (tag_Unpack_1.calls 3 1 a219 g220 t261 _ ⟨HS.out.begin⟩ HA262).mono ?_
  rintro e_ w263 ⟨rfl, hS⟩
  replace HS : Aside0 (Sep (fps []) w [b3 g220 a219, b4 g223 0 0 0 0 0 0 0] w263) := ⟨HS.out.call hS⟩
  clear hS
  go_wp2_with fail
  obtain ⟨t264, HA265, H⟩ := bind_some H
  refine (tag_Unpack_1.calls 4 1 a219 g220 t264 _ ⟨HS.out.begin⟩ HA265).mono ?_
  rintro e_ w266 ⟨rfl, hS⟩
  replace HS : Aside0 (Sep (fps []) w [b3 g220 a219, b4 g223 0 0 0 0 0 0 0] w266) := ⟨HS.out.call hS⟩
  clear hS
  go_wp2_with fail
  obtain ⟨t267, HA268, H⟩ := bind_some H
  refine (tag_Unpack_1.calls 5 1 a219 g220 t267 _ ⟨HS.out.begin⟩ HA268).mono ?_
  rintro e_ w269 ⟨rfl, hS⟩
  replace HS : Aside0 (Sep (fps []) w [b3 g220 a219, b4 g223 0 0 0 0 0 0 0] w269) := ⟨HS.out.call hS⟩
  clear hS
  go_wp2_with fail
  obtain ⟨t270, HA271, H⟩ := bind_some H
  refine (tag_Unpack_1.calls 6 1 a219 g220 t270 _ ⟨HS.out.begin⟩ HA271).mono ?_
  rintro e_ w272 ⟨rfl, hS⟩
  replace HS : Aside0 (Sep (fps []) w [b3 g220 a219, b4 g223 0 0 0 0 0 0 0] w272) := ⟨HS.out.call hS⟩
  clear hS
  go_wp2_with fail
  obtain ⟨t273, HA274, H⟩ := bind_some H
  refine (tag_Unpack_1.calls 8 24 a219 g220 t273 _ ⟨HS.out.begin⟩ HA274).mono ?_
  rintro e_ w275 ⟨rfl, hS⟩
  replace HS : Aside0 (Sep (fps []) w [b3 g220 a219, b4 g223 0 0 0 0 0 0 0] w275) := ⟨HS.out.call hS⟩
  clear hS
  have hc276 : w275.cell? ⟨g223, 0, none⟩ = some (.int .i64 0) := blk_cellv (HS.out.at1) 0 rfl
  have hz277 : w275.frozen? ⟨g223, 0, none⟩ = false := blk_fz (HS.out.at1) 0
  have hc278 : w275.cell? ⟨g223, 1, none⟩ = some (.int .i64 0) := blk_cellv (HS.out.at1) 1 rfl
  have hz279 : w275.frozen? ⟨g223, 1, none⟩ = false := blk_fz (HS.out.at1) 1
  have hc280 : w275.cell? ⟨g223, 2, none⟩ = some (.int .i64 0) := blk_cellv (HS.out.at1) 2 rfl
  have hz281 : w275.frozen? ⟨g223, 2, none⟩ = false := blk_fz (HS.out.at1) 2
  have hc282 : w275.cell? ⟨g223, 3, none⟩ = some (.int .i64 0) := blk_cellv (HS.out.at1) 3 rfl
  have hz283 : w275.frozen? ⟨g223, 3, none⟩ = false := blk_fz (HS.out.at1) 3
  have hc284 : w275.cell? ⟨g223, 4, none⟩ = some (.int .i64 0) := blk_cellv (HS.out.at1) 4 rfl
  have hz285 : w275.frozen? ⟨g223, 4, none⟩ = false := blk_fz (HS.out.at1) 4
  have hc286 : w275.cell? ⟨g223, 5, none⟩ = some (.int .i64 0) := blk_cellv (HS.out.at1) 5 rfl
  have hz287 : w275.frozen? ⟨g223, 5, none⟩ = false := blk_fz (HS.out.at1) 5
  have hc288 : w275.cell? ⟨g223, 6, none⟩ = some (.int .i64 0) := blk_cellv (HS.out.at1) 6 rfl
  have hz289 : w275.frozen? ⟨g223, 6, none⟩ = false := blk_fz (HS.out.at1) 6
  go_wp2_with (first | ((with_reducible refine gate_store (t := 102) (p := 2) rfl ?_); refine store_event (w1 := (World.setCell (World.setCell (World.setCell (World.setCell (World.setCell (World.setCell (World.setCell w275 ⟨g223, 0, none⟩ (.int .i64 t255)) ⟨g223, 1, none⟩ (.int .i64 t258)) ⟨g223, 2, none⟩ (.int .i64 t261)) ⟨g223, 3, none⟩ (.int .i64 t264)) ⟨g223, 4, none⟩ (.int .i64 t267)) ⟨g223, 5, none⟩ (.int .i64 t270)) ⟨g223, 6, none⟩ (.int .i64 t273))) rfl (t := 102) (p := 2) rfl rfl ?hr ?_; (case hr => first | (go_simp; done) | (go_simp; rfl)); intro w290 hst; clear hc276 hz277 hc278 hz279 hc280 hz281 hc282 hz283 hc284 hz285 hc286 hz287 hc288 hz289; replace HS : Aside0 (Sep (fps []) w [b3 g220 a219, b4 g223 t255 t258 t261 t264 t267 t270 t273] w290) := ⟨by rw [hst]; exact HS.out.setAll (l1 := [b3 g220 a219]) (l2 := []) [.int .i64 t255, .int .i64 t258, .int .i64 t261, .int .i64 t264, .int .i64 t267, .int .i64 t270, .int .i64 t273] rfl⟩; clear hst; replace HS : Aside0 (Sep (fps []) w [b4 g223 t255 t258 t261 t264 t267 t270 t273] w290) := ⟨HS.out.sub (.cons _ (.cons_cons _ .slnil))⟩))
  have hc291 : w290.cell? ⟨g223, 0, none⟩ = some (.int .i64 t255) := blk_cellv (HS.out.at0) 0 rfl
  have hc292 : w290.cell? ⟨g223, 1, none⟩ = some (.int .i64 t258) := blk_cellv (HS.out.at0) 1 rfl
  have hc293 : w290.cell? ⟨g223, 2, none⟩ = some (.int .i64 t261) := blk_cellv (HS.out.at0) 2 rfl
  have hc294 : w290.cell? ⟨g223, 3, none⟩ = some (.int .i64 t264) := blk_cellv (HS.out.at0) 3 rfl
  have hc295 : w290.cell? ⟨g223, 4, none⟩ = some (.int .i64 t267) := blk_cellv (HS.out.at0) 4 rfl
  have hc296 : w290.cell? ⟨g223, 5, none⟩ = some (.int .i64 t270) := blk_cellv (HS.out.at0) 5 rfl
  have hc297 : w290.cell? ⟨g223, 6, none⟩ = some (.int .i64 t273) := blk_cellv (HS.out.at0) 6 rfl
  refine bodyPost_ret (v := .agg #[.int .i64 t255, .int .i64 t258, .int .i64 t261, .int .i64 t264, .int .i64 t267, .int .i64 t270, .int .i64 t273]) (by simp [results, Try.results100, go_sem, hc291, hc292, hc293, hc294, hc295, hc296, hc297]) rfl ?_
  rw [← some_eq H]
  exact ⟨(by first | rfl | (simp [IntKind.wrap_u32]; done)), HS.out.sub (.cons _ .slnil)⟩

set_option maxHeartbeats 30000000 in
set_option maxRecDepth 100000 in
theorem chain_Push_1.calls (a350 : Int) (a351 : Int) (a352 : Int) (a353 : Int) (a354 : Int) (a359 : Int) (g356 : Nat) (g358 : Nat) (r : Unit) (w : World)   (HS : Aside0 (Sep (fps [b5 g356, b6 g358 a359]) w [b5 g356, b6 g358 a359] w)) (H : Aside0 (chain_Push_1.f a350 a351 a352 a353 a354 a359 = some r)) :
    Calls Try.prog 90 #[.agg #[.int .i64 a350, .int .i64 a351, .int .i64 a352], .int .i64 a353, .int .i64 a354, .pointer (some ⟨g356, 0, none⟩), .pointer (some ⟨g358, 0, none⟩)] w fun e w' => e = .returned (.tuple #[]) ∧ Sep (fps [b5 g356, b6 g358 a359]) w [b5 g356, b6 g358 a359] w' := by
  generalize (fps [b5 g356, b6 g358 a359]) = FF at HS ⊢
  unfold chain_Push_1.f at H
  go_enter Try.func90, Try.ntmps90
  go_wp2_with (first | ((with_reducible refine gate_dst (N := 5) rfl ?_); refine box_on ?hg (N := 5) ?hd (cs := #[.int .i64 a350, .int .i64 a351, .int .i64 a352]) (t := 134) ?hr ?_; (case hd => rfl); (case hg => rfl); (case hr => first | (go_simp; done) | (go_simp; rfl)); intro g360 hg w361 hbox hb; replace HS : Aside0 (Sep FF w [b5 g356, b6 g358 a359, b1 g360 a350 a351 a352] w361) := ⟨HS.out.box hg hbox hb⟩; clear hg hbox hb))
  refine start_ (n := 8) (S := (fun w' => w'.cell? ⟨g356, 0, none⟩ = some (.pointer none) ∧ w'.cell? ⟨g358, 0, none⟩ = some (.int .i64 a359) ∧ w'.cell? ⟨g360, 0, none⟩ = some (.int .i64 a350))) (ds := []) #[false, false, false, false, false, false, false, false] (by kernel_rfl) rfl rfl (⟨blk_cellv ((HS.out.drew).at0) 0 rfl, blk_cellv ((HS.out.drew).at1) 0 rfl, blk_cellv ((HS.out.drew).at2) 0 rfl⟩) (fun hHeld => ?_)
  have HS_ := Aside0.mk HS.out.drew
  clear HS
  generalize World.drew _ = w364 at HS_ hHeld ⊢
  have HS := HS_
  clear HS_
  refine pure_ (i := 3) (N := some 11) (v := ?_) (a' := ?_) #[false, false, false, true, false, false, false, false] rfl rfl (by kernel_rfl) (fun _ _ _ h => h) (Or.inl ⟨by rfl, ?_⟩) ?_ ?_
  rotate_left
  · intro w'
    go_simp
    with_reducible rfl
  rotate_left
  · simp only [Act.put, List.setIfInBounds_toArray, List.set_cons_zero, List.set_cons_succ, i64_w, i32_w]
    rfl
  refine take_ (i := 0) (N := some 8) (v := ?_) (a' := ?_) #[true, false, false, true, false, false, false, false] rfl rfl (by kernel_rfl) (fun _ _ _ h => h) (Or.inl ⟨by rfl, ?_⟩) hHeld ?_ ?_
  rotate_left
  · rintro w' hS'
    obtain ⟨s0, s1, s2⟩ := hS'
    go_simp
    with_reducible rfl
  rotate_left
  · simp only [Act.put, List.setIfInBounds_toArray, List.set_cons_zero, List.set_cons_succ, i64_w, i32_w]
    rfl
  refine take_ (i := 1) (N := some 9) (v := ?_) (a' := ?_) #[true, true, false, true, false, false, false, false] rfl rfl (by kernel_rfl) (fun _ _ _ h => h) (Or.inl ⟨by rfl, ?_⟩) hHeld ?_ ?_
  rotate_left
  · rintro w' hS'
    obtain ⟨s0, s1, s2⟩ := hS'
    go_simp
    with_reducible rfl
  rotate_left
  · simp only [Act.put, List.setIfInBounds_toArray, List.set_cons_zero, List.set_cons_succ, i64_w, i32_w]
    rfl
  refine take_ (i := 2) (N := some 10) (v := ?_) (a' := ?_) #[true, true, true, true, false, false, false, false] rfl rfl (by kernel_rfl) (fun _ _ _ h => h) (Or.inl ⟨by rfl, ?_⟩) hHeld ?_ ?_
  rotate_left
  · rintro w' hS'
    obtain ⟨s0, s1, s2⟩ := hS'
    go_simp
    with_reducible rfl
  rotate_left
  · simp only [Act.put, List.setIfInBounds_toArray, List.set_cons_zero, List.set_cons_succ, i64_w, i32_w]
    rfl
  refine take_ (i := 4) (N := some 12) (v := ?_) (a' := ?_) #[true, true, true, true, true, false, false, false] rfl rfl (by kernel_rfl) (fun _ _ _ h => h) (Or.inl ⟨by rfl, ?_⟩) hHeld ?_ ?_
  rotate_left
  · rintro w' hS'
    obtain ⟨s0, s1, s2⟩ := hS'
    go_simp
    with_reducible rfl
  rotate_left
  · simp only [Act.put, List.setIfInBounds_toArray, List.set_cons_zero, List.set_cons_succ, i64_w, i32_w]
    rfl
  refine one_ (i := 5) (N := some 13) #[true, true, true, true, true, true, false, false] rfl rfl (by kernel_rfl) (by decide) (fun K hK => ?_)
  obtain ⟨t365, HA366, H⟩ := bind_some H
  refine goes_ Try.func36 (by kernel_rfl) rfl #[.pointer none, .int .i64 a350] (by rfl) rfl rfl (by (try simp only [List.map_toArray, List.map_cons, List.map_nil]); first | done | rfl) ?_
  refine (ground_Ground_Reg_nil.calls a350 t365 _ ⟨Sep.start _⟩ HA366).mono ?_
  rintro e_ w367 ⟨rfl, hS⟩
  replace HS : Aside0 (Sep FF w [b5 g356, b6 g358 a359, b1 g360 a350 a351 a352] w367) := ⟨HS.out.call hS⟩
  clear hS
  refine ⟨_, rfl, ?_⟩
  refine hK.out _ _ (⟨blk_cellv (HS.out.at0) 0 rfl, blk_cellv (HS.out.at1) 0 rfl, blk_cellv (HS.out.at2) 0 rfl⟩) (fun hHeld => ?_)
  clear hK K
  refine norm_ (a' := ?_) ?_ ?_
  rotate_left
  · show Act.put _ (some 13) _ = _
    simp only [Act.put, List.setIfInBounds_toArray, List.set_cons_zero, List.set_cons_succ, i64_w, i32_w]
    rfl
  refine pure_ (i := 6) (N := some 14) (v := ?_) (a' := ?_) #[true, true, true, true, true, true, true, false] rfl rfl (by kernel_rfl) (fun _ _ _ h => h) (Or.inl ⟨by rfl, ?_⟩) ?_ ?_
  rotate_left
  · intro w'
    go_simp
    with_reducible rfl
  rotate_left
  · simp only [Act.put, List.setIfInBounds_toArray, List.set_cons_zero, List.set_cons_succ, i64_w, i32_w]
    rfl
  refine one_ (i := 7) (N := some 15) #[true, true, true, true, true, true, true, true] rfl rfl (by kernel_rfl) (by decide) (fun K hK => ?_)
  obtain ⟨t368, HA369, H⟩ := bind_some H
  refine goes_ Try.func46 (by kernel_rfl) rfl #[.pointer none, .int .i64 a359, .int .i64 5, .int .u32 ((t365) % 4294967296)] (by rfl) rfl rfl (by (try simp only [List.map_toArray, List.map_cons, List.map_nil]); first | done | rfl) ?_
  refine (ground_Ground_SetWord_nil.calls a359 5 ((t365) % 4294967296) t368 _ ⟨Sep.start _⟩ HA369).mono ?_
  rintro e_ w370 ⟨rfl, hS⟩
  replace HS : Aside0 (Sep FF w [b5 g356, b6 g358 a359, b1 g360 a350 a351 a352] w370) := ⟨HS.out.call hS⟩
  clear hS
  refine ⟨_, rfl, ?_⟩
  refine hK.out _ _ (⟨blk_cellv (HS.out.at0) 0 rfl, blk_cellv (HS.out.at1) 0 rfl, blk_cellv (HS.out.at2) 0 rfl⟩) (fun hHeld => ?_)
  clear hK K
  refine norm_ (a' := ?_) ?_ ?_
  rotate_left
  · show Act.put _ (some 15) _ = _
    simp only [Act.put, List.setIfInBounds_toArray, List.set_cons_zero, List.set_cons_succ, i64_w, i32_w]
    rfl
  refine done_ (by kernel_rfl) ?_
  have hc371 : w370.cell? ⟨g356, 0, none⟩ = some (.pointer none) := blk_cellv (HS.out.at0) 0 rfl
  have hc372 : w370.cell? ⟨g360, 0, none⟩ = some (.int .i64 a350) := blk_cellv (HS.out.at2) 0 rfl
  go_wp2_with fail
  clear hc371 hc372
  obtain ⟨t373, HA374, H⟩ := bind_some H
  refine (ground_Ground_SetReg_nil.calls a350 a353 t373 _ ⟨Sep.start _⟩ HA374).mono ?_
  rintro e_ w375 ⟨rfl, hS⟩
  replace HS : Aside0 (Sep FF w [b5 g356, b6 g358 a359, b1 g360 a350 a351 a352] w375) := ⟨HS.out.call hS⟩
  clear hS
  by_cases c376 : a354 = 0
  · have H := if_yes c376 H
    have c376b0 : (a354 == 0) = true := beq_iff_eq.mpr c376
    have c376b1 : (a354 != 0) = false := bne_eq_false_iff_eq.mpr c376
    clear c376
    have hc377 : w375.cell? ⟨g356, 0, none⟩ = some (.pointer none) := blk_cellv (HS.out.at0) 0 rfl
    have hc378 : w375.cell? ⟨g360, 1, none⟩ = some (.int .i64 a351) := blk_cellv (HS.out.at2) 1 rfl
    go_wp2_with fail
    clear hc377 hc378
    obtain ⟨t379, HA380, H⟩ := bind_some H
    refine (ground_Ground_SetReg_nil.calls a351 a353 t379 _ ⟨Sep.start _⟩ HA380).mono ?_
    rintro e_ w381 ⟨rfl, hS⟩
    replace HS : Aside0 (Sep FF w [b5 g356, b6 g358 a359, b1 g360 a350 a351 a352] w381) := ⟨HS.out.call hS⟩
    clear hS
    replace HS : Aside0 (Sep FF w [b5 g356, b6 g358 a359] w381) := ⟨HS.out.sub (.cons_cons _ (.cons_cons _ (.cons _ .slnil)))⟩
    go_wp2_with fail
    first | go_end0 | refine bodyPost_ret (results_none rfl _ _ _) rfl ?_
    clear H
    exact ⟨rfl, HS.out⟩
  · have H := if_no c376 H
    have c376b0 : (a354 == 0) = false := beq_eq_false_iff_ne.mpr c376
    have c376b1 : (a354 != 0) = true := bne_iff_ne.mpr c376
    clear c376
    go_wp2_with fail
    first | go_end0 | refine bodyPost_ret (results_none rfl _ _ _) rfl ?_
    clear H
    exact ⟨rfl, HS.out.sub (.cons_cons _ (.cons_cons _ (.cons _ .slnil)))⟩

set_option maxHeartbeats 30000000 in
set_option maxRecDepth 100000 in
theorem chain_put_nil_F90.calls (a316 : Int) (a317 : Int) (a322 : Int) (g319 : Nat) (g321 : Nat) (r : Bool) (w : World)   (HS : Aside0 (Sep (fps [b5 g319, b6 g321 a322]) w [b5 g319, b6 g321 a322] w)) (H : Aside0 (chain_put_nil_F90.f a316 a317 a322 = some r)) :
    Calls Try.prog 88 #[.pointer none, .int .i64 a316, .int .i64 a317, .func (.func 90) #[] #[.pointer (some ⟨g319, 0, none⟩), .pointer (some ⟨g321, 0, none⟩)]] w fun e w' => e = .returned (.bool r) ∧ Sep (fps [b5 g319, b6 g321 a322]) w [b5 g319, b6 g321 a322] w' := by
  generalize (fps [b5 g319, b6 g321 a322]) = FF at HS ⊢
  unfold chain_put_nil_F90.f at H
  go_enter Try.func88, Try.ntmps88
  go_wp2_with fail
  obtain ⟨t323, HA324, H⟩ := bind_some H
  refine (chain_of_nil.calls a316 t323 _ ⟨Sep.start _⟩ HA324).mono ?_
  rintro e_ w325 ⟨rfl, hS⟩
  replace HS : Aside0 (Sep FF w [b5 g319, b6 g321 a322] w325) := ⟨HS.out.call hS⟩
  clear hS
  by_cases c336 : t323.2.2.2 = true
  · have H := if_yes c336 H
    have c336b0 : t323.2.2.2 = true := c336
    have c336b1 : (!t323.2.2.2) = false := by rw [c336b0]; rfl
    try rw [c336b1]
    clear c336
    by_cases c337 : a317 < 0
    · have H := if_yes c337 H
      have c337b0 : decide (a317 < 0) = true := decide_eq_true c337
      clear c337
      go_wp2_with (first | ((with_reducible refine gate_dst (N := 9) rfl ?_); refine box_on ?hg (N := 9) ?hd (cs := #[.int .i64 0, .int .i64 0, .int .i64 0]) (t := 134) ?hr ?_; (case hd => rfl); (case hg => rfl); (case hr => first | (go_simp; done) | (go_simp; rfl)); intro g326 hg w327 hbox hb; replace HS : Aside0 (Sep FF w [b5 g319, b6 g321 a322, b1 g326 0 0 0] w327) := ⟨HS.out.box hg hbox hb⟩; clear hg hbox hb; have hc329 : w327.cell? ⟨g326, 0, none⟩ = some (.int .i64 0) := blk_cellv (HS.out.at2) 0 rfl; have hz330 : w327.frozen? ⟨g326, 0, none⟩ = false := blk_fz (HS.out.at2) 0; have hc331 : w327.cell? ⟨g326, 1, none⟩ = some (.int .i64 0) := blk_cellv (HS.out.at2) 1 rfl; have hz332 : w327.frozen? ⟨g326, 1, none⟩ = false := blk_fz (HS.out.at2) 1; have hc333 : w327.cell? ⟨g326, 2, none⟩ = some (.int .i64 0) := blk_cellv (HS.out.at2) 2 rfl; have hz334 : w327.frozen? ⟨g326, 2, none⟩ = false := blk_fz (HS.out.at2) 2) | ((with_reducible refine gate_store (t := 134) (p := 9) rfl ?_); refine store_event (w1 := (World.setCell (World.setCell (World.setCell w327 ⟨g326, 0, none⟩ (.int .i64 t323.1)) ⟨g326, 1, none⟩ (.int .i64 t323.2.1)) ⟨g326, 2, none⟩ (.int .i64 t323.2.2.1))) rfl (t := 134) (p := 9) rfl rfl ?hr ?_; (case hr => first | (go_simp; done) | (go_simp; rfl)); intro w335 hst; clear hc329 hz330 hc331 hz332 hc333 hz334; replace HS : Aside0 (Sep FF w [b5 g319, b6 g321 a322, b1 g326 t323.1 t323.2.1 t323.2.2.1] w335) := ⟨by rw [hst]; exact HS.out.setAll (l1 := [b5 g319, b6 g321 a322]) (l2 := []) [.int .i64 t323.1, .int .i64 t323.2.1, .int .i64 t323.2.2.1] rfl⟩; clear hst; replace HS : Aside0 (Sep FF w [b5 g319, b6 g321 a322] w335) := ⟨HS.out.sub (.cons_cons _ (.cons_cons _ (.cons _ .slnil)))⟩))
      go_ret
      rw [← some_eq H]
      exact ⟨(by first | rfl | (simp [IntKind.wrap_u32]; done)), HS.out⟩
    · have H := if_no c337 H
      have c337b0 : decide (a317 < 0) = false := decide_eq_false c337
      clear c337
      go_wp2_with (first | ((with_reducible refine gate_dst (N := 9) rfl ?_); refine box_on ?hg (N := 9) ?hd (cs := #[.int .i64 0, .int .i64 0, .int .i64 0]) (t := 134) ?hr ?_; (case hd => rfl); (case hg => rfl); (case hr => first | (go_simp; done) | (go_simp; rfl)); intro g326 hg w327 hbox hb; replace HS : Aside0 (Sep FF w [b5 g319, b6 g321 a322, b1 g326 0 0 0] w327) := ⟨HS.out.box hg hbox hb⟩; clear hg hbox hb; have hc329 : w327.cell? ⟨g326, 0, none⟩ = some (.int .i64 0) := blk_cellv (HS.out.at2) 0 rfl; have hz330 : w327.frozen? ⟨g326, 0, none⟩ = false := blk_fz (HS.out.at2) 0; have hc331 : w327.cell? ⟨g326, 1, none⟩ = some (.int .i64 0) := blk_cellv (HS.out.at2) 1 rfl; have hz332 : w327.frozen? ⟨g326, 1, none⟩ = false := blk_fz (HS.out.at2) 1; have hc333 : w327.cell? ⟨g326, 2, none⟩ = some (.int .i64 0) := blk_cellv (HS.out.at2) 2 rfl; have hz334 : w327.frozen? ⟨g326, 2, none⟩ = false := blk_fz (HS.out.at2) 2) | ((with_reducible refine gate_store (t := 134) (p := 9) rfl ?_); refine store_event (w1 := (World.setCell (World.setCell (World.setCell w327 ⟨g326, 0, none⟩ (.int .i64 t323.1)) ⟨g326, 1, none⟩ (.int .i64 t323.2.1)) ⟨g326, 2, none⟩ (.int .i64 t323.2.2.1))) rfl (t := 134) (p := 9) rfl rfl ?hr ?_; (case hr => first | (go_simp; done) | (go_simp; rfl)); intro w335 hst; clear hc329 hz330 hc331 hz332 hc333 hz334; replace HS : Aside0 (Sep FF w [b5 g319, b6 g321 a322, b1 g326 t323.1 t323.2.1 t323.2.2.1] w335) := ⟨by rw [hst]; exact HS.out.setAll (l1 := [b5 g319, b6 g321 a322]) (l2 := []) [.int .i64 t323.1, .int .i64 t323.2.1, .int .i64 t323.2.2.1] rfl⟩; clear hst))
      obtain ⟨t338, HA339, H⟩ := bind_some H
      refine (ground_Ground_Conf_nil.calls t338 _ ⟨Sep.start _⟩ HA339).mono ?_
      rintro e_ w340 ⟨rfl, hS⟩
      replace HS : Aside0 (Sep FF w [b5 g319, b6 g321 a322, b1 g326 t323.1 t323.2.1 t323.2.2.1] w340) := ⟨HS.out.call hS⟩
      clear hS
      by_cases c342 : a317 ≥ t338.1
      · have H := if_yes c342 H
        have c342b0 : decide (t338.1 ≤ a317) = true := decide_eq_true c342
        clear c342
        have fl341 : ∀ w, (Instr.field 49 (.agg #[.int .i64 t338.1, .int .i64 t338.2.1, .int .i64 t338.2.2.1, .int .i64 t338.2.2.2]) 0).run Try.prog w = .ok (.int .i64 t338.1) w := fun _ => by kernel_rfl
        replace HS : Aside0 (Sep FF w [b5 g319, b6 g321 a322] w340) := ⟨HS.out.sub (.cons_cons _ (.cons_cons _ (.cons _ .slnil)))⟩
        go_wp2_with fail
        clear fl341
        go_ret
        rw [← some_eq H]
        exact ⟨(by first | rfl | (simp [IntKind.wrap_u32]; done)), HS.out⟩
      · have H := if_no c342 H
        have c342b0 : decide (t338.1 ≤ a317) = false := decide_eq_false c342
        clear c342
        have fl341 : ∀ w, (Instr.field 49 (.agg #[.int .i64 t338.1, .int .i64 t338.2.1, .int .i64 t338.2.2.1, .int .i64 t338.2.2.2]) 0).run Try.prog w = .ok (.int .i64 t338.1) w := fun _ => by kernel_rfl
        have hc343 : w340.cell? ⟨g326, 2, none⟩ = some (.int .i64 t323.2.2.1) := blk_cellv (HS.out.at2) 2 rfl
        go_wp2_with fail
        clear fl341 hc343
        obtain ⟨t344, HA345, H⟩ := bind_some H
        refine (ground_Ground_Reg_nil.calls t323.2.2.1 t344 _ ⟨Sep.start _⟩ HA345).mono ?_
        rintro e_ w346 ⟨rfl, hS⟩
        replace HS : Aside0 (Sep FF w [b5 g319, b6 g321 a322, b1 g326 t323.1 t323.2.1 t323.2.2.1] w346) := ⟨HS.out.call hS⟩
        clear hS
        have hc347 : w346.cell? ⟨g326, 0, none⟩ = some (.int .i64 t323.1) := blk_cellv (HS.out.at2) 0 rfl
        have hc348 : w346.cell? ⟨g326, 1, none⟩ = some (.int .i64 t323.2.1) := blk_cellv (HS.out.at2) 1 rfl
        have hc349 : w346.cell? ⟨g326, 2, none⟩ = some (.int .i64 t323.2.2.1) := blk_cellv (HS.out.at2) 2 rfl
        go_wp2_with fail
        clear hc347 hc348 hc349
        obtain ⟨t382, HA383, H⟩ := bind_some H
        refine (chain_Push_1.calls t323.1 t323.2.1 t323.2.2.1 (wrap64 (a317 + 1)) t344 a322 g319 g321 t382 _ ⟨HS.out.begin⟩ HA383).mono ?_
        rintro e_ w384 ⟨rfl, hS⟩
        replace HS : Aside0 (Sep FF w [b5 g319, b6 g321 a322, b1 g326 t323.1 t323.2.1 t323.2.2.1] w384) := ⟨HS.out.call hS⟩
        clear hS
        have hc385 : w384.cell? ⟨g326, 2, none⟩ = some (.int .i64 t323.2.2.1) := blk_cellv (HS.out.at2) 2 rfl
        go_wp2_with fail
        clear hc385
        obtain ⟨t386, HA387, H⟩ := bind_some H
        refine (ground_Ground_SetReg_nil.calls t323.2.2.1 (wrap64 (t344 + 1)) t386 _ ⟨Sep.start _⟩ HA387).mono ?_
        rintro e_ w388 ⟨rfl, hS⟩
        replace HS : Aside0 (Sep FF w [b5 g319, b6 g321 a322, b1 g326 t323.1 t323.2.1 t323.2.2.1] w388) := ⟨HS.out.call hS⟩
        clear hS
        replace HS : Aside0 (Sep FF w [b5 g319, b6 g321 a322] w388) := ⟨HS.out.sub (.cons_cons _ (.cons_cons _ (.cons _ .slnil)))⟩
        go_wp2_with fail
        go_ret
        rw [← some_eq H]
        exact ⟨(by first | rfl | (simp [IntKind.wrap_u32]; done)), HS.out⟩
  · have H := if_no c336 H
    have c336b0 : t323.2.2.2 = false := by simpa using c336
    have c336b1 : (!t323.2.2.2) = true := by rw [c336b0]; rfl
    try rw [c336b1]
    clear c336
    go_wp2_with (first | ((with_reducible refine gate_dst (N := 9) rfl ?_); refine box_on ?hg (N := 9) ?hd (cs := #[.int .i64 0, .int .i64 0, .int .i64 0]) (t := 134) ?hr ?_; (case hd => rfl); (case hg => rfl); (case hr => first | (go_simp; done) | (go_simp; rfl)); intro g326 hg w327 hbox hb; replace HS : Aside0 (Sep FF w [b5 g319, b6 g321 a322, b1 g326 0 0 0] w327) := ⟨HS.out.box hg hbox hb⟩; clear hg hbox hb; have hc329 : w327.cell? ⟨g326, 0, none⟩ = some (.int .i64 0) := blk_cellv (HS.out.at2) 0 rfl; have hz330 : w327.frozen? ⟨g326, 0, none⟩ = false := blk_fz (HS.out.at2) 0; have hc331 : w327.cell? ⟨g326, 1, none⟩ = some (.int .i64 0) := blk_cellv (HS.out.at2) 1 rfl; have hz332 : w327.frozen? ⟨g326, 1, none⟩ = false := blk_fz (HS.out.at2) 1; have hc333 : w327.cell? ⟨g326, 2, none⟩ = some (.int .i64 0) := blk_cellv (HS.out.at2) 2 rfl; have hz334 : w327.frozen? ⟨g326, 2, none⟩ = false := blk_fz (HS.out.at2) 2) | ((with_reducible refine gate_store (t := 134) (p := 9) rfl ?_); refine store_event (w1 := (World.setCell (World.setCell (World.setCell w327 ⟨g326, 0, none⟩ (.int .i64 t323.1)) ⟨g326, 1, none⟩ (.int .i64 t323.2.1)) ⟨g326, 2, none⟩ (.int .i64 t323.2.2.1))) rfl (t := 134) (p := 9) rfl rfl ?hr ?_; (case hr => first | (go_simp; done) | (go_simp; rfl)); intro w335 hst; clear hc329 hz330 hc331 hz332 hc333 hz334; replace HS : Aside0 (Sep FF w [b5 g319, b6 g321 a322, b1 g326 t323.1 t323.2.1 t323.2.2.1] w335) := ⟨by rw [hst]; exact HS.out.setAll (l1 := [b5 g319, b6 g321 a322]) (l2 := []) [.int .i64 t323.1, .int .i64 t323.2.1, .int .i64 t323.2.2.1] rfl⟩; clear hst; replace HS : Aside0 (Sep FF w [b5 g319, b6 g321 a322] w335) := ⟨HS.out.sub (.cons_cons _ (.cons_cons _ (.cons _ .slnil)))⟩))
    go_ret
    rw [← some_eq H]
    exact ⟨(by first | rfl | (simp [IntKind.wrap_u32]; done)), HS.out⟩

set_option maxHeartbeats 30000000 in
set_option maxRecDepth 100000 in
theorem chain_Push_nil.calls (a306 : Int) (a307 : Int) (r : Bool) (w : World)   (HS : Aside0 (Sep (fps []) w [] w)) (H : Aside0 (chain_Push_nil.f a306 a307 = some r)) :
    Calls Try.prog 53 #[.pointer none, .int .i64 a306, .int .i64 a307] w fun e w' => e = .returned (.bool r) ∧ Sep (fps []) w [] w' := by
  unfold chain_Push_nil.f at H
  go_enter Try.func53, Try.ntmps53
  go_wp2_with (first | ((with_reducible refine gate_dst (N := 3) rfl ?_); refine box_on ?hg (N := 3) ?hd (cs := #[.pointer none]) (t := 50) ?hr ?_; (case hd => rfl); (case hg => rfl); (case hr => first | (go_simp; done) | (go_simp; rfl)); intro g308 hg w309 hbox hb; replace HS : Aside0 (Sep (fps []) w [b5 g308] w309) := ⟨HS.out.box hg hbox hb⟩; clear hg hbox hb) | ((with_reducible refine gate_dst (N := 5) rfl ?_); refine box_on ?hg (N := 5) ?hd (cs := #[.int .i64 a307]) (t := 3) ?hr ?_; (case hd => rfl); (case hg => rfl); (case hr => first | (go_simp; done) | (go_simp; rfl)); intro g311 hg w312 hbox hb; replace HS : Aside0 (Sep (fps []) w [b5 g308, b6 g311 a307] w312) := ⟨HS.out.box hg hbox hb⟩; clear hg hbox hb; have hc314 : w312.cell? ⟨g308, 0, none⟩ = some (.pointer none) := blk_cellv (HS.out.at0) 0 rfl; have hc315 : w312.cell? ⟨g311, 0, none⟩ = some (.int .i64 a307) := blk_cellv (HS.out.at1) 0 rfl))
  clear hc314 hc315
  obtain ⟨t389, HA390, H⟩ := bind_some H
  refine (chain_put_nil_F90.calls a306 a307 a307 g308 g311 t389 _ ⟨HS.out.begin⟩ HA390).mono ?_
  rintro e_ w391 ⟨rfl, hS⟩
  replace HS : Aside0 (Sep (fps []) w [b5 g308, b6 g311 a307] w391) := ⟨HS.out.call hS⟩
  clear hS
  replace HS : Aside0 (Sep (fps []) w [] w391) := ⟨HS.out.sub (.cons _ (.cons _ .slnil))⟩
  go_wp2_with fail
  go_ret
  rw [← some_eq H]
  exact ⟨(by first | rfl | (simp [IntKind.wrap_u32]; done)), HS.out⟩

set_option maxHeartbeats 30000000 in
set_option maxRecDepth 100000 in
theorem pool_Give_nil.calls (a215 : Int) (r : Bool) (w : World)   (HS : Aside0 (Sep (fps []) w [] w)) (H : Aside0 (pool_Give_nil.f a215 = some r)) :
    Calls Try.prog 62 #[.pointer none, .int .i64 a215] w fun e w' => e = .returned (.bool r) ∧ Sep (fps []) w [] w' := by
  unfold pool_Give_nil.f at H
  go_enter Try.func62, Try.ntmps62
  go_wp2_with fail
  obtain ⟨t216, HA217, H⟩ := bind_some H
  refine (ground_Ground_Word_nil.calls a215 0 t216 _ ⟨Sep.start _⟩ HA217).mono ?_
  rintro e_ w218 ⟨rfl, hS⟩
  replace HS : Aside0 (Sep (fps []) w [] w218) := ⟨HS.out.call hS⟩
  clear hS
  go_wp2_with fail
  obtain ⟨t298, HA299, H⟩ := bind_some H
  refine (tag_Unpack.calls t216 t298 _ ⟨Sep.start _⟩ HA299).mono ?_
  rintro e_ w300 ⟨rfl, hS⟩
  replace HS : Aside0 (Sep (fps []) w [] w300) := ⟨HS.out.call hS⟩
  clear hS
  by_cases c302 : t298.1 = 0
  · have H := if_yes c302 H
    have c302b0 : (t298.1 == 0) = true := beq_iff_eq.mpr c302
    have c302b1 : (t298.1 != 0) = false := bne_eq_false_iff_eq.mpr c302
    clear c302
    have fl301 : ∀ w, (Instr.field 102 (.agg #[.int .i64 t298.1, .int .i64 t298.2.1, .int .i64 t298.2.2.1, .int .i64 t298.2.2.2.1, .int .i64 t298.2.2.2.2.1, .int .i64 t298.2.2.2.2.2.1, .int .i64 t298.2.2.2.2.2.2]) 0).run Try.prog w = .ok (.int .i64 t298.1) w := fun _ => by kernel_rfl
    go_wp2_with fail
    clear fl301
    go_ret
    rw [← some_eq H]
    exact ⟨(by first | rfl | (simp [IntKind.wrap_u32]; done)), HS.out⟩
  · have H := if_no c302 H
    have c302b0 : (t298.1 == 0) = false := beq_eq_false_iff_ne.mpr c302
    have c302b1 : (t298.1 != 0) = true := bne_iff_ne.mpr c302
    clear c302
    have fl301 : ∀ w, (Instr.field 102 (.agg #[.int .i64 t298.1, .int .i64 t298.2.1, .int .i64 t298.2.2.1, .int .i64 t298.2.2.2.1, .int .i64 t298.2.2.2.2.1, .int .i64 t298.2.2.2.2.2.1, .int .i64 t298.2.2.2.2.2.2]) 0).run Try.prog w = .ok (.int .i64 t298.1) w := fun _ => by kernel_rfl
    go_wp2_with fail
    clear fl301
    obtain ⟨t303, HA304, H⟩ := bind_some H
    refine (ground_Ground_SetWord_nil.calls a215 0 0 t303 _ ⟨Sep.start _⟩ HA304).mono ?_
    rintro e_ w305 ⟨rfl, hS⟩
    replace HS : Aside0 (Sep (fps []) w [] w305) := ⟨HS.out.call hS⟩
    clear hS
    go_wp2_with fail
    obtain ⟨t392, HA393, H⟩ := bind_some H
    refine (chain_Push_nil.calls 0 a215 t392 _ ⟨Sep.start _⟩ HA393).mono ?_
    rintro e_ w394 ⟨rfl, hS⟩
    replace HS : Aside0 (Sep (fps []) w [] w394) := ⟨HS.out.call hS⟩
    clear hS
    go_wp2_with fail
    go_ret
    rw [← some_eq H]
    exact ⟨(by first | rfl | (simp [IntKind.wrap_u32]; done)), HS.out⟩

set_option maxHeartbeats 30000000 in
set_option maxRecDepth 100000 in
theorem chain_Len_nil.calls (a399 : Int) (r : Int) (w : World)   (HS : Aside0 (Sep (fps []) w [] w)) (H : Aside0 (chain_Len_nil.f a399 = some r)) :
    Calls Try.prog 55 #[.pointer none, .int .i64 a399] w fun e w' => e = .returned (.int .i64 r) ∧ Sep (fps []) w [] w' := by
  unfold chain_Len_nil.f at H
  go_enter Try.func55, Try.ntmps55
  go_wp2_with fail
  obtain ⟨t400, HA401, H⟩ := bind_some H
  refine (chain_of_nil.calls a399 t400 _ ⟨Sep.start _⟩ HA401).mono ?_
  rintro e_ w402 ⟨rfl, hS⟩
  replace HS : Aside0 (Sep (fps []) w [] w402) := ⟨HS.out.call hS⟩
  clear hS
  by_cases c413 : t400.2.2.2 = true
  · have H := if_yes c413 H
    have c413b0 : t400.2.2.2 = true := c413
    have c413b1 : (!t400.2.2.2) = false := by rw [c413b0]; rfl
    try rw [c413b1]
    clear c413
    go_wp2_with (first | ((with_reducible refine gate_dst (N := 5) rfl ?_); refine box_on ?hg (N := 5) ?hd (cs := #[.int .i64 0, .int .i64 0, .int .i64 0]) (t := 134) ?hr ?_; (case hd => rfl); (case hg => rfl); (case hr => first | (go_simp; done) | (go_simp; rfl)); intro g403 hg w404 hbox hb; replace HS : Aside0 (Sep (fps []) w [b1 g403 0 0 0] w404) := ⟨HS.out.box hg hbox hb⟩; clear hg hbox hb; have hc406 : w404.cell? ⟨g403, 0, none⟩ = some (.int .i64 0) := blk_cellv (HS.out.at0) 0 rfl; have hz407 : w404.frozen? ⟨g403, 0, none⟩ = false := blk_fz (HS.out.at0) 0; have hc408 : w404.cell? ⟨g403, 1, none⟩ = some (.int .i64 0) := blk_cellv (HS.out.at0) 1 rfl; have hz409 : w404.frozen? ⟨g403, 1, none⟩ = false := blk_fz (HS.out.at0) 1; have hc410 : w404.cell? ⟨g403, 2, none⟩ = some (.int .i64 0) := blk_cellv (HS.out.at0) 2 rfl; have hz411 : w404.frozen? ⟨g403, 2, none⟩ = false := blk_fz (HS.out.at0) 2) | ((with_reducible refine gate_store (t := 134) (p := 5) rfl ?_); refine store_event (w1 := (World.setCell (World.setCell (World.setCell w404 ⟨g403, 0, none⟩ (.int .i64 t400.1)) ⟨g403, 1, none⟩ (.int .i64 t400.2.1)) ⟨g403, 2, none⟩ (.int .i64 t400.2.2.1))) rfl (t := 134) (p := 5) rfl rfl ?hr ?_; (case hr => first | (go_simp; done) | (go_simp; rfl)); intro w412 hst; clear hc406 hz407 hc408 hz409 hc410 hz411; replace HS : Aside0 (Sep (fps []) w [b1 g403 t400.1 t400.2.1 t400.2.2.1] w412) := ⟨by rw [hst]; exact HS.out.setAll (l1 := []) (l2 := []) [.int .i64 t400.1, .int .i64 t400.2.1, .int .i64 t400.2.2.1] rfl⟩; clear hst; have hc414 : w412.cell? ⟨g403, 2, none⟩ = some (.int .i64 t400.2.2.1) := blk_cellv (HS.out.at0) 2 rfl))
    clear hc414
    obtain ⟨t415, HA416, H⟩ := bind_some H
    refine (ground_Ground_Reg_nil.calls t400.2.2.1 t415 _ ⟨Sep.start _⟩ HA416).mono ?_
    rintro e_ w417 ⟨rfl, hS⟩
    replace HS : Aside0 (Sep (fps []) w [b1 g403 t400.1 t400.2.1 t400.2.2.1] w417) := ⟨HS.out.call hS⟩
    clear hS
    replace HS : Aside0 (Sep (fps []) w [] w417) := ⟨HS.out.sub (.cons _ .slnil)⟩
    go_wp2_with fail
    go_ret
    rw [← some_eq H]
    exact ⟨(by first | rfl | (simp [IntKind.wrap_u32]; done)), HS.out⟩
  · have H := if_no c413 H
    have c413b0 : t400.2.2.2 = false := by simpa using c413
    have c413b1 : (!t400.2.2.2) = true := by rw [c413b0]; rfl
    try rw [c413b1]
    clear c413
    go_wp2_with (first | ((with_reducible refine gate_dst (N := 5) rfl ?_); refine box_on ?hg (N := 5) ?hd (cs := #[.int .i64 0, .int .i64 0, .int .i64 0]) (t := 134) ?hr ?_; (case hd => rfl); (case hg => rfl); (case hr => first | (go_simp; done) | (go_simp; rfl)); intro g403 hg w404 hbox hb; replace HS : Aside0 (Sep (fps []) w [b1 g403 0 0 0] w404) := ⟨HS.out.box hg hbox hb⟩; clear hg hbox hb; have hc406 : w404.cell? ⟨g403, 0, none⟩ = some (.int .i64 0) := blk_cellv (HS.out.at0) 0 rfl; have hz407 : w404.frozen? ⟨g403, 0, none⟩ = false := blk_fz (HS.out.at0) 0; have hc408 : w404.cell? ⟨g403, 1, none⟩ = some (.int .i64 0) := blk_cellv (HS.out.at0) 1 rfl; have hz409 : w404.frozen? ⟨g403, 1, none⟩ = false := blk_fz (HS.out.at0) 1; have hc410 : w404.cell? ⟨g403, 2, none⟩ = some (.int .i64 0) := blk_cellv (HS.out.at0) 2 rfl; have hz411 : w404.frozen? ⟨g403, 2, none⟩ = false := blk_fz (HS.out.at0) 2) | ((with_reducible refine gate_store (t := 134) (p := 5) rfl ?_); refine store_event (w1 := (World.setCell (World.setCell (World.setCell w404 ⟨g403, 0, none⟩ (.int .i64 t400.1)) ⟨g403, 1, none⟩ (.int .i64 t400.2.1)) ⟨g403, 2, none⟩ (.int .i64 t400.2.2.1))) rfl (t := 134) (p := 5) rfl rfl ?hr ?_; (case hr => first | (go_simp; done) | (go_simp; rfl)); intro w412 hst; clear hc406 hz407 hc408 hz409 hc410 hz411; replace HS : Aside0 (Sep (fps []) w [b1 g403 t400.1 t400.2.1 t400.2.2.1] w412) := ⟨by rw [hst]; exact HS.out.setAll (l1 := []) (l2 := []) [.int .i64 t400.1, .int .i64 t400.2.1, .int .i64 t400.2.2.1] rfl⟩; clear hst; replace HS : Aside0 (Sep (fps []) w [] w412) := ⟨HS.out.sub (.cons _ .slnil)⟩))
    go_ret
    rw [← some_eq H]
    exact ⟨(by first | rfl | (simp [IntKind.wrap_u32]; done)), HS.out⟩

set_option maxHeartbeats 30000000 in
set_option maxRecDepth 100000 in
theorem pool_Len_nil.calls  (r : Int) (w : World)   (HS : Aside0 (Sep (fps []) w [] w)) (H : Aside0 (pool_Len_nil.f = some r)) :
    Calls Try.prog 65 #[.pointer none] w fun e w' => e = .returned (.int .i64 r) ∧ Sep (fps []) w [] w' := by
  unfold pool_Len_nil.f at H
  go_enter Try.func65, Try.ntmps65
  go_wp2_with fail
  obtain ⟨t418, HA419, H⟩ := bind_some H
  refine (chain_Len_nil.calls 0 t418 _ ⟨Sep.start _⟩ HA419).mono ?_
  rintro e_ w420 ⟨rfl, hS⟩
  replace HS : Aside0 (Sep (fps []) w [] w420) := ⟨HS.out.call hS⟩
  clear hS
  go_wp2_with fail
  go_ret
  rw [← some_eq H]
  exact ⟨(by first | rfl | (simp [IntKind.wrap_u32]; done)), HS.out⟩

set_option maxHeartbeats 30000000 in
set_option maxRecDepth 100000 in
theorem store_Store_Peek_nil.calls (a448 : Int) (r : Int) (w : World)   (HS : Aside0 (Sep (fps []) w [] w)) (H : Aside0 (store_Store_Peek_nil.f a448 = some r)) :
    Calls Try.prog 20 #[.pointer none, .int .i64 a448] w fun e w' => e = .returned (.int .u32 r) ∧ Sep (fps []) w [] w' := by
  unfold store_Store_Peek_nil.f at H
  go_enter Try.func20, Try.ntmps20
  go_wp2_with fail
  obtain ⟨t449, HA450, H⟩ := bind_some H
  refine (store_Store_has_nil.calls a448 t449 _ ⟨Sep.start _⟩ HA450).mono ?_
  rintro e_ w451 ⟨rfl, hS⟩
  replace HS : Aside0 (Sep (fps []) w [] w451) := ⟨HS.out.call hS⟩
  clear hS
  by_cases c452 : t449 = true
  · have H := if_yes c452 H
    have c452b0 : t449 = true := c452
    have c452b1 : (!t449) = false := by rw [c452b0]; rfl
    try rw [c452b1]
    clear c452
    exact (none_no H).elim
  · have H := if_no c452 H
    have c452b0 : t449 = false := by simpa using c452
    have c452b1 : (!t449) = true := by rw [c452b0]; rfl
    try rw [c452b1]
    clear c452
    go_wp2_with fail
    go_ret
    rw [← some_eq H]
    exact ⟨(by first | rfl | (simp [IntKind.wrap_u32]; done)), HS.out⟩

set_option maxHeartbeats 30000000 in
set_option maxRecDepth 100000 in
theorem ground_Ground_SeeReg_nil.calls (a441 : Int) (r : Int) (w : World)   (HS : Aside0 (Sep (fps []) w [] w)) (H : Aside0 (ground_Ground_SeeReg_nil.f a441 = some r)) :
    Calls Try.prog 48 #[.pointer none, .int .i64 a441] w fun e w' => e = .returned (.int .i64 r) ∧ Sep (fps []) w [] w' := by
  unfold ground_Ground_SeeReg_nil.f at H
  go_enter Try.func48, Try.ntmps48
  go_wp2_with fail
  obtain ⟨t442, HA443, H⟩ := bind_some H
  refine (ground_Ground_all_nil.calls t442 _ ⟨Sep.start _⟩ HA443).mono ?_
  rintro e_ w444 ⟨rfl, hS⟩
  replace HS : Aside0 (Sep (fps []) w [] w444) := ⟨HS.out.call hS⟩
  clear hS
  go_wp2_with fail
  obtain ⟨t445, HA446, H⟩ := bind_some H
  refine (ground_reg.calls a441 t445 _ ⟨Sep.start _⟩ HA446).mono ?_
  rintro e_ w447 ⟨rfl, hS⟩
  replace HS : Aside0 (Sep (fps []) w [] w447) := ⟨HS.out.call hS⟩
  clear hS
  go_wp2_with fail
  obtain ⟨t453, HA454, H⟩ := bind_some H
  refine (store_Store_Peek_nil.calls t445 t453 _ ⟨Sep.start _⟩ HA454).mono ?_
  rintro e_ w455 ⟨rfl, hS⟩
  replace HS : Aside0 (Sep (fps []) w [] w455) := ⟨HS.out.call hS⟩
  clear hS
  go_wp2_with fail
  go_ret
  rw [← some_eq H]
  exact ⟨(by first | rfl | (simp [IntKind.wrap_u32]; done)), HS.out⟩

set_option maxHeartbeats 30000000 in
set_option maxRecDepth 100000 in
theorem ground_Ground_SeeWord_nil.calls (a488 : Int) (a489 : Int) (r : Int) (w : World)   (HS : Aside0 (Sep (fps []) w [] w)) (H : Aside0 (ground_Ground_SeeWord_nil.f a488 a489 = some r)) :
    Calls Try.prog 50 #[.pointer none, .int .i64 a488, .int .i64 a489] w fun e w' => e = .returned (.int .u32 r) ∧ Sep (fps []) w [] w' := by
  unfold ground_Ground_SeeWord_nil.f at H
  go_enter Try.func50, Try.ntmps50
  go_wp2_with fail
  obtain ⟨t490, HA491, H⟩ := bind_some H
  refine (ground_Ground_all_nil.calls t490 _ ⟨Sep.start _⟩ HA491).mono ?_
  rintro e_ w492 ⟨rfl, hS⟩
  replace HS : Aside0 (Sep (fps []) w [] w492) := ⟨HS.out.call hS⟩
  clear hS
  go_wp2_with fail
  obtain ⟨t493, HA494, H⟩ := bind_some H
  refine (ground_Ground_word_nil.calls a488 a489 t493 _ ⟨Sep.start _⟩ HA494).mono ?_
  rintro e_ w495 ⟨rfl, hS⟩
  replace HS : Aside0 (Sep (fps []) w [] w495) := ⟨HS.out.call hS⟩
  clear hS
  go_wp2_with fail
  obtain ⟨t496, HA497, H⟩ := bind_some H
  refine (store_Store_Peek_nil.calls t493 t496 _ ⟨Sep.start _⟩ HA497).mono ?_
  rintro e_ w498 ⟨rfl, hS⟩
  replace HS : Aside0 (Sep (fps []) w [] w498) := ⟨HS.out.call hS⟩
  clear hS
  go_wp2_with fail
  go_ret
  rw [← some_eq H]
  exact ⟨(by first | rfl | (simp [IntKind.wrap_u32]; done)), HS.out⟩

set_option maxHeartbeats 30000000 in
set_option maxRecDepth 100000 in
theorem chain_List_nil.calls (k : Nat) (a425 : Int) (r : List Int) (w : World)   (HS : Aside0 (Sep (fps []) w [] w)) (H : Aside0 (chain_List_nil.f k a425 = some r)) :
    Calls Try.prog 56 #[.pointer none, .int .i64 a425] w fun e w' => ∃ (A529 : Option Addr) (m530 : Nat) (n531 : Nat), e = .returned (.slice A529 m530 n531) ∧ Sep (fps []) w [r7 A529 m530 n531 r] w' := by
  unfold chain_List_nil.f at H
  go_enter Try.func56, Try.ntmps56
  go_wp2_with fail
  obtain ⟨t426, HA427, H⟩ := bind_some H
  refine (chain_of_nil.calls a425 t426 _ ⟨Sep.start _⟩ HA427).mono ?_
  rintro e_ w428 ⟨rfl, hS⟩
  replace HS : Aside0 (Sep (fps []) w [] w428) := ⟨HS.out.call hS⟩
  clear hS
  by_cases c439 : t426.2.2.2 = true
  · have H := if_yes c439 H
    have c439b0 : t426.2.2.2 = true := c439
    have c439b1 : (!t426.2.2.2) = false := by rw [c439b0]; rfl
    try rw [c439b1]
    clear c439
    go_wp2_with (first | ((with_reducible refine gate_dst (N := 5) rfl ?_); refine box_on ?hg (N := 5) ?hd (cs := #[.int .i64 0, .int .i64 0, .int .i64 0]) (t := 134) ?hr ?_; (case hd => rfl); (case hg => rfl); (case hr => first | (go_simp; done) | (go_simp; rfl)); intro g429 hg w430 hbox hb; replace HS : Aside0 (Sep (fps []) w [b1 g429 0 0 0] w430) := ⟨HS.out.box hg hbox hb⟩; clear hg hbox hb; have hc432 : w430.cell? ⟨g429, 0, none⟩ = some (.int .i64 0) := blk_cellv (HS.out.at0) 0 rfl; have hz433 : w430.frozen? ⟨g429, 0, none⟩ = false := blk_fz (HS.out.at0) 0; have hc434 : w430.cell? ⟨g429, 1, none⟩ = some (.int .i64 0) := blk_cellv (HS.out.at0) 1 rfl; have hz435 : w430.frozen? ⟨g429, 1, none⟩ = false := blk_fz (HS.out.at0) 1; have hc436 : w430.cell? ⟨g429, 2, none⟩ = some (.int .i64 0) := blk_cellv (HS.out.at0) 2 rfl; have hz437 : w430.frozen? ⟨g429, 2, none⟩ = false := blk_fz (HS.out.at0) 2) | ((with_reducible refine gate_store (t := 134) (p := 5) rfl ?_); refine store_event (w1 := (World.setCell (World.setCell (World.setCell w430 ⟨g429, 0, none⟩ (.int .i64 t426.1)) ⟨g429, 1, none⟩ (.int .i64 t426.2.1)) ⟨g429, 2, none⟩ (.int .i64 t426.2.2.1))) rfl (t := 134) (p := 5) rfl rfl ?hr ?_; (case hr => first | (go_simp; done) | (go_simp; rfl)); intro w438 hst; clear hc432 hz433 hc434 hz435 hc436 hz437; replace HS : Aside0 (Sep (fps []) w [b1 g429 t426.1 t426.2.1 t426.2.2.1] w438) := ⟨by rw [hst]; exact HS.out.setAll (l1 := []) (l2 := []) [.int .i64 t426.1, .int .i64 t426.2.1, .int .i64 t426.2.2.1] rfl⟩; clear hst; have hc440 : w438.cell? ⟨g429, 0, none⟩ = some (.int .i64 t426.1) := blk_cellv (HS.out.at0) 0 rfl))
    clear hc440
    obtain ⟨t456, HA457, H⟩ := bind_some H
    refine (ground_Ground_SeeReg_nil.calls t426.1 t456 _ ⟨Sep.start _⟩ HA457).mono ?_
    rintro e_ w458 ⟨rfl, hS⟩
    replace HS : Aside0 (Sep (fps []) w [b1 g429 t426.1 t426.2.1 t426.2.2.1] w458) := ⟨HS.out.call hS⟩
    clear hS
    replace HS : Aside0 (Sep (fps []) w [] w458) := ⟨HS.out.sub (.cons _ .slnil)⟩
    go_wp2_with fail
    replace HS : Aside0 (Sep (fps []) w [r7 none 0 0 []] w458) := ⟨HS.out.nilrow 3 (Value.int .i64)⟩
    obtain ⟨o460, AL461, H⟩ := bind_some H
    go_loopg [7, 8] k (fun kq v7 v8 wc => ∃ (x466 : Int) (x467 : List Int) (A468 : Option Addr) (m469 : Nat) (n470 : Nat), v7 = .slice A468 m469 n470 ∧ v8 = .int .i64 x466 ∧ Aside0 (chain_List_nil.lo0 kq x466 x467 = some o460) ∧ Aside0 (Sep (fps []) w [r7 A468 m469 n470 x467] wc))
    case atStart => exact ⟨(t456), (([] : List Int)), (none), (0), (0), (by first | rfl | (simp [IntKind.wrap_u32]; done)), (by first | rfl | (simp [IntKind.wrap_u32]; done)), AL461, ⟨HS.out⟩⟩
    case round =>
      clear AL461 HS
      obtain ⟨x466, x467, A468, m469, n470, rfl, rfl, AL461, HS⟩ := hrel
      obtain ⟨w462, rfl⟩ : ∃ x : World, x = wr := ⟨_, rfl⟩
      obtain rfl := (row_len (HS.out.at0)).symm
      cases gk with
      | zero => exact absurd AL461.out (by simp [chain_List_nil.lo0])
      | succ k463 =>
        have AL0 := AL461.out
        rw [chain_List_nil.lo0] at AL0
        clear AL461
        have AL461 := Aside0.mk AL0
        clear AL0
        by_cases c472 : x466 > 0
        · have AL461 := if_yes c472 AL461
          have c472b0 : decide (0 < x466) = true := decide_eq_true c472
          clear c472
          go_wp2_with fail
          obtain ⟨t473, HA474, AL461⟩ := bind_some AL461
          refine (ground_Ground_Conf_nil.calls t473 _ ⟨Sep.start _⟩ HA474).mono ?_
          rintro e_ w475 ⟨rfl, hS⟩
          replace HS : Aside0 (Sep (fps []) w [r7 A468 x467.length n470 x467] w475) := ⟨HS.out.call hS⟩
          clear hS
          by_cases c477 : (x467.length : Int) < t473.1
          · have AL461 := if_yes c477 AL461
            have c477b0 : decide ((x467.length : Int) < t473.1) = true := decide_eq_true c477
            clear c477
            by_cases c481 : x467.length < 17592186044416
            · have AL461 := if_yes c481 AL461
              have c481b0 : decide (x467.length < 17592186044416) = true := decide_eq_true c481
              clear c481
              obtain ⟨y485, HA486, AL461⟩ := bind_some AL461
              have fl476 : ∀ w, (Instr.field 49 (.agg #[.int .i64 t473.1, .int .i64 t473.2.1, .int .i64 t473.2.2.1, .int .i64 t473.2.2.2]) 0).run Try.prog w = .ok (.int .i64 t473.1) w := fun _ => by kernel_rfl
              go_wp2_with (first | ((with_reducible refine gate_dst (N := 39) rfl ?_); refine slice_on (n := 1) ?hg (N := 39) ?hd (cs := #[.int .i64 (wrap64 (x466 - 1))]) (t := 3) ?hr ?_; (case hd => rfl); (case hg => rfl); (case hr => first | (go_simp; done) | (go_simp; rfl)); intro g478 hg w479 hbox hb; clear fl476; replace HS : Aside0 (Sep (fps []) w [r7 A468 x467.length n470 x467, b6 g478 (wrap64 (x466 - 1))] w479) := ⟨HS.out.box hg hbox hb⟩; clear hg hbox hb) | ((with_reducible refine gate_dst (N := 40) rfl ?_); refine append_event (l1 := []) (l2 := [b6 g478 (wrap64 (x466 - 1))]) rfl (.tmp 36) (.tmp 39) 78 3 (.int .i64 0) 8 rfl Try.underlying78 (by kernel_rfl) rfl (by decide) (Value.int .i64) (fun _ => rfl) (.slice A468 x467.length n470) (x467 : List Int) [wrap64 (x466 - 1)] ⟨g478, 0, none⟩ 1 rfl rfl (blk_news (xs := [wrap64 (x466 - 1)]) (HS.out.at1)) HS.out (by have := of_decide_eq_true c481b0; simp only [List.length_cons, List.length_nil]; omega) HA486 ?_; intro A482 n483 w484 HS1; replace HS : Aside0 (Sep (fps []) w [r7 A482 y485.length n483 y485, b6 g478 (wrap64 (x466 - 1))] w484) := ⟨HS1⟩; clear HS1; replace HS : Aside0 (Sep (fps []) w [r7 A482 y485.length n483 y485] w484) := ⟨HS.out.sub (.cons_cons _ (.cons _ .slnil))⟩))
              obtain ⟨t499, HA500, AL461⟩ := bind_some AL461
              refine (ground_Ground_SeeWord_nil.calls (wrap64 (x466 - 1)) 5 t499 _ ⟨Sep.start _⟩ HA500).mono ?_
              rintro e_ w501 ⟨rfl, hS⟩
              replace HS : Aside0 (Sep (fps []) w [r7 A482 y485.length n483 y485] w501) := ⟨HS.out.call hS⟩
              clear hS
              go_wp2_with fail
              go_roundg k463
              case measure => exact Nat.lt_succ_self _
              case rel => exact ⟨(wrap64 (t499)), (y485), (A482), (y485.length), (n483), (by first | rfl | (simp [IntKind.wrap_u32]; done)), (by first | rfl | (simp [IntKind.wrap_u32]; done)), Aside0.mk AL461.out, ⟨HS.out⟩⟩
            · have AL461 := if_no c481 AL461
              have c481b0 : decide (x467.length < 17592186044416) = false := decide_eq_false c481
              clear c481
              exact (none_no AL461).elim
          · have AL461 := if_no c477 AL461
            have c477b0 : decide ((x467.length : Int) < t473.1) = false := decide_eq_false c477
            clear c477
            have ho := some_eq AL461
            subst ho
            clear AL461
            have fl476 : ∀ w, (Instr.field 49 (.agg #[.int .i64 t473.1, .int .i64 t473.2.1, .int .i64 t473.2.2.1, .int .i64 t473.2.2.2]) 0).run Try.prog w = .ok (.int .i64 t473.1) w := fun _ => by kernel_rfl
            go_wp2_with fail
            clear fl476
            go_ret
            rw [← some_eq H]
            exact ⟨A468, x467.length, n470, (by first | rfl | (simp [IntKind.wrap_u32]; done)), HS.out⟩
        · have AL461 := if_no c472 AL461
          have c472b0 : decide (0 < x466) = false := decide_eq_false c472
          clear c472
          have ho := some_eq AL461
          subst ho
          clear AL461
          go_wp2_with fail
          go_ret
          rw [← some_eq H]
          exact ⟨A468, x467.length, n470, (by first | rfl | (simp [IntKind.wrap_u32]; done)), HS.out⟩
  · have H := if_no c439 H
    have c439b0 : t426.2.2.2 = false := by simpa using c439
    have c439b1 : (!t426.2.2.2) = true := by rw [c439b0]; rfl
    try rw [c439b1]
    clear c439
    go_wp2_with (first | ((with_reducible refine gate_dst (N := 5) rfl ?_); refine box_on ?hg (N := 5) ?hd (cs := #[.int .i64 0, .int .i64 0, .int .i64 0]) (t := 134) ?hr ?_; (case hd => rfl); (case hg => rfl); (case hr => first | (go_simp; done) | (go_simp; rfl)); intro g429 hg w430 hbox hb; replace HS : Aside0 (Sep (fps []) w [b1 g429 0 0 0] w430) := ⟨HS.out.box hg hbox hb⟩; clear hg hbox hb; have hc432 : w430.cell? ⟨g429, 0, none⟩ = some (.int .i64 0) := blk_cellv (HS.out.at0) 0 rfl; have hz433 : w430.frozen? ⟨g429, 0, none⟩ = false := blk_fz (HS.out.at0) 0; have hc434 : w430.cell? ⟨g429, 1, none⟩ = some (.int .i64 0) := blk_cellv (HS.out.at0) 1 rfl; have hz435 : w430.frozen? ⟨g429, 1, none⟩ = false := blk_fz (HS.out.at0) 1; have hc436 : w430.cell? ⟨g429, 2, none⟩ = some (.int .i64 0) := blk_cellv (HS.out.at0) 2 rfl; have hz437 : w430.frozen? ⟨g429, 2, none⟩ = false := blk_fz (HS.out.at0) 2) | ((with_reducible refine gate_store (t := 134) (p := 5) rfl ?_); refine store_event (w1 := (World.setCell (World.setCell (World.setCell w430 ⟨g429, 0, none⟩ (.int .i64 t426.1)) ⟨g429, 1, none⟩ (.int .i64 t426.2.1)) ⟨g429, 2, none⟩ (.int .i64 t426.2.2.1))) rfl (t := 134) (p := 5) rfl rfl ?hr ?_; (case hr => first | (go_simp; done) | (go_simp; rfl)); intro w438 hst; clear hc432 hz433 hc434 hz435 hc436 hz437; replace HS : Aside0 (Sep (fps []) w [b1 g429 t426.1 t426.2.1 t426.2.2.1] w438) := ⟨by rw [hst]; exact HS.out.setAll (l1 := []) (l2 := []) [.int .i64 t426.1, .int .i64 t426.2.1, .int .i64 t426.2.2.1] rfl⟩; clear hst; replace HS : Aside0 (Sep (fps []) w [] w438) := ⟨HS.out.sub (.cons _ .slnil)⟩))
    replace HS : Aside0 (Sep (fps []) w [r7 none 0 0 []] w438) := ⟨HS.out.nilrow 3 (Value.int .i64)⟩
    go_ret
    rw [← some_eq H]
    exact ⟨none, 0, 0, (by first | rfl | (simp [IntKind.wrap_u32]; done)), HS.out⟩

set_option maxHeartbeats 30000000 in
set_option maxRecDepth 100000 in
theorem pool_List_nil.calls (k : Nat)  (r : List Int) (w : World)   (HS : Aside0 (Sep (fps []) w [] w)) (H : Aside0 (pool_List_nil.f k = some r)) :
    Calls Try.prog 64 #[.pointer none] w fun e w' => ∃ (A547 : Option Addr) (m548 : Nat) (n549 : Nat), e = .returned (.slice A547 m548 n549) ∧ Sep (fps []) w [r7 A547 m548 n549 r] w' := by
  unfold pool_List_nil.f at H
  go_enter Try.func64, Try.ntmps64
  go_wp2_with fail
  obtain ⟨t533, HA534, H⟩ := bind_some H
  refine (chain_List_nil.calls _ 0 t533 _ ⟨Sep.start _⟩ HA534).mono ?_
  rintro e_ w535 ⟨A537, m538, n539, rfl, hS⟩
  replace HS : Aside0 (Sep (fps []) w [r7 A537 m538 n539 t533] w535) := ⟨HS.out.call hS⟩
  clear hS
  obtain rfl := (row_len (HS.out.at0)).symm
  go_wp2_with fail
  go_ret
  rw [← some_eq H]
  exact ⟨A537, t533.length, n539, (by first | rfl | (simp [IntKind.wrap_u32]; done)), HS.out⟩

set_option maxHeartbeats 30000000 in
set_option maxRecDepth 100000 in
theorem ratio_Clamp.calls (a596 : Int) (a597 : Int) (a598 : Int) (r : Int) (w : World)   (HS : Aside0 (Sep (fps []) w [] w)) (H : Aside0 (ratio_Clamp.f a596 a597 a598 = some r)) :
    Calls Try.prog 123 #[.int .i64 a596, .int .i64 a597, .int .i64 a598] w fun e w' => e = .returned (.int .i64 r) ∧ Sep (fps []) w [] w' := by
  unfold ratio_Clamp.f at H
  go_enter Try.func123, Try.ntmps123
  by_cases c599 : a596 > a598
  · have H := if_yes c599 H
    have c599b0 : decide (a598 < a596) = true := decide_eq_true c599
    clear c599
    go_wp2_with fail
    go_ret
    rw [← some_eq H]
    exact ⟨(by first | rfl | (simp [IntKind.wrap_u32]; done)), HS.out⟩
  · have H := if_no c599 H
    have c599b0 : decide (a598 < a596) = false := decide_eq_false c599
    clear c599
    by_cases c600 : a596 < a597
    · have H := if_yes c600 H
      have c600b0 : decide (a596 < a597) = true := decide_eq_true c600
      skip
      go_wp2_with fail
      clear c600
      go_ret
      rw [← some_eq H]
      exact ⟨(by first | rfl | (simp [IntKind.wrap_u32]; done)), HS.out⟩
    · have H := if_no c600 H
      have c600b0 : decide (a596 < a597) = false := decide_eq_false c600
      skip
      go_wp2_with fail
      clear c600
      go_ret
      rw [← some_eq H]
      exact ⟨(by first | rfl | (simp [IntKind.wrap_u32]; done)), HS.out⟩

set_option maxHeartbeats 30000000 in
set_option maxRecDepth 100000 in
theorem plan_within.calls (a593 : Int) (a594 : Int) (a595 : Int) (r : Bool) (w : World)   (HS : Aside0 (Sep (fps []) w [] w)) (H : Aside0 (plan_within.f a593 a594 a595 = some r)) :
    Calls Try.prog 115 #[.int .i64 a593, .int .i64 a594, .int .i64 a595] w fun e w' => e = .returned (.bool r) ∧ Sep (fps []) w [] w' := by
  unfold plan_within.f at H
  go_enter Try.func115, Try.ntmps115
  go_wp2_with fail
  obtain ⟨t601, HA602, H⟩ := bind_some H
  refine (ratio_Clamp.calls a593 a594 a595 t601 _ ⟨Sep.start _⟩ HA602).mono ?_
  rintro e_ w603 ⟨rfl, hS⟩
  replace HS : Aside0 (Sep (fps []) w [] w603) := ⟨HS.out.call hS⟩
  clear hS
  go_wp2_with fail
  go_ret
  rw [← some_eq H]
  exact ⟨(by first | rfl | (simp [IntKind.wrap_u32]; done)), HS.out⟩

set_option maxHeartbeats 30000000 in
set_option maxRecDepth 100000 in
theorem plan_Check.calls (a585 : Int) (a586 : Int) (a587 : Int) (a588 : Int) (r : Int) (w : World)   (HS : Aside0 (Sep (fps []) w [] w)) (H : Aside0 (plan_Check.f a585 a586 a587 a588 = some r)) :
    Calls Try.prog 105 #[.agg #[.int .i64 a585, .int .i64 a586, .int .i64 a587, .int .i64 a588]] w fun e w' => e = .returned (.int .i64 r) ∧ Sep (fps []) w [] w' := by
  unfold plan_Check.f at H
  go_enter Try.func105, Try.ntmps105
  go_wp2_with (first | ((with_reducible refine gate_dst (N := 1) rfl ?_); refine box_on ?hg (N := 1) ?hd (cs := #[.int .i64 a585, .int .i64 a586, .int .i64 a587, .int .i64 a588]) (t := 49) ?hr ?_; (case hd => rfl); (case hg => rfl); (case hr => first | (go_simp; done) | (go_simp; rfl)); intro g589 hg w590 hbox hb; replace HS : Aside0 (Sep (fps []) w [b2 g589 a585 a586 a587 a588] w590) := ⟨HS.out.box hg hbox hb⟩; clear hg hbox hb; have hc592 : w590.cell? ⟨g589, 0, none⟩ = some (.int .i64 a585) := blk_cellv (HS.out.at0) 0 rfl))
  clear hc592
  obtain ⟨t604, HA605, H⟩ := bind_some H
  refine (plan_within.calls a585 1 1048576 t604 _ ⟨Sep.start _⟩ HA605).mono ?_
  rintro e_ w606 ⟨rfl, hS⟩
  replace HS : Aside0 (Sep (fps []) w [b2 g589 a585 a586 a587 a588] w606) := ⟨HS.out.call hS⟩
  clear hS
  by_cases c607 : t604 = true
  · have H := if_yes c607 H
    have c607b0 : t604 = true := c607
    have c607b1 : (!t604) = false := by rw [c607b0]; rfl
    clear c607
    have hc608 : w606.cell? ⟨g589, 1, none⟩ = some (.int .i64 a586) := blk_cellv (HS.out.at0) 1 rfl
    go_wp2_with fail
    clear hc608
    obtain ⟨t609, HA610, H⟩ := bind_some H
    refine (plan_within.calls a586 16 256 t609 _ ⟨Sep.start _⟩ HA610).mono ?_
    rintro e_ w611 ⟨rfl, hS⟩
    replace HS : Aside0 (Sep (fps []) w [b2 g589 a585 a586 a587 a588] w611) := ⟨HS.out.call hS⟩
    clear hS
    by_cases c612 : t609 = true
    · have H := if_yes c612 H
      have c612b0 : t609 = true := c612
      have c612b1 : (!t609) = false := by rw [c612b0]; rfl
      clear c612
      have hc613 : w611.cell? ⟨g589, 2, none⟩ = some (.int .i64 a587) := blk_cellv (HS.out.at0) 2 rfl
      go_wp2_with fail
      clear hc613
      obtain ⟨t614, HA615, H⟩ := bind_some H
      refine (plan_within.calls a587 1 4096 t614 _ ⟨Sep.start _⟩ HA615).mono ?_
      rintro e_ w616 ⟨rfl, hS⟩
      replace HS : Aside0 (Sep (fps []) w [b2 g589 a585 a586 a587 a588] w616) := ⟨HS.out.call hS⟩
      clear hS
      by_cases c617 : t614 = true
      · have H := if_yes c617 H
        have c617b0 : t614 = true := c617
        have c617b1 : (!t614) = false := by rw [c617b0]; rfl
        clear c617
        have hc618 : w616.cell? ⟨g589, 3, none⟩ = some (.int .i64 a588) := blk_cellv (HS.out.at0) 3 rfl
        go_wp2_with fail
        clear hc618
        obtain ⟨t619, HA620, H⟩ := bind_some H
        refine (plan_within.calls a588 1 65536 t619 _ ⟨Sep.start _⟩ HA620).mono ?_
        rintro e_ w621 ⟨rfl, hS⟩
        replace HS : Aside0 (Sep (fps []) w [b2 g589 a585 a586 a587 a588] w621) := ⟨HS.out.call hS⟩
        clear hS
        by_cases c622 : t619 = true
        · have H := if_yes c622 H
          have c622b0 : t619 = true := c622
          have c622b1 : (!t619) = false := by rw [c622b0]; rfl
          clear c622
          by_cases c625 : (wrap64 (a585 * a586)) ≤ 4194304
          · have H := if_yes c625 H
            have c625b0 : decide ((wrap64 (a585 * a586)) ≤ 4194304) = true := decide_eq_true c625
            clear c625
            have hc623 : w621.cell? ⟨g589, 0, none⟩ = some (.int .i64 a585) := blk_cellv (HS.out.at0) 0 rfl
            have hc624 : w621.cell? ⟨g589, 1, none⟩ = some (.int .i64 a586) := blk_cellv (HS.out.at0) 1 rfl
            replace HS : Aside0 (Sep (fps []) w [] w621) := ⟨HS.out.sub (.cons _ .slnil)⟩
            go_wp2_with fail
            clear hc623 hc624
            go_ret
            rw [← some_eq H]
            exact ⟨(by first | rfl | (simp [IntKind.wrap_u32]; done)), HS.out⟩
          · have H := if_no c625 H
            have c625b0 : decide ((wrap64 (a585 * a586)) ≤ 4194304) = false := decide_eq_false c625
            clear c625
            have hc623 : w621.cell? ⟨g589, 0, none⟩ = some (.int .i64 a585) := blk_cellv (HS.out.at0) 0 rfl
            have hc624 : w621.cell? ⟨g589, 1, none⟩ = some (.int .i64 a586) := blk_cellv (HS.out.at0) 1 rfl
            replace HS : Aside0 (Sep (fps []) w [] w621) := ⟨HS.out.sub (.cons _ .slnil)⟩
            go_wp2_with fail
            clear hc623 hc624
            go_ret
            rw [← some_eq H]
            exact ⟨(by first | rfl | (simp [IntKind.wrap_u32]; done)), HS.out⟩
        · have H := if_no c622 H
          have c622b0 : t619 = false := by simpa using c622
          have c622b1 : (!t619) = true := by rw [c622b0]; rfl
          clear c622
          replace HS : Aside0 (Sep (fps []) w [] w621) := ⟨HS.out.sub (.cons _ .slnil)⟩
          go_wp2_with fail
          go_ret
          rw [← some_eq H]
          exact ⟨(by first | rfl | (simp [IntKind.wrap_u32]; done)), HS.out⟩
      · have H := if_no c617 H
        have c617b0 : t614 = false := by simpa using c617
        have c617b1 : (!t614) = true := by rw [c617b0]; rfl
        clear c617
        replace HS : Aside0 (Sep (fps []) w [] w616) := ⟨HS.out.sub (.cons _ .slnil)⟩
        go_wp2_with fail
        go_ret
        rw [← some_eq H]
        exact ⟨(by first | rfl | (simp [IntKind.wrap_u32]; done)), HS.out⟩
    · have H := if_no c612 H
      have c612b0 : t609 = false := by simpa using c612
      have c612b1 : (!t609) = true := by rw [c612b0]; rfl
      clear c612
      replace HS : Aside0 (Sep (fps []) w [] w611) := ⟨HS.out.sub (.cons _ .slnil)⟩
      go_wp2_with fail
      go_ret
      rw [← some_eq H]
      exact ⟨(by first | rfl | (simp [IntKind.wrap_u32]; done)), HS.out⟩
  · have H := if_no c607 H
    have c607b0 : t604 = false := by simpa using c607
    have c607b1 : (!t604) = true := by rw [c607b0]; rfl
    clear c607
    replace HS : Aside0 (Sep (fps []) w [] w606) := ⟨HS.out.sub (.cons _ .slnil)⟩
    go_wp2_with fail
    go_ret
    rw [← some_eq H]
    exact ⟨(by first | rfl | (simp [IntKind.wrap_u32]; done)), HS.out⟩

set_option maxHeartbeats 30000000 in
set_option maxRecDepth 100000 in
theorem ratio_counts.calls (a658 : Int) (r : Int) (w : World)   (HS : Aside0 (Sep (fps []) w [] w)) (H : Aside0 (ratio_counts.f a658 = some r)) :
    Calls Try.prog 116 #[.int .i64 a658] w fun e w' => e = .returned (.int .i64 r) ∧ Sep (fps []) w [] w' := by
  unfold ratio_counts.f at H
  go_enter Try.func116, Try.ntmps116
  go_wp2_with fail
  obtain ⟨t659, HA660, H⟩ := bind_some H
  refine (ratio_Clamp.calls a658 0 1125899906842624 t659 _ ⟨Sep.start _⟩ HA660).mono ?_
  rintro e_ w661 ⟨rfl, hS⟩
  replace HS : Aside0 (Sep (fps []) w [] w661) := ⟨HS.out.call hS⟩
  clear hS
  go_wp2_with fail
  go_ret
  rw [← some_eq H]
  exact ⟨(by first | rfl | (simp [IntKind.wrap_u32]; done)), HS.out⟩

set_option maxHeartbeats 30000000 in
set_option maxRecDepth 100000 in
theorem ratio_zero.calls (a657 : Int) (r : Bool) (w : World)   (HS : Aside0 (Sep (fps []) w [] w)) (H : Aside0 (ratio_zero.f a657 = some r)) :
    Calls Try.prog 118 #[.int .i64 a657] w fun e w' => e = .returned (.bool r) ∧ Sep (fps []) w [] w' := by
  unfold ratio_zero.f at H
  go_enter Try.func118, Try.ntmps118
  go_wp2_with fail
  obtain ⟨t662, HA663, H⟩ := bind_some H
  refine (ratio_counts.calls a657 t662 _ ⟨Sep.start _⟩ HA663).mono ?_
  rintro e_ w664 ⟨rfl, hS⟩
  replace HS : Aside0 (Sep (fps []) w [] w664) := ⟨HS.out.call hS⟩
  clear hS
  go_wp2_with fail
  go_ret
  rw [← some_eq H]
  exact ⟨(by first | rfl | (simp [IntKind.wrap_u32]; done)), HS.out⟩

set_option maxHeartbeats 30000000 in
set_option maxRecDepth 100000 in
theorem slices_IndexFunc_int_int_F118.calls (k : Nat) (l643 : List Int) (A644 : Option Addr) (n645 : Nat) (r : Int) (w : World) (HR646 : Aside0 (Rd (Kd.int .i64) (fps []) w A644 l643.length l643))  (HS : Aside0 (Sep (fps []) w [] w)) (H : Aside0 (slices_IndexFunc_int_int_F118.f k l643 = some r)) :
    Calls Try.prog 124 #[.slice A644 l643.length n645, .func (.func 118) #[] #[]] w fun e w' => e = .returned (.int .i64 r) ∧ Sep (fps []) w [] w' := by
  unfold slices_IndexFunc_int_int_F118.f at H
  go_enter Try.func124, Try.ntmps124
  go_wp2_with fail
  obtain ⟨o669, AL670, H⟩ := bind_some H
  go_loopg [8] k (fun kq v8 wc => ∃ (x673 : Int), v8 = .int .i64 x673 ∧ Aside0 (slices_IndexFunc_int_int_F118.lo0 kq l643 x673 = some o669) ∧ Aside0 (Sep (fps []) w [] wc))
  case atStart => exact ⟨(0), (by first | rfl | (simp [IntKind.wrap_u32]; done)), AL670, ⟨HS.out⟩⟩
  case round =>
    clear AL670 HS
    obtain ⟨x673, rfl, AL670, HS⟩ := hrel
    obtain ⟨w671, rfl⟩ : ∃ x : World, x = wr := ⟨_, rfl⟩
    cases gk with
    | zero => exact absurd AL670.out (by simp [slices_IndexFunc_int_int_F118.lo0])
    | succ k672 =>
      have AL0 := AL670.out
      rw [slices_IndexFunc_int_int_F118.lo0] at AL0
      clear AL670
      have AL670 := Aside0.mk AL0
      clear AL0
      by_cases c674 : x673 < (l643.length : Int)
      · have AL670 := if_yes c674 AL670
        have c674b0 : decide (x673 < (l643.length : Int)) = true := decide_eq_true c674
        clear c674
        by_cases c675 : 0 ≤ x673
        · have AL670 := if_yes c675 AL670
          have c675b0 : decide (0 ≤ x673) = true := decide_eq_true c675
          have c675p : (0 ≤ x673) = True := eq_true c675
          clear c675
          have ip676 : (x673 < (l643.length : Int)) = True := eq_true (of_decide_eq_true c674b0)
          obtain ⟨hx677a, hx677e, hx677⟩ := Kd.at_int (Rd.read (fun _ _ _ _ h => h) HR646.out HS.out.fr) x673 (of_decide_eq_true c675b0) (of_decide_eq_true c674b0); cases hx677e
          go_wp2_with fail
          clear hx677
          obtain ⟨t665, HA678, AL670⟩ := bind_some AL670
          refine (ratio_zero.calls (rd l643 x673) t665 _ ⟨Sep.start _⟩ HA678).mono ?_
          rintro e_ w679 ⟨rfl, hS⟩
          replace HS : Aside0 (Sep (fps []) w [] w679) := ⟨HS.out.call hS⟩
          clear hS
          by_cases c680 : t665 = true
          · have AL670 := if_yes c680 AL670
            have c680b0 : t665 = true := c680
            have c680b1 : (!t665) = false := by rw [c680b0]; rfl
            clear c680
            go_wp2_with fail
            have ho := some_eq AL670
            subst ho
            have H := lp_ret H
            go_ret
            rw [← some_eq H]
            exact ⟨(by first | rfl | (simp [IntKind.wrap_u32]; done)), HS.out⟩
          · have AL670 := if_no c680 AL670
            have c680b0 : t665 = false := by simpa using c680
            have c680b1 : (!t665) = true := by rw [c680b0]; rfl
            clear c680
            go_wp2_with fail
            go_roundg k672
            case measure => exact Nat.lt_succ_self _
            case rel => exact ⟨(wrap64 (x673 + 1)), (by first | rfl | (simp [IntKind.wrap_u32]; done)), Aside0.mk AL670.out, ⟨HS.out⟩⟩
        · have AL670 := if_no c675 AL670
          have c675b0 : decide (0 ≤ x673) = false := decide_eq_false c675
          clear c675
          exact (none_no AL670).elim
      · have AL670 := if_no c674 AL670
        have c674b0 : decide (x673 < (l643.length : Int)) = false := decide_eq_false c674
        clear c674
        have ho := some_eq AL670
        subst ho
        clear AL670
        have H := lp_out H
        go_wp2_with fail
        go_ret
        rw [← some_eq H]
        exact ⟨(by first | rfl | (simp [IntKind.wrap_u32]; done)), HS.out⟩

set_option maxHeartbeats 30000000 in
set_option maxRecDepth 100000 in
theorem slices_ContainsFunc_int_int_F118.calls (k : Nat) (l639 : List Int) (A640 : Option Addr) (n641 : Nat) (r : Bool) (w : World) (HR642 : Aside0 (Rd (Kd.int .i64) (fps []) w A640 l639.length l639))  (HS : Aside0 (Sep (fps []) w [] w)) (H : Aside0 (slices_ContainsFunc_int_int_F118.f k l639 = some r)) :
    Calls Try.prog 117 #[.slice A640 l639.length n641, .func (.func 118) #[] #[]] w fun e w' => e = .returned (.bool r) ∧ Sep (fps []) w [] w' := by
  unfold slices_ContainsFunc_int_int_F118.f at H
  go_enter Try.func117, Try.ntmps117
  go_wp2_with fail
  obtain ⟨t682, HA683, H⟩ := bind_some H
  refine (slices_IndexFunc_int_int_F118.calls _ l639 A640 n641 t682 _ ⟨Rd.pass (l := []) (by decide) (fun _ _ _ _ h => h) HR642.out HS.out⟩ ⟨Sep.start _⟩ HA683).mono ?_
  rintro e_ w684 ⟨rfl, hS⟩
  replace HS : Aside0 (Sep (fps []) w [] w684) := ⟨HS.out.call hS⟩
  clear hS
  go_wp2_with fail
  go_ret
  rw [← some_eq H]
  exact ⟨(by first | rfl | (simp [IntKind.wrap_u32]; done)), HS.out⟩

set_option maxHeartbeats 30000000 in
set_option maxRecDepth 100000 in
theorem ratio_Mul.calls (k : Nat) (l635 : List Int) (A636 : Option Addr) (n637 : Nat) (r : Int) (w : World) (HR638 : Aside0 (Rd (Kd.int .i64) (fps []) w A636 l635.length l635))  (HS : Aside0 (Sep (fps []) w [] w)) (H : Aside0 (ratio_Mul.f k l635 = some r)) :
    Calls Try.prog 107 #[.slice A636 l635.length n637] w fun e w' => e = .returned (.int .i64 r) ∧ Sep (fps []) w [] w' := by
  unfold ratio_Mul.f at H
  go_enter Try.func107, Try.ntmps107
  go_wp2_with fail
  obtain ⟨t685, HA686, H⟩ := bind_some H
  refine (slices_ContainsFunc_int_int_F118.calls _ l635 A636 n637 t685 _ ⟨Rd.pass (l := []) (by decide) (fun _ _ _ _ h => h) HR638.out HS.out⟩ ⟨Sep.start _⟩ HA686).mono ?_
  rintro e_ w687 ⟨rfl, hS⟩
  replace HS : Aside0 (Sep (fps []) w [] w687) := ⟨HS.out.call hS⟩
  clear hS
  by_cases c688 : t685 = true
  · have H := if_yes c688 H
    have c688b0 : t685 = true := c688
    have c688b1 : (!t685) = false := by rw [c688b0]; rfl
    clear c688
    go_wp2_with fail
    go_ret
    rw [← some_eq H]
    exact ⟨(by first | rfl | (simp [IntKind.wrap_u32]; done)), HS.out⟩
  · have H := if_no c688 H
    have c688b0 : t685 = false := by simpa using c688
    have c688b1 : (!t685) = true := by rw [c688b0]; rfl
    clear c688
    go_wp2_with fail
    obtain ⟨o690, AL691, H⟩ := bind_some H
    go_loopg [3, 11] k (fun kq v3 v11 wc => ∃ (x694 : Int) (x695 : Int), v3 = .int .i64 x694 ∧ v11 = .int .i64 x695 ∧ Aside0 (ratio_Mul.lo0 kq l635 x694 x695 = some o690) ∧ Aside0 (Sep (fps []) w [] wc))
    case atStart => exact ⟨(1), (0), (by first | rfl | (simp [IntKind.wrap_u32]; done)), (by first | rfl | (simp [IntKind.wrap_u32]; done)), AL691, ⟨HS.out⟩⟩
    case round =>
      clear AL691 HS
      obtain ⟨x694, x695, rfl, rfl, AL691, HS⟩ := hrel
      obtain ⟨w692, rfl⟩ : ∃ x : World, x = wr := ⟨_, rfl⟩
      cases gk with
      | zero => exact absurd AL691.out (by simp [ratio_Mul.lo0])
      | succ k693 =>
        have AL0 := AL691.out
        rw [ratio_Mul.lo0] at AL0
        clear AL691
        have AL691 := Aside0.mk AL0
        clear AL0
        by_cases c696 : x695 < (l635.length : Int)
        · have AL691 := if_yes c696 AL691
          have c696b0 : decide (x695 < (l635.length : Int)) = true := decide_eq_true c696
          clear c696
          by_cases c697 : 0 ≤ x695
          · have AL691 := if_yes c697 AL691
            have c697b0 : decide (0 ≤ x695) = true := decide_eq_true c697
            have c697p : (0 ≤ x695) = True := eq_true c697
            clear c697
            have ip698 : (x695 < (l635.length : Int)) = True := eq_true (of_decide_eq_true c696b0)
            obtain ⟨hx699a, hx699e, hx699⟩ := Kd.at_int (Rd.read (fun _ _ _ _ h => h) HR638.out HS.out.fr) x695 (of_decide_eq_true c697b0) (of_decide_eq_true c696b0); cases hx699e
            go_wp2_with fail
            clear hx699
            obtain ⟨t700, HA701, AL691⟩ := bind_some AL691
            refine (ratio_counts.calls (rd l635 x695) t700 _ ⟨Sep.start _⟩ HA701).mono ?_
            rintro e_ w702 ⟨rfl, hS⟩
            replace HS : Aside0 (Sep (fps []) w [] w702) := ⟨HS.out.call hS⟩
            clear hS
            by_cases c703 : t700 = 0
            · have AL691 := if_yes c703 AL691
              have c703b0 : (t700 == 0) = true := beq_iff_eq.mpr c703
              have c703b1 : (t700 != 0) = false := bne_eq_false_iff_eq.mpr c703
              exact (none_no AL691).elim
            · have AL691 := if_no c703 AL691
              have c703b0 : (t700 == 0) = false := beq_eq_false_iff_ne.mpr c703
              have c703b1 : (t700 != 0) = true := bne_iff_ne.mpr c703
              by_cases c704 : x694 ≤ (wrap64 (Int.tdiv (1125899906842624 : Int) t700))
              · have AL691 := if_yes c704 AL691
                have c704b0 : decide (x694 ≤ (wrap64 (Int.tdiv (1125899906842624 : Int) t700))) = true := decide_eq_true c704
                clear c704
                skip
                go_wp2_with fail
                clear c703
                go_roundg k693
                case measure => exact Nat.lt_succ_self _
                case rel => exact ⟨(wrap64 (x694 * t700)), (wrap64 (x695 + 1)), (by first | rfl | (simp [IntKind.wrap_u32]; done)), (by first | rfl | (simp [IntKind.wrap_u32]; done)), Aside0.mk AL691.out, ⟨HS.out⟩⟩
              · have AL691 := if_no c704 AL691
                have c704b0 : decide (x694 ≤ (wrap64 (Int.tdiv (1125899906842624 : Int) t700))) = false := decide_eq_false c704
                clear c704
                skip
                go_wp2_with fail
                clear c703
                go_roundg k693
                case measure => exact Nat.lt_succ_self _
                case rel => exact ⟨(1125899906842624), (wrap64 (x695 + 1)), (by first | rfl | (simp [IntKind.wrap_u32]; done)), (by first | rfl | (simp [IntKind.wrap_u32]; done)), Aside0.mk AL691.out, ⟨HS.out⟩⟩
          · have AL691 := if_no c697 AL691
            have c697b0 : decide (0 ≤ x695) = false := decide_eq_false c697
            clear c697
            exact (none_no AL691).elim
        · have AL691 := if_no c696 AL691
          have c696b0 : decide (x695 < (l635.length : Int)) = false := decide_eq_false c696
          clear c696
          have ho := some_eq AL691
          subst ho
          clear AL691
          go_wp2_with fail
          go_ret
          rw [← some_eq H]
          exact ⟨(by first | rfl | (simp [IntKind.wrap_u32]; done)), HS.out⟩

set_option maxHeartbeats 30000000 in
set_option maxRecDepth 100000 in
theorem ratio_Add.calls (k : Nat) (l712 : List Int) (A713 : Option Addr) (n714 : Nat) (r : Int) (w : World) (HR715 : Aside0 (Rd (Kd.int .i64) (fps []) w A713 l712.length l712))  (HS : Aside0 (Sep (fps []) w [] w)) (H : Aside0 (ratio_Add.f k l712 = some r)) :
    Calls Try.prog 106 #[.slice A713 l712.length n714] w fun e w' => e = .returned (.int .i64 r) ∧ Sep (fps []) w [] w' := by
  unfold ratio_Add.f at H
  go_enter Try.func106, Try.ntmps106
  go_wp2_with fail
  obtain ⟨o717, AL718, H⟩ := bind_some H
  go_loopg [3, 8] k (fun kq v3 v8 wc => ∃ (x721 : Int) (x722 : Int), v3 = .int .i64 x721 ∧ v8 = .int .i64 x722 ∧ Aside0 (ratio_Add.lo0 kq l712 x721 x722 = some o717) ∧ Aside0 (Sep (fps []) w [] wc))
  case atStart => exact ⟨(0), (0), (by first | rfl | (simp [IntKind.wrap_u32]; done)), (by first | rfl | (simp [IntKind.wrap_u32]; done)), AL718, ⟨HS.out⟩⟩
  case round =>
    clear AL718 HS
    obtain ⟨x721, x722, rfl, rfl, AL718, HS⟩ := hrel
    obtain ⟨w719, rfl⟩ : ∃ x : World, x = wr := ⟨_, rfl⟩
    cases gk with
    | zero => exact absurd AL718.out (by simp [ratio_Add.lo0])
    | succ k720 =>
      have AL0 := AL718.out
      rw [ratio_Add.lo0] at AL0
      clear AL718
      have AL718 := Aside0.mk AL0
      clear AL0
      by_cases c723 : x722 < (l712.length : Int)
      · have AL718 := if_yes c723 AL718
        have c723b0 : decide (x722 < (l712.length : Int)) = true := decide_eq_true c723
        clear c723
        by_cases c724 : 0 ≤ x722
        · have AL718 := if_yes c724 AL718
          have c724b0 : decide (0 ≤ x722) = true := decide_eq_true c724
          have c724p : (0 ≤ x722) = True := eq_true c724
          clear c724
          have ip725 : (x722 < (l712.length : Int)) = True := eq_true (of_decide_eq_true c723b0)
          obtain ⟨hx726a, hx726e, hx726⟩ := Kd.at_int (Rd.read (fun _ _ _ _ h => h) HR715.out HS.out.fr) x722 (of_decide_eq_true c724b0) (of_decide_eq_true c723b0); cases hx726e
          go_wp2_with fail
          clear hx726
          obtain ⟨t727, HA728, AL718⟩ := bind_some AL718
          refine (ratio_counts.calls (rd l712 x722) t727 _ ⟨Sep.start _⟩ HA728).mono ?_
          rintro e_ w729 ⟨rfl, hS⟩
          replace HS : Aside0 (Sep (fps []) w [] w729) := ⟨HS.out.call hS⟩
          clear hS
          by_cases c730 : 1125899906842624 < (wrap64 (x721 + t727))
          · have AL718 := if_yes c730 AL718
            have c730b0 : decide (1125899906842624 < (wrap64 (x721 + t727))) = true := decide_eq_true c730
            skip
            go_wp2_with fail
            clear c730
            go_roundg k720
            case measure => exact Nat.lt_succ_self _
            case rel => exact ⟨(1125899906842624), (wrap64 (x722 + 1)), (by first | rfl | (simp [IntKind.wrap_u32]; done)), (by first | rfl | (simp [IntKind.wrap_u32]; done)), Aside0.mk AL718.out, ⟨HS.out⟩⟩
          · have AL718 := if_no c730 AL718
            have c730b0 : decide (1125899906842624 < (wrap64 (x721 + t727))) = false := decide_eq_false c730
            skip
            go_wp2_with fail
            clear c730
            go_roundg k720
            case measure => exact Nat.lt_succ_self _
            case rel => exact ⟨(wrap64 (x721 + t727)), (wrap64 (x722 + 1)), (by first | rfl | (simp [IntKind.wrap_u32]; done)), (by first | rfl | (simp [IntKind.wrap_u32]; done)), Aside0.mk AL718.out, ⟨HS.out⟩⟩
        · have AL718 := if_no c724 AL718
          have c724b0 : decide (0 ≤ x722) = false := decide_eq_false c724
          clear c724
          exact (none_no AL718).elim
      · have AL718 := if_no c723 AL718
        have c723b0 : decide (x722 < (l712.length : Int)) = false := decide_eq_false c723
        clear c723
        have ho := some_eq AL718
        subst ho
        clear AL718
        go_wp2_with fail
        go_ret
        rw [← some_eq H]
        exact ⟨(by first | rfl | (simp [IntKind.wrap_u32]; done)), HS.out⟩

set_option maxHeartbeats 30000000 in
set_option maxRecDepth 100000 in
theorem ratio_by.calls (a941 : Int) (r : Int) (w : World)   (HS : Aside0 (Sep (fps []) w [] w)) (H : Aside0 (ratio_by.f a941 = some r)) :
    Calls Try.prog 119 #[.int .i64 a941] w fun e w' => e = .returned (.int .i64 r) ∧ Sep (fps []) w [] w' := by
  unfold ratio_by.f at H
  go_enter Try.func119, Try.ntmps119
  go_wp2_with fail
  obtain ⟨t942, HA943, H⟩ := bind_some H
  refine (ratio_counts.calls a941 t942 _ ⟨Sep.start _⟩ HA943).mono ?_
  rintro e_ w944 ⟨rfl, hS⟩
  replace HS : Aside0 (Sep (fps []) w [] w944) := ⟨HS.out.call hS⟩
  clear hS
  by_cases c945 : t942 < 1
  · have H := if_yes c945 H
    have c945b0 : decide (t942 < 1) = true := decide_eq_true c945
    skip
    go_wp2_with fail
    clear c945
    go_ret
    rw [← some_eq H]
    exact ⟨(by first | rfl | (simp [IntKind.wrap_u32]; done)), HS.out⟩
  · have H := if_no c945 H
    have c945b0 : decide (t942 < 1) = false := decide_eq_false c945
    skip
    go_wp2_with fail
    clear c945
    go_ret
    rw [← some_eq H]
    exact ⟨(by first | rfl | (simp [IntKind.wrap_u32]; done)), HS.out⟩

set_option maxHeartbeats 30000000 in
set_option maxRecDepth 100000 in
theorem ratio_Up.calls (a936 : Int) (a937 : Int) (r : Int) (w : World)   (HS : Aside0 (Sep (fps []) w [] w)) (H : Aside0 (ratio_Up.f a936 a937 = some r)) :
    Calls Try.prog 108 #[.int .i64 a936, .int .i64 a937] w fun e w' => e = .returned (.int .i64 r) ∧ Sep (fps []) w [] w' := by
  unfold ratio_Up.f at H
  go_enter Try.func108, Try.ntmps108
  go_wp2_with fail
  obtain ⟨t938, HA939, H⟩ := bind_some H
  refine (ratio_counts.calls a936 t938 _ ⟨Sep.start _⟩ HA939).mono ?_
  rintro e_ w940 ⟨rfl, hS⟩
  replace HS : Aside0 (Sep (fps []) w [] w940) := ⟨HS.out.call hS⟩
  clear hS
  go_wp2_with fail
  obtain ⟨t946, HA947, H⟩ := bind_some H
  refine (ratio_by.calls a937 t946 _ ⟨Sep.start _⟩ HA947).mono ?_
  rintro e_ w948 ⟨rfl, hS⟩
  replace HS : Aside0 (Sep (fps []) w [] w948) := ⟨HS.out.call hS⟩
  clear hS
  go_wp2_with fail
  obtain ⟨t949, HA950, H⟩ := bind_some H
  refine (ratio_by.calls a937 t949 _ ⟨Sep.start _⟩ HA950).mono ?_
  rintro e_ w951 ⟨rfl, hS⟩
  replace HS : Aside0 (Sep (fps []) w [] w951) := ⟨HS.out.call hS⟩
  clear hS
  by_cases c952 : t949 = 0
  · have H := if_yes c952 H
    have c952b0 : (t949 == 0) = true := beq_iff_eq.mpr c952
    have c952b1 : (t949 != 0) = false := bne_eq_false_iff_eq.mpr c952
    exact (none_no H).elim
  · have H := if_no c952 H
    have c952b0 : (t949 == 0) = false := beq_eq_false_iff_ne.mpr c952
    have c952b1 : (t949 != 0) = true := bne_iff_ne.mpr c952
    skip
    go_wp2_with fail
    clear c952
    go_ret
    rw [← some_eq H]
    exact ⟨(by first | rfl | (simp [IntKind.wrap_u32]; done)), HS.out⟩
end Go.Proofs.Ytobeonkddamnoaa.C

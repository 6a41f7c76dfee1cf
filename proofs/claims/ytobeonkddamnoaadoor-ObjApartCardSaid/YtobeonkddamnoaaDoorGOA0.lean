/- Each function of the group OA does what its plain function says, and changes nothing that was there; proved by walking its code. No condition. -/
import Derived.Test.YtobeonkddamnoaaDoorQw
import Derived.Test.YtobeonkddamnoaaDoorMOA
namespace Go.Proofs.YtobeonkddamnoaaDoor.C
open Go.RowKit Go.Proofs.YtobeonkddamnoaaDoorW.PrintWords Go.Proofs.YtobeonkddamnoaaDoorW.PrintLast Go.Proofs.YtobeonkddamnoaaDoor.Q Go.Proofs.YtobeonkddamnoaaDoor.M
set_option linter.unusedVariables false
set_option linter.unusedSimpArgs false
def b1 (g : Nat) (x0 : Int) (x1 : Int) : Ob := blk g #[.int .i64 x0, .int .i64 x1] 63
def b2 (g : Nat) (x0 : Int) (x1 : Int) (x2 : Int) (x3 : Int) : Ob := blk g #[.int .i64 x0, .int .i64 x1, .int .i64 x2, .int .i64 x3] 30
def b3 (g : Nat) (x0 : Int) (x1 : Int) (x2 : Int) (x3 : Int) (x4 : Int) (x5 : Int) (x6 : Int) (x7 : Int) : Ob := blk g #[.int .i64 x0, .int .i64 x1, .int .i64 x2, .int .i64 x3, .int .i64 x4, .int .i64 x5, .int .i64 x6, .int .i64 x7] 97
def b4 (g : Nat) (x0 : Int) (x1 : Int) : Ob := blk g #[.int .i64 x0, .int .i64 x1] 3
def b5 (g : Nat) (x0 : Int) (x1 : Int) (x2 : Int) : Ob := blk g #[.int .i64 x0, .int .i64 x1, .int .i64 x2] 3
def r6 (A : Option Addr) (n c : Nat) (l : List Int) : Ob := row 33 (Value.int .u32) (.slice A n c) l
def b7 (g : Nat) (x0 : Option Addr) (x1 : Nat) (x2 : Nat) (x3 : Int) : Ob := blk g #[.slice x0 x1 x2, .int .u64 x3] 154
def b8 (g : Nat) (x0 : Nat) (x1 : Int) (x2 : Int) (x3 : Int) (x4 : Int) : Ob := blk g #[.pointer (some ⟨x0, 0, none⟩), .int .i64 x1, .int .i64 x2, .int .i64 x3, .int .i64 x4] 106
def b9 (g : Nat) (x0 : Int) (x1 : Int) (x2 : Int) : Ob := blk g #[.int .i64 x0, .int .i64 x1, .int .i64 x2] 166
def b10 (g : Nat) (x0 : Nat) : Ob := blk g #[.pointer (some ⟨x0, 0, none⟩)] 25
def b11 (g : Nat) (x0 : Int) : Ob := blk g #[.int .i64 x0] 3
def b12 (g : Nat) (x0 : Int) (x1 : Int) (x2 : Int) (x3 : Int) (x4 : Int) (x5 : Int) (x6 : Int) : Ob := blk g #[.int .i64 x0, .int .i64 x1, .int .i64 x2, .int .i64 x3, .int .i64 x4, .int .i64 x5, .int .i64 x6] 32
def b13 (g : Nat) (x0 : Int) (x1 : Int) (x2 : Int) (x3 : Int) (x4 : Int) : Ob := blk g #[.int .i64 x0, .int .i64 x1, .int .i64 x2, .int .i64 x3, .int .i64 x4] 108
def b14 (g : Nat) (x0 : Int) : Ob := blk g #[.int .u32 x0] 33
def b15 (g : Nat) (x0 : Int) (x1 : Int) : Ob := blk g #[.int .u32 x0, .int .u32 x1] 33
def b16 (g : Nat) (x0 : Int) (x1 : Int) (x2 : Int) (x3 : Int) (x4 : Int) (x5 : Int) (x6 : Int) (x7 : Int) : Ob := blk g #[.int .i64 x0, .int .i64 x1, .int .i64 x2, .int .i64 x3, .int .i64 x4, .int .i64 x5, .int .i64 x6, .int .i64 x7] 3
def b17 (g : Nat)  : Ob := blk g #[.slice none 0 0, .slice none 0 0] 71
def r18 (A : Option Addr) (n c : Nat) (l : List Int) : Ob := row 3 (Value.int .i64) (.slice A n c) l
def b19 (g : Nat) (x0 : Option Addr) (x1 : Nat) (x2 : Nat) : Ob := blk g #[.slice x0 x1 x2, .slice none 0 0] 71
def b20 (g : Nat) (x0 : Option Addr) (x1 : Nat) (x2 : Nat) (x3 : Option Addr) (x4 : Nat) (x5 : Nat) : Ob := blk g #[.slice x0 x1 x2, .slice x3 x4 x5] 71
def b21 (g : Nat) (x0 : Option Addr) (x1 : Nat) (x2 : Nat) : Ob := blk g #[.slice none 0 0, .slice x0 x1 x2] 71
def b22 (g : Nat) (x0 : Int) (x1 : Int) : Ob := blk g #[.int .i64 x0, .int .i64 x1] 142

set_option maxHeartbeats 30000000 in
set_option maxRecDepth 100000 in
theorem ratio_Clamp.calls (a61 : Int) (a62 : Int) (a63 : Int) (r : Int) (w : World)  (HGl0 : Aside0 (Gl 0 #[.int .i64 0, .int .i64 0, .int .i64 0, .int .i64 0, .int .i64 0] (fps []) w)) (HS : Aside0 (Sep (fps []) w [] w)) (H : Aside0 (ratio_Clamp.f a61 a62 a63 = some r)) :
    Calls Tryd.prog 157 #[.int .i64 a61, .int .i64 a62, .int .i64 a63] w fun e w' => e = .returned (.int .i64 r) ∧ Sep (fps []) w [] w' := by
  unfold ratio_Clamp.f at H
  go_enter Tryd.func157, Tryd.ntmps157
  by_cases c64 : a61 > a63
  · replace H := if_yes c64 H
    have c64b0 : decide (a63 < a61) = true := decide_eq_true c64
    clear c64
    go_wp2_with fail
    go_ret
    rw [← some_eq H]
    exact ⟨(by first | rfl | (simp [IntKind.wrap_u32]; done)), HS.out⟩
  · replace H := if_no c64 H
    have c64b0 : decide (a63 < a61) = false := decide_eq_false c64
    clear c64
    by_cases c65 : a61 < a62
    · replace H := if_yes c65 H
      have c65b0 : decide (a61 < a62) = true := decide_eq_true c65
      skip
      go_wp2_with fail
      clear c65
      go_ret
      rw [← some_eq H]
      exact ⟨(by first | rfl | (simp [IntKind.wrap_u32]; done)), HS.out⟩
    · replace H := if_no c65 H
      have c65b0 : decide (a61 < a62) = false := decide_eq_false c65
      skip
      go_wp2_with fail
      clear c65
      go_ret
      rw [← some_eq H]
      exact ⟨(by first | rfl | (simp [IntKind.wrap_u32]; done)), HS.out⟩

set_option maxHeartbeats 30000000 in
set_option maxRecDepth 100000 in
theorem plan_within.calls (a58 : Int) (a59 : Int) (a60 : Int) (r : Bool) (w : World)  (HGl0 : Aside0 (Gl 0 #[.int .i64 0, .int .i64 0, .int .i64 0, .int .i64 0, .int .i64 0] (fps []) w)) (HS : Aside0 (Sep (fps []) w [] w)) (H : Aside0 (plan_within.f a58 a59 a60 = some r)) :
    Calls Tryd.prog 147 #[.int .i64 a58, .int .i64 a59, .int .i64 a60] w fun e w' => e = .returned (.bool r) ∧ Sep (fps []) w [] w' := by
  unfold plan_within.f at H
  go_enter Tryd.func147, Tryd.ntmps147
  go_wp2_with fail
  obtain ⟨t66, HA67, H⟩ := bind_some H
  refine (ratio_Clamp.calls a58 a59 a60 t66 _ ⟨HGl0.out.pass (l := []) HS.out⟩ ⟨Sep.start _⟩ HA67).mono ?_
  rintro e_ w68 ⟨rfl, hS⟩
  replace HS : Aside0 (Sep (fps []) w [] w68) := ⟨HS.out.call hS⟩
  clear hS
  go_wp2_with fail
  go_ret
  rw [← some_eq H]
  exact ⟨(by first | rfl | (simp [IntKind.wrap_u32]; done)), HS.out⟩

set_option maxHeartbeats 30000000 in
set_option maxRecDepth 100000 in
theorem plan_Check.calls (a50 : Int) (a51 : Int) (a52 : Int) (a53 : Int) (r : Int) (w : World)  (HGl0 : Aside0 (Gl 0 #[.int .i64 0, .int .i64 0, .int .i64 0, .int .i64 0, .int .i64 0] (fps []) w)) (HS : Aside0 (Sep (fps []) w [] w)) (H : Aside0 (plan_Check.f a50 a51 a52 a53 = some r)) :
    Calls Tryd.prog 121 #[.agg #[.int .i64 a50, .int .i64 a51, .int .i64 a52, .int .i64 a53]] w fun e w' => e = .returned (.int .i64 r) ∧ Sep (fps []) w [] w' := by
  unfold plan_Check.f at H
  go_enter Tryd.func121, Tryd.ntmps121
  go_wp2_with (first | ((with_reducible refine gate_dst (N := 1) rfl ?_); refine box_on ?hg (N := 1) ?hd (cs := #[.int .i64 a50, .int .i64 a51, .int .i64 a52, .int .i64 a53]) (t := 30) ?hr ?_; (case hd => rfl); (case hg => rfl); (case hr => first | (go_simp; done) | (go_simp; rfl)); intro g54 hg w55 hbox hb; replace HS : Aside0 (Sep (fps []) w [b2 g54 a50 a51 a52 a53] w55) := ⟨HS.out.box hg hbox hb⟩; clear hg hbox hb; have hc57 : w55.cell? ⟨g54, 0, none⟩ = some (.int .i64 a50) := blk_cellv (HS.out.at0) 0 rfl))
  clear hc57
  obtain ⟨t69, HA70, H⟩ := bind_some H
  refine (plan_within.calls a50 1 1048576 t69 _ ⟨HGl0.out.pass (l := []) HS.out⟩ ⟨Sep.start _⟩ HA70).mono ?_
  rintro e_ w71 ⟨rfl, hS⟩
  replace HS : Aside0 (Sep (fps []) w [b2 g54 a50 a51 a52 a53] w71) := ⟨HS.out.call hS⟩
  clear hS
  by_cases c72 : t69 = true
  · replace H := if_yes c72 H
    have c72b0 : t69 = true := c72
    have c72b1 : (!t69) = false := by rw [c72b0]; rfl
    clear c72
    have hc73 : w71.cell? ⟨g54, 1, none⟩ = some (.int .i64 a51) := blk_cellv (HS.out.at0) 1 rfl
    go_wp2_with fail
    clear hc73
    obtain ⟨t74, HA75, H⟩ := bind_some H
    refine (plan_within.calls a51 16 256 t74 _ ⟨HGl0.out.pass (l := []) HS.out⟩ ⟨Sep.start _⟩ HA75).mono ?_
    rintro e_ w76 ⟨rfl, hS⟩
    replace HS : Aside0 (Sep (fps []) w [b2 g54 a50 a51 a52 a53] w76) := ⟨HS.out.call hS⟩
    clear hS
    by_cases c77 : t74 = true
    · replace H := if_yes c77 H
      have c77b0 : t74 = true := c77
      have c77b1 : (!t74) = false := by rw [c77b0]; rfl
      clear c77
      have hc78 : w76.cell? ⟨g54, 2, none⟩ = some (.int .i64 a52) := blk_cellv (HS.out.at0) 2 rfl
      go_wp2_with fail
      clear hc78
      obtain ⟨t79, HA80, H⟩ := bind_some H
      refine (plan_within.calls a52 1 4096 t79 _ ⟨HGl0.out.pass (l := []) HS.out⟩ ⟨Sep.start _⟩ HA80).mono ?_
      rintro e_ w81 ⟨rfl, hS⟩
      replace HS : Aside0 (Sep (fps []) w [b2 g54 a50 a51 a52 a53] w81) := ⟨HS.out.call hS⟩
      clear hS
      by_cases c82 : t79 = true
      · replace H := if_yes c82 H
        have c82b0 : t79 = true := c82
        have c82b1 : (!t79) = false := by rw [c82b0]; rfl
        clear c82
        have hc83 : w81.cell? ⟨g54, 3, none⟩ = some (.int .i64 a53) := blk_cellv (HS.out.at0) 3 rfl
        go_wp2_with fail
        clear hc83
        obtain ⟨t84, HA85, H⟩ := bind_some H
        refine (plan_within.calls a53 1 65536 t84 _ ⟨HGl0.out.pass (l := []) HS.out⟩ ⟨Sep.start _⟩ HA85).mono ?_
        rintro e_ w86 ⟨rfl, hS⟩
        replace HS : Aside0 (Sep (fps []) w [b2 g54 a50 a51 a52 a53] w86) := ⟨HS.out.call hS⟩
        clear hS
        by_cases c87 : t84 = true
        · replace H := if_yes c87 H
          have c87b0 : t84 = true := c87
          have c87b1 : (!t84) = false := by rw [c87b0]; rfl
          clear c87
          by_cases c90 : (wrap64 (a50 * a51)) ≤ 4194304
          · replace H := if_yes c90 H
            have c90b0 : decide ((wrap64 (a50 * a51)) ≤ 4194304) = true := decide_eq_true c90
            clear c90
            have hc88 : w86.cell? ⟨g54, 0, none⟩ = some (.int .i64 a50) := blk_cellv (HS.out.at0) 0 rfl
            have hc89 : w86.cell? ⟨g54, 1, none⟩ = some (.int .i64 a51) := blk_cellv (HS.out.at0) 1 rfl
            replace HS : Aside0 (Sep (fps []) w [] w86) := ⟨HS.out.sub (.cons _ .slnil)⟩
            go_wp2_with fail
            clear hc88 hc89
            go_ret
            rw [← some_eq H]
            exact ⟨(by first | rfl | (simp [IntKind.wrap_u32]; done)), HS.out⟩
          · replace H := if_no c90 H
            have c90b0 : decide ((wrap64 (a50 * a51)) ≤ 4194304) = false := decide_eq_false c90
            clear c90
            have hc88 : w86.cell? ⟨g54, 0, none⟩ = some (.int .i64 a50) := blk_cellv (HS.out.at0) 0 rfl
            have hc89 : w86.cell? ⟨g54, 1, none⟩ = some (.int .i64 a51) := blk_cellv (HS.out.at0) 1 rfl
            replace HS : Aside0 (Sep (fps []) w [] w86) := ⟨HS.out.sub (.cons _ .slnil)⟩
            go_wp2_with fail
            clear hc88 hc89
            go_ret
            rw [← some_eq H]
            exact ⟨(by first | rfl | (simp [IntKind.wrap_u32]; done)), HS.out⟩
        · replace H := if_no c87 H
          have c87b0 : t84 = false := by simpa using c87
          have c87b1 : (!t84) = true := by rw [c87b0]; rfl
          clear c87
          replace HS : Aside0 (Sep (fps []) w [] w86) := ⟨HS.out.sub (.cons _ .slnil)⟩
          go_wp2_with fail
          go_ret
          rw [← some_eq H]
          exact ⟨(by first | rfl | (simp [IntKind.wrap_u32]; done)), HS.out⟩
      · replace H := if_no c82 H
        have c82b0 : t79 = false := by simpa using c82
        have c82b1 : (!t79) = true := by rw [c82b0]; rfl
        clear c82
        replace HS : Aside0 (Sep (fps []) w [] w81) := ⟨HS.out.sub (.cons _ .slnil)⟩
        go_wp2_with fail
        go_ret
        rw [← some_eq H]
        exact ⟨(by first | rfl | (simp [IntKind.wrap_u32]; done)), HS.out⟩
    · replace H := if_no c77 H
      have c77b0 : t74 = false := by simpa using c77
      have c77b1 : (!t74) = true := by rw [c77b0]; rfl
      clear c77
      replace HS : Aside0 (Sep (fps []) w [] w76) := ⟨HS.out.sub (.cons _ .slnil)⟩
      go_wp2_with fail
      go_ret
      rw [← some_eq H]
      exact ⟨(by first | rfl | (simp [IntKind.wrap_u32]; done)), HS.out⟩
  · replace H := if_no c72 H
    have c72b0 : t69 = false := by simpa using c72
    have c72b1 : (!t69) = true := by rw [c72b0]; rfl
    clear c72
    replace HS : Aside0 (Sep (fps []) w [] w71) := ⟨HS.out.sub (.cons _ .slnil)⟩
    go_wp2_with fail
    go_ret
    rw [← some_eq H]
    exact ⟨(by first | rfl | (simp [IntKind.wrap_u32]; done)), HS.out⟩

set_option maxHeartbeats 30000000 in
set_option maxRecDepth 100000 in
theorem ratio_counts.calls (a123 : Int) (r : Int) (w : World)  (HGl0 : Aside0 (Gl 0 #[.int .i64 0, .int .i64 0, .int .i64 0, .int .i64 0, .int .i64 0] (fps []) w)) (HS : Aside0 (Sep (fps []) w [] w)) (H : Aside0 (ratio_counts.f a123 = some r)) :
    Calls Tryd.prog 148 #[.int .i64 a123] w fun e w' => e = .returned (.int .i64 r) ∧ Sep (fps []) w [] w' := by
  unfold ratio_counts.f at H
  go_enter Tryd.func148, Tryd.ntmps148
  go_wp2_with fail
  obtain ⟨t124, HA125, H⟩ := bind_some H
  refine (ratio_Clamp.calls a123 0 1125899906842624 t124 _ ⟨HGl0.out.pass (l := []) HS.out⟩ ⟨Sep.start _⟩ HA125).mono ?_
  rintro e_ w126 ⟨rfl, hS⟩
  replace HS : Aside0 (Sep (fps []) w [] w126) := ⟨HS.out.call hS⟩
  clear hS
  go_wp2_with fail
  go_ret
  rw [← some_eq H]
  exact ⟨(by first | rfl | (simp [IntKind.wrap_u32]; done)), HS.out⟩

set_option maxHeartbeats 30000000 in
set_option maxRecDepth 100000 in
theorem ratio_zero.calls (a122 : Int) (r : Bool) (w : World)  (HGl0 : Aside0 (Gl 0 #[.int .i64 0, .int .i64 0, .int .i64 0, .int .i64 0, .int .i64 0] (fps []) w)) (HS : Aside0 (Sep (fps []) w [] w)) (H : Aside0 (ratio_zero.f a122 = some r)) :
    Calls Tryd.prog 150 #[.int .i64 a122] w fun e w' => e = .returned (.bool r) ∧ Sep (fps []) w [] w' := by
  unfold ratio_zero.f at H
  go_enter Tryd.func150, Tryd.ntmps150
  go_wp2_with fail
  obtain ⟨t127, HA128, H⟩ := bind_some H
  refine (ratio_counts.calls a122 t127 _ ⟨HGl0.out.pass (l := []) HS.out⟩ ⟨Sep.start _⟩ HA128).mono ?_
  rintro e_ w129 ⟨rfl, hS⟩
  replace HS : Aside0 (Sep (fps []) w [] w129) := ⟨HS.out.call hS⟩
  clear hS
  go_wp2_with fail
  go_ret
  rw [← some_eq H]
  exact ⟨(by first | rfl | (simp [IntKind.wrap_u32]; done)), HS.out⟩

set_option maxHeartbeats 30000000 in
set_option maxRecDepth 100000 in
theorem slices_IndexFunc_int_int_F150.calls (k : Nat) (l108 : List Int) (A109 : Option Addr) (n110 : Nat) (r : Int) (w : World) (HR111 : Aside0 (Rd (Kd.int .i64) (fps []) w A109 l108.length l108)) (HGl0 : Aside0 (Gl 0 #[.int .i64 0, .int .i64 0, .int .i64 0, .int .i64 0, .int .i64 0] (fps []) w)) (HS : Aside0 (Sep (fps []) w [] w)) (H : Aside0 (slices_IndexFunc_int_int_F150.f k l108 = some r)) :
    Calls Tryd.prog 158 #[.slice A109 l108.length n110, .func (.func 150) #[] #[]] w fun e w' => e = .returned (.int .i64 r) ∧ Sep (fps []) w [] w' := by
  unfold slices_IndexFunc_int_int_F150.f at H
  go_enter Tryd.func158, Tryd.ntmps158
  go_wp2_with fail
  obtain ⟨o134, AL135, H⟩ := bind_some H
  go_loopg [8] k (fun kq v8 wc => ∃ (x138 : Int), v8 = .int .i64 x138 ∧ Aside0 (slices_IndexFunc_int_int_F150.lo0 kq l108 x138 = some o134) ∧ Aside0 (Sep (fps []) w [] wc))
  case atStart => exact ⟨(0), (by first | rfl | (simp [IntKind.wrap_u32]; done)), AL135, ⟨HS.out⟩⟩
  case round =>
    clear AL135 HS
    obtain ⟨x138, rfl, AL135, HS⟩ := hrel
    obtain ⟨w136, rfl⟩ : ∃ x : World, x = wr := ⟨_, rfl⟩
    cases gk with
    | zero => exact absurd AL135.out (by simp [slices_IndexFunc_int_int_F150.lo0])
    | succ k137 =>
      have AL0 := AL135.out
      rw [slices_IndexFunc_int_int_F150.lo0] at AL0
      clear AL135
      have AL135 := Aside0.mk AL0
      clear AL0
      by_cases c139 : x138 < (l108.length : Int)
      · replace AL135 := if_yes c139 AL135
        have c139b0 : decide (x138 < (l108.length : Int)) = true := decide_eq_true c139
        clear c139
        by_cases c140 : 0 ≤ x138
        · replace AL135 := if_yes c140 AL135
          have c140b0 : decide (0 ≤ x138) = true := decide_eq_true c140
          have c140p : (0 ≤ x138) = True := eq_true c140
          clear c140
          have ip141 : (x138 < (l108.length : Int)) = True := eq_true (of_decide_eq_true c139b0)
          obtain ⟨hx142a, hx142e, hx142⟩ := Kd.at_int (Rd.read (fun _ _ _ _ h => h) HR111.out HS.out.fr) x138 (of_decide_eq_true c140b0) (of_decide_eq_true c139b0); cases hx142e
          go_wp2_with fail
          clear hx142
          obtain ⟨t130, HA143, AL135⟩ := bind_some AL135
          refine (ratio_zero.calls (rd l108 x138) t130 _ ⟨HGl0.out.pass (l := []) HS.out⟩ ⟨Sep.start _⟩ HA143).mono ?_
          rintro e_ w144 ⟨rfl, hS⟩
          replace HS : Aside0 (Sep (fps []) w [] w144) := ⟨HS.out.call hS⟩
          clear hS
          by_cases c145 : t130 = true
          · replace AL135 := if_yes c145 AL135
            have c145b0 : t130 = true := c145
            have c145b1 : (!t130) = false := by rw [c145b0]; rfl
            clear c145
            go_wp2_with fail
            have ho := some_eq AL135
            subst ho
            have H := lp_ret H
            go_ret
            rw [← some_eq H]
            exact ⟨(by first | rfl | (simp [IntKind.wrap_u32]; done)), HS.out⟩
          · replace AL135 := if_no c145 AL135
            have c145b0 : t130 = false := by simpa using c145
            have c145b1 : (!t130) = true := by rw [c145b0]; rfl
            clear c145
            go_wp2_with fail
            go_roundg k137
            case measure => exact Nat.lt_succ_self _
            case rel => exact ⟨(wrap64 (x138 + 1)), (by first | rfl | (simp [IntKind.wrap_u32]; done)), Aside0.mk AL135.out, ⟨HS.out⟩⟩
        · replace AL135 := if_no c140 AL135
          have c140b0 : decide (0 ≤ x138) = false := decide_eq_false c140
          clear c140
          exact (none_no AL135).elim
      · replace AL135 := if_no c139 AL135
        have c139b0 : decide (x138 < (l108.length : Int)) = false := decide_eq_false c139
        clear c139
        have ho := some_eq AL135
        subst ho
        clear AL135
        have H := lp_out H
        go_wp2_with fail
        go_ret
        rw [← some_eq H]
        exact ⟨(by first | rfl | (simp [IntKind.wrap_u32]; done)), HS.out⟩

set_option maxHeartbeats 30000000 in
set_option maxRecDepth 100000 in
theorem slices_ContainsFunc_int_int_F150.calls (k : Nat) (l104 : List Int) (A105 : Option Addr) (n106 : Nat) (r : Bool) (w : World) (HR107 : Aside0 (Rd (Kd.int .i64) (fps []) w A105 l104.length l104)) (HGl0 : Aside0 (Gl 0 #[.int .i64 0, .int .i64 0, .int .i64 0, .int .i64 0, .int .i64 0] (fps []) w)) (HS : Aside0 (Sep (fps []) w [] w)) (H : Aside0 (slices_ContainsFunc_int_int_F150.f k l104 = some r)) :
    Calls Tryd.prog 149 #[.slice A105 l104.length n106, .func (.func 150) #[] #[]] w fun e w' => e = .returned (.bool r) ∧ Sep (fps []) w [] w' := by
  unfold slices_ContainsFunc_int_int_F150.f at H
  go_enter Tryd.func149, Tryd.ntmps149
  go_wp2_with fail
  obtain ⟨t147, HA148, H⟩ := bind_some H
  refine (slices_IndexFunc_int_int_F150.calls _ l104 A105 n106 t147 _ ⟨Rd.pass (l := []) (by decide) (fun _ _ _ _ h => h) HR107.out HS.out⟩ ⟨HGl0.out.pass (l := []) HS.out⟩ ⟨Sep.start _⟩ HA148).mono ?_
  rintro e_ w149 ⟨rfl, hS⟩
  replace HS : Aside0 (Sep (fps []) w [] w149) := ⟨HS.out.call hS⟩
  clear hS
  go_wp2_with fail
  go_ret
  rw [← some_eq H]
  exact ⟨(by first | rfl | (simp [IntKind.wrap_u32]; done)), HS.out⟩

set_option maxHeartbeats 30000000 in
set_option maxRecDepth 100000 in
theorem ratio_Mul.calls (k : Nat) (l100 : List Int) (A101 : Option Addr) (n102 : Nat) (r : Int) (w : World) (HR103 : Aside0 (Rd (Kd.int .i64) (fps []) w A101 l100.length l100)) (HGl0 : Aside0 (Gl 0 #[.int .i64 0, .int .i64 0, .int .i64 0, .int .i64 0, .int .i64 0] (fps []) w)) (HS : Aside0 (Sep (fps []) w [] w)) (H : Aside0 (ratio_Mul.f k l100 = some r)) :
    Calls Tryd.prog 123 #[.slice A101 l100.length n102] w fun e w' => e = .returned (.int .i64 r) ∧ Sep (fps []) w [] w' := by
  unfold ratio_Mul.f at H
  go_enter Tryd.func123, Tryd.ntmps123
  go_wp2_with fail
  obtain ⟨t150, HA151, H⟩ := bind_some H
  refine (slices_ContainsFunc_int_int_F150.calls _ l100 A101 n102 t150 _ ⟨Rd.pass (l := []) (by decide) (fun _ _ _ _ h => h) HR103.out HS.out⟩ ⟨HGl0.out.pass (l := []) HS.out⟩ ⟨Sep.start _⟩ HA151).mono ?_
  rintro e_ w152 ⟨rfl, hS⟩
  replace HS : Aside0 (Sep (fps []) w [] w152) := ⟨HS.out.call hS⟩
  clear hS
  by_cases c153 : t150 = true
  · replace H := if_yes c153 H
    have c153b0 : t150 = true := c153
    have c153b1 : (!t150) = false := by rw [c153b0]; rfl
    clear c153
    go_wp2_with fail
    go_ret
    rw [← some_eq H]
    exact ⟨(by first | rfl | (simp [IntKind.wrap_u32]; done)), HS.out⟩
  · replace H := if_no c153 H
    have c153b0 : t150 = false := by simpa using c153
    have c153b1 : (!t150) = true := by rw [c153b0]; rfl
    clear c153
    go_wp2_with fail
    obtain ⟨o155, AL156, H⟩ := bind_some H
    go_loopg [3, 11] k (fun kq v3 v11 wc => ∃ (x159 : Int) (x160 : Int), v3 = .int .i64 x159 ∧ v11 = .int .i64 x160 ∧ Aside0 (ratio_Mul.lo0 kq l100 x159 x160 = some o155) ∧ Aside0 (Sep (fps []) w [] wc))
    case atStart => exact ⟨(1), (0), (by first | rfl | (simp [IntKind.wrap_u32]; done)), (by first | rfl | (simp [IntKind.wrap_u32]; done)), AL156, ⟨HS.out⟩⟩
    case round =>
      clear AL156 HS
      obtain ⟨x159, x160, rfl, rfl, AL156, HS⟩ := hrel
      obtain ⟨w157, rfl⟩ : ∃ x : World, x = wr := ⟨_, rfl⟩
      cases gk with
      | zero => exact absurd AL156.out (by simp [ratio_Mul.lo0])
      | succ k158 =>
        have AL0 := AL156.out
        rw [ratio_Mul.lo0] at AL0
        clear AL156
        have AL156 := Aside0.mk AL0
        clear AL0
        by_cases c161 : x160 < (l100.length : Int)
        · replace AL156 := if_yes c161 AL156
          have c161b0 : decide (x160 < (l100.length : Int)) = true := decide_eq_true c161
          clear c161
          by_cases c162 : 0 ≤ x160
          · replace AL156 := if_yes c162 AL156
            have c162b0 : decide (0 ≤ x160) = true := decide_eq_true c162
            have c162p : (0 ≤ x160) = True := eq_true c162
            clear c162
            have ip163 : (x160 < (l100.length : Int)) = True := eq_true (of_decide_eq_true c161b0)
            obtain ⟨hx164a, hx164e, hx164⟩ := Kd.at_int (Rd.read (fun _ _ _ _ h => h) HR103.out HS.out.fr) x160 (of_decide_eq_true c162b0) (of_decide_eq_true c161b0); cases hx164e
            go_wp2_with fail
            clear hx164
            obtain ⟨t165, HA166, AL156⟩ := bind_some AL156
            refine (ratio_counts.calls (rd l100 x160) t165 _ ⟨HGl0.out.pass (l := []) HS.out⟩ ⟨Sep.start _⟩ HA166).mono ?_
            rintro e_ w167 ⟨rfl, hS⟩
            replace HS : Aside0 (Sep (fps []) w [] w167) := ⟨HS.out.call hS⟩
            clear hS
            by_cases c168 : t165 = 0
            · replace AL156 := if_yes c168 AL156
              have c168b0 : (t165 == 0) = true := beq_iff_eq.mpr c168
              have c168b1 : (t165 != 0) = false := bne_eq_false_iff_eq.mpr c168
              exact (none_no AL156).elim
            · replace AL156 := if_no c168 AL156
              have c168b0 : (t165 == 0) = false := beq_eq_false_iff_ne.mpr c168
              have c168b1 : (t165 != 0) = true := bne_iff_ne.mpr c168
              by_cases c169 : x159 ≤ (wrap64 (Int.tdiv (1125899906842624 : Int) t165))
              · replace AL156 := if_yes c169 AL156
                have c169b0 : decide (x159 ≤ (wrap64 (Int.tdiv (1125899906842624 : Int) t165))) = true := decide_eq_true c169
                clear c169
                skip
                go_wp2_with fail
                clear c168
                go_roundg k158
                case measure => exact Nat.lt_succ_self _
                case rel => exact ⟨(wrap64 (x159 * t165)), (wrap64 (x160 + 1)), (by first | rfl | (simp [IntKind.wrap_u32]; done)), (by first | rfl | (simp [IntKind.wrap_u32]; done)), Aside0.mk AL156.out, ⟨HS.out⟩⟩
              · replace AL156 := if_no c169 AL156
                have c169b0 : decide (x159 ≤ (wrap64 (Int.tdiv (1125899906842624 : Int) t165))) = false := decide_eq_false c169
                clear c169
                skip
                go_wp2_with fail
                clear c168
                go_roundg k158
                case measure => exact Nat.lt_succ_self _
                case rel => exact ⟨(1125899906842624), (wrap64 (x160 + 1)), (by first | rfl | (simp [IntKind.wrap_u32]; done)), (by first | rfl | (simp [IntKind.wrap_u32]; done)), Aside0.mk AL156.out, ⟨HS.out⟩⟩
          · replace AL156 := if_no c162 AL156
            have c162b0 : decide (0 ≤ x160) = false := decide_eq_false c162
            clear c162
            exact (none_no AL156).elim
        · replace AL156 := if_no c161 AL156
          have c161b0 : decide (x160 < (l100.length : Int)) = false := decide_eq_false c161
          clear c161
          have ho := some_eq AL156
          subst ho
          clear AL156
          go_wp2_with fail
          go_ret
          rw [← some_eq H]
          exact ⟨(by first | rfl | (simp [IntKind.wrap_u32]; done)), HS.out⟩

set_option maxHeartbeats 30000000 in
set_option maxRecDepth 100000 in
theorem ratio_Add.calls (k : Nat) (l177 : List Int) (A178 : Option Addr) (n179 : Nat) (r : Int) (w : World) (HR180 : Aside0 (Rd (Kd.int .i64) (fps []) w A178 l177.length l177)) (HGl0 : Aside0 (Gl 0 #[.int .i64 0, .int .i64 0, .int .i64 0, .int .i64 0, .int .i64 0] (fps []) w)) (HS : Aside0 (Sep (fps []) w [] w)) (H : Aside0 (ratio_Add.f k l177 = some r)) :
    Calls Tryd.prog 122 #[.slice A178 l177.length n179] w fun e w' => e = .returned (.int .i64 r) ∧ Sep (fps []) w [] w' := by
  unfold ratio_Add.f at H
  go_enter Tryd.func122, Tryd.ntmps122
  go_wp2_with fail
  obtain ⟨o182, AL183, H⟩ := bind_some H
  go_loopg [3, 8] k (fun kq v3 v8 wc => ∃ (x186 : Int) (x187 : Int), v3 = .int .i64 x186 ∧ v8 = .int .i64 x187 ∧ Aside0 (ratio_Add.lo0 kq l177 x186 x187 = some o182) ∧ Aside0 (Sep (fps []) w [] wc))
  case atStart => exact ⟨(0), (0), (by first | rfl | (simp [IntKind.wrap_u32]; done)), (by first | rfl | (simp [IntKind.wrap_u32]; done)), AL183, ⟨HS.out⟩⟩
  case round =>
    clear AL183 HS
    obtain ⟨x186, x187, rfl, rfl, AL183, HS⟩ := hrel
    obtain ⟨w184, rfl⟩ : ∃ x : World, x = wr := ⟨_, rfl⟩
    cases gk with
    | zero => exact absurd AL183.out (by simp [ratio_Add.lo0])
    | succ k185 =>
      have AL0 := AL183.out
      rw [ratio_Add.lo0] at AL0
      clear AL183
      have AL183 := Aside0.mk AL0
      clear AL0
      by_cases c188 : x187 < (l177.length : Int)
      · replace AL183 := if_yes c188 AL183
        have c188b0 : decide (x187 < (l177.length : Int)) = true := decide_eq_true c188
        clear c188
        by_cases c189 : 0 ≤ x187
        · replace AL183 := if_yes c189 AL183
          have c189b0 : decide (0 ≤ x187) = true := decide_eq_true c189
          have c189p : (0 ≤ x187) = True := eq_true c189
          clear c189
          have ip190 : (x187 < (l177.length : Int)) = True := eq_true (of_decide_eq_true c188b0)
          obtain ⟨hx191a, hx191e, hx191⟩ := Kd.at_int (Rd.read (fun _ _ _ _ h => h) HR180.out HS.out.fr) x187 (of_decide_eq_true c189b0) (of_decide_eq_true c188b0); cases hx191e
          go_wp2_with fail
          clear hx191
          obtain ⟨t192, HA193, AL183⟩ := bind_some AL183
          refine (ratio_counts.calls (rd l177 x187) t192 _ ⟨HGl0.out.pass (l := []) HS.out⟩ ⟨Sep.start _⟩ HA193).mono ?_
          rintro e_ w194 ⟨rfl, hS⟩
          replace HS : Aside0 (Sep (fps []) w [] w194) := ⟨HS.out.call hS⟩
          clear hS
          by_cases c195 : 1125899906842624 < (wrap64 (x186 + t192))
          · replace AL183 := if_yes c195 AL183
            have c195b0 : decide (1125899906842624 < (wrap64 (x186 + t192))) = true := decide_eq_true c195
            skip
            go_wp2_with fail
            clear c195
            go_roundg k185
            case measure => exact Nat.lt_succ_self _
            case rel => exact ⟨(1125899906842624), (wrap64 (x187 + 1)), (by first | rfl | (simp [IntKind.wrap_u32]; done)), (by first | rfl | (simp [IntKind.wrap_u32]; done)), Aside0.mk AL183.out, ⟨HS.out⟩⟩
          · replace AL183 := if_no c195 AL183
            have c195b0 : decide (1125899906842624 < (wrap64 (x186 + t192))) = false := decide_eq_false c195
            skip
            go_wp2_with fail
            clear c195
            go_roundg k185
            case measure => exact Nat.lt_succ_self _
            case rel => exact ⟨(wrap64 (x186 + t192)), (wrap64 (x187 + 1)), (by first | rfl | (simp [IntKind.wrap_u32]; done)), (by first | rfl | (simp [IntKind.wrap_u32]; done)), Aside0.mk AL183.out, ⟨HS.out⟩⟩
        · replace AL183 := if_no c189 AL183
          have c189b0 : decide (0 ≤ x187) = false := decide_eq_false c189
          clear c189
          exact (none_no AL183).elim
      · replace AL183 := if_no c188 AL183
        have c188b0 : decide (x187 < (l177.length : Int)) = false := decide_eq_false c188
        clear c188
        have ho := some_eq AL183
        subst ho
        clear AL183
        go_wp2_with fail
        go_ret
        rw [← some_eq H]
        exact ⟨(by first | rfl | (simp [IntKind.wrap_u32]; done)), HS.out⟩

set_option maxHeartbeats 30000000 in
set_option maxRecDepth 100000 in
theorem ratio_by.calls (a406 : Int) (r : Int) (w : World)  (HGl0 : Aside0 (Gl 0 #[.int .i64 0, .int .i64 0, .int .i64 0, .int .i64 0, .int .i64 0] (fps []) w)) (HS : Aside0 (Sep (fps []) w [] w)) (H : Aside0 (ratio_by.f a406 = some r)) :
    Calls Tryd.prog 151 #[.int .i64 a406] w fun e w' => e = .returned (.int .i64 r) ∧ Sep (fps []) w [] w' := by
  unfold ratio_by.f at H
  go_enter Tryd.func151, Tryd.ntmps151
  go_wp2_with fail
  obtain ⟨t407, HA408, H⟩ := bind_some H
  refine (ratio_counts.calls a406 t407 _ ⟨HGl0.out.pass (l := []) HS.out⟩ ⟨Sep.start _⟩ HA408).mono ?_
  rintro e_ w409 ⟨rfl, hS⟩
  replace HS : Aside0 (Sep (fps []) w [] w409) := ⟨HS.out.call hS⟩
  clear hS
  by_cases c410 : t407 < 1
  · replace H := if_yes c410 H
    have c410b0 : decide (t407 < 1) = true := decide_eq_true c410
    skip
    go_wp2_with fail
    clear c410
    go_ret
    rw [← some_eq H]
    exact ⟨(by first | rfl | (simp [IntKind.wrap_u32]; done)), HS.out⟩
  · replace H := if_no c410 H
    have c410b0 : decide (t407 < 1) = false := decide_eq_false c410
    skip
    go_wp2_with fail
    clear c410
    go_ret
    rw [← some_eq H]
    exact ⟨(by first | rfl | (simp [IntKind.wrap_u32]; done)), HS.out⟩

set_option maxHeartbeats 30000000 in
set_option maxRecDepth 100000 in
theorem ratio_Up.calls (a401 : Int) (a402 : Int) (r : Int) (w : World)  (HGl0 : Aside0 (Gl 0 #[.int .i64 0, .int .i64 0, .int .i64 0, .int .i64 0, .int .i64 0] (fps []) w)) (HS : Aside0 (Sep (fps []) w [] w)) (H : Aside0 (ratio_Up.f a401 a402 = some r)) :
    Calls Tryd.prog 124 #[.int .i64 a401, .int .i64 a402] w fun e w' => e = .returned (.int .i64 r) ∧ Sep (fps []) w [] w' := by
  unfold ratio_Up.f at H
  go_enter Tryd.func124, Tryd.ntmps124
  go_wp2_with fail
  obtain ⟨t403, HA404, H⟩ := bind_some H
  refine (ratio_counts.calls a401 t403 _ ⟨HGl0.out.pass (l := []) HS.out⟩ ⟨Sep.start _⟩ HA404).mono ?_
  rintro e_ w405 ⟨rfl, hS⟩
  replace HS : Aside0 (Sep (fps []) w [] w405) := ⟨HS.out.call hS⟩
  clear hS
  go_wp2_with fail
  obtain ⟨t411, HA412, H⟩ := bind_some H
  refine (ratio_by.calls a402 t411 _ ⟨HGl0.out.pass (l := []) HS.out⟩ ⟨Sep.start _⟩ HA412).mono ?_
  rintro e_ w413 ⟨rfl, hS⟩
  replace HS : Aside0 (Sep (fps []) w [] w413) := ⟨HS.out.call hS⟩
  clear hS
  go_wp2_with fail
  obtain ⟨t414, HA415, H⟩ := bind_some H
  refine (ratio_by.calls a402 t414 _ ⟨HGl0.out.pass (l := []) HS.out⟩ ⟨Sep.start _⟩ HA415).mono ?_
  rintro e_ w416 ⟨rfl, hS⟩
  replace HS : Aside0 (Sep (fps []) w [] w416) := ⟨HS.out.call hS⟩
  clear hS
  by_cases c417 : t414 = 0
  · replace H := if_yes c417 H
    have c417b0 : (t414 == 0) = true := beq_iff_eq.mpr c417
    have c417b1 : (t414 != 0) = false := bne_eq_false_iff_eq.mpr c417
    exact (none_no H).elim
  · replace H := if_no c417 H
    have c417b0 : (t414 == 0) = false := beq_eq_false_iff_ne.mpr c417
    have c417b1 : (t414 != 0) = true := bne_iff_ne.mpr c417
    skip
    go_wp2_with fail
    clear c417
    go_ret
    rw [← some_eq H]
    exact ⟨(by first | rfl | (simp [IntKind.wrap_u32]; done)), HS.out⟩

set_option maxHeartbeats 30000000 in
set_option maxRecDepth 100000 in
theorem plan_Of.calls (k : Nat) (a36 : Int) (a37 : Int) (a38 : Int) (a39 : Int) (r : Int × Int × Int × Int × Int × Int × Int × Int × Int) (w : World)  (HGl0 : Aside0 (Gl 0 #[.int .i64 0, .int .i64 0, .int .i64 0, .int .i64 0, .int .i64 0] (fps []) w)) (HS : Aside0 (Sep (fps []) w [] w)) (H : Aside0 (plan_Of.f k a36 a37 a38 a39 = some r)) :
    Calls Tryd.prog 65 #[.agg #[.int .i64 a36, .int .i64 a37, .int .i64 a38, .int .i64 a39]] w fun e w' => e = .returned (.tuple #[.agg #[.int .i64 r.1, .int .i64 r.2.1, .int .i64 r.2.2.1, .int .i64 r.2.2.2.1, .int .i64 r.2.2.2.2.1, .int .i64 r.2.2.2.2.2.1, .int .i64 r.2.2.2.2.2.2.1, .int .i64 r.2.2.2.2.2.2.2.1], .int .i64 r.2.2.2.2.2.2.2.2]) ∧ Sep (fps []) w [] w' := by
  unfold plan_Of.f at H
  go_enter Tryd.func65, Tryd.ntmps65
  go_wp2_with (first | ((with_reducible refine gate_dst (N := 1) rfl ?_); refine box_on ?hg (N := 1) ?hd (cs := #[.int .i64 a36, .int .i64 a37, .int .i64 a38, .int .i64 a39]) (t := 30) ?hr ?_; (case hd => rfl); (case hg => rfl); (case hr => first | (go_simp; done) | (go_simp; rfl)); intro g40 hg w41 hbox hb; replace HS : Aside0 (Sep (fps []) w [b2 g40 a36 a37 a38 a39] w41) := ⟨HS.out.box hg hbox hb⟩; clear hg hbox hb) | ((with_reducible refine gate_dst (N := 2) rfl ?_); refine box_on ?hg (N := 2) ?hd (cs := #[.int .i64 0, .int .i64 0, .int .i64 0, .int .i64 0, .int .i64 0, .int .i64 0, .int .i64 0, .int .i64 0]) (t := 97) ?hr ?_; (case hd => rfl); (case hg => rfl); (case hr => first | (go_simp; done) | (go_simp; rfl)); intro g43 hg w44 hbox hb; replace HS : Aside0 (Sep (fps []) w [b2 g40 a36 a37 a38 a39, b3 g43 0 0 0 0 0 0 0 0] w44) := ⟨HS.out.box hg hbox hb⟩; clear hg hbox hb; have hc46 : w44.cell? ⟨g40, 0, none⟩ = some (.int .i64 a36) := blk_cellv (HS.out.at0) 0 rfl; have hc47 : w44.cell? ⟨g40, 1, none⟩ = some (.int .i64 a37) := blk_cellv (HS.out.at0) 1 rfl; have hc48 : w44.cell? ⟨g40, 2, none⟩ = some (.int .i64 a38) := blk_cellv (HS.out.at0) 2 rfl; have hc49 : w44.cell? ⟨g40, 3, none⟩ = some (.int .i64 a39) := blk_cellv (HS.out.at0) 3 rfl))
  clear hc46 hc47 hc48 hc49
  obtain ⟨t91, HA92, H⟩ := bind_some H
  refine (plan_Check.calls a36 a37 a38 a39 t91 _ ⟨HGl0.out.pass (l := []) HS.out⟩ ⟨Sep.start _⟩ HA92).mono ?_
  rintro e_ w93 ⟨rfl, hS⟩
  replace HS : Aside0 (Sep (fps []) w [b2 g40 a36 a37 a38 a39, b3 g43 0 0 0 0 0 0 0 0] w93) := ⟨HS.out.call hS⟩
  clear hS
  by_cases c94 : t91 = 0
  · replace H := if_yes c94 H
    have c94b0 : (t91 == 0) = true := beq_iff_eq.mpr c94
    have c94b1 : (t91 != 0) = false := bne_eq_false_iff_eq.mpr c94
    clear c94
    go_wp2_with fail
    obtain ⟨t171, HA172, H⟩ := bind_some H
    obtain ⟨t197, HA198, H⟩ := bind_some H
    go_cut [5] (fun v5 wc => ∃ (g97 : Nat) (g174 : Nat) (g200 : Nat), v5 = .pointer (some ⟨g200, 0, none⟩) ∧ Aside0 (Sep (fps []) w [b2 g40 a36 a37 a38 a39, b3 g43 0 0 0 0 0 0 0 0, b4 g97 a36 a37, b5 g174 24 a38 t171, b3 g200 t197 (wrap64 (a37 - 8)) 0 0 0 0 0 0] wc))
    case first =>
      go_wp2_with fail
      refine start_ (n := 16) (S := (fun w' => w'.cell? ⟨g40, 2, none⟩ = some (.int .i64 a38) ∧ w'.cell? ⟨g40, 0, none⟩ = some (.int .i64 a36) ∧ w'.cell? ⟨g40, 1, none⟩ = some (.int .i64 a37))) (ds := []) #[false, false, false, false, false, false, false, false, false, false, false, false, false, false, false, false] (by kernel_rfl) rfl rfl (⟨blk_cellv ((HS.out.drew).at0) 2 rfl, blk_cellv ((HS.out.drew).at0) 0 rfl, blk_cellv ((HS.out.drew).at0) 1 rfl⟩) (fun hHeld => ?_)
      have HS_ := Aside0.mk HS.out.drew
      clear HS
      generalize World.drew _ = w222 at HS_ hHeld ⊢
      have HS := HS_
      clear HS_
      refine pure_ (i := 0) (N := some 12) (v := ?_) (a' := ?_) #[true, false, false, false, false, false, false, false, false, false, false, false, false, false, false, false] rfl rfl (by kernel_rfl) (fun _ _ _ h => h) (Or.inl ⟨by rfl, ?_⟩) ?_ ?_
      rotate_left
      · intro w'
        go_simp
        with_reducible rfl
      rotate_left
      · simp only [Act.put, List.setIfInBounds_toArray, List.set_cons_zero, List.set_cons_succ, i64_w, i32_w]
        rfl
      refine pure_ (i := 2) (N := some 14) (v := ?_) (a' := ?_) #[true, false, true, false, false, false, false, false, false, false, false, false, false, false, false, false] rfl rfl (by kernel_rfl) (fun _ _ _ h => h) (Or.inl ⟨by rfl, ?_⟩) ?_ ?_
      rotate_left
      · intro w'
        go_simp
        with_reducible rfl
      rotate_left
      · simp only [Act.put, List.setIfInBounds_toArray, List.set_cons_zero, List.set_cons_succ, i64_w, i32_w]
        rfl
      refine pure_ (i := 4) (N := some 16) (v := ?_) (a' := ?_) #[true, false, true, false, true, false, false, false, false, false, false, false, false, false, false, false] rfl rfl (by kernel_rfl) (fun _ _ _ h => h) (Or.inl ⟨by rfl, ?_⟩) ?_ ?_
      rotate_left
      · intro w'
        go_simp
        with_reducible rfl
      rotate_left
      · simp only [Act.put, List.setIfInBounds_toArray, List.set_cons_zero, List.set_cons_succ, i64_w, i32_w]
        rfl
      refine pure_ (i := 10) (N := some 22) (v := ?_) (a' := ?_) #[true, false, true, false, true, false, false, false, false, false, true, false, false, false, false, false] rfl rfl (by kernel_rfl) (fun _ _ _ h => h) (Or.inl ⟨by rfl, ?_⟩) ?_ ?_
      rotate_left
      · intro w'
        go_simp
        with_reducible rfl
      rotate_left
      · simp only [Act.put, List.setIfInBounds_toArray, List.set_cons_zero, List.set_cons_succ, i64_w, i32_w]
        rfl
      refine take_ (i := 1) (N := some 13) (v := ?_) (a' := ?_) #[true, true, true, false, true, false, false, false, false, false, true, false, false, false, false, false] rfl rfl (by kernel_rfl) (fun _ _ _ h => h) (Or.inl ⟨by rfl, ?_⟩) hHeld ?_ ?_
      rotate_left
      · rintro w' hS'
        obtain ⟨s0, s1, s2⟩ := hS'
        go_simp
        with_reducible rfl
      rotate_left
      · simp only [Act.put, List.setIfInBounds_toArray, List.set_cons_zero, List.set_cons_succ, i64_w, i32_w]
        rfl
      refine take_ (i := 3) (N := some 15) (v := ?_) (a' := ?_) #[true, true, true, true, true, false, false, false, false, false, true, false, false, false, false, false] rfl rfl (by kernel_rfl) (fun _ _ _ h => h) (Or.inl ⟨by rfl, ?_⟩) hHeld ?_ ?_
      rotate_left
      · rintro w' hS'
        obtain ⟨s0, s1, s2⟩ := hS'
        go_simp
        with_reducible rfl
      rotate_left
      · simp only [Act.put, List.setIfInBounds_toArray, List.set_cons_zero, List.set_cons_succ, i64_w, i32_w]
        rfl
      refine take_ (i := 5) (N := some 17) (v := ?_) (a' := ?_) #[true, true, true, true, true, true, false, false, false, false, true, false, false, false, false, false] rfl rfl (by kernel_rfl) (fun _ _ _ h => h) (Or.inl ⟨by rfl, ?_⟩) hHeld ?_ ?_
      rotate_left
      · rintro w' hS'
        obtain ⟨s0, s1, s2⟩ := hS'
        go_simp
        with_reducible rfl
      rotate_left
      · simp only [Act.put, List.setIfInBounds_toArray, List.set_cons_zero, List.set_cons_succ, i64_w, i32_w]
        rfl
      refine take_ (i := 11) (N := some 23) (v := ?_) (a' := ?_) #[true, true, true, true, true, true, false, false, false, false, true, true, false, false, false, false] rfl rfl (by kernel_rfl) (fun _ _ _ h => h) (Or.inl ⟨by rfl, ?_⟩) hHeld ?_ ?_
      rotate_left
      · rintro w' hS'
        obtain ⟨s0, s1, s2⟩ := hS'
        go_simp
        with_reducible rfl
      rotate_left
      · simp only [Act.put, List.setIfInBounds_toArray, List.set_cons_zero, List.set_cons_succ, i64_w, i32_w]
        rfl
      refine pure_ (i := 12) (N := some 24) (v := ?_) (a' := ?_) #[true, true, true, true, true, true, false, false, false, false, true, true, true, false, false, false] rfl rfl (by kernel_rfl) (fun _ _ _ h => h) (Or.inl ⟨by rfl, ?_⟩) ?_ ?_
      rotate_left
      · intro w'
        go_simp
        with_reducible rfl
      rotate_left
      · simp only [Act.put, List.setIfInBounds_toArray, List.set_cons_zero, List.set_cons_succ, i64_w, i32_w]
        rfl
      refine two_ (i := 6) (j := 14) (Ni := some 18) (Nj := some 5) #[true, true, true, true, true, true, true, false, false, false, true, true, true, false, false, false] #[true, true, true, true, true, true, false, false, false, false, true, true, true, false, true, false] rfl rfl rfl rfl (by kernel_rfl) (by decide) (by decide) (fun K hK => ?_) (fun K hK => ?_)
      · refine slice_step (n := 2) (by rfl) (N := 18) rfl (cs := #[.int .i64 a36, .int .i64 a37]) (t := 3) ?hr ?_
        case hr => first | (go_simp; done) | (go_simp; rfl)
        intro g223 hg w224 hbox hb
        replace HS : Aside0 (Sep (fps []) w [b2 g40 a36 a37 a38 a39, b3 g43 0 0 0 0 0 0 0 0, b4 g223 a36 a37] w224) := ⟨HS.out.box hg hbox hb⟩
        clear hg hbox hb
        refine hK.out _ _ (⟨blk_cellv (HS.out.at0) 2 rfl, blk_cellv (HS.out.at0) 0 rfl, blk_cellv (HS.out.at0) 1 rfl⟩) (fun hHeld => ?_)
        clear hK K
        refine norm_ (a' := ?_) ?_ ?_
        rotate_left
        · show Act.put _ (some 18) _ = _
          simp only [Act.put, List.setIfInBounds_toArray, List.set_cons_zero, List.set_cons_succ, i64_w, i32_w]
          rfl
        refine two_ (i := 7) (j := 14) (Ni := some 19) (Nj := some 5) #[true, true, true, true, true, true, true, true, false, false, true, true, true, false, false, false] #[true, true, true, true, true, true, true, false, false, false, true, true, true, false, true, false] rfl rfl rfl rfl (by kernel_rfl) (by decide) (by decide) (fun K hK => ?_) (fun K hK => ?_)
        · refine goes_ Tryd.func123 (by kernel_rfl) rfl #[.slice (some ⟨g223, 0, none⟩) 2 2] (by rfl) rfl rfl (by (try simp only [List.map_toArray, List.map_cons, List.map_nil]); first | done | rfl) ?_
          refine (ratio_Mul.calls _ [a36, a37] (some ⟨g223, 0, none⟩) 2 t171 _ ⟨Rd.lit (l := []) (xs := [a36, a37]) HS.out 2 rfl (by simp)⟩ ⟨HGl0.out.pass (l := []) HS.out⟩ ⟨Sep.start _⟩ HA172).mono ?_
          rintro e_ w227 ⟨rfl, hS⟩
          replace HS : Aside0 (Sep (fps []) w [b2 g40 a36 a37 a38 a39, b3 g43 0 0 0 0 0 0 0 0, b4 g223 a36 a37] w227) := ⟨HS.out.call hS⟩
          clear hS
          refine ⟨_, rfl, ?_⟩
          refine hK.out _ _ (⟨blk_cellv (HS.out.at0) 2 rfl, blk_cellv (HS.out.at0) 0 rfl, blk_cellv (HS.out.at0) 1 rfl⟩) (fun hHeld => ?_)
          clear hK K
          refine norm_ (a' := ?_) ?_ ?_
          rotate_left
          · show Act.put _ (some 19) _ = _
            simp only [Act.put, List.setIfInBounds_toArray, List.set_cons_zero, List.set_cons_succ, i64_w, i32_w]
            rfl
          refine two_ (i := 8) (j := 14) (Ni := some 20) (Nj := some 5) #[true, true, true, true, true, true, true, true, true, false, true, true, true, false, false, false] #[true, true, true, true, true, true, true, true, false, false, true, true, true, false, true, false] rfl rfl rfl rfl (by kernel_rfl) (by decide) (by decide) (fun K hK => ?_) (fun K hK => ?_)
          · refine slice_step (n := 3) (by rfl) (N := 20) rfl (cs := #[.int .i64 24, .int .i64 a38, .int .i64 t171]) (t := 3) ?hr ?_
            case hr => first | (go_simp; done) | (go_simp; rfl)
            intro g228 hg w229 hbox hb
            replace HS : Aside0 (Sep (fps []) w [b2 g40 a36 a37 a38 a39, b3 g43 0 0 0 0 0 0 0 0, b4 g223 a36 a37, b5 g228 24 a38 t171] w229) := ⟨HS.out.box hg hbox hb⟩
            clear hg hbox hb
            refine hK.out _ _ (⟨blk_cellv (HS.out.at0) 2 rfl, blk_cellv (HS.out.at0) 0 rfl, blk_cellv (HS.out.at0) 1 rfl⟩) (fun hHeld => ?_)
            clear hK K
            refine norm_ (a' := ?_) ?_ ?_
            rotate_left
            · show Act.put _ (some 20) _ = _
              simp only [Act.put, List.setIfInBounds_toArray, List.set_cons_zero, List.set_cons_succ, i64_w, i32_w]
              rfl
            refine two_ (i := 9) (j := 14) (Ni := some 21) (Nj := some 5) #[true, true, true, true, true, true, true, true, true, true, true, true, true, false, false, false] #[true, true, true, true, true, true, true, true, true, false, true, true, true, false, true, false] rfl rfl rfl rfl (by kernel_rfl) (by decide) (by decide) (fun K hK => ?_) (fun K hK => ?_)
            · refine goes_ Tryd.func122 (by kernel_rfl) rfl #[.slice (some ⟨g228, 0, none⟩) 3 3] (by rfl) rfl rfl (by (try simp only [List.map_toArray, List.map_cons, List.map_nil]); first | done | rfl) ?_
              refine (ratio_Add.calls _ [24, a38, t171] (some ⟨g228, 0, none⟩) 3 t197 _ ⟨Rd.lit (l := []) (xs := [24, a38, t171]) HS.out 3 rfl (by simp)⟩ ⟨HGl0.out.pass (l := []) HS.out⟩ ⟨Sep.start _⟩ HA198).mono ?_
              rintro e_ w232 ⟨rfl, hS⟩
              replace HS : Aside0 (Sep (fps []) w [b2 g40 a36 a37 a38 a39, b3 g43 0 0 0 0 0 0 0 0, b4 g223 a36 a37, b5 g228 24 a38 t171] w232) := ⟨HS.out.call hS⟩
              clear hS
              refine ⟨_, rfl, ?_⟩
              refine hK.out _ _ (⟨blk_cellv (HS.out.at0) 2 rfl, blk_cellv (HS.out.at0) 0 rfl, blk_cellv (HS.out.at0) 1 rfl⟩) (fun hHeld => ?_)
              clear hK K
              refine norm_ (a' := ?_) ?_ ?_
              rotate_left
              · show Act.put _ (some 21) _ = _
                simp only [Act.put, List.setIfInBounds_toArray, List.set_cons_zero, List.set_cons_succ, i64_w, i32_w]
                rfl
              refine pure_ (i := 13) (N := some 25) (v := ?_) (a' := ?_) #[true, true, true, true, true, true, true, true, true, true, true, true, true, true, false, false] rfl rfl (by kernel_rfl) (fun _ _ _ h => h) (Or.inl ⟨by rfl, ?_⟩) ?_ ?_
              rotate_left
              · intro w'
                go_simp
                with_reducible rfl
              rotate_left
              · simp only [Act.put, List.setIfInBounds_toArray, List.set_cons_zero, List.set_cons_succ, i64_w, i32_w]
                rfl
              refine one_ (i := 14) (N := some 5) #[true, true, true, true, true, true, true, true, true, true, true, true, true, true, true, false] rfl rfl (by kernel_rfl) (by decide) (fun K hK => ?_)
              refine box_step (by rfl) (N := 5) rfl (cs := #[.int .i64 0, .int .i64 0, .int .i64 0, .int .i64 0, .int .i64 0, .int .i64 0, .int .i64 0, .int .i64 0]) (t := 97) ?hr ?_
              case hr => first | (go_simp; done) | (go_simp; rfl)
              intro g233 hg w234 hbox hb
              replace HS : Aside0 (Sep (fps []) w [b2 g40 a36 a37 a38 a39, b3 g43 0 0 0 0 0 0 0 0, b4 g223 a36 a37, b5 g228 24 a38 t171, b3 g233 0 0 0 0 0 0 0 0] w234) := ⟨HS.out.box hg hbox hb⟩
              clear hg hbox hb
              refine hK.out _ _ (⟨blk_cellv (HS.out.at0) 2 rfl, blk_cellv (HS.out.at0) 0 rfl, blk_cellv (HS.out.at0) 1 rfl⟩) (fun hHeld => ?_)
              clear hK K
              refine norm_ (a' := ?_) ?_ ?_
              rotate_left
              · show Act.put _ (some 5) _ = _
                simp only [Act.put, List.setIfInBounds_toArray, List.set_cons_zero, List.set_cons_succ, i64_w, i32_w]
                rfl
              refine one_ (i := 15) (N := none) #[true, true, true, true, true, true, true, true, true, true, true, true, true, true, true, true] rfl rfl (by kernel_rfl) (by decide) (fun K hK => ?_)
              have hc237 := blk_cellv (v := .int .i64 0) (HS.out.at4) 0 rfl
              have hz238 := blk_fz (HS.out.at4) 0
              have hc239 := blk_cellv (v := .int .i64 0) (HS.out.at4) 1 rfl
              have hz240 := blk_fz (HS.out.at4) 1
              have hc241 := blk_cellv (v := .int .i64 0) (HS.out.at4) 2 rfl
              have hz242 := blk_fz (HS.out.at4) 2
              have hc243 := blk_cellv (v := .int .i64 0) (HS.out.at4) 3 rfl
              have hz244 := blk_fz (HS.out.at4) 3
              have hc245 := blk_cellv (v := .int .i64 0) (HS.out.at4) 4 rfl
              have hz246 := blk_fz (HS.out.at4) 4
              have hc247 := blk_cellv (v := .int .i64 0) (HS.out.at4) 5 rfl
              have hz248 := blk_fz (HS.out.at4) 5
              have hc249 := blk_cellv (v := .int .i64 0) (HS.out.at4) 6 rfl
              have hz250 := blk_fz (HS.out.at4) 6
              have hc251 := blk_cellv (v := .int .i64 0) (HS.out.at4) 7 rfl
              have hz252 := blk_fz (HS.out.at4) 7
              refine store_step (w1 := (World.setCell (World.setCell (World.setCell (World.setCell (World.setCell (World.setCell (World.setCell (World.setCell w234 ⟨g233, 0, none⟩ (.int .i64 t197)) ⟨g233, 1, none⟩ (.int .i64 (wrap64 (a37 - 8)))) ⟨g233, 2, none⟩ (.int .i64 0)) ⟨g233, 3, none⟩ (.int .i64 0)) ⟨g233, 4, none⟩ (.int .i64 0)) ⟨g233, 5, none⟩ (.int .i64 0)) ⟨g233, 6, none⟩ (.int .i64 0)) ⟨g233, 7, none⟩ (.int .i64 0))) (by rfl) rfl ?hr ?_
              case hr => first | (go_simp; done) | (go_simp; rfl)
              clear hc237 hz238 hc239 hz240 hc241 hz242 hc243 hz244 hc245 hz246 hc247 hz248 hc249 hz250 hc251 hz252
              intro w236 hst
              replace HS : Aside0 (Sep (fps []) w [b2 g40 a36 a37 a38 a39, b3 g43 0 0 0 0 0 0 0 0, b4 g223 a36 a37, b5 g228 24 a38 t171, b3 g233 t197 (wrap64 (a37 - 8)) 0 0 0 0 0 0] w236) := ⟨by rw [hst]; exact HS.out.setAll (l1 := [b2 g40 a36 a37 a38 a39, b3 g43 0 0 0 0 0 0 0 0, b4 g223 a36 a37, b5 g228 24 a38 t171]) (l2 := []) [.int .i64 t197, .int .i64 (wrap64 (a37 - 8)), .int .i64 0, .int .i64 0, .int .i64 0, .int .i64 0, .int .i64 0, .int .i64 0] rfl⟩
              clear hst
              refine hK.out _ _ (⟨blk_cellv (HS.out.at0) 2 rfl, blk_cellv (HS.out.at0) 0 rfl, blk_cellv (HS.out.at0) 1 rfl⟩) (fun hHeld => ?_)
              clear hK K
              refine done_ (by kernel_rfl) ?_
              go_wp2_with fail
              go_meet
              case rel => exact ⟨g223, g228, g233, (by first | rfl | (simp [IntKind.wrap_u32]; done)), ⟨(((((HS.out).front 4 (by simp)).front 4 (by simp)).front 4 (by simp)).front 4 (by simp)).front 4 (by simp)⟩⟩
            · refine box_step (by rfl) (N := 5) rfl (cs := #[.int .i64 0, .int .i64 0, .int .i64 0, .int .i64 0, .int .i64 0, .int .i64 0, .int .i64 0, .int .i64 0]) (t := 97) ?hr ?_
              case hr => first | (go_simp; done) | (go_simp; rfl)
              intro g253 hg w254 hbox hb
              replace HS : Aside0 (Sep (fps []) w [b2 g40 a36 a37 a38 a39, b3 g43 0 0 0 0 0 0 0 0, b4 g223 a36 a37, b5 g228 24 a38 t171, b3 g253 0 0 0 0 0 0 0 0] w254) := ⟨HS.out.box hg hbox hb⟩
              clear hg hbox hb
              refine hK.out _ _ (⟨blk_cellv (HS.out.at0) 2 rfl, blk_cellv (HS.out.at0) 0 rfl, blk_cellv (HS.out.at0) 1 rfl⟩) (fun hHeld => ?_)
              clear hK K
              refine norm_ (a' := ?_) ?_ ?_
              rotate_left
              · show Act.put _ (some 5) _ = _
                simp only [Act.put, List.setIfInBounds_toArray, List.set_cons_zero, List.set_cons_succ, i64_w, i32_w]
                rfl
              refine one_ (i := 9) (N := some 21) #[true, true, true, true, true, true, true, true, true, true, true, true, true, false, true, false] rfl rfl (by kernel_rfl) (by decide) (fun K hK => ?_)
              refine goes_ Tryd.func122 (by kernel_rfl) rfl #[.slice (some ⟨g228, 0, none⟩) 3 3] (by rfl) rfl rfl (by (try simp only [List.map_toArray, List.map_cons, List.map_nil]); first | done | rfl) ?_
              refine (ratio_Add.calls _ [24, a38, t171] (some ⟨g228, 0, none⟩) 3 t197 _ ⟨Rd.lit (l := []) (xs := [24, a38, t171]) HS.out 3 rfl (by simp)⟩ ⟨HGl0.out.pass (l := []) HS.out⟩ ⟨Sep.start _⟩ HA198).mono ?_
              rintro e_ w257 ⟨rfl, hS⟩
              replace HS : Aside0 (Sep (fps []) w [b2 g40 a36 a37 a38 a39, b3 g43 0 0 0 0 0 0 0 0, b4 g223 a36 a37, b5 g228 24 a38 t171, b3 g253 0 0 0 0 0 0 0 0] w257) := ⟨HS.out.call hS⟩
              clear hS
              refine ⟨_, rfl, ?_⟩
              refine hK.out _ _ (⟨blk_cellv (HS.out.at0) 2 rfl, blk_cellv (HS.out.at0) 0 rfl, blk_cellv (HS.out.at0) 1 rfl⟩) (fun hHeld => ?_)
              clear hK K
              refine norm_ (a' := ?_) ?_ ?_
              rotate_left
              · show Act.put _ (some 21) _ = _
                simp only [Act.put, List.setIfInBounds_toArray, List.set_cons_zero, List.set_cons_succ, i64_w, i32_w]
                rfl
              refine pure_ (i := 13) (N := some 25) (v := ?_) (a' := ?_) #[true, true, true, true, true, true, true, true, true, true, true, true, true, true, true, false] rfl rfl (by kernel_rfl) (fun _ _ _ h => h) (Or.inl ⟨by rfl, ?_⟩) ?_ ?_
              rotate_left
              · intro w'
                go_simp
                with_reducible rfl
              rotate_left
              · simp only [Act.put, List.setIfInBounds_toArray, List.set_cons_zero, List.set_cons_succ, i64_w, i32_w]
                rfl
              refine one_ (i := 15) (N := none) #[true, true, true, true, true, true, true, true, true, true, true, true, true, true, true, true] rfl rfl (by kernel_rfl) (by decide) (fun K hK => ?_)
              have hc259 := blk_cellv (v := .int .i64 0) (HS.out.at4) 0 rfl
              have hz260 := blk_fz (HS.out.at4) 0
              have hc261 := blk_cellv (v := .int .i64 0) (HS.out.at4) 1 rfl
              have hz262 := blk_fz (HS.out.at4) 1
              have hc263 := blk_cellv (v := .int .i64 0) (HS.out.at4) 2 rfl
              have hz264 := blk_fz (HS.out.at4) 2
              have hc265 := blk_cellv (v := .int .i64 0) (HS.out.at4) 3 rfl
              have hz266 := blk_fz (HS.out.at4) 3
              have hc267 := blk_cellv (v := .int .i64 0) (HS.out.at4) 4 rfl
              have hz268 := blk_fz (HS.out.at4) 4
              have hc269 := blk_cellv (v := .int .i64 0) (HS.out.at4) 5 rfl
              have hz270 := blk_fz (HS.out.at4) 5
              have hc271 := blk_cellv (v := .int .i64 0) (HS.out.at4) 6 rfl
              have hz272 := blk_fz (HS.out.at4) 6
              have hc273 := blk_cellv (v := .int .i64 0) (HS.out.at4) 7 rfl
              have hz274 := blk_fz (HS.out.at4) 7
              refine store_step (w1 := (World.setCell (World.setCell (World.setCell (World.setCell (World.setCell (World.setCell (World.setCell (World.setCell w257 ⟨g253, 0, none⟩ (.int .i64 t197)) ⟨g253, 1, none⟩ (.int .i64 (wrap64 (a37 - 8)))) ⟨g253, 2, none⟩ (.int .i64 0)) ⟨g253, 3, none⟩ (.int .i64 0)) ⟨g253, 4, none⟩ (.int .i64 0)) ⟨g253, 5, none⟩ (.int .i64 0)) ⟨g253, 6, none⟩ (.int .i64 0)) ⟨g253, 7, none⟩ (.int .i64 0))) (by rfl) rfl ?hr ?_
              case hr => first | (go_simp; done) | (go_simp; rfl)
              clear hc259 hz260 hc261 hz262 hc263 hz264 hc265 hz266 hc267 hz268 hc269 hz270 hc271 hz272 hc273 hz274
              intro w258 hst
              replace HS : Aside0 (Sep (fps []) w [b2 g40 a36 a37 a38 a39, b3 g43 0 0 0 0 0 0 0 0, b4 g223 a36 a37, b5 g228 24 a38 t171, b3 g253 t197 (wrap64 (a37 - 8)) 0 0 0 0 0 0] w258) := ⟨by rw [hst]; exact HS.out.setAll (l1 := [b2 g40 a36 a37 a38 a39, b3 g43 0 0 0 0 0 0 0 0, b4 g223 a36 a37, b5 g228 24 a38 t171]) (l2 := []) [.int .i64 t197, .int .i64 (wrap64 (a37 - 8)), .int .i64 0, .int .i64 0, .int .i64 0, .int .i64 0, .int .i64 0, .int .i64 0] rfl⟩
              clear hst
              refine hK.out _ _ (⟨blk_cellv (HS.out.at0) 2 rfl, blk_cellv (HS.out.at0) 0 rfl, blk_cellv (HS.out.at0) 1 rfl⟩) (fun hHeld => ?_)
              clear hK K
              refine done_ (by kernel_rfl) ?_
              go_wp2_with fail
              go_meet
              case rel => exact ⟨g223, g228, g253, (by first | rfl | (simp [IntKind.wrap_u32]; done)), ⟨(((((HS.out).front 4 (by simp)).front 4 (by simp)).front 4 (by simp)).front 4 (by simp)).front 4 (by simp)⟩⟩
          · refine box_step (by rfl) (N := 5) rfl (cs := #[.int .i64 0, .int .i64 0, .int .i64 0, .int .i64 0, .int .i64 0, .int .i64 0, .int .i64 0, .int .i64 0]) (t := 97) ?hr ?_
            case hr => first | (go_simp; done) | (go_simp; rfl)
            intro g275 hg w276 hbox hb
            replace HS : Aside0 (Sep (fps []) w [b2 g40 a36 a37 a38 a39, b3 g43 0 0 0 0 0 0 0 0, b4 g223 a36 a37, b3 g275 0 0 0 0 0 0 0 0] w276) := ⟨HS.out.box hg hbox hb⟩
            clear hg hbox hb
            refine hK.out _ _ (⟨blk_cellv (HS.out.at0) 2 rfl, blk_cellv (HS.out.at0) 0 rfl, blk_cellv (HS.out.at0) 1 rfl⟩) (fun hHeld => ?_)
            clear hK K
            refine norm_ (a' := ?_) ?_ ?_
            rotate_left
            · show Act.put _ (some 5) _ = _
              simp only [Act.put, List.setIfInBounds_toArray, List.set_cons_zero, List.set_cons_succ, i64_w, i32_w]
              rfl
            refine one_ (i := 8) (N := some 20) #[true, true, true, true, true, true, true, true, true, false, true, true, true, false, true, false] rfl rfl (by kernel_rfl) (by decide) (fun K hK => ?_)
            refine slice_step (n := 3) (by rfl) (N := 20) rfl (cs := #[.int .i64 24, .int .i64 a38, .int .i64 t171]) (t := 3) ?hr ?_
            case hr => first | (go_simp; done) | (go_simp; rfl)
            intro g278 hg w279 hbox hb
            replace HS : Aside0 (Sep (fps []) w [b2 g40 a36 a37 a38 a39, b3 g43 0 0 0 0 0 0 0 0, b4 g223 a36 a37, b3 g275 0 0 0 0 0 0 0 0, b5 g278 24 a38 t171] w279) := ⟨HS.out.box hg hbox hb⟩
            clear hg hbox hb
            refine hK.out _ _ (⟨blk_cellv (HS.out.at0) 2 rfl, blk_cellv (HS.out.at0) 0 rfl, blk_cellv (HS.out.at0) 1 rfl⟩) (fun hHeld => ?_)
            clear hK K
            refine norm_ (a' := ?_) ?_ ?_
            rotate_left
            · show Act.put _ (some 20) _ = _
              simp only [Act.put, List.setIfInBounds_toArray, List.set_cons_zero, List.set_cons_succ, i64_w, i32_w]
              rfl
            refine one_ (i := 9) (N := some 21) #[true, true, true, true, true, true, true, true, true, true, true, true, true, false, true, false] rfl rfl (by kernel_rfl) (by decide) (fun K hK => ?_)
            refine goes_ Tryd.func122 (by kernel_rfl) rfl #[.slice (some ⟨g278, 0, none⟩) 3 3] (by rfl) rfl rfl (by (try simp only [List.map_toArray, List.map_cons, List.map_nil]); first | done | rfl) ?_
            refine (ratio_Add.calls _ [24, a38, t171] (some ⟨g278, 0, none⟩) 3 t197 _ ⟨Rd.lit (l := []) (xs := [24, a38, t171]) HS.out 4 rfl (by simp)⟩ ⟨HGl0.out.pass (l := []) HS.out⟩ ⟨Sep.start _⟩ HA198).mono ?_
            rintro e_ w282 ⟨rfl, hS⟩
            replace HS : Aside0 (Sep (fps []) w [b2 g40 a36 a37 a38 a39, b3 g43 0 0 0 0 0 0 0 0, b4 g223 a36 a37, b3 g275 0 0 0 0 0 0 0 0, b5 g278 24 a38 t171] w282) := ⟨HS.out.call hS⟩
            clear hS
            refine ⟨_, rfl, ?_⟩
            refine hK.out _ _ (⟨blk_cellv (HS.out.at0) 2 rfl, blk_cellv (HS.out.at0) 0 rfl, blk_cellv (HS.out.at0) 1 rfl⟩) (fun hHeld => ?_)
            clear hK K
            refine norm_ (a' := ?_) ?_ ?_
            rotate_left
            · show Act.put _ (some 21) _ = _
              simp only [Act.put, List.setIfInBounds_toArray, List.set_cons_zero, List.set_cons_succ, i64_w, i32_w]
              rfl
            refine pure_ (i := 13) (N := some 25) (v := ?_) (a' := ?_) #[true, true, true, true, true, true, true, true, true, true, true, true, true, true, true, false] rfl rfl (by kernel_rfl) (fun _ _ _ h => h) (Or.inl ⟨by rfl, ?_⟩) ?_ ?_
            rotate_left
            · intro w'
              go_simp
              with_reducible rfl
            rotate_left
            · simp only [Act.put, List.setIfInBounds_toArray, List.set_cons_zero, List.set_cons_succ, i64_w, i32_w]
              rfl
            refine one_ (i := 15) (N := none) #[true, true, true, true, true, true, true, true, true, true, true, true, true, true, true, true] rfl rfl (by kernel_rfl) (by decide) (fun K hK => ?_)
            have hc284 := blk_cellv (v := .int .i64 0) (HS.out.at3) 0 rfl
            have hz285 := blk_fz (HS.out.at3) 0
            have hc286 := blk_cellv (v := .int .i64 0) (HS.out.at3) 1 rfl
            have hz287 := blk_fz (HS.out.at3) 1
            have hc288 := blk_cellv (v := .int .i64 0) (HS.out.at3) 2 rfl
            have hz289 := blk_fz (HS.out.at3) 2
            have hc290 := blk_cellv (v := .int .i64 0) (HS.out.at3) 3 rfl
            have hz291 := blk_fz (HS.out.at3) 3
            have hc292 := blk_cellv (v := .int .i64 0) (HS.out.at3) 4 rfl
            have hz293 := blk_fz (HS.out.at3) 4
            have hc294 := blk_cellv (v := .int .i64 0) (HS.out.at3) 5 rfl
            have hz295 := blk_fz (HS.out.at3) 5
            have hc296 := blk_cellv (v := .int .i64 0) (HS.out.at3) 6 rfl
            have hz297 := blk_fz (HS.out.at3) 6
            have hc298 := blk_cellv (v := .int .i64 0) (HS.out.at3) 7 rfl
            have hz299 := blk_fz (HS.out.at3) 7
            refine store_step (w1 := (World.setCell (World.setCell (World.setCell (World.setCell (World.setCell (World.setCell (World.setCell (World.setCell w282 ⟨g275, 0, none⟩ (.int .i64 t197)) ⟨g275, 1, none⟩ (.int .i64 (wrap64 (a37 - 8)))) ⟨g275, 2, none⟩ (.int .i64 0)) ⟨g275, 3, none⟩ (.int .i64 0)) ⟨g275, 4, none⟩ (.int .i64 0)) ⟨g275, 5, none⟩ (.int .i64 0)) ⟨g275, 6, none⟩ (.int .i64 0)) ⟨g275, 7, none⟩ (.int .i64 0))) (by rfl) rfl ?hr ?_
            case hr => first | (go_simp; done) | (go_simp; rfl)
            clear hc284 hz285 hc286 hz287 hc288 hz289 hc290 hz291 hc292 hz293 hc294 hz295 hc296 hz297 hc298 hz299
            intro w283 hst
            replace HS : Aside0 (Sep (fps []) w [b2 g40 a36 a37 a38 a39, b3 g43 0 0 0 0 0 0 0 0, b4 g223 a36 a37, b3 g275 t197 (wrap64 (a37 - 8)) 0 0 0 0 0 0, b5 g278 24 a38 t171] w283) := ⟨by rw [hst]; exact HS.out.setAll (l1 := [b2 g40 a36 a37 a38 a39, b3 g43 0 0 0 0 0 0 0 0, b4 g223 a36 a37]) (l2 := [b5 g278 24 a38 t171]) [.int .i64 t197, .int .i64 (wrap64 (a37 - 8)), .int .i64 0, .int .i64 0, .int .i64 0, .int .i64 0, .int .i64 0, .int .i64 0] rfl⟩
            clear hst
            refine hK.out _ _ (⟨blk_cellv (HS.out.at0) 2 rfl, blk_cellv (HS.out.at0) 0 rfl, blk_cellv (HS.out.at0) 1 rfl⟩) (fun hHeld => ?_)
            clear hK K
            refine done_ (by kernel_rfl) ?_
            go_wp2_with fail
            go_meet
            case rel => exact ⟨g223, g278, g275, (by first | rfl | (simp [IntKind.wrap_u32]; done)), ⟨(((((HS.out).front 3 (by simp)).front 4 (by simp)).front 4 (by simp)).front 4 (by simp)).front 4 (by simp)⟩⟩
        · refine box_step (by rfl) (N := 5) rfl (cs := #[.int .i64 0, .int .i64 0, .int .i64 0, .int .i64 0, .int .i64 0, .int .i64 0, .int .i64 0, .int .i64 0]) (t := 97) ?hr ?_
          case hr => first | (go_simp; done) | (go_simp; rfl)
          intro g300 hg w301 hbox hb
          replace HS : Aside0 (Sep (fps []) w [b2 g40 a36 a37 a38 a39, b3 g43 0 0 0 0 0 0 0 0, b4 g223 a36 a37, b3 g300 0 0 0 0 0 0 0 0] w301) := ⟨HS.out.box hg hbox hb⟩
          clear hg hbox hb
          refine hK.out _ _ (⟨blk_cellv (HS.out.at0) 2 rfl, blk_cellv (HS.out.at0) 0 rfl, blk_cellv (HS.out.at0) 1 rfl⟩) (fun hHeld => ?_)
          clear hK K
          refine norm_ (a' := ?_) ?_ ?_
          rotate_left
          · show Act.put _ (some 5) _ = _
            simp only [Act.put, List.setIfInBounds_toArray, List.set_cons_zero, List.set_cons_succ, i64_w, i32_w]
            rfl
          refine one_ (i := 7) (N := some 19) #[true, true, true, true, true, true, true, true, false, false, true, true, true, false, true, false] rfl rfl (by kernel_rfl) (by decide) (fun K hK => ?_)
          refine goes_ Tryd.func123 (by kernel_rfl) rfl #[.slice (some ⟨g223, 0, none⟩) 2 2] (by rfl) rfl rfl (by (try simp only [List.map_toArray, List.map_cons, List.map_nil]); first | done | rfl) ?_
          refine (ratio_Mul.calls _ [a36, a37] (some ⟨g223, 0, none⟩) 2 t171 _ ⟨Rd.lit (l := []) (xs := [a36, a37]) HS.out 2 rfl (by simp)⟩ ⟨HGl0.out.pass (l := []) HS.out⟩ ⟨Sep.start _⟩ HA172).mono ?_
          rintro e_ w304 ⟨rfl, hS⟩
          replace HS : Aside0 (Sep (fps []) w [b2 g40 a36 a37 a38 a39, b3 g43 0 0 0 0 0 0 0 0, b4 g223 a36 a37, b3 g300 0 0 0 0 0 0 0 0] w304) := ⟨HS.out.call hS⟩
          clear hS
          refine ⟨_, rfl, ?_⟩
          refine hK.out _ _ (⟨blk_cellv (HS.out.at0) 2 rfl, blk_cellv (HS.out.at0) 0 rfl, blk_cellv (HS.out.at0) 1 rfl⟩) (fun hHeld => ?_)
          clear hK K
          refine norm_ (a' := ?_) ?_ ?_
          rotate_left
          · show Act.put _ (some 19) _ = _
            simp only [Act.put, List.setIfInBounds_toArray, List.set_cons_zero, List.set_cons_succ, i64_w, i32_w]
            rfl
          refine one_ (i := 8) (N := some 20) #[true, true, true, true, true, true, true, true, true, false, true, true, true, false, true, false] rfl rfl (by kernel_rfl) (by decide) (fun K hK => ?_)
          refine slice_step (n := 3) (by rfl) (N := 20) rfl (cs := #[.int .i64 24, .int .i64 a38, .int .i64 t171]) (t := 3) ?hr ?_
          case hr => first | (go_simp; done) | (go_simp; rfl)
          intro g305 hg w306 hbox hb
          replace HS : Aside0 (Sep (fps []) w [b2 g40 a36 a37 a38 a39, b3 g43 0 0 0 0 0 0 0 0, b4 g223 a36 a37, b3 g300 0 0 0 0 0 0 0 0, b5 g305 24 a38 t171] w306) := ⟨HS.out.box hg hbox hb⟩
          clear hg hbox hb
          refine hK.out _ _ (⟨blk_cellv (HS.out.at0) 2 rfl, blk_cellv (HS.out.at0) 0 rfl, blk_cellv (HS.out.at0) 1 rfl⟩) (fun hHeld => ?_)
          clear hK K
          refine norm_ (a' := ?_) ?_ ?_
          rotate_left
          · show Act.put _ (some 20) _ = _
            simp only [Act.put, List.setIfInBounds_toArray, List.set_cons_zero, List.set_cons_succ, i64_w, i32_w]
            rfl
          refine one_ (i := 9) (N := some 21) #[true, true, true, true, true, true, true, true, true, true, true, true, true, false, true, false] rfl rfl (by kernel_rfl) (by decide) (fun K hK => ?_)
          refine goes_ Tryd.func122 (by kernel_rfl) rfl #[.slice (some ⟨g305, 0, none⟩) 3 3] (by rfl) rfl rfl (by (try simp only [List.map_toArray, List.map_cons, List.map_nil]); first | done | rfl) ?_
          refine (ratio_Add.calls _ [24, a38, t171] (some ⟨g305, 0, none⟩) 3 t197 _ ⟨Rd.lit (l := []) (xs := [24, a38, t171]) HS.out 4 rfl (by simp)⟩ ⟨HGl0.out.pass (l := []) HS.out⟩ ⟨Sep.start _⟩ HA198).mono ?_
          rintro e_ w309 ⟨rfl, hS⟩
          replace HS : Aside0 (Sep (fps []) w [b2 g40 a36 a37 a38 a39, b3 g43 0 0 0 0 0 0 0 0, b4 g223 a36 a37, b3 g300 0 0 0 0 0 0 0 0, b5 g305 24 a38 t171] w309) := ⟨HS.out.call hS⟩
          clear hS
          refine ⟨_, rfl, ?_⟩
          refine hK.out _ _ (⟨blk_cellv (HS.out.at0) 2 rfl, blk_cellv (HS.out.at0) 0 rfl, blk_cellv (HS.out.at0) 1 rfl⟩) (fun hHeld => ?_)
          clear hK K
          refine norm_ (a' := ?_) ?_ ?_
          rotate_left
          · show Act.put _ (some 21) _ = _
            simp only [Act.put, List.setIfInBounds_toArray, List.set_cons_zero, List.set_cons_succ, i64_w, i32_w]
            rfl
          refine pure_ (i := 13) (N := some 25) (v := ?_) (a' := ?_) #[true, true, true, true, true, true, true, true, true, true, true, true, true, true, true, false] rfl rfl (by kernel_rfl) (fun _ _ _ h => h) (Or.inl ⟨by rfl, ?_⟩) ?_ ?_
          rotate_left
          · intro w'
            go_simp
            with_reducible rfl
          rotate_left
          · simp only [Act.put, List.setIfInBounds_toArray, List.set_cons_zero, List.set_cons_succ, i64_w, i32_w]
            rfl
          refine one_ (i := 15) (N := none) #[true, true, true, true, true, true, true, true, true, true, true, true, true, true, true, true] rfl rfl (by kernel_rfl) (by decide) (fun K hK => ?_)
          have hc311 := blk_cellv (v := .int .i64 0) (HS.out.at3) 0 rfl
          have hz312 := blk_fz (HS.out.at3) 0
          have hc313 := blk_cellv (v := .int .i64 0) (HS.out.at3) 1 rfl
          have hz314 := blk_fz (HS.out.at3) 1
          have hc315 := blk_cellv (v := .int .i64 0) (HS.out.at3) 2 rfl
          have hz316 := blk_fz (HS.out.at3) 2
          have hc317 := blk_cellv (v := .int .i64 0) (HS.out.at3) 3 rfl
          have hz318 := blk_fz (HS.out.at3) 3
          have hc319 := blk_cellv (v := .int .i64 0) (HS.out.at3) 4 rfl
          have hz320 := blk_fz (HS.out.at3) 4
          have hc321 := blk_cellv (v := .int .i64 0) (HS.out.at3) 5 rfl
          have hz322 := blk_fz (HS.out.at3) 5
          have hc323 := blk_cellv (v := .int .i64 0) (HS.out.at3) 6 rfl
          have hz324 := blk_fz (HS.out.at3) 6
          have hc325 := blk_cellv (v := .int .i64 0) (HS.out.at3) 7 rfl
          have hz326 := blk_fz (HS.out.at3) 7
          refine store_step (w1 := (World.setCell (World.setCell (World.setCell (World.setCell (World.setCell (World.setCell (World.setCell (World.setCell w309 ⟨g300, 0, none⟩ (.int .i64 t197)) ⟨g300, 1, none⟩ (.int .i64 (wrap64 (a37 - 8)))) ⟨g300, 2, none⟩ (.int .i64 0)) ⟨g300, 3, none⟩ (.int .i64 0)) ⟨g300, 4, none⟩ (.int .i64 0)) ⟨g300, 5, none⟩ (.int .i64 0)) ⟨g300, 6, none⟩ (.int .i64 0)) ⟨g300, 7, none⟩ (.int .i64 0))) (by rfl) rfl ?hr ?_
          case hr => first | (go_simp; done) | (go_simp; rfl)
          clear hc311 hz312 hc313 hz314 hc315 hz316 hc317 hz318 hc319 hz320 hc321 hz322 hc323 hz324 hc325 hz326
          intro w310 hst
          replace HS : Aside0 (Sep (fps []) w [b2 g40 a36 a37 a38 a39, b3 g43 0 0 0 0 0 0 0 0, b4 g223 a36 a37, b3 g300 t197 (wrap64 (a37 - 8)) 0 0 0 0 0 0, b5 g305 24 a38 t171] w310) := ⟨by rw [hst]; exact HS.out.setAll (l1 := [b2 g40 a36 a37 a38 a39, b3 g43 0 0 0 0 0 0 0 0, b4 g223 a36 a37]) (l2 := [b5 g305 24 a38 t171]) [.int .i64 t197, .int .i64 (wrap64 (a37 - 8)), .int .i64 0, .int .i64 0, .int .i64 0, .int .i64 0, .int .i64 0, .int .i64 0] rfl⟩
          clear hst
          refine hK.out _ _ (⟨blk_cellv (HS.out.at0) 2 rfl, blk_cellv (HS.out.at0) 0 rfl, blk_cellv (HS.out.at0) 1 rfl⟩) (fun hHeld => ?_)
          clear hK K
          refine done_ (by kernel_rfl) ?_
          go_wp2_with fail
          go_meet
          case rel => exact ⟨g223, g305, g300, (by first | rfl | (simp [IntKind.wrap_u32]; done)), ⟨(((((HS.out).front 3 (by simp)).front 4 (by simp)).front 4 (by simp)).front 4 (by simp)).front 4 (by simp)⟩⟩
      · refine box_step (by rfl) (N := 5) rfl (cs := #[.int .i64 0, .int .i64 0, .int .i64 0, .int .i64 0, .int .i64 0, .int .i64 0, .int .i64 0, .int .i64 0]) (t := 97) ?hr ?_
        case hr => first | (go_simp; done) | (go_simp; rfl)
        intro g327 hg w328 hbox hb
        replace HS : Aside0 (Sep (fps []) w [b2 g40 a36 a37 a38 a39, b3 g43 0 0 0 0 0 0 0 0, b3 g327 0 0 0 0 0 0 0 0] w328) := ⟨HS.out.box hg hbox hb⟩
        clear hg hbox hb
        refine hK.out _ _ (⟨blk_cellv (HS.out.at0) 2 rfl, blk_cellv (HS.out.at0) 0 rfl, blk_cellv (HS.out.at0) 1 rfl⟩) (fun hHeld => ?_)
        clear hK K
        refine norm_ (a' := ?_) ?_ ?_
        rotate_left
        · show Act.put _ (some 5) _ = _
          simp only [Act.put, List.setIfInBounds_toArray, List.set_cons_zero, List.set_cons_succ, i64_w, i32_w]
          rfl
        refine one_ (i := 6) (N := some 18) #[true, true, true, true, true, true, true, false, false, false, true, true, true, false, true, false] rfl rfl (by kernel_rfl) (by decide) (fun K hK => ?_)
        refine slice_step (n := 2) (by rfl) (N := 18) rfl (cs := #[.int .i64 a36, .int .i64 a37]) (t := 3) ?hr ?_
        case hr => first | (go_simp; done) | (go_simp; rfl)
        intro g330 hg w331 hbox hb
        replace HS : Aside0 (Sep (fps []) w [b2 g40 a36 a37 a38 a39, b3 g43 0 0 0 0 0 0 0 0, b3 g327 0 0 0 0 0 0 0 0, b4 g330 a36 a37] w331) := ⟨HS.out.box hg hbox hb⟩
        clear hg hbox hb
        refine hK.out _ _ (⟨blk_cellv (HS.out.at0) 2 rfl, blk_cellv (HS.out.at0) 0 rfl, blk_cellv (HS.out.at0) 1 rfl⟩) (fun hHeld => ?_)
        clear hK K
        refine norm_ (a' := ?_) ?_ ?_
        rotate_left
        · show Act.put _ (some 18) _ = _
          simp only [Act.put, List.setIfInBounds_toArray, List.set_cons_zero, List.set_cons_succ, i64_w, i32_w]
          rfl
        refine one_ (i := 7) (N := some 19) #[true, true, true, true, true, true, true, true, false, false, true, true, true, false, true, false] rfl rfl (by kernel_rfl) (by decide) (fun K hK => ?_)
        refine goes_ Tryd.func123 (by kernel_rfl) rfl #[.slice (some ⟨g330, 0, none⟩) 2 2] (by rfl) rfl rfl (by (try simp only [List.map_toArray, List.map_cons, List.map_nil]); first | done | rfl) ?_
        refine (ratio_Mul.calls _ [a36, a37] (some ⟨g330, 0, none⟩) 2 t171 _ ⟨Rd.lit (l := []) (xs := [a36, a37]) HS.out 3 rfl (by simp)⟩ ⟨HGl0.out.pass (l := []) HS.out⟩ ⟨Sep.start _⟩ HA172).mono ?_
        rintro e_ w334 ⟨rfl, hS⟩
        replace HS : Aside0 (Sep (fps []) w [b2 g40 a36 a37 a38 a39, b3 g43 0 0 0 0 0 0 0 0, b3 g327 0 0 0 0 0 0 0 0, b4 g330 a36 a37] w334) := ⟨HS.out.call hS⟩
        clear hS
        refine ⟨_, rfl, ?_⟩
        refine hK.out _ _ (⟨blk_cellv (HS.out.at0) 2 rfl, blk_cellv (HS.out.at0) 0 rfl, blk_cellv (HS.out.at0) 1 rfl⟩) (fun hHeld => ?_)
        clear hK K
        refine norm_ (a' := ?_) ?_ ?_
        rotate_left
        · show Act.put _ (some 19) _ = _
          simp only [Act.put, List.setIfInBounds_toArray, List.set_cons_zero, List.set_cons_succ, i64_w, i32_w]
          rfl
        refine one_ (i := 8) (N := some 20) #[true, true, true, true, true, true, true, true, true, false, true, true, true, false, true, false] rfl rfl (by kernel_rfl) (by decide) (fun K hK => ?_)
        refine slice_step (n := 3) (by rfl) (N := 20) rfl (cs := #[.int .i64 24, .int .i64 a38, .int .i64 t171]) (t := 3) ?hr ?_
        case hr => first | (go_simp; done) | (go_simp; rfl)
        intro g335 hg w336 hbox hb
        replace HS : Aside0 (Sep (fps []) w [b2 g40 a36 a37 a38 a39, b3 g43 0 0 0 0 0 0 0 0, b3 g327 0 0 0 0 0 0 0 0, b4 g330 a36 a37, b5 g335 24 a38 t171] w336) := ⟨HS.out.box hg hbox hb⟩
        clear hg hbox hb
        refine hK.out _ _ (⟨blk_cellv (HS.out.at0) 2 rfl, blk_cellv (HS.out.at0) 0 rfl, blk_cellv (HS.out.at0) 1 rfl⟩) (fun hHeld => ?_)
        clear hK K
        refine norm_ (a' := ?_) ?_ ?_
        rotate_left
        · show Act.put _ (some 20) _ = _
          simp only [Act.put, List.setIfInBounds_toArray, List.set_cons_zero, List.set_cons_succ, i64_w, i32_w]
          rfl
        refine one_ (i := 9) (N := some 21) #[true, true, true, true, true, true, true, true, true, true, true, true, true, false, true, false] rfl rfl (by kernel_rfl) (by decide) (fun K hK => ?_)
        refine goes_ Tryd.func122 (by kernel_rfl) rfl #[.slice (some ⟨g335, 0, none⟩) 3 3] (by rfl) rfl rfl (by (try simp only [List.map_toArray, List.map_cons, List.map_nil]); first | done | rfl) ?_
        refine (ratio_Add.calls _ [24, a38, t171] (some ⟨g335, 0, none⟩) 3 t197 _ ⟨Rd.lit (l := []) (xs := [24, a38, t171]) HS.out 4 rfl (by simp)⟩ ⟨HGl0.out.pass (l := []) HS.out⟩ ⟨Sep.start _⟩ HA198).mono ?_
        rintro e_ w339 ⟨rfl, hS⟩
        replace HS : Aside0 (Sep (fps []) w [b2 g40 a36 a37 a38 a39, b3 g43 0 0 0 0 0 0 0 0, b3 g327 0 0 0 0 0 0 0 0, b4 g330 a36 a37, b5 g335 24 a38 t171] w339) := ⟨HS.out.call hS⟩
        clear hS
        refine ⟨_, rfl, ?_⟩
        refine hK.out _ _ (⟨blk_cellv (HS.out.at0) 2 rfl, blk_cellv (HS.out.at0) 0 rfl, blk_cellv (HS.out.at0) 1 rfl⟩) (fun hHeld => ?_)
        clear hK K
        refine norm_ (a' := ?_) ?_ ?_
        rotate_left
        · show Act.put _ (some 21) _ = _
          simp only [Act.put, List.setIfInBounds_toArray, List.set_cons_zero, List.set_cons_succ, i64_w, i32_w]
          rfl
        refine pure_ (i := 13) (N := some 25) (v := ?_) (a' := ?_) #[true, true, true, true, true, true, true, true, true, true, true, true, true, true, true, false] rfl rfl (by kernel_rfl) (fun _ _ _ h => h) (Or.inl ⟨by rfl, ?_⟩) ?_ ?_
        rotate_left
        · intro w'
          go_simp
          with_reducible rfl
        rotate_left
        · simp only [Act.put, List.setIfInBounds_toArray, List.set_cons_zero, List.set_cons_succ, i64_w, i32_w]
          rfl
        refine one_ (i := 15) (N := none) #[true, true, true, true, true, true, true, true, true, true, true, true, true, true, true, true] rfl rfl (by kernel_rfl) (by decide) (fun K hK => ?_)
        have hc341 := blk_cellv (v := .int .i64 0) (HS.out.at2) 0 rfl
        have hz342 := blk_fz (HS.out.at2) 0
        have hc343 := blk_cellv (v := .int .i64 0) (HS.out.at2) 1 rfl
        have hz344 := blk_fz (HS.out.at2) 1
        have hc345 := blk_cellv (v := .int .i64 0) (HS.out.at2) 2 rfl
        have hz346 := blk_fz (HS.out.at2) 2
        have hc347 := blk_cellv (v := .int .i64 0) (HS.out.at2) 3 rfl
        have hz348 := blk_fz (HS.out.at2) 3
        have hc349 := blk_cellv (v := .int .i64 0) (HS.out.at2) 4 rfl
        have hz350 := blk_fz (HS.out.at2) 4
        have hc351 := blk_cellv (v := .int .i64 0) (HS.out.at2) 5 rfl
        have hz352 := blk_fz (HS.out.at2) 5
        have hc353 := blk_cellv (v := .int .i64 0) (HS.out.at2) 6 rfl
        have hz354 := blk_fz (HS.out.at2) 6
        have hc355 := blk_cellv (v := .int .i64 0) (HS.out.at2) 7 rfl
        have hz356 := blk_fz (HS.out.at2) 7
        refine store_step (w1 := (World.setCell (World.setCell (World.setCell (World.setCell (World.setCell (World.setCell (World.setCell (World.setCell w339 ⟨g327, 0, none⟩ (.int .i64 t197)) ⟨g327, 1, none⟩ (.int .i64 (wrap64 (a37 - 8)))) ⟨g327, 2, none⟩ (.int .i64 0)) ⟨g327, 3, none⟩ (.int .i64 0)) ⟨g327, 4, none⟩ (.int .i64 0)) ⟨g327, 5, none⟩ (.int .i64 0)) ⟨g327, 6, none⟩ (.int .i64 0)) ⟨g327, 7, none⟩ (.int .i64 0))) (by rfl) rfl ?hr ?_
        case hr => first | (go_simp; done) | (go_simp; rfl)
        clear hc341 hz342 hc343 hz344 hc345 hz346 hc347 hz348 hc349 hz350 hc351 hz352 hc353 hz354 hc355 hz356
        intro w340 hst
        replace HS : Aside0 (Sep (fps []) w [b2 g40 a36 a37 a38 a39, b3 g43 0 0 0 0 0 0 0 0, b3 g327 t197 (wrap64 (a37 - 8)) 0 0 0 0 0 0, b4 g330 a36 a37, b5 g335 24 a38 t171] w340) := ⟨by rw [hst]; exact HS.out.setAll (l1 := [b2 g40 a36 a37 a38 a39, b3 g43 0 0 0 0 0 0 0 0]) (l2 := [b4 g330 a36 a37, b5 g335 24 a38 t171]) [.int .i64 t197, .int .i64 (wrap64 (a37 - 8)), .int .i64 0, .int .i64 0, .int .i64 0, .int .i64 0, .int .i64 0, .int .i64 0] rfl⟩
        clear hst
        refine hK.out _ _ (⟨blk_cellv (HS.out.at0) 2 rfl, blk_cellv (HS.out.at0) 0 rfl, blk_cellv (HS.out.at0) 1 rfl⟩) (fun hHeld => ?_)
        clear hK K
        refine done_ (by kernel_rfl) ?_
        go_wp2_with fail
        go_meet
        case rel => exact ⟨g330, g335, g327, (by first | rfl | (simp [IntKind.wrap_u32]; done)), ⟨(((((HS.out).front 2 (by simp)).front 4 (by simp)).front 4 (by simp)).front 4 (by simp)).front 4 (by simp)⟩⟩
    case rest =>
      clear HS
      obtain ⟨g97, g174, g200, rfl, HS⟩ := hcut
      obtain ⟨w220, rfl⟩ : ∃ x : World, x = wc := ⟨_, rfl⟩
      replace HS : Aside0 (Sep (fps []) w [b2 g40 a36 a37 a38 a39, b3 g43 0 0 0 0 0 0 0 0, b3 g200 t197 (wrap64 (a37 - 8)) 0 0 0 0 0 0] w220) := ⟨HS.out.sub (.cons_cons _ (.cons_cons _ (.cons _ (.cons _ (.cons_cons _ .slnil)))))⟩
      have hc357 : w220.cell? ⟨g200, 1, none⟩ = some (.int .i64 (wrap64 (a37 - 8))) := blk_cellv (HS.out.at2) 1 rfl
      have hc358 : w220.cell? ⟨g200, 2, none⟩ = some (.int .i64 0) := blk_cellv (HS.out.at2) 2 rfl
      have hz359 : w220.frozen? ⟨g200, 2, none⟩ = false := blk_fz (HS.out.at2) 2
      go_wp2_with (first | ((with_reducible refine gate_store (t := 3) (p := 29) rfl ?_); refine store_event (w1 := (World.setCell w220 ⟨g200, 2, none⟩ (.int .i64 (wrap64 ((wrap64 (a37 - 8)) + 1))))) rfl (t := 3) (p := 29) rfl rfl ?hr ?_; (case hr => first | (go_simp; done) | (go_simp; rfl)); intro w360 hst; clear hc357 hc358 hz359; have hq0 : Sep (fps []) w [b2 g40 a36 a37 a38 a39, b3 g43 0 0 0 0 0 0 0 0, b3 g200 t197 (wrap64 (a37 - 8)) (wrap64 ((wrap64 (a37 - 8)) + 1)) 0 0 0 0 0] (World.setCell w220 ⟨g200, 2, none⟩ (.int .i64 (wrap64 ((wrap64 (a37 - 8)) + 1)))) := (HS.out).set1 (l1 := [b2 g40 a36 a37 a38 a39, b3 g43 0 0 0 0 0 0 0 0]) (l2 := []) 2 (.int .i64 (wrap64 ((wrap64 (a37 - 8)) + 1))); replace HS : Aside0 (Sep (fps []) w [b2 g40 a36 a37 a38 a39, b3 g43 0 0 0 0 0 0 0 0, b3 g200 t197 (wrap64 (a37 - 8)) (wrap64 ((wrap64 (a37 - 8)) + 1)) 0 0 0 0 0] w360) := ⟨by rw [hst]; exact hq0⟩; clear hq0; clear hst; have hc361 : w360.cell? ⟨g200, 1, none⟩ = some (.int .i64 (wrap64 (a37 - 8))) := blk_cellv (HS.out.at2) 1 rfl; have hc362 : w360.cell? ⟨g40, 1, none⟩ = some (.int .i64 a37) := blk_cellv (HS.out.at0) 1 rfl) | ((with_reducible refine gate_dst (N := 35) rfl ?_); refine slice_on (n := 2) ?hg (N := 35) ?hd (cs := #[.int .i64 (wrap64 (a37 - 8)), .int .i64 (wrap64 (a37 - 1))]) (t := 3) ?hr ?_; (case hd => rfl); (case hg => rfl); (case hr => first | (go_simp; done) | (go_simp; rfl)); intro g363 hg w364 hbox hb; clear hc361 hc362; replace HS : Aside0 (Sep (fps []) w [b2 g40 a36 a37 a38 a39, b3 g43 0 0 0 0 0 0 0 0, b3 g200 t197 (wrap64 (a37 - 8)) (wrap64 ((wrap64 (a37 - 8)) + 1)) 0 0 0 0 0, b4 g363 (wrap64 (a37 - 8)) (wrap64 (a37 - 1))] w364) := ⟨HS.out.box hg hbox hb⟩; clear hg hbox hb))
      obtain ⟨t366, HA367, H⟩ := bind_some H
      refine (ratio_Mul.calls _ [wrap64 (a37 - 8), wrap64 (a37 - 1)] (some ⟨g363, 0, none⟩) 2 t366 _ ⟨Rd.lit (l := []) (xs := [wrap64 (a37 - 8), wrap64 (a37 - 1)]) HS.out 3 rfl (by simp)⟩ ⟨HGl0.out.pass (l := []) HS.out⟩ ⟨Sep.start _⟩ HA367).mono ?_
      rintro e_ w368 ⟨rfl, hS⟩
      replace HS : Aside0 (Sep (fps []) w [b2 g40 a36 a37 a38 a39, b3 g43 0 0 0 0 0 0 0 0, b3 g200 t197 (wrap64 (a37 - 8)) (wrap64 ((wrap64 (a37 - 8)) + 1)) 0 0 0 0 0, b4 g363 (wrap64 (a37 - 8)) (wrap64 (a37 - 1))] w368) := ⟨HS.out.call hS⟩
      clear hS
      have hc369 : w368.cell? ⟨g200, 3, none⟩ = some (.int .i64 0) := blk_cellv (HS.out.at2) 3 rfl
      have hz370 : w368.frozen? ⟨g200, 3, none⟩ = false := blk_fz (HS.out.at2) 3
      go_wp2_with (first | ((with_reducible refine gate_store (t := 3) (p := 37) rfl ?_); refine store_event (w1 := (World.setCell w368 ⟨g200, 3, none⟩ (.int .i64 t366))) rfl (t := 3) (p := 37) rfl rfl ?hr ?_; (case hr => first | (go_simp; done) | (go_simp; rfl)); intro w371 hst; clear hc369 hz370; have hq0 : Sep (fps []) w [b2 g40 a36 a37 a38 a39, b3 g43 0 0 0 0 0 0 0 0, b3 g200 t197 (wrap64 (a37 - 8)) (wrap64 ((wrap64 (a37 - 8)) + 1)) t366 0 0 0 0, b4 g363 (wrap64 (a37 - 8)) (wrap64 (a37 - 1))] (World.setCell w368 ⟨g200, 3, none⟩ (.int .i64 t366)) := (HS.out).set1 (l1 := [b2 g40 a36 a37 a38 a39, b3 g43 0 0 0 0 0 0 0 0]) (l2 := [b4 g363 (wrap64 (a37 - 8)) (wrap64 (a37 - 1))]) 3 (.int .i64 t366); replace HS : Aside0 (Sep (fps []) w [b2 g40 a36 a37 a38 a39, b3 g43 0 0 0 0 0 0 0 0, b3 g200 t197 (wrap64 (a37 - 8)) (wrap64 ((wrap64 (a37 - 8)) + 1)) t366 0 0 0 0, b4 g363 (wrap64 (a37 - 8)) (wrap64 (a37 - 1))] w371) := ⟨by rw [hst]; exact hq0⟩; clear hq0; clear hst; replace HS : Aside0 (Sep (fps []) w [b2 g40 a36 a37 a38 a39, b3 g43 0 0 0 0 0 0 0 0, b3 g200 t197 (wrap64 (a37 - 8)) (wrap64 ((wrap64 (a37 - 8)) + 1)) t366 0 0 0 0] w371) := ⟨HS.out.sub (.cons_cons _ (.cons_cons _ (.cons_cons _ (.cons _ .slnil))))⟩; have hc372 : w371.cell? ⟨g40, 0, none⟩ = some (.int .i64 a36) := blk_cellv (HS.out.at0) 0 rfl; have hc373 : w371.cell? ⟨g40, 1, none⟩ = some (.int .i64 a37) := blk_cellv (HS.out.at0) 1 rfl) | ((with_reducible refine gate_dst (N := 43) rfl ?_); refine slice_on (n := 2) ?hg (N := 43) ?hd (cs := #[.int .i64 a36, .int .i64 (wrap64 (a37 + 1))]) (t := 3) ?hr ?_; (case hd => rfl); (case hg => rfl); (case hr => first | (go_simp; done) | (go_simp; rfl)); intro g374 hg w375 hbox hb; clear hc372 hc373; replace HS : Aside0 (Sep (fps []) w [b2 g40 a36 a37 a38 a39, b3 g43 0 0 0 0 0 0 0 0, b3 g200 t197 (wrap64 (a37 - 8)) (wrap64 ((wrap64 (a37 - 8)) + 1)) t366 0 0 0 0, b4 g374 a36 (wrap64 (a37 + 1))] w375) := ⟨HS.out.box hg hbox hb⟩; clear hg hbox hb))
      obtain ⟨t377, HA378, H⟩ := bind_some H
      refine (ratio_Mul.calls _ [a36, wrap64 (a37 + 1)] (some ⟨g374, 0, none⟩) 2 t377 _ ⟨Rd.lit (l := []) (xs := [a36, wrap64 (a37 + 1)]) HS.out 3 rfl (by simp)⟩ ⟨HGl0.out.pass (l := []) HS.out⟩ ⟨Sep.start _⟩ HA378).mono ?_
      rintro e_ w379 ⟨rfl, hS⟩
      replace HS : Aside0 (Sep (fps []) w [b2 g40 a36 a37 a38 a39, b3 g43 0 0 0 0 0 0 0 0, b3 g200 t197 (wrap64 (a37 - 8)) (wrap64 ((wrap64 (a37 - 8)) + 1)) t366 0 0 0 0, b4 g374 a36 (wrap64 (a37 + 1))] w379) := ⟨HS.out.call hS⟩
      clear hS
      have hc380 : w379.cell? ⟨g200, 5, none⟩ = some (.int .i64 0) := blk_cellv (HS.out.at2) 5 rfl
      have hz381 : w379.frozen? ⟨g200, 5, none⟩ = false := blk_fz (HS.out.at2) 5
      go_wp2_with (first | ((with_reducible refine gate_store (t := 3) (p := 45) rfl ?_); refine store_event (w1 := (World.setCell w379 ⟨g200, 5, none⟩ (.int .i64 t377))) rfl (t := 3) (p := 45) rfl rfl ?hr ?_; (case hr => first | (go_simp; done) | (go_simp; rfl)); intro w382 hst; clear hc380 hz381; have hq0 : Sep (fps []) w [b2 g40 a36 a37 a38 a39, b3 g43 0 0 0 0 0 0 0 0, b3 g200 t197 (wrap64 (a37 - 8)) (wrap64 ((wrap64 (a37 - 8)) + 1)) t366 0 t377 0 0, b4 g374 a36 (wrap64 (a37 + 1))] (World.setCell w379 ⟨g200, 5, none⟩ (.int .i64 t377)) := (HS.out).set1 (l1 := [b2 g40 a36 a37 a38 a39, b3 g43 0 0 0 0 0 0 0 0]) (l2 := [b4 g374 a36 (wrap64 (a37 + 1))]) 5 (.int .i64 t377); replace HS : Aside0 (Sep (fps []) w [b2 g40 a36 a37 a38 a39, b3 g43 0 0 0 0 0 0 0 0, b3 g200 t197 (wrap64 (a37 - 8)) (wrap64 ((wrap64 (a37 - 8)) + 1)) t366 0 t377 0 0, b4 g374 a36 (wrap64 (a37 + 1))] w382) := ⟨by rw [hst]; exact hq0⟩; clear hq0; clear hst; replace HS : Aside0 (Sep (fps []) w [b2 g40 a36 a37 a38 a39, b3 g43 0 0 0 0 0 0 0 0, b3 g200 t197 (wrap64 (a37 - 8)) (wrap64 ((wrap64 (a37 - 8)) + 1)) t366 0 t377 0 0] w382) := ⟨HS.out.sub (.cons_cons _ (.cons_cons _ (.cons_cons _ (.cons _ .slnil))))⟩; have hc383 : w382.cell? ⟨g200, 5, none⟩ = some (.int .i64 t377) := blk_cellv (HS.out.at2) 5 rfl) | ((with_reducible refine gate_dst (N := 48) rfl ?_); refine slice_on (n := 2) ?hg (N := 48) ?hd (cs := #[.int .i64 3, .int .i64 t377]) (t := 3) ?hr ?_; (case hd => rfl); (case hg => rfl); (case hr => first | (go_simp; done) | (go_simp; rfl)); intro g384 hg w385 hbox hb; clear hc383; replace HS : Aside0 (Sep (fps []) w [b2 g40 a36 a37 a38 a39, b3 g43 0 0 0 0 0 0 0 0, b3 g200 t197 (wrap64 (a37 - 8)) (wrap64 ((wrap64 (a37 - 8)) + 1)) t366 0 t377 0 0, b4 g384 3 t377] w385) := ⟨HS.out.box hg hbox hb⟩; clear hg hbox hb))
      obtain ⟨t387, HA388, H⟩ := bind_some H
      refine (ratio_Mul.calls _ [3, t377] (some ⟨g384, 0, none⟩) 2 t387 _ ⟨Rd.lit (l := []) (xs := [3, t377]) HS.out 3 rfl (by simp)⟩ ⟨HGl0.out.pass (l := []) HS.out⟩ ⟨Sep.start _⟩ HA388).mono ?_
      rintro e_ w389 ⟨rfl, hS⟩
      replace HS : Aside0 (Sep (fps []) w [b2 g40 a36 a37 a38 a39, b3 g43 0 0 0 0 0 0 0 0, b3 g200 t197 (wrap64 (a37 - 8)) (wrap64 ((wrap64 (a37 - 8)) + 1)) t366 0 t377 0 0, b4 g384 3 t377] w389) := ⟨HS.out.call hS⟩
      clear hS
      go_wp2_with (first | ((with_reducible refine gate_dst (N := 50) rfl ?_); refine slice_on (n := 2) ?hg (N := 50) ?hd (cs := #[.int .i64 t387, .int .i64 4]) (t := 3) ?hr ?_; (case hd => rfl); (case hg => rfl); (case hr => first | (go_simp; done) | (go_simp; rfl)); intro g390 hg w391 hbox hb; replace HS : Aside0 (Sep (fps []) w [b2 g40 a36 a37 a38 a39, b3 g43 0 0 0 0 0 0 0 0, b3 g200 t197 (wrap64 (a37 - 8)) (wrap64 ((wrap64 (a37 - 8)) + 1)) t366 0 t377 0 0, b4 g384 3 t377, b4 g390 t387 4] w391) := ⟨HS.out.box hg hbox hb⟩; clear hg hbox hb))
      obtain ⟨t393, HA394, H⟩ := bind_some H
      refine (ratio_Add.calls _ [t387, 4] (some ⟨g390, 0, none⟩) 2 t393 _ ⟨Rd.lit (l := []) (xs := [t387, 4]) HS.out 4 rfl (by simp)⟩ ⟨HGl0.out.pass (l := []) HS.out⟩ ⟨Sep.start _⟩ HA394).mono ?_
      rintro e_ w395 ⟨rfl, hS⟩
      replace HS : Aside0 (Sep (fps []) w [b2 g40 a36 a37 a38 a39, b3 g43 0 0 0 0 0 0 0 0, b3 g200 t197 (wrap64 (a37 - 8)) (wrap64 ((wrap64 (a37 - 8)) + 1)) t366 0 t377 0 0, b4 g384 3 t377, b4 g390 t387 4] w395) := ⟨HS.out.call hS⟩
      clear hS
      have hc396 : w395.cell? ⟨g200, 4, none⟩ = some (.int .i64 0) := blk_cellv (HS.out.at2) 4 rfl
      have hz397 : w395.frozen? ⟨g200, 4, none⟩ = false := blk_fz (HS.out.at2) 4
      go_wp2_with (first | ((with_reducible refine gate_store (t := 3) (p := 52) rfl ?_); refine store_event (w1 := (World.setCell w395 ⟨g200, 4, none⟩ (.int .i64 t393))) rfl (t := 3) (p := 52) rfl rfl ?hr ?_; (case hr => first | (go_simp; done) | (go_simp; rfl)); intro w398 hst; clear hc396 hz397; have hq0 : Sep (fps []) w [b2 g40 a36 a37 a38 a39, b3 g43 0 0 0 0 0 0 0 0, b3 g200 t197 (wrap64 (a37 - 8)) (wrap64 ((wrap64 (a37 - 8)) + 1)) t366 t393 t377 0 0, b4 g384 3 t377, b4 g390 t387 4] (World.setCell w395 ⟨g200, 4, none⟩ (.int .i64 t393)) := (HS.out).set1 (l1 := [b2 g40 a36 a37 a38 a39, b3 g43 0 0 0 0 0 0 0 0]) (l2 := [b4 g384 3 t377, b4 g390 t387 4]) 4 (.int .i64 t393); replace HS : Aside0 (Sep (fps []) w [b2 g40 a36 a37 a38 a39, b3 g43 0 0 0 0 0 0 0 0, b3 g200 t197 (wrap64 (a37 - 8)) (wrap64 ((wrap64 (a37 - 8)) + 1)) t366 t393 t377 0 0, b4 g384 3 t377, b4 g390 t387 4] w398) := ⟨by rw [hst]; exact hq0⟩; clear hq0; clear hst; replace HS : Aside0 (Sep (fps []) w [b2 g40 a36 a37 a38 a39, b3 g43 0 0 0 0 0 0 0 0, b3 g200 t197 (wrap64 (a37 - 8)) (wrap64 ((wrap64 (a37 - 8)) + 1)) t366 t393 t377 0 0] w398) := ⟨HS.out.sub (.cons_cons _ (.cons_cons _ (.cons_cons _ (.cons _ (.cons _ .slnil)))))⟩))
      obtain ⟨t418, HA419, H⟩ := bind_some H
      obtain ⟨t424, HA425, H⟩ := bind_some H
      obtain ⟨t430, HA431, H⟩ := bind_some H
      obtain ⟨t436, HA437, H⟩ := bind_some H
      go_cut [] (fun wc => ∃ (g421 : Nat) (g427 : Nat) (g433 : Nat), Aside0 (Sep (fps []) w [b2 g40 a36 a37 a38 a39, b3 g43 0 0 0 0 0 0 0 0, b3 g200 t197 (wrap64 (a37 - 8)) (wrap64 ((wrap64 (a37 - 8)) + 1)) t366 t393 t377 t436 0, b4 g421 2 t418, b4 g427 2 (wrap64 ((wrap64 (a37 - 8)) + 1)), b4 g433 t424 t430] wc))
      case first =>
        go_wp2_with fail
        refine start_ (n := 15) (S := (fun w' => w'.cell? ⟨g200, 4, none⟩ = some (.int .i64 t393) ∧ w'.cell? ⟨g40, 3, none⟩ = some (.int .i64 a39) ∧ w'.cell? ⟨g200, 2, none⟩ = some (.int .i64 (wrap64 ((wrap64 (a37 - 8)) + 1))))) (ds := []) #[false, false, false, false, false, false, false, false, false, false, false, false, false, false, false] (by kernel_rfl) rfl rfl (⟨blk_cellv ((HS.out.drew).at2) 4 rfl, blk_cellv ((HS.out.drew).at0) 3 rfl, blk_cellv ((HS.out.drew).at2) 2 rfl⟩) (fun hHeld => ?_)
        have HS_ := Aside0.mk HS.out.drew
        clear HS
        generalize World.drew _ = w444 at HS_ hHeld ⊢
        have HS := HS_
        clear HS_
        refine pure_ (i := 0) (N := some 53) (v := ?_) (a' := ?_) #[true, false, false, false, false, false, false, false, false, false, false, false, false, false, false] rfl rfl (by kernel_rfl) (fun _ _ _ h => h) (Or.inl ⟨by rfl, ?_⟩) ?_ ?_
        rotate_left
        · intro w'
          go_simp
          with_reducible rfl
        rotate_left
        · simp only [Act.put, List.setIfInBounds_toArray, List.set_cons_zero, List.set_cons_succ, i64_w, i32_w]
          rfl
        refine pure_ (i := 2) (N := some 55) (v := ?_) (a' := ?_) #[true, false, true, false, false, false, false, false, false, false, false, false, false, false, false] rfl rfl (by kernel_rfl) (fun _ _ _ h => h) (Or.inl ⟨by rfl, ?_⟩) ?_ ?_
        rotate_left
        · intro w'
          go_simp
          with_reducible rfl
        rotate_left
        · simp only [Act.put, List.setIfInBounds_toArray, List.set_cons_zero, List.set_cons_succ, i64_w, i32_w]
          rfl
        refine pure_ (i := 7) (N := some 60) (v := ?_) (a' := ?_) #[true, false, true, false, false, false, false, true, false, false, false, false, false, false, false] rfl rfl (by kernel_rfl) (fun _ _ _ h => h) (Or.inl ⟨by rfl, ?_⟩) ?_ ?_
        rotate_left
        · intro w'
          go_simp
          with_reducible rfl
        rotate_left
        · simp only [Act.put, List.setIfInBounds_toArray, List.set_cons_zero, List.set_cons_succ, i64_w, i32_w]
          rfl
        refine take_ (i := 1) (N := some 54) (v := ?_) (a' := ?_) #[true, true, true, false, false, false, false, true, false, false, false, false, false, false, false] rfl rfl (by kernel_rfl) (fun _ _ _ h => h) (Or.inl ⟨by rfl, ?_⟩) hHeld ?_ ?_
        rotate_left
        · rintro w' hS'
          obtain ⟨s0, s1, s2⟩ := hS'
          go_simp
          with_reducible rfl
        rotate_left
        · simp only [Act.put, List.setIfInBounds_toArray, List.set_cons_zero, List.set_cons_succ, i64_w, i32_w]
          rfl
        refine take_ (i := 3) (N := some 56) (v := ?_) (a' := ?_) #[true, true, true, true, false, false, false, true, false, false, false, false, false, false, false] rfl rfl (by kernel_rfl) (fun _ _ _ h => h) (Or.inl ⟨by rfl, ?_⟩) hHeld ?_ ?_
        rotate_left
        · rintro w' hS'
          obtain ⟨s0, s1, s2⟩ := hS'
          go_simp
          with_reducible rfl
        rotate_left
        · simp only [Act.put, List.setIfInBounds_toArray, List.set_cons_zero, List.set_cons_succ, i64_w, i32_w]
          rfl
        refine take_ (i := 8) (N := some 61) (v := ?_) (a' := ?_) #[true, true, true, true, false, false, false, true, true, false, false, false, false, false, false] rfl rfl (by kernel_rfl) (fun _ _ _ h => h) (Or.inl ⟨by rfl, ?_⟩) hHeld ?_ ?_
        rotate_left
        · rintro w' hS'
          obtain ⟨s0, s1, s2⟩ := hS'
          go_simp
          with_reducible rfl
        rotate_left
        · simp only [Act.put, List.setIfInBounds_toArray, List.set_cons_zero, List.set_cons_succ, i64_w, i32_w]
          rfl
        refine two_ (i := 4) (j := 9) (Ni := some 57) (Nj := some 62) #[true, true, true, true, true, false, false, true, true, false, false, false, false, false, false] #[true, true, true, true, false, false, false, true, true, true, false, false, false, false, false] rfl rfl rfl rfl (by kernel_rfl) (by decide) (by decide) (fun K hK => ?_) (fun K hK => ?_)
        · refine goes_ Tryd.func124 (by kernel_rfl) rfl #[.int .i64 t393, .int .i64 a39] (by rfl) rfl rfl (by (try simp only [List.map_toArray, List.map_cons, List.map_nil]); first | done | rfl) ?_
          refine (ratio_Up.calls t393 a39 t418 _ ⟨HGl0.out.pass (l := []) HS.out⟩ ⟨Sep.start _⟩ HA419).mono ?_
          rintro e_ w446 ⟨rfl, hS⟩
          replace HS : Aside0 (Sep (fps []) w [b2 g40 a36 a37 a38 a39, b3 g43 0 0 0 0 0 0 0 0, b3 g200 t197 (wrap64 (a37 - 8)) (wrap64 ((wrap64 (a37 - 8)) + 1)) t366 t393 t377 0 0] w446) := ⟨HS.out.call hS⟩
          clear hS
          refine ⟨_, rfl, ?_⟩
          refine hK.out _ _ (⟨blk_cellv (HS.out.at2) 4 rfl, blk_cellv (HS.out.at0) 3 rfl, blk_cellv (HS.out.at2) 2 rfl⟩) (fun hHeld => ?_)
          clear hK K
          refine norm_ (a' := ?_) ?_ ?_
          rotate_left
          · show Act.put _ (some 57) _ = _
            simp only [Act.put, List.setIfInBounds_toArray, List.set_cons_zero, List.set_cons_succ, i64_w, i32_w]
            rfl
          refine two_ (i := 5) (j := 9) (Ni := some 58) (Nj := some 62) #[true, true, true, true, true, true, false, true, true, false, false, false, false, false, false] #[true, true, true, true, true, false, false, true, true, true, false, false, false, false, false] rfl rfl rfl rfl (by kernel_rfl) (by decide) (by decide) (fun K hK => ?_) (fun K hK => ?_)
          · refine slice_step (n := 2) (by rfl) (N := 58) rfl (cs := #[.int .i64 2, .int .i64 t418]) (t := 3) ?hr ?_
            case hr => first | (go_simp; done) | (go_simp; rfl)
            intro g447 hg w448 hbox hb
            replace HS : Aside0 (Sep (fps []) w [b2 g40 a36 a37 a38 a39, b3 g43 0 0 0 0 0 0 0 0, b3 g200 t197 (wrap64 (a37 - 8)) (wrap64 ((wrap64 (a37 - 8)) + 1)) t366 t393 t377 0 0, b4 g447 2 t418] w448) := ⟨HS.out.box hg hbox hb⟩
            clear hg hbox hb
            refine hK.out _ _ (⟨blk_cellv (HS.out.at2) 4 rfl, blk_cellv (HS.out.at0) 3 rfl, blk_cellv (HS.out.at2) 2 rfl⟩) (fun hHeld => ?_)
            clear hK K
            refine norm_ (a' := ?_) ?_ ?_
            rotate_left
            · show Act.put _ (some 58) _ = _
              simp only [Act.put, List.setIfInBounds_toArray, List.set_cons_zero, List.set_cons_succ, i64_w, i32_w]
              rfl
            refine two_ (i := 6) (j := 9) (Ni := some 59) (Nj := some 62) #[true, true, true, true, true, true, true, true, true, false, false, false, false, false, false] #[true, true, true, true, true, true, false, true, true, true, false, false, false, false, false] rfl rfl rfl rfl (by kernel_rfl) (by decide) (by decide) (fun K hK => ?_) (fun K hK => ?_)
            · refine goes_ Tryd.func123 (by kernel_rfl) rfl #[.slice (some ⟨g447, 0, none⟩) 2 2] (by rfl) rfl rfl (by (try simp only [List.map_toArray, List.map_cons, List.map_nil]); first | done | rfl) ?_
              refine (ratio_Mul.calls _ [2, t418] (some ⟨g447, 0, none⟩) 2 t424 _ ⟨Rd.lit (l := []) (xs := [2, t418]) HS.out 3 rfl (by simp)⟩ ⟨HGl0.out.pass (l := []) HS.out⟩ ⟨Sep.start _⟩ HA425).mono ?_
              rintro e_ w451 ⟨rfl, hS⟩
              replace HS : Aside0 (Sep (fps []) w [b2 g40 a36 a37 a38 a39, b3 g43 0 0 0 0 0 0 0 0, b3 g200 t197 (wrap64 (a37 - 8)) (wrap64 ((wrap64 (a37 - 8)) + 1)) t366 t393 t377 0 0, b4 g447 2 t418] w451) := ⟨HS.out.call hS⟩
              clear hS
              refine ⟨_, rfl, ?_⟩
              refine hK.out _ _ (⟨blk_cellv (HS.out.at2) 4 rfl, blk_cellv (HS.out.at0) 3 rfl, blk_cellv (HS.out.at2) 2 rfl⟩) (fun hHeld => ?_)
              clear hK K
              refine norm_ (a' := ?_) ?_ ?_
              rotate_left
              · show Act.put _ (some 59) _ = _
                simp only [Act.put, List.setIfInBounds_toArray, List.set_cons_zero, List.set_cons_succ, i64_w, i32_w]
                rfl
              refine one_ (i := 9) (N := some 62) #[true, true, true, true, true, true, true, true, true, true, false, false, false, false, false] rfl rfl (by kernel_rfl) (by decide) (fun K hK => ?_)
              refine slice_step (n := 2) (by rfl) (N := 62) rfl (cs := #[.int .i64 2, .int .i64 (wrap64 ((wrap64 (a37 - 8)) + 1))]) (t := 3) ?hr ?_
              case hr => first | (go_simp; done) | (go_simp; rfl)
              intro g452 hg w453 hbox hb
              replace HS : Aside0 (Sep (fps []) w [b2 g40 a36 a37 a38 a39, b3 g43 0 0 0 0 0 0 0 0, b3 g200 t197 (wrap64 (a37 - 8)) (wrap64 ((wrap64 (a37 - 8)) + 1)) t366 t393 t377 0 0, b4 g447 2 t418, b4 g452 2 (wrap64 ((wrap64 (a37 - 8)) + 1))] w453) := ⟨HS.out.box hg hbox hb⟩
              clear hg hbox hb
              refine hK.out _ _ (⟨blk_cellv (HS.out.at2) 4 rfl, blk_cellv (HS.out.at0) 3 rfl, blk_cellv (HS.out.at2) 2 rfl⟩) (fun hHeld => ?_)
              clear hK K
              refine norm_ (a' := ?_) ?_ ?_
              rotate_left
              · show Act.put _ (some 62) _ = _
                simp only [Act.put, List.setIfInBounds_toArray, List.set_cons_zero, List.set_cons_succ, i64_w, i32_w]
                rfl
              refine one_ (i := 10) (N := some 63) #[true, true, true, true, true, true, true, true, true, true, true, false, false, false, false] rfl rfl (by kernel_rfl) (by decide) (fun K hK => ?_)
              refine goes_ Tryd.func123 (by kernel_rfl) rfl #[.slice (some ⟨g452, 0, none⟩) 2 2] (by rfl) rfl rfl (by (try simp only [List.map_toArray, List.map_cons, List.map_nil]); first | done | rfl) ?_
              refine (ratio_Mul.calls _ [2, wrap64 ((wrap64 (a37 - 8)) + 1)] (some ⟨g452, 0, none⟩) 2 t430 _ ⟨Rd.lit (l := []) (xs := [2, wrap64 ((wrap64 (a37 - 8)) + 1)]) HS.out 4 rfl (by simp)⟩ ⟨HGl0.out.pass (l := []) HS.out⟩ ⟨Sep.start _⟩ HA431).mono ?_
              rintro e_ w456 ⟨rfl, hS⟩
              replace HS : Aside0 (Sep (fps []) w [b2 g40 a36 a37 a38 a39, b3 g43 0 0 0 0 0 0 0 0, b3 g200 t197 (wrap64 (a37 - 8)) (wrap64 ((wrap64 (a37 - 8)) + 1)) t366 t393 t377 0 0, b4 g447 2 t418, b4 g452 2 (wrap64 ((wrap64 (a37 - 8)) + 1))] w456) := ⟨HS.out.call hS⟩
              clear hS
              refine ⟨_, rfl, ?_⟩
              refine hK.out _ _ (⟨blk_cellv (HS.out.at2) 4 rfl, blk_cellv (HS.out.at0) 3 rfl, blk_cellv (HS.out.at2) 2 rfl⟩) (fun hHeld => ?_)
              clear hK K
              refine norm_ (a' := ?_) ?_ ?_
              rotate_left
              · show Act.put _ (some 63) _ = _
                simp only [Act.put, List.setIfInBounds_toArray, List.set_cons_zero, List.set_cons_succ, i64_w, i32_w]
                rfl
              refine one_ (i := 11) (N := some 64) #[true, true, true, true, true, true, true, true, true, true, true, true, false, false, false] rfl rfl (by kernel_rfl) (by decide) (fun K hK => ?_)
              refine slice_step (n := 2) (by rfl) (N := 64) rfl (cs := #[.int .i64 t424, .int .i64 t430]) (t := 3) ?hr ?_
              case hr => first | (go_simp; done) | (go_simp; rfl)
              intro g457 hg w458 hbox hb
              replace HS : Aside0 (Sep (fps []) w [b2 g40 a36 a37 a38 a39, b3 g43 0 0 0 0 0 0 0 0, b3 g200 t197 (wrap64 (a37 - 8)) (wrap64 ((wrap64 (a37 - 8)) + 1)) t366 t393 t377 0 0, b4 g447 2 t418, b4 g452 2 (wrap64 ((wrap64 (a37 - 8)) + 1)), b4 g457 t424 t430] w458) := ⟨HS.out.box hg hbox hb⟩
              clear hg hbox hb
              refine hK.out _ _ (⟨blk_cellv (HS.out.at2) 4 rfl, blk_cellv (HS.out.at0) 3 rfl, blk_cellv (HS.out.at2) 2 rfl⟩) (fun hHeld => ?_)
              clear hK K
              refine norm_ (a' := ?_) ?_ ?_
              rotate_left
              · show Act.put _ (some 64) _ = _
                simp only [Act.put, List.setIfInBounds_toArray, List.set_cons_zero, List.set_cons_succ, i64_w, i32_w]
                rfl
              refine one_ (i := 12) (N := some 65) #[true, true, true, true, true, true, true, true, true, true, true, true, true, false, false] rfl rfl (by kernel_rfl) (by decide) (fun K hK => ?_)
              refine goes_ Tryd.func122 (by kernel_rfl) rfl #[.slice (some ⟨g457, 0, none⟩) 2 2] (by rfl) rfl rfl (by (try simp only [List.map_toArray, List.map_cons, List.map_nil]); first | done | rfl) ?_
              refine (ratio_Add.calls _ [t424, t430] (some ⟨g457, 0, none⟩) 2 t436 _ ⟨Rd.lit (l := []) (xs := [t424, t430]) HS.out 5 rfl (by simp)⟩ ⟨HGl0.out.pass (l := []) HS.out⟩ ⟨Sep.start _⟩ HA437).mono ?_
              rintro e_ w461 ⟨rfl, hS⟩
              replace HS : Aside0 (Sep (fps []) w [b2 g40 a36 a37 a38 a39, b3 g43 0 0 0 0 0 0 0 0, b3 g200 t197 (wrap64 (a37 - 8)) (wrap64 ((wrap64 (a37 - 8)) + 1)) t366 t393 t377 0 0, b4 g447 2 t418, b4 g452 2 (wrap64 ((wrap64 (a37 - 8)) + 1)), b4 g457 t424 t430] w461) := ⟨HS.out.call hS⟩
              clear hS
              refine ⟨_, rfl, ?_⟩
              refine hK.out _ _ (⟨blk_cellv (HS.out.at2) 4 rfl, blk_cellv (HS.out.at0) 3 rfl, blk_cellv (HS.out.at2) 2 rfl⟩) (fun hHeld => ?_)
              clear hK K
              refine norm_ (a' := ?_) ?_ ?_
              rotate_left
              · show Act.put _ (some 65) _ = _
                simp only [Act.put, List.setIfInBounds_toArray, List.set_cons_zero, List.set_cons_succ, i64_w, i32_w]
                rfl
              refine pure_ (i := 13) (N := some 66) (v := ?_) (a' := ?_) #[true, true, true, true, true, true, true, true, true, true, true, true, true, true, false] rfl rfl (by kernel_rfl) (fun _ _ _ h => h) (Or.inl ⟨by rfl, ?_⟩) ?_ ?_
              rotate_left
              · intro w'
                go_simp
                with_reducible rfl
              rotate_left
              · simp only [Act.put, List.setIfInBounds_toArray, List.set_cons_zero, List.set_cons_succ, i64_w, i32_w]
                rfl
              refine one_ (i := 14) (N := none) #[true, true, true, true, true, true, true, true, true, true, true, true, true, true, true] rfl rfl (by kernel_rfl) (by decide) (fun K hK => ?_)
              have hc463 := blk_cellv (v := .int .i64 0) (HS.out.at2) 6 rfl
              have hz464 := blk_fz (HS.out.at2) 6
              refine store_step (w1 := (World.setCell w461 ⟨g200, 6, none⟩ (.int .i64 t436))) (by rfl) rfl ?hr ?_
              case hr => first | (go_simp; done) | (go_simp; rfl)
              clear hc463 hz464
              intro w462 hst
              have hq0 : Sep (fps []) w [b2 g40 a36 a37 a38 a39, b3 g43 0 0 0 0 0 0 0 0, b3 g200 t197 (wrap64 (a37 - 8)) (wrap64 ((wrap64 (a37 - 8)) + 1)) t366 t393 t377 t436 0, b4 g447 2 t418, b4 g452 2 (wrap64 ((wrap64 (a37 - 8)) + 1)), b4 g457 t424 t430] (World.setCell w461 ⟨g200, 6, none⟩ (.int .i64 t436)) := (HS.out).set1 (l1 := [b2 g40 a36 a37 a38 a39, b3 g43 0 0 0 0 0 0 0 0]) (l2 := [b4 g447 2 t418, b4 g452 2 (wrap64 ((wrap64 (a37 - 8)) + 1)), b4 g457 t424 t430]) 6 (.int .i64 t436)
              have HS_ : Aside0 (Sep (fps []) w [b2 g40 a36 a37 a38 a39, b3 g43 0 0 0 0 0 0 0 0, b3 g200 t197 (wrap64 (a37 - 8)) (wrap64 ((wrap64 (a37 - 8)) + 1)) t366 t393 t377 t436 0, b4 g447 2 t418, b4 g452 2 (wrap64 ((wrap64 (a37 - 8)) + 1)), b4 g457 t424 t430] w462) := ⟨by rw [hst]; exact hq0⟩
              clear hq0
              clear HS hst
              have HS := HS_
              clear HS_
              refine hK.out _ _ (⟨blk_cellv (HS.out.at2) 4 rfl, blk_cellv (HS.out.at0) 3 rfl, blk_cellv (HS.out.at2) 2 rfl⟩) (fun hHeld => ?_)
              clear hK K
              refine done_ (by kernel_rfl) ?_
              go_wp2_with fail
              go_meet
              case rel => exact ⟨g447, g452, g457, ⟨((((((HS.out).front 5 (by simp)).front 5 (by simp)).front 5 (by simp)).front 5 (by simp)).front 5 (by simp)).front 5 (by simp)⟩⟩
            · refine slice_step (n := 2) (by rfl) (N := 62) rfl (cs := #[.int .i64 2, .int .i64 (wrap64 ((wrap64 (a37 - 8)) + 1))]) (t := 3) ?hr ?_
              case hr => first | (go_simp; done) | (go_simp; rfl)
              intro g465 hg w466 hbox hb
              replace HS : Aside0 (Sep (fps []) w [b2 g40 a36 a37 a38 a39, b3 g43 0 0 0 0 0 0 0 0, b3 g200 t197 (wrap64 (a37 - 8)) (wrap64 ((wrap64 (a37 - 8)) + 1)) t366 t393 t377 0 0, b4 g447 2 t418, b4 g465 2 (wrap64 ((wrap64 (a37 - 8)) + 1))] w466) := ⟨HS.out.box hg hbox hb⟩
              clear hg hbox hb
              refine hK.out _ _ (⟨blk_cellv (HS.out.at2) 4 rfl, blk_cellv (HS.out.at0) 3 rfl, blk_cellv (HS.out.at2) 2 rfl⟩) (fun hHeld => ?_)
              clear hK K
              refine norm_ (a' := ?_) ?_ ?_
              rotate_left
              · show Act.put _ (some 62) _ = _
                simp only [Act.put, List.setIfInBounds_toArray, List.set_cons_zero, List.set_cons_succ, i64_w, i32_w]
                rfl
              refine one_ (i := 6) (N := some 59) #[true, true, true, true, true, true, true, true, true, true, false, false, false, false, false] rfl rfl (by kernel_rfl) (by decide) (fun K hK => ?_)
              refine goes_ Tryd.func123 (by kernel_rfl) rfl #[.slice (some ⟨g447, 0, none⟩) 2 2] (by rfl) rfl rfl (by (try simp only [List.map_toArray, List.map_cons, List.map_nil]); first | done | rfl) ?_
              refine (ratio_Mul.calls _ [2, t418] (some ⟨g447, 0, none⟩) 2 t424 _ ⟨Rd.lit (l := []) (xs := [2, t418]) HS.out 3 rfl (by simp)⟩ ⟨HGl0.out.pass (l := []) HS.out⟩ ⟨Sep.start _⟩ HA425).mono ?_
              rintro e_ w469 ⟨rfl, hS⟩
              replace HS : Aside0 (Sep (fps []) w [b2 g40 a36 a37 a38 a39, b3 g43 0 0 0 0 0 0 0 0, b3 g200 t197 (wrap64 (a37 - 8)) (wrap64 ((wrap64 (a37 - 8)) + 1)) t366 t393 t377 0 0, b4 g447 2 t418, b4 g465 2 (wrap64 ((wrap64 (a37 - 8)) + 1))] w469) := ⟨HS.out.call hS⟩
              clear hS
              refine ⟨_, rfl, ?_⟩
              refine hK.out _ _ (⟨blk_cellv (HS.out.at2) 4 rfl, blk_cellv (HS.out.at0) 3 rfl, blk_cellv (HS.out.at2) 2 rfl⟩) (fun hHeld => ?_)
              clear hK K
              refine norm_ (a' := ?_) ?_ ?_
              rotate_left
              · show Act.put _ (some 59) _ = _
                simp only [Act.put, List.setIfInBounds_toArray, List.set_cons_zero, List.set_cons_succ, i64_w, i32_w]
                rfl
              refine one_ (i := 10) (N := some 63) #[true, true, true, true, true, true, true, true, true, true, true, false, false, false, false] rfl rfl (by kernel_rfl) (by decide) (fun K hK => ?_)
              refine goes_ Tryd.func123 (by kernel_rfl) rfl #[.slice (some ⟨g465, 0, none⟩) 2 2] (by rfl) rfl rfl (by (try simp only [List.map_toArray, List.map_cons, List.map_nil]); first | done | rfl) ?_
              refine (ratio_Mul.calls _ [2, wrap64 ((wrap64 (a37 - 8)) + 1)] (some ⟨g465, 0, none⟩) 2 t430 _ ⟨Rd.lit (l := []) (xs := [2, wrap64 ((wrap64 (a37 - 8)) + 1)]) HS.out 4 rfl (by simp)⟩ ⟨HGl0.out.pass (l := []) HS.out⟩ ⟨Sep.start _⟩ HA431).mono ?_
              rintro e_ w471 ⟨rfl, hS⟩
              replace HS : Aside0 (Sep (fps []) w [b2 g40 a36 a37 a38 a39, b3 g43 0 0 0 0 0 0 0 0, b3 g200 t197 (wrap64 (a37 - 8)) (wrap64 ((wrap64 (a37 - 8)) + 1)) t366 t393 t377 0 0, b4 g447 2 t418, b4 g465 2 (wrap64 ((wrap64 (a37 - 8)) + 1))] w471) := ⟨HS.out.call hS⟩
              clear hS
              refine ⟨_, rfl, ?_⟩
              refine hK.out _ _ (⟨blk_cellv (HS.out.at2) 4 rfl, blk_cellv (HS.out.at0) 3 rfl, blk_cellv (HS.out.at2) 2 rfl⟩) (fun hHeld => ?_)
              clear hK K
              refine norm_ (a' := ?_) ?_ ?_
              rotate_left
              · show Act.put _ (some 63) _ = _
                simp only [Act.put, List.setIfInBounds_toArray, List.set_cons_zero, List.set_cons_succ, i64_w, i32_w]
                rfl
              refine one_ (i := 11) (N := some 64) #[true, true, true, true, true, true, true, true, true, true, true, true, false, false, false] rfl rfl (by kernel_rfl) (by decide) (fun K hK => ?_)
              refine slice_step (n := 2) (by rfl) (N := 64) rfl (cs := #[.int .i64 t424, .int .i64 t430]) (t := 3) ?hr ?_
              case hr => first | (go_simp; done) | (go_simp; rfl)
              intro g472 hg w473 hbox hb
              replace HS : Aside0 (Sep (fps []) w [b2 g40 a36 a37 a38 a39, b3 g43 0 0 0 0 0 0 0 0, b3 g200 t197 (wrap64 (a37 - 8)) (wrap64 ((wrap64 (a37 - 8)) + 1)) t366 t393 t377 0 0, b4 g447 2 t418, b4 g465 2 (wrap64 ((wrap64 (a37 - 8)) + 1)), b4 g472 t424 t430] w473) := ⟨HS.out.box hg hbox hb⟩
              clear hg hbox hb
              refine hK.out _ _ (⟨blk_cellv (HS.out.at2) 4 rfl, blk_cellv (HS.out.at0) 3 rfl, blk_cellv (HS.out.at2) 2 rfl⟩) (fun hHeld => ?_)
              clear hK K
              refine norm_ (a' := ?_) ?_ ?_
              rotate_left
              · show Act.put _ (some 64) _ = _
                simp only [Act.put, List.setIfInBounds_toArray, List.set_cons_zero, List.set_cons_succ, i64_w, i32_w]
                rfl
              refine one_ (i := 12) (N := some 65) #[true, true, true, true, true, true, true, true, true, true, true, true, true, false, false] rfl rfl (by kernel_rfl) (by decide) (fun K hK => ?_)
              refine goes_ Tryd.func122 (by kernel_rfl) rfl #[.slice (some ⟨g472, 0, none⟩) 2 2] (by rfl) rfl rfl (by (try simp only [List.map_toArray, List.map_cons, List.map_nil]); first | done | rfl) ?_
              refine (ratio_Add.calls _ [t424, t430] (some ⟨g472, 0, none⟩) 2 t436 _ ⟨Rd.lit (l := []) (xs := [t424, t430]) HS.out 5 rfl (by simp)⟩ ⟨HGl0.out.pass (l := []) HS.out⟩ ⟨Sep.start _⟩ HA437).mono ?_
              rintro e_ w476 ⟨rfl, hS⟩
              replace HS : Aside0 (Sep (fps []) w [b2 g40 a36 a37 a38 a39, b3 g43 0 0 0 0 0 0 0 0, b3 g200 t197 (wrap64 (a37 - 8)) (wrap64 ((wrap64 (a37 - 8)) + 1)) t366 t393 t377 0 0, b4 g447 2 t418, b4 g465 2 (wrap64 ((wrap64 (a37 - 8)) + 1)), b4 g472 t424 t430] w476) := ⟨HS.out.call hS⟩
              clear hS
              refine ⟨_, rfl, ?_⟩
              refine hK.out _ _ (⟨blk_cellv (HS.out.at2) 4 rfl, blk_cellv (HS.out.at0) 3 rfl, blk_cellv (HS.out.at2) 2 rfl⟩) (fun hHeld => ?_)
              clear hK K
              refine norm_ (a' := ?_) ?_ ?_
              rotate_left
              · show Act.put _ (some 65) _ = _
                simp only [Act.put, List.setIfInBounds_toArray, List.set_cons_zero, List.set_cons_succ, i64_w, i32_w]
                rfl
              refine pure_ (i := 13) (N := some 66) (v := ?_) (a' := ?_) #[true, true, true, true, true, true, true, true, true, true, true, true, true, true, false] rfl rfl (by kernel_rfl) (fun _ _ _ h => h) (Or.inl ⟨by rfl, ?_⟩) ?_ ?_
              rotate_left
              · intro w'
                go_simp
                with_reducible rfl
              rotate_left
              · simp only [Act.put, List.setIfInBounds_toArray, List.set_cons_zero, List.set_cons_succ, i64_w, i32_w]
                rfl
              refine one_ (i := 14) (N := none) #[true, true, true, true, true, true, true, true, true, true, true, true, true, true, true] rfl rfl (by kernel_rfl) (by decide) (fun K hK => ?_)
              have hc478 := blk_cellv (v := .int .i64 0) (HS.out.at2) 6 rfl
              have hz479 := blk_fz (HS.out.at2) 6
              refine store_step (w1 := (World.setCell w476 ⟨g200, 6, none⟩ (.int .i64 t436))) (by rfl) rfl ?hr ?_
              case hr => first | (go_simp; done) | (go_simp; rfl)
              clear hc478 hz479
              intro w477 hst
              have hq0 : Sep (fps []) w [b2 g40 a36 a37 a38 a39, b3 g43 0 0 0 0 0 0 0 0, b3 g200 t197 (wrap64 (a37 - 8)) (wrap64 ((wrap64 (a37 - 8)) + 1)) t366 t393 t377 t436 0, b4 g447 2 t418, b4 g465 2 (wrap64 ((wrap64 (a37 - 8)) + 1)), b4 g472 t424 t430] (World.setCell w476 ⟨g200, 6, none⟩ (.int .i64 t436)) := (HS.out).set1 (l1 := [b2 g40 a36 a37 a38 a39, b3 g43 0 0 0 0 0 0 0 0]) (l2 := [b4 g447 2 t418, b4 g465 2 (wrap64 ((wrap64 (a37 - 8)) + 1)), b4 g472 t424 t430]) 6 (.int .i64 t436)
              have HS_ : Aside0 (Sep (fps []) w [b2 g40 a36 a37 a38 a39, b3 g43 0 0 0 0 0 0 0 0, b3 g200 t197 (wrap64 (a37 - 8)) (wrap64 ((wrap64 (a37 - 8)) + 1)) t366 t393 t377 t436 0, b4 g447 2 t418, b4 g465 2 (wrap64 ((wrap64 (a37 - 8)) + 1)), b4 g472 t424 t430] w477) := ⟨by rw [hst]; exact hq0⟩
              clear hq0
              clear HS hst
              have HS := HS_
              clear HS_
              refine hK.out _ _ (⟨blk_cellv (HS.out.at2) 4 rfl, blk_cellv (HS.out.at0) 3 rfl, blk_cellv (HS.out.at2) 2 rfl⟩) (fun hHeld => ?_)
              clear hK K
              refine done_ (by kernel_rfl) ?_
              go_wp2_with fail
              go_meet
              case rel => exact ⟨g447, g465, g472, ⟨((((((HS.out).front 5 (by simp)).front 5 (by simp)).front 5 (by simp)).front 5 (by simp)).front 5 (by simp)).front 5 (by simp)⟩⟩
          · refine slice_step (n := 2) (by rfl) (N := 62) rfl (cs := #[.int .i64 2, .int .i64 (wrap64 ((wrap64 (a37 - 8)) + 1))]) (t := 3) ?hr ?_
            case hr => first | (go_simp; done) | (go_simp; rfl)
            intro g480 hg w481 hbox hb
            replace HS : Aside0 (Sep (fps []) w [b2 g40 a36 a37 a38 a39, b3 g43 0 0 0 0 0 0 0 0, b3 g200 t197 (wrap64 (a37 - 8)) (wrap64 ((wrap64 (a37 - 8)) + 1)) t366 t393 t377 0 0, b4 g480 2 (wrap64 ((wrap64 (a37 - 8)) + 1))] w481) := ⟨HS.out.box hg hbox hb⟩
            clear hg hbox hb
            refine hK.out _ _ (⟨blk_cellv (HS.out.at2) 4 rfl, blk_cellv (HS.out.at0) 3 rfl, blk_cellv (HS.out.at2) 2 rfl⟩) (fun hHeld => ?_)
            clear hK K
            refine norm_ (a' := ?_) ?_ ?_
            rotate_left
            · show Act.put _ (some 62) _ = _
              simp only [Act.put, List.setIfInBounds_toArray, List.set_cons_zero, List.set_cons_succ, i64_w, i32_w]
              rfl
            refine one_ (i := 5) (N := some 58) #[true, true, true, true, true, true, false, true, true, true, false, false, false, false, false] rfl rfl (by kernel_rfl) (by decide) (fun K hK => ?_)
            refine slice_step (n := 2) (by rfl) (N := 58) rfl (cs := #[.int .i64 2, .int .i64 t418]) (t := 3) ?hr ?_
            case hr => first | (go_simp; done) | (go_simp; rfl)
            intro g483 hg w484 hbox hb
            replace HS : Aside0 (Sep (fps []) w [b2 g40 a36 a37 a38 a39, b3 g43 0 0 0 0 0 0 0 0, b3 g200 t197 (wrap64 (a37 - 8)) (wrap64 ((wrap64 (a37 - 8)) + 1)) t366 t393 t377 0 0, b4 g480 2 (wrap64 ((wrap64 (a37 - 8)) + 1)), b4 g483 2 t418] w484) := ⟨HS.out.box hg hbox hb⟩
            clear hg hbox hb
            refine hK.out _ _ (⟨blk_cellv (HS.out.at2) 4 rfl, blk_cellv (HS.out.at0) 3 rfl, blk_cellv (HS.out.at2) 2 rfl⟩) (fun hHeld => ?_)
            clear hK K
            refine norm_ (a' := ?_) ?_ ?_
            rotate_left
            · show Act.put _ (some 58) _ = _
              simp only [Act.put, List.setIfInBounds_toArray, List.set_cons_zero, List.set_cons_succ, i64_w, i32_w]
              rfl
            refine one_ (i := 6) (N := some 59) #[true, true, true, true, true, true, true, true, true, true, false, false, false, false, false] rfl rfl (by kernel_rfl) (by decide) (fun K hK => ?_)
            refine goes_ Tryd.func123 (by kernel_rfl) rfl #[.slice (some ⟨g483, 0, none⟩) 2 2] (by rfl) rfl rfl (by (try simp only [List.map_toArray, List.map_cons, List.map_nil]); first | done | rfl) ?_
            refine (ratio_Mul.calls _ [2, t418] (some ⟨g483, 0, none⟩) 2 t424 _ ⟨Rd.lit (l := []) (xs := [2, t418]) HS.out 4 rfl (by simp)⟩ ⟨HGl0.out.pass (l := []) HS.out⟩ ⟨Sep.start _⟩ HA425).mono ?_
            rintro e_ w487 ⟨rfl, hS⟩
            replace HS : Aside0 (Sep (fps []) w [b2 g40 a36 a37 a38 a39, b3 g43 0 0 0 0 0 0 0 0, b3 g200 t197 (wrap64 (a37 - 8)) (wrap64 ((wrap64 (a37 - 8)) + 1)) t366 t393 t377 0 0, b4 g480 2 (wrap64 ((wrap64 (a37 - 8)) + 1)), b4 g483 2 t418] w487) := ⟨HS.out.call hS⟩
            clear hS
            refine ⟨_, rfl, ?_⟩
            refine hK.out _ _ (⟨blk_cellv (HS.out.at2) 4 rfl, blk_cellv (HS.out.at0) 3 rfl, blk_cellv (HS.out.at2) 2 rfl⟩) (fun hHeld => ?_)
            clear hK K
            refine norm_ (a' := ?_) ?_ ?_
            rotate_left
            · show Act.put _ (some 59) _ = _
              simp only [Act.put, List.setIfInBounds_toArray, List.set_cons_zero, List.set_cons_succ, i64_w, i32_w]
              rfl
            refine one_ (i := 10) (N := some 63) #[true, true, true, true, true, true, true, true, true, true, true, false, false, false, false] rfl rfl (by kernel_rfl) (by decide) (fun K hK => ?_)
            refine goes_ Tryd.func123 (by kernel_rfl) rfl #[.slice (some ⟨g480, 0, none⟩) 2 2] (by rfl) rfl rfl (by (try simp only [List.map_toArray, List.map_cons, List.map_nil]); first | done | rfl) ?_
            refine (ratio_Mul.calls _ [2, wrap64 ((wrap64 (a37 - 8)) + 1)] (some ⟨g480, 0, none⟩) 2 t430 _ ⟨Rd.lit (l := []) (xs := [2, wrap64 ((wrap64 (a37 - 8)) + 1)]) HS.out 3 rfl (by simp)⟩ ⟨HGl0.out.pass (l := []) HS.out⟩ ⟨Sep.start _⟩ HA431).mono ?_
            rintro e_ w489 ⟨rfl, hS⟩
            replace HS : Aside0 (Sep (fps []) w [b2 g40 a36 a37 a38 a39, b3 g43 0 0 0 0 0 0 0 0, b3 g200 t197 (wrap64 (a37 - 8)) (wrap64 ((wrap64 (a37 - 8)) + 1)) t366 t393 t377 0 0, b4 g480 2 (wrap64 ((wrap64 (a37 - 8)) + 1)), b4 g483 2 t418] w489) := ⟨HS.out.call hS⟩
            clear hS
            refine ⟨_, rfl, ?_⟩
            refine hK.out _ _ (⟨blk_cellv (HS.out.at2) 4 rfl, blk_cellv (HS.out.at0) 3 rfl, blk_cellv (HS.out.at2) 2 rfl⟩) (fun hHeld => ?_)
            clear hK K
            refine norm_ (a' := ?_) ?_ ?_
            rotate_left
            · show Act.put _ (some 63) _ = _
              simp only [Act.put, List.setIfInBounds_toArray, List.set_cons_zero, List.set_cons_succ, i64_w, i32_w]
              rfl
            refine one_ (i := 11) (N := some 64) #[true, true, true, true, true, true, true, true, true, true, true, true, false, false, false] rfl rfl (by kernel_rfl) (by decide) (fun K hK => ?_)
            refine slice_step (n := 2) (by rfl) (N := 64) rfl (cs := #[.int .i64 t424, .int .i64 t430]) (t := 3) ?hr ?_
            case hr => first | (go_simp; done) | (go_simp; rfl)
            intro g490 hg w491 hbox hb
            replace HS : Aside0 (Sep (fps []) w [b2 g40 a36 a37 a38 a39, b3 g43 0 0 0 0 0 0 0 0, b3 g200 t197 (wrap64 (a37 - 8)) (wrap64 ((wrap64 (a37 - 8)) + 1)) t366 t393 t377 0 0, b4 g480 2 (wrap64 ((wrap64 (a37 - 8)) + 1)), b4 g483 2 t418, b4 g490 t424 t430] w491) := ⟨HS.out.box hg hbox hb⟩
            clear hg hbox hb
            refine hK.out _ _ (⟨blk_cellv (HS.out.at2) 4 rfl, blk_cellv (HS.out.at0) 3 rfl, blk_cellv (HS.out.at2) 2 rfl⟩) (fun hHeld => ?_)
            clear hK K
            refine norm_ (a' := ?_) ?_ ?_
            rotate_left
            · show Act.put _ (some 64) _ = _
              simp only [Act.put, List.setIfInBounds_toArray, List.set_cons_zero, List.set_cons_succ, i64_w, i32_w]
              rfl
            refine one_ (i := 12) (N := some 65) #[true, true, true, true, true, true, true, true, true, true, true, true, true, false, false] rfl rfl (by kernel_rfl) (by decide) (fun K hK => ?_)
            refine goes_ Tryd.func122 (by kernel_rfl) rfl #[.slice (some ⟨g490, 0, none⟩) 2 2] (by rfl) rfl rfl (by (try simp only [List.map_toArray, List.map_cons, List.map_nil]); first | done | rfl) ?_
            refine (ratio_Add.calls _ [t424, t430] (some ⟨g490, 0, none⟩) 2 t436 _ ⟨Rd.lit (l := []) (xs := [t424, t430]) HS.out 5 rfl (by simp)⟩ ⟨HGl0.out.pass (l := []) HS.out⟩ ⟨Sep.start _⟩ HA437).mono ?_
            rintro e_ w494 ⟨rfl, hS⟩
            replace HS : Aside0 (Sep (fps []) w [b2 g40 a36 a37 a38 a39, b3 g43 0 0 0 0 0 0 0 0, b3 g200 t197 (wrap64 (a37 - 8)) (wrap64 ((wrap64 (a37 - 8)) + 1)) t366 t393 t377 0 0, b4 g480 2 (wrap64 ((wrap64 (a37 - 8)) + 1)), b4 g483 2 t418, b4 g490 t424 t430] w494) := ⟨HS.out.call hS⟩
            clear hS
            refine ⟨_, rfl, ?_⟩
            refine hK.out _ _ (⟨blk_cellv (HS.out.at2) 4 rfl, blk_cellv (HS.out.at0) 3 rfl, blk_cellv (HS.out.at2) 2 rfl⟩) (fun hHeld => ?_)
            clear hK K
            refine norm_ (a' := ?_) ?_ ?_
            rotate_left
            · show Act.put _ (some 65) _ = _
              simp only [Act.put, List.setIfInBounds_toArray, List.set_cons_zero, List.set_cons_succ, i64_w, i32_w]
              rfl
            refine pure_ (i := 13) (N := some 66) (v := ?_) (a' := ?_) #[true, true, true, true, true, true, true, true, true, true, true, true, true, true, false] rfl rfl (by kernel_rfl) (fun _ _ _ h => h) (Or.inl ⟨by rfl, ?_⟩) ?_ ?_
            rotate_left
            · intro w'
              go_simp
              with_reducible rfl
            rotate_left
            · simp only [Act.put, List.setIfInBounds_toArray, List.set_cons_zero, List.set_cons_succ, i64_w, i32_w]
              rfl
            refine one_ (i := 14) (N := none) #[true, true, true, true, true, true, true, true, true, true, true, true, true, true, true] rfl rfl (by kernel_rfl) (by decide) (fun K hK => ?_)
            have hc496 := blk_cellv (v := .int .i64 0) (HS.out.at2) 6 rfl
            have hz497 := blk_fz (HS.out.at2) 6
            refine store_step (w1 := (World.setCell w494 ⟨g200, 6, none⟩ (.int .i64 t436))) (by rfl) rfl ?hr ?_
            case hr => first | (go_simp; done) | (go_simp; rfl)
            clear hc496 hz497
            intro w495 hst
            have hq0 : Sep (fps []) w [b2 g40 a36 a37 a38 a39, b3 g43 0 0 0 0 0 0 0 0, b3 g200 t197 (wrap64 (a37 - 8)) (wrap64 ((wrap64 (a37 - 8)) + 1)) t366 t393 t377 t436 0, b4 g480 2 (wrap64 ((wrap64 (a37 - 8)) + 1)), b4 g483 2 t418, b4 g490 t424 t430] (World.setCell w494 ⟨g200, 6, none⟩ (.int .i64 t436)) := (HS.out).set1 (l1 := [b2 g40 a36 a37 a38 a39, b3 g43 0 0 0 0 0 0 0 0]) (l2 := [b4 g480 2 (wrap64 ((wrap64 (a37 - 8)) + 1)), b4 g483 2 t418, b4 g490 t424 t430]) 6 (.int .i64 t436)
            have HS_ : Aside0 (Sep (fps []) w [b2 g40 a36 a37 a38 a39, b3 g43 0 0 0 0 0 0 0 0, b3 g200 t197 (wrap64 (a37 - 8)) (wrap64 ((wrap64 (a37 - 8)) + 1)) t366 t393 t377 t436 0, b4 g480 2 (wrap64 ((wrap64 (a37 - 8)) + 1)), b4 g483 2 t418, b4 g490 t424 t430] w495) := ⟨by rw [hst]; exact hq0⟩
            clear hq0
            clear HS hst
            have HS := HS_
            clear HS_
            refine hK.out _ _ (⟨blk_cellv (HS.out.at2) 4 rfl, blk_cellv (HS.out.at0) 3 rfl, blk_cellv (HS.out.at2) 2 rfl⟩) (fun hHeld => ?_)
            clear hK K
            refine done_ (by kernel_rfl) ?_
            go_wp2_with fail
            go_meet
            case rel => exact ⟨g483, g480, g490, ⟨((((((HS.out).front 5 (by simp)).front 4 (by simp)).front 5 (by simp)).front 5 (by simp)).front 5 (by simp)).front 5 (by simp)⟩⟩
        · refine slice_step (n := 2) (by rfl) (N := 62) rfl (cs := #[.int .i64 2, .int .i64 (wrap64 ((wrap64 (a37 - 8)) + 1))]) (t := 3) ?hr ?_
          case hr => first | (go_simp; done) | (go_simp; rfl)
          intro g498 hg w499 hbox hb
          replace HS : Aside0 (Sep (fps []) w [b2 g40 a36 a37 a38 a39, b3 g43 0 0 0 0 0 0 0 0, b3 g200 t197 (wrap64 (a37 - 8)) (wrap64 ((wrap64 (a37 - 8)) + 1)) t366 t393 t377 0 0, b4 g498 2 (wrap64 ((wrap64 (a37 - 8)) + 1))] w499) := ⟨HS.out.box hg hbox hb⟩
          clear hg hbox hb
          refine hK.out _ _ (⟨blk_cellv (HS.out.at2) 4 rfl, blk_cellv (HS.out.at0) 3 rfl, blk_cellv (HS.out.at2) 2 rfl⟩) (fun hHeld => ?_)
          clear hK K
          refine norm_ (a' := ?_) ?_ ?_
          rotate_left
          · show Act.put _ (some 62) _ = _
            simp only [Act.put, List.setIfInBounds_toArray, List.set_cons_zero, List.set_cons_succ, i64_w, i32_w]
            rfl
          refine one_ (i := 4) (N := some 57) #[true, true, true, true, true, false, false, true, true, true, false, false, false, false, false] rfl rfl (by kernel_rfl) (by decide) (fun K hK => ?_)
          refine goes_ Tryd.func124 (by kernel_rfl) rfl #[.int .i64 t393, .int .i64 a39] (by rfl) rfl rfl (by (try simp only [List.map_toArray, List.map_cons, List.map_nil]); first | done | rfl) ?_
          refine (ratio_Up.calls t393 a39 t418 _ ⟨HGl0.out.pass (l := []) HS.out⟩ ⟨Sep.start _⟩ HA419).mono ?_
          rintro e_ w502 ⟨rfl, hS⟩
          replace HS : Aside0 (Sep (fps []) w [b2 g40 a36 a37 a38 a39, b3 g43 0 0 0 0 0 0 0 0, b3 g200 t197 (wrap64 (a37 - 8)) (wrap64 ((wrap64 (a37 - 8)) + 1)) t366 t393 t377 0 0, b4 g498 2 (wrap64 ((wrap64 (a37 - 8)) + 1))] w502) := ⟨HS.out.call hS⟩
          clear hS
          refine ⟨_, rfl, ?_⟩
          refine hK.out _ _ (⟨blk_cellv (HS.out.at2) 4 rfl, blk_cellv (HS.out.at0) 3 rfl, blk_cellv (HS.out.at2) 2 rfl⟩) (fun hHeld => ?_)
          clear hK K
          refine norm_ (a' := ?_) ?_ ?_
          rotate_left
          · show Act.put _ (some 57) _ = _
            simp only [Act.put, List.setIfInBounds_toArray, List.set_cons_zero, List.set_cons_succ, i64_w, i32_w]
            rfl
          refine one_ (i := 5) (N := some 58) #[true, true, true, true, true, true, false, true, true, true, false, false, false, false, false] rfl rfl (by kernel_rfl) (by decide) (fun K hK => ?_)
          refine slice_step (n := 2) (by rfl) (N := 58) rfl (cs := #[.int .i64 2, .int .i64 t418]) (t := 3) ?hr ?_
          case hr => first | (go_simp; done) | (go_simp; rfl)
          intro g503 hg w504 hbox hb
          replace HS : Aside0 (Sep (fps []) w [b2 g40 a36 a37 a38 a39, b3 g43 0 0 0 0 0 0 0 0, b3 g200 t197 (wrap64 (a37 - 8)) (wrap64 ((wrap64 (a37 - 8)) + 1)) t366 t393 t377 0 0, b4 g498 2 (wrap64 ((wrap64 (a37 - 8)) + 1)), b4 g503 2 t418] w504) := ⟨HS.out.box hg hbox hb⟩
          clear hg hbox hb
          refine hK.out _ _ (⟨blk_cellv (HS.out.at2) 4 rfl, blk_cellv (HS.out.at0) 3 rfl, blk_cellv (HS.out.at2) 2 rfl⟩) (fun hHeld => ?_)
          clear hK K
          refine norm_ (a' := ?_) ?_ ?_
          rotate_left
          · show Act.put _ (some 58) _ = _
            simp only [Act.put, List.setIfInBounds_toArray, List.set_cons_zero, List.set_cons_succ, i64_w, i32_w]
            rfl
          refine one_ (i := 6) (N := some 59) #[true, true, true, true, true, true, true, true, true, true, false, false, false, false, false] rfl rfl (by kernel_rfl) (by decide) (fun K hK => ?_)
          refine goes_ Tryd.func123 (by kernel_rfl) rfl #[.slice (some ⟨g503, 0, none⟩) 2 2] (by rfl) rfl rfl (by (try simp only [List.map_toArray, List.map_cons, List.map_nil]); first | done | rfl) ?_
          refine (ratio_Mul.calls _ [2, t418] (some ⟨g503, 0, none⟩) 2 t424 _ ⟨Rd.lit (l := []) (xs := [2, t418]) HS.out 4 rfl (by simp)⟩ ⟨HGl0.out.pass (l := []) HS.out⟩ ⟨Sep.start _⟩ HA425).mono ?_
          rintro e_ w507 ⟨rfl, hS⟩
          replace HS : Aside0 (Sep (fps []) w [b2 g40 a36 a37 a38 a39, b3 g43 0 0 0 0 0 0 0 0, b3 g200 t197 (wrap64 (a37 - 8)) (wrap64 ((wrap64 (a37 - 8)) + 1)) t366 t393 t377 0 0, b4 g498 2 (wrap64 ((wrap64 (a37 - 8)) + 1)), b4 g503 2 t418] w507) := ⟨HS.out.call hS⟩
          clear hS
          refine ⟨_, rfl, ?_⟩
          refine hK.out _ _ (⟨blk_cellv (HS.out.at2) 4 rfl, blk_cellv (HS.out.at0) 3 rfl, blk_cellv (HS.out.at2) 2 rfl⟩) (fun hHeld => ?_)
          clear hK K
          refine norm_ (a' := ?_) ?_ ?_
          rotate_left
          · show Act.put _ (some 59) _ = _
            simp only [Act.put, List.setIfInBounds_toArray, List.set_cons_zero, List.set_cons_succ, i64_w, i32_w]
            rfl
          refine one_ (i := 10) (N := some 63) #[true, true, true, true, true, true, true, true, true, true, true, false, false, false, false] rfl rfl (by kernel_rfl) (by decide) (fun K hK => ?_)
          refine goes_ Tryd.func123 (by kernel_rfl) rfl #[.slice (some ⟨g498, 0, none⟩) 2 2] (by rfl) rfl rfl (by (try simp only [List.map_toArray, List.map_cons, List.map_nil]); first | done | rfl) ?_
          refine (ratio_Mul.calls _ [2, wrap64 ((wrap64 (a37 - 8)) + 1)] (some ⟨g498, 0, none⟩) 2 t430 _ ⟨Rd.lit (l := []) (xs := [2, wrap64 ((wrap64 (a37 - 8)) + 1)]) HS.out 3 rfl (by simp)⟩ ⟨HGl0.out.pass (l := []) HS.out⟩ ⟨Sep.start _⟩ HA431).mono ?_
          rintro e_ w509 ⟨rfl, hS⟩
          replace HS : Aside0 (Sep (fps []) w [b2 g40 a36 a37 a38 a39, b3 g43 0 0 0 0 0 0 0 0, b3 g200 t197 (wrap64 (a37 - 8)) (wrap64 ((wrap64 (a37 - 8)) + 1)) t366 t393 t377 0 0, b4 g498 2 (wrap64 ((wrap64 (a37 - 8)) + 1)), b4 g503 2 t418] w509) := ⟨HS.out.call hS⟩
          clear hS
          refine ⟨_, rfl, ?_⟩
          refine hK.out _ _ (⟨blk_cellv (HS.out.at2) 4 rfl, blk_cellv (HS.out.at0) 3 rfl, blk_cellv (HS.out.at2) 2 rfl⟩) (fun hHeld => ?_)
          clear hK K
          refine norm_ (a' := ?_) ?_ ?_
          rotate_left
          · show Act.put _ (some 63) _ = _
            simp only [Act.put, List.setIfInBounds_toArray, List.set_cons_zero, List.set_cons_succ, i64_w, i32_w]
            rfl
          refine one_ (i := 11) (N := some 64) #[true, true, true, true, true, true, true, true, true, true, true, true, false, false, false] rfl rfl (by kernel_rfl) (by decide) (fun K hK => ?_)
          refine slice_step (n := 2) (by rfl) (N := 64) rfl (cs := #[.int .i64 t424, .int .i64 t430]) (t := 3) ?hr ?_
          case hr => first | (go_simp; done) | (go_simp; rfl)
          intro g510 hg w511 hbox hb
          replace HS : Aside0 (Sep (fps []) w [b2 g40 a36 a37 a38 a39, b3 g43 0 0 0 0 0 0 0 0, b3 g200 t197 (wrap64 (a37 - 8)) (wrap64 ((wrap64 (a37 - 8)) + 1)) t366 t393 t377 0 0, b4 g498 2 (wrap64 ((wrap64 (a37 - 8)) + 1)), b4 g503 2 t418, b4 g510 t424 t430] w511) := ⟨HS.out.box hg hbox hb⟩
          clear hg hbox hb
          refine hK.out _ _ (⟨blk_cellv (HS.out.at2) 4 rfl, blk_cellv (HS.out.at0) 3 rfl, blk_cellv (HS.out.at2) 2 rfl⟩) (fun hHeld => ?_)
          clear hK K
          refine norm_ (a' := ?_) ?_ ?_
          rotate_left
          · show Act.put _ (some 64) _ = _
            simp only [Act.put, List.setIfInBounds_toArray, List.set_cons_zero, List.set_cons_succ, i64_w, i32_w]
            rfl
          refine one_ (i := 12) (N := some 65) #[true, true, true, true, true, true, true, true, true, true, true, true, true, false, false] rfl rfl (by kernel_rfl) (by decide) (fun K hK => ?_)
          refine goes_ Tryd.func122 (by kernel_rfl) rfl #[.slice (some ⟨g510, 0, none⟩) 2 2] (by rfl) rfl rfl (by (try simp only [List.map_toArray, List.map_cons, List.map_nil]); first | done | rfl) ?_
          refine (ratio_Add.calls _ [t424, t430] (some ⟨g510, 0, none⟩) 2 t436 _ ⟨Rd.lit (l := []) (xs := [t424, t430]) HS.out 5 rfl (by simp)⟩ ⟨HGl0.out.pass (l := []) HS.out⟩ ⟨Sep.start _⟩ HA437).mono ?_
          rintro e_ w514 ⟨rfl, hS⟩
          replace HS : Aside0 (Sep (fps []) w [b2 g40 a36 a37 a38 a39, b3 g43 0 0 0 0 0 0 0 0, b3 g200 t197 (wrap64 (a37 - 8)) (wrap64 ((wrap64 (a37 - 8)) + 1)) t366 t393 t377 0 0, b4 g498 2 (wrap64 ((wrap64 (a37 - 8)) + 1)), b4 g503 2 t418, b4 g510 t424 t430] w514) := ⟨HS.out.call hS⟩
          clear hS
          refine ⟨_, rfl, ?_⟩
          refine hK.out _ _ (⟨blk_cellv (HS.out.at2) 4 rfl, blk_cellv (HS.out.at0) 3 rfl, blk_cellv (HS.out.at2) 2 rfl⟩) (fun hHeld => ?_)
          clear hK K
          refine norm_ (a' := ?_) ?_ ?_
          rotate_left
          · show Act.put _ (some 65) _ = _
            simp only [Act.put, List.setIfInBounds_toArray, List.set_cons_zero, List.set_cons_succ, i64_w, i32_w]
            rfl
          refine pure_ (i := 13) (N := some 66) (v := ?_) (a' := ?_) #[true, true, true, true, true, true, true, true, true, true, true, true, true, true, false] rfl rfl (by kernel_rfl) (fun _ _ _ h => h) (Or.inl ⟨by rfl, ?_⟩) ?_ ?_
          rotate_left
          · intro w'
            go_simp
            with_reducible rfl
          rotate_left
          · simp only [Act.put, List.setIfInBounds_toArray, List.set_cons_zero, List.set_cons_succ, i64_w, i32_w]
            rfl
          refine one_ (i := 14) (N := none) #[true, true, true, true, true, true, true, true, true, true, true, true, true, true, true] rfl rfl (by kernel_rfl) (by decide) (fun K hK => ?_)
          have hc516 := blk_cellv (v := .int .i64 0) (HS.out.at2) 6 rfl
          have hz517 := blk_fz (HS.out.at2) 6
          refine store_step (w1 := (World.setCell w514 ⟨g200, 6, none⟩ (.int .i64 t436))) (by rfl) rfl ?hr ?_
          case hr => first | (go_simp; done) | (go_simp; rfl)
          clear hc516 hz517
          intro w515 hst
          have hq0 : Sep (fps []) w [b2 g40 a36 a37 a38 a39, b3 g43 0 0 0 0 0 0 0 0, b3 g200 t197 (wrap64 (a37 - 8)) (wrap64 ((wrap64 (a37 - 8)) + 1)) t366 t393 t377 t436 0, b4 g498 2 (wrap64 ((wrap64 (a37 - 8)) + 1)), b4 g503 2 t418, b4 g510 t424 t430] (World.setCell w514 ⟨g200, 6, none⟩ (.int .i64 t436)) := (HS.out).set1 (l1 := [b2 g40 a36 a37 a38 a39, b3 g43 0 0 0 0 0 0 0 0]) (l2 := [b4 g498 2 (wrap64 ((wrap64 (a37 - 8)) + 1)), b4 g503 2 t418, b4 g510 t424 t430]) 6 (.int .i64 t436)
          have HS_ : Aside0 (Sep (fps []) w [b2 g40 a36 a37 a38 a39, b3 g43 0 0 0 0 0 0 0 0, b3 g200 t197 (wrap64 (a37 - 8)) (wrap64 ((wrap64 (a37 - 8)) + 1)) t366 t393 t377 t436 0, b4 g498 2 (wrap64 ((wrap64 (a37 - 8)) + 1)), b4 g503 2 t418, b4 g510 t424 t430] w515) := ⟨by rw [hst]; exact hq0⟩
          clear hq0
          clear HS hst
          have HS := HS_
          clear HS_
          refine hK.out _ _ (⟨blk_cellv (HS.out.at2) 4 rfl, blk_cellv (HS.out.at0) 3 rfl, blk_cellv (HS.out.at2) 2 rfl⟩) (fun hHeld => ?_)
          clear hK K
          refine done_ (by kernel_rfl) ?_
          go_wp2_with fail
          go_meet
          case rel => exact ⟨g503, g498, g510, ⟨((((((HS.out).front 5 (by simp)).front 4 (by simp)).front 5 (by simp)).front 5 (by simp)).front 5 (by simp)).front 5 (by simp)⟩⟩
      case rest =>
        clear HS
        obtain ⟨g421, g427, g433, HS⟩ := hcut
        obtain ⟨w442, rfl⟩ : ∃ x : World, x = wc := ⟨_, rfl⟩
        replace HS : Aside0 (Sep (fps []) w [b2 g40 a36 a37 a38 a39, b3 g43 0 0 0 0 0 0 0 0, b3 g200 t197 (wrap64 (a37 - 8)) (wrap64 ((wrap64 (a37 - 8)) + 1)) t366 t393 t377 t436 0] w442) := ⟨HS.out.sub (.cons_cons _ (.cons_cons _ (.cons_cons _ (.cons _ (.cons _ (.cons _ .slnil))))))⟩
        go_wp2_with fail
        refine start_ (n := 15) (S := (fun w' => w'.cell? ⟨g200, 4, none⟩ = some (.int .i64 t393) ∧ w'.cell? ⟨g200, 5, none⟩ = some (.int .i64 t377) ∧ w'.cell? ⟨g40, 3, none⟩ = some (.int .i64 a39))) (ds := []) #[false, false, false, false, false, false, false, false, false, false, false, false, false, false, false] (by kernel_rfl) rfl rfl (⟨blk_cellv ((HS.out.drew).at2) 4 rfl, blk_cellv ((HS.out.drew).at2) 5 rfl, blk_cellv ((HS.out.drew).at0) 3 rfl⟩) (fun hHeld => ?_)
        have HS_ := Aside0.mk HS.out.drew
        clear HS
        generalize World.drew _ = w519 at HS_ hHeld ⊢
        have HS := HS_
        clear HS_
        refine pure_ (i := 0) (N := some 67) (v := ?_) (a' := ?_) #[true, false, false, false, false, false, false, false, false, false, false, false, false, false, false] rfl rfl (by kernel_rfl) (fun _ _ _ h => h) (Or.inl ⟨by rfl, ?_⟩) ?_ ?_
        rotate_left
        · intro w'
          go_simp
          with_reducible rfl
        rotate_left
        · simp only [Act.put, List.setIfInBounds_toArray, List.set_cons_zero, List.set_cons_succ, i64_w, i32_w]
          rfl
        refine pure_ (i := 2) (N := some 69) (v := ?_) (a' := ?_) #[true, false, true, false, false, false, false, false, false, false, false, false, false, false, false] rfl rfl (by kernel_rfl) (fun _ _ _ h => h) (Or.inl ⟨by rfl, ?_⟩) ?_ ?_
        rotate_left
        · intro w'
          go_simp
          with_reducible rfl
        rotate_left
        · simp only [Act.put, List.setIfInBounds_toArray, List.set_cons_zero, List.set_cons_succ, i64_w, i32_w]
          rfl
        refine pure_ (i := 4) (N := some 71) (v := ?_) (a' := ?_) #[true, false, true, false, true, false, false, false, false, false, false, false, false, false, false] rfl rfl (by kernel_rfl) (fun _ _ _ h => h) (Or.inl ⟨by rfl, ?_⟩) ?_ ?_
        rotate_left
        · intro w'
          go_simp
          with_reducible rfl
        rotate_left
        · simp only [Act.put, List.setIfInBounds_toArray, List.set_cons_zero, List.set_cons_succ, i64_w, i32_w]
          rfl
        refine pure_ (i := 8) (N := some 75) (v := ?_) (a' := ?_) #[true, false, true, false, true, false, false, false, true, false, false, false, false, false, false] rfl rfl (by kernel_rfl) (fun _ _ _ h => h) (Or.inl ⟨by rfl, ?_⟩) ?_ ?_
        rotate_left
        · intro w'
          go_simp
          with_reducible rfl
        rotate_left
        · simp only [Act.put, List.setIfInBounds_toArray, List.set_cons_zero, List.set_cons_succ, i64_w, i32_w]
          rfl
        refine take_ (i := 1) (N := some 68) (v := ?_) (a' := ?_) #[true, true, true, false, true, false, false, false, true, false, false, false, false, false, false] rfl rfl (by kernel_rfl) (fun _ _ _ h => h) (Or.inl ⟨by rfl, ?_⟩) hHeld ?_ ?_
        rotate_left
        · rintro w' hS'
          obtain ⟨s0, s1, s2⟩ := hS'
          go_simp
          with_reducible rfl
        rotate_left
        · simp only [Act.put, List.setIfInBounds_toArray, List.set_cons_zero, List.set_cons_succ, i64_w, i32_w]
          rfl
        refine take_ (i := 3) (N := some 70) (v := ?_) (a' := ?_) #[true, true, true, true, true, false, false, false, true, false, false, false, false, false, false] rfl rfl (by kernel_rfl) (fun _ _ _ h => h) (Or.inl ⟨by rfl, ?_⟩) hHeld ?_ ?_
        rotate_left
        · rintro w' hS'
          obtain ⟨s0, s1, s2⟩ := hS'
          go_simp
          with_reducible rfl
        rotate_left
        · simp only [Act.put, List.setIfInBounds_toArray, List.set_cons_zero, List.set_cons_succ, i64_w, i32_w]
          rfl
        refine take_ (i := 5) (N := some 72) (v := ?_) (a' := ?_) #[true, true, true, true, true, true, false, false, true, false, false, false, false, false, false] rfl rfl (by kernel_rfl) (fun _ _ _ h => h) (Or.inl ⟨by rfl, ?_⟩) hHeld ?_ ?_
        rotate_left
        · rintro w' hS'
          obtain ⟨s0, s1, s2⟩ := hS'
          go_simp
          with_reducible rfl
        rotate_left
        · simp only [Act.put, List.setIfInBounds_toArray, List.set_cons_zero, List.set_cons_succ, i64_w, i32_w]
          rfl
        refine take_ (i := 9) (N := some 76) (v := ?_) (a' := ?_) #[true, true, true, true, true, true, false, false, true, true, false, false, false, false, false] rfl rfl (by kernel_rfl) (fun _ _ _ h => h) (Or.inl ⟨by rfl, ?_⟩) hHeld ?_ ?_
        rotate_left
        · rintro w' hS'
          obtain ⟨s0, s1, s2⟩ := hS'
          go_simp
          with_reducible rfl
        rotate_left
        · simp only [Act.put, List.setIfInBounds_toArray, List.set_cons_zero, List.set_cons_succ, i64_w, i32_w]
          rfl
        refine one_ (i := 6) (N := some 73) #[true, true, true, true, true, true, true, false, true, true, false, false, false, false, false] rfl rfl (by kernel_rfl) (by decide) (fun K hK => ?_)
        refine slice_step (n := 3) (by rfl) (N := 73) rfl (cs := #[.int .i64 t393, .int .i64 t393, .int .i64 t377]) (t := 3) ?hr ?_
        case hr => first | (go_simp; done) | (go_simp; rfl)
        intro g520 hg w521 hbox hb
        replace HS : Aside0 (Sep (fps []) w [b2 g40 a36 a37 a38 a39, b3 g43 0 0 0 0 0 0 0 0, b3 g200 t197 (wrap64 (a37 - 8)) (wrap64 ((wrap64 (a37 - 8)) + 1)) t366 t393 t377 t436 0, b5 g520 t393 t393 t377] w521) := ⟨HS.out.box hg hbox hb⟩
        clear hg hbox hb
        refine hK.out _ _ (⟨blk_cellv (HS.out.at2) 4 rfl, blk_cellv (HS.out.at2) 5 rfl, blk_cellv (HS.out.at0) 3 rfl⟩) (fun hHeld => ?_)
        clear hK K
        refine norm_ (a' := ?_) ?_ ?_
        rotate_left
        · show Act.put _ (some 73) _ = _
          simp only [Act.put, List.setIfInBounds_toArray, List.set_cons_zero, List.set_cons_succ, i64_w, i32_w]
          rfl
        refine one_ (i := 7) (N := some 74) #[true, true, true, true, true, true, true, true, true, true, false, false, false, false, false] rfl rfl (by kernel_rfl) (by decide) (fun K hK => ?_)
        obtain ⟨t523, HA524, H⟩ := bind_some H
        refine goes_ Tryd.func122 (by kernel_rfl) rfl #[.slice (some ⟨g520, 0, none⟩) 3 3] (by rfl) rfl rfl (by (try simp only [List.map_toArray, List.map_cons, List.map_nil]); first | done | rfl) ?_
        refine (ratio_Add.calls _ [t393, t393, t377] (some ⟨g520, 0, none⟩) 3 t523 _ ⟨Rd.lit (l := []) (xs := [t393, t393, t377]) HS.out 3 rfl (by simp)⟩ ⟨HGl0.out.pass (l := []) HS.out⟩ ⟨Sep.start _⟩ HA524).mono ?_
        rintro e_ w525 ⟨rfl, hS⟩
        replace HS : Aside0 (Sep (fps []) w [b2 g40 a36 a37 a38 a39, b3 g43 0 0 0 0 0 0 0 0, b3 g200 t197 (wrap64 (a37 - 8)) (wrap64 ((wrap64 (a37 - 8)) + 1)) t366 t393 t377 t436 0, b5 g520 t393 t393 t377] w525) := ⟨HS.out.call hS⟩
        clear hS
        refine ⟨_, rfl, ?_⟩
        refine hK.out _ _ (⟨blk_cellv (HS.out.at2) 4 rfl, blk_cellv (HS.out.at2) 5 rfl, blk_cellv (HS.out.at0) 3 rfl⟩) (fun hHeld => ?_)
        clear hK K
        refine norm_ (a' := ?_) ?_ ?_
        rotate_left
        · show Act.put _ (some 74) _ = _
          simp only [Act.put, List.setIfInBounds_toArray, List.set_cons_zero, List.set_cons_succ, i64_w, i32_w]
          rfl
        refine one_ (i := 10) (N := some 77) #[true, true, true, true, true, true, true, true, true, true, true, false, false, false, false] rfl rfl (by kernel_rfl) (by decide) (fun K hK => ?_)
        obtain ⟨t526, HA527, H⟩ := bind_some H
        refine goes_ Tryd.func124 (by kernel_rfl) rfl #[.int .i64 t523, .int .i64 a39] (by rfl) rfl rfl (by (try simp only [List.map_toArray, List.map_cons, List.map_nil]); first | done | rfl) ?_
        refine (ratio_Up.calls t523 a39 t526 _ ⟨HGl0.out.pass (l := []) HS.out⟩ ⟨Sep.start _⟩ HA527).mono ?_
        rintro e_ w528 ⟨rfl, hS⟩
        replace HS : Aside0 (Sep (fps []) w [b2 g40 a36 a37 a38 a39, b3 g43 0 0 0 0 0 0 0 0, b3 g200 t197 (wrap64 (a37 - 8)) (wrap64 ((wrap64 (a37 - 8)) + 1)) t366 t393 t377 t436 0, b5 g520 t393 t393 t377] w528) := ⟨HS.out.call hS⟩
        clear hS
        refine ⟨_, rfl, ?_⟩
        refine hK.out _ _ (⟨blk_cellv (HS.out.at2) 4 rfl, blk_cellv (HS.out.at2) 5 rfl, blk_cellv (HS.out.at0) 3 rfl⟩) (fun hHeld => ?_)
        clear hK K
        refine norm_ (a' := ?_) ?_ ?_
        rotate_left
        · show Act.put _ (some 77) _ = _
          simp only [Act.put, List.setIfInBounds_toArray, List.set_cons_zero, List.set_cons_succ, i64_w, i32_w]
          rfl
        refine one_ (i := 11) (N := some 78) #[true, true, true, true, true, true, true, true, true, true, true, true, false, false, false] rfl rfl (by kernel_rfl) (by decide) (fun K hK => ?_)
        refine slice_step (n := 2) (by rfl) (N := 78) rfl (cs := #[.int .i64 t526, .int .i64 2]) (t := 3) ?hr ?_
        case hr => first | (go_simp; done) | (go_simp; rfl)
        intro g529 hg w530 hbox hb
        replace HS : Aside0 (Sep (fps []) w [b2 g40 a36 a37 a38 a39, b3 g43 0 0 0 0 0 0 0 0, b3 g200 t197 (wrap64 (a37 - 8)) (wrap64 ((wrap64 (a37 - 8)) + 1)) t366 t393 t377 t436 0, b5 g520 t393 t393 t377, b4 g529 t526 2] w530) := ⟨HS.out.box hg hbox hb⟩
        clear hg hbox hb
        refine hK.out _ _ (⟨blk_cellv (HS.out.at2) 4 rfl, blk_cellv (HS.out.at2) 5 rfl, blk_cellv (HS.out.at0) 3 rfl⟩) (fun hHeld => ?_)
        clear hK K
        refine norm_ (a' := ?_) ?_ ?_
        rotate_left
        · show Act.put _ (some 78) _ = _
          simp only [Act.put, List.setIfInBounds_toArray, List.set_cons_zero, List.set_cons_succ, i64_w, i32_w]
          rfl
        refine one_ (i := 12) (N := some 79) #[true, true, true, true, true, true, true, true, true, true, true, true, true, false, false] rfl rfl (by kernel_rfl) (by decide) (fun K hK => ?_)
        obtain ⟨t532, HA533, H⟩ := bind_some H
        refine goes_ Tryd.func122 (by kernel_rfl) rfl #[.slice (some ⟨g529, 0, none⟩) 2 2] (by rfl) rfl rfl (by (try simp only [List.map_toArray, List.map_cons, List.map_nil]); first | done | rfl) ?_
        refine (ratio_Add.calls _ [t526, 2] (some ⟨g529, 0, none⟩) 2 t532 _ ⟨Rd.lit (l := []) (xs := [t526, 2]) HS.out 4 rfl (by simp)⟩ ⟨HGl0.out.pass (l := []) HS.out⟩ ⟨Sep.start _⟩ HA533).mono ?_
        rintro e_ w534 ⟨rfl, hS⟩
        replace HS : Aside0 (Sep (fps []) w [b2 g40 a36 a37 a38 a39, b3 g43 0 0 0 0 0 0 0 0, b3 g200 t197 (wrap64 (a37 - 8)) (wrap64 ((wrap64 (a37 - 8)) + 1)) t366 t393 t377 t436 0, b5 g520 t393 t393 t377, b4 g529 t526 2] w534) := ⟨HS.out.call hS⟩
        clear hS
        refine ⟨_, rfl, ?_⟩
        refine hK.out _ _ (⟨blk_cellv (HS.out.at2) 4 rfl, blk_cellv (HS.out.at2) 5 rfl, blk_cellv (HS.out.at0) 3 rfl⟩) (fun hHeld => ?_)
        clear hK K
        refine norm_ (a' := ?_) ?_ ?_
        rotate_left
        · show Act.put _ (some 79) _ = _
          simp only [Act.put, List.setIfInBounds_toArray, List.set_cons_zero, List.set_cons_succ, i64_w, i32_w]
          rfl
        refine pure_ (i := 13) (N := some 80) (v := ?_) (a' := ?_) #[true, true, true, true, true, true, true, true, true, true, true, true, true, true, false] rfl rfl (by kernel_rfl) (fun _ _ _ h => h) (Or.inl ⟨by rfl, ?_⟩) ?_ ?_
        rotate_left
        · intro w'
          go_simp
          with_reducible rfl
        rotate_left
        · simp only [Act.put, List.setIfInBounds_toArray, List.set_cons_zero, List.set_cons_succ, i64_w, i32_w]
          rfl
        refine one_ (i := 14) (N := none) #[true, true, true, true, true, true, true, true, true, true, true, true, true, true, true] rfl rfl (by kernel_rfl) (by decide) (fun K hK => ?_)
        have hc536 := blk_cellv (v := .int .i64 0) (HS.out.at2) 7 rfl
        have hz537 := blk_fz (HS.out.at2) 7
        refine store_step (w1 := (World.setCell w534 ⟨g200, 7, none⟩ (.int .i64 t532))) (by rfl) rfl ?hr ?_
        case hr => first | (go_simp; done) | (go_simp; rfl)
        clear hc536 hz537
        intro w535 hst
        have hq0 : Sep (fps []) w [b2 g40 a36 a37 a38 a39, b3 g43 0 0 0 0 0 0 0 0, b3 g200 t197 (wrap64 (a37 - 8)) (wrap64 ((wrap64 (a37 - 8)) + 1)) t366 t393 t377 t436 t532, b5 g520 t393 t393 t377, b4 g529 t526 2] (World.setCell w534 ⟨g200, 7, none⟩ (.int .i64 t532)) := (HS.out).set1 (l1 := [b2 g40 a36 a37 a38 a39, b3 g43 0 0 0 0 0 0 0 0]) (l2 := [b5 g520 t393 t393 t377, b4 g529 t526 2]) 7 (.int .i64 t532)
        have HS_ : Aside0 (Sep (fps []) w [b2 g40 a36 a37 a38 a39, b3 g43 0 0 0 0 0 0 0 0, b3 g200 t197 (wrap64 (a37 - 8)) (wrap64 ((wrap64 (a37 - 8)) + 1)) t366 t393 t377 t436 t532, b5 g520 t393 t393 t377, b4 g529 t526 2] w535) := ⟨by rw [hst]; exact hq0⟩
        clear hq0
        clear HS hst
        have HS := HS_
        clear HS_
        refine hK.out _ _ (⟨blk_cellv (HS.out.at2) 4 rfl, blk_cellv (HS.out.at2) 5 rfl, blk_cellv (HS.out.at0) 3 rfl⟩) (fun hHeld => ?_)
        clear hK K
        refine done_ (by kernel_rfl) ?_
        replace HS : Aside0 (Sep (fps []) w [b3 g43 0 0 0 0 0 0 0 0, b3 g200 t197 (wrap64 (a37 - 8)) (wrap64 ((wrap64 (a37 - 8)) + 1)) t366 t393 t377 t436 t532] w535) := ⟨HS.out.sub (.cons _ (.cons_cons _ (.cons_cons _ (.cons _ (.cons _ .slnil)))))⟩
        have hc538 : w535.cell? ⟨g200, 0, none⟩ = some (.int .i64 t197) := blk_cellv (HS.out.at1) 0 rfl
        have hc539 : w535.cell? ⟨g200, 1, none⟩ = some (.int .i64 (wrap64 (a37 - 8))) := blk_cellv (HS.out.at1) 1 rfl
        have hc540 : w535.cell? ⟨g200, 2, none⟩ = some (.int .i64 (wrap64 ((wrap64 (a37 - 8)) + 1))) := blk_cellv (HS.out.at1) 2 rfl
        have hc541 : w535.cell? ⟨g200, 3, none⟩ = some (.int .i64 t366) := blk_cellv (HS.out.at1) 3 rfl
        have hc542 : w535.cell? ⟨g200, 4, none⟩ = some (.int .i64 t393) := blk_cellv (HS.out.at1) 4 rfl
        have hc543 : w535.cell? ⟨g200, 5, none⟩ = some (.int .i64 t377) := blk_cellv (HS.out.at1) 5 rfl
        have hc544 : w535.cell? ⟨g200, 6, none⟩ = some (.int .i64 t436) := blk_cellv (HS.out.at1) 6 rfl
        have hc545 : w535.cell? ⟨g200, 7, none⟩ = some (.int .i64 t532) := blk_cellv (HS.out.at1) 7 rfl
        have hc546 : w535.cell? ⟨g43, 0, none⟩ = some (.int .i64 0) := blk_cellv (HS.out.at0) 0 rfl
        have hz547 : w535.frozen? ⟨g43, 0, none⟩ = false := blk_fz (HS.out.at0) 0
        have hc548 : w535.cell? ⟨g43, 1, none⟩ = some (.int .i64 0) := blk_cellv (HS.out.at0) 1 rfl
        have hz549 : w535.frozen? ⟨g43, 1, none⟩ = false := blk_fz (HS.out.at0) 1
        have hc550 : w535.cell? ⟨g43, 2, none⟩ = some (.int .i64 0) := blk_cellv (HS.out.at0) 2 rfl
        have hz551 : w535.frozen? ⟨g43, 2, none⟩ = false := blk_fz (HS.out.at0) 2
        have hc552 : w535.cell? ⟨g43, 3, none⟩ = some (.int .i64 0) := blk_cellv (HS.out.at0) 3 rfl
        have hz553 : w535.frozen? ⟨g43, 3, none⟩ = false := blk_fz (HS.out.at0) 3
        have hc554 : w535.cell? ⟨g43, 4, none⟩ = some (.int .i64 0) := blk_cellv (HS.out.at0) 4 rfl
        have hz555 : w535.frozen? ⟨g43, 4, none⟩ = false := blk_fz (HS.out.at0) 4
        have hc556 : w535.cell? ⟨g43, 5, none⟩ = some (.int .i64 0) := blk_cellv (HS.out.at0) 5 rfl
        have hz557 : w535.frozen? ⟨g43, 5, none⟩ = false := blk_fz (HS.out.at0) 5
        have hc558 : w535.cell? ⟨g43, 6, none⟩ = some (.int .i64 0) := blk_cellv (HS.out.at0) 6 rfl
        have hz559 : w535.frozen? ⟨g43, 6, none⟩ = false := blk_fz (HS.out.at0) 6
        have hc560 : w535.cell? ⟨g43, 7, none⟩ = some (.int .i64 0) := blk_cellv (HS.out.at0) 7 rfl
        have hz561 : w535.frozen? ⟨g43, 7, none⟩ = false := blk_fz (HS.out.at0) 7
        go_wp2_with (first | ((with_reducible refine gate_store (t := 97) (p := 2) rfl ?_); refine store_event (w1 := (World.setCell (World.setCell (World.setCell (World.setCell (World.setCell (World.setCell (World.setCell (World.setCell w535 ⟨g43, 0, none⟩ (.int .i64 t197)) ⟨g43, 1, none⟩ (.int .i64 (wrap64 (a37 - 8)))) ⟨g43, 2, none⟩ (.int .i64 (wrap64 ((wrap64 (a37 - 8)) + 1)))) ⟨g43, 3, none⟩ (.int .i64 t366)) ⟨g43, 4, none⟩ (.int .i64 t393)) ⟨g43, 5, none⟩ (.int .i64 t377)) ⟨g43, 6, none⟩ (.int .i64 t436)) ⟨g43, 7, none⟩ (.int .i64 t532))) rfl (t := 97) (p := 2) rfl rfl ?hr ?_; (case hr => first | (go_simp; done) | (go_simp; rfl)); intro w562 hst; clear hc538 hc539 hc540 hc541 hc542 hc543 hc544 hc545 hc546 hz547 hc548 hz549 hc550 hz551 hc552 hz553 hc554 hz555 hc556 hz557 hc558 hz559 hc560 hz561; replace HS : Aside0 (Sep (fps []) w [b3 g43 t197 (wrap64 (a37 - 8)) (wrap64 ((wrap64 (a37 - 8)) + 1)) t366 t393 t377 t436 t532, b3 g200 t197 (wrap64 (a37 - 8)) (wrap64 ((wrap64 (a37 - 8)) + 1)) t366 t393 t377 t436 t532] w562) := ⟨by rw [hst]; exact HS.out.setAll (l1 := []) (l2 := [b3 g200 t197 (wrap64 (a37 - 8)) (wrap64 ((wrap64 (a37 - 8)) + 1)) t366 t393 t377 t436 t532]) [.int .i64 t197, .int .i64 (wrap64 (a37 - 8)), .int .i64 (wrap64 ((wrap64 (a37 - 8)) + 1)), .int .i64 t366, .int .i64 t393, .int .i64 t377, .int .i64 t436, .int .i64 t532] rfl⟩; clear hst; replace HS : Aside0 (Sep (fps []) w [b3 g43 t197 (wrap64 (a37 - 8)) (wrap64 ((wrap64 (a37 - 8)) + 1)) t366 t393 t377 t436 t532] w562) := ⟨HS.out.sub (.cons_cons _ (.cons _ .slnil))⟩))
        have hc563 : w562.cell? ⟨g43, 0, none⟩ = some (.int .i64 t197) := blk_cellv (HS.out.at0) 0 rfl
        have hc564 : w562.cell? ⟨g43, 1, none⟩ = some (.int .i64 (wrap64 (a37 - 8))) := blk_cellv (HS.out.at0) 1 rfl
        have hc565 : w562.cell? ⟨g43, 2, none⟩ = some (.int .i64 (wrap64 ((wrap64 (a37 - 8)) + 1))) := blk_cellv (HS.out.at0) 2 rfl
        have hc566 : w562.cell? ⟨g43, 3, none⟩ = some (.int .i64 t366) := blk_cellv (HS.out.at0) 3 rfl
        have hc567 : w562.cell? ⟨g43, 4, none⟩ = some (.int .i64 t393) := blk_cellv (HS.out.at0) 4 rfl
        have hc568 : w562.cell? ⟨g43, 5, none⟩ = some (.int .i64 t377) := blk_cellv (HS.out.at0) 5 rfl
        have hc569 : w562.cell? ⟨g43, 6, none⟩ = some (.int .i64 t436) := blk_cellv (HS.out.at0) 6 rfl
        have hc570 : w562.cell? ⟨g43, 7, none⟩ = some (.int .i64 t532) := blk_cellv (HS.out.at0) 7 rfl
        refine bodyPost_ret (v := .tuple #[.agg #[.int .i64 t197, .int .i64 (wrap64 (a37 - 8)), .int .i64 (wrap64 ((wrap64 (a37 - 8)) + 1)), .int .i64 t366, .int .i64 t393, .int .i64 t377, .int .i64 t436, .int .i64 t532], .int .i64 0]) (by simp [results, Tryd.results65, go_sem, hc563, hc564, hc565, hc566, hc567, hc568, hc569, hc570]) rfl ?_
        rw [← some_eq H]
        exact ⟨(by first | rfl | (simp [IntKind.wrap_u32]; done)), HS.out.sub (.cons _ .slnil)⟩
  · replace H := if_no c94 H
    have c94b0 : (t91 == 0) = false := beq_eq_false_iff_ne.mpr c94
    have c94b1 : (t91 != 0) = true := bne_iff_ne.mpr c94
    clear c94
    have hc571 : w93.cell? ⟨g43, 0, none⟩ = some (.int .i64 0) := blk_cellv (HS.out.at1) 0 rfl
    have hz572 : w93.frozen? ⟨g43, 0, none⟩ = false := blk_fz (HS.out.at1) 0
    have hc573 : w93.cell? ⟨g43, 1, none⟩ = some (.int .i64 0) := blk_cellv (HS.out.at1) 1 rfl
    have hz574 : w93.frozen? ⟨g43, 1, none⟩ = false := blk_fz (HS.out.at1) 1
    have hc575 : w93.cell? ⟨g43, 2, none⟩ = some (.int .i64 0) := blk_cellv (HS.out.at1) 2 rfl
    have hz576 : w93.frozen? ⟨g43, 2, none⟩ = false := blk_fz (HS.out.at1) 2
    have hc577 : w93.cell? ⟨g43, 3, none⟩ = some (.int .i64 0) := blk_cellv (HS.out.at1) 3 rfl
    have hz578 : w93.frozen? ⟨g43, 3, none⟩ = false := blk_fz (HS.out.at1) 3
    have hc579 : w93.cell? ⟨g43, 4, none⟩ = some (.int .i64 0) := blk_cellv (HS.out.at1) 4 rfl
    have hz580 : w93.frozen? ⟨g43, 4, none⟩ = false := blk_fz (HS.out.at1) 4
    have hc581 : w93.cell? ⟨g43, 5, none⟩ = some (.int .i64 0) := blk_cellv (HS.out.at1) 5 rfl
    have hz582 : w93.frozen? ⟨g43, 5, none⟩ = false := blk_fz (HS.out.at1) 5
    have hc583 : w93.cell? ⟨g43, 6, none⟩ = some (.int .i64 0) := blk_cellv (HS.out.at1) 6 rfl
    have hz584 : w93.frozen? ⟨g43, 6, none⟩ = false := blk_fz (HS.out.at1) 6
    have hc585 : w93.cell? ⟨g43, 7, none⟩ = some (.int .i64 0) := blk_cellv (HS.out.at1) 7 rfl
    have hz586 : w93.frozen? ⟨g43, 7, none⟩ = false := blk_fz (HS.out.at1) 7
    go_wp2_with (first | ((with_reducible refine gate_store (t := 97) (p := 2) rfl ?_); refine store_event (w1 := (World.setCell (World.setCell (World.setCell (World.setCell (World.setCell (World.setCell (World.setCell (World.setCell w93 ⟨g43, 0, none⟩ (.int .i64 0)) ⟨g43, 1, none⟩ (.int .i64 0)) ⟨g43, 2, none⟩ (.int .i64 0)) ⟨g43, 3, none⟩ (.int .i64 0)) ⟨g43, 4, none⟩ (.int .i64 0)) ⟨g43, 5, none⟩ (.int .i64 0)) ⟨g43, 6, none⟩ (.int .i64 0)) ⟨g43, 7, none⟩ (.int .i64 0))) rfl (t := 97) (p := 2) rfl rfl ?hr ?_; (case hr => first | (go_simp; done) | (go_simp; rfl)); intro w587 hst; clear hc571 hz572 hc573 hz574 hc575 hz576 hc577 hz578 hc579 hz580 hc581 hz582 hc583 hz584 hc585 hz586; replace HS : Aside0 (Sep (fps []) w [b2 g40 a36 a37 a38 a39, b3 g43 0 0 0 0 0 0 0 0] w587) := ⟨by rw [hst]; exact HS.out.setAll (l1 := [b2 g40 a36 a37 a38 a39]) (l2 := []) [.int .i64 0, .int .i64 0, .int .i64 0, .int .i64 0, .int .i64 0, .int .i64 0, .int .i64 0, .int .i64 0] rfl⟩; clear hst; replace HS : Aside0 (Sep (fps []) w [b3 g43 0 0 0 0 0 0 0 0] w587) := ⟨HS.out.sub (.cons _ (.cons_cons _ .slnil))⟩))
    have hc588 : w587.cell? ⟨g43, 0, none⟩ = some (.int .i64 0) := blk_cellv (HS.out.at0) 0 rfl
    have hc589 : w587.cell? ⟨g43, 1, none⟩ = some (.int .i64 0) := blk_cellv (HS.out.at0) 1 rfl
    have hc590 : w587.cell? ⟨g43, 2, none⟩ = some (.int .i64 0) := blk_cellv (HS.out.at0) 2 rfl
    have hc591 : w587.cell? ⟨g43, 3, none⟩ = some (.int .i64 0) := blk_cellv (HS.out.at0) 3 rfl
    have hc592 : w587.cell? ⟨g43, 4, none⟩ = some (.int .i64 0) := blk_cellv (HS.out.at0) 4 rfl
    have hc593 : w587.cell? ⟨g43, 5, none⟩ = some (.int .i64 0) := blk_cellv (HS.out.at0) 5 rfl
    have hc594 : w587.cell? ⟨g43, 6, none⟩ = some (.int .i64 0) := blk_cellv (HS.out.at0) 6 rfl
    have hc595 : w587.cell? ⟨g43, 7, none⟩ = some (.int .i64 0) := blk_cellv (HS.out.at0) 7 rfl
    refine bodyPost_ret (v := .tuple #[.agg #[.int .i64 0, .int .i64 0, .int .i64 0, .int .i64 0, .int .i64 0, .int .i64 0, .int .i64 0, .int .i64 0], .int .i64 t91]) (by simp [results, Tryd.results65, go_sem, hc588, hc589, hc590, hc591, hc592, hc593, hc594, hc595]) rfl ?_
    rw [← some_eq H]
    exact ⟨(by first | rfl | (simp [IntKind.wrap_u32]; done)), HS.out.sub (.cons _ .slnil)⟩

set_option maxHeartbeats 30000000 in
set_option maxRecDepth 100000 in
theorem store_New.calls (a621 : Int) (r : Unit ⊕ (List Int)) (w : World)  (HGl0 : Aside0 (Gl 0 #[.int .i64 0, .int .i64 0, .int .i64 0, .int .i64 0, .int .i64 0] (fps []) w)) (HS : Aside0 (Sep (fps []) w [] w)) (H : Aside0 (store_New.f a621 = some r)) :
    Calls Tryd.prog 66 #[.int .i64 a621] w fun e w' => Sum.elim (fun (r : Unit) => e = .returned (.tuple #[.pointer none, .int .i64 2]) ∧ Sep (fps []) w [] w') (fun (r : List Int) => ∃ (g657 : Nat), e = .returned (.tuple #[.pointer (some ⟨g657, 0, none⟩), .int .i64 0]) ∧ ∃ (A658 : Option Addr) (m659 : Nat) (n660 : Nat), Sep (fps []) w [b7 g657 A658 m659 n660 0, r6 A658 m659 n660 r] w') r := by
  unfold store_New.f at H
  go_enter Tryd.func66, Tryd.ntmps66
  by_cases c635 : a621 < 0
  · replace H := if_yes c635 H
    have c635b0 : decide (a621 < 0) = true := decide_eq_true c635
    clear c635
    go_wp2_with fail
    go_ret2
    rw [← some_eq H]
    exact ⟨(by first | rfl | (simp [IntKind.wrap_u32]; done)), HS.out⟩
  · replace H := if_no c635 H
    have c635b0 : decide (a621 < 0) = false := decide_eq_false c635
    clear c635
    by_cases c636 : a621 > 8388608
    · replace H := if_yes c636 H
      have c636b0 : decide (8388608 < a621) = true := decide_eq_true c636
      clear c636
      go_wp2_with fail
      go_ret2
      rw [← some_eq H]
      exact ⟨(by first | rfl | (simp [IntKind.wrap_u32]; done)), HS.out⟩
    · replace H := if_no c636 H
      have c636b0 : decide (8388608 < a621) = false := decide_eq_false c636
      clear c636
      obtain ⟨m637, HA638, H⟩ := bind_some H
      obtain ⟨hm639, hn640⟩ := mkLen_eq HA638
      have hm639H := Aside0.mk hm639
      clear hm639
      go_wp2_with (first | ((with_reducible refine gate_dst (N := 11) rfl ?_); refine make_event rfl (N := 11) rfl 69 33 (.tmp 10) (.tmp 10) rfl .i64 (.int .u32 0) 4 Tryd.underlying69 (by kernel_rfl) rfl (by decide) (Value.int .u32) 0 rfl m637 (by show Value.int _ _ = _; rw [hm639H.out]) (by show Value.int _ _ = _; rw [hm639H.out]) (by omega) HS.out ?_; intro g641 w642 HS1; replace HS : Aside0 (Sep (fps []) w [r6 (some ⟨g641, 0, none⟩) m637 m637 (List.replicate m637 (0 : Int))] w642) := ⟨HS1⟩; clear HS1) | ((with_reducible refine gate_dst (N := 13) rfl ?_); refine box_on ?hg (N := 13) ?hd (cs := #[.slice (some ⟨g641, 0, none⟩) m637 m637, .int .u64 0]) (t := 154) ?hr ?_; (case hd => rfl); (case hg => rfl); (case hr => first | (go_simp; done) | (go_simp; rfl)); intro g645 hg w646 hbox hb; replace HS : Aside0 (Sep (fps []) w [r6 (some ⟨g641, 0, none⟩) m637 m637 (List.replicate m637 (0 : Int)), b7 g645 (some ⟨g641, 0, none⟩) m637 m637 0] w646) := ⟨HS.out.box hg hbox hb⟩; clear hg hbox hb))
      go_ret2
      rw [← some_eq H]
      exact ⟨g645, (by first | rfl | (simp [IntKind.wrap_u32]; done)), (some ⟨g641, 0, none⟩), m637, m637, ((HS.out).front 1 (by simp)).keep (l := [b7 g645 (some ⟨g641, 0, none⟩) m637 m637 0, r6 (some ⟨g641, 0, none⟩) m637 m637 (List.replicate m637 (0 : Int))]) (rest := [])⟩

set_option maxHeartbeats 30000000 in
set_option maxRecDepth 100000 in
theorem ground_New.calls (k : Nat) (a25 : Int) (a26 : Int) (a27 : Int) (a28 : Int) (r : Unit ⊕ ((Int × Int × Int × Int × List Int) ⊕ Int)) (w : World)  (HGl0 : Aside0 (Gl 0 #[.int .i64 0, .int .i64 0, .int .i64 0, .int .i64 0, .int .i64 0] (fps []) w)) (HS : Aside0 (Sep (fps []) w [] w)) (H : Aside0 (ground_New.f k a25 a26 a27 a28 = some r)) :
    Calls Tryd.prog 15 #[.agg #[.int .i64 a25, .int .i64 a26, .int .i64 a27, .int .i64 a28]] w fun e w' => Sum.elim (fun (r : Unit) => e = .returned (.tuple #[.pointer none, .int .i64 2]) ∧ Sep (fps []) w [] w') (fun (r_ : (Int × Int × Int × Int × List Int) ⊕ Int) => Sum.elim (fun (r : Int × Int × Int × Int × List Int) => ∃ (g807 : Nat), e = .returned (.tuple #[.pointer (some ⟨g807, 0, none⟩), .int .i64 0]) ∧ ∃ (g808 : Nat) (A809 : Option Addr) (m810 : Nat) (n811 : Nat), Sep (fps []) w [b8 g807 g808 r.1 r.2.1 r.2.2.1 r.2.2.2.1, b7 g808 A809 m810 n811 0, r6 A809 m810 n811 r.2.2.2.2] w') (fun (r : Int) => e = .returned (.tuple #[.pointer none, .int .i64 r]) ∧ Sep (fps []) w [] w') r_) r := by
  unfold ground_New.f at H
  go_enter Tryd.func15, Tryd.ntmps15
  go_wp2_with (first | ((with_reducible refine gate_dst (N := 1) rfl ?_); refine box_on ?hg (N := 1) ?hd (cs := #[.int .i64 a25, .int .i64 a26, .int .i64 a27, .int .i64 a28]) (t := 30) ?hr ?_; (case hd => rfl); (case hg => rfl); (case hr => first | (go_simp; done) | (go_simp; rfl)); intro g743 hg w744 hbox hb; replace HS : Aside0 (Sep (fps []) w [b2 g743 a25 a26 a27 a28] w744) := ⟨HS.out.box hg hbox hb⟩; clear hg hbox hb; have hc746 : w744.cell? ⟨g743, 0, none⟩ = some (.int .i64 a25) := blk_cellv (HS.out.at0) 0 rfl; have hc747 : w744.cell? ⟨g743, 1, none⟩ = some (.int .i64 a26) := blk_cellv (HS.out.at0) 1 rfl; have hc748 : w744.cell? ⟨g743, 2, none⟩ = some (.int .i64 a27) := blk_cellv (HS.out.at0) 2 rfl; have hc749 : w744.cell? ⟨g743, 3, none⟩ = some (.int .i64 a28) := blk_cellv (HS.out.at0) 3 rfl))
  clear hc746 hc747 hc748 hc749
  obtain ⟨t750, HA751, H⟩ := bind_some H
  refine (plan_Of.calls _ a25 a26 a27 a28 t750 _ ⟨HGl0.out.pass (l := []) HS.out⟩ ⟨Sep.start _⟩ HA751).mono ?_
  rintro e_ w752 ⟨rfl, hS⟩
  replace HS : Aside0 (Sep (fps []) w [b2 g743 a25 a26 a27 a28] w752) := ⟨HS.out.call hS⟩
  clear hS
  by_cases c773 : t750.2.2.2.2.2.2.2.2 = 0
  · replace H := if_yes c773 H
    have c773b0 : (t750.2.2.2.2.2.2.2.2 == 0) = true := beq_iff_eq.mpr c773
    have c773b1 : (t750.2.2.2.2.2.2.2.2 != 0) = false := bne_eq_false_iff_eq.mpr c773
    clear c773
    go_wp2_with (first | ((with_reducible refine gate_dst (N := 4) rfl ?_); refine box_on ?hg (N := 4) ?hd (cs := #[.int .i64 0, .int .i64 0, .int .i64 0, .int .i64 0, .int .i64 0, .int .i64 0, .int .i64 0, .int .i64 0]) (t := 97) ?hr ?_; (case hd => rfl); (case hg => rfl); (case hr => first | (go_simp; done) | (go_simp; rfl)); intro g753 hg w754 hbox hb; replace HS : Aside0 (Sep (fps []) w [b2 g743 a25 a26 a27 a28, b3 g753 0 0 0 0 0 0 0 0] w754) := ⟨HS.out.box hg hbox hb⟩; clear hg hbox hb; have hc756 : w754.cell? ⟨g753, 0, none⟩ = some (.int .i64 0) := blk_cellv (HS.out.at1) 0 rfl; have hz757 : w754.frozen? ⟨g753, 0, none⟩ = false := blk_fz (HS.out.at1) 0; have hc758 : w754.cell? ⟨g753, 1, none⟩ = some (.int .i64 0) := blk_cellv (HS.out.at1) 1 rfl; have hz759 : w754.frozen? ⟨g753, 1, none⟩ = false := blk_fz (HS.out.at1) 1; have hc760 : w754.cell? ⟨g753, 2, none⟩ = some (.int .i64 0) := blk_cellv (HS.out.at1) 2 rfl; have hz761 : w754.frozen? ⟨g753, 2, none⟩ = false := blk_fz (HS.out.at1) 2; have hc762 : w754.cell? ⟨g753, 3, none⟩ = some (.int .i64 0) := blk_cellv (HS.out.at1) 3 rfl; have hz763 : w754.frozen? ⟨g753, 3, none⟩ = false := blk_fz (HS.out.at1) 3; have hc764 : w754.cell? ⟨g753, 4, none⟩ = some (.int .i64 0) := blk_cellv (HS.out.at1) 4 rfl; have hz765 : w754.frozen? ⟨g753, 4, none⟩ = false := blk_fz (HS.out.at1) 4; have hc766 : w754.cell? ⟨g753, 5, none⟩ = some (.int .i64 0) := blk_cellv (HS.out.at1) 5 rfl; have hz767 : w754.frozen? ⟨g753, 5, none⟩ = false := blk_fz (HS.out.at1) 5; have hc768 : w754.cell? ⟨g753, 6, none⟩ = some (.int .i64 0) := blk_cellv (HS.out.at1) 6 rfl; have hz769 : w754.frozen? ⟨g753, 6, none⟩ = false := blk_fz (HS.out.at1) 6; have hc770 : w754.cell? ⟨g753, 7, none⟩ = some (.int .i64 0) := blk_cellv (HS.out.at1) 7 rfl; have hz771 : w754.frozen? ⟨g753, 7, none⟩ = false := blk_fz (HS.out.at1) 7) | ((with_reducible refine gate_store (t := 97) (p := 4) rfl ?_); refine store_event (w1 := (World.setCell (World.setCell (World.setCell (World.setCell (World.setCell (World.setCell (World.setCell (World.setCell w754 ⟨g753, 0, none⟩ (.int .i64 t750.1)) ⟨g753, 1, none⟩ (.int .i64 t750.2.1)) ⟨g753, 2, none⟩ (.int .i64 t750.2.2.1)) ⟨g753, 3, none⟩ (.int .i64 t750.2.2.2.1)) ⟨g753, 4, none⟩ (.int .i64 t750.2.2.2.2.1)) ⟨g753, 5, none⟩ (.int .i64 t750.2.2.2.2.2.1)) ⟨g753, 6, none⟩ (.int .i64 t750.2.2.2.2.2.2.1)) ⟨g753, 7, none⟩ (.int .i64 t750.2.2.2.2.2.2.2.1))) rfl (t := 97) (p := 4) rfl rfl ?hr ?_; (case hr => first | (go_simp; done) | (go_simp; rfl)); intro w772 hst; clear hc756 hz757 hc758 hz759 hc760 hz761 hc762 hz763 hc764 hz765 hc766 hz767 hc768 hz769 hc770 hz771; replace HS : Aside0 (Sep (fps []) w [b2 g743 a25 a26 a27 a28, b3 g753 t750.1 t750.2.1 t750.2.2.1 t750.2.2.2.1 t750.2.2.2.2.1 t750.2.2.2.2.2.1 t750.2.2.2.2.2.2.1 t750.2.2.2.2.2.2.2.1] w772) := ⟨by rw [hst]; exact HS.out.setAll (l1 := [b2 g743 a25 a26 a27 a28]) (l2 := []) [.int .i64 t750.1, .int .i64 t750.2.1, .int .i64 t750.2.2.1, .int .i64 t750.2.2.2.1, .int .i64 t750.2.2.2.2.1, .int .i64 t750.2.2.2.2.2.1, .int .i64 t750.2.2.2.2.2.2.1, .int .i64 t750.2.2.2.2.2.2.2.1] rfl⟩; clear hst; have hc774 : w772.cell? ⟨g753, 0, none⟩ = some (.int .i64 t750.1) := blk_cellv (HS.out.at1) 0 rfl))
    clear hc774
    obtain ⟨t775, HA776, H⟩ := bind_some H
    rcases t775 with t777 | t778
    · have H := sum_l H
      refine (store_New.calls t750.1 (.inl t777) _ ⟨HGl0.out.pass (l := []) HS.out⟩ ⟨Sep.start _⟩ HA776).mono ?_
      rintro e_ w779 ⟨rfl, hS⟩
      replace HS : Aside0 (Sep (fps []) w [b2 g743 a25 a26 a27 a28, b3 g753 t750.1 t750.2.1 t750.2.2.1 t750.2.2.2.1 t750.2.2.2.2.1 t750.2.2.2.2.2.1 t750.2.2.2.2.2.2.1 t750.2.2.2.2.2.2.2.1] w779) := ⟨HS.out.call hS⟩
      clear hS
      replace HS : Aside0 (Sep (fps []) w [b2 g743 a25 a26 a27 a28] w779) := ⟨HS.out.sub (.cons_cons _ (.cons _ .slnil))⟩
      replace HS : Aside0 (Sep (fps []) w [] w779) := ⟨HS.out.sub (.cons _ .slnil)⟩
      go_wp2_with fail
      go_ret2
      rw [← some_eq H]
      exact ⟨(by first | rfl | (simp [IntKind.wrap_u32]; done)), HS.out⟩
    · have H := sum_r H
      refine (store_New.calls t750.1 (.inr t778) _ ⟨HGl0.out.pass (l := []) HS.out⟩ ⟨Sep.start _⟩ HA776).mono ?_
      rintro e_ w780 ⟨g783, rfl, A784, m785, n786, hS⟩
      replace HS : Aside0 (Sep (fps []) w [b7 g783 A784 m785 n786 0, r6 A784 m785 n786 t778, b2 g743 a25 a26 a27 a28, b3 g753 t750.1 t750.2.1 t750.2.2.1 t750.2.2.2.1 t750.2.2.2.2.1 t750.2.2.2.2.2.1 t750.2.2.2.2.2.2.1 t750.2.2.2.2.2.2.2.1] w780) := ⟨HS.out.call hS⟩
      clear hS
      obtain rfl := (row_len (HS.out.at1)).symm
      replace HS : Aside0 (Sep (fps []) w [b7 g783 A784 t778.length n786 0, r6 A784 t778.length n786 t778, b2 g743 a25 a26 a27 a28] w780) := ⟨HS.out.sub (.cons_cons _ (.cons_cons _ (.cons_cons _ (.cons _ .slnil))))⟩
      have hc788 : w780.cell? ⟨g743, 0, none⟩ = some (.int .i64 a25) := blk_cellv (HS.out.at2) 0 rfl
      have hc789 : w780.cell? ⟨g743, 1, none⟩ = some (.int .i64 a26) := blk_cellv (HS.out.at2) 1 rfl
      have hc790 : w780.cell? ⟨g743, 2, none⟩ = some (.int .i64 a27) := blk_cellv (HS.out.at2) 2 rfl
      have hc791 : w780.cell? ⟨g743, 3, none⟩ = some (.int .i64 a28) := blk_cellv (HS.out.at2) 3 rfl
      go_wp2_with (first | ((with_reducible refine gate_dst (N := 28) rfl ?_); refine box_on ?hg (N := 28) ?hd (cs := #[.pointer (some ⟨g783, 0, none⟩), .int .i64 a25, .int .i64 a26, .int .i64 a27, .int .i64 a28]) (t := 106) ?hr ?_; (case hd => rfl); (case hg => rfl); (case hr => first | (go_simp; done) | (go_simp; rfl)); intro g792 hg w793 hbox hb; clear hc788 hc789 hc790 hc791; replace HS : Aside0 (Sep (fps []) w [b7 g783 A784 t778.length n786 0, r6 A784 t778.length n786 t778, b2 g743 a25 a26 a27 a28, b8 g792 g783 a25 a26 a27 a28] w793) := ⟨HS.out.box hg hbox hb⟩; clear hg hbox hb; replace HS : Aside0 (Sep (fps []) w [b7 g783 A784 t778.length n786 0, r6 A784 t778.length n786 t778, b8 g792 g783 a25 a26 a27 a28] w793) := ⟨HS.out.sub (.cons_cons _ (.cons_cons _ (.cons _ (.cons_cons _ .slnil))))⟩))
      go_ret2
      rw [← some_eq H]
      exact ⟨g792, (by first | rfl | (simp [IntKind.wrap_u32]; done)), g783, A784, t778.length, n786, ((((HS.out).front 1 (by simp)).front 1 (by simp)).front 2 (by simp)).keep (l := [b8 g792 g783 a25 a26 a27 a28, b7 g783 A784 t778.length n786 0, r6 A784 t778.length n786 t778]) (rest := [])⟩
  · replace H := if_no c773 H
    have c773b0 : (t750.2.2.2.2.2.2.2.2 == 0) = false := beq_eq_false_iff_ne.mpr c773
    have c773b1 : (t750.2.2.2.2.2.2.2.2 != 0) = true := bne_iff_ne.mpr c773
    clear c773
    go_wp2_with (first | ((with_reducible refine gate_dst (N := 4) rfl ?_); refine box_on ?hg (N := 4) ?hd (cs := #[.int .i64 0, .int .i64 0, .int .i64 0, .int .i64 0, .int .i64 0, .int .i64 0, .int .i64 0, .int .i64 0]) (t := 97) ?hr ?_; (case hd => rfl); (case hg => rfl); (case hr => first | (go_simp; done) | (go_simp; rfl)); intro g753 hg w754 hbox hb; replace HS : Aside0 (Sep (fps []) w [b2 g743 a25 a26 a27 a28, b3 g753 0 0 0 0 0 0 0 0] w754) := ⟨HS.out.box hg hbox hb⟩; clear hg hbox hb; have hc756 : w754.cell? ⟨g753, 0, none⟩ = some (.int .i64 0) := blk_cellv (HS.out.at1) 0 rfl; have hz757 : w754.frozen? ⟨g753, 0, none⟩ = false := blk_fz (HS.out.at1) 0; have hc758 : w754.cell? ⟨g753, 1, none⟩ = some (.int .i64 0) := blk_cellv (HS.out.at1) 1 rfl; have hz759 : w754.frozen? ⟨g753, 1, none⟩ = false := blk_fz (HS.out.at1) 1; have hc760 : w754.cell? ⟨g753, 2, none⟩ = some (.int .i64 0) := blk_cellv (HS.out.at1) 2 rfl; have hz761 : w754.frozen? ⟨g753, 2, none⟩ = false := blk_fz (HS.out.at1) 2; have hc762 : w754.cell? ⟨g753, 3, none⟩ = some (.int .i64 0) := blk_cellv (HS.out.at1) 3 rfl; have hz763 : w754.frozen? ⟨g753, 3, none⟩ = false := blk_fz (HS.out.at1) 3; have hc764 : w754.cell? ⟨g753, 4, none⟩ = some (.int .i64 0) := blk_cellv (HS.out.at1) 4 rfl; have hz765 : w754.frozen? ⟨g753, 4, none⟩ = false := blk_fz (HS.out.at1) 4; have hc766 : w754.cell? ⟨g753, 5, none⟩ = some (.int .i64 0) := blk_cellv (HS.out.at1) 5 rfl; have hz767 : w754.frozen? ⟨g753, 5, none⟩ = false := blk_fz (HS.out.at1) 5; have hc768 : w754.cell? ⟨g753, 6, none⟩ = some (.int .i64 0) := blk_cellv (HS.out.at1) 6 rfl; have hz769 : w754.frozen? ⟨g753, 6, none⟩ = false := blk_fz (HS.out.at1) 6; have hc770 : w754.cell? ⟨g753, 7, none⟩ = some (.int .i64 0) := blk_cellv (HS.out.at1) 7 rfl; have hz771 : w754.frozen? ⟨g753, 7, none⟩ = false := blk_fz (HS.out.at1) 7) | ((with_reducible refine gate_store (t := 97) (p := 4) rfl ?_); refine store_event (w1 := (World.setCell (World.setCell (World.setCell (World.setCell (World.setCell (World.setCell (World.setCell (World.setCell w754 ⟨g753, 0, none⟩ (.int .i64 t750.1)) ⟨g753, 1, none⟩ (.int .i64 t750.2.1)) ⟨g753, 2, none⟩ (.int .i64 t750.2.2.1)) ⟨g753, 3, none⟩ (.int .i64 t750.2.2.2.1)) ⟨g753, 4, none⟩ (.int .i64 t750.2.2.2.2.1)) ⟨g753, 5, none⟩ (.int .i64 t750.2.2.2.2.2.1)) ⟨g753, 6, none⟩ (.int .i64 t750.2.2.2.2.2.2.1)) ⟨g753, 7, none⟩ (.int .i64 t750.2.2.2.2.2.2.2.1))) rfl (t := 97) (p := 4) rfl rfl ?hr ?_; (case hr => first | (go_simp; done) | (go_simp; rfl)); intro w772 hst; clear hc756 hz757 hc758 hz759 hc760 hz761 hc762 hz763 hc764 hz765 hc766 hz767 hc768 hz769 hc770 hz771; replace HS : Aside0 (Sep (fps []) w [b2 g743 a25 a26 a27 a28, b3 g753 t750.1 t750.2.1 t750.2.2.1 t750.2.2.2.1 t750.2.2.2.2.1 t750.2.2.2.2.2.1 t750.2.2.2.2.2.2.1 t750.2.2.2.2.2.2.2.1] w772) := ⟨by rw [hst]; exact HS.out.setAll (l1 := [b2 g743 a25 a26 a27 a28]) (l2 := []) [.int .i64 t750.1, .int .i64 t750.2.1, .int .i64 t750.2.2.1, .int .i64 t750.2.2.2.1, .int .i64 t750.2.2.2.2.1, .int .i64 t750.2.2.2.2.2.1, .int .i64 t750.2.2.2.2.2.2.1, .int .i64 t750.2.2.2.2.2.2.2.1] rfl⟩; clear hst; replace HS : Aside0 (Sep (fps []) w [] w772) := ⟨HS.out.sub (.cons _ (.cons _ .slnil))⟩))
    go_ret2
    rw [← some_eq H]
    exact ⟨(by first | rfl | (simp [IntKind.wrap_u32]; done)), HS.out⟩

set_option maxHeartbeats 30000000 in
set_option maxRecDepth 100000 in
theorem chain_of.calls (l865 : List Int) (a870 : Int) (a871 : Int) (a872 : Int) (a873 : Int) (a874 : Int) (a875 : Int) (g861 : Nat) (g863 : Nat) (A866 : Option Addr) (m867 : Nat) (n868 : Nat) (r : Int × Int × Int × Bool) (w : World)  (HGl0 : Aside0 (Gl 0 #[.int .i64 0, .int .i64 0, .int .i64 0, .int .i64 0, .int .i64 0] (fps [b8 g861 g863 a871 a872 a873 a874, b7 g863 A866 m867 n868 a870, r6 A866 m867 n868 l865]) w)) (HS : Aside0 (Sep (fps [b8 g861 g863 a871 a872 a873 a874, b7 g863 A866 m867 n868 a870, r6 A866 m867 n868 l865]) w [b8 g861 g863 a871 a872 a873 a874, b7 g863 A866 m867 n868 a870, r6 A866 m867 n868 l865] w)) (H : Aside0 (chain_of.f l865 a870 a871 a872 a873 a874 a875 = some r)) :
    Calls Tryd.prog 139 #[.pointer (some ⟨g861, 0, none⟩), .int .i64 a875] w fun e w' => e = .returned (.tuple #[.agg #[.int .i64 r.1, .int .i64 r.2.1, .int .i64 r.2.2.1], .bool r.2.2.2]) ∧ Sep (fps [b8 g861 g863 a871 a872 a873 a874, b7 g863 A866 m867 n868 a870, r6 A866 m867 n868 l865]) w [b8 g861 g863 a871 a872 a873 a874, b7 g863 A866 m867 n868 a870, r6 A866 m867 n868 l865] w' := by
  generalize (fps [b8 g861 g863 a871 a872 a873 a874, b7 g863 A866 m867 n868 a870, r6 A866 m867 n868 l865]) = FF at HS HGl0 ⊢
  obtain rfl := (row_len (HS.out.at2)).symm
  unfold chain_of.f at H
  go_enter Tryd.func139, Tryd.ntmps139
  by_cases c879 : a875 < 0
  · replace H := if_yes c879 H
    have c879b0 : decide (a875 < 0) = true := decide_eq_true c879
    clear c879
    go_wp2_with (first | ((with_reducible refine gate_dst (N := 4) rfl ?_); refine box_on ?hg (N := 4) ?hd (cs := #[.int .i64 0, .int .i64 0, .int .i64 0]) (t := 166) ?hr ?_; (case hd => rfl); (case hg => rfl); (case hr => first | (go_simp; done) | (go_simp; rfl)); intro g876 hg w877 hbox hb; replace HS : Aside0 (Sep FF w [b8 g861 g863 a871 a872 a873 a874, b7 g863 A866 l865.length n868 a870, r6 A866 l865.length n868 l865, b9 g876 0 0 0] w877) := ⟨HS.out.box hg hbox hb⟩; clear hg hbox hb; have hc880 : w877.cell? ⟨g876, 0, none⟩ = some (.int .i64 0) := blk_cellv (HS.out.at3) 0 rfl; have hz881 : w877.frozen? ⟨g876, 0, none⟩ = false := blk_fz (HS.out.at3) 0; have hc882 : w877.cell? ⟨g876, 1, none⟩ = some (.int .i64 0) := blk_cellv (HS.out.at3) 1 rfl; have hz883 : w877.frozen? ⟨g876, 1, none⟩ = false := blk_fz (HS.out.at3) 1; have hc884 : w877.cell? ⟨g876, 2, none⟩ = some (.int .i64 0) := blk_cellv (HS.out.at3) 2 rfl; have hz885 : w877.frozen? ⟨g876, 2, none⟩ = false := blk_fz (HS.out.at3) 2) | ((with_reducible refine gate_store (t := 166) (p := 4) rfl ?_); refine store_event (w1 := (World.setCell (World.setCell (World.setCell w877 ⟨g876, 0, none⟩ (.int .i64 0)) ⟨g876, 1, none⟩ (.int .i64 0)) ⟨g876, 2, none⟩ (.int .i64 0))) rfl (t := 166) (p := 4) rfl rfl ?hr ?_; (case hr => first | (go_simp; done) | (go_simp; rfl)); intro w886 hst; clear hc880 hz881 hc882 hz883 hc884 hz885; replace HS : Aside0 (Sep FF w [b8 g861 g863 a871 a872 a873 a874, b7 g863 A866 l865.length n868 a870, r6 A866 l865.length n868 l865, b9 g876 0 0 0] w886) := ⟨by rw [hst]; exact HS.out.setAll (l1 := [b8 g861 g863 a871 a872 a873 a874, b7 g863 A866 l865.length n868 a870, r6 A866 l865.length n868 l865]) (l2 := []) [.int .i64 0, .int .i64 0, .int .i64 0] rfl⟩; clear hst))
    have hc887 : w886.cell? ⟨g876, 0, none⟩ = some (.int .i64 0) := blk_cellv (HS.out.at3) 0 rfl
    have hc888 : w886.cell? ⟨g876, 1, none⟩ = some (.int .i64 0) := blk_cellv (HS.out.at3) 1 rfl
    have hc889 : w886.cell? ⟨g876, 2, none⟩ = some (.int .i64 0) := blk_cellv (HS.out.at3) 2 rfl
    refine bodyPost_ret (v := .tuple #[.agg #[.int .i64 0, .int .i64 0, .int .i64 0], .bool false]) (by simp [results, Tryd.results139, go_sem, hc887, hc888, hc889]) rfl ?_
    rw [← some_eq H]
    exact ⟨(by first | rfl | (simp [IntKind.wrap_u32]; done)), HS.out.sub (.cons_cons _ (.cons_cons _ (.cons_cons _ (.cons _ .slnil))))⟩
  · replace H := if_no c879 H
    have c879b0 : decide (a875 < 0) = false := decide_eq_false c879
    clear c879
    by_cases c890 : a875 > 1
    · replace H := if_yes c890 H
      have c890b0 : decide (1 < a875) = true := decide_eq_true c890
      clear c890
      go_wp2_with (first | ((with_reducible refine gate_dst (N := 4) rfl ?_); refine box_on ?hg (N := 4) ?hd (cs := #[.int .i64 0, .int .i64 0, .int .i64 0]) (t := 166) ?hr ?_; (case hd => rfl); (case hg => rfl); (case hr => first | (go_simp; done) | (go_simp; rfl)); intro g876 hg w877 hbox hb; replace HS : Aside0 (Sep FF w [b8 g861 g863 a871 a872 a873 a874, b7 g863 A866 l865.length n868 a870, r6 A866 l865.length n868 l865, b9 g876 0 0 0] w877) := ⟨HS.out.box hg hbox hb⟩; clear hg hbox hb; have hc891 : w877.cell? ⟨g876, 0, none⟩ = some (.int .i64 0) := blk_cellv (HS.out.at3) 0 rfl; have hz892 : w877.frozen? ⟨g876, 0, none⟩ = false := blk_fz (HS.out.at3) 0; have hc893 : w877.cell? ⟨g876, 1, none⟩ = some (.int .i64 0) := blk_cellv (HS.out.at3) 1 rfl; have hz894 : w877.frozen? ⟨g876, 1, none⟩ = false := blk_fz (HS.out.at3) 1; have hc895 : w877.cell? ⟨g876, 2, none⟩ = some (.int .i64 0) := blk_cellv (HS.out.at3) 2 rfl; have hz896 : w877.frozen? ⟨g876, 2, none⟩ = false := blk_fz (HS.out.at3) 2) | ((with_reducible refine gate_store (t := 166) (p := 4) rfl ?_); refine store_event (w1 := (World.setCell (World.setCell (World.setCell w877 ⟨g876, 0, none⟩ (.int .i64 0)) ⟨g876, 1, none⟩ (.int .i64 0)) ⟨g876, 2, none⟩ (.int .i64 0))) rfl (t := 166) (p := 4) rfl rfl ?hr ?_; (case hr => first | (go_simp; done) | (go_simp; rfl)); intro w897 hst; clear hc891 hz892 hc893 hz894 hc895 hz896; replace HS : Aside0 (Sep FF w [b8 g861 g863 a871 a872 a873 a874, b7 g863 A866 l865.length n868 a870, r6 A866 l865.length n868 l865, b9 g876 0 0 0] w897) := ⟨by rw [hst]; exact HS.out.setAll (l1 := [b8 g861 g863 a871 a872 a873 a874, b7 g863 A866 l865.length n868 a870, r6 A866 l865.length n868 l865]) (l2 := []) [.int .i64 0, .int .i64 0, .int .i64 0] rfl⟩; clear hst))
      have hc898 : w897.cell? ⟨g876, 0, none⟩ = some (.int .i64 0) := blk_cellv (HS.out.at3) 0 rfl
      have hc899 : w897.cell? ⟨g876, 1, none⟩ = some (.int .i64 0) := blk_cellv (HS.out.at3) 1 rfl
      have hc900 : w897.cell? ⟨g876, 2, none⟩ = some (.int .i64 0) := blk_cellv (HS.out.at3) 2 rfl
      refine bodyPost_ret (v := .tuple #[.agg #[.int .i64 0, .int .i64 0, .int .i64 0], .bool false]) (by simp [results, Tryd.results139, go_sem, hc898, hc899, hc900]) rfl ?_
      rw [← some_eq H]
      exact ⟨(by first | rfl | (simp [IntKind.wrap_u32]; done)), HS.out.sub (.cons_cons _ (.cons_cons _ (.cons_cons _ (.cons _ .slnil))))⟩
    · replace H := if_no c890 H
      have c890b0 : decide (1 < a875) = false := decide_eq_false c890
      clear c890
      go_wp2_with (first | ((with_reducible refine gate_dst (N := 4) rfl ?_); refine box_on ?hg (N := 4) ?hd (cs := #[.int .i64 0, .int .i64 0, .int .i64 0]) (t := 166) ?hr ?_; (case hd => rfl); (case hg => rfl); (case hr => first | (go_simp; done) | (go_simp; rfl)); intro g876 hg w877 hbox hb; replace HS : Aside0 (Sep FF w [b8 g861 g863 a871 a872 a873 a874, b7 g863 A866 l865.length n868 a870, r6 A866 l865.length n868 l865, b9 g876 0 0 0] w877) := ⟨HS.out.box hg hbox hb⟩; clear hg hbox hb; have hc901 : w877.cell? ⟨g876, 0, none⟩ = some (.int .i64 0) := blk_cellv (HS.out.at3) 0 rfl; have hz902 : w877.frozen? ⟨g876, 0, none⟩ = false := blk_fz (HS.out.at3) 0; have hc903 : w877.cell? ⟨g876, 1, none⟩ = some (.int .i64 0) := blk_cellv (HS.out.at3) 1 rfl; have hz904 : w877.frozen? ⟨g876, 1, none⟩ = false := blk_fz (HS.out.at3) 1; have hc905 : w877.cell? ⟨g876, 2, none⟩ = some (.int .i64 0) := blk_cellv (HS.out.at3) 2 rfl; have hz906 : w877.frozen? ⟨g876, 2, none⟩ = false := blk_fz (HS.out.at3) 2) | ((with_reducible refine gate_store (t := 166) (p := 4) rfl ?_); refine store_event (w1 := (World.setCell (World.setCell (World.setCell w877 ⟨g876, 0, none⟩ (.int .i64 (wrap64 (3 * a875)))) ⟨g876, 1, none⟩ (.int .i64 (wrap64 ((wrap64 (3 * a875)) + 1)))) ⟨g876, 2, none⟩ (.int .i64 (wrap64 ((wrap64 (3 * a875)) + 2))))) rfl (t := 166) (p := 4) rfl rfl ?hr ?_; (case hr => first | (go_simp; done) | (go_simp; rfl)); intro w907 hst; clear hc901 hz902 hc903 hz904 hc905 hz906; replace HS : Aside0 (Sep FF w [b8 g861 g863 a871 a872 a873 a874, b7 g863 A866 l865.length n868 a870, r6 A866 l865.length n868 l865, b9 g876 (wrap64 (3 * a875)) (wrap64 ((wrap64 (3 * a875)) + 1)) (wrap64 ((wrap64 (3 * a875)) + 2))] w907) := ⟨by rw [hst]; exact HS.out.setAll (l1 := [b8 g861 g863 a871 a872 a873 a874, b7 g863 A866 l865.length n868 a870, r6 A866 l865.length n868 l865]) (l2 := []) [.int .i64 (wrap64 (3 * a875)), .int .i64 (wrap64 ((wrap64 (3 * a875)) + 1)), .int .i64 (wrap64 ((wrap64 (3 * a875)) + 2))] rfl⟩; clear hst))
      have hc908 : w907.cell? ⟨g876, 0, none⟩ = some (.int .i64 (wrap64 (3 * a875))) := blk_cellv (HS.out.at3) 0 rfl
      have hc909 : w907.cell? ⟨g876, 1, none⟩ = some (.int .i64 (wrap64 ((wrap64 (3 * a875)) + 1))) := blk_cellv (HS.out.at3) 1 rfl
      have hc910 : w907.cell? ⟨g876, 2, none⟩ = some (.int .i64 (wrap64 ((wrap64 (3 * a875)) + 2))) := blk_cellv (HS.out.at3) 2 rfl
      refine bodyPost_ret (v := .tuple #[.agg #[.int .i64 (wrap64 (3 * a875)), .int .i64 (wrap64 ((wrap64 (3 * a875)) + 1)), .int .i64 (wrap64 ((wrap64 (3 * a875)) + 2))], .bool true]) (by simp [results, Tryd.results139, go_sem, hc908, hc909, hc910]) rfl ?_
      rw [← some_eq H]
      exact ⟨(by first | rfl | (simp [IntKind.wrap_u32]; done)), HS.out.sub (.cons_cons _ (.cons_cons _ (.cons_cons _ (.cons _ .slnil))))⟩

set_option maxHeartbeats 30000000 in
set_option maxRecDepth 100000 in
theorem ground_Ground_all.calls (l947 : List Int) (a952 : Int) (a953 : Int) (a954 : Int) (a955 : Int) (a956 : Int) (g943 : Nat) (g945 : Nat) (A948 : Option Addr) (m949 : Nat) (n950 : Nat) (r : Unit) (w : World)  (HGl0 : Aside0 (Gl 0 #[.int .i64 0, .int .i64 0, .int .i64 0, .int .i64 0, .int .i64 0] (fps [b8 g943 g945 a953 a954 a955 a956, b7 g945 A948 m949 n950 a952, r6 A948 m949 n950 l947]) w)) (HS : Aside0 (Sep (fps [b8 g943 g945 a953 a954 a955 a956, b7 g945 A948 m949 n950 a952, r6 A948 m949 n950 l947]) w [b8 g943 g945 a953 a954 a955 a956, b7 g945 A948 m949 n950 a952, r6 A948 m949 n950 l947] w)) (H : Aside0 (ground_Ground_all.f l947 a952 a953 a954 a955 a956 = some r)) :
    Calls Tryd.prog 70 #[.pointer (some ⟨g943, 0, none⟩)] w fun e w' => e = .returned (.pointer (some ⟨g945, 0, none⟩)) ∧ Sep (fps [b8 g943 g945 a953 a954 a955 a956, b7 g945 A948 m949 n950 a952, r6 A948 m949 n950 l947]) w [b8 g943 g945 a953 a954 a955 a956, b7 g945 A948 m949 n950 a952, r6 A948 m949 n950 l947] w' := by
  generalize (fps [b8 g943 g945 a953 a954 a955 a956, b7 g945 A948 m949 n950 a952, r6 A948 m949 n950 l947]) = FF at HS HGl0 ⊢
  obtain rfl := (row_len (HS.out.at2)).symm
  unfold ground_Ground_all.f at H
  go_enter Tryd.func70, Tryd.ntmps70
  have hc957 : w.cell? ⟨g943, 0, none⟩ = some (.pointer (some ⟨g945, 0, none⟩)) := blk_cellv (HS.out.at0) 0 rfl
  go_wp2_with fail
  clear hc957
  go_ret
  clear H
  exact ⟨(by first | rfl | (simp [IntKind.wrap_u32]; done)), HS.out⟩

set_option maxHeartbeats 30000000 in
set_option maxRecDepth 100000 in
theorem ground_within.calls (a962 : Int) (a963 : Int) (a964 : Int) (r : Int) (w : World)  (HGl0 : Aside0 (Gl 0 #[.int .i64 0, .int .i64 0, .int .i64 0, .int .i64 0, .int .i64 0] (fps []) w)) (HS : Aside0 (Sep (fps []) w [] w)) (H : Aside0 (ground_within.f a962 a963 a964 = some r)) :
    Calls Tryd.prog 129 #[.int .i64 a962, .int .i64 a963, .int .i64 a964] w fun e w' => e = .returned (.int .i64 r) ∧ Sep (fps []) w [] w' := by
  unfold ground_within.f at H
  go_enter Tryd.func129, Tryd.ntmps129
  by_cases c965 : a962 < 0
  · replace H := if_yes c965 H
    have c965b0 : decide (a962 < 0) = true := decide_eq_true c965
    clear c965
    go_wp2_with fail
    go_ret
    rw [← some_eq H]
    exact ⟨(by first | rfl | (simp [IntKind.wrap_u32]; done)), HS.out⟩
  · replace H := if_no c965 H
    have c965b0 : decide (a962 < 0) = false := decide_eq_false c965
    clear c965
    by_cases c966 : a962 ≥ a963
    · replace H := if_yes c966 H
      have c966b0 : decide (a963 ≤ a962) = true := decide_eq_true c966
      clear c966
      go_wp2_with fail
      go_ret
      rw [← some_eq H]
      exact ⟨(by first | rfl | (simp [IntKind.wrap_u32]; done)), HS.out⟩
    · replace H := if_no c966 H
      have c966b0 : decide (a963 ≤ a962) = false := decide_eq_false c966
      clear c966
      go_wp2_with fail
      go_ret
      rw [← some_eq H]
      exact ⟨(by first | rfl | (simp [IntKind.wrap_u32]; done)), HS.out⟩

set_option maxHeartbeats 30000000 in
set_option maxRecDepth 100000 in
theorem ground_reg.calls (a961 : Int) (r : Int) (w : World)  (HGl0 : Aside0 (Gl 0 #[.int .i64 0, .int .i64 0, .int .i64 0, .int .i64 0, .int .i64 0] (fps []) w)) (HS : Aside0 (Sep (fps []) w [] w)) (H : Aside0 (ground_reg.f a961 = some r)) :
    Calls Tryd.prog 131 #[.int .i64 a961] w fun e w' => e = .returned (.int .i64 r) ∧ Sep (fps []) w [] w' := by
  unfold ground_reg.f at H
  go_enter Tryd.func131, Tryd.ntmps131
  go_wp2_with fail
  obtain ⟨t967, HA968, H⟩ := bind_some H
  refine (ground_within.calls a961 24 0 t967 _ ⟨HGl0.out.pass (l := []) HS.out⟩ ⟨Sep.start _⟩ HA968).mono ?_
  rintro e_ w969 ⟨rfl, hS⟩
  replace HS : Aside0 (Sep (fps []) w [] w969) := ⟨HS.out.call hS⟩
  clear hS
  go_wp2_with fail
  go_ret
  rw [← some_eq H]
  exact ⟨(by first | rfl | (simp [IntKind.wrap_u32]; done)), HS.out⟩

set_option maxHeartbeats 30000000 in
set_option maxRecDepth 100000 in
theorem store_Store_has.calls (l986 : List Int) (a991 : Int) (a992 : Int) (g984 : Nat) (A987 : Option Addr) (m988 : Nat) (n989 : Nat) (r : Bool) (w : World)  (HGl0 : Aside0 (Gl 0 #[.int .i64 0, .int .i64 0, .int .i64 0, .int .i64 0, .int .i64 0] (fps [b7 g984 A987 m988 n989 a991, r6 A987 m988 n989 l986]) w)) (HS : Aside0 (Sep (fps [b7 g984 A987 m988 n989 a991, r6 A987 m988 n989 l986]) w [b7 g984 A987 m988 n989 a991, r6 A987 m988 n989 l986] w)) (H : Aside0 (store_Store_has.f l986 a991 a992 = some r)) :
    Calls Tryd.prog 127 #[.pointer (some ⟨g984, 0, none⟩), .int .i64 a992] w fun e w' => e = .returned (.bool r) ∧ Sep (fps [b7 g984 A987 m988 n989 a991, r6 A987 m988 n989 l986]) w [b7 g984 A987 m988 n989 a991, r6 A987 m988 n989 l986] w' := by
  generalize (fps [b7 g984 A987 m988 n989 a991, r6 A987 m988 n989 l986]) = FF at HS HGl0 ⊢
  obtain rfl := (row_len (HS.out.at1)).symm
  unfold store_Store_has.f at H
  go_enter Tryd.func127, Tryd.ntmps127
  by_cases c993 : a992 ≥ 0
  · replace H := if_yes c993 H
    have c993b0 : decide (0 ≤ a992) = true := decide_eq_true c993
    clear c993
    have hc994 : w.cell? ⟨g984, 0, none⟩ = some (.slice A987 l986.length n989) := blk_cellv (HS.out.at0) 0 rfl
    go_wp2_with fail
    clear hc994
    go_ret
    rw [← some_eq H]
    exact ⟨(by first | rfl | (simp [IntKind.wrap_u32]; done)), HS.out⟩
  · replace H := if_no c993 H
    have c993b0 : decide (0 ≤ a992) = false := decide_eq_false c993
    clear c993
    go_wp2_with fail
    go_ret
    rw [← some_eq H]
    exact ⟨(by first | rfl | (simp [IntKind.wrap_u32]; done)), HS.out⟩

set_option maxHeartbeats 30000000 in
set_option maxRecDepth 100000 in
theorem atomic_Uint64_Add.calls (l1002 : List Int) (a1007 : Int) (a1008 : Int) (g1000 : Nat) (A1003 : Option Addr) (m1004 : Nat) (n1005 : Nat) (r : Int × Int) (w : World)  (HGl0 : Aside0 (Gl 0 #[.int .i64 0, .int .i64 0, .int .i64 0, .int .i64 0, .int .i64 0] (fps [b7 g1000 A1003 m1004 n1005 a1007, r6 A1003 m1004 n1005 l1002]) w)) (HS : Aside0 (Sep (fps [b7 g1000 A1003 m1004 n1005 a1007, r6 A1003 m1004 n1005 l1002]) w [b7 g1000 A1003 m1004 n1005 a1007, r6 A1003 m1004 n1005 l1002] w)) (H : Aside0 (atomic_Uint64_Add.f l1002 a1007 a1008 = some r)) :
    Calls Tryd.prog 128 #[.pointer (some ⟨g1000, 1, none⟩), .int .u64 a1008] w fun e w' => e = .returned (.int .u64 r.1) ∧ Sep (fps [b7 g1000 A1003 m1004 n1005 a1007, r6 A1003 m1004 n1005 l1002]) w [b7 g1000 A1003 m1004 n1005 r.2, r6 A1003 m1004 n1005 l1002] w' := by
  generalize (fps [b7 g1000 A1003 m1004 n1005 a1007, r6 A1003 m1004 n1005 l1002]) = FF at HS HGl0 ⊢
  obtain rfl := (row_len (HS.out.at1)).symm
  unfold atomic_Uint64_Add.f at H
  go_enter Tryd.func128, Tryd.ntmps128
  obtain ⟨y1018, HA1019, H⟩ := bind_some H
  have hc1015 : w.cell? ⟨g1000, 1, none⟩ = some (.int .u64 a1007) := blk_cellv (HS.out.at0) 1 rfl
  have hz1017 : w.frozen? ⟨g1000, 1, none⟩ = false := blk_fz (HS.out.at0) 1
  have hn1016 : (callFunc 153 #[.pointer (some ⟨g1000, 1, none⟩), .int .u64 a1008]).run Tryd.prog w = .ok (.value (.int .u64 y1018)) ((World.setCell w ⟨g1000, 1, none⟩ (.int .u64 y1018))) := (some_eq HA1019) ▸ run_call_add Tryd.func153 (by kernel_rfl) (by kernel_rfl) (by kernel_rfl) .u64 (by kernel_rfl) hc1015 hz1017 (by rfl)
  go_wp2_with (first | ((with_reducible refine gate_dst (N := 9) rfl ?_); refine run_on2 (by rfl) (w1 := (World.setCell w ⟨g1000, 1, none⟩ (.int .u64 y1018))) (v := .int .u64 y1018) ?hr ?_; (case hr => first | (go_simp; done) | (go_simp; rfl)); intro w1020 hst; clear hc1015 hz1017; have hq0 : Sep FF w [b7 g1000 A1003 l1002.length n1005 y1018, r6 A1003 l1002.length n1005 l1002] (World.setCell w ⟨g1000, 1, none⟩ (.int .u64 y1018)) := (HS.out).set1 (l1 := []) (l2 := [r6 A1003 l1002.length n1005 l1002]) 1 (.int .u64 y1018); replace HS : Aside0 (Sep FF w [b7 g1000 A1003 l1002.length n1005 y1018, r6 A1003 l1002.length n1005 l1002] w1020) := ⟨by rw [hst]; exact hq0⟩; clear hst hn1016 hq0))
  go_ret
  rw [← some_eq H]
  exact ⟨(by first | rfl | (simp [IntKind.wrap_u32]; done)), HS.out⟩

set_option maxHeartbeats 30000000 in
set_option maxRecDepth 100000 in
theorem store_Store_Get.calls (l976 : List Int) (a981 : Int) (a982 : Int) (g974 : Nat) (A977 : Option Addr) (m978 : Nat) (n979 : Nat) (r : Int × Int) (w : World)  (HGl0 : Aside0 (Gl 0 #[.int .i64 0, .int .i64 0, .int .i64 0, .int .i64 0, .int .i64 0] (fps [b7 g974 A977 m978 n979 a981, r6 A977 m978 n979 l976]) w)) (HS : Aside0 (Sep (fps [b7 g974 A977 m978 n979 a981, r6 A977 m978 n979 l976]) w [b7 g974 A977 m978 n979 a981, r6 A977 m978 n979 l976] w)) (H : Aside0 (store_Store_Get.f l976 a981 a982 = some r)) :
    Calls Tryd.prog 130 #[.pointer (some ⟨g974, 0, none⟩), .int .i64 a982] w fun e w' => e = .returned (.int .u32 r.1) ∧ Sep (fps [b7 g974 A977 m978 n979 a981, r6 A977 m978 n979 l976]) w [b7 g974 A977 m978 n979 r.2, r6 A977 m978 n979 l976] w' := by
  generalize (fps [b7 g974 A977 m978 n979 a981, r6 A977 m978 n979 l976]) = FF at HS HGl0 ⊢
  obtain rfl := (row_len (HS.out.at1)).symm
  unfold store_Store_Get.f at H
  go_enter Tryd.func130, Tryd.ntmps130
  go_wp2_with fail
  obtain ⟨t1030, HA1031, H⟩ := bind_some H
  refine (store_Store_has.calls l976 a981 a982 g974 A977 l976.length n979 t1030 _ ⟨HGl0.out.pass HS.out⟩ ⟨HS.out.begin⟩ HA1031).mono ?_
  rintro e_ w1032 ⟨rfl, hS⟩
  replace HS : Aside0 (Sep FF w [b7 g974 A977 l976.length n979 a981, r6 A977 l976.length n979 l976] w1032) := ⟨HS.out.call hS⟩
  clear hS
  by_cases c1033 : t1030 = true
  · replace H := if_yes c1033 H
    have c1033b0 : t1030 = true := c1033
    have c1033b1 : (!t1030) = false := by rw [c1033b0]; rfl
    try rw [c1033b1]
    clear c1033
    go_wp2_with fail
    obtain ⟨t1034, HA1035, H⟩ := bind_some H
    refine (atomic_Uint64_Add.calls l976 a981 1 g974 A977 l976.length n979 t1034 _ ⟨HGl0.out.pass HS.out⟩ ⟨HS.out.begin⟩ HA1035).mono ?_
    rintro e_ w1036 ⟨rfl, hS⟩
    replace HS : Aside0 (Sep FF w [b7 g974 A977 l976.length n979 t1034.2, r6 A977 l976.length n979 l976] w1036) := ⟨HS.out.call hS⟩
    clear hS
    by_cases c1038 : 0 ≤ a982
    · replace H := if_yes c1038 H
      have c1038b0 : decide (0 ≤ a982) = true := decide_eq_true c1038
      have c1038p : (0 ≤ a982) = True := eq_true c1038
      clear c1038
      by_cases c1039 : a982 < (l976.length : Int)
      · replace H := if_yes c1039 H
        have c1039b0 : decide (a982 < (l976.length : Int)) = true := decide_eq_true c1039
        have c1039p : (a982 < (l976.length : Int)) = True := eq_true c1039
        clear c1039
        have hc1037 : w1036.cell? ⟨g974, 0, none⟩ = some (.slice A977 l976.length n979) := blk_cellv (HS.out.at0) 0 rfl
        obtain ⟨g1040, ea⟩ := row_at (HS.out.at1) (by have := (of_decide_eq_true c1038b0); have := (of_decide_eq_true c1039b0); omega); cases ea
        have hx1041 := C_at_int (row_Ci (HS.out.at1)) a982 (of_decide_eq_true c1038b0) (of_decide_eq_true c1039b0)
        have hx1042 : w1036.cell? ⟨g1040, (a982).toNat, none⟩ = some (.int .u32 (rd l976 a982)) := (row_get 0 (HS.out.at1) a982 (of_decide_eq_true c1038b0) (of_decide_eq_true c1039b0)).1
        go_wp2_with fail
        clear hc1037 hx1041 hx1042
        go_ret
        rw [← some_eq H]
        exact ⟨(by first | rfl | (simp [IntKind.wrap_u32]; done)), HS.out⟩
      · replace H := if_no c1039 H
        have c1039b0 : decide (a982 < (l976.length : Int)) = false := decide_eq_false c1039
        clear c1039
        exact (none_no H).elim
    · replace H := if_no c1038 H
      have c1038b0 : decide (0 ≤ a982) = false := decide_eq_false c1038
      clear c1038
      exact (none_no H).elim
  · replace H := if_no c1033 H
    have c1033b0 : t1030 = false := by simpa using c1033
    have c1033b1 : (!t1030) = true := by rw [c1033b0]; rfl
    try rw [c1033b1]
    clear c1033
    go_wp2_with fail
    go_ret
    rw [← some_eq H]
    exact ⟨(by first | rfl | (simp [IntKind.wrap_u32]; done)), HS.out⟩

set_option maxHeartbeats 30000000 in
set_option maxRecDepth 100000 in
theorem ground_Ground_Reg.calls (l931 : List Int) (a936 : Int) (a937 : Int) (a938 : Int) (a939 : Int) (a940 : Int) (a941 : Int) (g927 : Nat) (g929 : Nat) (A932 : Option Addr) (m933 : Nat) (n934 : Nat) (r : Int × Int) (w : World)  (HGl0 : Aside0 (Gl 0 #[.int .i64 0, .int .i64 0, .int .i64 0, .int .i64 0, .int .i64 0] (fps [b8 g927 g929 a937 a938 a939 a940, b7 g929 A932 m933 n934 a936, r6 A932 m933 n934 l931]) w)) (HS : Aside0 (Sep (fps [b8 g927 g929 a937 a938 a939 a940, b7 g929 A932 m933 n934 a936, r6 A932 m933 n934 l931]) w [b8 g927 g929 a937 a938 a939 a940, b7 g929 A932 m933 n934 a936, r6 A932 m933 n934 l931] w)) (H : Aside0 (ground_Ground_Reg.f l931 a936 a937 a938 a939 a940 a941 = some r)) :
    Calls Tryd.prog 81 #[.pointer (some ⟨g927, 0, none⟩), .int .i64 a941] w fun e w' => e = .returned (.int .i64 r.1) ∧ Sep (fps [b8 g927 g929 a937 a938 a939 a940, b7 g929 A932 m933 n934 a936, r6 A932 m933 n934 l931]) w [b8 g927 g929 a937 a938 a939 a940, b7 g929 A932 m933 n934 r.2, r6 A932 m933 n934 l931] w' := by
  generalize (fps [b8 g927 g929 a937 a938 a939 a940, b7 g929 A932 m933 n934 a936, r6 A932 m933 n934 l931]) = FF at HS HGl0 ⊢
  obtain rfl := (row_len (HS.out.at2)).symm
  unfold ground_Ground_Reg.f at H
  go_enter Tryd.func81, Tryd.ntmps81
  go_wp2_with fail
  obtain ⟨t1046, HA1047, H⟩ := bind_some H
  refine (ground_Ground_all.calls l931 a936 a937 a938 a939 a940 g927 g929 A932 l931.length n934 t1046 _ ⟨HGl0.out.pass HS.out⟩ ⟨HS.out.begin⟩ HA1047).mono ?_
  rintro e_ w1048 ⟨rfl, hS⟩
  replace HS : Aside0 (Sep FF w [b8 g927 g929 a937 a938 a939 a940, b7 g929 A932 l931.length n934 a936, r6 A932 l931.length n934 l931] w1048) := ⟨HS.out.call hS⟩
  clear hS
  go_wp2_with fail
  obtain ⟨t1049, HA1050, H⟩ := bind_some H
  refine (ground_reg.calls a941 t1049 _ ⟨HGl0.out.pass (l := []) HS.out⟩ ⟨Sep.start _⟩ HA1050).mono ?_
  rintro e_ w1051 ⟨rfl, hS⟩
  replace HS : Aside0 (Sep FF w [b8 g927 g929 a937 a938 a939 a940, b7 g929 A932 l931.length n934 a936, r6 A932 l931.length n934 l931] w1051) := ⟨HS.out.call hS⟩
  clear hS
  go_wp2_with fail
  replace HS : Aside0 (Sep FF w [r6 A932 l931.length n934 l931, b8 g927 g929 a937 a938 a939 a940, b7 g929 A932 l931.length n934 a936] w1051) := ⟨HS.out.front 2 (by simp)⟩
  replace HS : Aside0 (Sep FF w [b7 g929 A932 l931.length n934 a936, r6 A932 l931.length n934 l931, b8 g927 g929 a937 a938 a939 a940] w1051) := ⟨HS.out.front 2 (by simp)⟩
  obtain ⟨t1052, HA1053, H⟩ := bind_some H
  refine (store_Store_Get.calls l931 a936 t1049 g929 A932 l931.length n934 t1052 _ ⟨HGl0.out.pass HS.out⟩ ⟨HS.out.begin⟩ HA1053).mono ?_
  rintro e_ w1054 ⟨rfl, hS⟩
  replace HS : Aside0 (Sep FF w [b7 g929 A932 l931.length n934 t1052.2, r6 A932 l931.length n934 l931, b8 g927 g929 a937 a938 a939 a940] w1054) := ⟨HS.out.call hS⟩
  clear hS
  go_wp2_with fail
  go_ret
  rw [← some_eq H]
  exact ⟨(by first | rfl | (simp [IntKind.wrap_u32]; done)), ((((HS.out).front 1 (by simp)).front 1 (by simp)).front 2 (by simp)).keep (l := [b8 g927 g929 a937 a938 a939 a940, b7 g929 A932 l931.length n934 t1052.2, r6 A932 l931.length n934 l931]) (rest := [])⟩

set_option maxHeartbeats 30000000 in
set_option maxRecDepth 100000 in
theorem chain_Len.calls (l849 : List Int) (a854 : Int) (a855 : Int) (a856 : Int) (a857 : Int) (a858 : Int) (a859 : Int) (g845 : Nat) (g847 : Nat) (A850 : Option Addr) (m851 : Nat) (n852 : Nat) (r : Int × Int) (w : World)  (HGl0 : Aside0 (Gl 0 #[.int .i64 0, .int .i64 0, .int .i64 0, .int .i64 0, .int .i64 0] (fps [b8 g845 g847 a855 a856 a857 a858, b7 g847 A850 m851 n852 a854, r6 A850 m851 n852 l849]) w)) (HS : Aside0 (Sep (fps [b8 g845 g847 a855 a856 a857 a858, b7 g847 A850 m851 n852 a854, r6 A850 m851 n852 l849]) w [b8 g845 g847 a855 a856 a857 a858, b7 g847 A850 m851 n852 a854, r6 A850 m851 n852 l849] w)) (H : Aside0 (chain_Len.f l849 a854 a855 a856 a857 a858 a859 = some r)) :
    Calls Tryd.prog 105 #[.pointer (some ⟨g845, 0, none⟩), .int .i64 a859] w fun e w' => e = .returned (.int .i64 r.1) ∧ Sep (fps [b8 g845 g847 a855 a856 a857 a858, b7 g847 A850 m851 n852 a854, r6 A850 m851 n852 l849]) w [b8 g845 g847 a855 a856 a857 a858, b7 g847 A850 m851 n852 r.2, r6 A850 m851 n852 l849] w' := by
  generalize (fps [b8 g845 g847 a855 a856 a857 a858, b7 g847 A850 m851 n852 a854, r6 A850 m851 n852 l849]) = FF at HS HGl0 ⊢
  obtain rfl := (row_len (HS.out.at2)).symm
  unfold chain_Len.f at H
  go_enter Tryd.func105, Tryd.ntmps105
  go_wp2_with fail
  obtain ⟨t1058, HA1059, H⟩ := bind_some H
  refine (chain_of.calls l849 a854 a855 a856 a857 a858 a859 g845 g847 A850 l849.length n852 t1058 _ ⟨HGl0.out.pass HS.out⟩ ⟨HS.out.begin⟩ HA1059).mono ?_
  rintro e_ w1060 ⟨rfl, hS⟩
  replace HS : Aside0 (Sep FF w [b8 g845 g847 a855 a856 a857 a858, b7 g847 A850 l849.length n852 a854, r6 A850 l849.length n852 l849] w1060) := ⟨HS.out.call hS⟩
  clear hS
  by_cases c1071 : t1058.2.2.2 = true
  · replace H := if_yes c1071 H
    have c1071b0 : t1058.2.2.2 = true := c1071
    have c1071b1 : (!t1058.2.2.2) = false := by rw [c1071b0]; rfl
    try rw [c1071b1]
    clear c1071
    go_wp2_with (first | ((with_reducible refine gate_dst (N := 5) rfl ?_); refine box_on ?hg (N := 5) ?hd (cs := #[.int .i64 0, .int .i64 0, .int .i64 0]) (t := 166) ?hr ?_; (case hd => rfl); (case hg => rfl); (case hr => first | (go_simp; done) | (go_simp; rfl)); intro g1061 hg w1062 hbox hb; replace HS : Aside0 (Sep FF w [b8 g845 g847 a855 a856 a857 a858, b7 g847 A850 l849.length n852 a854, r6 A850 l849.length n852 l849, b9 g1061 0 0 0] w1062) := ⟨HS.out.box hg hbox hb⟩; clear hg hbox hb; have hc1064 : w1062.cell? ⟨g1061, 0, none⟩ = some (.int .i64 0) := blk_cellv (HS.out.at3) 0 rfl; have hz1065 : w1062.frozen? ⟨g1061, 0, none⟩ = false := blk_fz (HS.out.at3) 0; have hc1066 : w1062.cell? ⟨g1061, 1, none⟩ = some (.int .i64 0) := blk_cellv (HS.out.at3) 1 rfl; have hz1067 : w1062.frozen? ⟨g1061, 1, none⟩ = false := blk_fz (HS.out.at3) 1; have hc1068 : w1062.cell? ⟨g1061, 2, none⟩ = some (.int .i64 0) := blk_cellv (HS.out.at3) 2 rfl; have hz1069 : w1062.frozen? ⟨g1061, 2, none⟩ = false := blk_fz (HS.out.at3) 2) | ((with_reducible refine gate_store (t := 166) (p := 5) rfl ?_); refine store_event (w1 := (World.setCell (World.setCell (World.setCell w1062 ⟨g1061, 0, none⟩ (.int .i64 t1058.1)) ⟨g1061, 1, none⟩ (.int .i64 t1058.2.1)) ⟨g1061, 2, none⟩ (.int .i64 t1058.2.2.1))) rfl (t := 166) (p := 5) rfl rfl ?hr ?_; (case hr => first | (go_simp; done) | (go_simp; rfl)); intro w1070 hst; clear hc1064 hz1065 hc1066 hz1067 hc1068 hz1069; replace HS : Aside0 (Sep FF w [b8 g845 g847 a855 a856 a857 a858, b7 g847 A850 l849.length n852 a854, r6 A850 l849.length n852 l849, b9 g1061 t1058.1 t1058.2.1 t1058.2.2.1] w1070) := ⟨by rw [hst]; exact HS.out.setAll (l1 := [b8 g845 g847 a855 a856 a857 a858, b7 g847 A850 l849.length n852 a854, r6 A850 l849.length n852 l849]) (l2 := []) [.int .i64 t1058.1, .int .i64 t1058.2.1, .int .i64 t1058.2.2.1] rfl⟩; clear hst; have hc1072 : w1070.cell? ⟨g1061, 2, none⟩ = some (.int .i64 t1058.2.2.1) := blk_cellv (HS.out.at3) 2 rfl))
    clear hc1072
    obtain ⟨t1073, HA1074, H⟩ := bind_some H
    refine (ground_Ground_Reg.calls l849 a854 a855 a856 a857 a858 t1058.2.2.1 g845 g847 A850 l849.length n852 t1073 _ ⟨HGl0.out.pass HS.out⟩ ⟨HS.out.begin⟩ HA1074).mono ?_
    rintro e_ w1075 ⟨rfl, hS⟩
    replace HS : Aside0 (Sep FF w [b8 g845 g847 a855 a856 a857 a858, b7 g847 A850 l849.length n852 t1073.2, r6 A850 l849.length n852 l849, b9 g1061 t1058.1 t1058.2.1 t1058.2.2.1] w1075) := ⟨HS.out.call hS⟩
    clear hS
    replace HS : Aside0 (Sep FF w [b8 g845 g847 a855 a856 a857 a858, b7 g847 A850 l849.length n852 t1073.2, r6 A850 l849.length n852 l849] w1075) := ⟨HS.out.sub (.cons_cons _ (.cons_cons _ (.cons_cons _ (.cons _ .slnil))))⟩
    go_wp2_with fail
    go_ret
    rw [← some_eq H]
    exact ⟨(by first | rfl | (simp [IntKind.wrap_u32]; done)), HS.out⟩
  · replace H := if_no c1071 H
    have c1071b0 : t1058.2.2.2 = false := by simpa using c1071
    have c1071b1 : (!t1058.2.2.2) = true := by rw [c1071b0]; rfl
    try rw [c1071b1]
    clear c1071
    go_wp2_with (first | ((with_reducible refine gate_dst (N := 5) rfl ?_); refine box_on ?hg (N := 5) ?hd (cs := #[.int .i64 0, .int .i64 0, .int .i64 0]) (t := 166) ?hr ?_; (case hd => rfl); (case hg => rfl); (case hr => first | (go_simp; done) | (go_simp; rfl)); intro g1061 hg w1062 hbox hb; replace HS : Aside0 (Sep FF w [b8 g845 g847 a855 a856 a857 a858, b7 g847 A850 l849.length n852 a854, r6 A850 l849.length n852 l849, b9 g1061 0 0 0] w1062) := ⟨HS.out.box hg hbox hb⟩; clear hg hbox hb; have hc1064 : w1062.cell? ⟨g1061, 0, none⟩ = some (.int .i64 0) := blk_cellv (HS.out.at3) 0 rfl; have hz1065 : w1062.frozen? ⟨g1061, 0, none⟩ = false := blk_fz (HS.out.at3) 0; have hc1066 : w1062.cell? ⟨g1061, 1, none⟩ = some (.int .i64 0) := blk_cellv (HS.out.at3) 1 rfl; have hz1067 : w1062.frozen? ⟨g1061, 1, none⟩ = false := blk_fz (HS.out.at3) 1; have hc1068 : w1062.cell? ⟨g1061, 2, none⟩ = some (.int .i64 0) := blk_cellv (HS.out.at3) 2 rfl; have hz1069 : w1062.frozen? ⟨g1061, 2, none⟩ = false := blk_fz (HS.out.at3) 2) | ((with_reducible refine gate_store (t := 166) (p := 5) rfl ?_); refine store_event (w1 := (World.setCell (World.setCell (World.setCell w1062 ⟨g1061, 0, none⟩ (.int .i64 t1058.1)) ⟨g1061, 1, none⟩ (.int .i64 t1058.2.1)) ⟨g1061, 2, none⟩ (.int .i64 t1058.2.2.1))) rfl (t := 166) (p := 5) rfl rfl ?hr ?_; (case hr => first | (go_simp; done) | (go_simp; rfl)); intro w1070 hst; clear hc1064 hz1065 hc1066 hz1067 hc1068 hz1069; replace HS : Aside0 (Sep FF w [b8 g845 g847 a855 a856 a857 a858, b7 g847 A850 l849.length n852 a854, r6 A850 l849.length n852 l849, b9 g1061 t1058.1 t1058.2.1 t1058.2.2.1] w1070) := ⟨by rw [hst]; exact HS.out.setAll (l1 := [b8 g845 g847 a855 a856 a857 a858, b7 g847 A850 l849.length n852 a854, r6 A850 l849.length n852 l849]) (l2 := []) [.int .i64 t1058.1, .int .i64 t1058.2.1, .int .i64 t1058.2.2.1] rfl⟩; clear hst; replace HS : Aside0 (Sep FF w [b8 g845 g847 a855 a856 a857 a858, b7 g847 A850 l849.length n852 a854, r6 A850 l849.length n852 l849] w1070) := ⟨HS.out.sub (.cons_cons _ (.cons_cons _ (.cons_cons _ (.cons _ .slnil))))⟩))
    go_ret
    rw [← some_eq H]
    exact ⟨(by first | rfl | (simp [IntKind.wrap_u32]; done)), HS.out⟩

set_option maxHeartbeats 30000000 in
set_option maxRecDepth 100000 in
theorem ground_Ground_Conf.calls (l1089 : List Int) (a1094 : Int) (a1095 : Int) (a1096 : Int) (a1097 : Int) (a1098 : Int) (g1085 : Nat) (g1087 : Nat) (A1090 : Option Addr) (m1091 : Nat) (n1092 : Nat) (r : Int × Int × Int × Int) (w : World)  (HGl0 : Aside0 (Gl 0 #[.int .i64 0, .int .i64 0, .int .i64 0, .int .i64 0, .int .i64 0] (fps [b8 g1085 g1087 a1095 a1096 a1097 a1098, b7 g1087 A1090 m1091 n1092 a1094, r6 A1090 m1091 n1092 l1089]) w)) (HS : Aside0 (Sep (fps [b8 g1085 g1087 a1095 a1096 a1097 a1098, b7 g1087 A1090 m1091 n1092 a1094, r6 A1090 m1091 n1092 l1089]) w [b8 g1085 g1087 a1095 a1096 a1097 a1098, b7 g1087 A1090 m1091 n1092 a1094, r6 A1090 m1091 n1092 l1089] w)) (H : Aside0 (ground_Ground_Conf.f l1089 a1094 a1095 a1096 a1097 a1098 = some r)) :
    Calls Tryd.prog 86 #[.pointer (some ⟨g1085, 0, none⟩)] w fun e w' => e = .returned (.agg #[.int .i64 r.1, .int .i64 r.2.1, .int .i64 r.2.2.1, .int .i64 r.2.2.2]) ∧ Sep (fps [b8 g1085 g1087 a1095 a1096 a1097 a1098, b7 g1087 A1090 m1091 n1092 a1094, r6 A1090 m1091 n1092 l1089]) w [b8 g1085 g1087 a1095 a1096 a1097 a1098, b7 g1087 A1090 m1091 n1092 a1094, r6 A1090 m1091 n1092 l1089] w' := by
  generalize (fps [b8 g1085 g1087 a1095 a1096 a1097 a1098, b7 g1087 A1090 m1091 n1092 a1094, r6 A1090 m1091 n1092 l1089]) = FF at HS HGl0 ⊢
  obtain rfl := (row_len (HS.out.at2)).symm
  unfold ground_Ground_Conf.f at H
  go_enter Tryd.func86, Tryd.ntmps86
  go_wp2_with (first | ((with_reducible refine gate_dst (N := 2) rfl ?_); refine box_on ?hg (N := 2) ?hd (cs := #[.int .i64 0, .int .i64 0, .int .i64 0, .int .i64 0]) (t := 30) ?hr ?_; (case hd => rfl); (case hg => rfl); (case hr => first | (go_simp; done) | (go_simp; rfl)); intro g1099 hg w1100 hbox hb; replace HS : Aside0 (Sep FF w [b8 g1085 g1087 a1095 a1096 a1097 a1098, b7 g1087 A1090 l1089.length n1092 a1094, r6 A1090 l1089.length n1092 l1089, b2 g1099 0 0 0 0] w1100) := ⟨HS.out.box hg hbox hb⟩; clear hg hbox hb; have hc1102 : w1100.cell? ⟨g1085, 1, none⟩ = some (.int .i64 a1095) := blk_cellv (HS.out.at0) 1 rfl; have hc1103 : w1100.cell? ⟨g1085, 2, none⟩ = some (.int .i64 a1096) := blk_cellv (HS.out.at0) 2 rfl; have hc1104 : w1100.cell? ⟨g1085, 3, none⟩ = some (.int .i64 a1097) := blk_cellv (HS.out.at0) 3 rfl; have hc1105 : w1100.cell? ⟨g1085, 4, none⟩ = some (.int .i64 a1098) := blk_cellv (HS.out.at0) 4 rfl; have hc1106 : w1100.cell? ⟨g1099, 0, none⟩ = some (.int .i64 0) := blk_cellv (HS.out.at3) 0 rfl; have hz1107 : w1100.frozen? ⟨g1099, 0, none⟩ = false := blk_fz (HS.out.at3) 0; have hc1108 : w1100.cell? ⟨g1099, 1, none⟩ = some (.int .i64 0) := blk_cellv (HS.out.at3) 1 rfl; have hz1109 : w1100.frozen? ⟨g1099, 1, none⟩ = false := blk_fz (HS.out.at3) 1; have hc1110 : w1100.cell? ⟨g1099, 2, none⟩ = some (.int .i64 0) := blk_cellv (HS.out.at3) 2 rfl; have hz1111 : w1100.frozen? ⟨g1099, 2, none⟩ = false := blk_fz (HS.out.at3) 2; have hc1112 : w1100.cell? ⟨g1099, 3, none⟩ = some (.int .i64 0) := blk_cellv (HS.out.at3) 3 rfl; have hz1113 : w1100.frozen? ⟨g1099, 3, none⟩ = false := blk_fz (HS.out.at3) 3) | ((with_reducible refine gate_store (t := 30) (p := 2) rfl ?_); refine store_event (w1 := (World.setCell (World.setCell (World.setCell (World.setCell w1100 ⟨g1099, 0, none⟩ (.int .i64 a1095)) ⟨g1099, 1, none⟩ (.int .i64 a1096)) ⟨g1099, 2, none⟩ (.int .i64 a1097)) ⟨g1099, 3, none⟩ (.int .i64 a1098))) rfl (t := 30) (p := 2) rfl rfl ?hr ?_; (case hr => first | (go_simp; done) | (go_simp; rfl)); intro w1114 hst; clear hc1102 hc1103 hc1104 hc1105 hc1106 hz1107 hc1108 hz1109 hc1110 hz1111 hc1112 hz1113; replace HS : Aside0 (Sep FF w [b8 g1085 g1087 a1095 a1096 a1097 a1098, b7 g1087 A1090 l1089.length n1092 a1094, r6 A1090 l1089.length n1092 l1089, b2 g1099 a1095 a1096 a1097 a1098] w1114) := ⟨by rw [hst]; exact HS.out.setAll (l1 := [b8 g1085 g1087 a1095 a1096 a1097 a1098, b7 g1087 A1090 l1089.length n1092 a1094, r6 A1090 l1089.length n1092 l1089]) (l2 := []) [.int .i64 a1095, .int .i64 a1096, .int .i64 a1097, .int .i64 a1098] rfl⟩; clear hst))
  have hc1115 : w1114.cell? ⟨g1099, 0, none⟩ = some (.int .i64 a1095) := blk_cellv (HS.out.at3) 0 rfl
  have hc1116 : w1114.cell? ⟨g1099, 1, none⟩ = some (.int .i64 a1096) := blk_cellv (HS.out.at3) 1 rfl
  have hc1117 : w1114.cell? ⟨g1099, 2, none⟩ = some (.int .i64 a1097) := blk_cellv (HS.out.at3) 2 rfl
  have hc1118 : w1114.cell? ⟨g1099, 3, none⟩ = some (.int .i64 a1098) := blk_cellv (HS.out.at3) 3 rfl
  refine bodyPost_ret (v := .agg #[.int .i64 a1095, .int .i64 a1096, .int .i64 a1097, .int .i64 a1098]) (by simp [results, Tryd.results86, go_sem, hc1115, hc1116, hc1117, hc1118]) rfl ?_
  rw [← some_eq H]
  exact ⟨(by first | rfl | (simp [IntKind.wrap_u32]; done)), HS.out.sub (.cons_cons _ (.cons_cons _ (.cons_cons _ (.cons _ .slnil))))⟩

set_option maxHeartbeats 30000000 in
set_option maxRecDepth 100000 in
theorem ground_Ground_word.calls (l1260 : List Int) (a1265 : Int) (a1266 : Int) (a1267 : Int) (a1268 : Int) (a1269 : Int) (a1270 : Int) (a1271 : Int) (g1256 : Nat) (g1258 : Nat) (A1261 : Option Addr) (m1262 : Nat) (n1263 : Nat) (r : Int) (w : World)  (HGl0 : Aside0 (Gl 0 #[.int .i64 0, .int .i64 0, .int .i64 0, .int .i64 0, .int .i64 0] (fps [b8 g1256 g1258 a1266 a1267 a1268 a1269, b7 g1258 A1261 m1262 n1263 a1265, r6 A1261 m1262 n1263 l1260]) w)) (HS : Aside0 (Sep (fps [b8 g1256 g1258 a1266 a1267 a1268 a1269, b7 g1258 A1261 m1262 n1263 a1265, r6 A1261 m1262 n1263 l1260]) w [b8 g1256 g1258 a1266 a1267 a1268 a1269, b7 g1258 A1261 m1262 n1263 a1265, r6 A1261 m1262 n1263 l1260] w)) (H : Aside0 (ground_Ground_word.f l1260 a1265 a1266 a1267 a1268 a1269 a1270 a1271 = some r)) :
    Calls Tryd.prog 72 #[.pointer (some ⟨g1256, 0, none⟩), .int .i64 a1270, .int .i64 a1271] w fun e w' => e = .returned (.int .i64 r) ∧ Sep (fps [b8 g1256 g1258 a1266 a1267 a1268 a1269, b7 g1258 A1261 m1262 n1263 a1265, r6 A1261 m1262 n1263 l1260]) w [b8 g1256 g1258 a1266 a1267 a1268 a1269, b7 g1258 A1261 m1262 n1263 a1265, r6 A1261 m1262 n1263 l1260] w' := by
  generalize (fps [b8 g1256 g1258 a1266 a1267 a1268 a1269, b7 g1258 A1261 m1262 n1263 a1265, r6 A1261 m1262 n1263 l1260]) = FF at HS HGl0 ⊢
  obtain rfl := (row_len (HS.out.at2)).symm
  unfold ground_Ground_word.f at H
  go_enter Tryd.func72, Tryd.ntmps72
  go_wp2_with fail
  obtain ⟨t1272, HA1273, H⟩ := bind_some H
  refine (ground_Ground_Conf.calls l1260 a1265 a1266 a1267 a1268 a1269 g1256 g1258 A1261 l1260.length n1263 t1272 _ ⟨HGl0.out.pass HS.out⟩ ⟨HS.out.begin⟩ HA1273).mono ?_
  rintro e_ w1274 ⟨rfl, hS⟩
  replace HS : Aside0 (Sep FF w [b8 g1256 g1258 a1266 a1267 a1268 a1269, b7 g1258 A1261 l1260.length n1263 a1265, r6 A1261 l1260.length n1263 l1260] w1274) := ⟨HS.out.call hS⟩
  clear hS
  go_wp2_with (first | ((with_reducible refine gate_dst (N := 7) rfl ?_); refine box_on ?hg (N := 7) ?hd (cs := #[.int .i64 0, .int .i64 0, .int .i64 0, .int .i64 0]) (t := 30) ?hr ?_; (case hd => rfl); (case hg => rfl); (case hr => first | (go_simp; done) | (go_simp; rfl)); intro g1275 hg w1276 hbox hb; replace HS : Aside0 (Sep FF w [b8 g1256 g1258 a1266 a1267 a1268 a1269, b7 g1258 A1261 l1260.length n1263 a1265, r6 A1261 l1260.length n1263 l1260, b2 g1275 0 0 0 0] w1276) := ⟨HS.out.box hg hbox hb⟩; clear hg hbox hb; have hc1278 : w1276.cell? ⟨g1275, 0, none⟩ = some (.int .i64 0) := blk_cellv (HS.out.at3) 0 rfl; have hz1279 : w1276.frozen? ⟨g1275, 0, none⟩ = false := blk_fz (HS.out.at3) 0; have hc1280 : w1276.cell? ⟨g1275, 1, none⟩ = some (.int .i64 0) := blk_cellv (HS.out.at3) 1 rfl; have hz1281 : w1276.frozen? ⟨g1275, 1, none⟩ = false := blk_fz (HS.out.at3) 1; have hc1282 : w1276.cell? ⟨g1275, 2, none⟩ = some (.int .i64 0) := blk_cellv (HS.out.at3) 2 rfl; have hz1283 : w1276.frozen? ⟨g1275, 2, none⟩ = false := blk_fz (HS.out.at3) 2; have hc1284 : w1276.cell? ⟨g1275, 3, none⟩ = some (.int .i64 0) := blk_cellv (HS.out.at3) 3 rfl; have hz1285 : w1276.frozen? ⟨g1275, 3, none⟩ = false := blk_fz (HS.out.at3) 3) | ((with_reducible refine gate_store (t := 30) (p := 7) rfl ?_); refine store_event (w1 := (World.setCell (World.setCell (World.setCell (World.setCell w1276 ⟨g1275, 0, none⟩ (.int .i64 t1272.1)) ⟨g1275, 1, none⟩ (.int .i64 t1272.2.1)) ⟨g1275, 2, none⟩ (.int .i64 t1272.2.2.1)) ⟨g1275, 3, none⟩ (.int .i64 t1272.2.2.2))) rfl (t := 30) (p := 7) rfl rfl ?hr ?_; (case hr => first | (go_simp; done) | (go_simp; rfl)); intro w1286 hst; clear hc1278 hz1279 hc1280 hz1281 hc1282 hz1283 hc1284 hz1285; replace HS : Aside0 (Sep FF w [b8 g1256 g1258 a1266 a1267 a1268 a1269, b7 g1258 A1261 l1260.length n1263 a1265, r6 A1261 l1260.length n1263 l1260, b2 g1275 t1272.1 t1272.2.1 t1272.2.2.1 t1272.2.2.2] w1286) := ⟨by rw [hst]; exact HS.out.setAll (l1 := [b8 g1256 g1258 a1266 a1267 a1268 a1269, b7 g1258 A1261 l1260.length n1263 a1265, r6 A1261 l1260.length n1263 l1260]) (l2 := []) [.int .i64 t1272.1, .int .i64 t1272.2.1, .int .i64 t1272.2.2.1, .int .i64 t1272.2.2.2] rfl⟩; clear hst; have hc1287 : w1286.cell? ⟨g1275, 0, none⟩ = some (.int .i64 t1272.1) := blk_cellv (HS.out.at3) 0 rfl))
  clear hc1287
  obtain ⟨t1288, HA1289, H⟩ := bind_some H
  refine (ground_within.calls a1270 t1272.1 0 t1288 _ ⟨HGl0.out.pass (l := []) HS.out⟩ ⟨Sep.start _⟩ HA1289).mono ?_
  rintro e_ w1290 ⟨rfl, hS⟩
  replace HS : Aside0 (Sep FF w [b8 g1256 g1258 a1266 a1267 a1268 a1269, b7 g1258 A1261 l1260.length n1263 a1265, r6 A1261 l1260.length n1263 l1260, b2 g1275 t1272.1 t1272.2.1 t1272.2.2.1 t1272.2.2.2] w1290) := ⟨HS.out.call hS⟩
  clear hS
  by_cases c1291 : t1288 = (-1)
  · replace H := if_yes c1291 H
    have c1291b0 : (t1288 == (-1)) = true := beq_iff_eq.mpr c1291
    have c1291b1 : (t1288 != (-1)) = false := bne_eq_false_iff_eq.mpr c1291
    clear c1291
    replace HS : Aside0 (Sep FF w [b8 g1256 g1258 a1266 a1267 a1268 a1269, b7 g1258 A1261 l1260.length n1263 a1265, r6 A1261 l1260.length n1263 l1260] w1290) := ⟨HS.out.sub (.cons_cons _ (.cons_cons _ (.cons_cons _ (.cons _ .slnil))))⟩
    go_wp2_with fail
    go_ret
    rw [← some_eq H]
    exact ⟨(by first | rfl | (simp [IntKind.wrap_u32]; done)), HS.out⟩
  · replace H := if_no c1291 H
    have c1291b0 : (t1288 == (-1)) = false := beq_eq_false_iff_ne.mpr c1291
    have c1291b1 : (t1288 != (-1)) = true := bne_iff_ne.mpr c1291
    clear c1291
    have hc1292 : w1290.cell? ⟨g1275, 1, none⟩ = some (.int .i64 t1272.2.1) := blk_cellv (HS.out.at3) 1 rfl
    have hc1293 : w1290.cell? ⟨g1275, 2, none⟩ = some (.int .i64 t1272.2.2.1) := blk_cellv (HS.out.at3) 2 rfl
    go_wp2_with fail
    clear hc1292 hc1293
    obtain ⟨t1294, HA1295, H⟩ := bind_some H
    refine (ground_within.calls a1271 t1272.2.1 (wrap64 ((wrap64 (24 + t1272.2.2.1)) + (wrap64 (a1270 * t1272.2.1)))) t1294 _ ⟨HGl0.out.pass (l := []) HS.out⟩ ⟨Sep.start _⟩ HA1295).mono ?_
    rintro e_ w1296 ⟨rfl, hS⟩
    replace HS : Aside0 (Sep FF w [b8 g1256 g1258 a1266 a1267 a1268 a1269, b7 g1258 A1261 l1260.length n1263 a1265, r6 A1261 l1260.length n1263 l1260, b2 g1275 t1272.1 t1272.2.1 t1272.2.2.1 t1272.2.2.2] w1296) := ⟨HS.out.call hS⟩
    clear hS
    replace HS : Aside0 (Sep FF w [b8 g1256 g1258 a1266 a1267 a1268 a1269, b7 g1258 A1261 l1260.length n1263 a1265, r6 A1261 l1260.length n1263 l1260] w1296) := ⟨HS.out.sub (.cons_cons _ (.cons_cons _ (.cons_cons _ (.cons _ .slnil))))⟩
    go_wp2_with fail
    go_ret
    rw [← some_eq H]
    exact ⟨(by first | rfl | (simp [IntKind.wrap_u32]; done)), HS.out⟩

set_option maxHeartbeats 30000000 in
set_option maxRecDepth 100000 in
theorem store_Store_Put.calls (l1303 : List Int) (a1308 : Int) (a1309 : Int) (a1310 : Int) (g1301 : Nat) (A1304 : Option Addr) (m1305 : Nat) (n1306 : Nat) (r : Bool × Int × List Int) (w : World)  (HGl0 : Aside0 (Gl 0 #[.int .i64 0, .int .i64 0, .int .i64 0, .int .i64 0, .int .i64 0] (fps [b7 g1301 A1304 m1305 n1306 a1308, r6 A1304 m1305 n1306 l1303]) w)) (HS : Aside0 (Sep (fps [b7 g1301 A1304 m1305 n1306 a1308, r6 A1304 m1305 n1306 l1303]) w [b7 g1301 A1304 m1305 n1306 a1308, r6 A1304 m1305 n1306 l1303] w)) (H : Aside0 (store_Store_Put.f l1303 a1308 a1309 a1310 = some r)) :
    Calls Tryd.prog 71 #[.pointer (some ⟨g1301, 0, none⟩), .int .i64 a1309, .int .u32 a1310] w fun e w' => e = .returned (.bool r.1) ∧ Sep (fps [b7 g1301 A1304 m1305 n1306 a1308, r6 A1304 m1305 n1306 l1303]) w [b7 g1301 A1304 m1305 n1306 r.2.1, r6 A1304 m1305 n1306 r.2.2] w' := by
  generalize (fps [b7 g1301 A1304 m1305 n1306 a1308, r6 A1304 m1305 n1306 l1303]) = FF at HS HGl0 ⊢
  obtain rfl := (row_len (HS.out.at1)).symm
  unfold store_Store_Put.f at H
  go_enter Tryd.func71, Tryd.ntmps71
  go_wp2_with fail
  obtain ⟨t1327, HA1328, H⟩ := bind_some H
  refine (store_Store_has.calls l1303 a1308 a1309 g1301 A1304 l1303.length n1306 t1327 _ ⟨HGl0.out.pass HS.out⟩ ⟨HS.out.begin⟩ HA1328).mono ?_
  rintro e_ w1329 ⟨rfl, hS⟩
  replace HS : Aside0 (Sep FF w [b7 g1301 A1304 l1303.length n1306 a1308, r6 A1304 l1303.length n1306 l1303] w1329) := ⟨HS.out.call hS⟩
  clear hS
  by_cases c1330 : t1327 = true
  · replace H := if_yes c1330 H
    have c1330b0 : t1327 = true := c1330
    have c1330b1 : (!t1327) = false := by rw [c1330b0]; rfl
    try rw [c1330b1]
    clear c1330
    go_wp2_with fail
    obtain ⟨t1331, HA1332, H⟩ := bind_some H
    refine (atomic_Uint64_Add.calls l1303 a1308 1 g1301 A1304 l1303.length n1306 t1331 _ ⟨HGl0.out.pass HS.out⟩ ⟨HS.out.begin⟩ HA1332).mono ?_
    rintro e_ w1333 ⟨rfl, hS⟩
    replace HS : Aside0 (Sep FF w [b7 g1301 A1304 l1303.length n1306 t1331.2, r6 A1304 l1303.length n1306 l1303] w1333) := ⟨HS.out.call hS⟩
    clear hS
    by_cases c1335 : 0 ≤ a1309
    · replace H := if_yes c1335 H
      have c1335b0 : decide (0 ≤ a1309) = true := decide_eq_true c1335
      have c1335p : (0 ≤ a1309) = True := eq_true c1335
      clear c1335
      by_cases c1336 : a1309 < (l1303.length : Int)
      · replace H := if_yes c1336 H
        have c1336b0 : decide (a1309 < (l1303.length : Int)) = true := decide_eq_true c1336
        have c1336p : (a1309 < (l1303.length : Int)) = True := eq_true c1336
        clear c1336
        obtain ⟨y1339, HA1340, H⟩ := bind_some H
        have hc1334 : w1333.cell? ⟨g1301, 0, none⟩ = some (.slice A1304 l1303.length n1306) := blk_cellv (HS.out.at0) 0 rfl
        obtain ⟨g1337, ea⟩ := row_at (HS.out.at1) (by have := (of_decide_eq_true c1335b0); have := (of_decide_eq_true c1336b0); omega); cases ea
        have hx1341 := (row_get 0 (HS.out.at1) a1309 (of_decide_eq_true c1335b0) (of_decide_eq_true c1336b0)).1
        have hz1342 := (row_get 0 (HS.out.at1) a1309 (of_decide_eq_true c1335b0) (of_decide_eq_true c1336b0)).2
        go_wp2_with (first | ((with_reducible refine gate_store (t := 33) (p := 21) rfl ?_); refine store_event (w1 := World.setCell w1333 ⟨g1337, (a1309).toNat, none⟩ (.int .u32 a1310)) rfl (t := 33) (p := 21) rfl rfl ?hr ?_; (case hr => first | (go_simp; done) | (go_simp; rfl)); intro w1338 hst; clear hc1334 hx1341 hz1342; have hq := Sep.rowset (l1 := [b7 g1301 (some ⟨g1337, 0, none⟩) l1303.length n1306 t1331.2]) (l2 := []) HS.out a1309 a1310; rw [← hst, some_eq HA1340] at hq; replace HS : Aside0 (Sep FF w [b7 g1301 (some ⟨g1337, 0, none⟩) l1303.length n1306 t1331.2, r6 (some ⟨g1337, 0, none⟩) l1303.length n1306 y1339] w1338) := ⟨hq⟩; clear hst hq))
        go_ret
        rw [← some_eq H]
        exact ⟨(by first | rfl | (simp [IntKind.wrap_u32]; done)), HS.out⟩
      · replace H := if_no c1336 H
        have c1336b0 : decide (a1309 < (l1303.length : Int)) = false := decide_eq_false c1336
        clear c1336
        exact (none_no H).elim
    · replace H := if_no c1335 H
      have c1335b0 : decide (0 ≤ a1309) = false := decide_eq_false c1335
      clear c1335
      exact (none_no H).elim
  · replace H := if_no c1330 H
    have c1330b0 : t1327 = false := by simpa using c1330
    have c1330b1 : (!t1327) = true := by rw [c1330b0]; rfl
    try rw [c1330b1]
    clear c1330
    go_wp2_with fail
    go_ret
    rw [← some_eq H]
    exact ⟨(by first | rfl | (simp [IntKind.wrap_u32]; done)), HS.out⟩

set_option maxHeartbeats 30000000 in
set_option maxRecDepth 100000 in
theorem ground_Ground_SetWord.calls (l1239 : List Int) (a1244 : Int) (a1245 : Int) (a1246 : Int) (a1247 : Int) (a1248 : Int) (a1249 : Int) (a1250 : Int) (a1251 : Int) (g1235 : Nat) (g1237 : Nat) (A1240 : Option Addr) (m1241 : Nat) (n1242 : Nat) (r : Bool × Int × List Int) (w : World)  (HGl0 : Aside0 (Gl 0 #[.int .i64 0, .int .i64 0, .int .i64 0, .int .i64 0, .int .i64 0] (fps [b8 g1235 g1237 a1245 a1246 a1247 a1248, b7 g1237 A1240 m1241 n1242 a1244, r6 A1240 m1241 n1242 l1239]) w)) (HS : Aside0 (Sep (fps [b8 g1235 g1237 a1245 a1246 a1247 a1248, b7 g1237 A1240 m1241 n1242 a1244, r6 A1240 m1241 n1242 l1239]) w [b8 g1235 g1237 a1245 a1246 a1247 a1248, b7 g1237 A1240 m1241 n1242 a1244, r6 A1240 m1241 n1242 l1239] w)) (H : Aside0 (ground_Ground_SetWord.f l1239 a1244 a1245 a1246 a1247 a1248 a1249 a1250 a1251 = some r)) :
    Calls Tryd.prog 17 #[.pointer (some ⟨g1235, 0, none⟩), .int .i64 a1249, .int .i64 a1250, .int .u32 a1251] w fun e w' => e = .returned (.bool r.1) ∧ Sep (fps [b8 g1235 g1237 a1245 a1246 a1247 a1248, b7 g1237 A1240 m1241 n1242 a1244, r6 A1240 m1241 n1242 l1239]) w [b8 g1235 g1237 a1245 a1246 a1247 a1248, b7 g1237 A1240 m1241 n1242 r.2.1, r6 A1240 m1241 n1242 r.2.2] w' := by
  generalize (fps [b8 g1235 g1237 a1245 a1246 a1247 a1248, b7 g1237 A1240 m1241 n1242 a1244, r6 A1240 m1241 n1242 l1239]) = FF at HS HGl0 ⊢
  obtain rfl := (row_len (HS.out.at2)).symm
  unfold ground_Ground_SetWord.f at H
  go_enter Tryd.func17, Tryd.ntmps17
  go_wp2_with fail
  obtain ⟨t1346, HA1347, H⟩ := bind_some H
  refine (ground_Ground_all.calls l1239 a1244 a1245 a1246 a1247 a1248 g1235 g1237 A1240 l1239.length n1242 t1346 _ ⟨HGl0.out.pass HS.out⟩ ⟨HS.out.begin⟩ HA1347).mono ?_
  rintro e_ w1348 ⟨rfl, hS⟩
  replace HS : Aside0 (Sep FF w [b8 g1235 g1237 a1245 a1246 a1247 a1248, b7 g1237 A1240 l1239.length n1242 a1244, r6 A1240 l1239.length n1242 l1239] w1348) := ⟨HS.out.call hS⟩
  clear hS
  go_wp2_with fail
  obtain ⟨t1349, HA1350, H⟩ := bind_some H
  refine (ground_Ground_word.calls l1239 a1244 a1245 a1246 a1247 a1248 a1249 a1250 g1235 g1237 A1240 l1239.length n1242 t1349 _ ⟨HGl0.out.pass HS.out⟩ ⟨HS.out.begin⟩ HA1350).mono ?_
  rintro e_ w1351 ⟨rfl, hS⟩
  replace HS : Aside0 (Sep FF w [b8 g1235 g1237 a1245 a1246 a1247 a1248, b7 g1237 A1240 l1239.length n1242 a1244, r6 A1240 l1239.length n1242 l1239] w1351) := ⟨HS.out.call hS⟩
  clear hS
  go_wp2_with fail
  replace HS : Aside0 (Sep FF w [r6 A1240 l1239.length n1242 l1239, b8 g1235 g1237 a1245 a1246 a1247 a1248, b7 g1237 A1240 l1239.length n1242 a1244] w1351) := ⟨HS.out.front 2 (by simp)⟩
  replace HS : Aside0 (Sep FF w [b7 g1237 A1240 l1239.length n1242 a1244, r6 A1240 l1239.length n1242 l1239, b8 g1235 g1237 a1245 a1246 a1247 a1248] w1351) := ⟨HS.out.front 2 (by simp)⟩
  obtain ⟨t1352, HA1353, H⟩ := bind_some H
  refine (store_Store_Put.calls l1239 a1244 t1349 a1251 g1237 A1240 l1239.length n1242 t1352 _ ⟨HGl0.out.pass HS.out⟩ ⟨HS.out.begin⟩ HA1353).mono ?_
  rintro e_ w1354 ⟨rfl, hS⟩
  replace HS : Aside0 (Sep FF w [b7 g1237 A1240 l1239.length n1242 t1352.2.1, r6 A1240 l1239.length n1242 t1352.2.2, b8 g1235 g1237 a1245 a1246 a1247 a1248] w1354) := ⟨HS.out.call hS⟩
  clear hS
  go_wp2_with fail
  go_ret
  rw [← some_eq H]
  exact ⟨(by first | rfl | (simp [IntKind.wrap_u32]; done)), ((((HS.out).front 1 (by simp)).front 1 (by simp)).front 2 (by simp)).keep (l := [b8 g1235 g1237 a1245 a1246 a1247 a1248, b7 g1237 A1240 l1239.length n1242 t1352.2.1, r6 A1240 l1239.length n1242 t1352.2.2]) (rest := [])⟩

set_option maxHeartbeats 30000000 in
set_option maxRecDepth 100000 in
theorem ground_Ground_set.calls (l1386 : List Int) (a1391 : Int) (a1392 : Int) (a1393 : Int) (a1394 : Int) (a1395 : Int) (a1396 : Int) (a1397 : Int) (g1382 : Nat) (g1384 : Nat) (A1387 : Option Addr) (m1388 : Nat) (n1389 : Nat) (r : Bool × Int × List Int) (w : World)  (HGl0 : Aside0 (Gl 0 #[.int .i64 0, .int .i64 0, .int .i64 0, .int .i64 0, .int .i64 0] (fps [b8 g1382 g1384 a1392 a1393 a1394 a1395, b7 g1384 A1387 m1388 n1389 a1391, r6 A1387 m1388 n1389 l1386]) w)) (HS : Aside0 (Sep (fps [b8 g1382 g1384 a1392 a1393 a1394 a1395, b7 g1384 A1387 m1388 n1389 a1391, r6 A1387 m1388 n1389 l1386]) w [b8 g1382 g1384 a1392 a1393 a1394 a1395, b7 g1384 A1387 m1388 n1389 a1391, r6 A1387 m1388 n1389 l1386] w)) (H : Aside0 (ground_Ground_set.f l1386 a1391 a1392 a1393 a1394 a1395 a1396 a1397 = some r)) :
    Calls Tryd.prog 132 #[.pointer (some ⟨g1382, 0, none⟩), .int .i64 a1396, .int .i64 a1397] w fun e w' => e = .returned (.bool r.1) ∧ Sep (fps [b8 g1382 g1384 a1392 a1393 a1394 a1395, b7 g1384 A1387 m1388 n1389 a1391, r6 A1387 m1388 n1389 l1386]) w [b8 g1382 g1384 a1392 a1393 a1394 a1395, b7 g1384 A1387 m1388 n1389 r.2.1, r6 A1387 m1388 n1389 r.2.2] w' := by
  generalize (fps [b8 g1382 g1384 a1392 a1393 a1394 a1395, b7 g1384 A1387 m1388 n1389 a1391, r6 A1387 m1388 n1389 l1386]) = FF at HS HGl0 ⊢
  obtain rfl := (row_len (HS.out.at2)).symm
  unfold ground_Ground_set.f at H
  go_enter Tryd.func132, Tryd.ntmps132
  by_cases c1406 : a1397 < 0
  · replace H := if_yes c1406 H
    have c1406b0 : decide (a1397 < 0) = true := decide_eq_true c1406
    clear c1406
    go_wp2_with fail
    go_ret
    rw [← some_eq H]
    exact ⟨(by first | rfl | (simp [IntKind.wrap_u32]; done)), HS.out⟩
  · replace H := if_no c1406 H
    have c1406b0 : decide (a1397 < 0) = false := decide_eq_false c1406
    clear c1406
    by_cases c1407 : a1397 > 4294967295
    · replace H := if_yes c1407 H
      have c1407b0 : decide (4294967295 < a1397) = true := decide_eq_true c1407
      clear c1407
      go_wp2_with fail
      go_ret
      rw [← some_eq H]
      exact ⟨(by first | rfl | (simp [IntKind.wrap_u32]; done)), HS.out⟩
    · replace H := if_no c1407 H
      have c1407b0 : decide (4294967295 < a1397) = false := decide_eq_false c1407
      clear c1407
      go_wp2_with fail
      obtain ⟨t1408, HA1409, H⟩ := bind_some H
      refine (ground_Ground_all.calls l1386 a1391 a1392 a1393 a1394 a1395 g1382 g1384 A1387 l1386.length n1389 t1408 _ ⟨HGl0.out.pass HS.out⟩ ⟨HS.out.begin⟩ HA1409).mono ?_
      rintro e_ w1410 ⟨rfl, hS⟩
      replace HS : Aside0 (Sep FF w [b8 g1382 g1384 a1392 a1393 a1394 a1395, b7 g1384 A1387 l1386.length n1389 a1391, r6 A1387 l1386.length n1389 l1386] w1410) := ⟨HS.out.call hS⟩
      clear hS
      go_wp2_with fail
      replace HS : Aside0 (Sep FF w [r6 A1387 l1386.length n1389 l1386, b8 g1382 g1384 a1392 a1393 a1394 a1395, b7 g1384 A1387 l1386.length n1389 a1391] w1410) := ⟨HS.out.front 2 (by simp)⟩
      replace HS : Aside0 (Sep FF w [b7 g1384 A1387 l1386.length n1389 a1391, r6 A1387 l1386.length n1389 l1386, b8 g1382 g1384 a1392 a1393 a1394 a1395] w1410) := ⟨HS.out.front 2 (by simp)⟩
      obtain ⟨t1411, HA1412, H⟩ := bind_some H
      refine (store_Store_Put.calls l1386 a1391 a1396 ((a1397) % 4294967296) g1384 A1387 l1386.length n1389 t1411 _ ⟨HGl0.out.pass HS.out⟩ ⟨HS.out.begin⟩ HA1412).mono ?_
      rintro e_ w1413 ⟨rfl, hS⟩
      replace HS : Aside0 (Sep FF w [b7 g1384 A1387 l1386.length n1389 t1411.2.1, r6 A1387 l1386.length n1389 t1411.2.2, b8 g1382 g1384 a1392 a1393 a1394 a1395] w1413) := ⟨HS.out.call hS⟩
      clear hS
      go_wp2_with fail
      go_ret
      rw [← some_eq H]
      exact ⟨(by first | rfl | (simp [IntKind.wrap_u32]; done)), ((((HS.out).front 1 (by simp)).front 1 (by simp)).front 2 (by simp)).keep (l := [b8 g1382 g1384 a1392 a1393 a1394 a1395, b7 g1384 A1387 l1386.length n1389 t1411.2.1, r6 A1387 l1386.length n1389 t1411.2.2]) (rest := [])⟩

set_option maxHeartbeats 30000000 in
set_option maxRecDepth 100000 in
theorem ground_Ground_SetReg.calls (l1366 : List Int) (a1371 : Int) (a1372 : Int) (a1373 : Int) (a1374 : Int) (a1375 : Int) (a1376 : Int) (a1377 : Int) (g1362 : Nat) (g1364 : Nat) (A1367 : Option Addr) (m1368 : Nat) (n1369 : Nat) (r : Bool × Int × List Int) (w : World)  (HGl0 : Aside0 (Gl 0 #[.int .i64 0, .int .i64 0, .int .i64 0, .int .i64 0, .int .i64 0] (fps [b8 g1362 g1364 a1372 a1373 a1374 a1375, b7 g1364 A1367 m1368 n1369 a1371, r6 A1367 m1368 n1369 l1366]) w)) (HS : Aside0 (Sep (fps [b8 g1362 g1364 a1372 a1373 a1374 a1375, b7 g1364 A1367 m1368 n1369 a1371, r6 A1367 m1368 n1369 l1366]) w [b8 g1362 g1364 a1372 a1373 a1374 a1375, b7 g1364 A1367 m1368 n1369 a1371, r6 A1367 m1368 n1369 l1366] w)) (H : Aside0 (ground_Ground_SetReg.f l1366 a1371 a1372 a1373 a1374 a1375 a1376 a1377 = some r)) :
    Calls Tryd.prog 83 #[.pointer (some ⟨g1362, 0, none⟩), .int .i64 a1376, .int .i64 a1377] w fun e w' => e = .returned (.bool r.1) ∧ Sep (fps [b8 g1362 g1364 a1372 a1373 a1374 a1375, b7 g1364 A1367 m1368 n1369 a1371, r6 A1367 m1368 n1369 l1366]) w [b8 g1362 g1364 a1372 a1373 a1374 a1375, b7 g1364 A1367 m1368 n1369 r.2.1, r6 A1367 m1368 n1369 r.2.2] w' := by
  generalize (fps [b8 g1362 g1364 a1372 a1373 a1374 a1375, b7 g1364 A1367 m1368 n1369 a1371, r6 A1367 m1368 n1369 l1366]) = FF at HS HGl0 ⊢
  obtain rfl := (row_len (HS.out.at2)).symm
  unfold ground_Ground_SetReg.f at H
  go_enter Tryd.func83, Tryd.ntmps83
  go_wp2_with fail
  obtain ⟨t1417, HA1418, H⟩ := bind_some H
  refine (ground_reg.calls a1376 t1417 _ ⟨HGl0.out.pass (l := []) HS.out⟩ ⟨Sep.start _⟩ HA1418).mono ?_
  rintro e_ w1419 ⟨rfl, hS⟩
  replace HS : Aside0 (Sep FF w [b8 g1362 g1364 a1372 a1373 a1374 a1375, b7 g1364 A1367 l1366.length n1369 a1371, r6 A1367 l1366.length n1369 l1366] w1419) := ⟨HS.out.call hS⟩
  clear hS
  go_wp2_with fail
  obtain ⟨t1420, HA1421, H⟩ := bind_some H
  refine (ground_Ground_set.calls l1366 a1371 a1372 a1373 a1374 a1375 t1417 a1377 g1362 g1364 A1367 l1366.length n1369 t1420 _ ⟨HGl0.out.pass HS.out⟩ ⟨HS.out.begin⟩ HA1421).mono ?_
  rintro e_ w1422 ⟨rfl, hS⟩
  replace HS : Aside0 (Sep FF w [b8 g1362 g1364 a1372 a1373 a1374 a1375, b7 g1364 A1367 l1366.length n1369 t1420.2.1, r6 A1367 l1366.length n1369 t1420.2.2] w1422) := ⟨HS.out.call hS⟩
  clear hS
  go_wp2_with fail
  go_ret
  rw [← some_eq H]
  exact ⟨(by first | rfl | (simp [IntKind.wrap_u32]; done)), HS.out⟩

set_option maxHeartbeats 30000000 in
set_option maxRecDepth 100000 in
theorem chain_Add_1.calls (a1204 : Int) (a1205 : Int) (a1206 : Int) (a1207 : Int) (a1208 : Int) (l1216 : List Int) (a1221 : Int) (a1222 : Int) (a1223 : Int) (a1224 : Int) (a1225 : Int) (a1228 : Int) (g1210 : Nat) (g1212 : Nat) (g1214 : Nat) (A1217 : Option Addr) (m1218 : Nat) (n1219 : Nat) (g1227 : Nat) (r : Int × List Int) (w : World)  (HGl0 : Aside0 (Gl 0 #[.int .i64 0, .int .i64 0, .int .i64 0, .int .i64 0, .int .i64 0] (fps [b10 g1210 g1212, b8 g1212 g1214 a1222 a1223 a1224 a1225, b7 g1214 A1217 m1218 n1219 a1221, r6 A1217 m1218 n1219 l1216, b11 g1227 a1228]) w)) (HS : Aside0 (Sep (fps [b10 g1210 g1212, b8 g1212 g1214 a1222 a1223 a1224 a1225, b7 g1214 A1217 m1218 n1219 a1221, r6 A1217 m1218 n1219 l1216, b11 g1227 a1228]) w [b10 g1210 g1212, b8 g1212 g1214 a1222 a1223 a1224 a1225, b7 g1214 A1217 m1218 n1219 a1221, r6 A1217 m1218 n1219 l1216, b11 g1227 a1228] w)) (H : Aside0 (chain_Add_1.f a1204 a1205 a1206 a1207 a1208 l1216 a1221 a1222 a1223 a1224 a1225 a1228 = some r)) :
    Calls Tryd.prog 143 #[.agg #[.int .i64 a1204, .int .i64 a1205, .int .i64 a1206], .int .i64 a1207, .int .i64 a1208, .pointer (some ⟨g1210, 0, none⟩), .pointer (some ⟨g1227, 0, none⟩)] w fun e w' => e = .returned (.tuple #[]) ∧ Sep (fps [b10 g1210 g1212, b8 g1212 g1214 a1222 a1223 a1224 a1225, b7 g1214 A1217 m1218 n1219 a1221, r6 A1217 m1218 n1219 l1216, b11 g1227 a1228]) w [b10 g1210 g1212, b8 g1212 g1214 a1222 a1223 a1224 a1225, b7 g1214 A1217 m1218 n1219 r.1, r6 A1217 m1218 n1219 r.2, b11 g1227 a1228] w' := by
  generalize (fps [b10 g1210 g1212, b8 g1212 g1214 a1222 a1223 a1224 a1225, b7 g1214 A1217 m1218 n1219 a1221, r6 A1217 m1218 n1219 l1216, b11 g1227 a1228]) = FF at HS HGl0 ⊢
  obtain rfl := (row_len (HS.out.at3)).symm
  unfold chain_Add_1.f at H
  go_enter Tryd.func143, Tryd.ntmps143
  go_wp2_with (first | ((with_reducible refine gate_dst (N := 5) rfl ?_); refine box_on ?hg (N := 5) ?hd (cs := #[.int .i64 a1204, .int .i64 a1205, .int .i64 a1206]) (t := 166) ?hr ?_; (case hd => rfl); (case hg => rfl); (case hr => first | (go_simp; done) | (go_simp; rfl)); intro g1431 hg w1432 hbox hb; replace HS : Aside0 (Sep FF w [b10 g1210 g1212, b8 g1212 g1214 a1222 a1223 a1224 a1225, b7 g1214 A1217 l1216.length n1219 a1221, r6 A1217 l1216.length n1219 l1216, b11 g1227 a1228, b9 g1431 a1204 a1205 a1206] w1432) := ⟨HS.out.box hg hbox hb⟩; clear hg hbox hb; have hc1434 : w1432.cell? ⟨g1210, 0, none⟩ = some (.pointer (some ⟨g1212, 0, none⟩)) := blk_cellv (HS.out.at0) 0 rfl; have hc1435 : w1432.cell? ⟨g1227, 0, none⟩ = some (.int .i64 a1228) := blk_cellv (HS.out.at4) 0 rfl))
  clear hc1434 hc1435
  replace HS : Aside0 (Sep FF w [r6 A1217 l1216.length n1219 l1216, b10 g1210 g1212, b8 g1212 g1214 a1222 a1223 a1224 a1225, b7 g1214 A1217 l1216.length n1219 a1221, b11 g1227 a1228, b9 g1431 a1204 a1205 a1206] w1432) := ⟨HS.out.front 3 (by simp)⟩
  replace HS : Aside0 (Sep FF w [b7 g1214 A1217 l1216.length n1219 a1221, r6 A1217 l1216.length n1219 l1216, b10 g1210 g1212, b8 g1212 g1214 a1222 a1223 a1224 a1225, b11 g1227 a1228, b9 g1431 a1204 a1205 a1206] w1432) := ⟨HS.out.front 3 (by simp)⟩
  replace HS : Aside0 (Sep FF w [b8 g1212 g1214 a1222 a1223 a1224 a1225, b7 g1214 A1217 l1216.length n1219 a1221, r6 A1217 l1216.length n1219 l1216, b10 g1210 g1212, b11 g1227 a1228, b9 g1431 a1204 a1205 a1206] w1432) := ⟨HS.out.front 3 (by simp)⟩
  obtain ⟨t1436, HA1437, H⟩ := bind_some H
  refine (ground_Ground_SetWord.calls l1216 a1221 a1222 a1223 a1224 a1225 a1228 5 0 g1212 g1214 A1217 l1216.length n1219 t1436 _ ⟨HGl0.out.pass HS.out⟩ ⟨HS.out.begin⟩ HA1437).mono ?_
  rintro e_ w1438 ⟨rfl, hS⟩
  replace HS : Aside0 (Sep FF w [b8 g1212 g1214 a1222 a1223 a1224 a1225, b7 g1214 A1217 l1216.length n1219 t1436.2.1, r6 A1217 l1216.length n1219 t1436.2.2, b10 g1210 g1212, b11 g1227 a1228, b9 g1431 a1204 a1205 a1206] w1438) := ⟨HS.out.call hS⟩
  clear hS
  by_cases c1439 : a1208 = 0
  · replace H := if_yes c1439 H
    have c1439b0 : (a1208 == 0) = true := beq_iff_eq.mpr c1439
    have c1439b1 : (a1208 != 0) = false := bne_eq_false_iff_eq.mpr c1439
    clear c1439
    have hc1440 : w1438.cell? ⟨g1210, 0, none⟩ = some (.pointer (some ⟨g1212, 0, none⟩)) := blk_cellv (HS.out.at3) 0 rfl
    have hc1441 : w1438.cell? ⟨g1431, 0, none⟩ = some (.int .i64 a1204) := blk_cellv (HS.out.at5) 0 rfl
    go_wp2_with fail
    clear hc1440 hc1441
    obtain ⟨t1442, HA1443, H⟩ := bind_some H
    refine (ground_Ground_SetReg.calls t1436.2.2 t1436.2.1 a1222 a1223 a1224 a1225 a1204 a1207 g1212 g1214 A1217 l1216.length n1219 t1442 _ ⟨HGl0.out.pass HS.out⟩ ⟨HS.out.begin⟩ HA1443).mono ?_
    rintro e_ w1444 ⟨rfl, hS⟩
    replace HS : Aside0 (Sep FF w [b8 g1212 g1214 a1222 a1223 a1224 a1225, b7 g1214 A1217 l1216.length n1219 t1442.2.1, r6 A1217 l1216.length n1219 t1442.2.2, b10 g1210 g1212, b11 g1227 a1228, b9 g1431 a1204 a1205 a1206] w1444) := ⟨HS.out.call hS⟩
    clear hS
    have hc1445 : w1444.cell? ⟨g1210, 0, none⟩ = some (.pointer (some ⟨g1212, 0, none⟩)) := blk_cellv (HS.out.at3) 0 rfl
    have hc1446 : w1444.cell? ⟨g1431, 1, none⟩ = some (.int .i64 a1205) := blk_cellv (HS.out.at5) 1 rfl
    go_wp2_with fail
    clear hc1445 hc1446
    obtain ⟨t1447, HA1448, H⟩ := bind_some H
    refine (ground_Ground_SetReg.calls t1442.2.2 t1442.2.1 a1222 a1223 a1224 a1225 a1205 a1207 g1212 g1214 A1217 l1216.length n1219 t1447 _ ⟨HGl0.out.pass HS.out⟩ ⟨HS.out.begin⟩ HA1448).mono ?_
    rintro e_ w1449 ⟨rfl, hS⟩
    replace HS : Aside0 (Sep FF w [b8 g1212 g1214 a1222 a1223 a1224 a1225, b7 g1214 A1217 l1216.length n1219 t1447.2.1, r6 A1217 l1216.length n1219 t1447.2.2, b10 g1210 g1212, b11 g1227 a1228, b9 g1431 a1204 a1205 a1206] w1449) := ⟨HS.out.call hS⟩
    clear hS
    replace HS : Aside0 (Sep FF w [b8 g1212 g1214 a1222 a1223 a1224 a1225, b7 g1214 A1217 l1216.length n1219 t1447.2.1, r6 A1217 l1216.length n1219 t1447.2.2, b10 g1210 g1212, b11 g1227 a1228] w1449) := ⟨HS.out.sub (.cons_cons _ (.cons_cons _ (.cons_cons _ (.cons_cons _ (.cons_cons _ (.cons _ .slnil))))))⟩
    go_wp2_with fail
    first | go_end0 | refine bodyPost_ret (results_none rfl _ _ _) rfl ?_
    rw [← some_eq H]
    exact ⟨rfl, ((((((HS.out).front 4 (by simp)).front 3 (by simp)).front 3 (by simp)).front 3 (by simp)).front 4 (by simp)).keep (l := [b10 g1210 g1212, b8 g1212 g1214 a1222 a1223 a1224 a1225, b7 g1214 A1217 l1216.length n1219 t1447.2.1, r6 A1217 l1216.length n1219 t1447.2.2, b11 g1227 a1228]) (rest := [])⟩
  · replace H := if_no c1439 H
    have c1439b0 : (a1208 == 0) = false := beq_eq_false_iff_ne.mpr c1439
    have c1439b1 : (a1208 != 0) = true := bne_iff_ne.mpr c1439
    clear c1439
    go_wp2_with fail
    refine start_ (n := 9) (S := (fun w' => w'.cell? ⟨g1210, 0, none⟩ = some (.pointer (some ⟨g1212, 0, none⟩)) ∧ w'.cell? ⟨g1431, 1, none⟩ = some (.int .i64 a1205))) (ds := []) #[false, false, false, false, false, false, false, false, false] (by kernel_rfl) rfl rfl (⟨blk_cellv ((HS.out.drew).at3) 0 rfl, blk_cellv ((HS.out.drew).at5) 1 rfl⟩) (fun hHeld => ?_)
    have HS_ := Aside0.mk HS.out.drew
    clear HS
    generalize World.drew _ = w1451 at HS_ hHeld ⊢
    have HS := HS_
    clear HS_
    refine pure_ (i := 2) (N := some 20) (v := ?_) (a' := ?_) #[false, false, true, false, false, false, false, false, false] rfl rfl (by kernel_rfl) (fun _ _ _ h => h) (Or.inl ⟨by rfl, ?_⟩) ?_ ?_
    rotate_left
    · intro w'
      go_simp
      with_reducible rfl
    rotate_left
    · simp only [Act.put, List.setIfInBounds_toArray, List.set_cons_zero, List.set_cons_succ, i64_w, i32_w]
      rfl
    refine pure_ (i := 6) (N := some 24) (v := ?_) (a' := ?_) #[false, false, true, false, false, false, true, false, false] rfl rfl (by kernel_rfl) (fun _ _ _ h => h) (Or.inl ⟨by rfl, ?_⟩) ?_ ?_
    rotate_left
    · intro w'
      go_simp
      with_reducible rfl
    rotate_left
    · simp only [Act.put, List.setIfInBounds_toArray, List.set_cons_zero, List.set_cons_succ, i64_w, i32_w]
      rfl
    refine pure_ (i := 7) (N := some 25) (v := ?_) (a' := ?_) #[false, false, true, false, false, false, true, true, false] rfl rfl (by kernel_rfl) (fun _ _ _ h => h) (Or.inl ⟨by rfl, ?_⟩) ?_ ?_
    rotate_left
    · intro w'
      go_simp
      with_reducible rfl
    rotate_left
    · simp only [Act.put, List.setIfInBounds_toArray, List.set_cons_zero, List.set_cons_succ, i64_w, i32_w, IntKind.wrap_u32]
      rfl
    refine take_ (i := 0) (N := some 18) (v := ?_) (a' := ?_) #[true, false, true, false, false, false, true, true, false] rfl rfl (by kernel_rfl) (fun _ _ _ h => h) (Or.inl ⟨by rfl, ?_⟩) hHeld ?_ ?_
    rotate_left
    · rintro w' hS'
      obtain ⟨s0, s1⟩ := hS'
      go_simp
      with_reducible rfl
    rotate_left
    · simp only [Act.put, List.setIfInBounds_toArray, List.set_cons_zero, List.set_cons_succ, i64_w, i32_w]
      rfl
    refine take_ (i := 1) (N := some 19) (v := ?_) (a' := ?_) #[true, true, true, false, false, false, true, true, false] rfl rfl (by kernel_rfl) (fun _ _ _ h => h) (Or.inl ⟨by rfl, ?_⟩) hHeld ?_ ?_
    rotate_left
    · rintro w' hS'
      obtain ⟨s0, s1⟩ := hS'
      go_simp
      with_reducible rfl
    rotate_left
    · simp only [Act.put, List.setIfInBounds_toArray, List.set_cons_zero, List.set_cons_succ, i64_w, i32_w]
      rfl
    refine take_ (i := 3) (N := some 21) (v := ?_) (a' := ?_) #[true, true, true, true, false, false, true, true, false] rfl rfl (by kernel_rfl) (fun _ _ _ h => h) (Or.inl ⟨by rfl, ?_⟩) hHeld ?_ ?_
    rotate_left
    · rintro w' hS'
      obtain ⟨s0, s1⟩ := hS'
      go_simp
      with_reducible rfl
    rotate_left
    · simp only [Act.put, List.setIfInBounds_toArray, List.set_cons_zero, List.set_cons_succ, i64_w, i32_w]
      rfl
    refine one_ (i := 4) (N := some 22) #[true, true, true, true, true, false, true, true, false] rfl rfl (by kernel_rfl) (by decide) (fun K hK => ?_)
    obtain ⟨t1452, HA1453, H⟩ := bind_some H
    refine goes_ Tryd.func81 (by kernel_rfl) rfl #[.pointer (some ⟨g1212, 0, none⟩), .int .i64 a1205] (by rfl) rfl rfl (by (try simp only [List.map_toArray, List.map_cons, List.map_nil]); first | done | rfl) ?_
    refine (ground_Ground_Reg.calls t1436.2.2 t1436.2.1 a1222 a1223 a1224 a1225 a1205 g1212 g1214 A1217 l1216.length n1219 t1452 _ ⟨HGl0.out.pass HS.out⟩ ⟨HS.out.begin⟩ HA1453).mono ?_
    rintro e_ w1454 ⟨rfl, hS⟩
    replace HS : Aside0 (Sep FF w [b8 g1212 g1214 a1222 a1223 a1224 a1225, b7 g1214 A1217 l1216.length n1219 t1452.2, r6 A1217 l1216.length n1219 t1436.2.2, b10 g1210 g1212, b11 g1227 a1228, b9 g1431 a1204 a1205 a1206] w1454) := ⟨HS.out.call hS⟩
    clear hS
    refine ⟨_, rfl, ?_⟩
    refine hK.out _ _ (⟨blk_cellv (HS.out.at3) 0 rfl, blk_cellv (HS.out.at5) 1 rfl⟩) (fun hHeld => ?_)
    clear hK K
    refine norm_ (a' := ?_) ?_ ?_
    rotate_left
    · show Act.put _ (some 22) _ = _
      simp only [Act.put, List.setIfInBounds_toArray, List.set_cons_zero, List.set_cons_succ, i64_w, i32_w]
      rfl
    refine pure_ (i := 5) (N := some 23) (v := ?_) (a' := ?_) #[true, true, true, true, true, true, true, true, false] rfl rfl (by kernel_rfl) (fun _ _ _ h => h) (Or.inl ⟨by rfl, ?_⟩) ?_ ?_
    rotate_left
    · intro w'
      go_simp
      with_reducible rfl
    rotate_left
    · simp only [Act.put, List.setIfInBounds_toArray, List.set_cons_zero, List.set_cons_succ, i64_w, i32_w]
      rfl
    refine one_ (i := 8) (N := some 26) #[true, true, true, true, true, true, true, true, true] rfl rfl (by kernel_rfl) (by decide) (fun K hK => ?_)
    obtain ⟨t1455, HA1456, H⟩ := bind_some H
    refine goes_ Tryd.func17 (by kernel_rfl) rfl #[.pointer (some ⟨g1212, 0, none⟩), .int .i64 (wrap64 (t1452.1 - 1)), .int .i64 5, .int .u32 ((a1207) % 4294967296)] (by rfl) rfl rfl (by (try simp only [List.map_toArray, List.map_cons, List.map_nil]); first | done | rfl) ?_
    refine (ground_Ground_SetWord.calls t1436.2.2 t1452.2 a1222 a1223 a1224 a1225 (wrap64 (t1452.1 - 1)) 5 ((a1207) % 4294967296) g1212 g1214 A1217 l1216.length n1219 t1455 _ ⟨HGl0.out.pass HS.out⟩ ⟨HS.out.begin⟩ HA1456).mono ?_
    rintro e_ w1457 ⟨rfl, hS⟩
    replace HS : Aside0 (Sep FF w [b8 g1212 g1214 a1222 a1223 a1224 a1225, b7 g1214 A1217 l1216.length n1219 t1455.2.1, r6 A1217 l1216.length n1219 t1455.2.2, b10 g1210 g1212, b11 g1227 a1228, b9 g1431 a1204 a1205 a1206] w1457) := ⟨HS.out.call hS⟩
    clear hS
    refine ⟨_, rfl, ?_⟩
    refine hK.out _ _ (⟨blk_cellv (HS.out.at3) 0 rfl, blk_cellv (HS.out.at5) 1 rfl⟩) (fun hHeld => ?_)
    clear hK K
    refine norm_ (a' := ?_) ?_ ?_
    rotate_left
    · show Act.put _ (some 26) _ = _
      simp only [Act.put, List.setIfInBounds_toArray, List.set_cons_zero, List.set_cons_succ, i64_w, i32_w]
      rfl
    refine done_ (by kernel_rfl) ?_
    have hc1458 : w1457.cell? ⟨g1210, 0, none⟩ = some (.pointer (some ⟨g1212, 0, none⟩)) := blk_cellv (HS.out.at3) 0 rfl
    have hc1459 : w1457.cell? ⟨g1431, 1, none⟩ = some (.int .i64 a1205) := blk_cellv (HS.out.at5) 1 rfl
    go_wp2_with fail
    clear hc1458 hc1459
    obtain ⟨t1447, HA1460, H⟩ := bind_some H
    refine (ground_Ground_SetReg.calls t1455.2.2 t1455.2.1 a1222 a1223 a1224 a1225 a1205 a1207 g1212 g1214 A1217 l1216.length n1219 t1447 _ ⟨HGl0.out.pass HS.out⟩ ⟨HS.out.begin⟩ HA1460).mono ?_
    rintro e_ w1461 ⟨rfl, hS⟩
    replace HS : Aside0 (Sep FF w [b8 g1212 g1214 a1222 a1223 a1224 a1225, b7 g1214 A1217 l1216.length n1219 t1447.2.1, r6 A1217 l1216.length n1219 t1447.2.2, b10 g1210 g1212, b11 g1227 a1228, b9 g1431 a1204 a1205 a1206] w1461) := ⟨HS.out.call hS⟩
    clear hS
    replace HS : Aside0 (Sep FF w [b8 g1212 g1214 a1222 a1223 a1224 a1225, b7 g1214 A1217 l1216.length n1219 t1447.2.1, r6 A1217 l1216.length n1219 t1447.2.2, b10 g1210 g1212, b11 g1227 a1228] w1461) := ⟨HS.out.sub (.cons_cons _ (.cons_cons _ (.cons_cons _ (.cons_cons _ (.cons_cons _ (.cons _ .slnil))))))⟩
    go_wp2_with fail
    first | go_end0 | refine bodyPost_ret (results_none rfl _ _ _) rfl ?_
    rw [← some_eq H]
    exact ⟨rfl, ((((((HS.out).front 4 (by simp)).front 3 (by simp)).front 3 (by simp)).front 3 (by simp)).front 4 (by simp)).keep (l := [b10 g1210 g1212, b8 g1212 g1214 a1222 a1223 a1224 a1225, b7 g1214 A1217 l1216.length n1219 t1447.2.1, r6 A1217 l1216.length n1219 t1447.2.2, b11 g1227 a1228]) (rest := [])⟩
end Go.Proofs.YtobeonkddamnoaaDoor.C

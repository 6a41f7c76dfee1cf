/- Each function of the group CA does what its plain function says, and changes nothing that was there; proved by walking its code. No condition. -/
import Derived.Test.YtobeonkddamnoaaDoorQw
import Derived.Test.YtobeonkddamnoaaDoorMCA
namespace Go.Proofs.YtobeonkddamnoaaDoor.C
open Go.RowKit Go.Proofs.YtobeonkddamnoaaDoorW.PrintWords Go.Proofs.YtobeonkddamnoaaDoorW.PrintLast Go.Proofs.YtobeonkddamnoaaDoor.Q Go.Proofs.YtobeonkddamnoaaDoor.M
set_option linter.unusedVariables false
set_option linter.unusedSimpArgs false
def b1 (g : Nat) (x0 : Int) (x1 : Int) : Ob := blk g #[.int .i64 x0, .int .i64 x1] 63
def b2 (g : Nat) (x0 : Int) (x1 : Int) (x2 : Int) (x3 : Int) : Ob := blk g #[.int .i64 x0, .int .i64 x1, .int .i64 x2, .int .i64 x3] 30
def b3 (g : Nat) (x0 : Int) (x1 : Int) (x2 : Int) (x3 : Int) (x4 : Int) (x5 : Int) (x6 : Int) (x7 : Int) : Ob := blk g #[.int .i64 x0, .int .i64 x1, .int .i64 x2, .int .i64 x3, .int .i64 x4, .int .i64 x5, .int .i64 x6, .int .i64 x7] 97
def b4 (g : Nat) (x0 : Int) (x1 : Int) : Ob := blk g #[.int .i64 x0, .int .i64 x1] 3
def b5 (g : Nat) (x0 : Int) (x1 : Int) (x2 : Int) : Ob := blk g #[.int .i64 x0, .int .i64 x1, .int .i64 x2] 3
def r6 (A : Option Addr) (n c : Nat) (l : List Int) : Ob := row 33 (Value.int .u32) (.slice A n c) l
def b7 (g : Nat) (x0 : Option Addr) (x1 : Nat) (x2 : Nat) (x3 : Int) : Ob := blk g #[.slice x0 x1 x2, .int .u64 x3] 154
def b8 (g : Nat) (x0 : Nat) (x1 : Int) (x2 : Int) (x3 : Int) (x4 : Int) : Ob := blk g #[.pointer (some ⟨x0, 0, none⟩), .int .i64 x1, .int .i64 x2, .int .i64 x3, .int .i64 x4] 106
def b9 (g : Nat) (x0 : Int) (x1 : Int) (x2 : Int) : Ob := blk g #[.int .i64 x0, .int .i64 x1, .int .i64 x2] 166
def b10 (g : Nat) (x0 : Nat) : Ob := blk g #[.pointer (some ⟨x0, 0, none⟩)] 25
def b11 (g : Nat) (x0 : Int) : Ob := blk g #[.int .i64 x0] 3
def r12 (A : Option Addr) (n c : Nat) (l : List Int) : Ob := row 3 (Value.int .i64) (.slice A n c) l
def b13 (g : Nat) (x0 : Int) (x1 : Int) (x2 : Option Addr) (x3 : Nat) (x4 : Nat) : Ob := blk g #[.int .i64 x0, .int .i64 x1, .slice x2 x3 x4, .slice none 0 0] 180
def b14 (g : Nat) (x0 : Nat) (x1 : Int) (x2 : Int) (x3 : Int) (x4 : Int) (x5 : Int) (x6 : Int) (x7 : Int) (x8 : Int) (x9 : Int) (x10 : Int) : Ob := blk g #[.pointer (some ⟨x0, 0, none⟩), .slice none 0 0, .int .i64 x1, .int .i64 x2, .int .i64 x3, .int .i64 x4, .int .i64 x5, .int .i64 x6, .int .i64 x7, .int .i64 x8, .int .i64 x9, .slice none 0 0, .slice none 0 0, .int .i64 x10] 162
def b15 (g : Nat) (x0 : Nat) (x1 : Int) (x2 : Int) (x3 : Int) (x4 : Int) (x5 : Int) (x6 : Int) (x7 : Int) (x8 : Int) (x9 : Int) (x10 : Option Addr) (x11 : Nat) (x12 : Nat) (x13 : Int) : Ob := blk g #[.pointer (some ⟨x0, 0, none⟩), .slice none 0 0, .int .i64 x1, .int .i64 x2, .int .i64 x3, .int .i64 x4, .int .i64 x5, .int .i64 x6, .int .i64 x7, .int .i64 x8, .int .i64 x9, .slice x10 x11 x12, .slice none 0 0, .int .i64 x13] 162
def b16 (g : Nat) (x0 : Nat) (x1 : Int) (x2 : Int) (x3 : Int) (x4 : Int) (x5 : Int) (x6 : Int) (x7 : Int) (x8 : Int) (x9 : Int) (x10 : Option Addr) (x11 : Nat) (x12 : Nat) (x13 : Option Addr) (x14 : Nat) (x15 : Nat) (x16 : Int) : Ob := blk g #[.pointer (some ⟨x0, 0, none⟩), .slice none 0 0, .int .i64 x1, .int .i64 x2, .int .i64 x3, .int .i64 x4, .int .i64 x5, .int .i64 x6, .int .i64 x7, .int .i64 x8, .int .i64 x9, .slice x10 x11 x12, .slice x13 x14 x15, .int .i64 x16] 162
def b17 (g : Nat) (x0 : Int) (x1 : Int) (x2 : Int) (x3 : Int) (x4 : Int) (x5 : Int) (x6 : Int) : Ob := blk g #[.int .i64 x0, .int .i64 x1, .int .i64 x2, .int .i64 x3, .int .i64 x4, .int .i64 x5, .int .i64 x6] 32
def b18 (g : Nat) (x0 : Int) (x1 : Int) (x2 : Int) (x3 : Int) (x4 : Int) : Ob := blk g #[.int .i64 x0, .int .i64 x1, .int .i64 x2, .int .i64 x3, .int .i64 x4] 108
def b19 (g : Nat) (x0 : Int) : Ob := blk g #[.int .u32 x0] 33
def b20 (g : Nat) (x0 : Int) (x1 : Int) : Ob := blk g #[.int .u32 x0, .int .u32 x1] 33
def b21 (g : Nat) (x0 : Int) (x1 : Int) (x2 : Int) (x3 : Int) (x4 : Int) (x5 : Int) (x6 : Int) (x7 : Int) : Ob := blk g #[.int .i64 x0, .int .i64 x1, .int .i64 x2, .int .i64 x3, .int .i64 x4, .int .i64 x5, .int .i64 x6, .int .i64 x7] 3
def b22 (g : Nat)  : Ob := blk g #[.slice none 0 0, .slice none 0 0] 71
def b23 (g : Nat) (x0 : Option Addr) (x1 : Nat) (x2 : Nat) : Ob := blk g #[.slice x0 x1 x2, .slice none 0 0] 71
def b24 (g : Nat) (x0 : Option Addr) (x1 : Nat) (x2 : Nat) (x3 : Option Addr) (x4 : Nat) (x5 : Nat) : Ob := blk g #[.slice x0 x1 x2, .slice x3 x4 x5] 71
def b25 (g : Nat) (x0 : Option Addr) (x1 : Nat) (x2 : Nat) : Ob := blk g #[.slice none 0 0, .slice x0 x1 x2] 71

set_option maxHeartbeats 30000000 in
set_option maxRecDepth 100000 in
theorem ratio_Clamp.calls (a60 : Int) (a61 : Int) (a62 : Int) (r : Int) (w : World)  (HGl0 : Aside0 (Gl 0 #[.int .i64 0, .int .i64 0, .int .i64 0, .int .i64 0, .int .i64 0] (fps []) w)) (HS : Aside0 (Sep (fps []) w [] w)) (H : Aside0 (ratio_Clamp.f a60 a61 a62 = some r)) :
    Calls Tryd.prog 157 #[.int .i64 a60, .int .i64 a61, .int .i64 a62] w fun e w' => e = .returned (.int .i64 r) ∧ Sep (fps []) w [] w' := by
  unfold ratio_Clamp.f at H
  go_enter Tryd.func157, Tryd.ntmps157
  by_cases c63 : a60 > a62
  · replace H := if_yes c63 H
    have c63b0 : decide (a62 < a60) = true := decide_eq_true c63
    clear c63
    go_wp2_with fail
    go_ret
    rw [← some_eq H]
    exact ⟨(by first | rfl | (simp [IntKind.wrap_u32]; done)), HS.out⟩
  · replace H := if_no c63 H
    have c63b0 : decide (a62 < a60) = false := decide_eq_false c63
    clear c63
    by_cases c64 : a60 < a61
    · replace H := if_yes c64 H
      have c64b0 : decide (a60 < a61) = true := decide_eq_true c64
      skip
      go_wp2_with fail
      clear c64
      go_ret
      rw [← some_eq H]
      exact ⟨(by first | rfl | (simp [IntKind.wrap_u32]; done)), HS.out⟩
    · replace H := if_no c64 H
      have c64b0 : decide (a60 < a61) = false := decide_eq_false c64
      skip
      go_wp2_with fail
      clear c64
      go_ret
      rw [← some_eq H]
      exact ⟨(by first | rfl | (simp [IntKind.wrap_u32]; done)), HS.out⟩

set_option maxHeartbeats 30000000 in
set_option maxRecDepth 100000 in
theorem plan_within.calls (a57 : Int) (a58 : Int) (a59 : Int) (r : Bool) (w : World)  (HGl0 : Aside0 (Gl 0 #[.int .i64 0, .int .i64 0, .int .i64 0, .int .i64 0, .int .i64 0] (fps []) w)) (HS : Aside0 (Sep (fps []) w [] w)) (H : Aside0 (plan_within.f a57 a58 a59 = some r)) :
    Calls Tryd.prog 147 #[.int .i64 a57, .int .i64 a58, .int .i64 a59] w fun e w' => e = .returned (.bool r) ∧ Sep (fps []) w [] w' := by
  unfold plan_within.f at H
  go_enter Tryd.func147, Tryd.ntmps147
  go_wp2_with fail
  obtain ⟨t65, HA66, H⟩ := bind_some H
  refine (ratio_Clamp.calls a57 a58 a59 t65 _ ⟨HGl0.out.pass (l := []) HS.out⟩ ⟨Sep.start _⟩ HA66).mono ?_
  rintro e_ w67 ⟨rfl, hS⟩
  replace HS : Aside0 (Sep (fps []) w [] w67) := ⟨HS.out.call hS⟩
  clear hS
  go_wp2_with fail
  go_ret
  rw [← some_eq H]
  exact ⟨(by first | rfl | (simp [IntKind.wrap_u32]; done)), HS.out⟩

set_option maxHeartbeats 30000000 in
set_option maxRecDepth 100000 in
theorem plan_Check.calls (a49 : Int) (a50 : Int) (a51 : Int) (a52 : Int) (r : Int) (w : World)  (HGl0 : Aside0 (Gl 0 #[.int .i64 0, .int .i64 0, .int .i64 0, .int .i64 0, .int .i64 0] (fps []) w)) (HS : Aside0 (Sep (fps []) w [] w)) (H : Aside0 (plan_Check.f a49 a50 a51 a52 = some r)) :
    Calls Tryd.prog 121 #[.agg #[.int .i64 a49, .int .i64 a50, .int .i64 a51, .int .i64 a52]] w fun e w' => e = .returned (.int .i64 r) ∧ Sep (fps []) w [] w' := by
  unfold plan_Check.f at H
  go_enter Tryd.func121, Tryd.ntmps121
  go_wp2_with (first | ((with_reducible refine gate_dst (N := 1) rfl ?_); refine box_on ?hg (N := 1) ?hd (cs := #[.int .i64 a49, .int .i64 a50, .int .i64 a51, .int .i64 a52]) (t := 30) ?hr ?_; (case hd => rfl); (case hg => rfl); (case hr => first | (go_simp; done) | (go_simp; rfl)); intro g53 hg w54 hbox hb; replace HS : Aside0 (Sep (fps []) w [b2 g53 a49 a50 a51 a52] w54) := ⟨HS.out.box hg hbox hb⟩; clear hg hbox hb; have hc56 : w54.cell? ⟨g53, 0, none⟩ = some (.int .i64 a49) := blk_cellv (HS.out.at0) 0 rfl))
  clear hc56
  obtain ⟨t68, HA69, H⟩ := bind_some H
  refine (plan_within.calls a49 1 1048576 t68 _ ⟨HGl0.out.pass (l := []) HS.out⟩ ⟨Sep.start _⟩ HA69).mono ?_
  rintro e_ w70 ⟨rfl, hS⟩
  replace HS : Aside0 (Sep (fps []) w [b2 g53 a49 a50 a51 a52] w70) := ⟨HS.out.call hS⟩
  clear hS
  by_cases c71 : t68 = true
  · replace H := if_yes c71 H
    have c71b0 : t68 = true := c71
    have c71b1 : (!t68) = false := by rw [c71b0]; rfl
    clear c71
    have hc72 : w70.cell? ⟨g53, 1, none⟩ = some (.int .i64 a50) := blk_cellv (HS.out.at0) 1 rfl
    go_wp2_with fail
    clear hc72
    obtain ⟨t73, HA74, H⟩ := bind_some H
    refine (plan_within.calls a50 16 256 t73 _ ⟨HGl0.out.pass (l := []) HS.out⟩ ⟨Sep.start _⟩ HA74).mono ?_
    rintro e_ w75 ⟨rfl, hS⟩
    replace HS : Aside0 (Sep (fps []) w [b2 g53 a49 a50 a51 a52] w75) := ⟨HS.out.call hS⟩
    clear hS
    by_cases c76 : t73 = true
    · replace H := if_yes c76 H
      have c76b0 : t73 = true := c76
      have c76b1 : (!t73) = false := by rw [c76b0]; rfl
      clear c76
      have hc77 : w75.cell? ⟨g53, 2, none⟩ = some (.int .i64 a51) := blk_cellv (HS.out.at0) 2 rfl
      go_wp2_with fail
      clear hc77
      obtain ⟨t78, HA79, H⟩ := bind_some H
      refine (plan_within.calls a51 1 4096 t78 _ ⟨HGl0.out.pass (l := []) HS.out⟩ ⟨Sep.start _⟩ HA79).mono ?_
      rintro e_ w80 ⟨rfl, hS⟩
      replace HS : Aside0 (Sep (fps []) w [b2 g53 a49 a50 a51 a52] w80) := ⟨HS.out.call hS⟩
      clear hS
      by_cases c81 : t78 = true
      · replace H := if_yes c81 H
        have c81b0 : t78 = true := c81
        have c81b1 : (!t78) = false := by rw [c81b0]; rfl
        clear c81
        have hc82 : w80.cell? ⟨g53, 3, none⟩ = some (.int .i64 a52) := blk_cellv (HS.out.at0) 3 rfl
        go_wp2_with fail
        clear hc82
        obtain ⟨t83, HA84, H⟩ := bind_some H
        refine (plan_within.calls a52 1 65536 t83 _ ⟨HGl0.out.pass (l := []) HS.out⟩ ⟨Sep.start _⟩ HA84).mono ?_
        rintro e_ w85 ⟨rfl, hS⟩
        replace HS : Aside0 (Sep (fps []) w [b2 g53 a49 a50 a51 a52] w85) := ⟨HS.out.call hS⟩
        clear hS
        by_cases c86 : t83 = true
        · replace H := if_yes c86 H
          have c86b0 : t83 = true := c86
          have c86b1 : (!t83) = false := by rw [c86b0]; rfl
          clear c86
          by_cases c89 : (wrap64 (a49 * a50)) ≤ 4194304
          · replace H := if_yes c89 H
            have c89b0 : decide ((wrap64 (a49 * a50)) ≤ 4194304) = true := decide_eq_true c89
            clear c89
            have hc87 : w85.cell? ⟨g53, 0, none⟩ = some (.int .i64 a49) := blk_cellv (HS.out.at0) 0 rfl
            have hc88 : w85.cell? ⟨g53, 1, none⟩ = some (.int .i64 a50) := blk_cellv (HS.out.at0) 1 rfl
            replace HS : Aside0 (Sep (fps []) w [] w85) := ⟨HS.out.sub (.cons _ .slnil)⟩
            go_wp2_with fail
            clear hc87 hc88
            go_ret
            rw [← some_eq H]
            exact ⟨(by first | rfl | (simp [IntKind.wrap_u32]; done)), HS.out⟩
          · replace H := if_no c89 H
            have c89b0 : decide ((wrap64 (a49 * a50)) ≤ 4194304) = false := decide_eq_false c89
            clear c89
            have hc87 : w85.cell? ⟨g53, 0, none⟩ = some (.int .i64 a49) := blk_cellv (HS.out.at0) 0 rfl
            have hc88 : w85.cell? ⟨g53, 1, none⟩ = some (.int .i64 a50) := blk_cellv (HS.out.at0) 1 rfl
            replace HS : Aside0 (Sep (fps []) w [] w85) := ⟨HS.out.sub (.cons _ .slnil)⟩
            go_wp2_with fail
            clear hc87 hc88
            go_ret
            rw [← some_eq H]
            exact ⟨(by first | rfl | (simp [IntKind.wrap_u32]; done)), HS.out⟩
        · replace H := if_no c86 H
          have c86b0 : t83 = false := by simpa using c86
          have c86b1 : (!t83) = true := by rw [c86b0]; rfl
          clear c86
          replace HS : Aside0 (Sep (fps []) w [] w85) := ⟨HS.out.sub (.cons _ .slnil)⟩
          go_wp2_with fail
          go_ret
          rw [← some_eq H]
          exact ⟨(by first | rfl | (simp [IntKind.wrap_u32]; done)), HS.out⟩
      · replace H := if_no c81 H
        have c81b0 : t78 = false := by simpa using c81
        have c81b1 : (!t78) = true := by rw [c81b0]; rfl
        clear c81
        replace HS : Aside0 (Sep (fps []) w [] w80) := ⟨HS.out.sub (.cons _ .slnil)⟩
        go_wp2_with fail
        go_ret
        rw [← some_eq H]
        exact ⟨(by first | rfl | (simp [IntKind.wrap_u32]; done)), HS.out⟩
    · replace H := if_no c76 H
      have c76b0 : t73 = false := by simpa using c76
      have c76b1 : (!t73) = true := by rw [c76b0]; rfl
      clear c76
      replace HS : Aside0 (Sep (fps []) w [] w75) := ⟨HS.out.sub (.cons _ .slnil)⟩
      go_wp2_with fail
      go_ret
      rw [← some_eq H]
      exact ⟨(by first | rfl | (simp [IntKind.wrap_u32]; done)), HS.out⟩
  · replace H := if_no c71 H
    have c71b0 : t68 = false := by simpa using c71
    have c71b1 : (!t68) = true := by rw [c71b0]; rfl
    clear c71
    replace HS : Aside0 (Sep (fps []) w [] w70) := ⟨HS.out.sub (.cons _ .slnil)⟩
    go_wp2_with fail
    go_ret
    rw [← some_eq H]
    exact ⟨(by first | rfl | (simp [IntKind.wrap_u32]; done)), HS.out⟩

set_option maxHeartbeats 30000000 in
set_option maxRecDepth 100000 in
theorem ratio_counts.calls (a122 : Int) (r : Int) (w : World)  (HGl0 : Aside0 (Gl 0 #[.int .i64 0, .int .i64 0, .int .i64 0, .int .i64 0, .int .i64 0] (fps []) w)) (HS : Aside0 (Sep (fps []) w [] w)) (H : Aside0 (ratio_counts.f a122 = some r)) :
    Calls Tryd.prog 148 #[.int .i64 a122] w fun e w' => e = .returned (.int .i64 r) ∧ Sep (fps []) w [] w' := by
  unfold ratio_counts.f at H
  go_enter Tryd.func148, Tryd.ntmps148
  go_wp2_with fail
  obtain ⟨t123, HA124, H⟩ := bind_some H
  refine (ratio_Clamp.calls a122 0 1125899906842624 t123 _ ⟨HGl0.out.pass (l := []) HS.out⟩ ⟨Sep.start _⟩ HA124).mono ?_
  rintro e_ w125 ⟨rfl, hS⟩
  replace HS : Aside0 (Sep (fps []) w [] w125) := ⟨HS.out.call hS⟩
  clear hS
  go_wp2_with fail
  go_ret
  rw [← some_eq H]
  exact ⟨(by first | rfl | (simp [IntKind.wrap_u32]; done)), HS.out⟩

set_option maxHeartbeats 30000000 in
set_option maxRecDepth 100000 in
theorem ratio_zero.calls (a121 : Int) (r : Bool) (w : World)  (HGl0 : Aside0 (Gl 0 #[.int .i64 0, .int .i64 0, .int .i64 0, .int .i64 0, .int .i64 0] (fps []) w)) (HS : Aside0 (Sep (fps []) w [] w)) (H : Aside0 (ratio_zero.f a121 = some r)) :
    Calls Tryd.prog 150 #[.int .i64 a121] w fun e w' => e = .returned (.bool r) ∧ Sep (fps []) w [] w' := by
  unfold ratio_zero.f at H
  go_enter Tryd.func150, Tryd.ntmps150
  go_wp2_with fail
  obtain ⟨t126, HA127, H⟩ := bind_some H
  refine (ratio_counts.calls a121 t126 _ ⟨HGl0.out.pass (l := []) HS.out⟩ ⟨Sep.start _⟩ HA127).mono ?_
  rintro e_ w128 ⟨rfl, hS⟩
  replace HS : Aside0 (Sep (fps []) w [] w128) := ⟨HS.out.call hS⟩
  clear hS
  go_wp2_with fail
  go_ret
  rw [← some_eq H]
  exact ⟨(by first | rfl | (simp [IntKind.wrap_u32]; done)), HS.out⟩

set_option maxHeartbeats 30000000 in
set_option maxRecDepth 100000 in
theorem slices_IndexFunc_int_int_F150.calls (k : Nat) (l107 : List Int) (A108 : Option Addr) (n109 : Nat) (r : Int) (w : World) (HR110 : Aside0 (Rd (Kd.int .i64) (fps []) w A108 l107.length l107)) (HGl0 : Aside0 (Gl 0 #[.int .i64 0, .int .i64 0, .int .i64 0, .int .i64 0, .int .i64 0] (fps []) w)) (HS : Aside0 (Sep (fps []) w [] w)) (H : Aside0 (slices_IndexFunc_int_int_F150.f k l107 = some r)) :
    Calls Tryd.prog 158 #[.slice A108 l107.length n109, .func (.func 150) #[] #[]] w fun e w' => e = .returned (.int .i64 r) ∧ Sep (fps []) w [] w' := by
  unfold slices_IndexFunc_int_int_F150.f at H
  go_enter Tryd.func158, Tryd.ntmps158
  go_wp2_with fail
  obtain ⟨o133, AL134, H⟩ := bind_some H
  go_loopg [8] k (fun kq v8 wc => ∃ (x137 : Int), v8 = .int .i64 x137 ∧ Aside0 (slices_IndexFunc_int_int_F150.lo0 kq l107 x137 = some o133) ∧ Aside0 (Sep (fps []) w [] wc))
  case atStart => exact ⟨(0), (by first | rfl | (simp [IntKind.wrap_u32]; done)), AL134, ⟨HS.out⟩⟩
  case round =>
    clear AL134 HS
    obtain ⟨x137, rfl, AL134, HS⟩ := hrel
    obtain ⟨w135, rfl⟩ : ∃ x : World, x = wr := ⟨_, rfl⟩
    cases gk with
    | zero => exact absurd AL134.out (by simp [slices_IndexFunc_int_int_F150.lo0])
    | succ k136 =>
      have AL0 := AL134.out
      rw [slices_IndexFunc_int_int_F150.lo0] at AL0
      clear AL134
      have AL134 := Aside0.mk AL0
      clear AL0
      by_cases c138 : x137 < (l107.length : Int)
      · replace AL134 := if_yes c138 AL134
        have c138b0 : decide (x137 < (l107.length : Int)) = true := decide_eq_true c138
        clear c138
        by_cases c139 : 0 ≤ x137
        · replace AL134 := if_yes c139 AL134
          have c139b0 : decide (0 ≤ x137) = true := decide_eq_true c139
          have c139p : (0 ≤ x137) = True := eq_true c139
          clear c139
          have ip140 : (x137 < (l107.length : Int)) = True := eq_true (of_decide_eq_true c138b0)
          obtain ⟨hx141a, hx141e, hx141⟩ := Kd.at_int (Rd.read (fun _ _ _ _ h => h) HR110.out HS.out.fr) x137 (of_decide_eq_true c139b0) (of_decide_eq_true c138b0); cases hx141e
          go_wp2_with fail
          clear hx141
          obtain ⟨t129, HA142, AL134⟩ := bind_some AL134
          refine (ratio_zero.calls (rd l107 x137) t129 _ ⟨HGl0.out.pass (l := []) HS.out⟩ ⟨Sep.start _⟩ HA142).mono ?_
          rintro e_ w143 ⟨rfl, hS⟩
          replace HS : Aside0 (Sep (fps []) w [] w143) := ⟨HS.out.call hS⟩
          clear hS
          by_cases c144 : t129 = true
          · replace AL134 := if_yes c144 AL134
            have c144b0 : t129 = true := c144
            have c144b1 : (!t129) = false := by rw [c144b0]; rfl
            clear c144
            go_wp2_with fail
            have ho := some_eq AL134
            subst ho
            have H := lp_ret H
            go_ret
            rw [← some_eq H]
            exact ⟨(by first | rfl | (simp [IntKind.wrap_u32]; done)), HS.out⟩
          · replace AL134 := if_no c144 AL134
            have c144b0 : t129 = false := by simpa using c144
            have c144b1 : (!t129) = true := by rw [c144b0]; rfl
            clear c144
            go_wp2_with fail
            go_roundg k136
            case measure => exact Nat.lt_succ_self _
            case rel => exact ⟨(wrap64 (x137 + 1)), (by first | rfl | (simp [IntKind.wrap_u32]; done)), Aside0.mk AL134.out, ⟨HS.out⟩⟩
        · replace AL134 := if_no c139 AL134
          have c139b0 : decide (0 ≤ x137) = false := decide_eq_false c139
          clear c139
          exact (none_no AL134).elim
      · replace AL134 := if_no c138 AL134
        have c138b0 : decide (x137 < (l107.length : Int)) = false := decide_eq_false c138
        clear c138
        have ho := some_eq AL134
        subst ho
        clear AL134
        have H := lp_out H
        go_wp2_with fail
        go_ret
        rw [← some_eq H]
        exact ⟨(by first | rfl | (simp [IntKind.wrap_u32]; done)), HS.out⟩

set_option maxHeartbeats 30000000 in
set_option maxRecDepth 100000 in
theorem slices_ContainsFunc_int_int_F150.calls (k : Nat) (l103 : List Int) (A104 : Option Addr) (n105 : Nat) (r : Bool) (w : World) (HR106 : Aside0 (Rd (Kd.int .i64) (fps []) w A104 l103.length l103)) (HGl0 : Aside0 (Gl 0 #[.int .i64 0, .int .i64 0, .int .i64 0, .int .i64 0, .int .i64 0] (fps []) w)) (HS : Aside0 (Sep (fps []) w [] w)) (H : Aside0 (slices_ContainsFunc_int_int_F150.f k l103 = some r)) :
    Calls Tryd.prog 149 #[.slice A104 l103.length n105, .func (.func 150) #[] #[]] w fun e w' => e = .returned (.bool r) ∧ Sep (fps []) w [] w' := by
  unfold slices_ContainsFunc_int_int_F150.f at H
  go_enter Tryd.func149, Tryd.ntmps149
  go_wp2_with fail
  obtain ⟨t146, HA147, H⟩ := bind_some H
  refine (slices_IndexFunc_int_int_F150.calls _ l103 A104 n105 t146 _ ⟨Rd.pass (l := []) (by decide) (fun _ _ _ _ h => h) HR106.out HS.out⟩ ⟨HGl0.out.pass (l := []) HS.out⟩ ⟨Sep.start _⟩ HA147).mono ?_
  rintro e_ w148 ⟨rfl, hS⟩
  replace HS : Aside0 (Sep (fps []) w [] w148) := ⟨HS.out.call hS⟩
  clear hS
  go_wp2_with fail
  go_ret
  rw [← some_eq H]
  exact ⟨(by first | rfl | (simp [IntKind.wrap_u32]; done)), HS.out⟩

set_option maxHeartbeats 30000000 in
set_option maxRecDepth 100000 in
theorem ratio_Mul.calls (k : Nat) (l99 : List Int) (A100 : Option Addr) (n101 : Nat) (r : Int) (w : World) (HR102 : Aside0 (Rd (Kd.int .i64) (fps []) w A100 l99.length l99)) (HGl0 : Aside0 (Gl 0 #[.int .i64 0, .int .i64 0, .int .i64 0, .int .i64 0, .int .i64 0] (fps []) w)) (HS : Aside0 (Sep (fps []) w [] w)) (H : Aside0 (ratio_Mul.f k l99 = some r)) :
    Calls Tryd.prog 123 #[.slice A100 l99.length n101] w fun e w' => e = .returned (.int .i64 r) ∧ Sep (fps []) w [] w' := by
  unfold ratio_Mul.f at H
  go_enter Tryd.func123, Tryd.ntmps123
  go_wp2_with fail
  obtain ⟨t149, HA150, H⟩ := bind_some H
  refine (slices_ContainsFunc_int_int_F150.calls _ l99 A100 n101 t149 _ ⟨Rd.pass (l := []) (by decide) (fun _ _ _ _ h => h) HR102.out HS.out⟩ ⟨HGl0.out.pass (l := []) HS.out⟩ ⟨Sep.start _⟩ HA150).mono ?_
  rintro e_ w151 ⟨rfl, hS⟩
  replace HS : Aside0 (Sep (fps []) w [] w151) := ⟨HS.out.call hS⟩
  clear hS
  by_cases c152 : t149 = true
  · replace H := if_yes c152 H
    have c152b0 : t149 = true := c152
    have c152b1 : (!t149) = false := by rw [c152b0]; rfl
    clear c152
    go_wp2_with fail
    go_ret
    rw [← some_eq H]
    exact ⟨(by first | rfl | (simp [IntKind.wrap_u32]; done)), HS.out⟩
  · replace H := if_no c152 H
    have c152b0 : t149 = false := by simpa using c152
    have c152b1 : (!t149) = true := by rw [c152b0]; rfl
    clear c152
    go_wp2_with fail
    obtain ⟨o154, AL155, H⟩ := bind_some H
    go_loopg [3, 11] k (fun kq v3 v11 wc => ∃ (x158 : Int) (x159 : Int), v3 = .int .i64 x158 ∧ v11 = .int .i64 x159 ∧ Aside0 (ratio_Mul.lo0 kq l99 x158 x159 = some o154) ∧ Aside0 (Sep (fps []) w [] wc))
    case atStart => exact ⟨(1), (0), (by first | rfl | (simp [IntKind.wrap_u32]; done)), (by first | rfl | (simp [IntKind.wrap_u32]; done)), AL155, ⟨HS.out⟩⟩
    case round =>
      clear AL155 HS
      obtain ⟨x158, x159, rfl, rfl, AL155, HS⟩ := hrel
      obtain ⟨w156, rfl⟩ : ∃ x : World, x = wr := ⟨_, rfl⟩
      cases gk with
      | zero => exact absurd AL155.out (by simp [ratio_Mul.lo0])
      | succ k157 =>
        have AL0 := AL155.out
        rw [ratio_Mul.lo0] at AL0
        clear AL155
        have AL155 := Aside0.mk AL0
        clear AL0
        by_cases c160 : x159 < (l99.length : Int)
        · replace AL155 := if_yes c160 AL155
          have c160b0 : decide (x159 < (l99.length : Int)) = true := decide_eq_true c160
          clear c160
          by_cases c161 : 0 ≤ x159
          · replace AL155 := if_yes c161 AL155
            have c161b0 : decide (0 ≤ x159) = true := decide_eq_true c161
            have c161p : (0 ≤ x159) = True := eq_true c161
            clear c161
            have ip162 : (x159 < (l99.length : Int)) = True := eq_true (of_decide_eq_true c160b0)
            obtain ⟨hx163a, hx163e, hx163⟩ := Kd.at_int (Rd.read (fun _ _ _ _ h => h) HR102.out HS.out.fr) x159 (of_decide_eq_true c161b0) (of_decide_eq_true c160b0); cases hx163e
            go_wp2_with fail
            clear hx163
            obtain ⟨t164, HA165, AL155⟩ := bind_some AL155
            refine (ratio_counts.calls (rd l99 x159) t164 _ ⟨HGl0.out.pass (l := []) HS.out⟩ ⟨Sep.start _⟩ HA165).mono ?_
            rintro e_ w166 ⟨rfl, hS⟩
            replace HS : Aside0 (Sep (fps []) w [] w166) := ⟨HS.out.call hS⟩
            clear hS
            by_cases c167 : t164 = 0
            · replace AL155 := if_yes c167 AL155
              have c167b0 : (t164 == 0) = true := beq_iff_eq.mpr c167
              have c167b1 : (t164 != 0) = false := bne_eq_false_iff_eq.mpr c167
              exact (none_no AL155).elim
            · replace AL155 := if_no c167 AL155
              have c167b0 : (t164 == 0) = false := beq_eq_false_iff_ne.mpr c167
              have c167b1 : (t164 != 0) = true := bne_iff_ne.mpr c167
              by_cases c168 : x158 ≤ (wrap64 (Int.tdiv (1125899906842624 : Int) t164))
              · replace AL155 := if_yes c168 AL155
                have c168b0 : decide (x158 ≤ (wrap64 (Int.tdiv (1125899906842624 : Int) t164))) = true := decide_eq_true c168
                clear c168
                skip
                go_wp2_with fail
                clear c167
                go_roundg k157
                case measure => exact Nat.lt_succ_self _
                case rel => exact ⟨(wrap64 (x158 * t164)), (wrap64 (x159 + 1)), (by first | rfl | (simp [IntKind.wrap_u32]; done)), (by first | rfl | (simp [IntKind.wrap_u32]; done)), Aside0.mk AL155.out, ⟨HS.out⟩⟩
              · replace AL155 := if_no c168 AL155
                have c168b0 : decide (x158 ≤ (wrap64 (Int.tdiv (1125899906842624 : Int) t164))) = false := decide_eq_false c168
                clear c168
                skip
                go_wp2_with fail
                clear c167
                go_roundg k157
                case measure => exact Nat.lt_succ_self _
                case rel => exact ⟨(1125899906842624), (wrap64 (x159 + 1)), (by first | rfl | (simp [IntKind.wrap_u32]; done)), (by first | rfl | (simp [IntKind.wrap_u32]; done)), Aside0.mk AL155.out, ⟨HS.out⟩⟩
          · replace AL155 := if_no c161 AL155
            have c161b0 : decide (0 ≤ x159) = false := decide_eq_false c161
            clear c161
            exact (none_no AL155).elim
        · replace AL155 := if_no c160 AL155
          have c160b0 : decide (x159 < (l99.length : Int)) = false := decide_eq_false c160
          clear c160
          have ho := some_eq AL155
          subst ho
          clear AL155
          go_wp2_with fail
          go_ret
          rw [← some_eq H]
          exact ⟨(by first | rfl | (simp [IntKind.wrap_u32]; done)), HS.out⟩

set_option maxHeartbeats 30000000 in
set_option maxRecDepth 100000 in
theorem ratio_Add.calls (k : Nat) (l176 : List Int) (A177 : Option Addr) (n178 : Nat) (r : Int) (w : World) (HR179 : Aside0 (Rd (Kd.int .i64) (fps []) w A177 l176.length l176)) (HGl0 : Aside0 (Gl 0 #[.int .i64 0, .int .i64 0, .int .i64 0, .int .i64 0, .int .i64 0] (fps []) w)) (HS : Aside0 (Sep (fps []) w [] w)) (H : Aside0 (ratio_Add.f k l176 = some r)) :
    Calls Tryd.prog 122 #[.slice A177 l176.length n178] w fun e w' => e = .returned (.int .i64 r) ∧ Sep (fps []) w [] w' := by
  unfold ratio_Add.f at H
  go_enter Tryd.func122, Tryd.ntmps122
  go_wp2_with fail
  obtain ⟨o181, AL182, H⟩ := bind_some H
  go_loopg [3, 8] k (fun kq v3 v8 wc => ∃ (x185 : Int) (x186 : Int), v3 = .int .i64 x185 ∧ v8 = .int .i64 x186 ∧ Aside0 (ratio_Add.lo0 kq l176 x185 x186 = some o181) ∧ Aside0 (Sep (fps []) w [] wc))
  case atStart => exact ⟨(0), (0), (by first | rfl | (simp [IntKind.wrap_u32]; done)), (by first | rfl | (simp [IntKind.wrap_u32]; done)), AL182, ⟨HS.out⟩⟩
  case round =>
    clear AL182 HS
    obtain ⟨x185, x186, rfl, rfl, AL182, HS⟩ := hrel
    obtain ⟨w183, rfl⟩ : ∃ x : World, x = wr := ⟨_, rfl⟩
    cases gk with
    | zero => exact absurd AL182.out (by simp [ratio_Add.lo0])
    | succ k184 =>
      have AL0 := AL182.out
      rw [ratio_Add.lo0] at AL0
      clear AL182
      have AL182 := Aside0.mk AL0
      clear AL0
      by_cases c187 : x186 < (l176.length : Int)
      · replace AL182 := if_yes c187 AL182
        have c187b0 : decide (x186 < (l176.length : Int)) = true := decide_eq_true c187
        clear c187
        by_cases c188 : 0 ≤ x186
        · replace AL182 := if_yes c188 AL182
          have c188b0 : decide (0 ≤ x186) = true := decide_eq_true c188
          have c188p : (0 ≤ x186) = True := eq_true c188
          clear c188
          have ip189 : (x186 < (l176.length : Int)) = True := eq_true (of_decide_eq_true c187b0)
          obtain ⟨hx190a, hx190e, hx190⟩ := Kd.at_int (Rd.read (fun _ _ _ _ h => h) HR179.out HS.out.fr) x186 (of_decide_eq_true c188b0) (of_decide_eq_true c187b0); cases hx190e
          go_wp2_with fail
          clear hx190
          obtain ⟨t191, HA192, AL182⟩ := bind_some AL182
          refine (ratio_counts.calls (rd l176 x186) t191 _ ⟨HGl0.out.pass (l := []) HS.out⟩ ⟨Sep.start _⟩ HA192).mono ?_
          rintro e_ w193 ⟨rfl, hS⟩
          replace HS : Aside0 (Sep (fps []) w [] w193) := ⟨HS.out.call hS⟩
          clear hS
          by_cases c194 : 1125899906842624 < (wrap64 (x185 + t191))
          · replace AL182 := if_yes c194 AL182
            have c194b0 : decide (1125899906842624 < (wrap64 (x185 + t191))) = true := decide_eq_true c194
            skip
            go_wp2_with fail
            clear c194
            go_roundg k184
            case measure => exact Nat.lt_succ_self _
            case rel => exact ⟨(1125899906842624), (wrap64 (x186 + 1)), (by first | rfl | (simp [IntKind.wrap_u32]; done)), (by first | rfl | (simp [IntKind.wrap_u32]; done)), Aside0.mk AL182.out, ⟨HS.out⟩⟩
          · replace AL182 := if_no c194 AL182
            have c194b0 : decide (1125899906842624 < (wrap64 (x185 + t191))) = false := decide_eq_false c194
            skip
            go_wp2_with fail
            clear c194
            go_roundg k184
            case measure => exact Nat.lt_succ_self _
            case rel => exact ⟨(wrap64 (x185 + t191)), (wrap64 (x186 + 1)), (by first | rfl | (simp [IntKind.wrap_u32]; done)), (by first | rfl | (simp [IntKind.wrap_u32]; done)), Aside0.mk AL182.out, ⟨HS.out⟩⟩
        · replace AL182 := if_no c188 AL182
          have c188b0 : decide (0 ≤ x186) = false := decide_eq_false c188
          clear c188
          exact (none_no AL182).elim
      · replace AL182 := if_no c187 AL182
        have c187b0 : decide (x186 < (l176.length : Int)) = false := decide_eq_false c187
        clear c187
        have ho := some_eq AL182
        subst ho
        clear AL182
        go_wp2_with fail
        go_ret
        rw [← some_eq H]
        exact ⟨(by first | rfl | (simp [IntKind.wrap_u32]; done)), HS.out⟩

set_option maxHeartbeats 30000000 in
set_option maxRecDepth 100000 in
theorem ratio_by.calls (a405 : Int) (r : Int) (w : World)  (HGl0 : Aside0 (Gl 0 #[.int .i64 0, .int .i64 0, .int .i64 0, .int .i64 0, .int .i64 0] (fps []) w)) (HS : Aside0 (Sep (fps []) w [] w)) (H : Aside0 (ratio_by.f a405 = some r)) :
    Calls Tryd.prog 151 #[.int .i64 a405] w fun e w' => e = .returned (.int .i64 r) ∧ Sep (fps []) w [] w' := by
  unfold ratio_by.f at H
  go_enter Tryd.func151, Tryd.ntmps151
  go_wp2_with fail
  obtain ⟨t406, HA407, H⟩ := bind_some H
  refine (ratio_counts.calls a405 t406 _ ⟨HGl0.out.pass (l := []) HS.out⟩ ⟨Sep.start _⟩ HA407).mono ?_
  rintro e_ w408 ⟨rfl, hS⟩
  replace HS : Aside0 (Sep (fps []) w [] w408) := ⟨HS.out.call hS⟩
  clear hS
  by_cases c409 : t406 < 1
  · replace H := if_yes c409 H
    have c409b0 : decide (t406 < 1) = true := decide_eq_true c409
    skip
    go_wp2_with fail
    clear c409
    go_ret
    rw [← some_eq H]
    exact ⟨(by first | rfl | (simp [IntKind.wrap_u32]; done)), HS.out⟩
  · replace H := if_no c409 H
    have c409b0 : decide (t406 < 1) = false := decide_eq_false c409
    skip
    go_wp2_with fail
    clear c409
    go_ret
    rw [← some_eq H]
    exact ⟨(by first | rfl | (simp [IntKind.wrap_u32]; done)), HS.out⟩

set_option maxHeartbeats 30000000 in
set_option maxRecDepth 100000 in
theorem ratio_Up.calls (a400 : Int) (a401 : Int) (r : Int) (w : World)  (HGl0 : Aside0 (Gl 0 #[.int .i64 0, .int .i64 0, .int .i64 0, .int .i64 0, .int .i64 0] (fps []) w)) (HS : Aside0 (Sep (fps []) w [] w)) (H : Aside0 (ratio_Up.f a400 a401 = some r)) :
    Calls Tryd.prog 124 #[.int .i64 a400, .int .i64 a401] w fun e w' => e = .returned (.int .i64 r) ∧ Sep (fps []) w [] w' := by
  unfold ratio_Up.f at H
  go_enter Tryd.func124, Tryd.ntmps124
  go_wp2_with fail
  obtain ⟨t402, HA403, H⟩ := bind_some H
  refine (ratio_counts.calls a400 t402 _ ⟨HGl0.out.pass (l := []) HS.out⟩ ⟨Sep.start _⟩ HA403).mono ?_
  rintro e_ w404 ⟨rfl, hS⟩
  replace HS : Aside0 (Sep (fps []) w [] w404) := ⟨HS.out.call hS⟩
  clear hS
  go_wp2_with fail
  obtain ⟨t410, HA411, H⟩ := bind_some H
  refine (ratio_by.calls a401 t410 _ ⟨HGl0.out.pass (l := []) HS.out⟩ ⟨Sep.start _⟩ HA411).mono ?_
  rintro e_ w412 ⟨rfl, hS⟩
  replace HS : Aside0 (Sep (fps []) w [] w412) := ⟨HS.out.call hS⟩
  clear hS
  go_wp2_with fail
  obtain ⟨t413, HA414, H⟩ := bind_some H
  refine (ratio_by.calls a401 t413 _ ⟨HGl0.out.pass (l := []) HS.out⟩ ⟨Sep.start _⟩ HA414).mono ?_
  rintro e_ w415 ⟨rfl, hS⟩
  replace HS : Aside0 (Sep (fps []) w [] w415) := ⟨HS.out.call hS⟩
  clear hS
  by_cases c416 : t413 = 0
  · replace H := if_yes c416 H
    have c416b0 : (t413 == 0) = true := beq_iff_eq.mpr c416
    have c416b1 : (t413 != 0) = false := bne_eq_false_iff_eq.mpr c416
    exact (none_no H).elim
  · replace H := if_no c416 H
    have c416b0 : (t413 == 0) = false := beq_eq_false_iff_ne.mpr c416
    have c416b1 : (t413 != 0) = true := bne_iff_ne.mpr c416
    skip
    go_wp2_with fail
    clear c416
    go_ret
    rw [← some_eq H]
    exact ⟨(by first | rfl | (simp [IntKind.wrap_u32]; done)), HS.out⟩

set_option maxHeartbeats 30000000 in
set_option maxRecDepth 100000 in
theorem plan_Of.calls (k : Nat) (a35 : Int) (a36 : Int) (a37 : Int) (a38 : Int) (r : Int × Int × Int × Int × Int × Int × Int × Int × Int) (w : World)  (HGl0 : Aside0 (Gl 0 #[.int .i64 0, .int .i64 0, .int .i64 0, .int .i64 0, .int .i64 0] (fps []) w)) (HS : Aside0 (Sep (fps []) w [] w)) (H : Aside0 (plan_Of.f k a35 a36 a37 a38 = some r)) :
    Calls Tryd.prog 65 #[.agg #[.int .i64 a35, .int .i64 a36, .int .i64 a37, .int .i64 a38]] w fun e w' => e = .returned (.tuple #[.agg #[.int .i64 r.1, .int .i64 r.2.1, .int .i64 r.2.2.1, .int .i64 r.2.2.2.1, .int .i64 r.2.2.2.2.1, .int .i64 r.2.2.2.2.2.1, .int .i64 r.2.2.2.2.2.2.1, .int .i64 r.2.2.2.2.2.2.2.1], .int .i64 r.2.2.2.2.2.2.2.2]) ∧ Sep (fps []) w [] w' := by
  unfold plan_Of.f at H
  go_enter Tryd.func65, Tryd.ntmps65
  go_wp2_with (first | ((with_reducible refine gate_dst (N := 1) rfl ?_); refine box_on ?hg (N := 1) ?hd (cs := #[.int .i64 a35, .int .i64 a36, .int .i64 a37, .int .i64 a38]) (t := 30) ?hr ?_; (case hd => rfl); (case hg => rfl); (case hr => first | (go_simp; done) | (go_simp; rfl)); intro g39 hg w40 hbox hb; replace HS : Aside0 (Sep (fps []) w [b2 g39 a35 a36 a37 a38] w40) := ⟨HS.out.box hg hbox hb⟩; clear hg hbox hb) | ((with_reducible refine gate_dst (N := 2) rfl ?_); refine box_on ?hg (N := 2) ?hd (cs := #[.int .i64 0, .int .i64 0, .int .i64 0, .int .i64 0, .int .i64 0, .int .i64 0, .int .i64 0, .int .i64 0]) (t := 97) ?hr ?_; (case hd => rfl); (case hg => rfl); (case hr => first | (go_simp; done) | (go_simp; rfl)); intro g42 hg w43 hbox hb; replace HS : Aside0 (Sep (fps []) w [b2 g39 a35 a36 a37 a38, b3 g42 0 0 0 0 0 0 0 0] w43) := ⟨HS.out.box hg hbox hb⟩; clear hg hbox hb; have hc45 : w43.cell? ⟨g39, 0, none⟩ = some (.int .i64 a35) := blk_cellv (HS.out.at0) 0 rfl; have hc46 : w43.cell? ⟨g39, 1, none⟩ = some (.int .i64 a36) := blk_cellv (HS.out.at0) 1 rfl; have hc47 : w43.cell? ⟨g39, 2, none⟩ = some (.int .i64 a37) := blk_cellv (HS.out.at0) 2 rfl; have hc48 : w43.cell? ⟨g39, 3, none⟩ = some (.int .i64 a38) := blk_cellv (HS.out.at0) 3 rfl))
  clear hc45 hc46 hc47 hc48
  obtain ⟨t90, HA91, H⟩ := bind_some H
  refine (plan_Check.calls a35 a36 a37 a38 t90 _ ⟨HGl0.out.pass (l := []) HS.out⟩ ⟨Sep.start _⟩ HA91).mono ?_
  rintro e_ w92 ⟨rfl, hS⟩
  replace HS : Aside0 (Sep (fps []) w [b2 g39 a35 a36 a37 a38, b3 g42 0 0 0 0 0 0 0 0] w92) := ⟨HS.out.call hS⟩
  clear hS
  by_cases c93 : t90 = 0
  · replace H := if_yes c93 H
    have c93b0 : (t90 == 0) = true := beq_iff_eq.mpr c93
    have c93b1 : (t90 != 0) = false := bne_eq_false_iff_eq.mpr c93
    clear c93
    go_wp2_with fail
    obtain ⟨t170, HA171, H⟩ := bind_some H
    obtain ⟨t196, HA197, H⟩ := bind_some H
    go_cut [5] (fun v5 wc => ∃ (g96 : Nat) (g173 : Nat) (g199 : Nat), v5 = .pointer (some ⟨g199, 0, none⟩) ∧ Aside0 (Sep (fps []) w [b2 g39 a35 a36 a37 a38, b3 g42 0 0 0 0 0 0 0 0, b4 g96 a35 a36, b5 g173 24 a37 t170, b3 g199 t196 (wrap64 (a36 - 8)) 0 0 0 0 0 0] wc))
    case first =>
      go_wp2_with fail
      refine start_ (n := 16) (S := (fun w' => w'.cell? ⟨g39, 2, none⟩ = some (.int .i64 a37) ∧ w'.cell? ⟨g39, 0, none⟩ = some (.int .i64 a35) ∧ w'.cell? ⟨g39, 1, none⟩ = some (.int .i64 a36))) (ds := []) #[false, false, false, false, false, false, false, false, false, false, false, false, false, false, false, false] (by kernel_rfl) rfl rfl (⟨blk_cellv ((HS.out.drew).at0) 2 rfl, blk_cellv ((HS.out.drew).at0) 0 rfl, blk_cellv ((HS.out.drew).at0) 1 rfl⟩) (fun hHeld => ?_)
      have HS_ := Aside0.mk HS.out.drew
      clear HS
      generalize World.drew _ = w221 at HS_ hHeld ⊢
      have HS := HS_
      clear HS_
      refine pure_ (i := 0) (N := some 12) (v := ?_) (a' := ?_) #[true, false, false, false, false, false, false, false, false, false, false, false, false, false, false, false] rfl rfl (by kernel_rfl) (fun _ _ _ h => h) (Or.inl ⟨by rfl, ?_⟩) ?_ ?_
      rotate_left
      · intro w'
        go_simp
        with_reducible rfl
      rotate_left
      · simp only [Act.put, List.setIfInBounds_toArray, List.set_cons_zero, List.set_cons_succ, i64_w, i32_w]
        rfl
      refine pure_ (i := 2) (N := some 14) (v := ?_) (a' := ?_) #[true, false, true, false, false, false, false, false, false, false, false, false, false, false, false, false] rfl rfl (by kernel_rfl) (fun _ _ _ h => h) (Or.inl ⟨by rfl, ?_⟩) ?_ ?_
      rotate_left
      · intro w'
        go_simp
        with_reducible rfl
      rotate_left
      · simp only [Act.put, List.setIfInBounds_toArray, List.set_cons_zero, List.set_cons_succ, i64_w, i32_w]
        rfl
      refine pure_ (i := 4) (N := some 16) (v := ?_) (a' := ?_) #[true, false, true, false, true, false, false, false, false, false, false, false, false, false, false, false] rfl rfl (by kernel_rfl) (fun _ _ _ h => h) (Or.inl ⟨by rfl, ?_⟩) ?_ ?_
      rotate_left
      · intro w'
        go_simp
        with_reducible rfl
      rotate_left
      · simp only [Act.put, List.setIfInBounds_toArray, List.set_cons_zero, List.set_cons_succ, i64_w, i32_w]
        rfl
      refine pure_ (i := 10) (N := some 22) (v := ?_) (a' := ?_) #[true, false, true, false, true, false, false, false, false, false, true, false, false, false, false, false] rfl rfl (by kernel_rfl) (fun _ _ _ h => h) (Or.inl ⟨by rfl, ?_⟩) ?_ ?_
      rotate_left
      · intro w'
        go_simp
        with_reducible rfl
      rotate_left
      · simp only [Act.put, List.setIfInBounds_toArray, List.set_cons_zero, List.set_cons_succ, i64_w, i32_w]
        rfl
      refine take_ (i := 1) (N := some 13) (v := ?_) (a' := ?_) #[true, true, true, false, true, false, false, false, false, false, true, false, false, false, false, false] rfl rfl (by kernel_rfl) (fun _ _ _ h => h) (Or.inl ⟨by rfl, ?_⟩) hHeld ?_ ?_
      rotate_left
      · rintro w' hS'
        obtain ⟨s0, s1, s2⟩ := hS'
        go_simp
        with_reducible rfl
      rotate_left
      · simp only [Act.put, List.setIfInBounds_toArray, List.set_cons_zero, List.set_cons_succ, i64_w, i32_w]
        rfl
      refine take_ (i := 3) (N := some 15) (v := ?_) (a' := ?_) #[true, true, true, true, true, false, false, false, false, false, true, false, false, false, false, false] rfl rfl (by kernel_rfl) (fun _ _ _ h => h) (Or.inl ⟨by rfl, ?_⟩) hHeld ?_ ?_
      rotate_left
      · rintro w' hS'
        obtain ⟨s0, s1, s2⟩ := hS'
        go_simp
        with_reducible rfl
      rotate_left
      · simp only [Act.put, List.setIfInBounds_toArray, List.set_cons_zero, List.set_cons_succ, i64_w, i32_w]
        rfl
      refine take_ (i := 5) (N := some 17) (v := ?_) (a' := ?_) #[true, true, true, true, true, true, false, false, false, false, true, false, false, false, false, false] rfl rfl (by kernel_rfl) (fun _ _ _ h => h) (Or.inl ⟨by rfl, ?_⟩) hHeld ?_ ?_
      rotate_left
      · rintro w' hS'
        obtain ⟨s0, s1, s2⟩ := hS'
        go_simp
        with_reducible rfl
      rotate_left
      · simp only [Act.put, List.setIfInBounds_toArray, List.set_cons_zero, List.set_cons_succ, i64_w, i32_w]
        rfl
      refine take_ (i := 11) (N := some 23) (v := ?_) (a' := ?_) #[true, true, true, true, true, true, false, false, false, false, true, true, false, false, false, false] rfl rfl (by kernel_rfl) (fun _ _ _ h => h) (Or.inl ⟨by rfl, ?_⟩) hHeld ?_ ?_
      rotate_left
      · rintro w' hS'
        obtain ⟨s0, s1, s2⟩ := hS'
        go_simp
        with_reducible rfl
      rotate_left
      · simp only [Act.put, List.setIfInBounds_toArray, List.set_cons_zero, List.set_cons_succ, i64_w, i32_w]
        rfl
      refine pure_ (i := 12) (N := some 24) (v := ?_) (a' := ?_) #[true, true, true, true, true, true, false, false, false, false, true, true, true, false, false, false] rfl rfl (by kernel_rfl) (fun _ _ _ h => h) (Or.inl ⟨by rfl, ?_⟩) ?_ ?_
      rotate_left
      · intro w'
        go_simp
        with_reducible rfl
      rotate_left
      · simp only [Act.put, List.setIfInBounds_toArray, List.set_cons_zero, List.set_cons_succ, i64_w, i32_w]
        rfl
      refine two_ (i := 6) (j := 14) (Ni := some 18) (Nj := some 5) #[true, true, true, true, true, true, true, false, false, false, true, true, true, false, false, false] #[true, true, true, true, true, true, false, false, false, false, true, true, true, false, true, false] rfl rfl rfl rfl (by kernel_rfl) (by decide) (by decide) (fun K hK => ?_) (fun K hK => ?_)
      · refine slice_step (n := 2) (by rfl) (N := 18) rfl (cs := #[.int .i64 a35, .int .i64 a36]) (t := 3) ?hr ?_
        case hr => first | (go_simp; done) | (go_simp; rfl)
        intro g222 hg w223 hbox hb
        replace HS : Aside0 (Sep (fps []) w [b2 g39 a35 a36 a37 a38, b3 g42 0 0 0 0 0 0 0 0, b4 g222 a35 a36] w223) := ⟨HS.out.box hg hbox hb⟩
        clear hg hbox hb
        refine hK.out _ _ (⟨blk_cellv (HS.out.at0) 2 rfl, blk_cellv (HS.out.at0) 0 rfl, blk_cellv (HS.out.at0) 1 rfl⟩) (fun hHeld => ?_)
        clear hK K
        refine norm_ (a' := ?_) ?_ ?_
        rotate_left
        · show Act.put _ (some 18) _ = _
          simp only [Act.put, List.setIfInBounds_toArray, List.set_cons_zero, List.set_cons_succ, i64_w, i32_w]
          rfl
        refine two_ (i := 7) (j := 14) (Ni := some 19) (Nj := some 5) #[true, true, true, true, true, true, true, true, false, false, true, true, true, false, false, false] #[true, true, true, true, true, true, true, false, false, false, true, true, true, false, true, false] rfl rfl rfl rfl (by kernel_rfl) (by decide) (by decide) (fun K hK => ?_) (fun K hK => ?_)
        · refine goes_ Tryd.func123 (by kernel_rfl) rfl #[.slice (some ⟨g222, 0, none⟩) 2 2] (by rfl) rfl rfl (by (try simp only [List.map_toArray, List.map_cons, List.map_nil]); first | done | rfl) ?_
          refine (ratio_Mul.calls _ [a35, a36] (some ⟨g222, 0, none⟩) 2 t170 _ ⟨Rd.lit (l := []) (xs := [a35, a36]) HS.out 2 rfl (by simp)⟩ ⟨HGl0.out.pass (l := []) HS.out⟩ ⟨Sep.start _⟩ HA171).mono ?_
          rintro e_ w226 ⟨rfl, hS⟩
          replace HS : Aside0 (Sep (fps []) w [b2 g39 a35 a36 a37 a38, b3 g42 0 0 0 0 0 0 0 0, b4 g222 a35 a36] w226) := ⟨HS.out.call hS⟩
          clear hS
          refine ⟨_, rfl, ?_⟩
          refine hK.out _ _ (⟨blk_cellv (HS.out.at0) 2 rfl, blk_cellv (HS.out.at0) 0 rfl, blk_cellv (HS.out.at0) 1 rfl⟩) (fun hHeld => ?_)
          clear hK K
          refine norm_ (a' := ?_) ?_ ?_
          rotate_left
          · show Act.put _ (some 19) _ = _
            simp only [Act.put, List.setIfInBounds_toArray, List.set_cons_zero, List.set_cons_succ, i64_w, i32_w]
            rfl
          refine two_ (i := 8) (j := 14) (Ni := some 20) (Nj := some 5) #[true, true, true, true, true, true, true, true, true, false, true, true, true, false, false, false] #[true, true, true, true, true, true, true, true, false, false, true, true, true, false, true, false] rfl rfl rfl rfl (by kernel_rfl) (by decide) (by decide) (fun K hK => ?_) (fun K hK => ?_)
          · refine slice_step (n := 3) (by rfl) (N := 20) rfl (cs := #[.int .i64 24, .int .i64 a37, .int .i64 t170]) (t := 3) ?hr ?_
            case hr => first | (go_simp; done) | (go_simp; rfl)
            intro g227 hg w228 hbox hb
            replace HS : Aside0 (Sep (fps []) w [b2 g39 a35 a36 a37 a38, b3 g42 0 0 0 0 0 0 0 0, b4 g222 a35 a36, b5 g227 24 a37 t170] w228) := ⟨HS.out.box hg hbox hb⟩
            clear hg hbox hb
            refine hK.out _ _ (⟨blk_cellv (HS.out.at0) 2 rfl, blk_cellv (HS.out.at0) 0 rfl, blk_cellv (HS.out.at0) 1 rfl⟩) (fun hHeld => ?_)
            clear hK K
            refine norm_ (a' := ?_) ?_ ?_
            rotate_left
            · show Act.put _ (some 20) _ = _
              simp only [Act.put, List.setIfInBounds_toArray, List.set_cons_zero, List.set_cons_succ, i64_w, i32_w]
              rfl
            refine two_ (i := 9) (j := 14) (Ni := some 21) (Nj := some 5) #[true, true, true, true, true, true, true, true, true, true, true, true, true, false, false, false] #[true, true, true, true, true, true, true, true, true, false, true, true, true, false, true, false] rfl rfl rfl rfl (by kernel_rfl) (by decide) (by decide) (fun K hK => ?_) (fun K hK => ?_)
            · refine goes_ Tryd.func122 (by kernel_rfl) rfl #[.slice (some ⟨g227, 0, none⟩) 3 3] (by rfl) rfl rfl (by (try simp only [List.map_toArray, List.map_cons, List.map_nil]); first | done | rfl) ?_
              refine (ratio_Add.calls _ [24, a37, t170] (some ⟨g227, 0, none⟩) 3 t196 _ ⟨Rd.lit (l := []) (xs := [24, a37, t170]) HS.out 3 rfl (by simp)⟩ ⟨HGl0.out.pass (l := []) HS.out⟩ ⟨Sep.start _⟩ HA197).mono ?_
              rintro e_ w231 ⟨rfl, hS⟩
              replace HS : Aside0 (Sep (fps []) w [b2 g39 a35 a36 a37 a38, b3 g42 0 0 0 0 0 0 0 0, b4 g222 a35 a36, b5 g227 24 a37 t170] w231) := ⟨HS.out.call hS⟩
              clear hS
              refine ⟨_, rfl, ?_⟩
              refine hK.out _ _ (⟨blk_cellv (HS.out.at0) 2 rfl, blk_cellv (HS.out.at0) 0 rfl, blk_cellv (HS.out.at0) 1 rfl⟩) (fun hHeld => ?_)
              clear hK K
              refine norm_ (a' := ?_) ?_ ?_
              rotate_left
              · show Act.put _ (some 21) _ = _
                simp only [Act.put, List.setIfInBounds_toArray, List.set_cons_zero, List.set_cons_succ, i64_w, i32_w]
                rfl
              refine pure_ (i := 13) (N := some 25) (v := ?_) (a' := ?_) #[true, true, true, true, true, true, true, true, true, true, true, true, true, true, false, false] rfl rfl (by kernel_rfl) (fun _ _ _ h => h) (Or.inl ⟨by rfl, ?_⟩) ?_ ?_
              rotate_left
              · intro w'
                go_simp
                with_reducible rfl
              rotate_left
              · simp only [Act.put, List.setIfInBounds_toArray, List.set_cons_zero, List.set_cons_succ, i64_w, i32_w]
                rfl
              refine one_ (i := 14) (N := some 5) #[true, true, true, true, true, true, true, true, true, true, true, true, true, true, true, false] rfl rfl (by kernel_rfl) (by decide) (fun K hK => ?_)
              refine box_step (by rfl) (N := 5) rfl (cs := #[.int .i64 0, .int .i64 0, .int .i64 0, .int .i64 0, .int .i64 0, .int .i64 0, .int .i64 0, .int .i64 0]) (t := 97) ?hr ?_
              case hr => first | (go_simp; done) | (go_simp; rfl)
              intro g232 hg w233 hbox hb
              replace HS : Aside0 (Sep (fps []) w [b2 g39 a35 a36 a37 a38, b3 g42 0 0 0 0 0 0 0 0, b4 g222 a35 a36, b5 g227 24 a37 t170, b3 g232 0 0 0 0 0 0 0 0] w233) := ⟨HS.out.box hg hbox hb⟩
              clear hg hbox hb
              refine hK.out _ _ (⟨blk_cellv (HS.out.at0) 2 rfl, blk_cellv (HS.out.at0) 0 rfl, blk_cellv (HS.out.at0) 1 rfl⟩) (fun hHeld => ?_)
              clear hK K
              refine norm_ (a' := ?_) ?_ ?_
              rotate_left
              · show Act.put _ (some 5) _ = _
                simp only [Act.put, List.setIfInBounds_toArray, List.set_cons_zero, List.set_cons_succ, i64_w, i32_w]
                rfl
              refine one_ (i := 15) (N := none) #[true, true, true, true, true, true, true, true, true, true, true, true, true, true, true, true] rfl rfl (by kernel_rfl) (by decide) (fun K hK => ?_)
              have hc236 := blk_cellv (v := .int .i64 0) (HS.out.at4) 0 rfl
              have hz237 := blk_fz (HS.out.at4) 0
              have hc238 := blk_cellv (v := .int .i64 0) (HS.out.at4) 1 rfl
              have hz239 := blk_fz (HS.out.at4) 1
              have hc240 := blk_cellv (v := .int .i64 0) (HS.out.at4) 2 rfl
              have hz241 := blk_fz (HS.out.at4) 2
              have hc242 := blk_cellv (v := .int .i64 0) (HS.out.at4) 3 rfl
              have hz243 := blk_fz (HS.out.at4) 3
              have hc244 := blk_cellv (v := .int .i64 0) (HS.out.at4) 4 rfl
              have hz245 := blk_fz (HS.out.at4) 4
              have hc246 := blk_cellv (v := .int .i64 0) (HS.out.at4) 5 rfl
              have hz247 := blk_fz (HS.out.at4) 5
              have hc248 := blk_cellv (v := .int .i64 0) (HS.out.at4) 6 rfl
              have hz249 := blk_fz (HS.out.at4) 6
              have hc250 := blk_cellv (v := .int .i64 0) (HS.out.at4) 7 rfl
              have hz251 := blk_fz (HS.out.at4) 7
              refine store_step (w1 := (World.setCell (World.setCell (World.setCell (World.setCell (World.setCell (World.setCell (World.setCell (World.setCell w233 ⟨g232, 0, none⟩ (.int .i64 t196)) ⟨g232, 1, none⟩ (.int .i64 (wrap64 (a36 - 8)))) ⟨g232, 2, none⟩ (.int .i64 0)) ⟨g232, 3, none⟩ (.int .i64 0)) ⟨g232, 4, none⟩ (.int .i64 0)) ⟨g232, 5, none⟩ (.int .i64 0)) ⟨g232, 6, none⟩ (.int .i64 0)) ⟨g232, 7, none⟩ (.int .i64 0))) (by rfl) rfl ?hr ?_
              case hr => first | (go_simp; done) | (go_simp; rfl)
              clear hc236 hz237 hc238 hz239 hc240 hz241 hc242 hz243 hc244 hz245 hc246 hz247 hc248 hz249 hc250 hz251
              intro w235 hst
              replace HS : Aside0 (Sep (fps []) w [b2 g39 a35 a36 a37 a38, b3 g42 0 0 0 0 0 0 0 0, b4 g222 a35 a36, b5 g227 24 a37 t170, b3 g232 t196 (wrap64 (a36 - 8)) 0 0 0 0 0 0] w235) := ⟨by rw [hst]; exact HS.out.setAll (l1 := [b2 g39 a35 a36 a37 a38, b3 g42 0 0 0 0 0 0 0 0, b4 g222 a35 a36, b5 g227 24 a37 t170]) (l2 := []) [.int .i64 t196, .int .i64 (wrap64 (a36 - 8)), .int .i64 0, .int .i64 0, .int .i64 0, .int .i64 0, .int .i64 0, .int .i64 0] rfl⟩
              clear hst
              refine hK.out _ _ (⟨blk_cellv (HS.out.at0) 2 rfl, blk_cellv (HS.out.at0) 0 rfl, blk_cellv (HS.out.at0) 1 rfl⟩) (fun hHeld => ?_)
              clear hK K
              refine done_ (by kernel_rfl) ?_
              go_wp2_with fail
              go_meet
              case rel => exact ⟨g222, g227, g232, (by first | rfl | (simp [IntKind.wrap_u32]; done)), ⟨(((((HS.out).front 4 (by simp)).front 4 (by simp)).front 4 (by simp)).front 4 (by simp)).front 4 (by simp)⟩⟩
            · refine box_step (by rfl) (N := 5) rfl (cs := #[.int .i64 0, .int .i64 0, .int .i64 0, .int .i64 0, .int .i64 0, .int .i64 0, .int .i64 0, .int .i64 0]) (t := 97) ?hr ?_
              case hr => first | (go_simp; done) | (go_simp; rfl)
              intro g252 hg w253 hbox hb
              replace HS : Aside0 (Sep (fps []) w [b2 g39 a35 a36 a37 a38, b3 g42 0 0 0 0 0 0 0 0, b4 g222 a35 a36, b5 g227 24 a37 t170, b3 g252 0 0 0 0 0 0 0 0] w253) := ⟨HS.out.box hg hbox hb⟩
              clear hg hbox hb
              refine hK.out _ _ (⟨blk_cellv (HS.out.at0) 2 rfl, blk_cellv (HS.out.at0) 0 rfl, blk_cellv (HS.out.at0) 1 rfl⟩) (fun hHeld => ?_)
              clear hK K
              refine norm_ (a' := ?_) ?_ ?_
              rotate_left
              · show Act.put _ (some 5) _ = _
                simp only [Act.put, List.setIfInBounds_toArray, List.set_cons_zero, List.set_cons_succ, i64_w, i32_w]
                rfl
              refine one_ (i := 9) (N := some 21) #[true, true, true, true, true, true, true, true, true, true, true, true, true, false, true, false] rfl rfl (by kernel_rfl) (by decide) (fun K hK => ?_)
              refine goes_ Tryd.func122 (by kernel_rfl) rfl #[.slice (some ⟨g227, 0, none⟩) 3 3] (by rfl) rfl rfl (by (try simp only [List.map_toArray, List.map_cons, List.map_nil]); first | done | rfl) ?_
              refine (ratio_Add.calls _ [24, a37, t170] (some ⟨g227, 0, none⟩) 3 t196 _ ⟨Rd.lit (l := []) (xs := [24, a37, t170]) HS.out 3 rfl (by simp)⟩ ⟨HGl0.out.pass (l := []) HS.out⟩ ⟨Sep.start _⟩ HA197).mono ?_
              rintro e_ w256 ⟨rfl, hS⟩
              replace HS : Aside0 (Sep (fps []) w [b2 g39 a35 a36 a37 a38, b3 g42 0 0 0 0 0 0 0 0, b4 g222 a35 a36, b5 g227 24 a37 t170, b3 g252 0 0 0 0 0 0 0 0] w256) := ⟨HS.out.call hS⟩
              clear hS
              refine ⟨_, rfl, ?_⟩
              refine hK.out _ _ (⟨blk_cellv (HS.out.at0) 2 rfl, blk_cellv (HS.out.at0) 0 rfl, blk_cellv (HS.out.at0) 1 rfl⟩) (fun hHeld => ?_)
              clear hK K
              refine norm_ (a' := ?_) ?_ ?_
              rotate_left
              · show Act.put _ (some 21) _ = _
                simp only [Act.put, List.setIfInBounds_toArray, List.set_cons_zero, List.set_cons_succ, i64_w, i32_w]
                rfl
              refine pure_ (i := 13) (N := some 25) (v := ?_) (a' := ?_) #[true, true, true, true, true, true, true, true, true, true, true, true, true, true, true, false] rfl rfl (by kernel_rfl) (fun _ _ _ h => h) (Or.inl ⟨by rfl, ?_⟩) ?_ ?_
              rotate_left
              · intro w'
                go_simp
                with_reducible rfl
              rotate_left
              · simp only [Act.put, List.setIfInBounds_toArray, List.set_cons_zero, List.set_cons_succ, i64_w, i32_w]
                rfl
              refine one_ (i := 15) (N := none) #[true, true, true, true, true, true, true, true, true, true, true, true, true, true, true, true] rfl rfl (by kernel_rfl) (by decide) (fun K hK => ?_)
              have hc258 := blk_cellv (v := .int .i64 0) (HS.out.at4) 0 rfl
              have hz259 := blk_fz (HS.out.at4) 0
              have hc260 := blk_cellv (v := .int .i64 0) (HS.out.at4) 1 rfl
              have hz261 := blk_fz (HS.out.at4) 1
              have hc262 := blk_cellv (v := .int .i64 0) (HS.out.at4) 2 rfl
              have hz263 := blk_fz (HS.out.at4) 2
              have hc264 := blk_cellv (v := .int .i64 0) (HS.out.at4) 3 rfl
              have hz265 := blk_fz (HS.out.at4) 3
              have hc266 := blk_cellv (v := .int .i64 0) (HS.out.at4) 4 rfl
              have hz267 := blk_fz (HS.out.at4) 4
              have hc268 := blk_cellv (v := .int .i64 0) (HS.out.at4) 5 rfl
              have hz269 := blk_fz (HS.out.at4) 5
              have hc270 := blk_cellv (v := .int .i64 0) (HS.out.at4) 6 rfl
              have hz271 := blk_fz (HS.out.at4) 6
              have hc272 := blk_cellv (v := .int .i64 0) (HS.out.at4) 7 rfl
              have hz273 := blk_fz (HS.out.at4) 7
              refine store_step (w1 := (World.setCell (World.setCell (World.setCell (World.setCell (World.setCell (World.setCell (World.setCell (World.setCell w256 ⟨g252, 0, none⟩ (.int .i64 t196)) ⟨g252, 1, none⟩ (.int .i64 (wrap64 (a36 - 8)))) ⟨g252, 2, none⟩ (.int .i64 0)) ⟨g252, 3, none⟩ (.int .i64 0)) ⟨g252, 4, none⟩ (.int .i64 0)) ⟨g252, 5, none⟩ (.int .i64 0)) ⟨g252, 6, none⟩ (.int .i64 0)) ⟨g252, 7, none⟩ (.int .i64 0))) (by rfl) rfl ?hr ?_
              case hr => first | (go_simp; done) | (go_simp; rfl)
              clear hc258 hz259 hc260 hz261 hc262 hz263 hc264 hz265 hc266 hz267 hc268 hz269 hc270 hz271 hc272 hz273
              intro w257 hst
              replace HS : Aside0 (Sep (fps []) w [b2 g39 a35 a36 a37 a38, b3 g42 0 0 0 0 0 0 0 0, b4 g222 a35 a36, b5 g227 24 a37 t170, b3 g252 t196 (wrap64 (a36 - 8)) 0 0 0 0 0 0] w257) := ⟨by rw [hst]; exact HS.out.setAll (l1 := [b2 g39 a35 a36 a37 a38, b3 g42 0 0 0 0 0 0 0 0, b4 g222 a35 a36, b5 g227 24 a37 t170]) (l2 := []) [.int .i64 t196, .int .i64 (wrap64 (a36 - 8)), .int .i64 0, .int .i64 0, .int .i64 0, .int .i64 0, .int .i64 0, .int .i64 0] rfl⟩
              clear hst
              refine hK.out _ _ (⟨blk_cellv (HS.out.at0) 2 rfl, blk_cellv (HS.out.at0) 0 rfl, blk_cellv (HS.out.at0) 1 rfl⟩) (fun hHeld => ?_)
              clear hK K
              refine done_ (by kernel_rfl) ?_
              go_wp2_with fail
              go_meet
              case rel => exact ⟨g222, g227, g252, (by first | rfl | (simp [IntKind.wrap_u32]; done)), ⟨(((((HS.out).front 4 (by simp)).front 4 (by simp)).front 4 (by simp)).front 4 (by simp)).front 4 (by simp)⟩⟩
          · refine box_step (by rfl) (N := 5) rfl (cs := #[.int .i64 0, .int .i64 0, .int .i64 0, .int .i64 0, .int .i64 0, .int .i64 0, .int .i64 0, .int .i64 0]) (t := 97) ?hr ?_
            case hr => first | (go_simp; done) | (go_simp; rfl)
            intro g274 hg w275 hbox hb
            replace HS : Aside0 (Sep (fps []) w [b2 g39 a35 a36 a37 a38, b3 g42 0 0 0 0 0 0 0 0, b4 g222 a35 a36, b3 g274 0 0 0 0 0 0 0 0] w275) := ⟨HS.out.box hg hbox hb⟩
            clear hg hbox hb
            refine hK.out _ _ (⟨blk_cellv (HS.out.at0) 2 rfl, blk_cellv (HS.out.at0) 0 rfl, blk_cellv (HS.out.at0) 1 rfl⟩) (fun hHeld => ?_)
            clear hK K
            refine norm_ (a' := ?_) ?_ ?_
            rotate_left
            · show Act.put _ (some 5) _ = _
              simp only [Act.put, List.setIfInBounds_toArray, List.set_cons_zero, List.set_cons_succ, i64_w, i32_w]
              rfl
            refine one_ (i := 8) (N := some 20) #[true, true, true, true, true, true, true, true, true, false, true, true, true, false, true, false] rfl rfl (by kernel_rfl) (by decide) (fun K hK => ?_)
            refine slice_step (n := 3) (by rfl) (N := 20) rfl (cs := #[.int .i64 24, .int .i64 a37, .int .i64 t170]) (t := 3) ?hr ?_
            case hr => first | (go_simp; done) | (go_simp; rfl)
            intro g277 hg w278 hbox hb
            replace HS : Aside0 (Sep (fps []) w [b2 g39 a35 a36 a37 a38, b3 g42 0 0 0 0 0 0 0 0, b4 g222 a35 a36, b3 g274 0 0 0 0 0 0 0 0, b5 g277 24 a37 t170] w278) := ⟨HS.out.box hg hbox hb⟩
            clear hg hbox hb
            refine hK.out _ _ (⟨blk_cellv (HS.out.at0) 2 rfl, blk_cellv (HS.out.at0) 0 rfl, blk_cellv (HS.out.at0) 1 rfl⟩) (fun hHeld => ?_)
            clear hK K
            refine norm_ (a' := ?_) ?_ ?_
            rotate_left
            · show Act.put _ (some 20) _ = _
              simp only [Act.put, List.setIfInBounds_toArray, List.set_cons_zero, List.set_cons_succ, i64_w, i32_w]
              rfl
            refine one_ (i := 9) (N := some 21) #[true, true, true, true, true, true, true, true, true, true, true, true, true, false, true, false] rfl rfl (by kernel_rfl) (by decide) (fun K hK => ?_)
            refine goes_ Tryd.func122 (by kernel_rfl) rfl #[.slice (some ⟨g277, 0, none⟩) 3 3] (by rfl) rfl rfl (by (try simp only [List.map_toArray, List.map_cons, List.map_nil]); first | done | rfl) ?_
            refine (ratio_Add.calls _ [24, a37, t170] (some ⟨g277, 0, none⟩) 3 t196 _ ⟨Rd.lit (l := []) (xs := [24, a37, t170]) HS.out 4 rfl (by simp)⟩ ⟨HGl0.out.pass (l := []) HS.out⟩ ⟨Sep.start _⟩ HA197).mono ?_
            rintro e_ w281 ⟨rfl, hS⟩
            replace HS : Aside0 (Sep (fps []) w [b2 g39 a35 a36 a37 a38, b3 g42 0 0 0 0 0 0 0 0, b4 g222 a35 a36, b3 g274 0 0 0 0 0 0 0 0, b5 g277 24 a37 t170] w281) := ⟨HS.out.call hS⟩
            clear hS
            refine ⟨_, rfl, ?_⟩
            refine hK.out _ _ (⟨blk_cellv (HS.out.at0) 2 rfl, blk_cellv (HS.out.at0) 0 rfl, blk_cellv (HS.out.at0) 1 rfl⟩) (fun hHeld => ?_)
            clear hK K
            refine norm_ (a' := ?_) ?_ ?_
            rotate_left
            · show Act.put _ (some 21) _ = _
              simp only [Act.put, List.setIfInBounds_toArray, List.set_cons_zero, List.set_cons_succ, i64_w, i32_w]
              rfl
            refine pure_ (i := 13) (N := some 25) (v := ?_) (a' := ?_) #[true, true, true, true, true, true, true, true, true, true, true, true, true, true, true, false] rfl rfl (by kernel_rfl) (fun _ _ _ h => h) (Or.inl ⟨by rfl, ?_⟩) ?_ ?_
            rotate_left
            · intro w'
              go_simp
              with_reducible rfl
            rotate_left
            · simp only [Act.put, List.setIfInBounds_toArray, List.set_cons_zero, List.set_cons_succ, i64_w, i32_w]
              rfl
            refine one_ (i := 15) (N := none) #[true, true, true, true, true, true, true, true, true, true, true, true, true, true, true, true] rfl rfl (by kernel_rfl) (by decide) (fun K hK => ?_)
            have hc283 := blk_cellv (v := .int .i64 0) (HS.out.at3) 0 rfl
            have hz284 := blk_fz (HS.out.at3) 0
            have hc285 := blk_cellv (v := .int .i64 0) (HS.out.at3) 1 rfl
            have hz286 := blk_fz (HS.out.at3) 1
            have hc287 := blk_cellv (v := .int .i64 0) (HS.out.at3) 2 rfl
            have hz288 := blk_fz (HS.out.at3) 2
            have hc289 := blk_cellv (v := .int .i64 0) (HS.out.at3) 3 rfl
            have hz290 := blk_fz (HS.out.at3) 3
            have hc291 := blk_cellv (v := .int .i64 0) (HS.out.at3) 4 rfl
            have hz292 := blk_fz (HS.out.at3) 4
            have hc293 := blk_cellv (v := .int .i64 0) (HS.out.at3) 5 rfl
            have hz294 := blk_fz (HS.out.at3) 5
            have hc295 := blk_cellv (v := .int .i64 0) (HS.out.at3) 6 rfl
            have hz296 := blk_fz (HS.out.at3) 6
            have hc297 := blk_cellv (v := .int .i64 0) (HS.out.at3) 7 rfl
            have hz298 := blk_fz (HS.out.at3) 7
            refine store_step (w1 := (World.setCell (World.setCell (World.setCell (World.setCell (World.setCell (World.setCell (World.setCell (World.setCell w281 ⟨g274, 0, none⟩ (.int .i64 t196)) ⟨g274, 1, none⟩ (.int .i64 (wrap64 (a36 - 8)))) ⟨g274, 2, none⟩ (.int .i64 0)) ⟨g274, 3, none⟩ (.int .i64 0)) ⟨g274, 4, none⟩ (.int .i64 0)) ⟨g274, 5, none⟩ (.int .i64 0)) ⟨g274, 6, none⟩ (.int .i64 0)) ⟨g274, 7, none⟩ (.int .i64 0))) (by rfl) rfl ?hr ?_
            case hr => first | (go_simp; done) | (go_simp; rfl)
            clear hc283 hz284 hc285 hz286 hc287 hz288 hc289 hz290 hc291 hz292 hc293 hz294 hc295 hz296 hc297 hz298
            intro w282 hst
            replace HS : Aside0 (Sep (fps []) w [b2 g39 a35 a36 a37 a38, b3 g42 0 0 0 0 0 0 0 0, b4 g222 a35 a36, b3 g274 t196 (wrap64 (a36 - 8)) 0 0 0 0 0 0, b5 g277 24 a37 t170] w282) := ⟨by rw [hst]; exact HS.out.setAll (l1 := [b2 g39 a35 a36 a37 a38, b3 g42 0 0 0 0 0 0 0 0, b4 g222 a35 a36]) (l2 := [b5 g277 24 a37 t170]) [.int .i64 t196, .int .i64 (wrap64 (a36 - 8)), .int .i64 0, .int .i64 0, .int .i64 0, .int .i64 0, .int .i64 0, .int .i64 0] rfl⟩
            clear hst
            refine hK.out _ _ (⟨blk_cellv (HS.out.at0) 2 rfl, blk_cellv (HS.out.at0) 0 rfl, blk_cellv (HS.out.at0) 1 rfl⟩) (fun hHeld => ?_)
            clear hK K
            refine done_ (by kernel_rfl) ?_
            go_wp2_with fail
            go_meet
            case rel => exact ⟨g222, g277, g274, (by first | rfl | (simp [IntKind.wrap_u32]; done)), ⟨(((((HS.out).front 3 (by simp)).front 4 (by simp)).front 4 (by simp)).front 4 (by simp)).front 4 (by simp)⟩⟩
        · refine box_step (by rfl) (N := 5) rfl (cs := #[.int .i64 0, .int .i64 0, .int .i64 0, .int .i64 0, .int .i64 0, .int .i64 0, .int .i64 0, .int .i64 0]) (t := 97) ?hr ?_
          case hr => first | (go_simp; done) | (go_simp; rfl)
          intro g299 hg w300 hbox hb
          replace HS : Aside0 (Sep (fps []) w [b2 g39 a35 a36 a37 a38, b3 g42 0 0 0 0 0 0 0 0, b4 g222 a35 a36, b3 g299 0 0 0 0 0 0 0 0] w300) := ⟨HS.out.box hg hbox hb⟩
          clear hg hbox hb
          refine hK.out _ _ (⟨blk_cellv (HS.out.at0) 2 rfl, blk_cellv (HS.out.at0) 0 rfl, blk_cellv (HS.out.at0) 1 rfl⟩) (fun hHeld => ?_)
          clear hK K
          refine norm_ (a' := ?_) ?_ ?_
          rotate_left
          · show Act.put _ (some 5) _ = _
            simp only [Act.put, List.setIfInBounds_toArray, List.set_cons_zero, List.set_cons_succ, i64_w, i32_w]
            rfl
          refine one_ (i := 7) (N := some 19) #[true, true, true, true, true, true, true, true, false, false, true, true, true, false, true, false] rfl rfl (by kernel_rfl) (by decide) (fun K hK => ?_)
          refine goes_ Tryd.func123 (by kernel_rfl) rfl #[.slice (some ⟨g222, 0, none⟩) 2 2] (by rfl) rfl rfl (by (try simp only [List.map_toArray, List.map_cons, List.map_nil]); first | done | rfl) ?_
          refine (ratio_Mul.calls _ [a35, a36] (some ⟨g222, 0, none⟩) 2 t170 _ ⟨Rd.lit (l := []) (xs := [a35, a36]) HS.out 2 rfl (by simp)⟩ ⟨HGl0.out.pass (l := []) HS.out⟩ ⟨Sep.start _⟩ HA171).mono ?_
          rintro e_ w303 ⟨rfl, hS⟩
          replace HS : Aside0 (Sep (fps []) w [b2 g39 a35 a36 a37 a38, b3 g42 0 0 0 0 0 0 0 0, b4 g222 a35 a36, b3 g299 0 0 0 0 0 0 0 0] w303) := ⟨HS.out.call hS⟩
          clear hS
          refine ⟨_, rfl, ?_⟩
          refine hK.out _ _ (⟨blk_cellv (HS.out.at0) 2 rfl, blk_cellv (HS.out.at0) 0 rfl, blk_cellv (HS.out.at0) 1 rfl⟩) (fun hHeld => ?_)
          clear hK K
          refine norm_ (a' := ?_) ?_ ?_
          rotate_left
          · show Act.put _ (some 19) _ = _
            simp only [Act.put, List.setIfInBounds_toArray, List.set_cons_zero, List.set_cons_succ, i64_w, i32_w]
            rfl
          refine one_ (i := 8) (N := some 20) #[true, true, true, true, true, true, true, true, true, false, true, true, true, false, true, false] rfl rfl (by kernel_rfl) (by decide) (fun K hK => ?_)
          refine slice_step (n := 3) (by rfl) (N := 20) rfl (cs := #[.int .i64 24, .int .i64 a37, .int .i64 t170]) (t := 3) ?hr ?_
          case hr => first | (go_simp; done) | (go_simp; rfl)
          intro g304 hg w305 hbox hb
          replace HS : Aside0 (Sep (fps []) w [b2 g39 a35 a36 a37 a38, b3 g42 0 0 0 0 0 0 0 0, b4 g222 a35 a36, b3 g299 0 0 0 0 0 0 0 0, b5 g304 24 a37 t170] w305) := ⟨HS.out.box hg hbox hb⟩
          clear hg hbox hb
          refine hK.out _ _ (⟨blk_cellv (HS.out.at0) 2 rfl, blk_cellv (HS.out.at0) 0 rfl, blk_cellv (HS.out.at0) 1 rfl⟩) (fun hHeld => ?_)
          clear hK K
          refine norm_ (a' := ?_) ?_ ?_
          rotate_left
          · show Act.put _ (some 20) _ = _
            simp only [Act.put, List.setIfInBounds_toArray, List.set_cons_zero, List.set_cons_succ, i64_w, i32_w]
            rfl
          refine one_ (i := 9) (N := some 21) #[true, true, true, true, true, true, true, true, true, true, true, true, true, false, true, false] rfl rfl (by kernel_rfl) (by decide) (fun K hK => ?_)
          refine goes_ Tryd.func122 (by kernel_rfl) rfl #[.slice (some ⟨g304, 0, none⟩) 3 3] (by rfl) rfl rfl (by (try simp only [List.map_toArray, List.map_cons, List.map_nil]); first | done | rfl) ?_
          refine (ratio_Add.calls _ [24, a37, t170] (some ⟨g304, 0, none⟩) 3 t196 _ ⟨Rd.lit (l := []) (xs := [24, a37, t170]) HS.out 4 rfl (by simp)⟩ ⟨HGl0.out.pass (l := []) HS.out⟩ ⟨Sep.start _⟩ HA197).mono ?_
          rintro e_ w308 ⟨rfl, hS⟩
          replace HS : Aside0 (Sep (fps []) w [b2 g39 a35 a36 a37 a38, b3 g42 0 0 0 0 0 0 0 0, b4 g222 a35 a36, b3 g299 0 0 0 0 0 0 0 0, b5 g304 24 a37 t170] w308) := ⟨HS.out.call hS⟩
          clear hS
          refine ⟨_, rfl, ?_⟩
          refine hK.out _ _ (⟨blk_cellv (HS.out.at0) 2 rfl, blk_cellv (HS.out.at0) 0 rfl, blk_cellv (HS.out.at0) 1 rfl⟩) (fun hHeld => ?_)
          clear hK K
          refine norm_ (a' := ?_) ?_ ?_
          rotate_left
          · show Act.put _ (some 21) _ = _
            simp only [Act.put, List.setIfInBounds_toArray, List.set_cons_zero, List.set_cons_succ, i64_w, i32_w]
            rfl
          refine pure_ (i := 13) (N := some 25) (v := ?_) (a' := ?_) #[true, true, true, true, true, true, true, true, true, true, true, true, true, true, true, false] rfl rfl (by kernel_rfl) (fun _ _ _ h => h) (Or.inl ⟨by rfl, ?_⟩) ?_ ?_
          rotate_left
          · intro w'
            go_simp
            with_reducible rfl
          rotate_left
          · simp only [Act.put, List.setIfInBounds_toArray, List.set_cons_zero, List.set_cons_succ, i64_w, i32_w]
            rfl
          refine one_ (i := 15) (N := none) #[true, true, true, true, true, true, true, true, true, true, true, true, true, true, true, true] rfl rfl (by kernel_rfl) (by decide) (fun K hK => ?_)
          have hc310 := blk_cellv (v := .int .i64 0) (HS.out.at3) 0 rfl
          have hz311 := blk_fz (HS.out.at3) 0
          have hc312 := blk_cellv (v := .int .i64 0) (HS.out.at3) 1 rfl
          have hz313 := blk_fz (HS.out.at3) 1
          have hc314 := blk_cellv (v := .int .i64 0) (HS.out.at3) 2 rfl
          have hz315 := blk_fz (HS.out.at3) 2
          have hc316 := blk_cellv (v := .int .i64 0) (HS.out.at3) 3 rfl
          have hz317 := blk_fz (HS.out.at3) 3
          have hc318 := blk_cellv (v := .int .i64 0) (HS.out.at3) 4 rfl
          have hz319 := blk_fz (HS.out.at3) 4
          have hc320 := blk_cellv (v := .int .i64 0) (HS.out.at3) 5 rfl
          have hz321 := blk_fz (HS.out.at3) 5
          have hc322 := blk_cellv (v := .int .i64 0) (HS.out.at3) 6 rfl
          have hz323 := blk_fz (HS.out.at3) 6
          have hc324 := blk_cellv (v := .int .i64 0) (HS.out.at3) 7 rfl
          have hz325 := blk_fz (HS.out.at3) 7
          refine store_step (w1 := (World.setCell (World.setCell (World.setCell (World.setCell (World.setCell (World.setCell (World.setCell (World.setCell w308 ⟨g299, 0, none⟩ (.int .i64 t196)) ⟨g299, 1, none⟩ (.int .i64 (wrap64 (a36 - 8)))) ⟨g299, 2, none⟩ (.int .i64 0)) ⟨g299, 3, none⟩ (.int .i64 0)) ⟨g299, 4, none⟩ (.int .i64 0)) ⟨g299, 5, none⟩ (.int .i64 0)) ⟨g299, 6, none⟩ (.int .i64 0)) ⟨g299, 7, none⟩ (.int .i64 0))) (by rfl) rfl ?hr ?_
          case hr => first | (go_simp; done) | (go_simp; rfl)
          clear hc310 hz311 hc312 hz313 hc314 hz315 hc316 hz317 hc318 hz319 hc320 hz321 hc322 hz323 hc324 hz325
          intro w309 hst
          replace HS : Aside0 (Sep (fps []) w [b2 g39 a35 a36 a37 a38, b3 g42 0 0 0 0 0 0 0 0, b4 g222 a35 a36, b3 g299 t196 (wrap64 (a36 - 8)) 0 0 0 0 0 0, b5 g304 24 a37 t170] w309) := ⟨by rw [hst]; exact HS.out.setAll (l1 := [b2 g39 a35 a36 a37 a38, b3 g42 0 0 0 0 0 0 0 0, b4 g222 a35 a36]) (l2 := [b5 g304 24 a37 t170]) [.int .i64 t196, .int .i64 (wrap64 (a36 - 8)), .int .i64 0, .int .i64 0, .int .i64 0, .int .i64 0, .int .i64 0, .int .i64 0] rfl⟩
          clear hst
          refine hK.out _ _ (⟨blk_cellv (HS.out.at0) 2 rfl, blk_cellv (HS.out.at0) 0 rfl, blk_cellv (HS.out.at0) 1 rfl⟩) (fun hHeld => ?_)
          clear hK K
          refine done_ (by kernel_rfl) ?_
          go_wp2_with fail
          go_meet
          case rel => exact ⟨g222, g304, g299, (by first | rfl | (simp [IntKind.wrap_u32]; done)), ⟨(((((HS.out).front 3 (by simp)).front 4 (by simp)).front 4 (by simp)).front 4 (by simp)).front 4 (by simp)⟩⟩
      · refine box_step (by rfl) (N := 5) rfl (cs := #[.int .i64 0, .int .i64 0, .int .i64 0, .int .i64 0, .int .i64 0, .int .i64 0, .int .i64 0, .int .i64 0]) (t := 97) ?hr ?_
        case hr => first | (go_simp; done) | (go_simp; rfl)
        intro g326 hg w327 hbox hb
        replace HS : Aside0 (Sep (fps []) w [b2 g39 a35 a36 a37 a38, b3 g42 0 0 0 0 0 0 0 0, b3 g326 0 0 0 0 0 0 0 0] w327) := ⟨HS.out.box hg hbox hb⟩
        clear hg hbox hb
        refine hK.out _ _ (⟨blk_cellv (HS.out.at0) 2 rfl, blk_cellv (HS.out.at0) 0 rfl, blk_cellv (HS.out.at0) 1 rfl⟩) (fun hHeld => ?_)
        clear hK K
        refine norm_ (a' := ?_) ?_ ?_
        rotate_left
        · show Act.put _ (some 5) _ = _
          simp only [Act.put, List.setIfInBounds_toArray, List.set_cons_zero, List.set_cons_succ, i64_w, i32_w]
          rfl
        refine one_ (i := 6) (N := some 18) #[true, true, true, true, true, true, true, false, false, false, true, true, true, false, true, false] rfl rfl (by kernel_rfl) (by decide) (fun K hK => ?_)
        refine slice_step (n := 2) (by rfl) (N := 18) rfl (cs := #[.int .i64 a35, .int .i64 a36]) (t := 3) ?hr ?_
        case hr => first | (go_simp; done) | (go_simp; rfl)
        intro g329 hg w330 hbox hb
        replace HS : Aside0 (Sep (fps []) w [b2 g39 a35 a36 a37 a38, b3 g42 0 0 0 0 0 0 0 0, b3 g326 0 0 0 0 0 0 0 0, b4 g329 a35 a36] w330) := ⟨HS.out.box hg hbox hb⟩
        clear hg hbox hb
        refine hK.out _ _ (⟨blk_cellv (HS.out.at0) 2 rfl, blk_cellv (HS.out.at0) 0 rfl, blk_cellv (HS.out.at0) 1 rfl⟩) (fun hHeld => ?_)
        clear hK K
        refine norm_ (a' := ?_) ?_ ?_
        rotate_left
        · show Act.put _ (some 18) _ = _
          simp only [Act.put, List.setIfInBounds_toArray, List.set_cons_zero, List.set_cons_succ, i64_w, i32_w]
          rfl
        refine one_ (i := 7) (N := some 19) #[true, true, true, true, true, true, true, true, false, false, true, true, true, false, true, false] rfl rfl (by kernel_rfl) (by decide) (fun K hK => ?_)
        refine goes_ Tryd.func123 (by kernel_rfl) rfl #[.slice (some ⟨g329, 0, none⟩) 2 2] (by rfl) rfl rfl (by (try simp only [List.map_toArray, List.map_cons, List.map_nil]); first | done | rfl) ?_
        refine (ratio_Mul.calls _ [a35, a36] (some ⟨g329, 0, none⟩) 2 t170 _ ⟨Rd.lit (l := []) (xs := [a35, a36]) HS.out 3 rfl (by simp)⟩ ⟨HGl0.out.pass (l := []) HS.out⟩ ⟨Sep.start _⟩ HA171).mono ?_
        rintro e_ w333 ⟨rfl, hS⟩
        replace HS : Aside0 (Sep (fps []) w [b2 g39 a35 a36 a37 a38, b3 g42 0 0 0 0 0 0 0 0, b3 g326 0 0 0 0 0 0 0 0, b4 g329 a35 a36] w333) := ⟨HS.out.call hS⟩
        clear hS
        refine ⟨_, rfl, ?_⟩
        refine hK.out _ _ (⟨blk_cellv (HS.out.at0) 2 rfl, blk_cellv (HS.out.at0) 0 rfl, blk_cellv (HS.out.at0) 1 rfl⟩) (fun hHeld => ?_)
        clear hK K
        refine norm_ (a' := ?_) ?_ ?_
        rotate_left
        · show Act.put _ (some 19) _ = _
          simp only [Act.put, List.setIfInBounds_toArray, List.set_cons_zero, List.set_cons_succ, i64_w, i32_w]
          rfl
        refine one_ (i := 8) (N := some 20) #[true, true, true, true, true, true, true, true, true, false, true, true, true, false, true, false] rfl rfl (by kernel_rfl) (by decide) (fun K hK => ?_)
        refine slice_step (n := 3) (by rfl) (N := 20) rfl (cs := #[.int .i64 24, .int .i64 a37, .int .i64 t170]) (t := 3) ?hr ?_
        case hr => first | (go_simp; done) | (go_simp; rfl)
        intro g334 hg w335 hbox hb
        replace HS : Aside0 (Sep (fps []) w [b2 g39 a35 a36 a37 a38, b3 g42 0 0 0 0 0 0 0 0, b3 g326 0 0 0 0 0 0 0 0, b4 g329 a35 a36, b5 g334 24 a37 t170] w335) := ⟨HS.out.box hg hbox hb⟩
        clear hg hbox hb
        refine hK.out _ _ (⟨blk_cellv (HS.out.at0) 2 rfl, blk_cellv (HS.out.at0) 0 rfl, blk_cellv (HS.out.at0) 1 rfl⟩) (fun hHeld => ?_)
        clear hK K
        refine norm_ (a' := ?_) ?_ ?_
        rotate_left
        · show Act.put _ (some 20) _ = _
          simp only [Act.put, List.setIfInBounds_toArray, List.set_cons_zero, List.set_cons_succ, i64_w, i32_w]
          rfl
        refine one_ (i := 9) (N := some 21) #[true, true, true, true, true, true, true, true, true, true, true, true, true, false, true, false] rfl rfl (by kernel_rfl) (by decide) (fun K hK => ?_)
        refine goes_ Tryd.func122 (by kernel_rfl) rfl #[.slice (some ⟨g334, 0, none⟩) 3 3] (by rfl) rfl rfl (by (try simp only [List.map_toArray, List.map_cons, List.map_nil]); first | done | rfl) ?_
        refine (ratio_Add.calls _ [24, a37, t170] (some ⟨g334, 0, none⟩) 3 t196 _ ⟨Rd.lit (l := []) (xs := [24, a37, t170]) HS.out 4 rfl (by simp)⟩ ⟨HGl0.out.pass (l := []) HS.out⟩ ⟨Sep.start _⟩ HA197).mono ?_
        rintro e_ w338 ⟨rfl, hS⟩
        replace HS : Aside0 (Sep (fps []) w [b2 g39 a35 a36 a37 a38, b3 g42 0 0 0 0 0 0 0 0, b3 g326 0 0 0 0 0 0 0 0, b4 g329 a35 a36, b5 g334 24 a37 t170] w338) := ⟨HS.out.call hS⟩
        clear hS
        refine ⟨_, rfl, ?_⟩
        refine hK.out _ _ (⟨blk_cellv (HS.out.at0) 2 rfl, blk_cellv (HS.out.at0) 0 rfl, blk_cellv (HS.out.at0) 1 rfl⟩) (fun hHeld => ?_)
        clear hK K
        refine norm_ (a' := ?_) ?_ ?_
        rotate_left
        · show Act.put _ (some 21) _ = _
          simp only [Act.put, List.setIfInBounds_toArray, List.set_cons_zero, List.set_cons_succ, i64_w, i32_w]
          rfl
        refine pure_ (i := 13) (N := some 25) (v := ?_) (a' := ?_) #[true, true, true, true, true, true, true, true, true, true, true, true, true, true, true, false] rfl rfl (by kernel_rfl) (fun _ _ _ h => h) (Or.inl ⟨by rfl, ?_⟩) ?_ ?_
        rotate_left
        · intro w'
          go_simp
          with_reducible rfl
        rotate_left
        · simp only [Act.put, List.setIfInBounds_toArray, List.set_cons_zero, List.set_cons_succ, i64_w, i32_w]
          rfl
        refine one_ (i := 15) (N := none) #[true, true, true, true, true, true, true, true, true, true, true, true, true, true, true, true] rfl rfl (by kernel_rfl) (by decide) (fun K hK => ?_)
        have hc340 := blk_cellv (v := .int .i64 0) (HS.out.at2) 0 rfl
        have hz341 := blk_fz (HS.out.at2) 0
        have hc342 := blk_cellv (v := .int .i64 0) (HS.out.at2) 1 rfl
        have hz343 := blk_fz (HS.out.at2) 1
        have hc344 := blk_cellv (v := .int .i64 0) (HS.out.at2) 2 rfl
        have hz345 := blk_fz (HS.out.at2) 2
        have hc346 := blk_cellv (v := .int .i64 0) (HS.out.at2) 3 rfl
        have hz347 := blk_fz (HS.out.at2) 3
        have hc348 := blk_cellv (v := .int .i64 0) (HS.out.at2) 4 rfl
        have hz349 := blk_fz (HS.out.at2) 4
        have hc350 := blk_cellv (v := .int .i64 0) (HS.out.at2) 5 rfl
        have hz351 := blk_fz (HS.out.at2) 5
        have hc352 := blk_cellv (v := .int .i64 0) (HS.out.at2) 6 rfl
        have hz353 := blk_fz (HS.out.at2) 6
        have hc354 := blk_cellv (v := .int .i64 0) (HS.out.at2) 7 rfl
        have hz355 := blk_fz (HS.out.at2) 7
        refine store_step (w1 := (World.setCell (World.setCell (World.setCell (World.setCell (World.setCell (World.setCell (World.setCell (World.setCell w338 ⟨g326, 0, none⟩ (.int .i64 t196)) ⟨g326, 1, none⟩ (.int .i64 (wrap64 (a36 - 8)))) ⟨g326, 2, none⟩ (.int .i64 0)) ⟨g326, 3, none⟩ (.int .i64 0)) ⟨g326, 4, none⟩ (.int .i64 0)) ⟨g326, 5, none⟩ (.int .i64 0)) ⟨g326, 6, none⟩ (.int .i64 0)) ⟨g326, 7, none⟩ (.int .i64 0))) (by rfl) rfl ?hr ?_
        case hr => first | (go_simp; done) | (go_simp; rfl)
        clear hc340 hz341 hc342 hz343 hc344 hz345 hc346 hz347 hc348 hz349 hc350 hz351 hc352 hz353 hc354 hz355
        intro w339 hst
        replace HS : Aside0 (Sep (fps []) w [b2 g39 a35 a36 a37 a38, b3 g42 0 0 0 0 0 0 0 0, b3 g326 t196 (wrap64 (a36 - 8)) 0 0 0 0 0 0, b4 g329 a35 a36, b5 g334 24 a37 t170] w339) := ⟨by rw [hst]; exact HS.out.setAll (l1 := [b2 g39 a35 a36 a37 a38, b3 g42 0 0 0 0 0 0 0 0]) (l2 := [b4 g329 a35 a36, b5 g334 24 a37 t170]) [.int .i64 t196, .int .i64 (wrap64 (a36 - 8)), .int .i64 0, .int .i64 0, .int .i64 0, .int .i64 0, .int .i64 0, .int .i64 0] rfl⟩
        clear hst
        refine hK.out _ _ (⟨blk_cellv (HS.out.at0) 2 rfl, blk_cellv (HS.out.at0) 0 rfl, blk_cellv (HS.out.at0) 1 rfl⟩) (fun hHeld => ?_)
        clear hK K
        refine done_ (by kernel_rfl) ?_
        go_wp2_with fail
        go_meet
        case rel => exact ⟨g329, g334, g326, (by first | rfl | (simp [IntKind.wrap_u32]; done)), ⟨(((((HS.out).front 2 (by simp)).front 4 (by simp)).front 4 (by simp)).front 4 (by simp)).front 4 (by simp)⟩⟩
    case rest =>
      clear HS
      obtain ⟨g96, g173, g199, rfl, HS⟩ := hcut
      obtain ⟨w219, rfl⟩ : ∃ x : World, x = wc := ⟨_, rfl⟩
      replace HS : Aside0 (Sep (fps []) w [b2 g39 a35 a36 a37 a38, b3 g42 0 0 0 0 0 0 0 0, b3 g199 t196 (wrap64 (a36 - 8)) 0 0 0 0 0 0] w219) := ⟨HS.out.sub (.cons_cons _ (.cons_cons _ (.cons _ (.cons _ (.cons_cons _ .slnil)))))⟩
      have hc356 : w219.cell? ⟨g199, 1, none⟩ = some (.int .i64 (wrap64 (a36 - 8))) := blk_cellv (HS.out.at2) 1 rfl
      have hc357 : w219.cell? ⟨g199, 2, none⟩ = some (.int .i64 0) := blk_cellv (HS.out.at2) 2 rfl
      have hz358 : w219.frozen? ⟨g199, 2, none⟩ = false := blk_fz (HS.out.at2) 2
      go_wp2_with (first | ((with_reducible refine gate_store (t := 3) (p := 29) rfl ?_); refine store_event (w1 := (World.setCell w219 ⟨g199, 2, none⟩ (.int .i64 (wrap64 ((wrap64 (a36 - 8)) + 1))))) rfl (t := 3) (p := 29) rfl rfl ?hr ?_; (case hr => first | (go_simp; done) | (go_simp; rfl)); intro w359 hst; clear hc356 hc357 hz358; have hq0 : Sep (fps []) w [b2 g39 a35 a36 a37 a38, b3 g42 0 0 0 0 0 0 0 0, b3 g199 t196 (wrap64 (a36 - 8)) (wrap64 ((wrap64 (a36 - 8)) + 1)) 0 0 0 0 0] (World.setCell w219 ⟨g199, 2, none⟩ (.int .i64 (wrap64 ((wrap64 (a36 - 8)) + 1)))) := (HS.out).set1 (l1 := [b2 g39 a35 a36 a37 a38, b3 g42 0 0 0 0 0 0 0 0]) (l2 := []) 2 (.int .i64 (wrap64 ((wrap64 (a36 - 8)) + 1))); replace HS : Aside0 (Sep (fps []) w [b2 g39 a35 a36 a37 a38, b3 g42 0 0 0 0 0 0 0 0, b3 g199 t196 (wrap64 (a36 - 8)) (wrap64 ((wrap64 (a36 - 8)) + 1)) 0 0 0 0 0] w359) := ⟨by rw [hst]; exact hq0⟩; clear hq0; clear hst; have hc360 : w359.cell? ⟨g199, 1, none⟩ = some (.int .i64 (wrap64 (a36 - 8))) := blk_cellv (HS.out.at2) 1 rfl; have hc361 : w359.cell? ⟨g39, 1, none⟩ = some (.int .i64 a36) := blk_cellv (HS.out.at0) 1 rfl) | ((with_reducible refine gate_dst (N := 35) rfl ?_); refine slice_on (n := 2) ?hg (N := 35) ?hd (cs := #[.int .i64 (wrap64 (a36 - 8)), .int .i64 (wrap64 (a36 - 1))]) (t := 3) ?hr ?_; (case hd => rfl); (case hg => rfl); (case hr => first | (go_simp; done) | (go_simp; rfl)); intro g362 hg w363 hbox hb; clear hc360 hc361; replace HS : Aside0 (Sep (fps []) w [b2 g39 a35 a36 a37 a38, b3 g42 0 0 0 0 0 0 0 0, b3 g199 t196 (wrap64 (a36 - 8)) (wrap64 ((wrap64 (a36 - 8)) + 1)) 0 0 0 0 0, b4 g362 (wrap64 (a36 - 8)) (wrap64 (a36 - 1))] w363) := ⟨HS.out.box hg hbox hb⟩; clear hg hbox hb))
      obtain ⟨t365, HA366, H⟩ := bind_some H
      refine (ratio_Mul.calls _ [wrap64 (a36 - 8), wrap64 (a36 - 1)] (some ⟨g362, 0, none⟩) 2 t365 _ ⟨Rd.lit (l := []) (xs := [wrap64 (a36 - 8), wrap64 (a36 - 1)]) HS.out 3 rfl (by simp)⟩ ⟨HGl0.out.pass (l := []) HS.out⟩ ⟨Sep.start _⟩ HA366).mono ?_
      rintro e_ w367 ⟨rfl, hS⟩
      replace HS : Aside0 (Sep (fps []) w [b2 g39 a35 a36 a37 a38, b3 g42 0 0 0 0 0 0 0 0, b3 g199 t196 (wrap64 (a36 - 8)) (wrap64 ((wrap64 (a36 - 8)) + 1)) 0 0 0 0 0, b4 g362 (wrap64 (a36 - 8)) (wrap64 (a36 - 1))] w367) := ⟨HS.out.call hS⟩
      clear hS
      have hc368 : w367.cell? ⟨g199, 3, none⟩ = some (.int .i64 0) := blk_cellv (HS.out.at2) 3 rfl
      have hz369 : w367.frozen? ⟨g199, 3, none⟩ = false := blk_fz (HS.out.at2) 3
      go_wp2_with (first | ((with_reducible refine gate_store (t := 3) (p := 37) rfl ?_); refine store_event (w1 := (World.setCell w367 ⟨g199, 3, none⟩ (.int .i64 t365))) rfl (t := 3) (p := 37) rfl rfl ?hr ?_; (case hr => first | (go_simp; done) | (go_simp; rfl)); intro w370 hst; clear hc368 hz369; have hq0 : Sep (fps []) w [b2 g39 a35 a36 a37 a38, b3 g42 0 0 0 0 0 0 0 0, b3 g199 t196 (wrap64 (a36 - 8)) (wrap64 ((wrap64 (a36 - 8)) + 1)) t365 0 0 0 0, b4 g362 (wrap64 (a36 - 8)) (wrap64 (a36 - 1))] (World.setCell w367 ⟨g199, 3, none⟩ (.int .i64 t365)) := (HS.out).set1 (l1 := [b2 g39 a35 a36 a37 a38, b3 g42 0 0 0 0 0 0 0 0]) (l2 := [b4 g362 (wrap64 (a36 - 8)) (wrap64 (a36 - 1))]) 3 (.int .i64 t365); replace HS : Aside0 (Sep (fps []) w [b2 g39 a35 a36 a37 a38, b3 g42 0 0 0 0 0 0 0 0, b3 g199 t196 (wrap64 (a36 - 8)) (wrap64 ((wrap64 (a36 - 8)) + 1)) t365 0 0 0 0, b4 g362 (wrap64 (a36 - 8)) (wrap64 (a36 - 1))] w370) := ⟨by rw [hst]; exact hq0⟩; clear hq0; clear hst; replace HS : Aside0 (Sep (fps []) w [b2 g39 a35 a36 a37 a38, b3 g42 0 0 0 0 0 0 0 0, b3 g199 t196 (wrap64 (a36 - 8)) (wrap64 ((wrap64 (a36 - 8)) + 1)) t365 0 0 0 0] w370) := ⟨HS.out.sub (.cons_cons _ (.cons_cons _ (.cons_cons _ (.cons _ .slnil))))⟩; have hc371 : w370.cell? ⟨g39, 0, none⟩ = some (.int .i64 a35) := blk_cellv (HS.out.at0) 0 rfl; have hc372 : w370.cell? ⟨g39, 1, none⟩ = some (.int .i64 a36) := blk_cellv (HS.out.at0) 1 rfl) | ((with_reducible refine gate_dst (N := 43) rfl ?_); refine slice_on (n := 2) ?hg (N := 43) ?hd (cs := #[.int .i64 a35, .int .i64 (wrap64 (a36 + 1))]) (t := 3) ?hr ?_; (case hd => rfl); (case hg => rfl); (case hr => first | (go_simp; done) | (go_simp; rfl)); intro g373 hg w374 hbox hb; clear hc371 hc372; replace HS : Aside0 (Sep (fps []) w [b2 g39 a35 a36 a37 a38, b3 g42 0 0 0 0 0 0 0 0, b3 g199 t196 (wrap64 (a36 - 8)) (wrap64 ((wrap64 (a36 - 8)) + 1)) t365 0 0 0 0, b4 g373 a35 (wrap64 (a36 + 1))] w374) := ⟨HS.out.box hg hbox hb⟩; clear hg hbox hb))
      obtain ⟨t376, HA377, H⟩ := bind_some H
      refine (ratio_Mul.calls _ [a35, wrap64 (a36 + 1)] (some ⟨g373, 0, none⟩) 2 t376 _ ⟨Rd.lit (l := []) (xs := [a35, wrap64 (a36 + 1)]) HS.out 3 rfl (by simp)⟩ ⟨HGl0.out.pass (l := []) HS.out⟩ ⟨Sep.start _⟩ HA377).mono ?_
      rintro e_ w378 ⟨rfl, hS⟩
      replace HS : Aside0 (Sep (fps []) w [b2 g39 a35 a36 a37 a38, b3 g42 0 0 0 0 0 0 0 0, b3 g199 t196 (wrap64 (a36 - 8)) (wrap64 ((wrap64 (a36 - 8)) + 1)) t365 0 0 0 0, b4 g373 a35 (wrap64 (a36 + 1))] w378) := ⟨HS.out.call hS⟩
      clear hS
      have hc379 : w378.cell? ⟨g199, 5, none⟩ = some (.int .i64 0) := blk_cellv (HS.out.at2) 5 rfl
      have hz380 : w378.frozen? ⟨g199, 5, none⟩ = false := blk_fz (HS.out.at2) 5
      go_wp2_with (first | ((with_reducible refine gate_store (t := 3) (p := 45) rfl ?_); refine store_event (w1 := (World.setCell w378 ⟨g199, 5, none⟩ (.int .i64 t376))) rfl (t := 3) (p := 45) rfl rfl ?hr ?_; (case hr => first | (go_simp; done) | (go_simp; rfl)); intro w381 hst; clear hc379 hz380; have hq0 : Sep (fps []) w [b2 g39 a35 a36 a37 a38, b3 g42 0 0 0 0 0 0 0 0, b3 g199 t196 (wrap64 (a36 - 8)) (wrap64 ((wrap64 (a36 - 8)) + 1)) t365 0 t376 0 0, b4 g373 a35 (wrap64 (a36 + 1))] (World.setCell w378 ⟨g199, 5, none⟩ (.int .i64 t376)) := (HS.out).set1 (l1 := [b2 g39 a35 a36 a37 a38, b3 g42 0 0 0 0 0 0 0 0]) (l2 := [b4 g373 a35 (wrap64 (a36 + 1))]) 5 (.int .i64 t376); replace HS : Aside0 (Sep (fps []) w [b2 g39 a35 a36 a37 a38, b3 g42 0 0 0 0 0 0 0 0, b3 g199 t196 (wrap64 (a36 - 8)) (wrap64 ((wrap64 (a36 - 8)) + 1)) t365 0 t376 0 0, b4 g373 a35 (wrap64 (a36 + 1))] w381) := ⟨by rw [hst]; exact hq0⟩; clear hq0; clear hst; replace HS : Aside0 (Sep (fps []) w [b2 g39 a35 a36 a37 a38, b3 g42 0 0 0 0 0 0 0 0, b3 g199 t196 (wrap64 (a36 - 8)) (wrap64 ((wrap64 (a36 - 8)) + 1)) t365 0 t376 0 0] w381) := ⟨HS.out.sub (.cons_cons _ (.cons_cons _ (.cons_cons _ (.cons _ .slnil))))⟩; have hc382 : w381.cell? ⟨g199, 5, none⟩ = some (.int .i64 t376) := blk_cellv (HS.out.at2) 5 rfl) | ((with_reducible refine gate_dst (N := 48) rfl ?_); refine slice_on (n := 2) ?hg (N := 48) ?hd (cs := #[.int .i64 3, .int .i64 t376]) (t := 3) ?hr ?_; (case hd => rfl); (case hg => rfl); (case hr => first | (go_simp; done) | (go_simp; rfl)); intro g383 hg w384 hbox hb; clear hc382; replace HS : Aside0 (Sep (fps []) w [b2 g39 a35 a36 a37 a38, b3 g42 0 0 0 0 0 0 0 0, b3 g199 t196 (wrap64 (a36 - 8)) (wrap64 ((wrap64 (a36 - 8)) + 1)) t365 0 t376 0 0, b4 g383 3 t376] w384) := ⟨HS.out.box hg hbox hb⟩; clear hg hbox hb))
      obtain ⟨t386, HA387, H⟩ := bind_some H
      refine (ratio_Mul.calls _ [3, t376] (some ⟨g383, 0, none⟩) 2 t386 _ ⟨Rd.lit (l := []) (xs := [3, t376]) HS.out 3 rfl (by simp)⟩ ⟨HGl0.out.pass (l := []) HS.out⟩ ⟨Sep.start _⟩ HA387).mono ?_
      rintro e_ w388 ⟨rfl, hS⟩
      replace HS : Aside0 (Sep (fps []) w [b2 g39 a35 a36 a37 a38, b3 g42 0 0 0 0 0 0 0 0, b3 g199 t196 (wrap64 (a36 - 8)) (wrap64 ((wrap64 (a36 - 8)) + 1)) t365 0 t376 0 0, b4 g383 3 t376] w388) := ⟨HS.out.call hS⟩
      clear hS
      go_wp2_with (first | ((with_reducible refine gate_dst (N := 50) rfl ?_); refine slice_on (n := 2) ?hg (N := 50) ?hd (cs := #[.int .i64 t386, .int .i64 4]) (t := 3) ?hr ?_; (case hd => rfl); (case hg => rfl); (case hr => first | (go_simp; done) | (go_simp; rfl)); intro g389 hg w390 hbox hb; replace HS : Aside0 (Sep (fps []) w [b2 g39 a35 a36 a37 a38, b3 g42 0 0 0 0 0 0 0 0, b3 g199 t196 (wrap64 (a36 - 8)) (wrap64 ((wrap64 (a36 - 8)) + 1)) t365 0 t376 0 0, b4 g383 3 t376, b4 g389 t386 4] w390) := ⟨HS.out.box hg hbox hb⟩; clear hg hbox hb))
      obtain ⟨t392, HA393, H⟩ := bind_some H
      refine (ratio_Add.calls _ [t386, 4] (some ⟨g389, 0, none⟩) 2 t392 _ ⟨Rd.lit (l := []) (xs := [t386, 4]) HS.out 4 rfl (by simp)⟩ ⟨HGl0.out.pass (l := []) HS.out⟩ ⟨Sep.start _⟩ HA393).mono ?_
      rintro e_ w394 ⟨rfl, hS⟩
      replace HS : Aside0 (Sep (fps []) w [b2 g39 a35 a36 a37 a38, b3 g42 0 0 0 0 0 0 0 0, b3 g199 t196 (wrap64 (a36 - 8)) (wrap64 ((wrap64 (a36 - 8)) + 1)) t365 0 t376 0 0, b4 g383 3 t376, b4 g389 t386 4] w394) := ⟨HS.out.call hS⟩
      clear hS
      have hc395 : w394.cell? ⟨g199, 4, none⟩ = some (.int .i64 0) := blk_cellv (HS.out.at2) 4 rfl
      have hz396 : w394.frozen? ⟨g199, 4, none⟩ = false := blk_fz (HS.out.at2) 4
      go_wp2_with (first | ((with_reducible refine gate_store (t := 3) (p := 52) rfl ?_); refine store_event (w1 := (World.setCell w394 ⟨g199, 4, none⟩ (.int .i64 t392))) rfl (t := 3) (p := 52) rfl rfl ?hr ?_; (case hr => first | (go_simp; done) | (go_simp; rfl)); intro w397 hst; clear hc395 hz396; have hq0 : Sep (fps []) w [b2 g39 a35 a36 a37 a38, b3 g42 0 0 0 0 0 0 0 0, b3 g199 t196 (wrap64 (a36 - 8)) (wrap64 ((wrap64 (a36 - 8)) + 1)) t365 t392 t376 0 0, b4 g383 3 t376, b4 g389 t386 4] (World.setCell w394 ⟨g199, 4, none⟩ (.int .i64 t392)) := (HS.out).set1 (l1 := [b2 g39 a35 a36 a37 a38, b3 g42 0 0 0 0 0 0 0 0]) (l2 := [b4 g383 3 t376, b4 g389 t386 4]) 4 (.int .i64 t392); replace HS : Aside0 (Sep (fps []) w [b2 g39 a35 a36 a37 a38, b3 g42 0 0 0 0 0 0 0 0, b3 g199 t196 (wrap64 (a36 - 8)) (wrap64 ((wrap64 (a36 - 8)) + 1)) t365 t392 t376 0 0, b4 g383 3 t376, b4 g389 t386 4] w397) := ⟨by rw [hst]; exact hq0⟩; clear hq0; clear hst; replace HS : Aside0 (Sep (fps []) w [b2 g39 a35 a36 a37 a38, b3 g42 0 0 0 0 0 0 0 0, b3 g199 t196 (wrap64 (a36 - 8)) (wrap64 ((wrap64 (a36 - 8)) + 1)) t365 t392 t376 0 0] w397) := ⟨HS.out.sub (.cons_cons _ (.cons_cons _ (.cons_cons _ (.cons _ (.cons _ .slnil)))))⟩))
      obtain ⟨t417, HA418, H⟩ := bind_some H
      obtain ⟨t423, HA424, H⟩ := bind_some H
      obtain ⟨t429, HA430, H⟩ := bind_some H
      obtain ⟨t435, HA436, H⟩ := bind_some H
      go_cut [] (fun wc => ∃ (g420 : Nat) (g426 : Nat) (g432 : Nat), Aside0 (Sep (fps []) w [b2 g39 a35 a36 a37 a38, b3 g42 0 0 0 0 0 0 0 0, b3 g199 t196 (wrap64 (a36 - 8)) (wrap64 ((wrap64 (a36 - 8)) + 1)) t365 t392 t376 t435 0, b4 g420 2 t417, b4 g426 2 (wrap64 ((wrap64 (a36 - 8)) + 1)), b4 g432 t423 t429] wc))
      case first =>
        go_wp2_with fail
        refine start_ (n := 15) (S := (fun w' => w'.cell? ⟨g199, 4, none⟩ = some (.int .i64 t392) ∧ w'.cell? ⟨g39, 3, none⟩ = some (.int .i64 a38) ∧ w'.cell? ⟨g199, 2, none⟩ = some (.int .i64 (wrap64 ((wrap64 (a36 - 8)) + 1))))) (ds := []) #[false, false, false, false, false, false, false, false, false, false, false, false, false, false, false] (by kernel_rfl) rfl rfl (⟨blk_cellv ((HS.out.drew).at2) 4 rfl, blk_cellv ((HS.out.drew).at0) 3 rfl, blk_cellv ((HS.out.drew).at2) 2 rfl⟩) (fun hHeld => ?_)
        have HS_ := Aside0.mk HS.out.drew
        clear HS
        generalize World.drew _ = w443 at HS_ hHeld ⊢
        have HS := HS_
        clear HS_
        refine pure_ (i := 0) (N := some 53) (v := ?_) (a' := ?_) #[true, false, false, false, false, false, false, false, false, false, false, false, false, false, false] rfl rfl (by kernel_rfl) (fun _ _ _ h => h) (Or.inl ⟨by rfl, ?_⟩) ?_ ?_
        rotate_left
        · intro w'
          go_simp
          with_reducible rfl
        rotate_left
        · simp only [Act.put, List.setIfInBounds_toArray, List.set_cons_zero, List.set_cons_succ, i64_w, i32_w]
          rfl
        refine pure_ (i := 2) (N := some 55) (v := ?_) (a' := ?_) #[true, false, true, false, false, false, false, false, false, false, false, false, false, false, false] rfl rfl (by kernel_rfl) (fun _ _ _ h => h) (Or.inl ⟨by rfl, ?_⟩) ?_ ?_
        rotate_left
        · intro w'
          go_simp
          with_reducible rfl
        rotate_left
        · simp only [Act.put, List.setIfInBounds_toArray, List.set_cons_zero, List.set_cons_succ, i64_w, i32_w]
          rfl
        refine pure_ (i := 7) (N := some 60) (v := ?_) (a' := ?_) #[true, false, true, false, false, false, false, true, false, false, false, false, false, false, false] rfl rfl (by kernel_rfl) (fun _ _ _ h => h) (Or.inl ⟨by rfl, ?_⟩) ?_ ?_
        rotate_left
        · intro w'
          go_simp
          with_reducible rfl
        rotate_left
        · simp only [Act.put, List.setIfInBounds_toArray, List.set_cons_zero, List.set_cons_succ, i64_w, i32_w]
          rfl
        refine take_ (i := 1) (N := some 54) (v := ?_) (a' := ?_) #[true, true, true, false, false, false, false, true, false, false, false, false, false, false, false] rfl rfl (by kernel_rfl) (fun _ _ _ h => h) (Or.inl ⟨by rfl, ?_⟩) hHeld ?_ ?_
        rotate_left
        · rintro w' hS'
          obtain ⟨s0, s1, s2⟩ := hS'
          go_simp
          with_reducible rfl
        rotate_left
        · simp only [Act.put, List.setIfInBounds_toArray, List.set_cons_zero, List.set_cons_succ, i64_w, i32_w]
          rfl
        refine take_ (i := 3) (N := some 56) (v := ?_) (a' := ?_) #[true, true, true, true, false, false, false, true, false, false, false, false, false, false, false] rfl rfl (by kernel_rfl) (fun _ _ _ h => h) (Or.inl ⟨by rfl, ?_⟩) hHeld ?_ ?_
        rotate_left
        · rintro w' hS'
          obtain ⟨s0, s1, s2⟩ := hS'
          go_simp
          with_reducible rfl
        rotate_left
        · simp only [Act.put, List.setIfInBounds_toArray, List.set_cons_zero, List.set_cons_succ, i64_w, i32_w]
          rfl
        refine take_ (i := 8) (N := some 61) (v := ?_) (a' := ?_) #[true, true, true, true, false, false, false, true, true, false, false, false, false, false, false] rfl rfl (by kernel_rfl) (fun _ _ _ h => h) (Or.inl ⟨by rfl, ?_⟩) hHeld ?_ ?_
        rotate_left
        · rintro w' hS'
          obtain ⟨s0, s1, s2⟩ := hS'
          go_simp
          with_reducible rfl
        rotate_left
        · simp only [Act.put, List.setIfInBounds_toArray, List.set_cons_zero, List.set_cons_succ, i64_w, i32_w]
          rfl
        refine two_ (i := 4) (j := 9) (Ni := some 57) (Nj := some 62) #[true, true, true, true, true, false, false, true, true, false, false, false, false, false, false] #[true, true, true, true, false, false, false, true, true, true, false, false, false, false, false] rfl rfl rfl rfl (by kernel_rfl) (by decide) (by decide) (fun K hK => ?_) (fun K hK => ?_)
        · refine goes_ Tryd.func124 (by kernel_rfl) rfl #[.int .i64 t392, .int .i64 a38] (by rfl) rfl rfl (by (try simp only [List.map_toArray, List.map_cons, List.map_nil]); first | done | rfl) ?_
          refine (ratio_Up.calls t392 a38 t417 _ ⟨HGl0.out.pass (l := []) HS.out⟩ ⟨Sep.start _⟩ HA418).mono ?_
          rintro e_ w445 ⟨rfl, hS⟩
          replace HS : Aside0 (Sep (fps []) w [b2 g39 a35 a36 a37 a38, b3 g42 0 0 0 0 0 0 0 0, b3 g199 t196 (wrap64 (a36 - 8)) (wrap64 ((wrap64 (a36 - 8)) + 1)) t365 t392 t376 0 0] w445) := ⟨HS.out.call hS⟩
          clear hS
          refine ⟨_, rfl, ?_⟩
          refine hK.out _ _ (⟨blk_cellv (HS.out.at2) 4 rfl, blk_cellv (HS.out.at0) 3 rfl, blk_cellv (HS.out.at2) 2 rfl⟩) (fun hHeld => ?_)
          clear hK K
          refine norm_ (a' := ?_) ?_ ?_
          rotate_left
          · show Act.put _ (some 57) _ = _
            simp only [Act.put, List.setIfInBounds_toArray, List.set_cons_zero, List.set_cons_succ, i64_w, i32_w]
            rfl
          refine two_ (i := 5) (j := 9) (Ni := some 58) (Nj := some 62) #[true, true, true, true, true, true, false, true, true, false, false, false, false, false, false] #[true, true, true, true, true, false, false, true, true, true, false, false, false, false, false] rfl rfl rfl rfl (by kernel_rfl) (by decide) (by decide) (fun K hK => ?_) (fun K hK => ?_)
          · refine slice_step (n := 2) (by rfl) (N := 58) rfl (cs := #[.int .i64 2, .int .i64 t417]) (t := 3) ?hr ?_
            case hr => first | (go_simp; done) | (go_simp; rfl)
            intro g446 hg w447 hbox hb
            replace HS : Aside0 (Sep (fps []) w [b2 g39 a35 a36 a37 a38, b3 g42 0 0 0 0 0 0 0 0, b3 g199 t196 (wrap64 (a36 - 8)) (wrap64 ((wrap64 (a36 - 8)) + 1)) t365 t392 t376 0 0, b4 g446 2 t417] w447) := ⟨HS.out.box hg hbox hb⟩
            clear hg hbox hb
            refine hK.out _ _ (⟨blk_cellv (HS.out.at2) 4 rfl, blk_cellv (HS.out.at0) 3 rfl, blk_cellv (HS.out.at2) 2 rfl⟩) (fun hHeld => ?_)
            clear hK K
            refine norm_ (a' := ?_) ?_ ?_
            rotate_left
            · show Act.put _ (some 58) _ = _
              simp only [Act.put, List.setIfInBounds_toArray, List.set_cons_zero, List.set_cons_succ, i64_w, i32_w]
              rfl
            refine two_ (i := 6) (j := 9) (Ni := some 59) (Nj := some 62) #[true, true, true, true, true, true, true, true, true, false, false, false, false, false, false] #[true, true, true, true, true, true, false, true, true, true, false, false, false, false, false] rfl rfl rfl rfl (by kernel_rfl) (by decide) (by decide) (fun K hK => ?_) (fun K hK => ?_)
            · refine goes_ Tryd.func123 (by kernel_rfl) rfl #[.slice (some ⟨g446, 0, none⟩) 2 2] (by rfl) rfl rfl (by (try simp only [List.map_toArray, List.map_cons, List.map_nil]); first | done | rfl) ?_
              refine (ratio_Mul.calls _ [2, t417] (some ⟨g446, 0, none⟩) 2 t423 _ ⟨Rd.lit (l := []) (xs := [2, t417]) HS.out 3 rfl (by simp)⟩ ⟨HGl0.out.pass (l := []) HS.out⟩ ⟨Sep.start _⟩ HA424).mono ?_
              rintro e_ w450 ⟨rfl, hS⟩
              replace HS : Aside0 (Sep (fps []) w [b2 g39 a35 a36 a37 a38, b3 g42 0 0 0 0 0 0 0 0, b3 g199 t196 (wrap64 (a36 - 8)) (wrap64 ((wrap64 (a36 - 8)) + 1)) t365 t392 t376 0 0, b4 g446 2 t417] w450) := ⟨HS.out.call hS⟩
              clear hS
              refine ⟨_, rfl, ?_⟩
              refine hK.out _ _ (⟨blk_cellv (HS.out.at2) 4 rfl, blk_cellv (HS.out.at0) 3 rfl, blk_cellv (HS.out.at2) 2 rfl⟩) (fun hHeld => ?_)
              clear hK K
              refine norm_ (a' := ?_) ?_ ?_
              rotate_left
              · show Act.put _ (some 59) _ = _
                simp only [Act.put, List.setIfInBounds_toArray, List.set_cons_zero, List.set_cons_succ, i64_w, i32_w]
                rfl
              refine one_ (i := 9) (N := some 62) #[true, true, true, true, true, true, true, true, true, true, false, false, false, false, false] rfl rfl (by kernel_rfl) (by decide) (fun K hK => ?_)
              refine slice_step (n := 2) (by rfl) (N := 62) rfl (cs := #[.int .i64 2, .int .i64 (wrap64 ((wrap64 (a36 - 8)) + 1))]) (t := 3) ?hr ?_
              case hr => first | (go_simp; done) | (go_simp; rfl)
              intro g451 hg w452 hbox hb
              replace HS : Aside0 (Sep (fps []) w [b2 g39 a35 a36 a37 a38, b3 g42 0 0 0 0 0 0 0 0, b3 g199 t196 (wrap64 (a36 - 8)) (wrap64 ((wrap64 (a36 - 8)) + 1)) t365 t392 t376 0 0, b4 g446 2 t417, b4 g451 2 (wrap64 ((wrap64 (a36 - 8)) + 1))] w452) := ⟨HS.out.box hg hbox hb⟩
              clear hg hbox hb
              refine hK.out _ _ (⟨blk_cellv (HS.out.at2) 4 rfl, blk_cellv (HS.out.at0) 3 rfl, blk_cellv (HS.out.at2) 2 rfl⟩) (fun hHeld => ?_)
              clear hK K
              refine norm_ (a' := ?_) ?_ ?_
              rotate_left
              · show Act.put _ (some 62) _ = _
                simp only [Act.put, List.setIfInBounds_toArray, List.set_cons_zero, List.set_cons_succ, i64_w, i32_w]
                rfl
              refine one_ (i := 10) (N := some 63) #[true, true, true, true, true, true, true, true, true, true, true, false, false, false, false] rfl rfl (by kernel_rfl) (by decide) (fun K hK => ?_)
              refine goes_ Tryd.func123 (by kernel_rfl) rfl #[.slice (some ⟨g451, 0, none⟩) 2 2] (by rfl) rfl rfl (by (try simp only [List.map_toArray, List.map_cons, List.map_nil]); first | done | rfl) ?_
              refine (ratio_Mul.calls _ [2, wrap64 ((wrap64 (a36 - 8)) + 1)] (some ⟨g451, 0, none⟩) 2 t429 _ ⟨Rd.lit (l := []) (xs := [2, wrap64 ((wrap64 (a36 - 8)) + 1)]) HS.out 4 rfl (by simp)⟩ ⟨HGl0.out.pass (l := []) HS.out⟩ ⟨Sep.start _⟩ HA430).mono ?_
              rintro e_ w455 ⟨rfl, hS⟩
              replace HS : Aside0 (Sep (fps []) w [b2 g39 a35 a36 a37 a38, b3 g42 0 0 0 0 0 0 0 0, b3 g199 t196 (wrap64 (a36 - 8)) (wrap64 ((wrap64 (a36 - 8)) + 1)) t365 t392 t376 0 0, b4 g446 2 t417, b4 g451 2 (wrap64 ((wrap64 (a36 - 8)) + 1))] w455) := ⟨HS.out.call hS⟩
              clear hS
              refine ⟨_, rfl, ?_⟩
              refine hK.out _ _ (⟨blk_cellv (HS.out.at2) 4 rfl, blk_cellv (HS.out.at0) 3 rfl, blk_cellv (HS.out.at2) 2 rfl⟩) (fun hHeld => ?_)
              clear hK K
              refine norm_ (a' := ?_) ?_ ?_
              rotate_left
              · show Act.put _ (some 63) _ = _
                simp only [Act.put, List.setIfInBounds_toArray, List.set_cons_zero, List.set_cons_succ, i64_w, i32_w]
                rfl
              refine one_ (i := 11) (N := some 64) #[true, true, true, true, true, true, true, true, true, true, true, true, false, false, false] rfl rfl (by kernel_rfl) (by decide) (fun K hK => ?_)
              refine slice_step (n := 2) (by rfl) (N := 64) rfl (cs := #[.int .i64 t423, .int .i64 t429]) (t := 3) ?hr ?_
              case hr => first | (go_simp; done) | (go_simp; rfl)
              intro g456 hg w457 hbox hb
              replace HS : Aside0 (Sep (fps []) w [b2 g39 a35 a36 a37 a38, b3 g42 0 0 0 0 0 0 0 0, b3 g199 t196 (wrap64 (a36 - 8)) (wrap64 ((wrap64 (a36 - 8)) + 1)) t365 t392 t376 0 0, b4 g446 2 t417, b4 g451 2 (wrap64 ((wrap64 (a36 - 8)) + 1)), b4 g456 t423 t429] w457) := ⟨HS.out.box hg hbox hb⟩
              clear hg hbox hb
              refine hK.out _ _ (⟨blk_cellv (HS.out.at2) 4 rfl, blk_cellv (HS.out.at0) 3 rfl, blk_cellv (HS.out.at2) 2 rfl⟩) (fun hHeld => ?_)
              clear hK K
              refine norm_ (a' := ?_) ?_ ?_
              rotate_left
              · show Act.put _ (some 64) _ = _
                simp only [Act.put, List.setIfInBounds_toArray, List.set_cons_zero, List.set_cons_succ, i64_w, i32_w]
                rfl
              refine one_ (i := 12) (N := some 65) #[true, true, true, true, true, true, true, true, true, true, true, true, true, false, false] rfl rfl (by kernel_rfl) (by decide) (fun K hK => ?_)
              refine goes_ Tryd.func122 (by kernel_rfl) rfl #[.slice (some ⟨g456, 0, none⟩) 2 2] (by rfl) rfl rfl (by (try simp only [List.map_toArray, List.map_cons, List.map_nil]); first | done | rfl) ?_
              refine (ratio_Add.calls _ [t423, t429] (some ⟨g456, 0, none⟩) 2 t435 _ ⟨Rd.lit (l := []) (xs := [t423, t429]) HS.out 5 rfl (by simp)⟩ ⟨HGl0.out.pass (l := []) HS.out⟩ ⟨Sep.start _⟩ HA436).mono ?_
              rintro e_ w460 ⟨rfl, hS⟩
              replace HS : Aside0 (Sep (fps []) w [b2 g39 a35 a36 a37 a38, b3 g42 0 0 0 0 0 0 0 0, b3 g199 t196 (wrap64 (a36 - 8)) (wrap64 ((wrap64 (a36 - 8)) + 1)) t365 t392 t376 0 0, b4 g446 2 t417, b4 g451 2 (wrap64 ((wrap64 (a36 - 8)) + 1)), b4 g456 t423 t429] w460) := ⟨HS.out.call hS⟩
              clear hS
              refine ⟨_, rfl, ?_⟩
              refine hK.out _ _ (⟨blk_cellv (HS.out.at2) 4 rfl, blk_cellv (HS.out.at0) 3 rfl, blk_cellv (HS.out.at2) 2 rfl⟩) (fun hHeld => ?_)
              clear hK K
              refine norm_ (a' := ?_) ?_ ?_
              rotate_left
              · show Act.put _ (some 65) _ = _
                simp only [Act.put, List.setIfInBounds_toArray, List.set_cons_zero, List.set_cons_succ, i64_w, i32_w]
                rfl
              refine pure_ (i := 13) (N := some 66) (v := ?_) (a' := ?_) #[true, true, true, true, true, true, true, true, true, true, true, true, true, true, false] rfl rfl (by kernel_rfl) (fun _ _ _ h => h) (Or.inl ⟨by rfl, ?_⟩) ?_ ?_
              rotate_left
              · intro w'
                go_simp
                with_reducible rfl
              rotate_left
              · simp only [Act.put, List.setIfInBounds_toArray, List.set_cons_zero, List.set_cons_succ, i64_w, i32_w]
                rfl
              refine one_ (i := 14) (N := none) #[true, true, true, true, true, true, true, true, true, true, true, true, true, true, true] rfl rfl (by kernel_rfl) (by decide) (fun K hK => ?_)
              have hc462 := blk_cellv (v := .int .i64 0) (HS.out.at2) 6 rfl
              have hz463 := blk_fz (HS.out.at2) 6
              refine store_step (w1 := (World.setCell w460 ⟨g199, 6, none⟩ (.int .i64 t435))) (by rfl) rfl ?hr ?_
              case hr => first | (go_simp; done) | (go_simp; rfl)
              clear hc462 hz463
              intro w461 hst
              have hq0 : Sep (fps []) w [b2 g39 a35 a36 a37 a38, b3 g42 0 0 0 0 0 0 0 0, b3 g199 t196 (wrap64 (a36 - 8)) (wrap64 ((wrap64 (a36 - 8)) + 1)) t365 t392 t376 t435 0, b4 g446 2 t417, b4 g451 2 (wrap64 ((wrap64 (a36 - 8)) + 1)), b4 g456 t423 t429] (World.setCell w460 ⟨g199, 6, none⟩ (.int .i64 t435)) := (HS.out).set1 (l1 := [b2 g39 a35 a36 a37 a38, b3 g42 0 0 0 0 0 0 0 0]) (l2 := [b4 g446 2 t417, b4 g451 2 (wrap64 ((wrap64 (a36 - 8)) + 1)), b4 g456 t423 t429]) 6 (.int .i64 t435)
              have HS_ : Aside0 (Sep (fps []) w [b2 g39 a35 a36 a37 a38, b3 g42 0 0 0 0 0 0 0 0, b3 g199 t196 (wrap64 (a36 - 8)) (wrap64 ((wrap64 (a36 - 8)) + 1)) t365 t392 t376 t435 0, b4 g446 2 t417, b4 g451 2 (wrap64 ((wrap64 (a36 - 8)) + 1)), b4 g456 t423 t429] w461) := ⟨by rw [hst]; exact hq0⟩
              clear hq0
              clear HS hst
              have HS := HS_
              clear HS_
              refine hK.out _ _ (⟨blk_cellv (HS.out.at2) 4 rfl, blk_cellv (HS.out.at0) 3 rfl, blk_cellv (HS.out.at2) 2 rfl⟩) (fun hHeld => ?_)
              clear hK K
              refine done_ (by kernel_rfl) ?_
              go_wp2_with fail
              go_meet
              case rel => exact ⟨g446, g451, g456, ⟨((((((HS.out).front 5 (by simp)).front 5 (by simp)).front 5 (by simp)).front 5 (by simp)).front 5 (by simp)).front 5 (by simp)⟩⟩
            · refine slice_step (n := 2) (by rfl) (N := 62) rfl (cs := #[.int .i64 2, .int .i64 (wrap64 ((wrap64 (a36 - 8)) + 1))]) (t := 3) ?hr ?_
              case hr => first | (go_simp; done) | (go_simp; rfl)
              intro g464 hg w465 hbox hb
              replace HS : Aside0 (Sep (fps []) w [b2 g39 a35 a36 a37 a38, b3 g42 0 0 0 0 0 0 0 0, b3 g199 t196 (wrap64 (a36 - 8)) (wrap64 ((wrap64 (a36 - 8)) + 1)) t365 t392 t376 0 0, b4 g446 2 t417, b4 g464 2 (wrap64 ((wrap64 (a36 - 8)) + 1))] w465) := ⟨HS.out.box hg hbox hb⟩
              clear hg hbox hb
              refine hK.out _ _ (⟨blk_cellv (HS.out.at2) 4 rfl, blk_cellv (HS.out.at0) 3 rfl, blk_cellv (HS.out.at2) 2 rfl⟩) (fun hHeld => ?_)
              clear hK K
              refine norm_ (a' := ?_) ?_ ?_
              rotate_left
              · show Act.put _ (some 62) _ = _
                simp only [Act.put, List.setIfInBounds_toArray, List.set_cons_zero, List.set_cons_succ, i64_w, i32_w]
                rfl
              refine one_ (i := 6) (N := some 59) #[true, true, true, true, true, true, true, true, true, true, false, false, false, false, false] rfl rfl (by kernel_rfl) (by decide) (fun K hK => ?_)
              refine goes_ Tryd.func123 (by kernel_rfl) rfl #[.slice (some ⟨g446, 0, none⟩) 2 2] (by rfl) rfl rfl (by (try simp only [List.map_toArray, List.map_cons, List.map_nil]); first | done | rfl) ?_
              refine (ratio_Mul.calls _ [2, t417] (some ⟨g446, 0, none⟩) 2 t423 _ ⟨Rd.lit (l := []) (xs := [2, t417]) HS.out 3 rfl (by simp)⟩ ⟨HGl0.out.pass (l := []) HS.out⟩ ⟨Sep.start _⟩ HA424).mono ?_
              rintro e_ w468 ⟨rfl, hS⟩
              replace HS : Aside0 (Sep (fps []) w [b2 g39 a35 a36 a37 a38, b3 g42 0 0 0 0 0 0 0 0, b3 g199 t196 (wrap64 (a36 - 8)) (wrap64 ((wrap64 (a36 - 8)) + 1)) t365 t392 t376 0 0, b4 g446 2 t417, b4 g464 2 (wrap64 ((wrap64 (a36 - 8)) + 1))] w468) := ⟨HS.out.call hS⟩
              clear hS
              refine ⟨_, rfl, ?_⟩
              refine hK.out _ _ (⟨blk_cellv (HS.out.at2) 4 rfl, blk_cellv (HS.out.at0) 3 rfl, blk_cellv (HS.out.at2) 2 rfl⟩) (fun hHeld => ?_)
              clear hK K
              refine norm_ (a' := ?_) ?_ ?_
              rotate_left
              · show Act.put _ (some 59) _ = _
                simp only [Act.put, List.setIfInBounds_toArray, List.set_cons_zero, List.set_cons_succ, i64_w, i32_w]
                rfl
              refine one_ (i := 10) (N := some 63) #[true, true, true, true, true, true, true, true, true, true, true, false, false, false, false] rfl rfl (by kernel_rfl) (by decide) (fun K hK => ?_)
              refine goes_ Tryd.func123 (by kernel_rfl) rfl #[.slice (some ⟨g464, 0, none⟩) 2 2] (by rfl) rfl rfl (by (try simp only [List.map_toArray, List.map_cons, List.map_nil]); first | done | rfl) ?_
              refine (ratio_Mul.calls _ [2, wrap64 ((wrap64 (a36 - 8)) + 1)] (some ⟨g464, 0, none⟩) 2 t429 _ ⟨Rd.lit (l := []) (xs := [2, wrap64 ((wrap64 (a36 - 8)) + 1)]) HS.out 4 rfl (by simp)⟩ ⟨HGl0.out.pass (l := []) HS.out⟩ ⟨Sep.start _⟩ HA430).mono ?_
              rintro e_ w470 ⟨rfl, hS⟩
              replace HS : Aside0 (Sep (fps []) w [b2 g39 a35 a36 a37 a38, b3 g42 0 0 0 0 0 0 0 0, b3 g199 t196 (wrap64 (a36 - 8)) (wrap64 ((wrap64 (a36 - 8)) + 1)) t365 t392 t376 0 0, b4 g446 2 t417, b4 g464 2 (wrap64 ((wrap64 (a36 - 8)) + 1))] w470) := ⟨HS.out.call hS⟩
              clear hS
              refine ⟨_, rfl, ?_⟩
              refine hK.out _ _ (⟨blk_cellv (HS.out.at2) 4 rfl, blk_cellv (HS.out.at0) 3 rfl, blk_cellv (HS.out.at2) 2 rfl⟩) (fun hHeld => ?_)
              clear hK K
              refine norm_ (a' := ?_) ?_ ?_
              rotate_left
              · show Act.put _ (some 63) _ = _
                simp only [Act.put, List.setIfInBounds_toArray, List.set_cons_zero, List.set_cons_succ, i64_w, i32_w]
                rfl
              refine one_ (i := 11) (N := some 64) #[true, true, true, true, true, true, true, true, true, true, true, true, false, false, false] rfl rfl (by kernel_rfl) (by decide) (fun K hK => ?_)
              refine slice_step (n := 2) (by rfl) (N := 64) rfl (cs := #[.int .i64 t423, .int .i64 t429]) (t := 3) ?hr ?_
              case hr => first | (go_simp; done) | (go_simp; rfl)
              intro g471 hg w472 hbox hb
              replace HS : Aside0 (Sep (fps []) w [b2 g39 a35 a36 a37 a38, b3 g42 0 0 0 0 0 0 0 0, b3 g199 t196 (wrap64 (a36 - 8)) (wrap64 ((wrap64 (a36 - 8)) + 1)) t365 t392 t376 0 0, b4 g446 2 t417, b4 g464 2 (wrap64 ((wrap64 (a36 - 8)) + 1)), b4 g471 t423 t429] w472) := ⟨HS.out.box hg hbox hb⟩
              clear hg hbox hb
              refine hK.out _ _ (⟨blk_cellv (HS.out.at2) 4 rfl, blk_cellv (HS.out.at0) 3 rfl, blk_cellv (HS.out.at2) 2 rfl⟩) (fun hHeld => ?_)
              clear hK K
              refine norm_ (a' := ?_) ?_ ?_
              rotate_left
              · show Act.put _ (some 64) _ = _
                simp only [Act.put, List.setIfInBounds_toArray, List.set_cons_zero, List.set_cons_succ, i64_w, i32_w]
                rfl
              refine one_ (i := 12) (N := some 65) #[true, true, true, true, true, true, true, true, true, true, true, true, true, false, false] rfl rfl (by kernel_rfl) (by decide) (fun K hK => ?_)
              refine goes_ Tryd.func122 (by kernel_rfl) rfl #[.slice (some ⟨g471, 0, none⟩) 2 2] (by rfl) rfl rfl (by (try simp only [List.map_toArray, List.map_cons, List.map_nil]); first | done | rfl) ?_
              refine (ratio_Add.calls _ [t423, t429] (some ⟨g471, 0, none⟩) 2 t435 _ ⟨Rd.lit (l := []) (xs := [t423, t429]) HS.out 5 rfl (by simp)⟩ ⟨HGl0.out.pass (l := []) HS.out⟩ ⟨Sep.start _⟩ HA436).mono ?_
              rintro e_ w475 ⟨rfl, hS⟩
              replace HS : Aside0 (Sep (fps []) w [b2 g39 a35 a36 a37 a38, b3 g42 0 0 0 0 0 0 0 0, b3 g199 t196 (wrap64 (a36 - 8)) (wrap64 ((wrap64 (a36 - 8)) + 1)) t365 t392 t376 0 0, b4 g446 2 t417, b4 g464 2 (wrap64 ((wrap64 (a36 - 8)) + 1)), b4 g471 t423 t429] w475) := ⟨HS.out.call hS⟩
              clear hS
              refine ⟨_, rfl, ?_⟩
              refine hK.out _ _ (⟨blk_cellv (HS.out.at2) 4 rfl, blk_cellv (HS.out.at0) 3 rfl, blk_cellv (HS.out.at2) 2 rfl⟩) (fun hHeld => ?_)
              clear hK K
              refine norm_ (a' := ?_) ?_ ?_
              rotate_left
              · show Act.put _ (some 65) _ = _
                simp only [Act.put, List.setIfInBounds_toArray, List.set_cons_zero, List.set_cons_succ, i64_w, i32_w]
                rfl
              refine pure_ (i := 13) (N := some 66) (v := ?_) (a' := ?_) #[true, true, true, true, true, true, true, true, true, true, true, true, true, true, false] rfl rfl (by kernel_rfl) (fun _ _ _ h => h) (Or.inl ⟨by rfl, ?_⟩) ?_ ?_
              rotate_left
              · intro w'
                go_simp
                with_reducible rfl
              rotate_left
              · simp only [Act.put, List.setIfInBounds_toArray, List.set_cons_zero, List.set_cons_succ, i64_w, i32_w]
                rfl
              refine one_ (i := 14) (N := none) #[true, true, true, true, true, true, true, true, true, true, true, true, true, true, true] rfl rfl (by kernel_rfl) (by decide) (fun K hK => ?_)
              have hc477 := blk_cellv (v := .int .i64 0) (HS.out.at2) 6 rfl
              have hz478 := blk_fz (HS.out.at2) 6
              refine store_step (w1 := (World.setCell w475 ⟨g199, 6, none⟩ (.int .i64 t435))) (by rfl) rfl ?hr ?_
              case hr => first | (go_simp; done) | (go_simp; rfl)
              clear hc477 hz478
              intro w476 hst
              have hq0 : Sep (fps []) w [b2 g39 a35 a36 a37 a38, b3 g42 0 0 0 0 0 0 0 0, b3 g199 t196 (wrap64 (a36 - 8)) (wrap64 ((wrap64 (a36 - 8)) + 1)) t365 t392 t376 t435 0, b4 g446 2 t417, b4 g464 2 (wrap64 ((wrap64 (a36 - 8)) + 1)), b4 g471 t423 t429] (World.setCell w475 ⟨g199, 6, none⟩ (.int .i64 t435)) := (HS.out).set1 (l1 := [b2 g39 a35 a36 a37 a38, b3 g42 0 0 0 0 0 0 0 0]) (l2 := [b4 g446 2 t417, b4 g464 2 (wrap64 ((wrap64 (a36 - 8)) + 1)), b4 g471 t423 t429]) 6 (.int .i64 t435)
              have HS_ : Aside0 (Sep (fps []) w [b2 g39 a35 a36 a37 a38, b3 g42 0 0 0 0 0 0 0 0, b3 g199 t196 (wrap64 (a36 - 8)) (wrap64 ((wrap64 (a36 - 8)) + 1)) t365 t392 t376 t435 0, b4 g446 2 t417, b4 g464 2 (wrap64 ((wrap64 (a36 - 8)) + 1)), b4 g471 t423 t429] w476) := ⟨by rw [hst]; exact hq0⟩
              clear hq0
              clear HS hst
              have HS := HS_
              clear HS_
              refine hK.out _ _ (⟨blk_cellv (HS.out.at2) 4 rfl, blk_cellv (HS.out.at0) 3 rfl, blk_cellv (HS.out.at2) 2 rfl⟩) (fun hHeld => ?_)
              clear hK K
              refine done_ (by kernel_rfl) ?_
              go_wp2_with fail
              go_meet
              case rel => exact ⟨g446, g464, g471, ⟨((((((HS.out).front 5 (by simp)).front 5 (by simp)).front 5 (by simp)).front 5 (by simp)).front 5 (by simp)).front 5 (by simp)⟩⟩
          · refine slice_step (n := 2) (by rfl) (N := 62) rfl (cs := #[.int .i64 2, .int .i64 (wrap64 ((wrap64 (a36 - 8)) + 1))]) (t := 3) ?hr ?_
            case hr => first | (go_simp; done) | (go_simp; rfl)
            intro g479 hg w480 hbox hb
            replace HS : Aside0 (Sep (fps []) w [b2 g39 a35 a36 a37 a38, b3 g42 0 0 0 0 0 0 0 0, b3 g199 t196 (wrap64 (a36 - 8)) (wrap64 ((wrap64 (a36 - 8)) + 1)) t365 t392 t376 0 0, b4 g479 2 (wrap64 ((wrap64 (a36 - 8)) + 1))] w480) := ⟨HS.out.box hg hbox hb⟩
            clear hg hbox hb
            refine hK.out _ _ (⟨blk_cellv (HS.out.at2) 4 rfl, blk_cellv (HS.out.at0) 3 rfl, blk_cellv (HS.out.at2) 2 rfl⟩) (fun hHeld => ?_)
            clear hK K
            refine norm_ (a' := ?_) ?_ ?_
            rotate_left
            · show Act.put _ (some 62) _ = _
              simp only [Act.put, List.setIfInBounds_toArray, List.set_cons_zero, List.set_cons_succ, i64_w, i32_w]
              rfl
            refine one_ (i := 5) (N := some 58) #[true, true, true, true, true, true, false, true, true, true, false, false, false, false, false] rfl rfl (by kernel_rfl) (by decide) (fun K hK => ?_)
            refine slice_step (n := 2) (by rfl) (N := 58) rfl (cs := #[.int .i64 2, .int .i64 t417]) (t := 3) ?hr ?_
            case hr => first | (go_simp; done) | (go_simp; rfl)
            intro g482 hg w483 hbox hb
            replace HS : Aside0 (Sep (fps []) w [b2 g39 a35 a36 a37 a38, b3 g42 0 0 0 0 0 0 0 0, b3 g199 t196 (wrap64 (a36 - 8)) (wrap64 ((wrap64 (a36 - 8)) + 1)) t365 t392 t376 0 0, b4 g479 2 (wrap64 ((wrap64 (a36 - 8)) + 1)), b4 g482 2 t417] w483) := ⟨HS.out.box hg hbox hb⟩
            clear hg hbox hb
            refine hK.out _ _ (⟨blk_cellv (HS.out.at2) 4 rfl, blk_cellv (HS.out.at0) 3 rfl, blk_cellv (HS.out.at2) 2 rfl⟩) (fun hHeld => ?_)
            clear hK K
            refine norm_ (a' := ?_) ?_ ?_
            rotate_left
            · show Act.put _ (some 58) _ = _
              simp only [Act.put, List.setIfInBounds_toArray, List.set_cons_zero, List.set_cons_succ, i64_w, i32_w]
              rfl
            refine one_ (i := 6) (N := some 59) #[true, true, true, true, true, true, true, true, true, true, false, false, false, false, false] rfl rfl (by kernel_rfl) (by decide) (fun K hK => ?_)
            refine goes_ Tryd.func123 (by kernel_rfl) rfl #[.slice (some ⟨g482, 0, none⟩) 2 2] (by rfl) rfl rfl (by (try simp only [List.map_toArray, List.map_cons, List.map_nil]); first | done | rfl) ?_
            refine (ratio_Mul.calls _ [2, t417] (some ⟨g482, 0, none⟩) 2 t423 _ ⟨Rd.lit (l := []) (xs := [2, t417]) HS.out 4 rfl (by simp)⟩ ⟨HGl0.out.pass (l := []) HS.out⟩ ⟨Sep.start _⟩ HA424).mono ?_
            rintro e_ w486 ⟨rfl, hS⟩
            replace HS : Aside0 (Sep (fps []) w [b2 g39 a35 a36 a37 a38, b3 g42 0 0 0 0 0 0 0 0, b3 g199 t196 (wrap64 (a36 - 8)) (wrap64 ((wrap64 (a36 - 8)) + 1)) t365 t392 t376 0 0, b4 g479 2 (wrap64 ((wrap64 (a36 - 8)) + 1)), b4 g482 2 t417] w486) := ⟨HS.out.call hS⟩
            clear hS
            refine ⟨_, rfl, ?_⟩
            refine hK.out _ _ (⟨blk_cellv (HS.out.at2) 4 rfl, blk_cellv (HS.out.at0) 3 rfl, blk_cellv (HS.out.at2) 2 rfl⟩) (fun hHeld => ?_)
            clear hK K
            refine norm_ (a' := ?_) ?_ ?_
            rotate_left
            · show Act.put _ (some 59) _ = _
              simp only [Act.put, List.setIfInBounds_toArray, List.set_cons_zero, List.set_cons_succ, i64_w, i32_w]
              rfl
            refine one_ (i := 10) (N := some 63) #[true, true, true, true, true, true, true, true, true, true, true, false, false, false, false] rfl rfl (by kernel_rfl) (by decide) (fun K hK => ?_)
            refine goes_ Tryd.func123 (by kernel_rfl) rfl #[.slice (some ⟨g479, 0, none⟩) 2 2] (by rfl) rfl rfl (by (try simp only [List.map_toArray, List.map_cons, List.map_nil]); first | done | rfl) ?_
            refine (ratio_Mul.calls _ [2, wrap64 ((wrap64 (a36 - 8)) + 1)] (some ⟨g479, 0, none⟩) 2 t429 _ ⟨Rd.lit (l := []) (xs := [2, wrap64 ((wrap64 (a36 - 8)) + 1)]) HS.out 3 rfl (by simp)⟩ ⟨HGl0.out.pass (l := []) HS.out⟩ ⟨Sep.start _⟩ HA430).mono ?_
            rintro e_ w488 ⟨rfl, hS⟩
            replace HS : Aside0 (Sep (fps []) w [b2 g39 a35 a36 a37 a38, b3 g42 0 0 0 0 0 0 0 0, b3 g199 t196 (wrap64 (a36 - 8)) (wrap64 ((wrap64 (a36 - 8)) + 1)) t365 t392 t376 0 0, b4 g479 2 (wrap64 ((wrap64 (a36 - 8)) + 1)), b4 g482 2 t417] w488) := ⟨HS.out.call hS⟩
            clear hS
            refine ⟨_, rfl, ?_⟩
            refine hK.out _ _ (⟨blk_cellv (HS.out.at2) 4 rfl, blk_cellv (HS.out.at0) 3 rfl, blk_cellv (HS.out.at2) 2 rfl⟩) (fun hHeld => ?_)
            clear hK K
            refine norm_ (a' := ?_) ?_ ?_
            rotate_left
            · show Act.put _ (some 63) _ = _
              simp only [Act.put, List.setIfInBounds_toArray, List.set_cons_zero, List.set_cons_succ, i64_w, i32_w]
              rfl
            refine one_ (i := 11) (N := some 64) #[true, true, true, true, true, true, true, true, true, true, true, true, false, false, false] rfl rfl (by kernel_rfl) (by decide) (fun K hK => ?_)
            refine slice_step (n := 2) (by rfl) (N := 64) rfl (cs := #[.int .i64 t423, .int .i64 t429]) (t := 3) ?hr ?_
            case hr => first | (go_simp; done) | (go_simp; rfl)
            intro g489 hg w490 hbox hb
            replace HS : Aside0 (Sep (fps []) w [b2 g39 a35 a36 a37 a38, b3 g42 0 0 0 0 0 0 0 0, b3 g199 t196 (wrap64 (a36 - 8)) (wrap64 ((wrap64 (a36 - 8)) + 1)) t365 t392 t376 0 0, b4 g479 2 (wrap64 ((wrap64 (a36 - 8)) + 1)), b4 g482 2 t417, b4 g489 t423 t429] w490) := ⟨HS.out.box hg hbox hb⟩
            clear hg hbox hb
            refine hK.out _ _ (⟨blk_cellv (HS.out.at2) 4 rfl, blk_cellv (HS.out.at0) 3 rfl, blk_cellv (HS.out.at2) 2 rfl⟩) (fun hHeld => ?_)
            clear hK K
            refine norm_ (a' := ?_) ?_ ?_
            rotate_left
            · show Act.put _ (some 64) _ = _
              simp only [Act.put, List.setIfInBounds_toArray, List.set_cons_zero, List.set_cons_succ, i64_w, i32_w]
              rfl
            refine one_ (i := 12) (N := some 65) #[true, true, true, true, true, true, true, true, true, true, true, true, true, false, false] rfl rfl (by kernel_rfl) (by decide) (fun K hK => ?_)
            refine goes_ Tryd.func122 (by kernel_rfl) rfl #[.slice (some ⟨g489, 0, none⟩) 2 2] (by rfl) rfl rfl (by (try simp only [List.map_toArray, List.map_cons, List.map_nil]); first | done | rfl) ?_
            refine (ratio_Add.calls _ [t423, t429] (some ⟨g489, 0, none⟩) 2 t435 _ ⟨Rd.lit (l := []) (xs := [t423, t429]) HS.out 5 rfl (by simp)⟩ ⟨HGl0.out.pass (l := []) HS.out⟩ ⟨Sep.start _⟩ HA436).mono ?_
            rintro e_ w493 ⟨rfl, hS⟩
            replace HS : Aside0 (Sep (fps []) w [b2 g39 a35 a36 a37 a38, b3 g42 0 0 0 0 0 0 0 0, b3 g199 t196 (wrap64 (a36 - 8)) (wrap64 ((wrap64 (a36 - 8)) + 1)) t365 t392 t376 0 0, b4 g479 2 (wrap64 ((wrap64 (a36 - 8)) + 1)), b4 g482 2 t417, b4 g489 t423 t429] w493) := ⟨HS.out.call hS⟩
            clear hS
            refine ⟨_, rfl, ?_⟩
            refine hK.out _ _ (⟨blk_cellv (HS.out.at2) 4 rfl, blk_cellv (HS.out.at0) 3 rfl, blk_cellv (HS.out.at2) 2 rfl⟩) (fun hHeld => ?_)
            clear hK K
            refine norm_ (a' := ?_) ?_ ?_
            rotate_left
            · show Act.put _ (some 65) _ = _
              simp only [Act.put, List.setIfInBounds_toArray, List.set_cons_zero, List.set_cons_succ, i64_w, i32_w]
              rfl
            refine pure_ (i := 13) (N := some 66) (v := ?_) (a' := ?_) #[true, true, true, true, true, true, true, true, true, true, true, true, true, true, false] rfl rfl (by kernel_rfl) (fun _ _ _ h => h) (Or.inl ⟨by rfl, ?_⟩) ?_ ?_
            rotate_left
            · intro w'
              go_simp
              with_reducible rfl
            rotate_left
            · simp only [Act.put, List.setIfInBounds_toArray, List.set_cons_zero, List.set_cons_succ, i64_w, i32_w]
              rfl
            refine one_ (i := 14) (N := none) #[true, true, true, true, true, true, true, true, true, true, true, true, true, true, true] rfl rfl (by kernel_rfl) (by decide) (fun K hK => ?_)
            have hc495 := blk_cellv (v := .int .i64 0) (HS.out.at2) 6 rfl
            have hz496 := blk_fz (HS.out.at2) 6
            refine store_step (w1 := (World.setCell w493 ⟨g199, 6, none⟩ (.int .i64 t435))) (by rfl) rfl ?hr ?_
            case hr => first | (go_simp; done) | (go_simp; rfl)
            clear hc495 hz496
            intro w494 hst
            have hq0 : Sep (fps []) w [b2 g39 a35 a36 a37 a38, b3 g42 0 0 0 0 0 0 0 0, b3 g199 t196 (wrap64 (a36 - 8)) (wrap64 ((wrap64 (a36 - 8)) + 1)) t365 t392 t376 t435 0, b4 g479 2 (wrap64 ((wrap64 (a36 - 8)) + 1)), b4 g482 2 t417, b4 g489 t423 t429] (World.setCell w493 ⟨g199, 6, none⟩ (.int .i64 t435)) := (HS.out).set1 (l1 := [b2 g39 a35 a36 a37 a38, b3 g42 0 0 0 0 0 0 0 0]) (l2 := [b4 g479 2 (wrap64 ((wrap64 (a36 - 8)) + 1)), b4 g482 2 t417, b4 g489 t423 t429]) 6 (.int .i64 t435)
            have HS_ : Aside0 (Sep (fps []) w [b2 g39 a35 a36 a37 a38, b3 g42 0 0 0 0 0 0 0 0, b3 g199 t196 (wrap64 (a36 - 8)) (wrap64 ((wrap64 (a36 - 8)) + 1)) t365 t392 t376 t435 0, b4 g479 2 (wrap64 ((wrap64 (a36 - 8)) + 1)), b4 g482 2 t417, b4 g489 t423 t429] w494) := ⟨by rw [hst]; exact hq0⟩
            clear hq0
            clear HS hst
            have HS := HS_
            clear HS_
            refine hK.out _ _ (⟨blk_cellv (HS.out.at2) 4 rfl, blk_cellv (HS.out.at0) 3 rfl, blk_cellv (HS.out.at2) 2 rfl⟩) (fun hHeld => ?_)
            clear hK K
            refine done_ (by kernel_rfl) ?_
            go_wp2_with fail
            go_meet
            case rel => exact ⟨g482, g479, g489, ⟨((((((HS.out).front 5 (by simp)).front 4 (by simp)).front 5 (by simp)).front 5 (by simp)).front 5 (by simp)).front 5 (by simp)⟩⟩
        · refine slice_step (n := 2) (by rfl) (N := 62) rfl (cs := #[.int .i64 2, .int .i64 (wrap64 ((wrap64 (a36 - 8)) + 1))]) (t := 3) ?hr ?_
          case hr => first | (go_simp; done) | (go_simp; rfl)
          intro g497 hg w498 hbox hb
          replace HS : Aside0 (Sep (fps []) w [b2 g39 a35 a36 a37 a38, b3 g42 0 0 0 0 0 0 0 0, b3 g199 t196 (wrap64 (a36 - 8)) (wrap64 ((wrap64 (a36 - 8)) + 1)) t365 t392 t376 0 0, b4 g497 2 (wrap64 ((wrap64 (a36 - 8)) + 1))] w498) := ⟨HS.out.box hg hbox hb⟩
          clear hg hbox hb
          refine hK.out _ _ (⟨blk_cellv (HS.out.at2) 4 rfl, blk_cellv (HS.out.at0) 3 rfl, blk_cellv (HS.out.at2) 2 rfl⟩) (fun hHeld => ?_)
          clear hK K
          refine norm_ (a' := ?_) ?_ ?_
          rotate_left
          · show Act.put _ (some 62) _ = _
            simp only [Act.put, List.setIfInBounds_toArray, List.set_cons_zero, List.set_cons_succ, i64_w, i32_w]
            rfl
          refine one_ (i := 4) (N := some 57) #[true, true, true, true, true, false, false, true, true, true, false, false, false, false, false] rfl rfl (by kernel_rfl) (by decide) (fun K hK => ?_)
          refine goes_ Tryd.func124 (by kernel_rfl) rfl #[.int .i64 t392, .int .i64 a38] (by rfl) rfl rfl (by (try simp only [List.map_toArray, List.map_cons, List.map_nil]); first | done | rfl) ?_
          refine (ratio_Up.calls t392 a38 t417 _ ⟨HGl0.out.pass (l := []) HS.out⟩ ⟨Sep.start _⟩ HA418).mono ?_
          rintro e_ w501 ⟨rfl, hS⟩
          replace HS : Aside0 (Sep (fps []) w [b2 g39 a35 a36 a37 a38, b3 g42 0 0 0 0 0 0 0 0, b3 g199 t196 (wrap64 (a36 - 8)) (wrap64 ((wrap64 (a36 - 8)) + 1)) t365 t392 t376 0 0, b4 g497 2 (wrap64 ((wrap64 (a36 - 8)) + 1))] w501) := ⟨HS.out.call hS⟩
          clear hS
          refine ⟨_, rfl, ?_⟩
          refine hK.out _ _ (⟨blk_cellv (HS.out.at2) 4 rfl, blk_cellv (HS.out.at0) 3 rfl, blk_cellv (HS.out.at2) 2 rfl⟩) (fun hHeld => ?_)
          clear hK K
          refine norm_ (a' := ?_) ?_ ?_
          rotate_left
          · show Act.put _ (some 57) _ = _
            simp only [Act.put, List.setIfInBounds_toArray, List.set_cons_zero, List.set_cons_succ, i64_w, i32_w]
            rfl
          refine one_ (i := 5) (N := some 58) #[true, true, true, true, true, true, false, true, true, true, false, false, false, false, false] rfl rfl (by kernel_rfl) (by decide) (fun K hK => ?_)
          refine slice_step (n := 2) (by rfl) (N := 58) rfl (cs := #[.int .i64 2, .int .i64 t417]) (t := 3) ?hr ?_
          case hr => first | (go_simp; done) | (go_simp; rfl)
          intro g502 hg w503 hbox hb
          replace HS : Aside0 (Sep (fps []) w [b2 g39 a35 a36 a37 a38, b3 g42 0 0 0 0 0 0 0 0, b3 g199 t196 (wrap64 (a36 - 8)) (wrap64 ((wrap64 (a36 - 8)) + 1)) t365 t392 t376 0 0, b4 g497 2 (wrap64 ((wrap64 (a36 - 8)) + 1)), b4 g502 2 t417] w503) := ⟨HS.out.box hg hbox hb⟩
          clear hg hbox hb
          refine hK.out _ _ (⟨blk_cellv (HS.out.at2) 4 rfl, blk_cellv (HS.out.at0) 3 rfl, blk_cellv (HS.out.at2) 2 rfl⟩) (fun hHeld => ?_)
          clear hK K
          refine norm_ (a' := ?_) ?_ ?_
          rotate_left
          · show Act.put _ (some 58) _ = _
            simp only [Act.put, List.setIfInBounds_toArray, List.set_cons_zero, List.set_cons_succ, i64_w, i32_w]
            rfl
          refine one_ (i := 6) (N := some 59) #[true, true, true, true, true, true, true, true, true, true, false, false, false, false, false] rfl rfl (by kernel_rfl) (by decide) (fun K hK => ?_)
          refine goes_ Tryd.func123 (by kernel_rfl) rfl #[.slice (some ⟨g502, 0, none⟩) 2 2] (by rfl) rfl rfl (by (try simp only [List.map_toArray, List.map_cons, List.map_nil]); first | done | rfl) ?_
          refine (ratio_Mul.calls _ [2, t417] (some ⟨g502, 0, none⟩) 2 t423 _ ⟨Rd.lit (l := []) (xs := [2, t417]) HS.out 4 rfl (by simp)⟩ ⟨HGl0.out.pass (l := []) HS.out⟩ ⟨Sep.start _⟩ HA424).mono ?_
          rintro e_ w506 ⟨rfl, hS⟩
          replace HS : Aside0 (Sep (fps []) w [b2 g39 a35 a36 a37 a38, b3 g42 0 0 0 0 0 0 0 0, b3 g199 t196 (wrap64 (a36 - 8)) (wrap64 ((wrap64 (a36 - 8)) + 1)) t365 t392 t376 0 0, b4 g497 2 (wrap64 ((wrap64 (a36 - 8)) + 1)), b4 g502 2 t417] w506) := ⟨HS.out.call hS⟩
          clear hS
          refine ⟨_, rfl, ?_⟩
          refine hK.out _ _ (⟨blk_cellv (HS.out.at2) 4 rfl, blk_cellv (HS.out.at0) 3 rfl, blk_cellv (HS.out.at2) 2 rfl⟩) (fun hHeld => ?_)
          clear hK K
          refine norm_ (a' := ?_) ?_ ?_
          rotate_left
          · show Act.put _ (some 59) _ = _
            simp only [Act.put, List.setIfInBounds_toArray, List.set_cons_zero, List.set_cons_succ, i64_w, i32_w]
            rfl
          refine one_ (i := 10) (N := some 63) #[true, true, true, true, true, true, true, true, true, true, true, false, false, false, false] rfl rfl (by kernel_rfl) (by decide) (fun K hK => ?_)
          refine goes_ Tryd.func123 (by kernel_rfl) rfl #[.slice (some ⟨g497, 0, none⟩) 2 2] (by rfl) rfl rfl (by (try simp only [List.map_toArray, List.map_cons, List.map_nil]); first | done | rfl) ?_
          refine (ratio_Mul.calls _ [2, wrap64 ((wrap64 (a36 - 8)) + 1)] (some ⟨g497, 0, none⟩) 2 t429 _ ⟨Rd.lit (l := []) (xs := [2, wrap64 ((wrap64 (a36 - 8)) + 1)]) HS.out 3 rfl (by simp)⟩ ⟨HGl0.out.pass (l := []) HS.out⟩ ⟨Sep.start _⟩ HA430).mono ?_
          rintro e_ w508 ⟨rfl, hS⟩
          replace HS : Aside0 (Sep (fps []) w [b2 g39 a35 a36 a37 a38, b3 g42 0 0 0 0 0 0 0 0, b3 g199 t196 (wrap64 (a36 - 8)) (wrap64 ((wrap64 (a36 - 8)) + 1)) t365 t392 t376 0 0, b4 g497 2 (wrap64 ((wrap64 (a36 - 8)) + 1)), b4 g502 2 t417] w508) := ⟨HS.out.call hS⟩
          clear hS
          refine ⟨_, rfl, ?_⟩
          refine hK.out _ _ (⟨blk_cellv (HS.out.at2) 4 rfl, blk_cellv (HS.out.at0) 3 rfl, blk_cellv (HS.out.at2) 2 rfl⟩) (fun hHeld => ?_)
          clear hK K
          refine norm_ (a' := ?_) ?_ ?_
          rotate_left
          · show Act.put _ (some 63) _ = _
            simp only [Act.put, List.setIfInBounds_toArray, List.set_cons_zero, List.set_cons_succ, i64_w, i32_w]
            rfl
          refine one_ (i := 11) (N := some 64) #[true, true, true, true, true, true, true, true, true, true, true, true, false, false, false] rfl rfl (by kernel_rfl) (by decide) (fun K hK => ?_)
          refine slice_step (n := 2) (by rfl) (N := 64) rfl (cs := #[.int .i64 t423, .int .i64 t429]) (t := 3) ?hr ?_
          case hr => first | (go_simp; done) | (go_simp; rfl)
          intro g509 hg w510 hbox hb
          replace HS : Aside0 (Sep (fps []) w [b2 g39 a35 a36 a37 a38, b3 g42 0 0 0 0 0 0 0 0, b3 g199 t196 (wrap64 (a36 - 8)) (wrap64 ((wrap64 (a36 - 8)) + 1)) t365 t392 t376 0 0, b4 g497 2 (wrap64 ((wrap64 (a36 - 8)) + 1)), b4 g502 2 t417, b4 g509 t423 t429] w510) := ⟨HS.out.box hg hbox hb⟩
          clear hg hbox hb
          refine hK.out _ _ (⟨blk_cellv (HS.out.at2) 4 rfl, blk_cellv (HS.out.at0) 3 rfl, blk_cellv (HS.out.at2) 2 rfl⟩) (fun hHeld => ?_)
          clear hK K
          refine norm_ (a' := ?_) ?_ ?_
          rotate_left
          · show Act.put _ (some 64) _ = _
            simp only [Act.put, List.setIfInBounds_toArray, List.set_cons_zero, List.set_cons_succ, i64_w, i32_w]
            rfl
          refine one_ (i := 12) (N := some 65) #[true, true, true, true, true, true, true, true, true, true, true, true, true, false, false] rfl rfl (by kernel_rfl) (by decide) (fun K hK => ?_)
          refine goes_ Tryd.func122 (by kernel_rfl) rfl #[.slice (some ⟨g509, 0, none⟩) 2 2] (by rfl) rfl rfl (by (try simp only [List.map_toArray, List.map_cons, List.map_nil]); first | done | rfl) ?_
          refine (ratio_Add.calls _ [t423, t429] (some ⟨g509, 0, none⟩) 2 t435 _ ⟨Rd.lit (l := []) (xs := [t423, t429]) HS.out 5 rfl (by simp)⟩ ⟨HGl0.out.pass (l := []) HS.out⟩ ⟨Sep.start _⟩ HA436).mono ?_
          rintro e_ w513 ⟨rfl, hS⟩
          replace HS : Aside0 (Sep (fps []) w [b2 g39 a35 a36 a37 a38, b3 g42 0 0 0 0 0 0 0 0, b3 g199 t196 (wrap64 (a36 - 8)) (wrap64 ((wrap64 (a36 - 8)) + 1)) t365 t392 t376 0 0, b4 g497 2 (wrap64 ((wrap64 (a36 - 8)) + 1)), b4 g502 2 t417, b4 g509 t423 t429] w513) := ⟨HS.out.call hS⟩
          clear hS
          refine ⟨_, rfl, ?_⟩
          refine hK.out _ _ (⟨blk_cellv (HS.out.at2) 4 rfl, blk_cellv (HS.out.at0) 3 rfl, blk_cellv (HS.out.at2) 2 rfl⟩) (fun hHeld => ?_)
          clear hK K
          refine norm_ (a' := ?_) ?_ ?_
          rotate_left
          · show Act.put _ (some 65) _ = _
            simp only [Act.put, List.setIfInBounds_toArray, List.set_cons_zero, List.set_cons_succ, i64_w, i32_w]
            rfl
          refine pure_ (i := 13) (N := some 66) (v := ?_) (a' := ?_) #[true, true, true, true, true, true, true, true, true, true, true, true, true, true, false] rfl rfl (by kernel_rfl) (fun _ _ _ h => h) (Or.inl ⟨by rfl, ?_⟩) ?_ ?_
          rotate_left
          · intro w'
            go_simp
            with_reducible rfl
          rotate_left
          · simp only [Act.put, List.setIfInBounds_toArray, List.set_cons_zero, List.set_cons_succ, i64_w, i32_w]
            rfl
          refine one_ (i := 14) (N := none) #[true, true, true, true, true, true, true, true, true, true, true, true, true, true, true] rfl rfl (by kernel_rfl) (by decide) (fun K hK => ?_)
          have hc515 := blk_cellv (v := .int .i64 0) (HS.out.at2) 6 rfl
          have hz516 := blk_fz (HS.out.at2) 6
          refine store_step (w1 := (World.setCell w513 ⟨g199, 6, none⟩ (.int .i64 t435))) (by rfl) rfl ?hr ?_
          case hr => first | (go_simp; done) | (go_simp; rfl)
          clear hc515 hz516
          intro w514 hst
          have hq0 : Sep (fps []) w [b2 g39 a35 a36 a37 a38, b3 g42 0 0 0 0 0 0 0 0, b3 g199 t196 (wrap64 (a36 - 8)) (wrap64 ((wrap64 (a36 - 8)) + 1)) t365 t392 t376 t435 0, b4 g497 2 (wrap64 ((wrap64 (a36 - 8)) + 1)), b4 g502 2 t417, b4 g509 t423 t429] (World.setCell w513 ⟨g199, 6, none⟩ (.int .i64 t435)) := (HS.out).set1 (l1 := [b2 g39 a35 a36 a37 a38, b3 g42 0 0 0 0 0 0 0 0]) (l2 := [b4 g497 2 (wrap64 ((wrap64 (a36 - 8)) + 1)), b4 g502 2 t417, b4 g509 t423 t429]) 6 (.int .i64 t435)
          have HS_ : Aside0 (Sep (fps []) w [b2 g39 a35 a36 a37 a38, b3 g42 0 0 0 0 0 0 0 0, b3 g199 t196 (wrap64 (a36 - 8)) (wrap64 ((wrap64 (a36 - 8)) + 1)) t365 t392 t376 t435 0, b4 g497 2 (wrap64 ((wrap64 (a36 - 8)) + 1)), b4 g502 2 t417, b4 g509 t423 t429] w514) := ⟨by rw [hst]; exact hq0⟩
          clear hq0
          clear HS hst
          have HS := HS_
          clear HS_
          refine hK.out _ _ (⟨blk_cellv (HS.out.at2) 4 rfl, blk_cellv (HS.out.at0) 3 rfl, blk_cellv (HS.out.at2) 2 rfl⟩) (fun hHeld => ?_)
          clear hK K
          refine done_ (by kernel_rfl) ?_
          go_wp2_with fail
          go_meet
          case rel => exact ⟨g502, g497, g509, ⟨((((((HS.out).front 5 (by simp)).front 4 (by simp)).front 5 (by simp)).front 5 (by simp)).front 5 (by simp)).front 5 (by simp)⟩⟩
      case rest =>
        clear HS
        obtain ⟨g420, g426, g432, HS⟩ := hcut
        obtain ⟨w441, rfl⟩ : ∃ x : World, x = wc := ⟨_, rfl⟩
        replace HS : Aside0 (Sep (fps []) w [b2 g39 a35 a36 a37 a38, b3 g42 0 0 0 0 0 0 0 0, b3 g199 t196 (wrap64 (a36 - 8)) (wrap64 ((wrap64 (a36 - 8)) + 1)) t365 t392 t376 t435 0] w441) := ⟨HS.out.sub (.cons_cons _ (.cons_cons _ (.cons_cons _ (.cons _ (.cons _ (.cons _ .slnil))))))⟩
        go_wp2_with fail
        refine start_ (n := 15) (S := (fun w' => w'.cell? ⟨g199, 4, none⟩ = some (.int .i64 t392) ∧ w'.cell? ⟨g199, 5, none⟩ = some (.int .i64 t376) ∧ w'.cell? ⟨g39, 3, none⟩ = some (.int .i64 a38))) (ds := []) #[false, false, false, false, false, false, false, false, false, false, false, false, false, false, false] (by kernel_rfl) rfl rfl (⟨blk_cellv ((HS.out.drew).at2) 4 rfl, blk_cellv ((HS.out.drew).at2) 5 rfl, blk_cellv ((HS.out.drew).at0) 3 rfl⟩) (fun hHeld => ?_)
        have HS_ := Aside0.mk HS.out.drew
        clear HS
        generalize World.drew _ = w518 at HS_ hHeld ⊢
        have HS := HS_
        clear HS_
        refine pure_ (i := 0) (N := some 67) (v := ?_) (a' := ?_) #[true, false, false, false, false, false, false, false, false, false, false, false, false, false, false] rfl rfl (by kernel_rfl) (fun _ _ _ h => h) (Or.inl ⟨by rfl, ?_⟩) ?_ ?_
        rotate_left
        · intro w'
          go_simp
          with_reducible rfl
        rotate_left
        · simp only [Act.put, List.setIfInBounds_toArray, List.set_cons_zero, List.set_cons_succ, i64_w, i32_w]
          rfl
        refine pure_ (i := 2) (N := some 69) (v := ?_) (a' := ?_) #[true, false, true, false, false, false, false, false, false, false, false, false, false, false, false] rfl rfl (by kernel_rfl) (fun _ _ _ h => h) (Or.inl ⟨by rfl, ?_⟩) ?_ ?_
        rotate_left
        · intro w'
          go_simp
          with_reducible rfl
        rotate_left
        · simp only [Act.put, List.setIfInBounds_toArray, List.set_cons_zero, List.set_cons_succ, i64_w, i32_w]
          rfl
        refine pure_ (i := 4) (N := some 71) (v := ?_) (a' := ?_) #[true, false, true, false, true, false, false, false, false, false, false, false, false, false, false] rfl rfl (by kernel_rfl) (fun _ _ _ h => h) (Or.inl ⟨by rfl, ?_⟩) ?_ ?_
        rotate_left
        · intro w'
          go_simp
          with_reducible rfl
        rotate_left
        · simp only [Act.put, List.setIfInBounds_toArray, List.set_cons_zero, List.set_cons_succ, i64_w, i32_w]
          rfl
        refine pure_ (i := 8) (N := some 75) (v := ?_) (a' := ?_) #[true, false, true, false, true, false, false, false, true, false, false, false, false, false, false] rfl rfl (by kernel_rfl) (fun _ _ _ h => h) (Or.inl ⟨by rfl, ?_⟩) ?_ ?_
        rotate_left
        · intro w'
          go_simp
          with_reducible rfl
        rotate_left
        · simp only [Act.put, List.setIfInBounds_toArray, List.set_cons_zero, List.set_cons_succ, i64_w, i32_w]
          rfl
        refine take_ (i := 1) (N := some 68) (v := ?_) (a' := ?_) #[true, true, true, false, true, false, false, false, true, false, false, false, false, false, false] rfl rfl (by kernel_rfl) (fun _ _ _ h => h) (Or.inl ⟨by rfl, ?_⟩) hHeld ?_ ?_
        rotate_left
        · rintro w' hS'
          obtain ⟨s0, s1, s2⟩ := hS'
          go_simp
          with_reducible rfl
        rotate_left
        · simp only [Act.put, List.setIfInBounds_toArray, List.set_cons_zero, List.set_cons_succ, i64_w, i32_w]
          rfl
        refine take_ (i := 3) (N := some 70) (v := ?_) (a' := ?_) #[true, true, true, true, true, false, false, false, true, false, false, false, false, false, false] rfl rfl (by kernel_rfl) (fun _ _ _ h => h) (Or.inl ⟨by rfl, ?_⟩) hHeld ?_ ?_
        rotate_left
        · rintro w' hS'
          obtain ⟨s0, s1, s2⟩ := hS'
          go_simp
          with_reducible rfl
        rotate_left
        · simp only [Act.put, List.setIfInBounds_toArray, List.set_cons_zero, List.set_cons_succ, i64_w, i32_w]
          rfl
        refine take_ (i := 5) (N := some 72) (v := ?_) (a' := ?_) #[true, true, true, true, true, true, false, false, true, false, false, false, false, false, false] rfl rfl (by kernel_rfl) (fun _ _ _ h => h) (Or.inl ⟨by rfl, ?_⟩) hHeld ?_ ?_
        rotate_left
        · rintro w' hS'
          obtain ⟨s0, s1, s2⟩ := hS'
          go_simp
          with_reducible rfl
        rotate_left
        · simp only [Act.put, List.setIfInBounds_toArray, List.set_cons_zero, List.set_cons_succ, i64_w, i32_w]
          rfl
        refine take_ (i := 9) (N := some 76) (v := ?_) (a' := ?_) #[true, true, true, true, true, true, false, false, true, true, false, false, false, false, false] rfl rfl (by kernel_rfl) (fun _ _ _ h => h) (Or.inl ⟨by rfl, ?_⟩) hHeld ?_ ?_
        rotate_left
        · rintro w' hS'
          obtain ⟨s0, s1, s2⟩ := hS'
          go_simp
          with_reducible rfl
        rotate_left
        · simp only [Act.put, List.setIfInBounds_toArray, List.set_cons_zero, List.set_cons_succ, i64_w, i32_w]
          rfl
        refine one_ (i := 6) (N := some 73) #[true, true, true, true, true, true, true, false, true, true, false, false, false, false, false] rfl rfl (by kernel_rfl) (by decide) (fun K hK => ?_)
        refine slice_step (n := 3) (by rfl) (N := 73) rfl (cs := #[.int .i64 t392, .int .i64 t392, .int .i64 t376]) (t := 3) ?hr ?_
        case hr => first | (go_simp; done) | (go_simp; rfl)
        intro g519 hg w520 hbox hb
        replace HS : Aside0 (Sep (fps []) w [b2 g39 a35 a36 a37 a38, b3 g42 0 0 0 0 0 0 0 0, b3 g199 t196 (wrap64 (a36 - 8)) (wrap64 ((wrap64 (a36 - 8)) + 1)) t365 t392 t376 t435 0, b5 g519 t392 t392 t376] w520) := ⟨HS.out.box hg hbox hb⟩
        clear hg hbox hb
        refine hK.out _ _ (⟨blk_cellv (HS.out.at2) 4 rfl, blk_cellv (HS.out.at2) 5 rfl, blk_cellv (HS.out.at0) 3 rfl⟩) (fun hHeld => ?_)
        clear hK K
        refine norm_ (a' := ?_) ?_ ?_
        rotate_left
        · show Act.put _ (some 73) _ = _
          simp only [Act.put, List.setIfInBounds_toArray, List.set_cons_zero, List.set_cons_succ, i64_w, i32_w]
          rfl
        refine one_ (i := 7) (N := some 74) #[true, true, true, true, true, true, true, true, true, true, false, false, false, false, false] rfl rfl (by kernel_rfl) (by decide) (fun K hK => ?_)
        obtain ⟨t522, HA523, H⟩ := bind_some H
        refine goes_ Tryd.func122 (by kernel_rfl) rfl #[.slice (some ⟨g519, 0, none⟩) 3 3] (by rfl) rfl rfl (by (try simp only [List.map_toArray, List.map_cons, List.map_nil]); first | done | rfl) ?_
        refine (ratio_Add.calls _ [t392, t392, t376] (some ⟨g519, 0, none⟩) 3 t522 _ ⟨Rd.lit (l := []) (xs := [t392, t392, t376]) HS.out 3 rfl (by simp)⟩ ⟨HGl0.out.pass (l := []) HS.out⟩ ⟨Sep.start _⟩ HA523).mono ?_
        rintro e_ w524 ⟨rfl, hS⟩
        replace HS : Aside0 (Sep (fps []) w [b2 g39 a35 a36 a37 a38, b3 g42 0 0 0 0 0 0 0 0, b3 g199 t196 (wrap64 (a36 - 8)) (wrap64 ((wrap64 (a36 - 8)) + 1)) t365 t392 t376 t435 0, b5 g519 t392 t392 t376] w524) := ⟨HS.out.call hS⟩
        clear hS
        refine ⟨_, rfl, ?_⟩
        refine hK.out _ _ (⟨blk_cellv (HS.out.at2) 4 rfl, blk_cellv (HS.out.at2) 5 rfl, blk_cellv (HS.out.at0) 3 rfl⟩) (fun hHeld => ?_)
        clear hK K
        refine norm_ (a' := ?_) ?_ ?_
        rotate_left
        · show Act.put _ (some 74) _ = _
          simp only [Act.put, List.setIfInBounds_toArray, List.set_cons_zero, List.set_cons_succ, i64_w, i32_w]
          rfl
        refine one_ (i := 10) (N := some 77) #[true, true, true, true, true, true, true, true, true, true, true, false, false, false, false] rfl rfl (by kernel_rfl) (by decide) (fun K hK => ?_)
        obtain ⟨t525, HA526, H⟩ := bind_some H
        refine goes_ Tryd.func124 (by kernel_rfl) rfl #[.int .i64 t522, .int .i64 a38] (by rfl) rfl rfl (by (try simp only [List.map_toArray, List.map_cons, List.map_nil]); first | done | rfl) ?_
        refine (ratio_Up.calls t522 a38 t525 _ ⟨HGl0.out.pass (l := []) HS.out⟩ ⟨Sep.start _⟩ HA526).mono ?_
        rintro e_ w527 ⟨rfl, hS⟩
        replace HS : Aside0 (Sep (fps []) w [b2 g39 a35 a36 a37 a38, b3 g42 0 0 0 0 0 0 0 0, b3 g199 t196 (wrap64 (a36 - 8)) (wrap64 ((wrap64 (a36 - 8)) + 1)) t365 t392 t376 t435 0, b5 g519 t392 t392 t376] w527) := ⟨HS.out.call hS⟩
        clear hS
        refine ⟨_, rfl, ?_⟩
        refine hK.out _ _ (⟨blk_cellv (HS.out.at2) 4 rfl, blk_cellv (HS.out.at2) 5 rfl, blk_cellv (HS.out.at0) 3 rfl⟩) (fun hHeld => ?_)
        clear hK K
        refine norm_ (a' := ?_) ?_ ?_
        rotate_left
        · show Act.put _ (some 77) _ = _
          simp only [Act.put, List.setIfInBounds_toArray, List.set_cons_zero, List.set_cons_succ, i64_w, i32_w]
          rfl
        refine one_ (i := 11) (N := some 78) #[true, true, true, true, true, true, true, true, true, true, true, true, false, false, false] rfl rfl (by kernel_rfl) (by decide) (fun K hK => ?_)
        refine slice_step (n := 2) (by rfl) (N := 78) rfl (cs := #[.int .i64 t525, .int .i64 2]) (t := 3) ?hr ?_
        case hr => first | (go_simp; done) | (go_simp; rfl)
        intro g528 hg w529 hbox hb
        replace HS : Aside0 (Sep (fps []) w [b2 g39 a35 a36 a37 a38, b3 g42 0 0 0 0 0 0 0 0, b3 g199 t196 (wrap64 (a36 - 8)) (wrap64 ((wrap64 (a36 - 8)) + 1)) t365 t392 t376 t435 0, b5 g519 t392 t392 t376, b4 g528 t525 2] w529) := ⟨HS.out.box hg hbox hb⟩
        clear hg hbox hb
        refine hK.out _ _ (⟨blk_cellv (HS.out.at2) 4 rfl, blk_cellv (HS.out.at2) 5 rfl, blk_cellv (HS.out.at0) 3 rfl⟩) (fun hHeld => ?_)
        clear hK K
        refine norm_ (a' := ?_) ?_ ?_
        rotate_left
        · show Act.put _ (some 78) _ = _
          simp only [Act.put, List.setIfInBounds_toArray, List.set_cons_zero, List.set_cons_succ, i64_w, i32_w]
          rfl
        refine one_ (i := 12) (N := some 79) #[true, true, true, true, true, true, true, true, true, true, true, true, true, false, false] rfl rfl (by kernel_rfl) (by decide) (fun K hK => ?_)
        obtain ⟨t531, HA532, H⟩ := bind_some H
        refine goes_ Tryd.func122 (by kernel_rfl) rfl #[.slice (some ⟨g528, 0, none⟩) 2 2] (by rfl) rfl rfl (by (try simp only [List.map_toArray, List.map_cons, List.map_nil]); first | done | rfl) ?_
        refine (ratio_Add.calls _ [t525, 2] (some ⟨g528, 0, none⟩) 2 t531 _ ⟨Rd.lit (l := []) (xs := [t525, 2]) HS.out 4 rfl (by simp)⟩ ⟨HGl0.out.pass (l := []) HS.out⟩ ⟨Sep.start _⟩ HA532).mono ?_
        rintro e_ w533 ⟨rfl, hS⟩
        replace HS : Aside0 (Sep (fps []) w [b2 g39 a35 a36 a37 a38, b3 g42 0 0 0 0 0 0 0 0, b3 g199 t196 (wrap64 (a36 - 8)) (wrap64 ((wrap64 (a36 - 8)) + 1)) t365 t392 t376 t435 0, b5 g519 t392 t392 t376, b4 g528 t525 2] w533) := ⟨HS.out.call hS⟩
        clear hS
        refine ⟨_, rfl, ?_⟩
        refine hK.out _ _ (⟨blk_cellv (HS.out.at2) 4 rfl, blk_cellv (HS.out.at2) 5 rfl, blk_cellv (HS.out.at0) 3 rfl⟩) (fun hHeld => ?_)
        clear hK K
        refine norm_ (a' := ?_) ?_ ?_
        rotate_left
        · show Act.put _ (some 79) _ = _
          simp only [Act.put, List.setIfInBounds_toArray, List.set_cons_zero, List.set_cons_succ, i64_w, i32_w]
          rfl
        refine pure_ (i := 13) (N := some 80) (v := ?_) (a' := ?_) #[true, true, true, true, true, true, true, true, true, true, true, true, true, true, false] rfl rfl (by kernel_rfl) (fun _ _ _ h => h) (Or.inl ⟨by rfl, ?_⟩) ?_ ?_
        rotate_left
        · intro w'
          go_simp
          with_reducible rfl
        rotate_left
        · simp only [Act.put, List.setIfInBounds_toArray, List.set_cons_zero, List.set_cons_succ, i64_w, i32_w]
          rfl
        refine one_ (i := 14) (N := none) #[true, true, true, true, true, true, true, true, true, true, true, true, true, true, true] rfl rfl (by kernel_rfl) (by decide) (fun K hK => ?_)
        have hc535 := blk_cellv (v := .int .i64 0) (HS.out.at2) 7 rfl
        have hz536 := blk_fz (HS.out.at2) 7
        refine store_step (w1 := (World.setCell w533 ⟨g199, 7, none⟩ (.int .i64 t531))) (by rfl) rfl ?hr ?_
        case hr => first | (go_simp; done) | (go_simp; rfl)
        clear hc535 hz536
        intro w534 hst
        have hq0 : Sep (fps []) w [b2 g39 a35 a36 a37 a38, b3 g42 0 0 0 0 0 0 0 0, b3 g199 t196 (wrap64 (a36 - 8)) (wrap64 ((wrap64 (a36 - 8)) + 1)) t365 t392 t376 t435 t531, b5 g519 t392 t392 t376, b4 g528 t525 2] (World.setCell w533 ⟨g199, 7, none⟩ (.int .i64 t531)) := (HS.out).set1 (l1 := [b2 g39 a35 a36 a37 a38, b3 g42 0 0 0 0 0 0 0 0]) (l2 := [b5 g519 t392 t392 t376, b4 g528 t525 2]) 7 (.int .i64 t531)
        have HS_ : Aside0 (Sep (fps []) w [b2 g39 a35 a36 a37 a38, b3 g42 0 0 0 0 0 0 0 0, b3 g199 t196 (wrap64 (a36 - 8)) (wrap64 ((wrap64 (a36 - 8)) + 1)) t365 t392 t376 t435 t531, b5 g519 t392 t392 t376, b4 g528 t525 2] w534) := ⟨by rw [hst]; exact hq0⟩
        clear hq0
        clear HS hst
        have HS := HS_
        clear HS_
        refine hK.out _ _ (⟨blk_cellv (HS.out.at2) 4 rfl, blk_cellv (HS.out.at2) 5 rfl, blk_cellv (HS.out.at0) 3 rfl⟩) (fun hHeld => ?_)
        clear hK K
        refine done_ (by kernel_rfl) ?_
        replace HS : Aside0 (Sep (fps []) w [b3 g42 0 0 0 0 0 0 0 0, b3 g199 t196 (wrap64 (a36 - 8)) (wrap64 ((wrap64 (a36 - 8)) + 1)) t365 t392 t376 t435 t531] w534) := ⟨HS.out.sub (.cons _ (.cons_cons _ (.cons_cons _ (.cons _ (.cons _ .slnil)))))⟩
        have hc537 : w534.cell? ⟨g199, 0, none⟩ = some (.int .i64 t196) := blk_cellv (HS.out.at1) 0 rfl
        have hc538 : w534.cell? ⟨g199, 1, none⟩ = some (.int .i64 (wrap64 (a36 - 8))) := blk_cellv (HS.out.at1) 1 rfl
        have hc539 : w534.cell? ⟨g199, 2, none⟩ = some (.int .i64 (wrap64 ((wrap64 (a36 - 8)) + 1))) := blk_cellv (HS.out.at1) 2 rfl
        have hc540 : w534.cell? ⟨g199, 3, none⟩ = some (.int .i64 t365) := blk_cellv (HS.out.at1) 3 rfl
        have hc541 : w534.cell? ⟨g199, 4, none⟩ = some (.int .i64 t392) := blk_cellv (HS.out.at1) 4 rfl
        have hc542 : w534.cell? ⟨g199, 5, none⟩ = some (.int .i64 t376) := blk_cellv (HS.out.at1) 5 rfl
        have hc543 : w534.cell? ⟨g199, 6, none⟩ = some (.int .i64 t435) := blk_cellv (HS.out.at1) 6 rfl
        have hc544 : w534.cell? ⟨g199, 7, none⟩ = some (.int .i64 t531) := blk_cellv (HS.out.at1) 7 rfl
        have hc545 : w534.cell? ⟨g42, 0, none⟩ = some (.int .i64 0) := blk_cellv (HS.out.at0) 0 rfl
        have hz546 : w534.frozen? ⟨g42, 0, none⟩ = false := blk_fz (HS.out.at0) 0
        have hc547 : w534.cell? ⟨g42, 1, none⟩ = some (.int .i64 0) := blk_cellv (HS.out.at0) 1 rfl
        have hz548 : w534.frozen? ⟨g42, 1, none⟩ = false := blk_fz (HS.out.at0) 1
        have hc549 : w534.cell? ⟨g42, 2, none⟩ = some (.int .i64 0) := blk_cellv (HS.out.at0) 2 rfl
        have hz550 : w534.frozen? ⟨g42, 2, none⟩ = false := blk_fz (HS.out.at0) 2
        have hc551 : w534.cell? ⟨g42, 3, none⟩ = some (.int .i64 0) := blk_cellv (HS.out.at0) 3 rfl
        have hz552 : w534.frozen? ⟨g42, 3, none⟩ = false := blk_fz (HS.out.at0) 3
        have hc553 : w534.cell? ⟨g42, 4, none⟩ = some (.int .i64 0) := blk_cellv (HS.out.at0) 4 rfl
        have hz554 : w534.frozen? ⟨g42, 4, none⟩ = false := blk_fz (HS.out.at0) 4
        have hc555 : w534.cell? ⟨g42, 5, none⟩ = some (.int .i64 0) := blk_cellv (HS.out.at0) 5 rfl
        have hz556 : w534.frozen? ⟨g42, 5, none⟩ = false := blk_fz (HS.out.at0) 5
        have hc557 : w534.cell? ⟨g42, 6, none⟩ = some (.int .i64 0) := blk_cellv (HS.out.at0) 6 rfl
        have hz558 : w534.frozen? ⟨g42, 6, none⟩ = false := blk_fz (HS.out.at0) 6
        have hc559 : w534.cell? ⟨g42, 7, none⟩ = some (.int .i64 0) := blk_cellv (HS.out.at0) 7 rfl
        have hz560 : w534.frozen? ⟨g42, 7, none⟩ = false := blk_fz (HS.out.at0) 7
        go_wp2_with (first | ((with_reducible refine gate_store (t := 97) (p := 2) rfl ?_); refine store_event (w1 := (World.setCell (World.setCell (World.setCell (World.setCell (World.setCell (World.setCell (World.setCell (World.setCell w534 ⟨g42, 0, none⟩ (.int .i64 t196)) ⟨g42, 1, none⟩ (.int .i64 (wrap64 (a36 - 8)))) ⟨g42, 2, none⟩ (.int .i64 (wrap64 ((wrap64 (a36 - 8)) + 1)))) ⟨g42, 3, none⟩ (.int .i64 t365)) ⟨g42, 4, none⟩ (.int .i64 t392)) ⟨g42, 5, none⟩ (.int .i64 t376)) ⟨g42, 6, none⟩ (.int .i64 t435)) ⟨g42, 7, none⟩ (.int .i64 t531))) rfl (t := 97) (p := 2) rfl rfl ?hr ?_; (case hr => first | (go_simp; done) | (go_simp; rfl)); intro w561 hst; clear hc537 hc538 hc539 hc540 hc541 hc542 hc543 hc544 hc545 hz546 hc547 hz548 hc549 hz550 hc551 hz552 hc553 hz554 hc555 hz556 hc557 hz558 hc559 hz560; replace HS : Aside0 (Sep (fps []) w [b3 g42 t196 (wrap64 (a36 - 8)) (wrap64 ((wrap64 (a36 - 8)) + 1)) t365 t392 t376 t435 t531, b3 g199 t196 (wrap64 (a36 - 8)) (wrap64 ((wrap64 (a36 - 8)) + 1)) t365 t392 t376 t435 t531] w561) := ⟨by rw [hst]; exact HS.out.setAll (l1 := []) (l2 := [b3 g199 t196 (wrap64 (a36 - 8)) (wrap64 ((wrap64 (a36 - 8)) + 1)) t365 t392 t376 t435 t531]) [.int .i64 t196, .int .i64 (wrap64 (a36 - 8)), .int .i64 (wrap64 ((wrap64 (a36 - 8)) + 1)), .int .i64 t365, .int .i64 t392, .int .i64 t376, .int .i64 t435, .int .i64 t531] rfl⟩; clear hst; replace HS : Aside0 (Sep (fps []) w [b3 g42 t196 (wrap64 (a36 - 8)) (wrap64 ((wrap64 (a36 - 8)) + 1)) t365 t392 t376 t435 t531] w561) := ⟨HS.out.sub (.cons_cons _ (.cons _ .slnil))⟩))
        have hc562 : w561.cell? ⟨g42, 0, none⟩ = some (.int .i64 t196) := blk_cellv (HS.out.at0) 0 rfl
        have hc563 : w561.cell? ⟨g42, 1, none⟩ = some (.int .i64 (wrap64 (a36 - 8))) := blk_cellv (HS.out.at0) 1 rfl
        have hc564 : w561.cell? ⟨g42, 2, none⟩ = some (.int .i64 (wrap64 ((wrap64 (a36 - 8)) + 1))) := blk_cellv (HS.out.at0) 2 rfl
        have hc565 : w561.cell? ⟨g42, 3, none⟩ = some (.int .i64 t365) := blk_cellv (HS.out.at0) 3 rfl
        have hc566 : w561.cell? ⟨g42, 4, none⟩ = some (.int .i64 t392) := blk_cellv (HS.out.at0) 4 rfl
        have hc567 : w561.cell? ⟨g42, 5, none⟩ = some (.int .i64 t376) := blk_cellv (HS.out.at0) 5 rfl
        have hc568 : w561.cell? ⟨g42, 6, none⟩ = some (.int .i64 t435) := blk_cellv (HS.out.at0) 6 rfl
        have hc569 : w561.cell? ⟨g42, 7, none⟩ = some (.int .i64 t531) := blk_cellv (HS.out.at0) 7 rfl
        refine bodyPost_ret (v := .tuple #[.agg #[.int .i64 t196, .int .i64 (wrap64 (a36 - 8)), .int .i64 (wrap64 ((wrap64 (a36 - 8)) + 1)), .int .i64 t365, .int .i64 t392, .int .i64 t376, .int .i64 t435, .int .i64 t531], .int .i64 0]) (by simp [results, Tryd.results65, go_sem, hc562, hc563, hc564, hc565, hc566, hc567, hc568, hc569]) rfl ?_
        rw [← some_eq H]
        exact ⟨(by first | rfl | (simp [IntKind.wrap_u32]; done)), HS.out.sub (.cons _ .slnil)⟩
  · replace H := if_no c93 H
    have c93b0 : (t90 == 0) = false := beq_eq_false_iff_ne.mpr c93
    have c93b1 : (t90 != 0) = true := bne_iff_ne.mpr c93
    clear c93
    have hc570 : w92.cell? ⟨g42, 0, none⟩ = some (.int .i64 0) := blk_cellv (HS.out.at1) 0 rfl
    have hz571 : w92.frozen? ⟨g42, 0, none⟩ = false := blk_fz (HS.out.at1) 0
    have hc572 : w92.cell? ⟨g42, 1, none⟩ = some (.int .i64 0) := blk_cellv (HS.out.at1) 1 rfl
    have hz573 : w92.frozen? ⟨g42, 1, none⟩ = false := blk_fz (HS.out.at1) 1
    have hc574 : w92.cell? ⟨g42, 2, none⟩ = some (.int .i64 0) := blk_cellv (HS.out.at1) 2 rfl
    have hz575 : w92.frozen? ⟨g42, 2, none⟩ = false := blk_fz (HS.out.at1) 2
    have hc576 : w92.cell? ⟨g42, 3, none⟩ = some (.int .i64 0) := blk_cellv (HS.out.at1) 3 rfl
    have hz577 : w92.frozen? ⟨g42, 3, none⟩ = false := blk_fz (HS.out.at1) 3
    have hc578 : w92.cell? ⟨g42, 4, none⟩ = some (.int .i64 0) := blk_cellv (HS.out.at1) 4 rfl
    have hz579 : w92.frozen? ⟨g42, 4, none⟩ = false := blk_fz (HS.out.at1) 4
    have hc580 : w92.cell? ⟨g42, 5, none⟩ = some (.int .i64 0) := blk_cellv (HS.out.at1) 5 rfl
    have hz581 : w92.frozen? ⟨g42, 5, none⟩ = false := blk_fz (HS.out.at1) 5
    have hc582 : w92.cell? ⟨g42, 6, none⟩ = some (.int .i64 0) := blk_cellv (HS.out.at1) 6 rfl
    have hz583 : w92.frozen? ⟨g42, 6, none⟩ = false := blk_fz (HS.out.at1) 6
    have hc584 : w92.cell? ⟨g42, 7, none⟩ = some (.int .i64 0) := blk_cellv (HS.out.at1) 7 rfl
    have hz585 : w92.frozen? ⟨g42, 7, none⟩ = false := blk_fz (HS.out.at1) 7
    go_wp2_with (first | ((with_reducible refine gate_store (t := 97) (p := 2) rfl ?_); refine store_event (w1 := (World.setCell (World.setCell (World.setCell (World.setCell (World.setCell (World.setCell (World.setCell (World.setCell w92 ⟨g42, 0, none⟩ (.int .i64 0)) ⟨g42, 1, none⟩ (.int .i64 0)) ⟨g42, 2, none⟩ (.int .i64 0)) ⟨g42, 3, none⟩ (.int .i64 0)) ⟨g42, 4, none⟩ (.int .i64 0)) ⟨g42, 5, none⟩ (.int .i64 0)) ⟨g42, 6, none⟩ (.int .i64 0)) ⟨g42, 7, none⟩ (.int .i64 0))) rfl (t := 97) (p := 2) rfl rfl ?hr ?_; (case hr => first | (go_simp; done) | (go_simp; rfl)); intro w586 hst; clear hc570 hz571 hc572 hz573 hc574 hz575 hc576 hz577 hc578 hz579 hc580 hz581 hc582 hz583 hc584 hz585; replace HS : Aside0 (Sep (fps []) w [b2 g39 a35 a36 a37 a38, b3 g42 0 0 0 0 0 0 0 0] w586) := ⟨by rw [hst]; exact HS.out.setAll (l1 := [b2 g39 a35 a36 a37 a38]) (l2 := []) [.int .i64 0, .int .i64 0, .int .i64 0, .int .i64 0, .int .i64 0, .int .i64 0, .int .i64 0, .int .i64 0] rfl⟩; clear hst; replace HS : Aside0 (Sep (fps []) w [b3 g42 0 0 0 0 0 0 0 0] w586) := ⟨HS.out.sub (.cons _ (.cons_cons _ .slnil))⟩))
    have hc587 : w586.cell? ⟨g42, 0, none⟩ = some (.int .i64 0) := blk_cellv (HS.out.at0) 0 rfl
    have hc588 : w586.cell? ⟨g42, 1, none⟩ = some (.int .i64 0) := blk_cellv (HS.out.at0) 1 rfl
    have hc589 : w586.cell? ⟨g42, 2, none⟩ = some (.int .i64 0) := blk_cellv (HS.out.at0) 2 rfl
    have hc590 : w586.cell? ⟨g42, 3, none⟩ = some (.int .i64 0) := blk_cellv (HS.out.at0) 3 rfl
    have hc591 : w586.cell? ⟨g42, 4, none⟩ = some (.int .i64 0) := blk_cellv (HS.out.at0) 4 rfl
    have hc592 : w586.cell? ⟨g42, 5, none⟩ = some (.int .i64 0) := blk_cellv (HS.out.at0) 5 rfl
    have hc593 : w586.cell? ⟨g42, 6, none⟩ = some (.int .i64 0) := blk_cellv (HS.out.at0) 6 rfl
    have hc594 : w586.cell? ⟨g42, 7, none⟩ = some (.int .i64 0) := blk_cellv (HS.out.at0) 7 rfl
    refine bodyPost_ret (v := .tuple #[.agg #[.int .i64 0, .int .i64 0, .int .i64 0, .int .i64 0, .int .i64 0, .int .i64 0, .int .i64 0, .int .i64 0], .int .i64 t90]) (by simp [results, Tryd.results65, go_sem, hc587, hc588, hc589, hc590, hc591, hc592, hc593, hc594]) rfl ?_
    rw [← some_eq H]
    exact ⟨(by first | rfl | (simp [IntKind.wrap_u32]; done)), HS.out.sub (.cons _ .slnil)⟩

set_option maxHeartbeats 30000000 in
set_option maxRecDepth 100000 in
theorem store_New.calls (a620 : Int) (r : Unit ⊕ (List Int)) (w : World)  (HGl0 : Aside0 (Gl 0 #[.int .i64 0, .int .i64 0, .int .i64 0, .int .i64 0, .int .i64 0] (fps []) w)) (HS : Aside0 (Sep (fps []) w [] w)) (H : Aside0 (store_New.f a620 = some r)) :
    Calls Tryd.prog 66 #[.int .i64 a620] w fun e w' => Sum.elim (fun (r : Unit) => e = .returned (.tuple #[.pointer none, .int .i64 2]) ∧ Sep (fps []) w [] w') (fun (r : List Int) => ∃ (g656 : Nat), e = .returned (.tuple #[.pointer (some ⟨g656, 0, none⟩), .int .i64 0]) ∧ ∃ (A657 : Option Addr) (m658 : Nat) (n659 : Nat), Sep (fps []) w [b7 g656 A657 m658 n659 0, r6 A657 m658 n659 r] w') r := by
  unfold store_New.f at H
  go_enter Tryd.func66, Tryd.ntmps66
  by_cases c634 : a620 < 0
  · replace H := if_yes c634 H
    have c634b0 : decide (a620 < 0) = true := decide_eq_true c634
    clear c634
    go_wp2_with fail
    go_ret2
    rw [← some_eq H]
    exact ⟨(by first | rfl | (simp [IntKind.wrap_u32]; done)), HS.out⟩
  · replace H := if_no c634 H
    have c634b0 : decide (a620 < 0) = false := decide_eq_false c634
    clear c634
    by_cases c635 : a620 > 8388608
    · replace H := if_yes c635 H
      have c635b0 : decide (8388608 < a620) = true := decide_eq_true c635
      clear c635
      go_wp2_with fail
      go_ret2
      rw [← some_eq H]
      exact ⟨(by first | rfl | (simp [IntKind.wrap_u32]; done)), HS.out⟩
    · replace H := if_no c635 H
      have c635b0 : decide (8388608 < a620) = false := decide_eq_false c635
      clear c635
      obtain ⟨m636, HA637, H⟩ := bind_some H
      obtain ⟨hm638, hn639⟩ := mkLen_eq HA637
      have hm638H := Aside0.mk hm638
      clear hm638
      go_wp2_with (first | ((with_reducible refine gate_dst (N := 11) rfl ?_); refine make_event rfl (N := 11) rfl 69 33 (.tmp 10) (.tmp 10) rfl .i64 (.int .u32 0) 4 Tryd.underlying69 (by kernel_rfl) rfl (by decide) (Value.int .u32) 0 rfl m636 (by show Value.int _ _ = _; rw [hm638H.out]) (by show Value.int _ _ = _; rw [hm638H.out]) (by omega) HS.out ?_; intro g640 w641 HS1; replace HS : Aside0 (Sep (fps []) w [r6 (some ⟨g640, 0, none⟩) m636 m636 (List.replicate m636 (0 : Int))] w641) := ⟨HS1⟩; clear HS1) | ((with_reducible refine gate_dst (N := 13) rfl ?_); refine box_on ?hg (N := 13) ?hd (cs := #[.slice (some ⟨g640, 0, none⟩) m636 m636, .int .u64 0]) (t := 154) ?hr ?_; (case hd => rfl); (case hg => rfl); (case hr => first | (go_simp; done) | (go_simp; rfl)); intro g644 hg w645 hbox hb; replace HS : Aside0 (Sep (fps []) w [r6 (some ⟨g640, 0, none⟩) m636 m636 (List.replicate m636 (0 : Int)), b7 g644 (some ⟨g640, 0, none⟩) m636 m636 0] w645) := ⟨HS.out.box hg hbox hb⟩; clear hg hbox hb))
      go_ret2
      rw [← some_eq H]
      exact ⟨g644, (by first | rfl | (simp [IntKind.wrap_u32]; done)), (some ⟨g640, 0, none⟩), m636, m636, ((HS.out).front 1 (by simp)).keep (l := [b7 g644 (some ⟨g640, 0, none⟩) m636 m636 0, r6 (some ⟨g640, 0, none⟩) m636 m636 (List.replicate m636 (0 : Int))]) (rest := [])⟩

set_option maxHeartbeats 30000000 in
set_option maxRecDepth 100000 in
theorem ground_New.calls (k : Nat) (a24 : Int) (a25 : Int) (a26 : Int) (a27 : Int) (r : Unit ⊕ ((Int × Int × Int × Int × List Int) ⊕ Int)) (w : World)  (HGl0 : Aside0 (Gl 0 #[.int .i64 0, .int .i64 0, .int .i64 0, .int .i64 0, .int .i64 0] (fps []) w)) (HS : Aside0 (Sep (fps []) w [] w)) (H : Aside0 (ground_New.f k a24 a25 a26 a27 = some r)) :
    Calls Tryd.prog 15 #[.agg #[.int .i64 a24, .int .i64 a25, .int .i64 a26, .int .i64 a27]] w fun e w' => Sum.elim (fun (r : Unit) => e = .returned (.tuple #[.pointer none, .int .i64 2]) ∧ Sep (fps []) w [] w') (fun (r_ : (Int × Int × Int × Int × List Int) ⊕ Int) => Sum.elim (fun (r : Int × Int × Int × Int × List Int) => ∃ (g806 : Nat), e = .returned (.tuple #[.pointer (some ⟨g806, 0, none⟩), .int .i64 0]) ∧ ∃ (g807 : Nat) (A808 : Option Addr) (m809 : Nat) (n810 : Nat), Sep (fps []) w [b8 g806 g807 r.1 r.2.1 r.2.2.1 r.2.2.2.1, b7 g807 A808 m809 n810 0, r6 A808 m809 n810 r.2.2.2.2] w') (fun (r : Int) => e = .returned (.tuple #[.pointer none, .int .i64 r]) ∧ Sep (fps []) w [] w') r_) r := by
  unfold ground_New.f at H
  go_enter Tryd.func15, Tryd.ntmps15
  go_wp2_with (first | ((with_reducible refine gate_dst (N := 1) rfl ?_); refine box_on ?hg (N := 1) ?hd (cs := #[.int .i64 a24, .int .i64 a25, .int .i64 a26, .int .i64 a27]) (t := 30) ?hr ?_; (case hd => rfl); (case hg => rfl); (case hr => first | (go_simp; done) | (go_simp; rfl)); intro g742 hg w743 hbox hb; replace HS : Aside0 (Sep (fps []) w [b2 g742 a24 a25 a26 a27] w743) := ⟨HS.out.box hg hbox hb⟩; clear hg hbox hb; have hc745 : w743.cell? ⟨g742, 0, none⟩ = some (.int .i64 a24) := blk_cellv (HS.out.at0) 0 rfl; have hc746 : w743.cell? ⟨g742, 1, none⟩ = some (.int .i64 a25) := blk_cellv (HS.out.at0) 1 rfl; have hc747 : w743.cell? ⟨g742, 2, none⟩ = some (.int .i64 a26) := blk_cellv (HS.out.at0) 2 rfl; have hc748 : w743.cell? ⟨g742, 3, none⟩ = some (.int .i64 a27) := blk_cellv (HS.out.at0) 3 rfl))
  clear hc745 hc746 hc747 hc748
  obtain ⟨t749, HA750, H⟩ := bind_some H
  refine (plan_Of.calls _ a24 a25 a26 a27 t749 _ ⟨HGl0.out.pass (l := []) HS.out⟩ ⟨Sep.start _⟩ HA750).mono ?_
  rintro e_ w751 ⟨rfl, hS⟩
  replace HS : Aside0 (Sep (fps []) w [b2 g742 a24 a25 a26 a27] w751) := ⟨HS.out.call hS⟩
  clear hS
  by_cases c772 : t749.2.2.2.2.2.2.2.2 = 0
  · replace H := if_yes c772 H
    have c772b0 : (t749.2.2.2.2.2.2.2.2 == 0) = true := beq_iff_eq.mpr c772
    have c772b1 : (t749.2.2.2.2.2.2.2.2 != 0) = false := bne_eq_false_iff_eq.mpr c772
    clear c772
    go_wp2_with (first | ((with_reducible refine gate_dst (N := 4) rfl ?_); refine box_on ?hg (N := 4) ?hd (cs := #[.int .i64 0, .int .i64 0, .int .i64 0, .int .i64 0, .int .i64 0, .int .i64 0, .int .i64 0, .int .i64 0]) (t := 97) ?hr ?_; (case hd => rfl); (case hg => rfl); (case hr => first | (go_simp; done) | (go_simp; rfl)); intro g752 hg w753 hbox hb; replace HS : Aside0 (Sep (fps []) w [b2 g742 a24 a25 a26 a27, b3 g752 0 0 0 0 0 0 0 0] w753) := ⟨HS.out.box hg hbox hb⟩; clear hg hbox hb; have hc755 : w753.cell? ⟨g752, 0, none⟩ = some (.int .i64 0) := blk_cellv (HS.out.at1) 0 rfl; have hz756 : w753.frozen? ⟨g752, 0, none⟩ = false := blk_fz (HS.out.at1) 0; have hc757 : w753.cell? ⟨g752, 1, none⟩ = some (.int .i64 0) := blk_cellv (HS.out.at1) 1 rfl; have hz758 : w753.frozen? ⟨g752, 1, none⟩ = false := blk_fz (HS.out.at1) 1; have hc759 : w753.cell? ⟨g752, 2, none⟩ = some (.int .i64 0) := blk_cellv (HS.out.at1) 2 rfl; have hz760 : w753.frozen? ⟨g752, 2, none⟩ = false := blk_fz (HS.out.at1) 2; have hc761 : w753.cell? ⟨g752, 3, none⟩ = some (.int .i64 0) := blk_cellv (HS.out.at1) 3 rfl; have hz762 : w753.frozen? ⟨g752, 3, none⟩ = false := blk_fz (HS.out.at1) 3; have hc763 : w753.cell? ⟨g752, 4, none⟩ = some (.int .i64 0) := blk_cellv (HS.out.at1) 4 rfl; have hz764 : w753.frozen? ⟨g752, 4, none⟩ = false := blk_fz (HS.out.at1) 4; have hc765 : w753.cell? ⟨g752, 5, none⟩ = some (.int .i64 0) := blk_cellv (HS.out.at1) 5 rfl; have hz766 : w753.frozen? ⟨g752, 5, none⟩ = false := blk_fz (HS.out.at1) 5; have hc767 : w753.cell? ⟨g752, 6, none⟩ = some (.int .i64 0) := blk_cellv (HS.out.at1) 6 rfl; have hz768 : w753.frozen? ⟨g752, 6, none⟩ = false := blk_fz (HS.out.at1) 6; have hc769 : w753.cell? ⟨g752, 7, none⟩ = some (.int .i64 0) := blk_cellv (HS.out.at1) 7 rfl; have hz770 : w753.frozen? ⟨g752, 7, none⟩ = false := blk_fz (HS.out.at1) 7) | ((with_reducible refine gate_store (t := 97) (p := 4) rfl ?_); refine store_event (w1 := (World.setCell (World.setCell (World.setCell (World.setCell (World.setCell (World.setCell (World.setCell (World.setCell w753 ⟨g752, 0, none⟩ (.int .i64 t749.1)) ⟨g752, 1, none⟩ (.int .i64 t749.2.1)) ⟨g752, 2, none⟩ (.int .i64 t749.2.2.1)) ⟨g752, 3, none⟩ (.int .i64 t749.2.2.2.1)) ⟨g752, 4, none⟩ (.int .i64 t749.2.2.2.2.1)) ⟨g752, 5, none⟩ (.int .i64 t749.2.2.2.2.2.1)) ⟨g752, 6, none⟩ (.int .i64 t749.2.2.2.2.2.2.1)) ⟨g752, 7, none⟩ (.int .i64 t749.2.2.2.2.2.2.2.1))) rfl (t := 97) (p := 4) rfl rfl ?hr ?_; (case hr => first | (go_simp; done) | (go_simp; rfl)); intro w771 hst; clear hc755 hz756 hc757 hz758 hc759 hz760 hc761 hz762 hc763 hz764 hc765 hz766 hc767 hz768 hc769 hz770; replace HS : Aside0 (Sep (fps []) w [b2 g742 a24 a25 a26 a27, b3 g752 t749.1 t749.2.1 t749.2.2.1 t749.2.2.2.1 t749.2.2.2.2.1 t749.2.2.2.2.2.1 t749.2.2.2.2.2.2.1 t749.2.2.2.2.2.2.2.1] w771) := ⟨by rw [hst]; exact HS.out.setAll (l1 := [b2 g742 a24 a25 a26 a27]) (l2 := []) [.int .i64 t749.1, .int .i64 t749.2.1, .int .i64 t749.2.2.1, .int .i64 t749.2.2.2.1, .int .i64 t749.2.2.2.2.1, .int .i64 t749.2.2.2.2.2.1, .int .i64 t749.2.2.2.2.2.2.1, .int .i64 t749.2.2.2.2.2.2.2.1] rfl⟩; clear hst; have hc773 : w771.cell? ⟨g752, 0, none⟩ = some (.int .i64 t749.1) := blk_cellv (HS.out.at1) 0 rfl))
    clear hc773
    obtain ⟨t774, HA775, H⟩ := bind_some H
    rcases t774 with t776 | t777
    · have H := sum_l H
      refine (store_New.calls t749.1 (.inl t776) _ ⟨HGl0.out.pass (l := []) HS.out⟩ ⟨Sep.start _⟩ HA775).mono ?_
      rintro e_ w778 ⟨rfl, hS⟩
      replace HS : Aside0 (Sep (fps []) w [b2 g742 a24 a25 a26 a27, b3 g752 t749.1 t749.2.1 t749.2.2.1 t749.2.2.2.1 t749.2.2.2.2.1 t749.2.2.2.2.2.1 t749.2.2.2.2.2.2.1 t749.2.2.2.2.2.2.2.1] w778) := ⟨HS.out.call hS⟩
      clear hS
      replace HS : Aside0 (Sep (fps []) w [b2 g742 a24 a25 a26 a27] w778) := ⟨HS.out.sub (.cons_cons _ (.cons _ .slnil))⟩
      replace HS : Aside0 (Sep (fps []) w [] w778) := ⟨HS.out.sub (.cons _ .slnil)⟩
      go_wp2_with fail
      go_ret2
      rw [← some_eq H]
      exact ⟨(by first | rfl | (simp [IntKind.wrap_u32]; done)), HS.out⟩
    · have H := sum_r H
      refine (store_New.calls t749.1 (.inr t777) _ ⟨HGl0.out.pass (l := []) HS.out⟩ ⟨Sep.start _⟩ HA775).mono ?_
      rintro e_ w779 ⟨g782, rfl, A783, m784, n785, hS⟩
      replace HS : Aside0 (Sep (fps []) w [b7 g782 A783 m784 n785 0, r6 A783 m784 n785 t777, b2 g742 a24 a25 a26 a27, b3 g752 t749.1 t749.2.1 t749.2.2.1 t749.2.2.2.1 t749.2.2.2.2.1 t749.2.2.2.2.2.1 t749.2.2.2.2.2.2.1 t749.2.2.2.2.2.2.2.1] w779) := ⟨HS.out.call hS⟩
      clear hS
      obtain rfl := (row_len (HS.out.at1)).symm
      replace HS : Aside0 (Sep (fps []) w [b7 g782 A783 t777.length n785 0, r6 A783 t777.length n785 t777, b2 g742 a24 a25 a26 a27] w779) := ⟨HS.out.sub (.cons_cons _ (.cons_cons _ (.cons_cons _ (.cons _ .slnil))))⟩
      have hc787 : w779.cell? ⟨g742, 0, none⟩ = some (.int .i64 a24) := blk_cellv (HS.out.at2) 0 rfl
      have hc788 : w779.cell? ⟨g742, 1, none⟩ = some (.int .i64 a25) := blk_cellv (HS.out.at2) 1 rfl
      have hc789 : w779.cell? ⟨g742, 2, none⟩ = some (.int .i64 a26) := blk_cellv (HS.out.at2) 2 rfl
      have hc790 : w779.cell? ⟨g742, 3, none⟩ = some (.int .i64 a27) := blk_cellv (HS.out.at2) 3 rfl
      go_wp2_with (first | ((with_reducible refine gate_dst (N := 28) rfl ?_); refine box_on ?hg (N := 28) ?hd (cs := #[.pointer (some ⟨g782, 0, none⟩), .int .i64 a24, .int .i64 a25, .int .i64 a26, .int .i64 a27]) (t := 106) ?hr ?_; (case hd => rfl); (case hg => rfl); (case hr => first | (go_simp; done) | (go_simp; rfl)); intro g791 hg w792 hbox hb; clear hc787 hc788 hc789 hc790; replace HS : Aside0 (Sep (fps []) w [b7 g782 A783 t777.length n785 0, r6 A783 t777.length n785 t777, b2 g742 a24 a25 a26 a27, b8 g791 g782 a24 a25 a26 a27] w792) := ⟨HS.out.box hg hbox hb⟩; clear hg hbox hb; replace HS : Aside0 (Sep (fps []) w [b7 g782 A783 t777.length n785 0, r6 A783 t777.length n785 t777, b8 g791 g782 a24 a25 a26 a27] w792) := ⟨HS.out.sub (.cons_cons _ (.cons_cons _ (.cons _ (.cons_cons _ .slnil))))⟩))
      go_ret2
      rw [← some_eq H]
      exact ⟨g791, (by first | rfl | (simp [IntKind.wrap_u32]; done)), g782, A783, t777.length, n785, ((((HS.out).front 1 (by simp)).front 1 (by simp)).front 2 (by simp)).keep (l := [b8 g791 g782 a24 a25 a26 a27, b7 g782 A783 t777.length n785 0, r6 A783 t777.length n785 t777]) (rest := [])⟩
  · replace H := if_no c772 H
    have c772b0 : (t749.2.2.2.2.2.2.2.2 == 0) = false := beq_eq_false_iff_ne.mpr c772
    have c772b1 : (t749.2.2.2.2.2.2.2.2 != 0) = true := bne_iff_ne.mpr c772
    clear c772
    go_wp2_with (first | ((with_reducible refine gate_dst (N := 4) rfl ?_); refine box_on ?hg (N := 4) ?hd (cs := #[.int .i64 0, .int .i64 0, .int .i64 0, .int .i64 0, .int .i64 0, .int .i64 0, .int .i64 0, .int .i64 0]) (t := 97) ?hr ?_; (case hd => rfl); (case hg => rfl); (case hr => first | (go_simp; done) | (go_simp; rfl)); intro g752 hg w753 hbox hb; replace HS : Aside0 (Sep (fps []) w [b2 g742 a24 a25 a26 a27, b3 g752 0 0 0 0 0 0 0 0] w753) := ⟨HS.out.box hg hbox hb⟩; clear hg hbox hb; have hc755 : w753.cell? ⟨g752, 0, none⟩ = some (.int .i64 0) := blk_cellv (HS.out.at1) 0 rfl; have hz756 : w753.frozen? ⟨g752, 0, none⟩ = false := blk_fz (HS.out.at1) 0; have hc757 : w753.cell? ⟨g752, 1, none⟩ = some (.int .i64 0) := blk_cellv (HS.out.at1) 1 rfl; have hz758 : w753.frozen? ⟨g752, 1, none⟩ = false := blk_fz (HS.out.at1) 1; have hc759 : w753.cell? ⟨g752, 2, none⟩ = some (.int .i64 0) := blk_cellv (HS.out.at1) 2 rfl; have hz760 : w753.frozen? ⟨g752, 2, none⟩ = false := blk_fz (HS.out.at1) 2; have hc761 : w753.cell? ⟨g752, 3, none⟩ = some (.int .i64 0) := blk_cellv (HS.out.at1) 3 rfl; have hz762 : w753.frozen? ⟨g752, 3, none⟩ = false := blk_fz (HS.out.at1) 3; have hc763 : w753.cell? ⟨g752, 4, none⟩ = some (.int .i64 0) := blk_cellv (HS.out.at1) 4 rfl; have hz764 : w753.frozen? ⟨g752, 4, none⟩ = false := blk_fz (HS.out.at1) 4; have hc765 : w753.cell? ⟨g752, 5, none⟩ = some (.int .i64 0) := blk_cellv (HS.out.at1) 5 rfl; have hz766 : w753.frozen? ⟨g752, 5, none⟩ = false := blk_fz (HS.out.at1) 5; have hc767 : w753.cell? ⟨g752, 6, none⟩ = some (.int .i64 0) := blk_cellv (HS.out.at1) 6 rfl; have hz768 : w753.frozen? ⟨g752, 6, none⟩ = false := blk_fz (HS.out.at1) 6; have hc769 : w753.cell? ⟨g752, 7, none⟩ = some (.int .i64 0) := blk_cellv (HS.out.at1) 7 rfl; have hz770 : w753.frozen? ⟨g752, 7, none⟩ = false := blk_fz (HS.out.at1) 7) | ((with_reducible refine gate_store (t := 97) (p := 4) rfl ?_); refine store_event (w1 := (World.setCell (World.setCell (World.setCell (World.setCell (World.setCell (World.setCell (World.setCell (World.setCell w753 ⟨g752, 0, none⟩ (.int .i64 t749.1)) ⟨g752, 1, none⟩ (.int .i64 t749.2.1)) ⟨g752, 2, none⟩ (.int .i64 t749.2.2.1)) ⟨g752, 3, none⟩ (.int .i64 t749.2.2.2.1)) ⟨g752, 4, none⟩ (.int .i64 t749.2.2.2.2.1)) ⟨g752, 5, none⟩ (.int .i64 t749.2.2.2.2.2.1)) ⟨g752, 6, none⟩ (.int .i64 t749.2.2.2.2.2.2.1)) ⟨g752, 7, none⟩ (.int .i64 t749.2.2.2.2.2.2.2.1))) rfl (t := 97) (p := 4) rfl rfl ?hr ?_; (case hr => first | (go_simp; done) | (go_simp; rfl)); intro w771 hst; clear hc755 hz756 hc757 hz758 hc759 hz760 hc761 hz762 hc763 hz764 hc765 hz766 hc767 hz768 hc769 hz770; replace HS : Aside0 (Sep (fps []) w [b2 g742 a24 a25 a26 a27, b3 g752 t749.1 t749.2.1 t749.2.2.1 t749.2.2.2.1 t749.2.2.2.2.1 t749.2.2.2.2.2.1 t749.2.2.2.2.2.2.1 t749.2.2.2.2.2.2.2.1] w771) := ⟨by rw [hst]; exact HS.out.setAll (l1 := [b2 g742 a24 a25 a26 a27]) (l2 := []) [.int .i64 t749.1, .int .i64 t749.2.1, .int .i64 t749.2.2.1, .int .i64 t749.2.2.2.1, .int .i64 t749.2.2.2.2.1, .int .i64 t749.2.2.2.2.2.1, .int .i64 t749.2.2.2.2.2.2.1, .int .i64 t749.2.2.2.2.2.2.2.1] rfl⟩; clear hst; replace HS : Aside0 (Sep (fps []) w [] w771) := ⟨HS.out.sub (.cons _ (.cons _ .slnil))⟩))
    go_ret2
    rw [← some_eq H]
    exact ⟨(by first | rfl | (simp [IntKind.wrap_u32]; done)), HS.out⟩

set_option maxHeartbeats 30000000 in
set_option maxRecDepth 100000 in
theorem chain_of.calls (l864 : List Int) (a869 : Int) (a870 : Int) (a871 : Int) (a872 : Int) (a873 : Int) (a874 : Int) (g860 : Nat) (g862 : Nat) (A865 : Option Addr) (m866 : Nat) (n867 : Nat) (r : Int × Int × Int × Bool) (w : World)  (HGl0 : Aside0 (Gl 0 #[.int .i64 0, .int .i64 0, .int .i64 0, .int .i64 0, .int .i64 0] (fps [b8 g860 g862 a870 a871 a872 a873, b7 g862 A865 m866 n867 a869, r6 A865 m866 n867 l864]) w)) (HS : Aside0 (Sep (fps [b8 g860 g862 a870 a871 a872 a873, b7 g862 A865 m866 n867 a869, r6 A865 m866 n867 l864]) w [b8 g860 g862 a870 a871 a872 a873, b7 g862 A865 m866 n867 a869, r6 A865 m866 n867 l864] w)) (H : Aside0 (chain_of.f l864 a869 a870 a871 a872 a873 a874 = some r)) :
    Calls Tryd.prog 139 #[.pointer (some ⟨g860, 0, none⟩), .int .i64 a874] w fun e w' => e = .returned (.tuple #[.agg #[.int .i64 r.1, .int .i64 r.2.1, .int .i64 r.2.2.1], .bool r.2.2.2]) ∧ Sep (fps [b8 g860 g862 a870 a871 a872 a873, b7 g862 A865 m866 n867 a869, r6 A865 m866 n867 l864]) w [b8 g860 g862 a870 a871 a872 a873, b7 g862 A865 m866 n867 a869, r6 A865 m866 n867 l864] w' := by
  generalize (fps [b8 g860 g862 a870 a871 a872 a873, b7 g862 A865 m866 n867 a869, r6 A865 m866 n867 l864]) = FF at HS HGl0 ⊢
  obtain rfl := (row_len (HS.out.at2)).symm
  unfold chain_of.f at H
  go_enter Tryd.func139, Tryd.ntmps139
  by_cases c878 : a874 < 0
  · replace H := if_yes c878 H
    have c878b0 : decide (a874 < 0) = true := decide_eq_true c878
    clear c878
    go_wp2_with (first | ((with_reducible refine gate_dst (N := 4) rfl ?_); refine box_on ?hg (N := 4) ?hd (cs := #[.int .i64 0, .int .i64 0, .int .i64 0]) (t := 166) ?hr ?_; (case hd => rfl); (case hg => rfl); (case hr => first | (go_simp; done) | (go_simp; rfl)); intro g875 hg w876 hbox hb; replace HS : Aside0 (Sep FF w [b8 g860 g862 a870 a871 a872 a873, b7 g862 A865 l864.length n867 a869, r6 A865 l864.length n867 l864, b9 g875 0 0 0] w876) := ⟨HS.out.box hg hbox hb⟩; clear hg hbox hb; have hc879 : w876.cell? ⟨g875, 0, none⟩ = some (.int .i64 0) := blk_cellv (HS.out.at3) 0 rfl; have hz880 : w876.frozen? ⟨g875, 0, none⟩ = false := blk_fz (HS.out.at3) 0; have hc881 : w876.cell? ⟨g875, 1, none⟩ = some (.int .i64 0) := blk_cellv (HS.out.at3) 1 rfl; have hz882 : w876.frozen? ⟨g875, 1, none⟩ = false := blk_fz (HS.out.at3) 1; have hc883 : w876.cell? ⟨g875, 2, none⟩ = some (.int .i64 0) := blk_cellv (HS.out.at3) 2 rfl; have hz884 : w876.frozen? ⟨g875, 2, none⟩ = false := blk_fz (HS.out.at3) 2) | ((with_reducible refine gate_store (t := 166) (p := 4) rfl ?_); refine store_event (w1 := (World.setCell (World.setCell (World.setCell w876 ⟨g875, 0, none⟩ (.int .i64 0)) ⟨g875, 1, none⟩ (.int .i64 0)) ⟨g875, 2, none⟩ (.int .i64 0))) rfl (t := 166) (p := 4) rfl rfl ?hr ?_; (case hr => first | (go_simp; done) | (go_simp; rfl)); intro w885 hst; clear hc879 hz880 hc881 hz882 hc883 hz884; replace HS : Aside0 (Sep FF w [b8 g860 g862 a870 a871 a872 a873, b7 g862 A865 l864.length n867 a869, r6 A865 l864.length n867 l864, b9 g875 0 0 0] w885) := ⟨by rw [hst]; exact HS.out.setAll (l1 := [b8 g860 g862 a870 a871 a872 a873, b7 g862 A865 l864.length n867 a869, r6 A865 l864.length n867 l864]) (l2 := []) [.int .i64 0, .int .i64 0, .int .i64 0] rfl⟩; clear hst))
    have hc886 : w885.cell? ⟨g875, 0, none⟩ = some (.int .i64 0) := blk_cellv (HS.out.at3) 0 rfl
    have hc887 : w885.cell? ⟨g875, 1, none⟩ = some (.int .i64 0) := blk_cellv (HS.out.at3) 1 rfl
    have hc888 : w885.cell? ⟨g875, 2, none⟩ = some (.int .i64 0) := blk_cellv (HS.out.at3) 2 rfl
    refine bodyPost_ret (v := .tuple #[.agg #[.int .i64 0, .int .i64 0, .int .i64 0], .bool false]) (by simp [results, Tryd.results139, go_sem, hc886, hc887, hc888]) rfl ?_
    rw [← some_eq H]
    exact ⟨(by first | rfl | (simp [IntKind.wrap_u32]; done)), HS.out.sub (.cons_cons _ (.cons_cons _ (.cons_cons _ (.cons _ .slnil))))⟩
  · replace H := if_no c878 H
    have c878b0 : decide (a874 < 0) = false := decide_eq_false c878
    clear c878
    by_cases c889 : a874 > 1
    · replace H := if_yes c889 H
      have c889b0 : decide (1 < a874) = true := decide_eq_true c889
      clear c889
      go_wp2_with (first | ((with_reducible refine gate_dst (N := 4) rfl ?_); refine box_on ?hg (N := 4) ?hd (cs := #[.int .i64 0, .int .i64 0, .int .i64 0]) (t := 166) ?hr ?_; (case hd => rfl); (case hg => rfl); (case hr => first | (go_simp; done) | (go_simp; rfl)); intro g875 hg w876 hbox hb; replace HS : Aside0 (Sep FF w [b8 g860 g862 a870 a871 a872 a873, b7 g862 A865 l864.length n867 a869, r6 A865 l864.length n867 l864, b9 g875 0 0 0] w876) := ⟨HS.out.box hg hbox hb⟩; clear hg hbox hb; have hc890 : w876.cell? ⟨g875, 0, none⟩ = some (.int .i64 0) := blk_cellv (HS.out.at3) 0 rfl; have hz891 : w876.frozen? ⟨g875, 0, none⟩ = false := blk_fz (HS.out.at3) 0; have hc892 : w876.cell? ⟨g875, 1, none⟩ = some (.int .i64 0) := blk_cellv (HS.out.at3) 1 rfl; have hz893 : w876.frozen? ⟨g875, 1, none⟩ = false := blk_fz (HS.out.at3) 1; have hc894 : w876.cell? ⟨g875, 2, none⟩ = some (.int .i64 0) := blk_cellv (HS.out.at3) 2 rfl; have hz895 : w876.frozen? ⟨g875, 2, none⟩ = false := blk_fz (HS.out.at3) 2) | ((with_reducible refine gate_store (t := 166) (p := 4) rfl ?_); refine store_event (w1 := (World.setCell (World.setCell (World.setCell w876 ⟨g875, 0, none⟩ (.int .i64 0)) ⟨g875, 1, none⟩ (.int .i64 0)) ⟨g875, 2, none⟩ (.int .i64 0))) rfl (t := 166) (p := 4) rfl rfl ?hr ?_; (case hr => first | (go_simp; done) | (go_simp; rfl)); intro w896 hst; clear hc890 hz891 hc892 hz893 hc894 hz895; replace HS : Aside0 (Sep FF w [b8 g860 g862 a870 a871 a872 a873, b7 g862 A865 l864.length n867 a869, r6 A865 l864.length n867 l864, b9 g875 0 0 0] w896) := ⟨by rw [hst]; exact HS.out.setAll (l1 := [b8 g860 g862 a870 a871 a872 a873, b7 g862 A865 l864.length n867 a869, r6 A865 l864.length n867 l864]) (l2 := []) [.int .i64 0, .int .i64 0, .int .i64 0] rfl⟩; clear hst))
      have hc897 : w896.cell? ⟨g875, 0, none⟩ = some (.int .i64 0) := blk_cellv (HS.out.at3) 0 rfl
      have hc898 : w896.cell? ⟨g875, 1, none⟩ = some (.int .i64 0) := blk_cellv (HS.out.at3) 1 rfl
      have hc899 : w896.cell? ⟨g875, 2, none⟩ = some (.int .i64 0) := blk_cellv (HS.out.at3) 2 rfl
      refine bodyPost_ret (v := .tuple #[.agg #[.int .i64 0, .int .i64 0, .int .i64 0], .bool false]) (by simp [results, Tryd.results139, go_sem, hc897, hc898, hc899]) rfl ?_
      rw [← some_eq H]
      exact ⟨(by first | rfl | (simp [IntKind.wrap_u32]; done)), HS.out.sub (.cons_cons _ (.cons_cons _ (.cons_cons _ (.cons _ .slnil))))⟩
    · replace H := if_no c889 H
      have c889b0 : decide (1 < a874) = false := decide_eq_false c889
      clear c889
      go_wp2_with (first | ((with_reducible refine gate_dst (N := 4) rfl ?_); refine box_on ?hg (N := 4) ?hd (cs := #[.int .i64 0, .int .i64 0, .int .i64 0]) (t := 166) ?hr ?_; (case hd => rfl); (case hg => rfl); (case hr => first | (go_simp; done) | (go_simp; rfl)); intro g875 hg w876 hbox hb; replace HS : Aside0 (Sep FF w [b8 g860 g862 a870 a871 a872 a873, b7 g862 A865 l864.length n867 a869, r6 A865 l864.length n867 l864, b9 g875 0 0 0] w876) := ⟨HS.out.box hg hbox hb⟩; clear hg hbox hb; have hc900 : w876.cell? ⟨g875, 0, none⟩ = some (.int .i64 0) := blk_cellv (HS.out.at3) 0 rfl; have hz901 : w876.frozen? ⟨g875, 0, none⟩ = false := blk_fz (HS.out.at3) 0; have hc902 : w876.cell? ⟨g875, 1, none⟩ = some (.int .i64 0) := blk_cellv (HS.out.at3) 1 rfl; have hz903 : w876.frozen? ⟨g875, 1, none⟩ = false := blk_fz (HS.out.at3) 1; have hc904 : w876.cell? ⟨g875, 2, none⟩ = some (.int .i64 0) := blk_cellv (HS.out.at3) 2 rfl; have hz905 : w876.frozen? ⟨g875, 2, none⟩ = false := blk_fz (HS.out.at3) 2) | ((with_reducible refine gate_store (t := 166) (p := 4) rfl ?_); refine store_event (w1 := (World.setCell (World.setCell (World.setCell w876 ⟨g875, 0, none⟩ (.int .i64 (wrap64 (3 * a874)))) ⟨g875, 1, none⟩ (.int .i64 (wrap64 ((wrap64 (3 * a874)) + 1)))) ⟨g875, 2, none⟩ (.int .i64 (wrap64 ((wrap64 (3 * a874)) + 2))))) rfl (t := 166) (p := 4) rfl rfl ?hr ?_; (case hr => first | (go_simp; done) | (go_simp; rfl)); intro w906 hst; clear hc900 hz901 hc902 hz903 hc904 hz905; replace HS : Aside0 (Sep FF w [b8 g860 g862 a870 a871 a872 a873, b7 g862 A865 l864.length n867 a869, r6 A865 l864.length n867 l864, b9 g875 (wrap64 (3 * a874)) (wrap64 ((wrap64 (3 * a874)) + 1)) (wrap64 ((wrap64 (3 * a874)) + 2))] w906) := ⟨by rw [hst]; exact HS.out.setAll (l1 := [b8 g860 g862 a870 a871 a872 a873, b7 g862 A865 l864.length n867 a869, r6 A865 l864.length n867 l864]) (l2 := []) [.int .i64 (wrap64 (3 * a874)), .int .i64 (wrap64 ((wrap64 (3 * a874)) + 1)), .int .i64 (wrap64 ((wrap64 (3 * a874)) + 2))] rfl⟩; clear hst))
      have hc907 : w906.cell? ⟨g875, 0, none⟩ = some (.int .i64 (wrap64 (3 * a874))) := blk_cellv (HS.out.at3) 0 rfl
      have hc908 : w906.cell? ⟨g875, 1, none⟩ = some (.int .i64 (wrap64 ((wrap64 (3 * a874)) + 1))) := blk_cellv (HS.out.at3) 1 rfl
      have hc909 : w906.cell? ⟨g875, 2, none⟩ = some (.int .i64 (wrap64 ((wrap64 (3 * a874)) + 2))) := blk_cellv (HS.out.at3) 2 rfl
      refine bodyPost_ret (v := .tuple #[.agg #[.int .i64 (wrap64 (3 * a874)), .int .i64 (wrap64 ((wrap64 (3 * a874)) + 1)), .int .i64 (wrap64 ((wrap64 (3 * a874)) + 2))], .bool true]) (by simp [results, Tryd.results139, go_sem, hc907, hc908, hc909]) rfl ?_
      rw [← some_eq H]
      exact ⟨(by first | rfl | (simp [IntKind.wrap_u32]; done)), HS.out.sub (.cons_cons _ (.cons_cons _ (.cons_cons _ (.cons _ .slnil))))⟩

set_option maxHeartbeats 30000000 in
set_option maxRecDepth 100000 in
theorem ground_Ground_all.calls (l946 : List Int) (a951 : Int) (a952 : Int) (a953 : Int) (a954 : Int) (a955 : Int) (g942 : Nat) (g944 : Nat) (A947 : Option Addr) (m948 : Nat) (n949 : Nat) (r : Unit) (w : World)  (HGl0 : Aside0 (Gl 0 #[.int .i64 0, .int .i64 0, .int .i64 0, .int .i64 0, .int .i64 0] (fps [b8 g942 g944 a952 a953 a954 a955, b7 g944 A947 m948 n949 a951, r6 A947 m948 n949 l946]) w)) (HS : Aside0 (Sep (fps [b8 g942 g944 a952 a953 a954 a955, b7 g944 A947 m948 n949 a951, r6 A947 m948 n949 l946]) w [b8 g942 g944 a952 a953 a954 a955, b7 g944 A947 m948 n949 a951, r6 A947 m948 n949 l946] w)) (H : Aside0 (ground_Ground_all.f l946 a951 a952 a953 a954 a955 = some r)) :
    Calls Tryd.prog 70 #[.pointer (some ⟨g942, 0, none⟩)] w fun e w' => e = .returned (.pointer (some ⟨g944, 0, none⟩)) ∧ Sep (fps [b8 g942 g944 a952 a953 a954 a955, b7 g944 A947 m948 n949 a951, r6 A947 m948 n949 l946]) w [b8 g942 g944 a952 a953 a954 a955, b7 g944 A947 m948 n949 a951, r6 A947 m948 n949 l946] w' := by
  generalize (fps [b8 g942 g944 a952 a953 a954 a955, b7 g944 A947 m948 n949 a951, r6 A947 m948 n949 l946]) = FF at HS HGl0 ⊢
  obtain rfl := (row_len (HS.out.at2)).symm
  unfold ground_Ground_all.f at H
  go_enter Tryd.func70, Tryd.ntmps70
  have hc956 : w.cell? ⟨g942, 0, none⟩ = some (.pointer (some ⟨g944, 0, none⟩)) := blk_cellv (HS.out.at0) 0 rfl
  go_wp2_with fail
  clear hc956
  go_ret
  clear H
  exact ⟨(by first | rfl | (simp [IntKind.wrap_u32]; done)), HS.out⟩

set_option maxHeartbeats 30000000 in
set_option maxRecDepth 100000 in
theorem ground_within.calls (a961 : Int) (a962 : Int) (a963 : Int) (r : Int) (w : World)  (HGl0 : Aside0 (Gl 0 #[.int .i64 0, .int .i64 0, .int .i64 0, .int .i64 0, .int .i64 0] (fps []) w)) (HS : Aside0 (Sep (fps []) w [] w)) (H : Aside0 (ground_within.f a961 a962 a963 = some r)) :
    Calls Tryd.prog 129 #[.int .i64 a961, .int .i64 a962, .int .i64 a963] w fun e w' => e = .returned (.int .i64 r) ∧ Sep (fps []) w [] w' := by
  unfold ground_within.f at H
  go_enter Tryd.func129, Tryd.ntmps129
  by_cases c964 : a961 < 0
  · replace H := if_yes c964 H
    have c964b0 : decide (a961 < 0) = true := decide_eq_true c964
    clear c964
    go_wp2_with fail
    go_ret
    rw [← some_eq H]
    exact ⟨(by first | rfl | (simp [IntKind.wrap_u32]; done)), HS.out⟩
  · replace H := if_no c964 H
    have c964b0 : decide (a961 < 0) = false := decide_eq_false c964
    clear c964
    by_cases c965 : a961 ≥ a962
    · replace H := if_yes c965 H
      have c965b0 : decide (a962 ≤ a961) = true := decide_eq_true c965
      clear c965
      go_wp2_with fail
      go_ret
      rw [← some_eq H]
      exact ⟨(by first | rfl | (simp [IntKind.wrap_u32]; done)), HS.out⟩
    · replace H := if_no c965 H
      have c965b0 : decide (a962 ≤ a961) = false := decide_eq_false c965
      clear c965
      go_wp2_with fail
      go_ret
      rw [← some_eq H]
      exact ⟨(by first | rfl | (simp [IntKind.wrap_u32]; done)), HS.out⟩

set_option maxHeartbeats 30000000 in
set_option maxRecDepth 100000 in
theorem ground_reg.calls (a960 : Int) (r : Int) (w : World)  (HGl0 : Aside0 (Gl 0 #[.int .i64 0, .int .i64 0, .int .i64 0, .int .i64 0, .int .i64 0] (fps []) w)) (HS : Aside0 (Sep (fps []) w [] w)) (H : Aside0 (ground_reg.f a960 = some r)) :
    Calls Tryd.prog 131 #[.int .i64 a960] w fun e w' => e = .returned (.int .i64 r) ∧ Sep (fps []) w [] w' := by
  unfold ground_reg.f at H
  go_enter Tryd.func131, Tryd.ntmps131
  go_wp2_with fail
  obtain ⟨t966, HA967, H⟩ := bind_some H
  refine (ground_within.calls a960 24 0 t966 _ ⟨HGl0.out.pass (l := []) HS.out⟩ ⟨Sep.start _⟩ HA967).mono ?_
  rintro e_ w968 ⟨rfl, hS⟩
  replace HS : Aside0 (Sep (fps []) w [] w968) := ⟨HS.out.call hS⟩
  clear hS
  go_wp2_with fail
  go_ret
  rw [← some_eq H]
  exact ⟨(by first | rfl | (simp [IntKind.wrap_u32]; done)), HS.out⟩

set_option maxHeartbeats 30000000 in
set_option maxRecDepth 100000 in
theorem store_Store_has.calls (l985 : List Int) (a990 : Int) (a991 : Int) (g983 : Nat) (A986 : Option Addr) (m987 : Nat) (n988 : Nat) (r : Bool) (w : World)  (HGl0 : Aside0 (Gl 0 #[.int .i64 0, .int .i64 0, .int .i64 0, .int .i64 0, .int .i64 0] (fps [b7 g983 A986 m987 n988 a990, r6 A986 m987 n988 l985]) w)) (HS : Aside0 (Sep (fps [b7 g983 A986 m987 n988 a990, r6 A986 m987 n988 l985]) w [b7 g983 A986 m987 n988 a990, r6 A986 m987 n988 l985] w)) (H : Aside0 (store_Store_has.f l985 a990 a991 = some r)) :
    Calls Tryd.prog 127 #[.pointer (some ⟨g983, 0, none⟩), .int .i64 a991] w fun e w' => e = .returned (.bool r) ∧ Sep (fps [b7 g983 A986 m987 n988 a990, r6 A986 m987 n988 l985]) w [b7 g983 A986 m987 n988 a990, r6 A986 m987 n988 l985] w' := by
  generalize (fps [b7 g983 A986 m987 n988 a990, r6 A986 m987 n988 l985]) = FF at HS HGl0 ⊢
  obtain rfl := (row_len (HS.out.at1)).symm
  unfold store_Store_has.f at H
  go_enter Tryd.func127, Tryd.ntmps127
  by_cases c992 : a991 ≥ 0
  · replace H := if_yes c992 H
    have c992b0 : decide (0 ≤ a991) = true := decide_eq_true c992
    clear c992
    have hc993 : w.cell? ⟨g983, 0, none⟩ = some (.slice A986 l985.length n988) := blk_cellv (HS.out.at0) 0 rfl
    go_wp2_with fail
    clear hc993
    go_ret
    rw [← some_eq H]
    exact ⟨(by first | rfl | (simp [IntKind.wrap_u32]; done)), HS.out⟩
  · replace H := if_no c992 H
    have c992b0 : decide (0 ≤ a991) = false := decide_eq_false c992
    clear c992
    go_wp2_with fail
    go_ret
    rw [← some_eq H]
    exact ⟨(by first | rfl | (simp [IntKind.wrap_u32]; done)), HS.out⟩

set_option maxHeartbeats 30000000 in
set_option maxRecDepth 100000 in
theorem atomic_Uint64_Add.calls (l1001 : List Int) (a1006 : Int) (a1007 : Int) (g999 : Nat) (A1002 : Option Addr) (m1003 : Nat) (n1004 : Nat) (r : Int × Int) (w : World)  (HGl0 : Aside0 (Gl 0 #[.int .i64 0, .int .i64 0, .int .i64 0, .int .i64 0, .int .i64 0] (fps [b7 g999 A1002 m1003 n1004 a1006, r6 A1002 m1003 n1004 l1001]) w)) (HS : Aside0 (Sep (fps [b7 g999 A1002 m1003 n1004 a1006, r6 A1002 m1003 n1004 l1001]) w [b7 g999 A1002 m1003 n1004 a1006, r6 A1002 m1003 n1004 l1001] w)) (H : Aside0 (atomic_Uint64_Add.f l1001 a1006 a1007 = some r)) :
    Calls Tryd.prog 128 #[.pointer (some ⟨g999, 1, none⟩), .int .u64 a1007] w fun e w' => e = .returned (.int .u64 r.1) ∧ Sep (fps [b7 g999 A1002 m1003 n1004 a1006, r6 A1002 m1003 n1004 l1001]) w [b7 g999 A1002 m1003 n1004 r.2, r6 A1002 m1003 n1004 l1001] w' := by
  generalize (fps [b7 g999 A1002 m1003 n1004 a1006, r6 A1002 m1003 n1004 l1001]) = FF at HS HGl0 ⊢
  obtain rfl := (row_len (HS.out.at1)).symm
  unfold atomic_Uint64_Add.f at H
  go_enter Tryd.func128, Tryd.ntmps128
  obtain ⟨y1017, HA1018, H⟩ := bind_some H
  have hc1014 : w.cell? ⟨g999, 1, none⟩ = some (.int .u64 a1006) := blk_cellv (HS.out.at0) 1 rfl
  have hz1016 : w.frozen? ⟨g999, 1, none⟩ = false := blk_fz (HS.out.at0) 1
  have hn1015 : (callFunc 153 #[.pointer (some ⟨g999, 1, none⟩), .int .u64 a1007]).run Tryd.prog w = .ok (.value (.int .u64 y1017)) ((World.setCell w ⟨g999, 1, none⟩ (.int .u64 y1017))) := (some_eq HA1018) ▸ run_call_add Tryd.func153 (by kernel_rfl) (by kernel_rfl) (by kernel_rfl) .u64 (by kernel_rfl) hc1014 hz1016 (by rfl)
  go_wp2_with (first | ((with_reducible refine gate_dst (N := 9) rfl ?_); refine run_on2 (by rfl) (w1 := (World.setCell w ⟨g999, 1, none⟩ (.int .u64 y1017))) (v := .int .u64 y1017) ?hr ?_; (case hr => first | (go_simp; done) | (go_simp; rfl)); intro w1019 hst; clear hc1014 hz1016; have hq0 : Sep FF w [b7 g999 A1002 l1001.length n1004 y1017, r6 A1002 l1001.length n1004 l1001] (World.setCell w ⟨g999, 1, none⟩ (.int .u64 y1017)) := (HS.out).set1 (l1 := []) (l2 := [r6 A1002 l1001.length n1004 l1001]) 1 (.int .u64 y1017); replace HS : Aside0 (Sep FF w [b7 g999 A1002 l1001.length n1004 y1017, r6 A1002 l1001.length n1004 l1001] w1019) := ⟨by rw [hst]; exact hq0⟩; clear hst hn1015 hq0))
  go_ret
  rw [← some_eq H]
  exact ⟨(by first | rfl | (simp [IntKind.wrap_u32]; done)), HS.out⟩

set_option maxHeartbeats 30000000 in
set_option maxRecDepth 100000 in
theorem store_Store_Get.calls (l975 : List Int) (a980 : Int) (a981 : Int) (g973 : Nat) (A976 : Option Addr) (m977 : Nat) (n978 : Nat) (r : Int × Int) (w : World)  (HGl0 : Aside0 (Gl 0 #[.int .i64 0, .int .i64 0, .int .i64 0, .int .i64 0, .int .i64 0] (fps [b7 g973 A976 m977 n978 a980, r6 A976 m977 n978 l975]) w)) (HS : Aside0 (Sep (fps [b7 g973 A976 m977 n978 a980, r6 A976 m977 n978 l975]) w [b7 g973 A976 m977 n978 a980, r6 A976 m977 n978 l975] w)) (H : Aside0 (store_Store_Get.f l975 a980 a981 = some r)) :
    Calls Tryd.prog 130 #[.pointer (some ⟨g973, 0, none⟩), .int .i64 a981] w fun e w' => e = .returned (.int .u32 r.1) ∧ Sep (fps [b7 g973 A976 m977 n978 a980, r6 A976 m977 n978 l975]) w [b7 g973 A976 m977 n978 r.2, r6 A976 m977 n978 l975] w' := by
  generalize (fps [b7 g973 A976 m977 n978 a980, r6 A976 m977 n978 l975]) = FF at HS HGl0 ⊢
  obtain rfl := (row_len (HS.out.at1)).symm
  unfold store_Store_Get.f at H
  go_enter Tryd.func130, Tryd.ntmps130
  go_wp2_with fail
  obtain ⟨t1029, HA1030, H⟩ := bind_some H
  refine (store_Store_has.calls l975 a980 a981 g973 A976 l975.length n978 t1029 _ ⟨HGl0.out.pass HS.out⟩ ⟨HS.out.begin⟩ HA1030).mono ?_
  rintro e_ w1031 ⟨rfl, hS⟩
  replace HS : Aside0 (Sep FF w [b7 g973 A976 l975.length n978 a980, r6 A976 l975.length n978 l975] w1031) := ⟨HS.out.call hS⟩
  clear hS
  by_cases c1032 : t1029 = true
  · replace H := if_yes c1032 H
    have c1032b0 : t1029 = true := c1032
    have c1032b1 : (!t1029) = false := by rw [c1032b0]; rfl
    try rw [c1032b1]
    clear c1032
    go_wp2_with fail
    obtain ⟨t1033, HA1034, H⟩ := bind_some H
    refine (atomic_Uint64_Add.calls l975 a980 1 g973 A976 l975.length n978 t1033 _ ⟨HGl0.out.pass HS.out⟩ ⟨HS.out.begin⟩ HA1034).mono ?_
    rintro e_ w1035 ⟨rfl, hS⟩
    replace HS : Aside0 (Sep FF w [b7 g973 A976 l975.length n978 t1033.2, r6 A976 l975.length n978 l975] w1035) := ⟨HS.out.call hS⟩
    clear hS
    by_cases c1037 : 0 ≤ a981
    · replace H := if_yes c1037 H
      have c1037b0 : decide (0 ≤ a981) = true := decide_eq_true c1037
      have c1037p : (0 ≤ a981) = True := eq_true c1037
      clear c1037
      by_cases c1038 : a981 < (l975.length : Int)
      · replace H := if_yes c1038 H
        have c1038b0 : decide (a981 < (l975.length : Int)) = true := decide_eq_true c1038
        have c1038p : (a981 < (l975.length : Int)) = True := eq_true c1038
        clear c1038
        have hc1036 : w1035.cell? ⟨g973, 0, none⟩ = some (.slice A976 l975.length n978) := blk_cellv (HS.out.at0) 0 rfl
        obtain ⟨g1039, ea⟩ := row_at (HS.out.at1) (by have := (of_decide_eq_true c1037b0); have := (of_decide_eq_true c1038b0); omega); cases ea
        have hx1040 := C_at_int (row_Ci (HS.out.at1)) a981 (of_decide_eq_true c1037b0) (of_decide_eq_true c1038b0)
        have hx1041 : w1035.cell? ⟨g1039, (a981).toNat, none⟩ = some (.int .u32 (rd l975 a981)) := (row_get 0 (HS.out.at1) a981 (of_decide_eq_true c1037b0) (of_decide_eq_true c1038b0)).1
        go_wp2_with fail
        clear hc1036 hx1040 hx1041
        go_ret
        rw [← some_eq H]
        exact ⟨(by first | rfl | (simp [IntKind.wrap_u32]; done)), HS.out⟩
      · replace H := if_no c1038 H
        have c1038b0 : decide (a981 < (l975.length : Int)) = false := decide_eq_false c1038
        clear c1038
        exact (none_no H).elim
    · replace H := if_no c1037 H
      have c1037b0 : decide (0 ≤ a981) = false := decide_eq_false c1037
      clear c1037
      exact (none_no H).elim
  · replace H := if_no c1032 H
    have c1032b0 : t1029 = false := by simpa using c1032
    have c1032b1 : (!t1029) = true := by rw [c1032b0]; rfl
    try rw [c1032b1]
    clear c1032
    go_wp2_with fail
    go_ret
    rw [← some_eq H]
    exact ⟨(by first | rfl | (simp [IntKind.wrap_u32]; done)), HS.out⟩

set_option maxHeartbeats 30000000 in
set_option maxRecDepth 100000 in
theorem ground_Ground_Reg.calls (l930 : List Int) (a935 : Int) (a936 : Int) (a937 : Int) (a938 : Int) (a939 : Int) (a940 : Int) (g926 : Nat) (g928 : Nat) (A931 : Option Addr) (m932 : Nat) (n933 : Nat) (r : Int × Int) (w : World)  (HGl0 : Aside0 (Gl 0 #[.int .i64 0, .int .i64 0, .int .i64 0, .int .i64 0, .int .i64 0] (fps [b8 g926 g928 a936 a937 a938 a939, b7 g928 A931 m932 n933 a935, r6 A931 m932 n933 l930]) w)) (HS : Aside0 (Sep (fps [b8 g926 g928 a936 a937 a938 a939, b7 g928 A931 m932 n933 a935, r6 A931 m932 n933 l930]) w [b8 g926 g928 a936 a937 a938 a939, b7 g928 A931 m932 n933 a935, r6 A931 m932 n933 l930] w)) (H : Aside0 (ground_Ground_Reg.f l930 a935 a936 a937 a938 a939 a940 = some r)) :
    Calls Tryd.prog 81 #[.pointer (some ⟨g926, 0, none⟩), .int .i64 a940] w fun e w' => e = .returned (.int .i64 r.1) ∧ Sep (fps [b8 g926 g928 a936 a937 a938 a939, b7 g928 A931 m932 n933 a935, r6 A931 m932 n933 l930]) w [b8 g926 g928 a936 a937 a938 a939, b7 g928 A931 m932 n933 r.2, r6 A931 m932 n933 l930] w' := by
  generalize (fps [b8 g926 g928 a936 a937 a938 a939, b7 g928 A931 m932 n933 a935, r6 A931 m932 n933 l930]) = FF at HS HGl0 ⊢
  obtain rfl := (row_len (HS.out.at2)).symm
  unfold ground_Ground_Reg.f at H
  go_enter Tryd.func81, Tryd.ntmps81
  go_wp2_with fail
  obtain ⟨t1045, HA1046, H⟩ := bind_some H
  refine (ground_Ground_all.calls l930 a935 a936 a937 a938 a939 g926 g928 A931 l930.length n933 t1045 _ ⟨HGl0.out.pass HS.out⟩ ⟨HS.out.begin⟩ HA1046).mono ?_
  rintro e_ w1047 ⟨rfl, hS⟩
  replace HS : Aside0 (Sep FF w [b8 g926 g928 a936 a937 a938 a939, b7 g928 A931 l930.length n933 a935, r6 A931 l930.length n933 l930] w1047) := ⟨HS.out.call hS⟩
  clear hS
  go_wp2_with fail
  obtain ⟨t1048, HA1049, H⟩ := bind_some H
  refine (ground_reg.calls a940 t1048 _ ⟨HGl0.out.pass (l := []) HS.out⟩ ⟨Sep.start _⟩ HA1049).mono ?_
  rintro e_ w1050 ⟨rfl, hS⟩
  replace HS : Aside0 (Sep FF w [b8 g926 g928 a936 a937 a938 a939, b7 g928 A931 l930.length n933 a935, r6 A931 l930.length n933 l930] w1050) := ⟨HS.out.call hS⟩
  clear hS
  go_wp2_with fail
  replace HS : Aside0 (Sep FF w [r6 A931 l930.length n933 l930, b8 g926 g928 a936 a937 a938 a939, b7 g928 A931 l930.length n933 a935] w1050) := ⟨HS.out.front 2 (by simp)⟩
  replace HS : Aside0 (Sep FF w [b7 g928 A931 l930.length n933 a935, r6 A931 l930.length n933 l930, b8 g926 g928 a936 a937 a938 a939] w1050) := ⟨HS.out.front 2 (by simp)⟩
  obtain ⟨t1051, HA1052, H⟩ := bind_some H
  refine (store_Store_Get.calls l930 a935 t1048 g928 A931 l930.length n933 t1051 _ ⟨HGl0.out.pass HS.out⟩ ⟨HS.out.begin⟩ HA1052).mono ?_
  rintro e_ w1053 ⟨rfl, hS⟩
  replace HS : Aside0 (Sep FF w [b7 g928 A931 l930.length n933 t1051.2, r6 A931 l930.length n933 l930, b8 g926 g928 a936 a937 a938 a939] w1053) := ⟨HS.out.call hS⟩
  clear hS
  go_wp2_with fail
  go_ret
  rw [← some_eq H]
  exact ⟨(by first | rfl | (simp [IntKind.wrap_u32]; done)), ((((HS.out).front 1 (by simp)).front 1 (by simp)).front 2 (by simp)).keep (l := [b8 g926 g928 a936 a937 a938 a939, b7 g928 A931 l930.length n933 t1051.2, r6 A931 l930.length n933 l930]) (rest := [])⟩

set_option maxHeartbeats 30000000 in
set_option maxRecDepth 100000 in
theorem chain_Len.calls (l848 : List Int) (a853 : Int) (a854 : Int) (a855 : Int) (a856 : Int) (a857 : Int) (a858 : Int) (g844 : Nat) (g846 : Nat) (A849 : Option Addr) (m850 : Nat) (n851 : Nat) (r : Int × Int) (w : World)  (HGl0 : Aside0 (Gl 0 #[.int .i64 0, .int .i64 0, .int .i64 0, .int .i64 0, .int .i64 0] (fps [b8 g844 g846 a854 a855 a856 a857, b7 g846 A849 m850 n851 a853, r6 A849 m850 n851 l848]) w)) (HS : Aside0 (Sep (fps [b8 g844 g846 a854 a855 a856 a857, b7 g846 A849 m850 n851 a853, r6 A849 m850 n851 l848]) w [b8 g844 g846 a854 a855 a856 a857, b7 g846 A849 m850 n851 a853, r6 A849 m850 n851 l848] w)) (H : Aside0 (chain_Len.f l848 a853 a854 a855 a856 a857 a858 = some r)) :
    Calls Tryd.prog 105 #[.pointer (some ⟨g844, 0, none⟩), .int .i64 a858] w fun e w' => e = .returned (.int .i64 r.1) ∧ Sep (fps [b8 g844 g846 a854 a855 a856 a857, b7 g846 A849 m850 n851 a853, r6 A849 m850 n851 l848]) w [b8 g844 g846 a854 a855 a856 a857, b7 g846 A849 m850 n851 r.2, r6 A849 m850 n851 l848] w' := by
  generalize (fps [b8 g844 g846 a854 a855 a856 a857, b7 g846 A849 m850 n851 a853, r6 A849 m850 n851 l848]) = FF at HS HGl0 ⊢
  obtain rfl := (row_len (HS.out.at2)).symm
  unfold chain_Len.f at H
  go_enter Tryd.func105, Tryd.ntmps105
  go_wp2_with fail
  obtain ⟨t1057, HA1058, H⟩ := bind_some H
  refine (chain_of.calls l848 a853 a854 a855 a856 a857 a858 g844 g846 A849 l848.length n851 t1057 _ ⟨HGl0.out.pass HS.out⟩ ⟨HS.out.begin⟩ HA1058).mono ?_
  rintro e_ w1059 ⟨rfl, hS⟩
  replace HS : Aside0 (Sep FF w [b8 g844 g846 a854 a855 a856 a857, b7 g846 A849 l848.length n851 a853, r6 A849 l848.length n851 l848] w1059) := ⟨HS.out.call hS⟩
  clear hS
  by_cases c1070 : t1057.2.2.2 = true
  · replace H := if_yes c1070 H
    have c1070b0 : t1057.2.2.2 = true := c1070
    have c1070b1 : (!t1057.2.2.2) = false := by rw [c1070b0]; rfl
    try rw [c1070b1]
    clear c1070
    go_wp2_with (first | ((with_reducible refine gate_dst (N := 5) rfl ?_); refine box_on ?hg (N := 5) ?hd (cs := #[.int .i64 0, .int .i64 0, .int .i64 0]) (t := 166) ?hr ?_; (case hd => rfl); (case hg => rfl); (case hr => first | (go_simp; done) | (go_simp; rfl)); intro g1060 hg w1061 hbox hb; replace HS : Aside0 (Sep FF w [b8 g844 g846 a854 a855 a856 a857, b7 g846 A849 l848.length n851 a853, r6 A849 l848.length n851 l848, b9 g1060 0 0 0] w1061) := ⟨HS.out.box hg hbox hb⟩; clear hg hbox hb; have hc1063 : w1061.cell? ⟨g1060, 0, none⟩ = some (.int .i64 0) := blk_cellv (HS.out.at3) 0 rfl; have hz1064 : w1061.frozen? ⟨g1060, 0, none⟩ = false := blk_fz (HS.out.at3) 0; have hc1065 : w1061.cell? ⟨g1060, 1, none⟩ = some (.int .i64 0) := blk_cellv (HS.out.at3) 1 rfl; have hz1066 : w1061.frozen? ⟨g1060, 1, none⟩ = false := blk_fz (HS.out.at3) 1; have hc1067 : w1061.cell? ⟨g1060, 2, none⟩ = some (.int .i64 0) := blk_cellv (HS.out.at3) 2 rfl; have hz1068 : w1061.frozen? ⟨g1060, 2, none⟩ = false := blk_fz (HS.out.at3) 2) | ((with_reducible refine gate_store (t := 166) (p := 5) rfl ?_); refine store_event (w1 := (World.setCell (World.setCell (World.setCell w1061 ⟨g1060, 0, none⟩ (.int .i64 t1057.1)) ⟨g1060, 1, none⟩ (.int .i64 t1057.2.1)) ⟨g1060, 2, none⟩ (.int .i64 t1057.2.2.1))) rfl (t := 166) (p := 5) rfl rfl ?hr ?_; (case hr => first | (go_simp; done) | (go_simp; rfl)); intro w1069 hst; clear hc1063 hz1064 hc1065 hz1066 hc1067 hz1068; replace HS : Aside0 (Sep FF w [b8 g844 g846 a854 a855 a856 a857, b7 g846 A849 l848.length n851 a853, r6 A849 l848.length n851 l848, b9 g1060 t1057.1 t1057.2.1 t1057.2.2.1] w1069) := ⟨by rw [hst]; exact HS.out.setAll (l1 := [b8 g844 g846 a854 a855 a856 a857, b7 g846 A849 l848.length n851 a853, r6 A849 l848.length n851 l848]) (l2 := []) [.int .i64 t1057.1, .int .i64 t1057.2.1, .int .i64 t1057.2.2.1] rfl⟩; clear hst; have hc1071 : w1069.cell? ⟨g1060, 2, none⟩ = some (.int .i64 t1057.2.2.1) := blk_cellv (HS.out.at3) 2 rfl))
    clear hc1071
    obtain ⟨t1072, HA1073, H⟩ := bind_some H
    refine (ground_Ground_Reg.calls l848 a853 a854 a855 a856 a857 t1057.2.2.1 g844 g846 A849 l848.length n851 t1072 _ ⟨HGl0.out.pass HS.out⟩ ⟨HS.out.begin⟩ HA1073).mono ?_
    rintro e_ w1074 ⟨rfl, hS⟩
    replace HS : Aside0 (Sep FF w [b8 g844 g846 a854 a855 a856 a857, b7 g846 A849 l848.length n851 t1072.2, r6 A849 l848.length n851 l848, b9 g1060 t1057.1 t1057.2.1 t1057.2.2.1] w1074) := ⟨HS.out.call hS⟩
    clear hS
    replace HS : Aside0 (Sep FF w [b8 g844 g846 a854 a855 a856 a857, b7 g846 A849 l848.length n851 t1072.2, r6 A849 l848.length n851 l848] w1074) := ⟨HS.out.sub (.cons_cons _ (.cons_cons _ (.cons_cons _ (.cons _ .slnil))))⟩
    go_wp2_with fail
    go_ret
    rw [← some_eq H]
    exact ⟨(by first | rfl | (simp [IntKind.wrap_u32]; done)), HS.out⟩
  · replace H := if_no c1070 H
    have c1070b0 : t1057.2.2.2 = false := by simpa using c1070
    have c1070b1 : (!t1057.2.2.2) = true := by rw [c1070b0]; rfl
    try rw [c1070b1]
    clear c1070
    go_wp2_with (first | ((with_reducible refine gate_dst (N := 5) rfl ?_); refine box_on ?hg (N := 5) ?hd (cs := #[.int .i64 0, .int .i64 0, .int .i64 0]) (t := 166) ?hr ?_; (case hd => rfl); (case hg => rfl); (case hr => first | (go_simp; done) | (go_simp; rfl)); intro g1060 hg w1061 hbox hb; replace HS : Aside0 (Sep FF w [b8 g844 g846 a854 a855 a856 a857, b7 g846 A849 l848.length n851 a853, r6 A849 l848.length n851 l848, b9 g1060 0 0 0] w1061) := ⟨HS.out.box hg hbox hb⟩; clear hg hbox hb; have hc1063 : w1061.cell? ⟨g1060, 0, none⟩ = some (.int .i64 0) := blk_cellv (HS.out.at3) 0 rfl; have hz1064 : w1061.frozen? ⟨g1060, 0, none⟩ = false := blk_fz (HS.out.at3) 0; have hc1065 : w1061.cell? ⟨g1060, 1, none⟩ = some (.int .i64 0) := blk_cellv (HS.out.at3) 1 rfl; have hz1066 : w1061.frozen? ⟨g1060, 1, none⟩ = false := blk_fz (HS.out.at3) 1; have hc1067 : w1061.cell? ⟨g1060, 2, none⟩ = some (.int .i64 0) := blk_cellv (HS.out.at3) 2 rfl; have hz1068 : w1061.frozen? ⟨g1060, 2, none⟩ = false := blk_fz (HS.out.at3) 2) | ((with_reducible refine gate_store (t := 166) (p := 5) rfl ?_); refine store_event (w1 := (World.setCell (World.setCell (World.setCell w1061 ⟨g1060, 0, none⟩ (.int .i64 t1057.1)) ⟨g1060, 1, none⟩ (.int .i64 t1057.2.1)) ⟨g1060, 2, none⟩ (.int .i64 t1057.2.2.1))) rfl (t := 166) (p := 5) rfl rfl ?hr ?_; (case hr => first | (go_simp; done) | (go_simp; rfl)); intro w1069 hst; clear hc1063 hz1064 hc1065 hz1066 hc1067 hz1068; replace HS : Aside0 (Sep FF w [b8 g844 g846 a854 a855 a856 a857, b7 g846 A849 l848.length n851 a853, r6 A849 l848.length n851 l848, b9 g1060 t1057.1 t1057.2.1 t1057.2.2.1] w1069) := ⟨by rw [hst]; exact HS.out.setAll (l1 := [b8 g844 g846 a854 a855 a856 a857, b7 g846 A849 l848.length n851 a853, r6 A849 l848.length n851 l848]) (l2 := []) [.int .i64 t1057.1, .int .i64 t1057.2.1, .int .i64 t1057.2.2.1] rfl⟩; clear hst; replace HS : Aside0 (Sep FF w [b8 g844 g846 a854 a855 a856 a857, b7 g846 A849 l848.length n851 a853, r6 A849 l848.length n851 l848] w1069) := ⟨HS.out.sub (.cons_cons _ (.cons_cons _ (.cons_cons _ (.cons _ .slnil))))⟩))
    go_ret
    rw [← some_eq H]
    exact ⟨(by first | rfl | (simp [IntKind.wrap_u32]; done)), HS.out⟩

set_option maxHeartbeats 30000000 in
set_option maxRecDepth 100000 in
theorem ground_Ground_Conf.calls (l1088 : List Int) (a1093 : Int) (a1094 : Int) (a1095 : Int) (a1096 : Int) (a1097 : Int) (g1084 : Nat) (g1086 : Nat) (A1089 : Option Addr) (m1090 : Nat) (n1091 : Nat) (r : Int × Int × Int × Int) (w : World)  (HGl0 : Aside0 (Gl 0 #[.int .i64 0, .int .i64 0, .int .i64 0, .int .i64 0, .int .i64 0] (fps [b8 g1084 g1086 a1094 a1095 a1096 a1097, b7 g1086 A1089 m1090 n1091 a1093, r6 A1089 m1090 n1091 l1088]) w)) (HS : Aside0 (Sep (fps [b8 g1084 g1086 a1094 a1095 a1096 a1097, b7 g1086 A1089 m1090 n1091 a1093, r6 A1089 m1090 n1091 l1088]) w [b8 g1084 g1086 a1094 a1095 a1096 a1097, b7 g1086 A1089 m1090 n1091 a1093, r6 A1089 m1090 n1091 l1088] w)) (H : Aside0 (ground_Ground_Conf.f l1088 a1093 a1094 a1095 a1096 a1097 = some r)) :
    Calls Tryd.prog 86 #[.pointer (some ⟨g1084, 0, none⟩)] w fun e w' => e = .returned (.agg #[.int .i64 r.1, .int .i64 r.2.1, .int .i64 r.2.2.1, .int .i64 r.2.2.2]) ∧ Sep (fps [b8 g1084 g1086 a1094 a1095 a1096 a1097, b7 g1086 A1089 m1090 n1091 a1093, r6 A1089 m1090 n1091 l1088]) w [b8 g1084 g1086 a1094 a1095 a1096 a1097, b7 g1086 A1089 m1090 n1091 a1093, r6 A1089 m1090 n1091 l1088] w' := by
  generalize (fps [b8 g1084 g1086 a1094 a1095 a1096 a1097, b7 g1086 A1089 m1090 n1091 a1093, r6 A1089 m1090 n1091 l1088]) = FF at HS HGl0 ⊢
  obtain rfl := (row_len (HS.out.at2)).symm
  unfold ground_Ground_Conf.f at H
  go_enter Tryd.func86, Tryd.ntmps86
  go_wp2_with (first | ((with_reducible refine gate_dst (N := 2) rfl ?_); refine box_on ?hg (N := 2) ?hd (cs := #[.int .i64 0, .int .i64 0, .int .i64 0, .int .i64 0]) (t := 30) ?hr ?_; (case hd => rfl); (case hg => rfl); (case hr => first | (go_simp; done) | (go_simp; rfl)); intro g1098 hg w1099 hbox hb; replace HS : Aside0 (Sep FF w [b8 g1084 g1086 a1094 a1095 a1096 a1097, b7 g1086 A1089 l1088.length n1091 a1093, r6 A1089 l1088.length n1091 l1088, b2 g1098 0 0 0 0] w1099) := ⟨HS.out.box hg hbox hb⟩; clear hg hbox hb; have hc1101 : w1099.cell? ⟨g1084, 1, none⟩ = some (.int .i64 a1094) := blk_cellv (HS.out.at0) 1 rfl; have hc1102 : w1099.cell? ⟨g1084, 2, none⟩ = some (.int .i64 a1095) := blk_cellv (HS.out.at0) 2 rfl; have hc1103 : w1099.cell? ⟨g1084, 3, none⟩ = some (.int .i64 a1096) := blk_cellv (HS.out.at0) 3 rfl; have hc1104 : w1099.cell? ⟨g1084, 4, none⟩ = some (.int .i64 a1097) := blk_cellv (HS.out.at0) 4 rfl; have hc1105 : w1099.cell? ⟨g1098, 0, none⟩ = some (.int .i64 0) := blk_cellv (HS.out.at3) 0 rfl; have hz1106 : w1099.frozen? ⟨g1098, 0, none⟩ = false := blk_fz (HS.out.at3) 0; have hc1107 : w1099.cell? ⟨g1098, 1, none⟩ = some (.int .i64 0) := blk_cellv (HS.out.at3) 1 rfl; have hz1108 : w1099.frozen? ⟨g1098, 1, none⟩ = false := blk_fz (HS.out.at3) 1; have hc1109 : w1099.cell? ⟨g1098, 2, none⟩ = some (.int .i64 0) := blk_cellv (HS.out.at3) 2 rfl; have hz1110 : w1099.frozen? ⟨g1098, 2, none⟩ = false := blk_fz (HS.out.at3) 2; have hc1111 : w1099.cell? ⟨g1098, 3, none⟩ = some (.int .i64 0) := blk_cellv (HS.out.at3) 3 rfl; have hz1112 : w1099.frozen? ⟨g1098, 3, none⟩ = false := blk_fz (HS.out.at3) 3) | ((with_reducible refine gate_store (t := 30) (p := 2) rfl ?_); refine store_event (w1 := (World.setCell (World.setCell (World.setCell (World.setCell w1099 ⟨g1098, 0, none⟩ (.int .i64 a1094)) ⟨g1098, 1, none⟩ (.int .i64 a1095)) ⟨g1098, 2, none⟩ (.int .i64 a1096)) ⟨g1098, 3, none⟩ (.int .i64 a1097))) rfl (t := 30) (p := 2) rfl rfl ?hr ?_; (case hr => first | (go_simp; done) | (go_simp; rfl)); intro w1113 hst; clear hc1101 hc1102 hc1103 hc1104 hc1105 hz1106 hc1107 hz1108 hc1109 hz1110 hc1111 hz1112; replace HS : Aside0 (Sep FF w [b8 g1084 g1086 a1094 a1095 a1096 a1097, b7 g1086 A1089 l1088.length n1091 a1093, r6 A1089 l1088.length n1091 l1088, b2 g1098 a1094 a1095 a1096 a1097] w1113) := ⟨by rw [hst]; exact HS.out.setAll (l1 := [b8 g1084 g1086 a1094 a1095 a1096 a1097, b7 g1086 A1089 l1088.length n1091 a1093, r6 A1089 l1088.length n1091 l1088]) (l2 := []) [.int .i64 a1094, .int .i64 a1095, .int .i64 a1096, .int .i64 a1097] rfl⟩; clear hst))
  have hc1114 : w1113.cell? ⟨g1098, 0, none⟩ = some (.int .i64 a1094) := blk_cellv (HS.out.at3) 0 rfl
  have hc1115 : w1113.cell? ⟨g1098, 1, none⟩ = some (.int .i64 a1095) := blk_cellv (HS.out.at3) 1 rfl
  have hc1116 : w1113.cell? ⟨g1098, 2, none⟩ = some (.int .i64 a1096) := blk_cellv (HS.out.at3) 2 rfl
  have hc1117 : w1113.cell? ⟨g1098, 3, none⟩ = some (.int .i64 a1097) := blk_cellv (HS.out.at3) 3 rfl
  refine bodyPost_ret (v := .agg #[.int .i64 a1094, .int .i64 a1095, .int .i64 a1096, .int .i64 a1097]) (by simp [results, Tryd.results86, go_sem, hc1114, hc1115, hc1116, hc1117]) rfl ?_
  rw [← some_eq H]
  exact ⟨(by first | rfl | (simp [IntKind.wrap_u32]; done)), HS.out.sub (.cons_cons _ (.cons_cons _ (.cons_cons _ (.cons _ .slnil))))⟩

set_option maxHeartbeats 30000000 in
set_option maxRecDepth 100000 in
theorem ground_Ground_word.calls (l1259 : List Int) (a1264 : Int) (a1265 : Int) (a1266 : Int) (a1267 : Int) (a1268 : Int) (a1269 : Int) (a1270 : Int) (g1255 : Nat) (g1257 : Nat) (A1260 : Option Addr) (m1261 : Nat) (n1262 : Nat) (r : Int) (w : World)  (HGl0 : Aside0 (Gl 0 #[.int .i64 0, .int .i64 0, .int .i64 0, .int .i64 0, .int .i64 0] (fps [b8 g1255 g1257 a1265 a1266 a1267 a1268, b7 g1257 A1260 m1261 n1262 a1264, r6 A1260 m1261 n1262 l1259]) w)) (HS : Aside0 (Sep (fps [b8 g1255 g1257 a1265 a1266 a1267 a1268, b7 g1257 A1260 m1261 n1262 a1264, r6 A1260 m1261 n1262 l1259]) w [b8 g1255 g1257 a1265 a1266 a1267 a1268, b7 g1257 A1260 m1261 n1262 a1264, r6 A1260 m1261 n1262 l1259] w)) (H : Aside0 (ground_Ground_word.f l1259 a1264 a1265 a1266 a1267 a1268 a1269 a1270 = some r)) :
    Calls Tryd.prog 72 #[.pointer (some ⟨g1255, 0, none⟩), .int .i64 a1269, .int .i64 a1270] w fun e w' => e = .returned (.int .i64 r) ∧ Sep (fps [b8 g1255 g1257 a1265 a1266 a1267 a1268, b7 g1257 A1260 m1261 n1262 a1264, r6 A1260 m1261 n1262 l1259]) w [b8 g1255 g1257 a1265 a1266 a1267 a1268, b7 g1257 A1260 m1261 n1262 a1264, r6 A1260 m1261 n1262 l1259] w' := by
  generalize (fps [b8 g1255 g1257 a1265 a1266 a1267 a1268, b7 g1257 A1260 m1261 n1262 a1264, r6 A1260 m1261 n1262 l1259]) = FF at HS HGl0 ⊢
  obtain rfl := (row_len (HS.out.at2)).symm
  unfold ground_Ground_word.f at H
  go_enter Tryd.func72, Tryd.ntmps72
  go_wp2_with fail
  obtain ⟨t1271, HA1272, H⟩ := bind_some H
  refine (ground_Ground_Conf.calls l1259 a1264 a1265 a1266 a1267 a1268 g1255 g1257 A1260 l1259.length n1262 t1271 _ ⟨HGl0.out.pass HS.out⟩ ⟨HS.out.begin⟩ HA1272).mono ?_
  rintro e_ w1273 ⟨rfl, hS⟩
  replace HS : Aside0 (Sep FF w [b8 g1255 g1257 a1265 a1266 a1267 a1268, b7 g1257 A1260 l1259.length n1262 a1264, r6 A1260 l1259.length n1262 l1259] w1273) := ⟨HS.out.call hS⟩
  clear hS
  go_wp2_with (first | ((with_reducible refine gate_dst (N := 7) rfl ?_); refine box_on ?hg (N := 7) ?hd (cs := #[.int .i64 0, .int .i64 0, .int .i64 0, .int .i64 0]) (t := 30) ?hr ?_; (case hd => rfl); (case hg => rfl); (case hr => first | (go_simp; done) | (go_simp; rfl)); intro g1274 hg w1275 hbox hb; replace HS : Aside0 (Sep FF w [b8 g1255 g1257 a1265 a1266 a1267 a1268, b7 g1257 A1260 l1259.length n1262 a1264, r6 A1260 l1259.length n1262 l1259, b2 g1274 0 0 0 0] w1275) := ⟨HS.out.box hg hbox hb⟩; clear hg hbox hb; have hc1277 : w1275.cell? ⟨g1274, 0, none⟩ = some (.int .i64 0) := blk_cellv (HS.out.at3) 0 rfl; have hz1278 : w1275.frozen? ⟨g1274, 0, none⟩ = false := blk_fz (HS.out.at3) 0; have hc1279 : w1275.cell? ⟨g1274, 1, none⟩ = some (.int .i64 0) := blk_cellv (HS.out.at3) 1 rfl; have hz1280 : w1275.frozen? ⟨g1274, 1, none⟩ = false := blk_fz (HS.out.at3) 1; have hc1281 : w1275.cell? ⟨g1274, 2, none⟩ = some (.int .i64 0) := blk_cellv (HS.out.at3) 2 rfl; have hz1282 : w1275.frozen? ⟨g1274, 2, none⟩ = false := blk_fz (HS.out.at3) 2; have hc1283 : w1275.cell? ⟨g1274, 3, none⟩ = some (.int .i64 0) := blk_cellv (HS.out.at3) 3 rfl; have hz1284 : w1275.frozen? ⟨g1274, 3, none⟩ = false := blk_fz (HS.out.at3) 3) | ((with_reducible refine gate_store (t := 30) (p := 7) rfl ?_); refine store_event (w1 := (World.setCell (World.setCell (World.setCell (World.setCell w1275 ⟨g1274, 0, none⟩ (.int .i64 t1271.1)) ⟨g1274, 1, none⟩ (.int .i64 t1271.2.1)) ⟨g1274, 2, none⟩ (.int .i64 t1271.2.2.1)) ⟨g1274, 3, none⟩ (.int .i64 t1271.2.2.2))) rfl (t := 30) (p := 7) rfl rfl ?hr ?_; (case hr => first | (go_simp; done) | (go_simp; rfl)); intro w1285 hst; clear hc1277 hz1278 hc1279 hz1280 hc1281 hz1282 hc1283 hz1284; replace HS : Aside0 (Sep FF w [b8 g1255 g1257 a1265 a1266 a1267 a1268, b7 g1257 A1260 l1259.length n1262 a1264, r6 A1260 l1259.length n1262 l1259, b2 g1274 t1271.1 t1271.2.1 t1271.2.2.1 t1271.2.2.2] w1285) := ⟨by rw [hst]; exact HS.out.setAll (l1 := [b8 g1255 g1257 a1265 a1266 a1267 a1268, b7 g1257 A1260 l1259.length n1262 a1264, r6 A1260 l1259.length n1262 l1259]) (l2 := []) [.int .i64 t1271.1, .int .i64 t1271.2.1, .int .i64 t1271.2.2.1, .int .i64 t1271.2.2.2] rfl⟩; clear hst; have hc1286 : w1285.cell? ⟨g1274, 0, none⟩ = some (.int .i64 t1271.1) := blk_cellv (HS.out.at3) 0 rfl))
  clear hc1286
  obtain ⟨t1287, HA1288, H⟩ := bind_some H
  refine (ground_within.calls a1269 t1271.1 0 t1287 _ ⟨HGl0.out.pass (l := []) HS.out⟩ ⟨Sep.start _⟩ HA1288).mono ?_
  rintro e_ w1289 ⟨rfl, hS⟩
  replace HS : Aside0 (Sep FF w [b8 g1255 g1257 a1265 a1266 a1267 a1268, b7 g1257 A1260 l1259.length n1262 a1264, r6 A1260 l1259.length n1262 l1259, b2 g1274 t1271.1 t1271.2.1 t1271.2.2.1 t1271.2.2.2] w1289) := ⟨HS.out.call hS⟩
  clear hS
  by_cases c1290 : t1287 = (-1)
  · replace H := if_yes c1290 H
    have c1290b0 : (t1287 == (-1)) = true := beq_iff_eq.mpr c1290
    have c1290b1 : (t1287 != (-1)) = false := bne_eq_false_iff_eq.mpr c1290
    clear c1290
    replace HS : Aside0 (Sep FF w [b8 g1255 g1257 a1265 a1266 a1267 a1268, b7 g1257 A1260 l1259.length n1262 a1264, r6 A1260 l1259.length n1262 l1259] w1289) := ⟨HS.out.sub (.cons_cons _ (.cons_cons _ (.cons_cons _ (.cons _ .slnil))))⟩
    go_wp2_with fail
    go_ret
    rw [← some_eq H]
    exact ⟨(by first | rfl | (simp [IntKind.wrap_u32]; done)), HS.out⟩
  · replace H := if_no c1290 H
    have c1290b0 : (t1287 == (-1)) = false := beq_eq_false_iff_ne.mpr c1290
    have c1290b1 : (t1287 != (-1)) = true := bne_iff_ne.mpr c1290
    clear c1290
    have hc1291 : w1289.cell? ⟨g1274, 1, none⟩ = some (.int .i64 t1271.2.1) := blk_cellv (HS.out.at3) 1 rfl
    have hc1292 : w1289.cell? ⟨g1274, 2, none⟩ = some (.int .i64 t1271.2.2.1) := blk_cellv (HS.out.at3) 2 rfl
    go_wp2_with fail
    clear hc1291 hc1292
    obtain ⟨t1293, HA1294, H⟩ := bind_some H
    refine (ground_within.calls a1270 t1271.2.1 (wrap64 ((wrap64 (24 + t1271.2.2.1)) + (wrap64 (a1269 * t1271.2.1)))) t1293 _ ⟨HGl0.out.pass (l := []) HS.out⟩ ⟨Sep.start _⟩ HA1294).mono ?_
    rintro e_ w1295 ⟨rfl, hS⟩
    replace HS : Aside0 (Sep FF w [b8 g1255 g1257 a1265 a1266 a1267 a1268, b7 g1257 A1260 l1259.length n1262 a1264, r6 A1260 l1259.length n1262 l1259, b2 g1274 t1271.1 t1271.2.1 t1271.2.2.1 t1271.2.2.2] w1295) := ⟨HS.out.call hS⟩
    clear hS
    replace HS : Aside0 (Sep FF w [b8 g1255 g1257 a1265 a1266 a1267 a1268, b7 g1257 A1260 l1259.length n1262 a1264, r6 A1260 l1259.length n1262 l1259] w1295) := ⟨HS.out.sub (.cons_cons _ (.cons_cons _ (.cons_cons _ (.cons _ .slnil))))⟩
    go_wp2_with fail
    go_ret
    rw [← some_eq H]
    exact ⟨(by first | rfl | (simp [IntKind.wrap_u32]; done)), HS.out⟩

set_option maxHeartbeats 30000000 in
set_option maxRecDepth 100000 in
theorem store_Store_Put.calls (l1302 : List Int) (a1307 : Int) (a1308 : Int) (a1309 : Int) (g1300 : Nat) (A1303 : Option Addr) (m1304 : Nat) (n1305 : Nat) (r : Bool × Int × List Int) (w : World)  (HGl0 : Aside0 (Gl 0 #[.int .i64 0, .int .i64 0, .int .i64 0, .int .i64 0, .int .i64 0] (fps [b7 g1300 A1303 m1304 n1305 a1307, r6 A1303 m1304 n1305 l1302]) w)) (HS : Aside0 (Sep (fps [b7 g1300 A1303 m1304 n1305 a1307, r6 A1303 m1304 n1305 l1302]) w [b7 g1300 A1303 m1304 n1305 a1307, r6 A1303 m1304 n1305 l1302] w)) (H : Aside0 (store_Store_Put.f l1302 a1307 a1308 a1309 = some r)) :
    Calls Tryd.prog 71 #[.pointer (some ⟨g1300, 0, none⟩), .int .i64 a1308, .int .u32 a1309] w fun e w' => e = .returned (.bool r.1) ∧ Sep (fps [b7 g1300 A1303 m1304 n1305 a1307, r6 A1303 m1304 n1305 l1302]) w [b7 g1300 A1303 m1304 n1305 r.2.1, r6 A1303 m1304 n1305 r.2.2] w' := by
  generalize (fps [b7 g1300 A1303 m1304 n1305 a1307, r6 A1303 m1304 n1305 l1302]) = FF at HS HGl0 ⊢
  obtain rfl := (row_len (HS.out.at1)).symm
  unfold store_Store_Put.f at H
  go_enter Tryd.func71, Tryd.ntmps71
  go_wp2_with fail
  obtain ⟨t1326, HA1327, H⟩ := bind_some H
  refine (store_Store_has.calls l1302 a1307 a1308 g1300 A1303 l1302.length n1305 t1326 _ ⟨HGl0.out.pass HS.out⟩ ⟨HS.out.begin⟩ HA1327).mono ?_
  rintro e_ w1328 ⟨rfl, hS⟩
  replace HS : Aside0 (Sep FF w [b7 g1300 A1303 l1302.length n1305 a1307, r6 A1303 l1302.length n1305 l1302] w1328) := ⟨HS.out.call hS⟩
  clear hS
  by_cases c1329 : t1326 = true
  · replace H := if_yes c1329 H
    have c1329b0 : t1326 = true := c1329
    have c1329b1 : (!t1326) = false := by rw [c1329b0]; rfl
    try rw [c1329b1]
    clear c1329
    go_wp2_with fail
    obtain ⟨t1330, HA1331, H⟩ := bind_some H
    refine (atomic_Uint64_Add.calls l1302 a1307 1 g1300 A1303 l1302.length n1305 t1330 _ ⟨HGl0.out.pass HS.out⟩ ⟨HS.out.begin⟩ HA1331).mono ?_
    rintro e_ w1332 ⟨rfl, hS⟩
    replace HS : Aside0 (Sep FF w [b7 g1300 A1303 l1302.length n1305 t1330.2, r6 A1303 l1302.length n1305 l1302] w1332) := ⟨HS.out.call hS⟩
    clear hS
    by_cases c1334 : 0 ≤ a1308
    · replace H := if_yes c1334 H
      have c1334b0 : decide (0 ≤ a1308) = true := decide_eq_true c1334
      have c1334p : (0 ≤ a1308) = True := eq_true c1334
      clear c1334
      by_cases c1335 : a1308 < (l1302.length : Int)
      · replace H := if_yes c1335 H
        have c1335b0 : decide (a1308 < (l1302.length : Int)) = true := decide_eq_true c1335
        have c1335p : (a1308 < (l1302.length : Int)) = True := eq_true c1335
        clear c1335
        obtain ⟨y1338, HA1339, H⟩ := bind_some H
        have hc1333 : w1332.cell? ⟨g1300, 0, none⟩ = some (.slice A1303 l1302.length n1305) := blk_cellv (HS.out.at0) 0 rfl
        obtain ⟨g1336, ea⟩ := row_at (HS.out.at1) (by have := (of_decide_eq_true c1334b0); have := (of_decide_eq_true c1335b0); omega); cases ea
        have hx1340 := (row_get 0 (HS.out.at1) a1308 (of_decide_eq_true c1334b0) (of_decide_eq_true c1335b0)).1
        have hz1341 := (row_get 0 (HS.out.at1) a1308 (of_decide_eq_true c1334b0) (of_decide_eq_true c1335b0)).2
        go_wp2_with (first | ((with_reducible refine gate_store (t := 33) (p := 21) rfl ?_); refine store_event (w1 := World.setCell w1332 ⟨g1336, (a1308).toNat, none⟩ (.int .u32 a1309)) rfl (t := 33) (p := 21) rfl rfl ?hr ?_; (case hr => first | (go_simp; done) | (go_simp; rfl)); intro w1337 hst; clear hc1333 hx1340 hz1341; have hq := Sep.rowset (l1 := [b7 g1300 (some ⟨g1336, 0, none⟩) l1302.length n1305 t1330.2]) (l2 := []) HS.out a1308 a1309; rw [← hst, some_eq HA1339] at hq; replace HS : Aside0 (Sep FF w [b7 g1300 (some ⟨g1336, 0, none⟩) l1302.length n1305 t1330.2, r6 (some ⟨g1336, 0, none⟩) l1302.length n1305 y1338] w1337) := ⟨hq⟩; clear hst hq))
        go_ret
        rw [← some_eq H]
        exact ⟨(by first | rfl | (simp [IntKind.wrap_u32]; done)), HS.out⟩
      · replace H := if_no c1335 H
        have c1335b0 : decide (a1308 < (l1302.length : Int)) = false := decide_eq_false c1335
        clear c1335
        exact (none_no H).elim
    · replace H := if_no c1334 H
      have c1334b0 : decide (0 ≤ a1308) = false := decide_eq_false c1334
      clear c1334
      exact (none_no H).elim
  · replace H := if_no c1329 H
    have c1329b0 : t1326 = false := by simpa using c1329
    have c1329b1 : (!t1326) = true := by rw [c1329b0]; rfl
    try rw [c1329b1]
    clear c1329
    go_wp2_with fail
    go_ret
    rw [← some_eq H]
    exact ⟨(by first | rfl | (simp [IntKind.wrap_u32]; done)), HS.out⟩

set_option maxHeartbeats 30000000 in
set_option maxRecDepth 100000 in
theorem ground_Ground_SetWord.calls (l1238 : List Int) (a1243 : Int) (a1244 : Int) (a1245 : Int) (a1246 : Int) (a1247 : Int) (a1248 : Int) (a1249 : Int) (a1250 : Int) (g1234 : Nat) (g1236 : Nat) (A1239 : Option Addr) (m1240 : Nat) (n1241 : Nat) (r : Bool × Int × List Int) (w : World)  (HGl0 : Aside0 (Gl 0 #[.int .i64 0, .int .i64 0, .int .i64 0, .int .i64 0, .int .i64 0] (fps [b8 g1234 g1236 a1244 a1245 a1246 a1247, b7 g1236 A1239 m1240 n1241 a1243, r6 A1239 m1240 n1241 l1238]) w)) (HS : Aside0 (Sep (fps [b8 g1234 g1236 a1244 a1245 a1246 a1247, b7 g1236 A1239 m1240 n1241 a1243, r6 A1239 m1240 n1241 l1238]) w [b8 g1234 g1236 a1244 a1245 a1246 a1247, b7 g1236 A1239 m1240 n1241 a1243, r6 A1239 m1240 n1241 l1238] w)) (H : Aside0 (ground_Ground_SetWord.f l1238 a1243 a1244 a1245 a1246 a1247 a1248 a1249 a1250 = some r)) :
    Calls Tryd.prog 17 #[.pointer (some ⟨g1234, 0, none⟩), .int .i64 a1248, .int .i64 a1249, .int .u32 a1250] w fun e w' => e = .returned (.bool r.1) ∧ Sep (fps [b8 g1234 g1236 a1244 a1245 a1246 a1247, b7 g1236 A1239 m1240 n1241 a1243, r6 A1239 m1240 n1241 l1238]) w [b8 g1234 g1236 a1244 a1245 a1246 a1247, b7 g1236 A1239 m1240 n1241 r.2.1, r6 A1239 m1240 n1241 r.2.2] w' := by
  generalize (fps [b8 g1234 g1236 a1244 a1245 a1246 a1247, b7 g1236 A1239 m1240 n1241 a1243, r6 A1239 m1240 n1241 l1238]) = FF at HS HGl0 ⊢
  obtain rfl := (row_len (HS.out.at2)).symm
  unfold ground_Ground_SetWord.f at H
  go_enter Tryd.func17, Tryd.ntmps17
  go_wp2_with fail
  obtain ⟨t1345, HA1346, H⟩ := bind_some H
  refine (ground_Ground_all.calls l1238 a1243 a1244 a1245 a1246 a1247 g1234 g1236 A1239 l1238.length n1241 t1345 _ ⟨HGl0.out.pass HS.out⟩ ⟨HS.out.begin⟩ HA1346).mono ?_
  rintro e_ w1347 ⟨rfl, hS⟩
  replace HS : Aside0 (Sep FF w [b8 g1234 g1236 a1244 a1245 a1246 a1247, b7 g1236 A1239 l1238.length n1241 a1243, r6 A1239 l1238.length n1241 l1238] w1347) := ⟨HS.out.call hS⟩
  clear hS
  go_wp2_with fail
  obtain ⟨t1348, HA1349, H⟩ := bind_some H
  refine (ground_Ground_word.calls l1238 a1243 a1244 a1245 a1246 a1247 a1248 a1249 g1234 g1236 A1239 l1238.length n1241 t1348 _ ⟨HGl0.out.pass HS.out⟩ ⟨HS.out.begin⟩ HA1349).mono ?_
  rintro e_ w1350 ⟨rfl, hS⟩
  replace HS : Aside0 (Sep FF w [b8 g1234 g1236 a1244 a1245 a1246 a1247, b7 g1236 A1239 l1238.length n1241 a1243, r6 A1239 l1238.length n1241 l1238] w1350) := ⟨HS.out.call hS⟩
  clear hS
  go_wp2_with fail
  replace HS : Aside0 (Sep FF w [r6 A1239 l1238.length n1241 l1238, b8 g1234 g1236 a1244 a1245 a1246 a1247, b7 g1236 A1239 l1238.length n1241 a1243] w1350) := ⟨HS.out.front 2 (by simp)⟩
  replace HS : Aside0 (Sep FF w [b7 g1236 A1239 l1238.length n1241 a1243, r6 A1239 l1238.length n1241 l1238, b8 g1234 g1236 a1244 a1245 a1246 a1247] w1350) := ⟨HS.out.front 2 (by simp)⟩
  obtain ⟨t1351, HA1352, H⟩ := bind_some H
  refine (store_Store_Put.calls l1238 a1243 t1348 a1250 g1236 A1239 l1238.length n1241 t1351 _ ⟨HGl0.out.pass HS.out⟩ ⟨HS.out.begin⟩ HA1352).mono ?_
  rintro e_ w1353 ⟨rfl, hS⟩
  replace HS : Aside0 (Sep FF w [b7 g1236 A1239 l1238.length n1241 t1351.2.1, r6 A1239 l1238.length n1241 t1351.2.2, b8 g1234 g1236 a1244 a1245 a1246 a1247] w1353) := ⟨HS.out.call hS⟩
  clear hS
  go_wp2_with fail
  go_ret
  rw [← some_eq H]
  exact ⟨(by first | rfl | (simp [IntKind.wrap_u32]; done)), ((((HS.out).front 1 (by simp)).front 1 (by simp)).front 2 (by simp)).keep (l := [b8 g1234 g1236 a1244 a1245 a1246 a1247, b7 g1236 A1239 l1238.length n1241 t1351.2.1, r6 A1239 l1238.length n1241 t1351.2.2]) (rest := [])⟩

set_option maxHeartbeats 30000000 in
set_option maxRecDepth 100000 in
theorem ground_Ground_set.calls (l1385 : List Int) (a1390 : Int) (a1391 : Int) (a1392 : Int) (a1393 : Int) (a1394 : Int) (a1395 : Int) (a1396 : Int) (g1381 : Nat) (g1383 : Nat) (A1386 : Option Addr) (m1387 : Nat) (n1388 : Nat) (r : Bool × Int × List Int) (w : World)  (HGl0 : Aside0 (Gl 0 #[.int .i64 0, .int .i64 0, .int .i64 0, .int .i64 0, .int .i64 0] (fps [b8 g1381 g1383 a1391 a1392 a1393 a1394, b7 g1383 A1386 m1387 n1388 a1390, r6 A1386 m1387 n1388 l1385]) w)) (HS : Aside0 (Sep (fps [b8 g1381 g1383 a1391 a1392 a1393 a1394, b7 g1383 A1386 m1387 n1388 a1390, r6 A1386 m1387 n1388 l1385]) w [b8 g1381 g1383 a1391 a1392 a1393 a1394, b7 g1383 A1386 m1387 n1388 a1390, r6 A1386 m1387 n1388 l1385] w)) (H : Aside0 (ground_Ground_set.f l1385 a1390 a1391 a1392 a1393 a1394 a1395 a1396 = some r)) :
    Calls Tryd.prog 132 #[.pointer (some ⟨g1381, 0, none⟩), .int .i64 a1395, .int .i64 a1396] w fun e w' => e = .returned (.bool r.1) ∧ Sep (fps [b8 g1381 g1383 a1391 a1392 a1393 a1394, b7 g1383 A1386 m1387 n1388 a1390, r6 A1386 m1387 n1388 l1385]) w [b8 g1381 g1383 a1391 a1392 a1393 a1394, b7 g1383 A1386 m1387 n1388 r.2.1, r6 A1386 m1387 n1388 r.2.2] w' := by
  generalize (fps [b8 g1381 g1383 a1391 a1392 a1393 a1394, b7 g1383 A1386 m1387 n1388 a1390, r6 A1386 m1387 n1388 l1385]) = FF at HS HGl0 ⊢
  obtain rfl := (row_len (HS.out.at2)).symm
  unfold ground_Ground_set.f at H
  go_enter Tryd.func132, Tryd.ntmps132
  by_cases c1405 : a1396 < 0
  · replace H := if_yes c1405 H
    have c1405b0 : decide (a1396 < 0) = true := decide_eq_true c1405
    clear c1405
    go_wp2_with fail
    go_ret
    rw [← some_eq H]
    exact ⟨(by first | rfl | (simp [IntKind.wrap_u32]; done)), HS.out⟩
  · replace H := if_no c1405 H
    have c1405b0 : decide (a1396 < 0) = false := decide_eq_false c1405
    clear c1405
    by_cases c1406 : a1396 > 4294967295
    · replace H := if_yes c1406 H
      have c1406b0 : decide (4294967295 < a1396) = true := decide_eq_true c1406
      clear c1406
      go_wp2_with fail
      go_ret
      rw [← some_eq H]
      exact ⟨(by first | rfl | (simp [IntKind.wrap_u32]; done)), HS.out⟩
    · replace H := if_no c1406 H
      have c1406b0 : decide (4294967295 < a1396) = false := decide_eq_false c1406
      clear c1406
      go_wp2_with fail
      obtain ⟨t1407, HA1408, H⟩ := bind_some H
      refine (ground_Ground_all.calls l1385 a1390 a1391 a1392 a1393 a1394 g1381 g1383 A1386 l1385.length n1388 t1407 _ ⟨HGl0.out.pass HS.out⟩ ⟨HS.out.begin⟩ HA1408).mono ?_
      rintro e_ w1409 ⟨rfl, hS⟩
      replace HS : Aside0 (Sep FF w [b8 g1381 g1383 a1391 a1392 a1393 a1394, b7 g1383 A1386 l1385.length n1388 a1390, r6 A1386 l1385.length n1388 l1385] w1409) := ⟨HS.out.call hS⟩
      clear hS
      go_wp2_with fail
      replace HS : Aside0 (Sep FF w [r6 A1386 l1385.length n1388 l1385, b8 g1381 g1383 a1391 a1392 a1393 a1394, b7 g1383 A1386 l1385.length n1388 a1390] w1409) := ⟨HS.out.front 2 (by simp)⟩
      replace HS : Aside0 (Sep FF w [b7 g1383 A1386 l1385.length n1388 a1390, r6 A1386 l1385.length n1388 l1385, b8 g1381 g1383 a1391 a1392 a1393 a1394] w1409) := ⟨HS.out.front 2 (by simp)⟩
      obtain ⟨t1410, HA1411, H⟩ := bind_some H
      refine (store_Store_Put.calls l1385 a1390 a1395 ((a1396) % 4294967296) g1383 A1386 l1385.length n1388 t1410 _ ⟨HGl0.out.pass HS.out⟩ ⟨HS.out.begin⟩ HA1411).mono ?_
      rintro e_ w1412 ⟨rfl, hS⟩
      replace HS : Aside0 (Sep FF w [b7 g1383 A1386 l1385.length n1388 t1410.2.1, r6 A1386 l1385.length n1388 t1410.2.2, b8 g1381 g1383 a1391 a1392 a1393 a1394] w1412) := ⟨HS.out.call hS⟩
      clear hS
      go_wp2_with fail
      go_ret
      rw [← some_eq H]
      exact ⟨(by first | rfl | (simp [IntKind.wrap_u32]; done)), ((((HS.out).front 1 (by simp)).front 1 (by simp)).front 2 (by simp)).keep (l := [b8 g1381 g1383 a1391 a1392 a1393 a1394, b7 g1383 A1386 l1385.length n1388 t1410.2.1, r6 A1386 l1385.length n1388 t1410.2.2]) (rest := [])⟩

set_option maxHeartbeats 30000000 in
set_option maxRecDepth 100000 in
theorem ground_Ground_SetReg.calls (l1365 : List Int) (a1370 : Int) (a1371 : Int) (a1372 : Int) (a1373 : Int) (a1374 : Int) (a1375 : Int) (a1376 : Int) (g1361 : Nat) (g1363 : Nat) (A1366 : Option Addr) (m1367 : Nat) (n1368 : Nat) (r : Bool × Int × List Int) (w : World)  (HGl0 : Aside0 (Gl 0 #[.int .i64 0, .int .i64 0, .int .i64 0, .int .i64 0, .int .i64 0] (fps [b8 g1361 g1363 a1371 a1372 a1373 a1374, b7 g1363 A1366 m1367 n1368 a1370, r6 A1366 m1367 n1368 l1365]) w)) (HS : Aside0 (Sep (fps [b8 g1361 g1363 a1371 a1372 a1373 a1374, b7 g1363 A1366 m1367 n1368 a1370, r6 A1366 m1367 n1368 l1365]) w [b8 g1361 g1363 a1371 a1372 a1373 a1374, b7 g1363 A1366 m1367 n1368 a1370, r6 A1366 m1367 n1368 l1365] w)) (H : Aside0 (ground_Ground_SetReg.f l1365 a1370 a1371 a1372 a1373 a1374 a1375 a1376 = some r)) :
    Calls Tryd.prog 83 #[.pointer (some ⟨g1361, 0, none⟩), .int .i64 a1375, .int .i64 a1376] w fun e w' => e = .returned (.bool r.1) ∧ Sep (fps [b8 g1361 g1363 a1371 a1372 a1373 a1374, b7 g1363 A1366 m1367 n1368 a1370, r6 A1366 m1367 n1368 l1365]) w [b8 g1361 g1363 a1371 a1372 a1373 a1374, b7 g1363 A1366 m1367 n1368 r.2.1, r6 A1366 m1367 n1368 r.2.2] w' := by
  generalize (fps [b8 g1361 g1363 a1371 a1372 a1373 a1374, b7 g1363 A1366 m1367 n1368 a1370, r6 A1366 m1367 n1368 l1365]) = FF at HS HGl0 ⊢
  obtain rfl := (row_len (HS.out.at2)).symm
  unfold ground_Ground_SetReg.f at H
  go_enter Tryd.func83, Tryd.ntmps83
  go_wp2_with fail
  obtain ⟨t1416, HA1417, H⟩ := bind_some H
  refine (ground_reg.calls a1375 t1416 _ ⟨HGl0.out.pass (l := []) HS.out⟩ ⟨Sep.start _⟩ HA1417).mono ?_
  rintro e_ w1418 ⟨rfl, hS⟩
  replace HS : Aside0 (Sep FF w [b8 g1361 g1363 a1371 a1372 a1373 a1374, b7 g1363 A1366 l1365.length n1368 a1370, r6 A1366 l1365.length n1368 l1365] w1418) := ⟨HS.out.call hS⟩
  clear hS
  go_wp2_with fail
  obtain ⟨t1419, HA1420, H⟩ := bind_some H
  refine (ground_Ground_set.calls l1365 a1370 a1371 a1372 a1373 a1374 t1416 a1376 g1361 g1363 A1366 l1365.length n1368 t1419 _ ⟨HGl0.out.pass HS.out⟩ ⟨HS.out.begin⟩ HA1420).mono ?_
  rintro e_ w1421 ⟨rfl, hS⟩
  replace HS : Aside0 (Sep FF w [b8 g1361 g1363 a1371 a1372 a1373 a1374, b7 g1363 A1366 l1365.length n1368 t1419.2.1, r6 A1366 l1365.length n1368 t1419.2.2] w1421) := ⟨HS.out.call hS⟩
  clear hS
  go_wp2_with fail
  go_ret
  rw [← some_eq H]
  exact ⟨(by first | rfl | (simp [IntKind.wrap_u32]; done)), HS.out⟩

set_option maxHeartbeats 30000000 in
set_option maxRecDepth 100000 in
theorem chain_Add_1.calls (a1203 : Int) (a1204 : Int) (a1205 : Int) (a1206 : Int) (a1207 : Int) (l1215 : List Int) (a1220 : Int) (a1221 : Int) (a1222 : Int) (a1223 : Int) (a1224 : Int) (a1227 : Int) (g1209 : Nat) (g1211 : Nat) (g1213 : Nat) (A1216 : Option Addr) (m1217 : Nat) (n1218 : Nat) (g1226 : Nat) (r : Int × List Int) (w : World)  (HGl0 : Aside0 (Gl 0 #[.int .i64 0, .int .i64 0, .int .i64 0, .int .i64 0, .int .i64 0] (fps [b10 g1209 g1211, b8 g1211 g1213 a1221 a1222 a1223 a1224, b7 g1213 A1216 m1217 n1218 a1220, r6 A1216 m1217 n1218 l1215, b11 g1226 a1227]) w)) (HS : Aside0 (Sep (fps [b10 g1209 g1211, b8 g1211 g1213 a1221 a1222 a1223 a1224, b7 g1213 A1216 m1217 n1218 a1220, r6 A1216 m1217 n1218 l1215, b11 g1226 a1227]) w [b10 g1209 g1211, b8 g1211 g1213 a1221 a1222 a1223 a1224, b7 g1213 A1216 m1217 n1218 a1220, r6 A1216 m1217 n1218 l1215, b11 g1226 a1227] w)) (H : Aside0 (chain_Add_1.f a1203 a1204 a1205 a1206 a1207 l1215 a1220 a1221 a1222 a1223 a1224 a1227 = some r)) :
    Calls Tryd.prog 143 #[.agg #[.int .i64 a1203, .int .i64 a1204, .int .i64 a1205], .int .i64 a1206, .int .i64 a1207, .pointer (some ⟨g1209, 0, none⟩), .pointer (some ⟨g1226, 0, none⟩)] w fun e w' => e = .returned (.tuple #[]) ∧ Sep (fps [b10 g1209 g1211, b8 g1211 g1213 a1221 a1222 a1223 a1224, b7 g1213 A1216 m1217 n1218 a1220, r6 A1216 m1217 n1218 l1215, b11 g1226 a1227]) w [b10 g1209 g1211, b8 g1211 g1213 a1221 a1222 a1223 a1224, b7 g1213 A1216 m1217 n1218 r.1, r6 A1216 m1217 n1218 r.2, b11 g1226 a1227] w' := by
  generalize (fps [b10 g1209 g1211, b8 g1211 g1213 a1221 a1222 a1223 a1224, b7 g1213 A1216 m1217 n1218 a1220, r6 A1216 m1217 n1218 l1215, b11 g1226 a1227]) = FF at HS HGl0 ⊢
  obtain rfl := (row_len (HS.out.at3)).symm
  unfold chain_Add_1.f at H
  go_enter Tryd.func143, Tryd.ntmps143
  go_wp2_with (first | ((with_reducible refine gate_dst (N := 5) rfl ?_); refine box_on ?hg (N := 5) ?hd (cs := #[.int .i64 a1203, .int .i64 a1204, .int .i64 a1205]) (t := 166) ?hr ?_; (case hd => rfl); (case hg => rfl); (case hr => first | (go_simp; done) | (go_simp; rfl)); intro g1430 hg w1431 hbox hb; replace HS : Aside0 (Sep FF w [b10 g1209 g1211, b8 g1211 g1213 a1221 a1222 a1223 a1224, b7 g1213 A1216 l1215.length n1218 a1220, r6 A1216 l1215.length n1218 l1215, b11 g1226 a1227, b9 g1430 a1203 a1204 a1205] w1431) := ⟨HS.out.box hg hbox hb⟩; clear hg hbox hb; have hc1433 : w1431.cell? ⟨g1209, 0, none⟩ = some (.pointer (some ⟨g1211, 0, none⟩)) := blk_cellv (HS.out.at0) 0 rfl; have hc1434 : w1431.cell? ⟨g1226, 0, none⟩ = some (.int .i64 a1227) := blk_cellv (HS.out.at4) 0 rfl))
  clear hc1433 hc1434
  replace HS : Aside0 (Sep FF w [r6 A1216 l1215.length n1218 l1215, b10 g1209 g1211, b8 g1211 g1213 a1221 a1222 a1223 a1224, b7 g1213 A1216 l1215.length n1218 a1220, b11 g1226 a1227, b9 g1430 a1203 a1204 a1205] w1431) := ⟨HS.out.front 3 (by simp)⟩
  replace HS : Aside0 (Sep FF w [b7 g1213 A1216 l1215.length n1218 a1220, r6 A1216 l1215.length n1218 l1215, b10 g1209 g1211, b8 g1211 g1213 a1221 a1222 a1223 a1224, b11 g1226 a1227, b9 g1430 a1203 a1204 a1205] w1431) := ⟨HS.out.front 3 (by simp)⟩
  replace HS : Aside0 (Sep FF w [b8 g1211 g1213 a1221 a1222 a1223 a1224, b7 g1213 A1216 l1215.length n1218 a1220, r6 A1216 l1215.length n1218 l1215, b10 g1209 g1211, b11 g1226 a1227, b9 g1430 a1203 a1204 a1205] w1431) := ⟨HS.out.front 3 (by simp)⟩
  obtain ⟨t1435, HA1436, H⟩ := bind_some H
  refine (ground_Ground_SetWord.calls l1215 a1220 a1221 a1222 a1223 a1224 a1227 5 0 g1211 g1213 A1216 l1215.length n1218 t1435 _ ⟨HGl0.out.pass HS.out⟩ ⟨HS.out.begin⟩ HA1436).mono ?_
  rintro e_ w1437 ⟨rfl, hS⟩
  replace HS : Aside0 (Sep FF w [b8 g1211 g1213 a1221 a1222 a1223 a1224, b7 g1213 A1216 l1215.length n1218 t1435.2.1, r6 A1216 l1215.length n1218 t1435.2.2, b10 g1209 g1211, b11 g1226 a1227, b9 g1430 a1203 a1204 a1205] w1437) := ⟨HS.out.call hS⟩
  clear hS
  by_cases c1438 : a1207 = 0
  · replace H := if_yes c1438 H
    have c1438b0 : (a1207 == 0) = true := beq_iff_eq.mpr c1438
    have c1438b1 : (a1207 != 0) = false := bne_eq_false_iff_eq.mpr c1438
    clear c1438
    have hc1439 : w1437.cell? ⟨g1209, 0, none⟩ = some (.pointer (some ⟨g1211, 0, none⟩)) := blk_cellv (HS.out.at3) 0 rfl
    have hc1440 : w1437.cell? ⟨g1430, 0, none⟩ = some (.int .i64 a1203) := blk_cellv (HS.out.at5) 0 rfl
    go_wp2_with fail
    clear hc1439 hc1440
    obtain ⟨t1441, HA1442, H⟩ := bind_some H
    refine (ground_Ground_SetReg.calls t1435.2.2 t1435.2.1 a1221 a1222 a1223 a1224 a1203 a1206 g1211 g1213 A1216 l1215.length n1218 t1441 _ ⟨HGl0.out.pass HS.out⟩ ⟨HS.out.begin⟩ HA1442).mono ?_
    rintro e_ w1443 ⟨rfl, hS⟩
    replace HS : Aside0 (Sep FF w [b8 g1211 g1213 a1221 a1222 a1223 a1224, b7 g1213 A1216 l1215.length n1218 t1441.2.1, r6 A1216 l1215.length n1218 t1441.2.2, b10 g1209 g1211, b11 g1226 a1227, b9 g1430 a1203 a1204 a1205] w1443) := ⟨HS.out.call hS⟩
    clear hS
    have hc1444 : w1443.cell? ⟨g1209, 0, none⟩ = some (.pointer (some ⟨g1211, 0, none⟩)) := blk_cellv (HS.out.at3) 0 rfl
    have hc1445 : w1443.cell? ⟨g1430, 1, none⟩ = some (.int .i64 a1204) := blk_cellv (HS.out.at5) 1 rfl
    go_wp2_with fail
    clear hc1444 hc1445
    obtain ⟨t1446, HA1447, H⟩ := bind_some H
    refine (ground_Ground_SetReg.calls t1441.2.2 t1441.2.1 a1221 a1222 a1223 a1224 a1204 a1206 g1211 g1213 A1216 l1215.length n1218 t1446 _ ⟨HGl0.out.pass HS.out⟩ ⟨HS.out.begin⟩ HA1447).mono ?_
    rintro e_ w1448 ⟨rfl, hS⟩
    replace HS : Aside0 (Sep FF w [b8 g1211 g1213 a1221 a1222 a1223 a1224, b7 g1213 A1216 l1215.length n1218 t1446.2.1, r6 A1216 l1215.length n1218 t1446.2.2, b10 g1209 g1211, b11 g1226 a1227, b9 g1430 a1203 a1204 a1205] w1448) := ⟨HS.out.call hS⟩
    clear hS
    replace HS : Aside0 (Sep FF w [b8 g1211 g1213 a1221 a1222 a1223 a1224, b7 g1213 A1216 l1215.length n1218 t1446.2.1, r6 A1216 l1215.length n1218 t1446.2.2, b10 g1209 g1211, b11 g1226 a1227] w1448) := ⟨HS.out.sub (.cons_cons _ (.cons_cons _ (.cons_cons _ (.cons_cons _ (.cons_cons _ (.cons _ .slnil))))))⟩
    go_wp2_with fail
    first | go_end0 | refine bodyPost_ret (results_none rfl _ _ _) rfl ?_
    rw [← some_eq H]
    exact ⟨rfl, ((((((HS.out).front 4 (by simp)).front 3 (by simp)).front 3 (by simp)).front 3 (by simp)).front 4 (by simp)).keep (l := [b10 g1209 g1211, b8 g1211 g1213 a1221 a1222 a1223 a1224, b7 g1213 A1216 l1215.length n1218 t1446.2.1, r6 A1216 l1215.length n1218 t1446.2.2, b11 g1226 a1227]) (rest := [])⟩
  · replace H := if_no c1438 H
    have c1438b0 : (a1207 == 0) = false := beq_eq_false_iff_ne.mpr c1438
    have c1438b1 : (a1207 != 0) = true := bne_iff_ne.mpr c1438
    clear c1438
    go_wp2_with fail
    refine start_ (n := 9) (S := (fun w' => w'.cell? ⟨g1209, 0, none⟩ = some (.pointer (some ⟨g1211, 0, none⟩)) ∧ w'.cell? ⟨g1430, 1, none⟩ = some (.int .i64 a1204))) (ds := []) #[false, false, false, false, false, false, false, false, false] (by kernel_rfl) rfl rfl (⟨blk_cellv ((HS.out.drew).at3) 0 rfl, blk_cellv ((HS.out.drew).at5) 1 rfl⟩) (fun hHeld => ?_)
    have HS_ := Aside0.mk HS.out.drew
    clear HS
    generalize World.drew _ = w1450 at HS_ hHeld ⊢
    have HS := HS_
    clear HS_
    refine pure_ (i := 2) (N := some 20) (v := ?_) (a' := ?_) #[false, false, true, false, false, false, false, false, false] rfl rfl (by kernel_rfl) (fun _ _ _ h => h) (Or.inl ⟨by rfl, ?_⟩) ?_ ?_
    rotate_left
    · intro w'
      go_simp
      with_reducible rfl
    rotate_left
    · simp only [Act.put, List.setIfInBounds_toArray, List.set_cons_zero, List.set_cons_succ, i64_w, i32_w]
      rfl
    refine pure_ (i := 6) (N := some 24) (v := ?_) (a' := ?_) #[false, false, true, false, false, false, true, false, false] rfl rfl (by kernel_rfl) (fun _ _ _ h => h) (Or.inl ⟨by rfl, ?_⟩) ?_ ?_
    rotate_left
    · intro w'
      go_simp
      with_reducible rfl
    rotate_left
    · simp only [Act.put, List.setIfInBounds_toArray, List.set_cons_zero, List.set_cons_succ, i64_w, i32_w]
      rfl
    refine pure_ (i := 7) (N := some 25) (v := ?_) (a' := ?_) #[false, false, true, false, false, false, true, true, false] rfl rfl (by kernel_rfl) (fun _ _ _ h => h) (Or.inl ⟨by rfl, ?_⟩) ?_ ?_
    rotate_left
    · intro w'
      go_simp
      with_reducible rfl
    rotate_left
    · simp only [Act.put, List.setIfInBounds_toArray, List.set_cons_zero, List.set_cons_succ, i64_w, i32_w, IntKind.wrap_u32]
      rfl
    refine take_ (i := 0) (N := some 18) (v := ?_) (a' := ?_) #[true, false, true, false, false, false, true, true, false] rfl rfl (by kernel_rfl) (fun _ _ _ h => h) (Or.inl ⟨by rfl, ?_⟩) hHeld ?_ ?_
    rotate_left
    · rintro w' hS'
      obtain ⟨s0, s1⟩ := hS'
      go_simp
      with_reducible rfl
    rotate_left
    · simp only [Act.put, List.setIfInBounds_toArray, List.set_cons_zero, List.set_cons_succ, i64_w, i32_w]
      rfl
    refine take_ (i := 1) (N := some 19) (v := ?_) (a' := ?_) #[true, true, true, false, false, false, true, true, false] rfl rfl (by kernel_rfl) (fun _ _ _ h => h) (Or.inl ⟨by rfl, ?_⟩) hHeld ?_ ?_
    rotate_left
    · rintro w' hS'
      obtain ⟨s0, s1⟩ := hS'
      go_simp
      with_reducible rfl
    rotate_left
    · simp only [Act.put, List.setIfInBounds_toArray, List.set_cons_zero, List.set_cons_succ, i64_w, i32_w]
      rfl
    refine take_ (i := 3) (N := some 21) (v := ?_) (a' := ?_) #[true, true, true, true, false, false, true, true, false] rfl rfl (by kernel_rfl) (fun _ _ _ h => h) (Or.inl ⟨by rfl, ?_⟩) hHeld ?_ ?_
    rotate_left
    · rintro w' hS'
      obtain ⟨s0, s1⟩ := hS'
      go_simp
      with_reducible rfl
    rotate_left
    · simp only [Act.put, List.setIfInBounds_toArray, List.set_cons_zero, List.set_cons_succ, i64_w, i32_w]
      rfl
    refine one_ (i := 4) (N := some 22) #[true, true, true, true, true, false, true, true, false] rfl rfl (by kernel_rfl) (by decide) (fun K hK => ?_)
    obtain ⟨t1451, HA1452, H⟩ := bind_some H
    refine goes_ Tryd.func81 (by kernel_rfl) rfl #[.pointer (some ⟨g1211, 0, none⟩), .int .i64 a1204] (by rfl) rfl rfl (by (try simp only [List.map_toArray, List.map_cons, List.map_nil]); first | done | rfl) ?_
    refine (ground_Ground_Reg.calls t1435.2.2 t1435.2.1 a1221 a1222 a1223 a1224 a1204 g1211 g1213 A1216 l1215.length n1218 t1451 _ ⟨HGl0.out.pass HS.out⟩ ⟨HS.out.begin⟩ HA1452).mono ?_
    rintro e_ w1453 ⟨rfl, hS⟩
    replace HS : Aside0 (Sep FF w [b8 g1211 g1213 a1221 a1222 a1223 a1224, b7 g1213 A1216 l1215.length n1218 t1451.2, r6 A1216 l1215.length n1218 t1435.2.2, b10 g1209 g1211, b11 g1226 a1227, b9 g1430 a1203 a1204 a1205] w1453) := ⟨HS.out.call hS⟩
    clear hS
    refine ⟨_, rfl, ?_⟩
    refine hK.out _ _ (⟨blk_cellv (HS.out.at3) 0 rfl, blk_cellv (HS.out.at5) 1 rfl⟩) (fun hHeld => ?_)
    clear hK K
    refine norm_ (a' := ?_) ?_ ?_
    rotate_left
    · show Act.put _ (some 22) _ = _
      simp only [Act.put, List.setIfInBounds_toArray, List.set_cons_zero, List.set_cons_succ, i64_w, i32_w]
      rfl
    refine pure_ (i := 5) (N := some 23) (v := ?_) (a' := ?_) #[true, true, true, true, true, true, true, true, false] rfl rfl (by kernel_rfl) (fun _ _ _ h => h) (Or.inl ⟨by rfl, ?_⟩) ?_ ?_
    rotate_left
    · intro w'
      go_simp
      with_reducible rfl
    rotate_left
    · simp only [Act.put, List.setIfInBounds_toArray, List.set_cons_zero, List.set_cons_succ, i64_w, i32_w]
      rfl
    refine one_ (i := 8) (N := some 26) #[true, true, true, true, true, true, true, true, true] rfl rfl (by kernel_rfl) (by decide) (fun K hK => ?_)
    obtain ⟨t1454, HA1455, H⟩ := bind_some H
    refine goes_ Tryd.func17 (by kernel_rfl) rfl #[.pointer (some ⟨g1211, 0, none⟩), .int .i64 (wrap64 (t1451.1 - 1)), .int .i64 5, .int .u32 ((a1206) % 4294967296)] (by rfl) rfl rfl (by (try simp only [List.map_toArray, List.map_cons, List.map_nil]); first | done | rfl) ?_
    refine (ground_Ground_SetWord.calls t1435.2.2 t1451.2 a1221 a1222 a1223 a1224 (wrap64 (t1451.1 - 1)) 5 ((a1206) % 4294967296) g1211 g1213 A1216 l1215.length n1218 t1454 _ ⟨HGl0.out.pass HS.out⟩ ⟨HS.out.begin⟩ HA1455).mono ?_
    rintro e_ w1456 ⟨rfl, hS⟩
    replace HS : Aside0 (Sep FF w [b8 g1211 g1213 a1221 a1222 a1223 a1224, b7 g1213 A1216 l1215.length n1218 t1454.2.1, r6 A1216 l1215.length n1218 t1454.2.2, b10 g1209 g1211, b11 g1226 a1227, b9 g1430 a1203 a1204 a1205] w1456) := ⟨HS.out.call hS⟩
    clear hS
    refine ⟨_, rfl, ?_⟩
    refine hK.out _ _ (⟨blk_cellv (HS.out.at3) 0 rfl, blk_cellv (HS.out.at5) 1 rfl⟩) (fun hHeld => ?_)
    clear hK K
    refine norm_ (a' := ?_) ?_ ?_
    rotate_left
    · show Act.put _ (some 26) _ = _
      simp only [Act.put, List.setIfInBounds_toArray, List.set_cons_zero, List.set_cons_succ, i64_w, i32_w]
      rfl
    refine done_ (by kernel_rfl) ?_
    have hc1457 : w1456.cell? ⟨g1209, 0, none⟩ = some (.pointer (some ⟨g1211, 0, none⟩)) := blk_cellv (HS.out.at3) 0 rfl
    have hc1458 : w1456.cell? ⟨g1430, 1, none⟩ = some (.int .i64 a1204) := blk_cellv (HS.out.at5) 1 rfl
    go_wp2_with fail
    clear hc1457 hc1458
    obtain ⟨t1446, HA1459, H⟩ := bind_some H
    refine (ground_Ground_SetReg.calls t1454.2.2 t1454.2.1 a1221 a1222 a1223 a1224 a1204 a1206 g1211 g1213 A1216 l1215.length n1218 t1446 _ ⟨HGl0.out.pass HS.out⟩ ⟨HS.out.begin⟩ HA1459).mono ?_
    rintro e_ w1460 ⟨rfl, hS⟩
    replace HS : Aside0 (Sep FF w [b8 g1211 g1213 a1221 a1222 a1223 a1224, b7 g1213 A1216 l1215.length n1218 t1446.2.1, r6 A1216 l1215.length n1218 t1446.2.2, b10 g1209 g1211, b11 g1226 a1227, b9 g1430 a1203 a1204 a1205] w1460) := ⟨HS.out.call hS⟩
    clear hS
    replace HS : Aside0 (Sep FF w [b8 g1211 g1213 a1221 a1222 a1223 a1224, b7 g1213 A1216 l1215.length n1218 t1446.2.1, r6 A1216 l1215.length n1218 t1446.2.2, b10 g1209 g1211, b11 g1226 a1227] w1460) := ⟨HS.out.sub (.cons_cons _ (.cons_cons _ (.cons_cons _ (.cons_cons _ (.cons_cons _ (.cons _ .slnil))))))⟩
    go_wp2_with fail
    first | go_end0 | refine bodyPost_ret (results_none rfl _ _ _) rfl ?_
    rw [← some_eq H]
    exact ⟨rfl, ((((((HS.out).front 4 (by simp)).front 3 (by simp)).front 3 (by simp)).front 3 (by simp)).front 4 (by simp)).keep (l := [b10 g1209 g1211, b8 g1211 g1213 a1221 a1222 a1223 a1224, b7 g1213 A1216 l1215.length n1218 t1446.2.1, r6 A1216 l1215.length n1218 t1446.2.2, b11 g1226 a1227]) (rest := [])⟩
end Go.Proofs.YtobeonkddamnoaaDoor.C

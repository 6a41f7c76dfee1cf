/- Each function of the group CN does what its plain function says, and changes nothing that was there; proved by walking its code. No condition. -/
import Derived.Test.YtobeonkddamnoaaDoorQw
import Derived.Test.YtobeonkddamnoaaDoorMCN
namespace Go.Proofs.YtobeonkddamnoaaDoor.C
open Go.RowKit Go.Proofs.YtobeonkddamnoaaDoorW.PrintWords Go.Proofs.YtobeonkddamnoaaDoorW.PrintLast Go.Proofs.YtobeonkddamnoaaDoor.Q Go.Proofs.YtobeonkddamnoaaDoor.M
set_option linter.unusedVariables false
set_option linter.unusedSimpArgs false
def b1 (g : Nat) (x0 : Int) (x1 : Int) (x2 : Int) (x3 : Int) : Ob := blk g #[.int .i64 x0, .int .i64 x1, .int .i64 x2, .int .i64 x3] 30
def b2 (g : Nat) (x0 : Int) (x1 : Int) (x2 : Int) (x3 : Int) (x4 : Int) (x5 : Int) (x6 : Int) (x7 : Int) : Ob := blk g #[.int .i64 x0, .int .i64 x1, .int .i64 x2, .int .i64 x3, .int .i64 x4, .int .i64 x5, .int .i64 x6, .int .i64 x7] 97
def b3 (g : Nat) (x0 : Int) (x1 : Int) : Ob := blk g #[.int .i64 x0, .int .i64 x1] 3
def b4 (g : Nat) (x0 : Int) (x1 : Int) (x2 : Int) : Ob := blk g #[.int .i64 x0, .int .i64 x1, .int .i64 x2] 3
def r5 (A : Option Addr) (n c : Nat) (l : List Int) : Ob := row 33 (Value.int .u32) (.slice A n c) l
def b6 (g : Nat) (x0 : Option Addr) (x1 : Nat) (x2 : Nat) (x3 : Int) : Ob := blk g #[.slice x0 x1 x2, .int .u64 x3] 154
def b7 (g : Nat) (x0 : Nat) (x1 : Int) (x2 : Int) (x3 : Int) (x4 : Int) : Ob := blk g #[.pointer (some ⟨x0, 0, none⟩), .int .i64 x1, .int .i64 x2, .int .i64 x3, .int .i64 x4] 106
def b8 (g : Nat) (x0 : Int) (x1 : Int) (x2 : Int) : Ob := blk g #[.int .i64 x0, .int .i64 x1, .int .i64 x2] 166
def b9 (g : Nat) (x0 : Nat) : Ob := blk g #[.pointer (some ⟨x0, 0, none⟩)] 25
def b10 (g : Nat) (x0 : Int) : Ob := blk g #[.int .i64 x0] 3
def r11 (A : Option Addr) (n c : Nat) (l : List Int) : Ob := row 3 (Value.int .i64) (.slice A n c) l
def b12 (g : Nat) (x0 : Int) (x1 : Int) (x2 : Option Addr) (x3 : Nat) (x4 : Nat) : Ob := blk g #[.int .i64 x0, .int .i64 x1, .slice x2 x3 x4, .slice none 0 0] 180
def b13 (g : Nat) (x0 : Nat) (x1 : Int) (x2 : Int) (x3 : Int) (x4 : Int) (x5 : Int) (x6 : Int) (x7 : Int) (x8 : Int) (x9 : Int) (x10 : Int) : Ob := blk g #[.pointer (some ⟨x0, 0, none⟩), .slice none 0 0, .int .i64 x1, .int .i64 x2, .int .i64 x3, .int .i64 x4, .int .i64 x5, .int .i64 x6, .int .i64 x7, .int .i64 x8, .int .i64 x9, .slice none 0 0, .slice none 0 0, .int .i64 x10] 162
def b14 (g : Nat) (x0 : Nat) (x1 : Int) (x2 : Int) (x3 : Int) (x4 : Int) (x5 : Int) (x6 : Int) (x7 : Int) (x8 : Int) (x9 : Int) (x10 : Option Addr) (x11 : Nat) (x12 : Nat) (x13 : Int) : Ob := blk g #[.pointer (some ⟨x0, 0, none⟩), .slice none 0 0, .int .i64 x1, .int .i64 x2, .int .i64 x3, .int .i64 x4, .int .i64 x5, .int .i64 x6, .int .i64 x7, .int .i64 x8, .int .i64 x9, .slice x10 x11 x12, .slice none 0 0, .int .i64 x13] 162
def b15 (g : Nat) (x0 : Nat) (x1 : Int) (x2 : Int) (x3 : Int) (x4 : Int) (x5 : Int) (x6 : Int) (x7 : Int) (x8 : Int) (x9 : Int) (x10 : Option Addr) (x11 : Nat) (x12 : Nat) (x13 : Option Addr) (x14 : Nat) (x15 : Nat) (x16 : Int) : Ob := blk g #[.pointer (some ⟨x0, 0, none⟩), .slice none 0 0, .int .i64 x1, .int .i64 x2, .int .i64 x3, .int .i64 x4, .int .i64 x5, .int .i64 x6, .int .i64 x7, .int .i64 x8, .int .i64 x9, .slice x10 x11 x12, .slice x13 x14 x15, .int .i64 x16] 162
def b16 (g : Nat) (x0 : Int) : Ob := blk g #[.int .u32 x0] 33
def b17 (g : Nat) (x0 : Int) (x1 : Int) (x2 : Int) (x3 : Int) (x4 : Int) (x5 : Int) (x6 : Int) : Ob := blk g #[.int .i64 x0, .int .i64 x1, .int .i64 x2, .int .i64 x3, .int .i64 x4, .int .i64 x5, .int .i64 x6] 32
def b18 (g : Nat)  : Ob := blk g #[.slice none 0 0, .slice none 0 0] 71
def b19 (g : Nat) (x0 : Option Addr) (x1 : Nat) (x2 : Nat) : Ob := blk g #[.slice x0 x1 x2, .slice none 0 0] 71
def b20 (g : Nat) (x0 : Option Addr) (x1 : Nat) (x2 : Nat) (x3 : Option Addr) (x4 : Nat) (x5 : Nat) : Ob := blk g #[.slice x0 x1 x2, .slice x3 x4 x5] 71
def b21 (g : Nat) (x0 : Option Addr) (x1 : Nat) (x2 : Nat) : Ob := blk g #[.slice none 0 0, .slice x0 x1 x2] 71
def b22 (g : Nat) (x0 : Int) (x1 : Int) (x2 : Int) (x3 : Int) (x4 : Int) : Ob := blk g #[.int .i64 x0, .int .i64 x1, .int .i64 x2, .int .i64 x3, .int .i64 x4] 108
def b23 (g : Nat) (x0 : Int) (x1 : Int) : Ob := blk g #[.int .u32 x0, .int .u32 x1] 33
def b24 (g : Nat) (x0 : Int) (x1 : Int) (x2 : Int) (x3 : Int) (x4 : Int) (x5 : Int) (x6 : Int) (x7 : Int) : Ob := blk g #[.int .i64 x0, .int .i64 x1, .int .i64 x2, .int .i64 x3, .int .i64 x4, .int .i64 x5, .int .i64 x6, .int .i64 x7] 3

set_option maxHeartbeats 30000000 in
set_option maxRecDepth 100000 in
theorem ratio_Clamp.calls (a49 : Int) (a50 : Int) (a51 : Int) (r : Int) (w : World)  (HGl0 : Aside0 (Gl 0 #[.int .i64 0, .int .i64 0, .int .i64 0, .int .i64 0, .int .i64 0] (fps []) w)) (HS : Aside0 (Sep (fps []) w [] w)) (H : Aside0 (ratio_Clamp.f a49 a50 a51 = some r)) :
    Calls Tryd.prog 157 #[.int .i64 a49, .int .i64 a50, .int .i64 a51] w fun e w' => e = .returned (.int .i64 r) ∧ Sep (fps []) w [] w' := by
  unfold ratio_Clamp.f at H
  go_enter Tryd.func157, Tryd.ntmps157
  by_cases c52 : a49 > a51
  · have H := if_yes c52 H
    have c52b0 : decide (a51 < a49) = true := decide_eq_true c52
    clear c52
    go_wp2_with fail
    go_ret
    rw [← some_eq H]
    exact ⟨(by first | rfl | (simp [IntKind.wrap_u32]; done)), HS.out⟩
  · have H := if_no c52 H
    have c52b0 : decide (a51 < a49) = false := decide_eq_false c52
    clear c52
    by_cases c53 : a49 < a50
    · have H := if_yes c53 H
      have c53b0 : decide (a49 < a50) = true := decide_eq_true c53
      skip
      go_wp2_with fail
      clear c53
      go_ret
      rw [← some_eq H]
      exact ⟨(by first | rfl | (simp [IntKind.wrap_u32]; done)), HS.out⟩
    · have H := if_no c53 H
      have c53b0 : decide (a49 < a50) = false := decide_eq_false c53
      skip
      go_wp2_with fail
      clear c53
      go_ret
      rw [← some_eq H]
      exact ⟨(by first | rfl | (simp [IntKind.wrap_u32]; done)), HS.out⟩

set_option maxHeartbeats 30000000 in
set_option maxRecDepth 100000 in
theorem plan_within.calls (a46 : Int) (a47 : Int) (a48 : Int) (r : Bool) (w : World)  (HGl0 : Aside0 (Gl 0 #[.int .i64 0, .int .i64 0, .int .i64 0, .int .i64 0, .int .i64 0] (fps []) w)) (HS : Aside0 (Sep (fps []) w [] w)) (H : Aside0 (plan_within.f a46 a47 a48 = some r)) :
    Calls Tryd.prog 147 #[.int .i64 a46, .int .i64 a47, .int .i64 a48] w fun e w' => e = .returned (.bool r) ∧ Sep (fps []) w [] w' := by
  unfold plan_within.f at H
  go_enter Tryd.func147, Tryd.ntmps147
  go_wp2_with fail
  obtain ⟨t54, HA55, H⟩ := bind_some H
  refine (ratio_Clamp.calls a46 a47 a48 t54 _ ⟨HGl0.out.pass (l := []) HS.out⟩ ⟨Sep.start _⟩ HA55).mono ?_
  rintro e_ w56 ⟨rfl, hS⟩
  replace HS : Aside0 (Sep (fps []) w [] w56) := ⟨HS.out.call hS⟩
  clear hS
  go_wp2_with fail
  go_ret
  rw [← some_eq H]
  exact ⟨(by first | rfl | (simp [IntKind.wrap_u32]; done)), HS.out⟩

set_option maxHeartbeats 30000000 in
set_option maxRecDepth 100000 in
theorem plan_Check.calls (a38 : Int) (a39 : Int) (a40 : Int) (a41 : Int) (r : Int) (w : World)  (HGl0 : Aside0 (Gl 0 #[.int .i64 0, .int .i64 0, .int .i64 0, .int .i64 0, .int .i64 0] (fps []) w)) (HS : Aside0 (Sep (fps []) w [] w)) (H : Aside0 (plan_Check.f a38 a39 a40 a41 = some r)) :
    Calls Tryd.prog 121 #[.agg #[.int .i64 a38, .int .i64 a39, .int .i64 a40, .int .i64 a41]] w fun e w' => e = .returned (.int .i64 r) ∧ Sep (fps []) w [] w' := by
  unfold plan_Check.f at H
  go_enter Tryd.func121, Tryd.ntmps121
  go_wp2_with (first | ((with_reducible refine gate_dst (N := 1) rfl ?_); refine box_on ?hg (N := 1) ?hd (cs := #[.int .i64 a38, .int .i64 a39, .int .i64 a40, .int .i64 a41]) (t := 30) ?hr ?_; (case hd => rfl); (case hg => rfl); (case hr => first | (go_simp; done) | (go_simp; rfl)); intro g42 hg w43 hbox hb; replace HS : Aside0 (Sep (fps []) w [b1 g42 a38 a39 a40 a41] w43) := ⟨HS.out.box hg hbox hb⟩; clear hg hbox hb; have hc45 : w43.cell? ⟨g42, 0, none⟩ = some (.int .i64 a38) := blk_cellv (HS.out.at0) 0 rfl))
  clear hc45
  obtain ⟨t57, HA58, H⟩ := bind_some H
  refine (plan_within.calls a38 1 1048576 t57 _ ⟨HGl0.out.pass (l := []) HS.out⟩ ⟨Sep.start _⟩ HA58).mono ?_
  rintro e_ w59 ⟨rfl, hS⟩
  replace HS : Aside0 (Sep (fps []) w [b1 g42 a38 a39 a40 a41] w59) := ⟨HS.out.call hS⟩
  clear hS
  by_cases c60 : t57 = true
  · have H := if_yes c60 H
    have c60b0 : t57 = true := c60
    have c60b1 : (!t57) = false := by rw [c60b0]; rfl
    clear c60
    have hc61 : w59.cell? ⟨g42, 1, none⟩ = some (.int .i64 a39) := blk_cellv (HS.out.at0) 1 rfl
    go_wp2_with fail
    clear hc61
    obtain ⟨t62, HA63, H⟩ := bind_some H
    refine (plan_within.calls a39 16 256 t62 _ ⟨HGl0.out.pass (l := []) HS.out⟩ ⟨Sep.start _⟩ HA63).mono ?_
    rintro e_ w64 ⟨rfl, hS⟩
    replace HS : Aside0 (Sep (fps []) w [b1 g42 a38 a39 a40 a41] w64) := ⟨HS.out.call hS⟩
    clear hS
    by_cases c65 : t62 = true
    · have H := if_yes c65 H
      have c65b0 : t62 = true := c65
      have c65b1 : (!t62) = false := by rw [c65b0]; rfl
      clear c65
      have hc66 : w64.cell? ⟨g42, 2, none⟩ = some (.int .i64 a40) := blk_cellv (HS.out.at0) 2 rfl
      go_wp2_with fail
      clear hc66
      obtain ⟨t67, HA68, H⟩ := bind_some H
      refine (plan_within.calls a40 1 4096 t67 _ ⟨HGl0.out.pass (l := []) HS.out⟩ ⟨Sep.start _⟩ HA68).mono ?_
      rintro e_ w69 ⟨rfl, hS⟩
      replace HS : Aside0 (Sep (fps []) w [b1 g42 a38 a39 a40 a41] w69) := ⟨HS.out.call hS⟩
      clear hS
      by_cases c70 : t67 = true
      · have H := if_yes c70 H
        have c70b0 : t67 = true := c70
        have c70b1 : (!t67) = false := by rw [c70b0]; rfl
        clear c70
        have hc71 : w69.cell? ⟨g42, 3, none⟩ = some (.int .i64 a41) := blk_cellv (HS.out.at0) 3 rfl
        go_wp2_with fail
        clear hc71
        obtain ⟨t72, HA73, H⟩ := bind_some H
        refine (plan_within.calls a41 1 65536 t72 _ ⟨HGl0.out.pass (l := []) HS.out⟩ ⟨Sep.start _⟩ HA73).mono ?_
        rintro e_ w74 ⟨rfl, hS⟩
        replace HS : Aside0 (Sep (fps []) w [b1 g42 a38 a39 a40 a41] w74) := ⟨HS.out.call hS⟩
        clear hS
        by_cases c75 : t72 = true
        · have H := if_yes c75 H
          have c75b0 : t72 = true := c75
          have c75b1 : (!t72) = false := by rw [c75b0]; rfl
          clear c75
          by_cases c78 : (wrap64 (a38 * a39)) ≤ 4194304
          · have H := if_yes c78 H
            have c78b0 : decide ((wrap64 (a38 * a39)) ≤ 4194304) = true := decide_eq_true c78
            clear c78
            have hc76 : w74.cell? ⟨g42, 0, none⟩ = some (.int .i64 a38) := blk_cellv (HS.out.at0) 0 rfl
            have hc77 : w74.cell? ⟨g42, 1, none⟩ = some (.int .i64 a39) := blk_cellv (HS.out.at0) 1 rfl
            replace HS : Aside0 (Sep (fps []) w [] w74) := ⟨HS.out.sub (.cons _ .slnil)⟩
            go_wp2_with fail
            clear hc76 hc77
            go_ret
            rw [← some_eq H]
            exact ⟨(by first | rfl | (simp [IntKind.wrap_u32]; done)), HS.out⟩
          · have H := if_no c78 H
            have c78b0 : decide ((wrap64 (a38 * a39)) ≤ 4194304) = false := decide_eq_false c78
            clear c78
            have hc76 : w74.cell? ⟨g42, 0, none⟩ = some (.int .i64 a38) := blk_cellv (HS.out.at0) 0 rfl
            have hc77 : w74.cell? ⟨g42, 1, none⟩ = some (.int .i64 a39) := blk_cellv (HS.out.at0) 1 rfl
            replace HS : Aside0 (Sep (fps []) w [] w74) := ⟨HS.out.sub (.cons _ .slnil)⟩
            go_wp2_with fail
            clear hc76 hc77
            go_ret
            rw [← some_eq H]
            exact ⟨(by first | rfl | (simp [IntKind.wrap_u32]; done)), HS.out⟩
        · have H := if_no c75 H
          have c75b0 : t72 = false := by simpa using c75
          have c75b1 : (!t72) = true := by rw [c75b0]; rfl
          clear c75
          replace HS : Aside0 (Sep (fps []) w [] w74) := ⟨HS.out.sub (.cons _ .slnil)⟩
          go_wp2_with fail
          go_ret
          rw [← some_eq H]
          exact ⟨(by first | rfl | (simp [IntKind.wrap_u32]; done)), HS.out⟩
      · have H := if_no c70 H
        have c70b0 : t67 = false := by simpa using c70
        have c70b1 : (!t67) = true := by rw [c70b0]; rfl
        clear c70
        replace HS : Aside0 (Sep (fps []) w [] w69) := ⟨HS.out.sub (.cons _ .slnil)⟩
        go_wp2_with fail
        go_ret
        rw [← some_eq H]
        exact ⟨(by first | rfl | (simp [IntKind.wrap_u32]; done)), HS.out⟩
    · have H := if_no c65 H
      have c65b0 : t62 = false := by simpa using c65
      have c65b1 : (!t62) = true := by rw [c65b0]; rfl
      clear c65
      replace HS : Aside0 (Sep (fps []) w [] w64) := ⟨HS.out.sub (.cons _ .slnil)⟩
      go_wp2_with fail
      go_ret
      rw [← some_eq H]
      exact ⟨(by first | rfl | (simp [IntKind.wrap_u32]; done)), HS.out⟩
  · have H := if_no c60 H
    have c60b0 : t57 = false := by simpa using c60
    have c60b1 : (!t57) = true := by rw [c60b0]; rfl
    clear c60
    replace HS : Aside0 (Sep (fps []) w [] w59) := ⟨HS.out.sub (.cons _ .slnil)⟩
    go_wp2_with fail
    go_ret
    rw [← some_eq H]
    exact ⟨(by first | rfl | (simp [IntKind.wrap_u32]; done)), HS.out⟩

set_option maxHeartbeats 30000000 in
set_option maxRecDepth 100000 in
theorem ratio_counts.calls (a111 : Int) (r : Int) (w : World)  (HGl0 : Aside0 (Gl 0 #[.int .i64 0, .int .i64 0, .int .i64 0, .int .i64 0, .int .i64 0] (fps []) w)) (HS : Aside0 (Sep (fps []) w [] w)) (H : Aside0 (ratio_counts.f a111 = some r)) :
    Calls Tryd.prog 148 #[.int .i64 a111] w fun e w' => e = .returned (.int .i64 r) ∧ Sep (fps []) w [] w' := by
  unfold ratio_counts.f at H
  go_enter Tryd.func148, Tryd.ntmps148
  go_wp2_with fail
  obtain ⟨t112, HA113, H⟩ := bind_some H
  refine (ratio_Clamp.calls a111 0 1125899906842624 t112 _ ⟨HGl0.out.pass (l := []) HS.out⟩ ⟨Sep.start _⟩ HA113).mono ?_
  rintro e_ w114 ⟨rfl, hS⟩
  replace HS : Aside0 (Sep (fps []) w [] w114) := ⟨HS.out.call hS⟩
  clear hS
  go_wp2_with fail
  go_ret
  rw [← some_eq H]
  exact ⟨(by first | rfl | (simp [IntKind.wrap_u32]; done)), HS.out⟩

set_option maxHeartbeats 30000000 in
set_option maxRecDepth 100000 in
theorem ratio_zero.calls (a110 : Int) (r : Bool) (w : World)  (HGl0 : Aside0 (Gl 0 #[.int .i64 0, .int .i64 0, .int .i64 0, .int .i64 0, .int .i64 0] (fps []) w)) (HS : Aside0 (Sep (fps []) w [] w)) (H : Aside0 (ratio_zero.f a110 = some r)) :
    Calls Tryd.prog 150 #[.int .i64 a110] w fun e w' => e = .returned (.bool r) ∧ Sep (fps []) w [] w' := by
  unfold ratio_zero.f at H
  go_enter Tryd.func150, Tryd.ntmps150
  go_wp2_with fail
  obtain ⟨t115, HA116, H⟩ := bind_some H
  refine (ratio_counts.calls a110 t115 _ ⟨HGl0.out.pass (l := []) HS.out⟩ ⟨Sep.start _⟩ HA116).mono ?_
  rintro e_ w117 ⟨rfl, hS⟩
  replace HS : Aside0 (Sep (fps []) w [] w117) := ⟨HS.out.call hS⟩
  clear hS
  go_wp2_with fail
  go_ret
  rw [← some_eq H]
  exact ⟨(by first | rfl | (simp [IntKind.wrap_u32]; done)), HS.out⟩

set_option maxHeartbeats 30000000 in
set_option maxRecDepth 100000 in
theorem slices_IndexFunc_int_int_F150.calls (k : Nat) (l96 : List Int) (A97 : Option Addr) (n98 : Nat) (r : Int) (w : World) (HR99 : Aside0 (Rd (Kd.int .i64) (fps []) w A97 l96.length l96)) (HGl0 : Aside0 (Gl 0 #[.int .i64 0, .int .i64 0, .int .i64 0, .int .i64 0, .int .i64 0] (fps []) w)) (HS : Aside0 (Sep (fps []) w [] w)) (H : Aside0 (slices_IndexFunc_int_int_F150.f k l96 = some r)) :
    Calls Tryd.prog 158 #[.slice A97 l96.length n98, .func (.func 150) #[] #[]] w fun e w' => e = .returned (.int .i64 r) ∧ Sep (fps []) w [] w' := by
  unfold slices_IndexFunc_int_int_F150.f at H
  go_enter Tryd.func158, Tryd.ntmps158
  go_wp2_with fail
  obtain ⟨o122, AL123, H⟩ := bind_some H
  go_loopg [8] k (fun kq v8 wc => ∃ (x126 : Int), v8 = .int .i64 x126 ∧ Aside0 (slices_IndexFunc_int_int_F150.lo0 kq l96 x126 = some o122) ∧ Aside0 (Sep (fps []) w [] wc))
  case atStart => exact ⟨(0), (by first | rfl | (simp [IntKind.wrap_u32]; done)), AL123, ⟨HS.out⟩⟩
  case round =>
    clear AL123 HS
    obtain ⟨x126, rfl, AL123, HS⟩ := hrel
    obtain ⟨w124, rfl⟩ : ∃ x : World, x = wr := ⟨_, rfl⟩
    cases gk with
    | zero => exact absurd AL123.out (by simp [slices_IndexFunc_int_int_F150.lo0])
    | succ k125 =>
      have AL0 := AL123.out
      rw [slices_IndexFunc_int_int_F150.lo0] at AL0
      clear AL123
      have AL123 := Aside0.mk AL0
      clear AL0
      by_cases c127 : x126 < (l96.length : Int)
      · have AL123 := if_yes c127 AL123
        have c127b0 : decide (x126 < (l96.length : Int)) = true := decide_eq_true c127
        clear c127
        by_cases c128 : 0 ≤ x126
        · have AL123 := if_yes c128 AL123
          have c128b0 : decide (0 ≤ x126) = true := decide_eq_true c128
          have c128p : (0 ≤ x126) = True := eq_true c128
          clear c128
          have ip129 : (x126 < (l96.length : Int)) = True := eq_true (of_decide_eq_true c127b0)
          obtain ⟨hx130a, hx130e, hx130⟩ := Kd.at_int (Rd.read (fun _ _ _ _ h => h) HR99.out HS.out.fr) x126 (of_decide_eq_true c128b0) (of_decide_eq_true c127b0); cases hx130e
          go_wp2_with fail
          clear hx130
          obtain ⟨t118, HA131, AL123⟩ := bind_some AL123
          refine (ratio_zero.calls (rd l96 x126) t118 _ ⟨HGl0.out.pass (l := []) HS.out⟩ ⟨Sep.start _⟩ HA131).mono ?_
          rintro e_ w132 ⟨rfl, hS⟩
          replace HS : Aside0 (Sep (fps []) w [] w132) := ⟨HS.out.call hS⟩
          clear hS
          by_cases c133 : t118 = true
          · have AL123 := if_yes c133 AL123
            have c133b0 : t118 = true := c133
            have c133b1 : (!t118) = false := by rw [c133b0]; rfl
            clear c133
            go_wp2_with fail
            have ho := some_eq AL123
            subst ho
            have H := lp_ret H
            go_ret
            rw [← some_eq H]
            exact ⟨(by first | rfl | (simp [IntKind.wrap_u32]; done)), HS.out⟩
          · have AL123 := if_no c133 AL123
            have c133b0 : t118 = false := by simpa using c133
            have c133b1 : (!t118) = true := by rw [c133b0]; rfl
            clear c133
            go_wp2_with fail
            go_roundg k125
            case measure => exact Nat.lt_succ_self _
            case rel => exact ⟨(wrap64 (x126 + 1)), (by first | rfl | (simp [IntKind.wrap_u32]; done)), Aside0.mk AL123.out, ⟨HS.out⟩⟩
        · have AL123 := if_no c128 AL123
          have c128b0 : decide (0 ≤ x126) = false := decide_eq_false c128
          clear c128
          exact (none_no AL123).elim
      · have AL123 := if_no c127 AL123
        have c127b0 : decide (x126 < (l96.length : Int)) = false := decide_eq_false c127
        clear c127
        have ho := some_eq AL123
        subst ho
        clear AL123
        have H := lp_out H
        go_wp2_with fail
        go_ret
        rw [← some_eq H]
        exact ⟨(by first | rfl | (simp [IntKind.wrap_u32]; done)), HS.out⟩

set_option maxHeartbeats 30000000 in
set_option maxRecDepth 100000 in
theorem slices_ContainsFunc_int_int_F150.calls (k : Nat) (l92 : List Int) (A93 : Option Addr) (n94 : Nat) (r : Bool) (w : World) (HR95 : Aside0 (Rd (Kd.int .i64) (fps []) w A93 l92.length l92)) (HGl0 : Aside0 (Gl 0 #[.int .i64 0, .int .i64 0, .int .i64 0, .int .i64 0, .int .i64 0] (fps []) w)) (HS : Aside0 (Sep (fps []) w [] w)) (H : Aside0 (slices_ContainsFunc_int_int_F150.f k l92 = some r)) :
    Calls Tryd.prog 149 #[.slice A93 l92.length n94, .func (.func 150) #[] #[]] w fun e w' => e = .returned (.bool r) ∧ Sep (fps []) w [] w' := by
  unfold slices_ContainsFunc_int_int_F150.f at H
  go_enter Tryd.func149, Tryd.ntmps149
  go_wp2_with fail
  obtain ⟨t135, HA136, H⟩ := bind_some H
  refine (slices_IndexFunc_int_int_F150.calls _ l92 A93 n94 t135 _ ⟨Rd.pass (l := []) (by decide) (fun _ _ _ _ h => h) HR95.out HS.out⟩ ⟨HGl0.out.pass (l := []) HS.out⟩ ⟨Sep.start _⟩ HA136).mono ?_
  rintro e_ w137 ⟨rfl, hS⟩
  replace HS : Aside0 (Sep (fps []) w [] w137) := ⟨HS.out.call hS⟩
  clear hS
  go_wp2_with fail
  go_ret
  rw [← some_eq H]
  exact ⟨(by first | rfl | (simp [IntKind.wrap_u32]; done)), HS.out⟩

set_option maxHeartbeats 30000000 in
set_option maxRecDepth 100000 in
theorem ratio_Mul.calls (k : Nat) (l88 : List Int) (A89 : Option Addr) (n90 : Nat) (r : Int) (w : World) (HR91 : Aside0 (Rd (Kd.int .i64) (fps []) w A89 l88.length l88)) (HGl0 : Aside0 (Gl 0 #[.int .i64 0, .int .i64 0, .int .i64 0, .int .i64 0, .int .i64 0] (fps []) w)) (HS : Aside0 (Sep (fps []) w [] w)) (H : Aside0 (ratio_Mul.f k l88 = some r)) :
    Calls Tryd.prog 123 #[.slice A89 l88.length n90] w fun e w' => e = .returned (.int .i64 r) ∧ Sep (fps []) w [] w' := by
  unfold ratio_Mul.f at H
  go_enter Tryd.func123, Tryd.ntmps123
  go_wp2_with fail
  obtain ⟨t138, HA139, H⟩ := bind_some H
  refine (slices_ContainsFunc_int_int_F150.calls _ l88 A89 n90 t138 _ ⟨Rd.pass (l := []) (by decide) (fun _ _ _ _ h => h) HR91.out HS.out⟩ ⟨HGl0.out.pass (l := []) HS.out⟩ ⟨Sep.start _⟩ HA139).mono ?_
  rintro e_ w140 ⟨rfl, hS⟩
  replace HS : Aside0 (Sep (fps []) w [] w140) := ⟨HS.out.call hS⟩
  clear hS
  by_cases c141 : t138 = true
  · have H := if_yes c141 H
    have c141b0 : t138 = true := c141
    have c141b1 : (!t138) = false := by rw [c141b0]; rfl
    clear c141
    go_wp2_with fail
    go_ret
    rw [← some_eq H]
    exact ⟨(by first | rfl | (simp [IntKind.wrap_u32]; done)), HS.out⟩
  · have H := if_no c141 H
    have c141b0 : t138 = false := by simpa using c141
    have c141b1 : (!t138) = true := by rw [c141b0]; rfl
    clear c141
    go_wp2_with fail
    obtain ⟨o143, AL144, H⟩ := bind_some H
    go_loopg [3, 11] k (fun kq v3 v11 wc => ∃ (x147 : Int) (x148 : Int), v3 = .int .i64 x147 ∧ v11 = .int .i64 x148 ∧ Aside0 (ratio_Mul.lo0 kq l88 x147 x148 = some o143) ∧ Aside0 (Sep (fps []) w [] wc))
    case atStart => exact ⟨(1), (0), (by first | rfl | (simp [IntKind.wrap_u32]; done)), (by first | rfl | (simp [IntKind.wrap_u32]; done)), AL144, ⟨HS.out⟩⟩
    case round =>
      clear AL144 HS
      obtain ⟨x147, x148, rfl, rfl, AL144, HS⟩ := hrel
      obtain ⟨w145, rfl⟩ : ∃ x : World, x = wr := ⟨_, rfl⟩
      cases gk with
      | zero => exact absurd AL144.out (by simp [ratio_Mul.lo0])
      | succ k146 =>
        have AL0 := AL144.out
        rw [ratio_Mul.lo0] at AL0
        clear AL144
        have AL144 := Aside0.mk AL0
        clear AL0
        by_cases c149 : x148 < (l88.length : Int)
        · have AL144 := if_yes c149 AL144
          have c149b0 : decide (x148 < (l88.length : Int)) = true := decide_eq_true c149
          clear c149
          by_cases c150 : 0 ≤ x148
          · have AL144 := if_yes c150 AL144
            have c150b0 : decide (0 ≤ x148) = true := decide_eq_true c150
            have c150p : (0 ≤ x148) = True := eq_true c150
            clear c150
            have ip151 : (x148 < (l88.length : Int)) = True := eq_true (of_decide_eq_true c149b0)
            obtain ⟨hx152a, hx152e, hx152⟩ := Kd.at_int (Rd.read (fun _ _ _ _ h => h) HR91.out HS.out.fr) x148 (of_decide_eq_true c150b0) (of_decide_eq_true c149b0); cases hx152e
            go_wp2_with fail
            clear hx152
            obtain ⟨t153, HA154, AL144⟩ := bind_some AL144
            refine (ratio_counts.calls (rd l88 x148) t153 _ ⟨HGl0.out.pass (l := []) HS.out⟩ ⟨Sep.start _⟩ HA154).mono ?_
            rintro e_ w155 ⟨rfl, hS⟩
            replace HS : Aside0 (Sep (fps []) w [] w155) := ⟨HS.out.call hS⟩
            clear hS
            by_cases c156 : t153 = 0
            · have AL144 := if_yes c156 AL144
              have c156b0 : (t153 == 0) = true := beq_iff_eq.mpr c156
              have c156b1 : (t153 != 0) = false := bne_eq_false_iff_eq.mpr c156
              exact (none_no AL144).elim
            · have AL144 := if_no c156 AL144
              have c156b0 : (t153 == 0) = false := beq_eq_false_iff_ne.mpr c156
              have c156b1 : (t153 != 0) = true := bne_iff_ne.mpr c156
              by_cases c157 : x147 ≤ (wrap64 (Int.tdiv (1125899906842624 : Int) t153))
              · have AL144 := if_yes c157 AL144
                have c157b0 : decide (x147 ≤ (wrap64 (Int.tdiv (1125899906842624 : Int) t153))) = true := decide_eq_true c157
                clear c157
                skip
                go_wp2_with fail
                clear c156
                go_roundg k146
                case measure => exact Nat.lt_succ_self _
                case rel => exact ⟨(wrap64 (x147 * t153)), (wrap64 (x148 + 1)), (by first | rfl | (simp [IntKind.wrap_u32]; done)), (by first | rfl | (simp [IntKind.wrap_u32]; done)), Aside0.mk AL144.out, ⟨HS.out⟩⟩
              · have AL144 := if_no c157 AL144
                have c157b0 : decide (x147 ≤ (wrap64 (Int.tdiv (1125899906842624 : Int) t153))) = false := decide_eq_false c157
                clear c157
                skip
                go_wp2_with fail
                clear c156
                go_roundg k146
                case measure => exact Nat.lt_succ_self _
                case rel => exact ⟨(1125899906842624), (wrap64 (x148 + 1)), (by first | rfl | (simp [IntKind.wrap_u32]; done)), (by first | rfl | (simp [IntKind.wrap_u32]; done)), Aside0.mk AL144.out, ⟨HS.out⟩⟩
          · have AL144 := if_no c150 AL144
            have c150b0 : decide (0 ≤ x148) = false := decide_eq_false c150
            clear c150
            exact (none_no AL144).elim
        · have AL144 := if_no c149 AL144
          have c149b0 : decide (x148 < (l88.length : Int)) = false := decide_eq_false c149
          clear c149
          have ho := some_eq AL144
          subst ho
          clear AL144
          go_wp2_with fail
          go_ret
          rw [← some_eq H]
          exact ⟨(by first | rfl | (simp [IntKind.wrap_u32]; done)), HS.out⟩

set_option maxHeartbeats 30000000 in
set_option maxRecDepth 100000 in
theorem ratio_Add.calls (k : Nat) (l165 : List Int) (A166 : Option Addr) (n167 : Nat) (r : Int) (w : World) (HR168 : Aside0 (Rd (Kd.int .i64) (fps []) w A166 l165.length l165)) (HGl0 : Aside0 (Gl 0 #[.int .i64 0, .int .i64 0, .int .i64 0, .int .i64 0, .int .i64 0] (fps []) w)) (HS : Aside0 (Sep (fps []) w [] w)) (H : Aside0 (ratio_Add.f k l165 = some r)) :
    Calls Tryd.prog 122 #[.slice A166 l165.length n167] w fun e w' => e = .returned (.int .i64 r) ∧ Sep (fps []) w [] w' := by
  unfold ratio_Add.f at H
  go_enter Tryd.func122, Tryd.ntmps122
  go_wp2_with fail
  obtain ⟨o170, AL171, H⟩ := bind_some H
  go_loopg [3, 8] k (fun kq v3 v8 wc => ∃ (x174 : Int) (x175 : Int), v3 = .int .i64 x174 ∧ v8 = .int .i64 x175 ∧ Aside0 (ratio_Add.lo0 kq l165 x174 x175 = some o170) ∧ Aside0 (Sep (fps []) w [] wc))
  case atStart => exact ⟨(0), (0), (by first | rfl | (simp [IntKind.wrap_u32]; done)), (by first | rfl | (simp [IntKind.wrap_u32]; done)), AL171, ⟨HS.out⟩⟩
  case round =>
    clear AL171 HS
    obtain ⟨x174, x175, rfl, rfl, AL171, HS⟩ := hrel
    obtain ⟨w172, rfl⟩ : ∃ x : World, x = wr := ⟨_, rfl⟩
    cases gk with
    | zero => exact absurd AL171.out (by simp [ratio_Add.lo0])
    | succ k173 =>
      have AL0 := AL171.out
      rw [ratio_Add.lo0] at AL0
      clear AL171
      have AL171 := Aside0.mk AL0
      clear AL0
      by_cases c176 : x175 < (l165.length : Int)
      · have AL171 := if_yes c176 AL171
        have c176b0 : decide (x175 < (l165.length : Int)) = true := decide_eq_true c176
        clear c176
        by_cases c177 : 0 ≤ x175
        · have AL171 := if_yes c177 AL171
          have c177b0 : decide (0 ≤ x175) = true := decide_eq_true c177
          have c177p : (0 ≤ x175) = True := eq_true c177
          clear c177
          have ip178 : (x175 < (l165.length : Int)) = True := eq_true (of_decide_eq_true c176b0)
          obtain ⟨hx179a, hx179e, hx179⟩ := Kd.at_int (Rd.read (fun _ _ _ _ h => h) HR168.out HS.out.fr) x175 (of_decide_eq_true c177b0) (of_decide_eq_true c176b0); cases hx179e
          go_wp2_with fail
          clear hx179
          obtain ⟨t180, HA181, AL171⟩ := bind_some AL171
          refine (ratio_counts.calls (rd l165 x175) t180 _ ⟨HGl0.out.pass (l := []) HS.out⟩ ⟨Sep.start _⟩ HA181).mono ?_
          rintro e_ w182 ⟨rfl, hS⟩
          replace HS : Aside0 (Sep (fps []) w [] w182) := ⟨HS.out.call hS⟩
          clear hS
          by_cases c183 : 1125899906842624 < (wrap64 (x174 + t180))
          · have AL171 := if_yes c183 AL171
            have c183b0 : decide (1125899906842624 < (wrap64 (x174 + t180))) = true := decide_eq_true c183
            skip
            go_wp2_with fail
            clear c183
            go_roundg k173
            case measure => exact Nat.lt_succ_self _
            case rel => exact ⟨(1125899906842624), (wrap64 (x175 + 1)), (by first | rfl | (simp [IntKind.wrap_u32]; done)), (by first | rfl | (simp [IntKind.wrap_u32]; done)), Aside0.mk AL171.out, ⟨HS.out⟩⟩
          · have AL171 := if_no c183 AL171
            have c183b0 : decide (1125899906842624 < (wrap64 (x174 + t180))) = false := decide_eq_false c183
            skip
            go_wp2_with fail
            clear c183
            go_roundg k173
            case measure => exact Nat.lt_succ_self _
            case rel => exact ⟨(wrap64 (x174 + t180)), (wrap64 (x175 + 1)), (by first | rfl | (simp [IntKind.wrap_u32]; done)), (by first | rfl | (simp [IntKind.wrap_u32]; done)), Aside0.mk AL171.out, ⟨HS.out⟩⟩
        · have AL171 := if_no c177 AL171
          have c177b0 : decide (0 ≤ x175) = false := decide_eq_false c177
          clear c177
          exact (none_no AL171).elim
      · have AL171 := if_no c176 AL171
        have c176b0 : decide (x175 < (l165.length : Int)) = false := decide_eq_false c176
        clear c176
        have ho := some_eq AL171
        subst ho
        clear AL171
        go_wp2_with fail
        go_ret
        rw [← some_eq H]
        exact ⟨(by first | rfl | (simp [IntKind.wrap_u32]; done)), HS.out⟩

set_option maxHeartbeats 30000000 in
set_option maxRecDepth 100000 in
theorem ratio_by.calls (a394 : Int) (r : Int) (w : World)  (HGl0 : Aside0 (Gl 0 #[.int .i64 0, .int .i64 0, .int .i64 0, .int .i64 0, .int .i64 0] (fps []) w)) (HS : Aside0 (Sep (fps []) w [] w)) (H : Aside0 (ratio_by.f a394 = some r)) :
    Calls Tryd.prog 151 #[.int .i64 a394] w fun e w' => e = .returned (.int .i64 r) ∧ Sep (fps []) w [] w' := by
  unfold ratio_by.f at H
  go_enter Tryd.func151, Tryd.ntmps151
  go_wp2_with fail
  obtain ⟨t395, HA396, H⟩ := bind_some H
  refine (ratio_counts.calls a394 t395 _ ⟨HGl0.out.pass (l := []) HS.out⟩ ⟨Sep.start _⟩ HA396).mono ?_
  rintro e_ w397 ⟨rfl, hS⟩
  replace HS : Aside0 (Sep (fps []) w [] w397) := ⟨HS.out.call hS⟩
  clear hS
  by_cases c398 : t395 < 1
  · have H := if_yes c398 H
    have c398b0 : decide (t395 < 1) = true := decide_eq_true c398
    skip
    go_wp2_with fail
    clear c398
    go_ret
    rw [← some_eq H]
    exact ⟨(by first | rfl | (simp [IntKind.wrap_u32]; done)), HS.out⟩
  · have H := if_no c398 H
    have c398b0 : decide (t395 < 1) = false := decide_eq_false c398
    skip
    go_wp2_with fail
    clear c398
    go_ret
    rw [← some_eq H]
    exact ⟨(by first | rfl | (simp [IntKind.wrap_u32]; done)), HS.out⟩

set_option maxHeartbeats 30000000 in
set_option maxRecDepth 100000 in
theorem ratio_Up.calls (a389 : Int) (a390 : Int) (r : Int) (w : World)  (HGl0 : Aside0 (Gl 0 #[.int .i64 0, .int .i64 0, .int .i64 0, .int .i64 0, .int .i64 0] (fps []) w)) (HS : Aside0 (Sep (fps []) w [] w)) (H : Aside0 (ratio_Up.f a389 a390 = some r)) :
    Calls Tryd.prog 124 #[.int .i64 a389, .int .i64 a390] w fun e w' => e = .returned (.int .i64 r) ∧ Sep (fps []) w [] w' := by
  unfold ratio_Up.f at H
  go_enter Tryd.func124, Tryd.ntmps124
  go_wp2_with fail
  obtain ⟨t391, HA392, H⟩ := bind_some H
  refine (ratio_counts.calls a389 t391 _ ⟨HGl0.out.pass (l := []) HS.out⟩ ⟨Sep.start _⟩ HA392).mono ?_
  rintro e_ w393 ⟨rfl, hS⟩
  replace HS : Aside0 (Sep (fps []) w [] w393) := ⟨HS.out.call hS⟩
  clear hS
  go_wp2_with fail
  obtain ⟨t399, HA400, H⟩ := bind_some H
  refine (ratio_by.calls a390 t399 _ ⟨HGl0.out.pass (l := []) HS.out⟩ ⟨Sep.start _⟩ HA400).mono ?_
  rintro e_ w401 ⟨rfl, hS⟩
  replace HS : Aside0 (Sep (fps []) w [] w401) := ⟨HS.out.call hS⟩
  clear hS
  go_wp2_with fail
  obtain ⟨t402, HA403, H⟩ := bind_some H
  refine (ratio_by.calls a390 t402 _ ⟨HGl0.out.pass (l := []) HS.out⟩ ⟨Sep.start _⟩ HA403).mono ?_
  rintro e_ w404 ⟨rfl, hS⟩
  replace HS : Aside0 (Sep (fps []) w [] w404) := ⟨HS.out.call hS⟩
  clear hS
  by_cases c405 : t402 = 0
  · have H := if_yes c405 H
    have c405b0 : (t402 == 0) = true := beq_iff_eq.mpr c405
    have c405b1 : (t402 != 0) = false := bne_eq_false_iff_eq.mpr c405
    exact (none_no H).elim
  · have H := if_no c405 H
    have c405b0 : (t402 == 0) = false := beq_eq_false_iff_ne.mpr c405
    have c405b1 : (t402 != 0) = true := bne_iff_ne.mpr c405
    skip
    go_wp2_with fail
    clear c405
    go_ret
    rw [← some_eq H]
    exact ⟨(by first | rfl | (simp [IntKind.wrap_u32]; done)), HS.out⟩

set_option maxHeartbeats 30000000 in
set_option maxRecDepth 100000 in
theorem plan_Of.calls (k : Nat) (a24 : Int) (a25 : Int) (a26 : Int) (a27 : Int) (r : Int × Int × Int × Int × Int × Int × Int × Int × Int) (w : World)  (HGl0 : Aside0 (Gl 0 #[.int .i64 0, .int .i64 0, .int .i64 0, .int .i64 0, .int .i64 0] (fps []) w)) (HS : Aside0 (Sep (fps []) w [] w)) (H : Aside0 (plan_Of.f k a24 a25 a26 a27 = some r)) :
    Calls Tryd.prog 65 #[.agg #[.int .i64 a24, .int .i64 a25, .int .i64 a26, .int .i64 a27]] w fun e w' => e = .returned (.tuple #[.agg #[.int .i64 r.1, .int .i64 r.2.1, .int .i64 r.2.2.1, .int .i64 r.2.2.2.1, .int .i64 r.2.2.2.2.1, .int .i64 r.2.2.2.2.2.1, .int .i64 r.2.2.2.2.2.2.1, .int .i64 r.2.2.2.2.2.2.2.1], .int .i64 r.2.2.2.2.2.2.2.2]) ∧ Sep (fps []) w [] w' := by
  unfold plan_Of.f at H
  go_enter Tryd.func65, Tryd.ntmps65
  go_wp2_with (first | ((with_reducible refine gate_dst (N := 1) rfl ?_); refine box_on ?hg (N := 1) ?hd (cs := #[.int .i64 a24, .int .i64 a25, .int .i64 a26, .int .i64 a27]) (t := 30) ?hr ?_; (case hd => rfl); (case hg => rfl); (case hr => first | (go_simp; done) | (go_simp; rfl)); intro g28 hg w29 hbox hb; replace HS : Aside0 (Sep (fps []) w [b1 g28 a24 a25 a26 a27] w29) := ⟨HS.out.box hg hbox hb⟩; clear hg hbox hb) | ((with_reducible refine gate_dst (N := 2) rfl ?_); refine box_on ?hg (N := 2) ?hd (cs := #[.int .i64 0, .int .i64 0, .int .i64 0, .int .i64 0, .int .i64 0, .int .i64 0, .int .i64 0, .int .i64 0]) (t := 97) ?hr ?_; (case hd => rfl); (case hg => rfl); (case hr => first | (go_simp; done) | (go_simp; rfl)); intro g31 hg w32 hbox hb; replace HS : Aside0 (Sep (fps []) w [b1 g28 a24 a25 a26 a27, b2 g31 0 0 0 0 0 0 0 0] w32) := ⟨HS.out.box hg hbox hb⟩; clear hg hbox hb; have hc34 : w32.cell? ⟨g28, 0, none⟩ = some (.int .i64 a24) := blk_cellv (HS.out.at0) 0 rfl; have hc35 : w32.cell? ⟨g28, 1, none⟩ = some (.int .i64 a25) := blk_cellv (HS.out.at0) 1 rfl; have hc36 : w32.cell? ⟨g28, 2, none⟩ = some (.int .i64 a26) := blk_cellv (HS.out.at0) 2 rfl; have hc37 : w32.cell? ⟨g28, 3, none⟩ = some (.int .i64 a27) := blk_cellv (HS.out.at0) 3 rfl))
  clear hc34 hc35 hc36 hc37
  obtain ⟨t79, HA80, H⟩ := bind_some H
  refine (plan_Check.calls a24 a25 a26 a27 t79 _ ⟨HGl0.out.pass (l := []) HS.out⟩ ⟨Sep.start _⟩ HA80).mono ?_
  rintro e_ w81 ⟨rfl, hS⟩
  replace HS : Aside0 (Sep (fps []) w [b1 g28 a24 a25 a26 a27, b2 g31 0 0 0 0 0 0 0 0] w81) := ⟨HS.out.call hS⟩
  clear hS
  by_cases c82 : t79 = 0
  · have H := if_yes c82 H
    have c82b0 : (t79 == 0) = true := beq_iff_eq.mpr c82
    have c82b1 : (t79 != 0) = false := bne_eq_false_iff_eq.mpr c82
    clear c82
    go_wp2_with fail
    obtain ⟨t159, HA160, H⟩ := bind_some H
    obtain ⟨t185, HA186, H⟩ := bind_some H
    go_cut [5] (fun v5 wc => ∃ (g85 : Nat) (g162 : Nat) (g188 : Nat), v5 = .pointer (some ⟨g188, 0, none⟩) ∧ Aside0 (Sep (fps []) w [b1 g28 a24 a25 a26 a27, b2 g31 0 0 0 0 0 0 0 0, b3 g85 a24 a25, b4 g162 24 a26 t159, b2 g188 t185 (wrap64 (a25 - 8)) 0 0 0 0 0 0] wc))
    case first =>
      go_wp2_with fail
      refine start_ (n := 16) (S := (fun w' => w'.cell? ⟨g28, 2, none⟩ = some (.int .i64 a26) ∧ w'.cell? ⟨g28, 0, none⟩ = some (.int .i64 a24) ∧ w'.cell? ⟨g28, 1, none⟩ = some (.int .i64 a25))) (ds := []) #[false, false, false, false, false, false, false, false, false, false, false, false, false, false, false, false] (by kernel_rfl) rfl rfl (⟨blk_cellv ((HS.out.drew).at0) 2 rfl, blk_cellv ((HS.out.drew).at0) 0 rfl, blk_cellv ((HS.out.drew).at0) 1 rfl⟩) (fun hHeld => ?_)
      have HS_ := Aside0.mk HS.out.drew
      clear HS
      generalize World.drew _ = w210 at HS_ hHeld ⊢
      have HS := HS_
      clear HS_
      refine pure_ (i := 0) (N := some 12) (v := ?_) (a' := ?_) #[true, false, false, false, false, false, false, false, false, false, false, false, false, false, false, false] rfl rfl (by kernel_rfl) (fun _ _ _ h => h) (Or.inl ⟨by rfl, ?_⟩) ?_ ?_
      rotate_left
      · intro w'
        go_simp
        with_reducible rfl
      rotate_left
      · simp only [Act.put, List.setIfInBounds_toArray, List.set_cons_zero, List.set_cons_succ, i64_w, i32_w]
        rfl
      refine pure_ (i := 2) (N := some 14) (v := ?_) (a' := ?_) #[true, false, true, false, false, false, false, false, false, false, false, false, false, false, false, false] rfl rfl (by kernel_rfl) (fun _ _ _ h => h) (Or.inl ⟨by rfl, ?_⟩) ?_ ?_
      rotate_left
      · intro w'
        go_simp
        with_reducible rfl
      rotate_left
      · simp only [Act.put, List.setIfInBounds_toArray, List.set_cons_zero, List.set_cons_succ, i64_w, i32_w]
        rfl
      refine pure_ (i := 4) (N := some 16) (v := ?_) (a' := ?_) #[true, false, true, false, true, false, false, false, false, false, false, false, false, false, false, false] rfl rfl (by kernel_rfl) (fun _ _ _ h => h) (Or.inl ⟨by rfl, ?_⟩) ?_ ?_
      rotate_left
      · intro w'
        go_simp
        with_reducible rfl
      rotate_left
      · simp only [Act.put, List.setIfInBounds_toArray, List.set_cons_zero, List.set_cons_succ, i64_w, i32_w]
        rfl
      refine pure_ (i := 10) (N := some 22) (v := ?_) (a' := ?_) #[true, false, true, false, true, false, false, false, false, false, true, false, false, false, false, false] rfl rfl (by kernel_rfl) (fun _ _ _ h => h) (Or.inl ⟨by rfl, ?_⟩) ?_ ?_
      rotate_left
      · intro w'
        go_simp
        with_reducible rfl
      rotate_left
      · simp only [Act.put, List.setIfInBounds_toArray, List.set_cons_zero, List.set_cons_succ, i64_w, i32_w]
        rfl
      refine take_ (i := 1) (N := some 13) (v := ?_) (a' := ?_) #[true, true, true, false, true, false, false, false, false, false, true, false, false, false, false, false] rfl rfl (by kernel_rfl) (fun _ _ _ h => h) (Or.inl ⟨by rfl, ?_⟩) hHeld ?_ ?_
      rotate_left
      · rintro w' hS'
        obtain ⟨s0, s1, s2⟩ := hS'
        go_simp
        with_reducible rfl
      rotate_left
      · simp only [Act.put, List.setIfInBounds_toArray, List.set_cons_zero, List.set_cons_succ, i64_w, i32_w]
        rfl
      refine take_ (i := 3) (N := some 15) (v := ?_) (a' := ?_) #[true, true, true, true, true, false, false, false, false, false, true, false, false, false, false, false] rfl rfl (by kernel_rfl) (fun _ _ _ h => h) (Or.inl ⟨by rfl, ?_⟩) hHeld ?_ ?_
      rotate_left
      · rintro w' hS'
        obtain ⟨s0, s1, s2⟩ := hS'
        go_simp
        with_reducible rfl
      rotate_left
      · simp only [Act.put, List.setIfInBounds_toArray, List.set_cons_zero, List.set_cons_succ, i64_w, i32_w]
        rfl
      refine take_ (i := 5) (N := some 17) (v := ?_) (a' := ?_) #[true, true, true, true, true, true, false, false, false, false, true, false, false, false, false, false] rfl rfl (by kernel_rfl) (fun _ _ _ h => h) (Or.inl ⟨by rfl, ?_⟩) hHeld ?_ ?_
      rotate_left
      · rintro w' hS'
        obtain ⟨s0, s1, s2⟩ := hS'
        go_simp
        with_reducible rfl
      rotate_left
      · simp only [Act.put, List.setIfInBounds_toArray, List.set_cons_zero, List.set_cons_succ, i64_w, i32_w]
        rfl
      refine take_ (i := 11) (N := some 23) (v := ?_) (a' := ?_) #[true, true, true, true, true, true, false, false, false, false, true, true, false, false, false, false] rfl rfl (by kernel_rfl) (fun _ _ _ h => h) (Or.inl ⟨by rfl, ?_⟩) hHeld ?_ ?_
      rotate_left
      · rintro w' hS'
        obtain ⟨s0, s1, s2⟩ := hS'
        go_simp
        with_reducible rfl
      rotate_left
      · simp only [Act.put, List.setIfInBounds_toArray, List.set_cons_zero, List.set_cons_succ, i64_w, i32_w]
        rfl
      refine pure_ (i := 12) (N := some 24) (v := ?_) (a' := ?_) #[true, true, true, true, true, true, false, false, false, false, true, true, true, false, false, false] rfl rfl (by kernel_rfl) (fun _ _ _ h => h) (Or.inl ⟨by rfl, ?_⟩) ?_ ?_
      rotate_left
      · intro w'
        go_simp
        with_reducible rfl
      rotate_left
      · simp only [Act.put, List.setIfInBounds_toArray, List.set_cons_zero, List.set_cons_succ, i64_w, i32_w]
        rfl
      refine two_ (i := 6) (j := 14) (Ni := some 18) (Nj := some 5) #[true, true, true, true, true, true, true, false, false, false, true, true, true, false, false, false] #[true, true, true, true, true, true, false, false, false, false, true, true, true, false, true, false] rfl rfl rfl rfl (by kernel_rfl) (by decide) (by decide) (fun K hK => ?_) (fun K hK => ?_)
      · refine slice_step (n := 2) (by rfl) (N := 18) rfl (cs := #[.int .i64 a24, .int .i64 a25]) (t := 3) ?hr ?_
        case hr => first | (go_simp; done) | (go_simp; rfl)
        intro g211 hg w212 hbox hb
        replace HS : Aside0 (Sep (fps []) w [b1 g28 a24 a25 a26 a27, b2 g31 0 0 0 0 0 0 0 0, b3 g211 a24 a25] w212) := ⟨HS.out.box hg hbox hb⟩
        clear hg hbox hb
        refine hK.out _ _ (⟨blk_cellv (HS.out.at0) 2 rfl, blk_cellv (HS.out.at0) 0 rfl, blk_cellv (HS.out.at0) 1 rfl⟩) (fun hHeld => ?_)
        clear hK K
        refine norm_ (a' := ?_) ?_ ?_
        rotate_left
        · show Act.put _ (some 18) _ = _
          simp only [Act.put, List.setIfInBounds_toArray, List.set_cons_zero, List.set_cons_succ, i64_w, i32_w]
          rfl
        refine two_ (i := 7) (j := 14) (Ni := some 19) (Nj := some 5) #[true, true, true, true, true, true, true, true, false, false, true, true, true, false, false, false] #[true, true, true, true, true, true, true, false, false, false, true, true, true, false, true, false] rfl rfl rfl rfl (by kernel_rfl) (by decide) (by decide) (fun K hK => ?_) (fun K hK => ?_)
        · refine goes_ Tryd.func123 (by kernel_rfl) rfl #[.slice (some ⟨g211, 0, none⟩) 2 2] (by rfl) rfl rfl (by (try simp only [List.map_toArray, List.map_cons, List.map_nil]); first | done | rfl) ?_
          refine (ratio_Mul.calls _ [a24, a25] (some ⟨g211, 0, none⟩) 2 t159 _ ⟨Rd.lit (l := []) (xs := [a24, a25]) HS.out 2 rfl (by simp)⟩ ⟨HGl0.out.pass (l := []) HS.out⟩ ⟨Sep.start _⟩ HA160).mono ?_
          rintro e_ w215 ⟨rfl, hS⟩
          replace HS : Aside0 (Sep (fps []) w [b1 g28 a24 a25 a26 a27, b2 g31 0 0 0 0 0 0 0 0, b3 g211 a24 a25] w215) := ⟨HS.out.call hS⟩
          clear hS
          refine ⟨_, rfl, ?_⟩
          refine hK.out _ _ (⟨blk_cellv (HS.out.at0) 2 rfl, blk_cellv (HS.out.at0) 0 rfl, blk_cellv (HS.out.at0) 1 rfl⟩) (fun hHeld => ?_)
          clear hK K
          refine norm_ (a' := ?_) ?_ ?_
          rotate_left
          · show Act.put _ (some 19) _ = _
            simp only [Act.put, List.setIfInBounds_toArray, List.set_cons_zero, List.set_cons_succ, i64_w, i32_w]
            rfl
          refine two_ (i := 8) (j := 14) (Ni := some 20) (Nj := some 5) #[true, true, true, true, true, true, true, true, true, false, true, true, true, false, false, false] #[true, true, true, true, true, true, true, true, false, false, true, true, true, false, true, false] rfl rfl rfl rfl (by kernel_rfl) (by decide) (by decide) (fun K hK => ?_) (fun K hK => ?_)
          · refine slice_step (n := 3) (by rfl) (N := 20) rfl (cs := #[.int .i64 24, .int .i64 a26, .int .i64 t159]) (t := 3) ?hr ?_
            case hr => first | (go_simp; done) | (go_simp; rfl)
            intro g216 hg w217 hbox hb
            replace HS : Aside0 (Sep (fps []) w [b1 g28 a24 a25 a26 a27, b2 g31 0 0 0 0 0 0 0 0, b3 g211 a24 a25, b4 g216 24 a26 t159] w217) := ⟨HS.out.box hg hbox hb⟩
            clear hg hbox hb
            refine hK.out _ _ (⟨blk_cellv (HS.out.at0) 2 rfl, blk_cellv (HS.out.at0) 0 rfl, blk_cellv (HS.out.at0) 1 rfl⟩) (fun hHeld => ?_)
            clear hK K
            refine norm_ (a' := ?_) ?_ ?_
            rotate_left
            · show Act.put _ (some 20) _ = _
              simp only [Act.put, List.setIfInBounds_toArray, List.set_cons_zero, List.set_cons_succ, i64_w, i32_w]
              rfl
            refine two_ (i := 9) (j := 14) (Ni := some 21) (Nj := some 5) #[true, true, true, true, true, true, true, true, true, true, true, true, true, false, false, false] #[true, true, true, true, true, true, true, true, true, false, true, true, true, false, true, false] rfl rfl rfl rfl (by kernel_rfl) (by decide) (by decide) (fun K hK => ?_) (fun K hK => ?_)
            · refine goes_ Tryd.func122 (by kernel_rfl) rfl #[.slice (some ⟨g216, 0, none⟩) 3 3] (by rfl) rfl rfl (by (try simp only [List.map_toArray, List.map_cons, List.map_nil]); first | done | rfl) ?_
              refine (ratio_Add.calls _ [24, a26, t159] (some ⟨g216, 0, none⟩) 3 t185 _ ⟨Rd.lit (l := []) (xs := [24, a26, t159]) HS.out 3 rfl (by simp)⟩ ⟨HGl0.out.pass (l := []) HS.out⟩ ⟨Sep.start _⟩ HA186).mono ?_
              rintro e_ w220 ⟨rfl, hS⟩
              replace HS : Aside0 (Sep (fps []) w [b1 g28 a24 a25 a26 a27, b2 g31 0 0 0 0 0 0 0 0, b3 g211 a24 a25, b4 g216 24 a26 t159] w220) := ⟨HS.out.call hS⟩
              clear hS
              refine ⟨_, rfl, ?_⟩
              refine hK.out _ _ (⟨blk_cellv (HS.out.at0) 2 rfl, blk_cellv (HS.out.at0) 0 rfl, blk_cellv (HS.out.at0) 1 rfl⟩) (fun hHeld => ?_)
              clear hK K
              refine norm_ (a' := ?_) ?_ ?_
              rotate_left
              · show Act.put _ (some 21) _ = _
                simp only [Act.put, List.setIfInBounds_toArray, List.set_cons_zero, List.set_cons_succ, i64_w, i32_w]
                rfl
              refine pure_ (i := 13) (N := some 25) (v := ?_) (a' := ?_) #[true, true, true, true, true, true, true, true, true, true, true, true, true, true, false, false] rfl rfl (by kernel_rfl) (fun _ _ _ h => h) (Or.inl ⟨by rfl, ?_⟩) ?_ ?_
              rotate_left
              · intro w'
                go_simp
                with_reducible rfl
              rotate_left
              · simp only [Act.put, List.setIfInBounds_toArray, List.set_cons_zero, List.set_cons_succ, i64_w, i32_w]
                rfl
              refine one_ (i := 14) (N := some 5) #[true, true, true, true, true, true, true, true, true, true, true, true, true, true, true, false] rfl rfl (by kernel_rfl) (by decide) (fun K hK => ?_)
              refine box_step (by rfl) (N := 5) rfl (cs := #[.int .i64 0, .int .i64 0, .int .i64 0, .int .i64 0, .int .i64 0, .int .i64 0, .int .i64 0, .int .i64 0]) (t := 97) ?hr ?_
              case hr => first | (go_simp; done) | (go_simp; rfl)
              intro g221 hg w222 hbox hb
              replace HS : Aside0 (Sep (fps []) w [b1 g28 a24 a25 a26 a27, b2 g31 0 0 0 0 0 0 0 0, b3 g211 a24 a25, b4 g216 24 a26 t159, b2 g221 0 0 0 0 0 0 0 0] w222) := ⟨HS.out.box hg hbox hb⟩
              clear hg hbox hb
              refine hK.out _ _ (⟨blk_cellv (HS.out.at0) 2 rfl, blk_cellv (HS.out.at0) 0 rfl, blk_cellv (HS.out.at0) 1 rfl⟩) (fun hHeld => ?_)
              clear hK K
              refine norm_ (a' := ?_) ?_ ?_
              rotate_left
              · show Act.put _ (some 5) _ = _
                simp only [Act.put, List.setIfInBounds_toArray, List.set_cons_zero, List.set_cons_succ, i64_w, i32_w]
                rfl
              refine one_ (i := 15) (N := none) #[true, true, true, true, true, true, true, true, true, true, true, true, true, true, true, true] rfl rfl (by kernel_rfl) (by decide) (fun K hK => ?_)
              have hc225 := blk_cellv (v := .int .i64 0) (HS.out.at4) 0 rfl
              have hz226 := blk_fz (HS.out.at4) 0
              have hc227 := blk_cellv (v := .int .i64 0) (HS.out.at4) 1 rfl
              have hz228 := blk_fz (HS.out.at4) 1
              have hc229 := blk_cellv (v := .int .i64 0) (HS.out.at4) 2 rfl
              have hz230 := blk_fz (HS.out.at4) 2
              have hc231 := blk_cellv (v := .int .i64 0) (HS.out.at4) 3 rfl
              have hz232 := blk_fz (HS.out.at4) 3
              have hc233 := blk_cellv (v := .int .i64 0) (HS.out.at4) 4 rfl
              have hz234 := blk_fz (HS.out.at4) 4
              have hc235 := blk_cellv (v := .int .i64 0) (HS.out.at4) 5 rfl
              have hz236 := blk_fz (HS.out.at4) 5
              have hc237 := blk_cellv (v := .int .i64 0) (HS.out.at4) 6 rfl
              have hz238 := blk_fz (HS.out.at4) 6
              have hc239 := blk_cellv (v := .int .i64 0) (HS.out.at4) 7 rfl
              have hz240 := blk_fz (HS.out.at4) 7
              refine store_step (w1 := (World.setCell (World.setCell (World.setCell (World.setCell (World.setCell (World.setCell (World.setCell (World.setCell w222 ⟨g221, 0, none⟩ (.int .i64 t185)) ⟨g221, 1, none⟩ (.int .i64 (wrap64 (a25 - 8)))) ⟨g221, 2, none⟩ (.int .i64 0)) ⟨g221, 3, none⟩ (.int .i64 0)) ⟨g221, 4, none⟩ (.int .i64 0)) ⟨g221, 5, none⟩ (.int .i64 0)) ⟨g221, 6, none⟩ (.int .i64 0)) ⟨g221, 7, none⟩ (.int .i64 0))) (by rfl) rfl ?hr ?_
              case hr => first | (go_simp; done) | (go_simp; rfl)
              clear hc225 hz226 hc227 hz228 hc229 hz230 hc231 hz232 hc233 hz234 hc235 hz236 hc237 hz238 hc239 hz240
              intro w224 hst
              replace HS : Aside0 (Sep (fps []) w [b1 g28 a24 a25 a26 a27, b2 g31 0 0 0 0 0 0 0 0, b3 g211 a24 a25, b4 g216 24 a26 t159, b2 g221 t185 (wrap64 (a25 - 8)) 0 0 0 0 0 0] w224) := ⟨by rw [hst]; exact HS.out.setAll (l1 := [b1 g28 a24 a25 a26 a27, b2 g31 0 0 0 0 0 0 0 0, b3 g211 a24 a25, b4 g216 24 a26 t159]) (l2 := []) [.int .i64 t185, .int .i64 (wrap64 (a25 - 8)), .int .i64 0, .int .i64 0, .int .i64 0, .int .i64 0, .int .i64 0, .int .i64 0] rfl⟩
              clear hst
              refine hK.out _ _ (⟨blk_cellv (HS.out.at0) 2 rfl, blk_cellv (HS.out.at0) 0 rfl, blk_cellv (HS.out.at0) 1 rfl⟩) (fun hHeld => ?_)
              clear hK K
              refine done_ (by kernel_rfl) ?_
              go_wp2_with fail
              go_meet
              case rel => exact ⟨g211, g216, g221, (by first | rfl | (simp [IntKind.wrap_u32]; done)), ⟨(((((HS.out).front 4 (by simp)).front 4 (by simp)).front 4 (by simp)).front 4 (by simp)).front 4 (by simp)⟩⟩
            · refine box_step (by rfl) (N := 5) rfl (cs := #[.int .i64 0, .int .i64 0, .int .i64 0, .int .i64 0, .int .i64 0, .int .i64 0, .int .i64 0, .int .i64 0]) (t := 97) ?hr ?_
              case hr => first | (go_simp; done) | (go_simp; rfl)
              intro g241 hg w242 hbox hb
              replace HS : Aside0 (Sep (fps []) w [b1 g28 a24 a25 a26 a27, b2 g31 0 0 0 0 0 0 0 0, b3 g211 a24 a25, b4 g216 24 a26 t159, b2 g241 0 0 0 0 0 0 0 0] w242) := ⟨HS.out.box hg hbox hb⟩
              clear hg hbox hb
              refine hK.out _ _ (⟨blk_cellv (HS.out.at0) 2 rfl, blk_cellv (HS.out.at0) 0 rfl, blk_cellv (HS.out.at0) 1 rfl⟩) (fun hHeld => ?_)
              clear hK K
              refine norm_ (a' := ?_) ?_ ?_
              rotate_left
              · show Act.put _ (some 5) _ = _
                simp only [Act.put, List.setIfInBounds_toArray, List.set_cons_zero, List.set_cons_succ, i64_w, i32_w]
                rfl
              refine one_ (i := 9) (N := some 21) #[true, true, true, true, true, true, true, true, true, true, true, true, true, false, true, false] rfl rfl (by kernel_rfl) (by decide) (fun K hK => ?_)
              refine goes_ Tryd.func122 (by kernel_rfl) rfl #[.slice (some ⟨g216, 0, none⟩) 3 3] (by rfl) rfl rfl (by (try simp only [List.map_toArray, List.map_cons, List.map_nil]); first | done | rfl) ?_
              refine (ratio_Add.calls _ [24, a26, t159] (some ⟨g216, 0, none⟩) 3 t185 _ ⟨Rd.lit (l := []) (xs := [24, a26, t159]) HS.out 3 rfl (by simp)⟩ ⟨HGl0.out.pass (l := []) HS.out⟩ ⟨Sep.start _⟩ HA186).mono ?_
              rintro e_ w245 ⟨rfl, hS⟩
              replace HS : Aside0 (Sep (fps []) w [b1 g28 a24 a25 a26 a27, b2 g31 0 0 0 0 0 0 0 0, b3 g211 a24 a25, b4 g216 24 a26 t159, b2 g241 0 0 0 0 0 0 0 0] w245) := ⟨HS.out.call hS⟩
              clear hS
              refine ⟨_, rfl, ?_⟩
              refine hK.out _ _ (⟨blk_cellv (HS.out.at0) 2 rfl, blk_cellv (HS.out.at0) 0 rfl, blk_cellv (HS.out.at0) 1 rfl⟩) (fun hHeld => ?_)
              clear hK K
              refine norm_ (a' := ?_) ?_ ?_
              rotate_left
              · show Act.put _ (some 21) _ = _
                simp only [Act.put, List.setIfInBounds_toArray, List.set_cons_zero, List.set_cons_succ, i64_w, i32_w]
                rfl
              refine pure_ (i := 13) (N := some 25) (v := ?_) (a' := ?_) #[true, true, true, true, true, true, true, true, true, true, true, true, true, true, true, false] rfl rfl (by kernel_rfl) (fun _ _ _ h => h) (Or.inl ⟨by rfl, ?_⟩) ?_ ?_
              rotate_left
              · intro w'
                go_simp
                with_reducible rfl
              rotate_left
              · simp only [Act.put, List.setIfInBounds_toArray, List.set_cons_zero, List.set_cons_succ, i64_w, i32_w]
                rfl
              refine one_ (i := 15) (N := none) #[true, true, true, true, true, true, true, true, true, true, true, true, true, true, true, true] rfl rfl (by kernel_rfl) (by decide) (fun K hK => ?_)
              have hc247 := blk_cellv (v := .int .i64 0) (HS.out.at4) 0 rfl
              have hz248 := blk_fz (HS.out.at4) 0
              have hc249 := blk_cellv (v := .int .i64 0) (HS.out.at4) 1 rfl
              have hz250 := blk_fz (HS.out.at4) 1
              have hc251 := blk_cellv (v := .int .i64 0) (HS.out.at4) 2 rfl
              have hz252 := blk_fz (HS.out.at4) 2
              have hc253 := blk_cellv (v := .int .i64 0) (HS.out.at4) 3 rfl
              have hz254 := blk_fz (HS.out.at4) 3
              have hc255 := blk_cellv (v := .int .i64 0) (HS.out.at4) 4 rfl
              have hz256 := blk_fz (HS.out.at4) 4
              have hc257 := blk_cellv (v := .int .i64 0) (HS.out.at4) 5 rfl
              have hz258 := blk_fz (HS.out.at4) 5
              have hc259 := blk_cellv (v := .int .i64 0) (HS.out.at4) 6 rfl
              have hz260 := blk_fz (HS.out.at4) 6
              have hc261 := blk_cellv (v := .int .i64 0) (HS.out.at4) 7 rfl
              have hz262 := blk_fz (HS.out.at4) 7
              refine store_step (w1 := (World.setCell (World.setCell (World.setCell (World.setCell (World.setCell (World.setCell (World.setCell (World.setCell w245 ⟨g241, 0, none⟩ (.int .i64 t185)) ⟨g241, 1, none⟩ (.int .i64 (wrap64 (a25 - 8)))) ⟨g241, 2, none⟩ (.int .i64 0)) ⟨g241, 3, none⟩ (.int .i64 0)) ⟨g241, 4, none⟩ (.int .i64 0)) ⟨g241, 5, none⟩ (.int .i64 0)) ⟨g241, 6, none⟩ (.int .i64 0)) ⟨g241, 7, none⟩ (.int .i64 0))) (by rfl) rfl ?hr ?_
              case hr => first | (go_simp; done) | (go_simp; rfl)
              clear hc247 hz248 hc249 hz250 hc251 hz252 hc253 hz254 hc255 hz256 hc257 hz258 hc259 hz260 hc261 hz262
              intro w246 hst
              replace HS : Aside0 (Sep (fps []) w [b1 g28 a24 a25 a26 a27, b2 g31 0 0 0 0 0 0 0 0, b3 g211 a24 a25, b4 g216 24 a26 t159, b2 g241 t185 (wrap64 (a25 - 8)) 0 0 0 0 0 0] w246) := ⟨by rw [hst]; exact HS.out.setAll (l1 := [b1 g28 a24 a25 a26 a27, b2 g31 0 0 0 0 0 0 0 0, b3 g211 a24 a25, b4 g216 24 a26 t159]) (l2 := []) [.int .i64 t185, .int .i64 (wrap64 (a25 - 8)), .int .i64 0, .int .i64 0, .int .i64 0, .int .i64 0, .int .i64 0, .int .i64 0] rfl⟩
              clear hst
              refine hK.out _ _ (⟨blk_cellv (HS.out.at0) 2 rfl, blk_cellv (HS.out.at0) 0 rfl, blk_cellv (HS.out.at0) 1 rfl⟩) (fun hHeld => ?_)
              clear hK K
              refine done_ (by kernel_rfl) ?_
              go_wp2_with fail
              go_meet
              case rel => exact ⟨g211, g216, g241, (by first | rfl | (simp [IntKind.wrap_u32]; done)), ⟨(((((HS.out).front 4 (by simp)).front 4 (by simp)).front 4 (by simp)).front 4 (by simp)).front 4 (by simp)⟩⟩
          · refine box_step (by rfl) (N := 5) rfl (cs := #[.int .i64 0, .int .i64 0, .int .i64 0, .int .i64 0, .int .i64 0, .int .i64 0, .int .i64 0, .int .i64 0]) (t := 97) ?hr ?_
            case hr => first | (go_simp; done) | (go_simp; rfl)
            intro g263 hg w264 hbox hb
            replace HS : Aside0 (Sep (fps []) w [b1 g28 a24 a25 a26 a27, b2 g31 0 0 0 0 0 0 0 0, b3 g211 a24 a25, b2 g263 0 0 0 0 0 0 0 0] w264) := ⟨HS.out.box hg hbox hb⟩
            clear hg hbox hb
            refine hK.out _ _ (⟨blk_cellv (HS.out.at0) 2 rfl, blk_cellv (HS.out.at0) 0 rfl, blk_cellv (HS.out.at0) 1 rfl⟩) (fun hHeld => ?_)
            clear hK K
            refine norm_ (a' := ?_) ?_ ?_
            rotate_left
            · show Act.put _ (some 5) _ = _
              simp only [Act.put, List.setIfInBounds_toArray, List.set_cons_zero, List.set_cons_succ, i64_w, i32_w]
              rfl
            refine one_ (i := 8) (N := some 20) #[true, true, true, true, true, true, true, true, true, false, true, true, true, false, true, false] rfl rfl (by kernel_rfl) (by decide) (fun K hK => ?_)
            refine slice_step (n := 3) (by rfl) (N := 20) rfl (cs := #[.int .i64 24, .int .i64 a26, .int .i64 t159]) (t := 3) ?hr ?_
            case hr => first | (go_simp; done) | (go_simp; rfl)
            intro g266 hg w267 hbox hb
            replace HS : Aside0 (Sep (fps []) w [b1 g28 a24 a25 a26 a27, b2 g31 0 0 0 0 0 0 0 0, b3 g211 a24 a25, b2 g263 0 0 0 0 0 0 0 0, b4 g266 24 a26 t159] w267) := ⟨HS.out.box hg hbox hb⟩
            clear hg hbox hb
            refine hK.out _ _ (⟨blk_cellv (HS.out.at0) 2 rfl, blk_cellv (HS.out.at0) 0 rfl, blk_cellv (HS.out.at0) 1 rfl⟩) (fun hHeld => ?_)
            clear hK K
            refine norm_ (a' := ?_) ?_ ?_
            rotate_left
            · show Act.put _ (some 20) _ = _
              simp only [Act.put, List.setIfInBounds_toArray, List.set_cons_zero, List.set_cons_succ, i64_w, i32_w]
              rfl
            refine one_ (i := 9) (N := some 21) #[true, true, true, true, true, true, true, true, true, true, true, true, true, false, true, false] rfl rfl (by kernel_rfl) (by decide) (fun K hK => ?_)
            refine goes_ Tryd.func122 (by kernel_rfl) rfl #[.slice (some ⟨g266, 0, none⟩) 3 3] (by rfl) rfl rfl (by (try simp only [List.map_toArray, List.map_cons, List.map_nil]); first | done | rfl) ?_
            refine (ratio_Add.calls _ [24, a26, t159] (some ⟨g266, 0, none⟩) 3 t185 _ ⟨Rd.lit (l := []) (xs := [24, a26, t159]) HS.out 4 rfl (by simp)⟩ ⟨HGl0.out.pass (l := []) HS.out⟩ ⟨Sep.start _⟩ HA186).mono ?_
            rintro e_ w270 ⟨rfl, hS⟩
            replace HS : Aside0 (Sep (fps []) w [b1 g28 a24 a25 a26 a27, b2 g31 0 0 0 0 0 0 0 0, b3 g211 a24 a25, b2 g263 0 0 0 0 0 0 0 0, b4 g266 24 a26 t159] w270) := ⟨HS.out.call hS⟩
            clear hS
            refine ⟨_, rfl, ?_⟩
            refine hK.out _ _ (⟨blk_cellv (HS.out.at0) 2 rfl, blk_cellv (HS.out.at0) 0 rfl, blk_cellv (HS.out.at0) 1 rfl⟩) (fun hHeld => ?_)
            clear hK K
            refine norm_ (a' := ?_) ?_ ?_
            rotate_left
            · show Act.put _ (some 21) _ = _
              simp only [Act.put, List.setIfInBounds_toArray, List.set_cons_zero, List.set_cons_succ, i64_w, i32_w]
              rfl
            refine pure_ (i := 13) (N := some 25) (v := ?_) (a' := ?_) #[true, true, true, true, true, true, true, true, true, true, true, true, true, true, true, false] rfl rfl (by kernel_rfl) (fun _ _ _ h => h) (Or.inl ⟨by rfl, ?_⟩) ?_ ?_
            rotate_left
            · intro w'
              go_simp
              with_reducible rfl
            rotate_left
            · simp only [Act.put, List.setIfInBounds_toArray, List.set_cons_zero, List.set_cons_succ, i64_w, i32_w]
              rfl
            refine one_ (i := 15) (N := none) #[true, true, true, true, true, true, true, true, true, true, true, true, true, true, true, true] rfl rfl (by kernel_rfl) (by decide) (fun K hK => ?_)
            have hc272 := blk_cellv (v := .int .i64 0) (HS.out.at3) 0 rfl
            have hz273 := blk_fz (HS.out.at3) 0
            have hc274 := blk_cellv (v := .int .i64 0) (HS.out.at3) 1 rfl
            have hz275 := blk_fz (HS.out.at3) 1
            have hc276 := blk_cellv (v := .int .i64 0) (HS.out.at3) 2 rfl
            have hz277 := blk_fz (HS.out.at3) 2
            have hc278 := blk_cellv (v := .int .i64 0) (HS.out.at3) 3 rfl
            have hz279 := blk_fz (HS.out.at3) 3
            have hc280 := blk_cellv (v := .int .i64 0) (HS.out.at3) 4 rfl
            have hz281 := blk_fz (HS.out.at3) 4
            have hc282 := blk_cellv (v := .int .i64 0) (HS.out.at3) 5 rfl
            have hz283 := blk_fz (HS.out.at3) 5
            have hc284 := blk_cellv (v := .int .i64 0) (HS.out.at3) 6 rfl
            have hz285 := blk_fz (HS.out.at3) 6
            have hc286 := blk_cellv (v := .int .i64 0) (HS.out.at3) 7 rfl
            have hz287 := blk_fz (HS.out.at3) 7
            refine store_step (w1 := (World.setCell (World.setCell (World.setCell (World.setCell (World.setCell (World.setCell (World.setCell (World.setCell w270 ⟨g263, 0, none⟩ (.int .i64 t185)) ⟨g263, 1, none⟩ (.int .i64 (wrap64 (a25 - 8)))) ⟨g263, 2, none⟩ (.int .i64 0)) ⟨g263, 3, none⟩ (.int .i64 0)) ⟨g263, 4, none⟩ (.int .i64 0)) ⟨g263, 5, none⟩ (.int .i64 0)) ⟨g263, 6, none⟩ (.int .i64 0)) ⟨g263, 7, none⟩ (.int .i64 0))) (by rfl) rfl ?hr ?_
            case hr => first | (go_simp; done) | (go_simp; rfl)
            clear hc272 hz273 hc274 hz275 hc276 hz277 hc278 hz279 hc280 hz281 hc282 hz283 hc284 hz285 hc286 hz287
            intro w271 hst
            replace HS : Aside0 (Sep (fps []) w [b1 g28 a24 a25 a26 a27, b2 g31 0 0 0 0 0 0 0 0, b3 g211 a24 a25, b2 g263 t185 (wrap64 (a25 - 8)) 0 0 0 0 0 0, b4 g266 24 a26 t159] w271) := ⟨by rw [hst]; exact HS.out.setAll (l1 := [b1 g28 a24 a25 a26 a27, b2 g31 0 0 0 0 0 0 0 0, b3 g211 a24 a25]) (l2 := [b4 g266 24 a26 t159]) [.int .i64 t185, .int .i64 (wrap64 (a25 - 8)), .int .i64 0, .int .i64 0, .int .i64 0, .int .i64 0, .int .i64 0, .int .i64 0] rfl⟩
            clear hst
            refine hK.out _ _ (⟨blk_cellv (HS.out.at0) 2 rfl, blk_cellv (HS.out.at0) 0 rfl, blk_cellv (HS.out.at0) 1 rfl⟩) (fun hHeld => ?_)
            clear hK K
            refine done_ (by kernel_rfl) ?_
            go_wp2_with fail
            go_meet
            case rel => exact ⟨g211, g266, g263, (by first | rfl | (simp [IntKind.wrap_u32]; done)), ⟨(((((HS.out).front 3 (by simp)).front 4 (by simp)).front 4 (by simp)).front 4 (by simp)).front 4 (by simp)⟩⟩
        · refine box_step (by rfl) (N := 5) rfl (cs := #[.int .i64 0, .int .i64 0, .int .i64 0, .int .i64 0, .int .i64 0, .int .i64 0, .int .i64 0, .int .i64 0]) (t := 97) ?hr ?_
          case hr => first | (go_simp; done) | (go_simp; rfl)
          intro g288 hg w289 hbox hb
          replace HS : Aside0 (Sep (fps []) w [b1 g28 a24 a25 a26 a27, b2 g31 0 0 0 0 0 0 0 0, b3 g211 a24 a25, b2 g288 0 0 0 0 0 0 0 0] w289) := ⟨HS.out.box hg hbox hb⟩
          clear hg hbox hb
          refine hK.out _ _ (⟨blk_cellv (HS.out.at0) 2 rfl, blk_cellv (HS.out.at0) 0 rfl, blk_cellv (HS.out.at0) 1 rfl⟩) (fun hHeld => ?_)
          clear hK K
          refine norm_ (a' := ?_) ?_ ?_
          rotate_left
          · show Act.put _ (some 5) _ = _
            simp only [Act.put, List.setIfInBounds_toArray, List.set_cons_zero, List.set_cons_succ, i64_w, i32_w]
            rfl
          refine one_ (i := 7) (N := some 19) #[true, true, true, true, true, true, true, true, false, false, true, true, true, false, true, false] rfl rfl (by kernel_rfl) (by decide) (fun K hK => ?_)
          refine goes_ Tryd.func123 (by kernel_rfl) rfl #[.slice (some ⟨g211, 0, none⟩) 2 2] (by rfl) rfl rfl (by (try simp only [List.map_toArray, List.map_cons, List.map_nil]); first | done | rfl) ?_
          refine (ratio_Mul.calls _ [a24, a25] (some ⟨g211, 0, none⟩) 2 t159 _ ⟨Rd.lit (l := []) (xs := [a24, a25]) HS.out 2 rfl (by simp)⟩ ⟨HGl0.out.pass (l := []) HS.out⟩ ⟨Sep.start _⟩ HA160).mono ?_
          rintro e_ w292 ⟨rfl, hS⟩
          replace HS : Aside0 (Sep (fps []) w [b1 g28 a24 a25 a26 a27, b2 g31 0 0 0 0 0 0 0 0, b3 g211 a24 a25, b2 g288 0 0 0 0 0 0 0 0] w292) := ⟨HS.out.call hS⟩
          clear hS
          refine ⟨_, rfl, ?_⟩
          refine hK.out _ _ (⟨blk_cellv (HS.out.at0) 2 rfl, blk_cellv (HS.out.at0) 0 rfl, blk_cellv (HS.out.at0) 1 rfl⟩) (fun hHeld => ?_)
          clear hK K
          refine norm_ (a' := ?_) ?_ ?_
          rotate_left
          · show Act.put _ (some 19) _ = _
            simp only [Act.put, List.setIfInBounds_toArray, List.set_cons_zero, List.set_cons_succ, i64_w, i32_w]
            rfl
          refine one_ (i := 8) (N := some 20) #[true, true, true, true, true, true, true, true, true, false, true, true, true, false, true, false] rfl rfl (by kernel_rfl) (by decide) (fun K hK => ?_)
          refine slice_step (n := 3) (by rfl) (N := 20) rfl (cs := #[.int .i64 24, .int .i64 a26, .int .i64 t159]) (t := 3) ?hr ?_
          case hr => first | (go_simp; done) | (go_simp; rfl)
          intro g293 hg w294 hbox hb
          replace HS : Aside0 (Sep (fps []) w [b1 g28 a24 a25 a26 a27, b2 g31 0 0 0 0 0 0 0 0, b3 g211 a24 a25, b2 g288 0 0 0 0 0 0 0 0, b4 g293 24 a26 t159] w294) := ⟨HS.out.box hg hbox hb⟩
          clear hg hbox hb
          refine hK.out _ _ (⟨blk_cellv (HS.out.at0) 2 rfl, blk_cellv (HS.out.at0) 0 rfl, blk_cellv (HS.out.at0) 1 rfl⟩) (fun hHeld => ?_)
          clear hK K
          refine norm_ (a' := ?_) ?_ ?_
          rotate_left
          · show Act.put _ (some 20) _ = _
            simp only [Act.put, List.setIfInBounds_toArray, List.set_cons_zero, List.set_cons_succ, i64_w, i32_w]
            rfl
          refine one_ (i := 9) (N := some 21) #[true, true, true, true, true, true, true, true, true, true, true, true, true, false, true, false] rfl rfl (by kernel_rfl) (by decide) (fun K hK => ?_)
          refine goes_ Tryd.func122 (by kernel_rfl) rfl #[.slice (some ⟨g293, 0, none⟩) 3 3] (by rfl) rfl rfl (by (try simp only [List.map_toArray, List.map_cons, List.map_nil]); first | done | rfl) ?_
          refine (ratio_Add.calls _ [24, a26, t159] (some ⟨g293, 0, none⟩) 3 t185 _ ⟨Rd.lit (l := []) (xs := [24, a26, t159]) HS.out 4 rfl (by simp)⟩ ⟨HGl0.out.pass (l := []) HS.out⟩ ⟨Sep.start _⟩ HA186).mono ?_
          rintro e_ w297 ⟨rfl, hS⟩
          replace HS : Aside0 (Sep (fps []) w [b1 g28 a24 a25 a26 a27, b2 g31 0 0 0 0 0 0 0 0, b3 g211 a24 a25, b2 g288 0 0 0 0 0 0 0 0, b4 g293 24 a26 t159] w297) := ⟨HS.out.call hS⟩
          clear hS
          refine ⟨_, rfl, ?_⟩
          refine hK.out _ _ (⟨blk_cellv (HS.out.at0) 2 rfl, blk_cellv (HS.out.at0) 0 rfl, blk_cellv (HS.out.at0) 1 rfl⟩) (fun hHeld => ?_)
          clear hK K
          refine norm_ (a' := ?_) ?_ ?_
          rotate_left
          · show Act.put _ (some 21) _ = _
            simp only [Act.put, List.setIfInBounds_toArray, List.set_cons_zero, List.set_cons_succ, i64_w, i32_w]
            rfl
          refine pure_ (i := 13) (N := some 25) (v := ?_) (a' := ?_) #[true, true, true, true, true, true, true, true, true, true, true, true, true, true, true, false] rfl rfl (by kernel_rfl) (fun _ _ _ h => h) (Or.inl ⟨by rfl, ?_⟩) ?_ ?_
          rotate_left
          · intro w'
            go_simp
            with_reducible rfl
          rotate_left
          · simp only [Act.put, List.setIfInBounds_toArray, List.set_cons_zero, List.set_cons_succ, i64_w, i32_w]
            rfl
          refine one_ (i := 15) (N := none) #[true, true, true, true, true, true, true, true, true, true, true, true, true, true, true, true] rfl rfl (by kernel_rfl) (by decide) (fun K hK => ?_)
          have hc299 := blk_cellv (v := .int .i64 0) (HS.out.at3) 0 rfl
          have hz300 := blk_fz (HS.out.at3) 0
          have hc301 := blk_cellv (v := .int .i64 0) (HS.out.at3) 1 rfl
          have hz302 := blk_fz (HS.out.at3) 1
          have hc303 := blk_cellv (v := .int .i64 0) (HS.out.at3) 2 rfl
          have hz304 := blk_fz (HS.out.at3) 2
          have hc305 := blk_cellv (v := .int .i64 0) (HS.out.at3) 3 rfl
          have hz306 := blk_fz (HS.out.at3) 3
          have hc307 := blk_cellv (v := .int .i64 0) (HS.out.at3) 4 rfl
          have hz308 := blk_fz (HS.out.at3) 4
          have hc309 := blk_cellv (v := .int .i64 0) (HS.out.at3) 5 rfl
          have hz310 := blk_fz (HS.out.at3) 5
          have hc311 := blk_cellv (v := .int .i64 0) (HS.out.at3) 6 rfl
          have hz312 := blk_fz (HS.out.at3) 6
          have hc313 := blk_cellv (v := .int .i64 0) (HS.out.at3) 7 rfl
          have hz314 := blk_fz (HS.out.at3) 7
          refine store_step (w1 := (World.setCell (World.setCell (World.setCell (World.setCell (World.setCell (World.setCell (World.setCell (World.setCell w297 ⟨g288, 0, none⟩ (.int .i64 t185)) ⟨g288, 1, none⟩ (.int .i64 (wrap64 (a25 - 8)))) ⟨g288, 2, none⟩ (.int .i64 0)) ⟨g288, 3, none⟩ (.int .i64 0)) ⟨g288, 4, none⟩ (.int .i64 0)) ⟨g288, 5, none⟩ (.int .i64 0)) ⟨g288, 6, none⟩ (.int .i64 0)) ⟨g288, 7, none⟩ (.int .i64 0))) (by rfl) rfl ?hr ?_
          case hr => first | (go_simp; done) | (go_simp; rfl)
          clear hc299 hz300 hc301 hz302 hc303 hz304 hc305 hz306 hc307 hz308 hc309 hz310 hc311 hz312 hc313 hz314
          intro w298 hst
          replace HS : Aside0 (Sep (fps []) w [b1 g28 a24 a25 a26 a27, b2 g31 0 0 0 0 0 0 0 0, b3 g211 a24 a25, b2 g288 t185 (wrap64 (a25 - 8)) 0 0 0 0 0 0, b4 g293 24 a26 t159] w298) := ⟨by rw [hst]; exact HS.out.setAll (l1 := [b1 g28 a24 a25 a26 a27, b2 g31 0 0 0 0 0 0 0 0, b3 g211 a24 a25]) (l2 := [b4 g293 24 a26 t159]) [.int .i64 t185, .int .i64 (wrap64 (a25 - 8)), .int .i64 0, .int .i64 0, .int .i64 0, .int .i64 0, .int .i64 0, .int .i64 0] rfl⟩
          clear hst
          refine hK.out _ _ (⟨blk_cellv (HS.out.at0) 2 rfl, blk_cellv (HS.out.at0) 0 rfl, blk_cellv (HS.out.at0) 1 rfl⟩) (fun hHeld => ?_)
          clear hK K
          refine done_ (by kernel_rfl) ?_
          go_wp2_with fail
          go_meet
          case rel => exact ⟨g211, g293, g288, (by first | rfl | (simp [IntKind.wrap_u32]; done)), ⟨(((((HS.out).front 3 (by simp)).front 4 (by simp)).front 4 (by simp)).front 4 (by simp)).front 4 (by simp)⟩⟩
      · refine box_step (by rfl) (N := 5) rfl (cs := #[.int .i64 0, .int .i64 0, .int .i64 0, .int .i64 0, .int .i64 0, .int .i64 0, .int .i64 0, .int .i64 0]) (t := 97) ?hr ?_
        case hr => first | (go_simp; done) | (go_simp; rfl)
        intro g315 hg w316 hbox hb
        replace HS : Aside0 (Sep (fps []) w [b1 g28 a24 a25 a26 a27, b2 g31 0 0 0 0 0 0 0 0, b2 g315 0 0 0 0 0 0 0 0] w316) := ⟨HS.out.box hg hbox hb⟩
        clear hg hbox hb
        refine hK.out _ _ (⟨blk_cellv (HS.out.at0) 2 rfl, blk_cellv (HS.out.at0) 0 rfl, blk_cellv (HS.out.at0) 1 rfl⟩) (fun hHeld => ?_)
        clear hK K
        refine norm_ (a' := ?_) ?_ ?_
        rotate_left
        · show Act.put _ (some 5) _ = _
          simp only [Act.put, List.setIfInBounds_toArray, List.set_cons_zero, List.set_cons_succ, i64_w, i32_w]
          rfl
        refine one_ (i := 6) (N := some 18) #[true, true, true, true, true, true, true, false, false, false, true, true, true, false, true, false] rfl rfl (by kernel_rfl) (by decide) (fun K hK => ?_)
        refine slice_step (n := 2) (by rfl) (N := 18) rfl (cs := #[.int .i64 a24, .int .i64 a25]) (t := 3) ?hr ?_
        case hr => first | (go_simp; done) | (go_simp; rfl)
        intro g318 hg w319 hbox hb
        replace HS : Aside0 (Sep (fps []) w [b1 g28 a24 a25 a26 a27, b2 g31 0 0 0 0 0 0 0 0, b2 g315 0 0 0 0 0 0 0 0, b3 g318 a24 a25] w319) := ⟨HS.out.box hg hbox hb⟩
        clear hg hbox hb
        refine hK.out _ _ (⟨blk_cellv (HS.out.at0) 2 rfl, blk_cellv (HS.out.at0) 0 rfl, blk_cellv (HS.out.at0) 1 rfl⟩) (fun hHeld => ?_)
        clear hK K
        refine norm_ (a' := ?_) ?_ ?_
        rotate_left
        · show Act.put _ (some 18) _ = _
          simp only [Act.put, List.setIfInBounds_toArray, List.set_cons_zero, List.set_cons_succ, i64_w, i32_w]
          rfl
        refine one_ (i := 7) (N := some 19) #[true, true, true, true, true, true, true, true, false, false, true, true, true, false, true, false] rfl rfl (by kernel_rfl) (by decide) (fun K hK => ?_)
        refine goes_ Tryd.func123 (by kernel_rfl) rfl #[.slice (some ⟨g318, 0, none⟩) 2 2] (by rfl) rfl rfl (by (try simp only [List.map_toArray, List.map_cons, List.map_nil]); first | done | rfl) ?_
        refine (ratio_Mul.calls _ [a24, a25] (some ⟨g318, 0, none⟩) 2 t159 _ ⟨Rd.lit (l := []) (xs := [a24, a25]) HS.out 3 rfl (by simp)⟩ ⟨HGl0.out.pass (l := []) HS.out⟩ ⟨Sep.start _⟩ HA160).mono ?_
        rintro e_ w322 ⟨rfl, hS⟩
        replace HS : Aside0 (Sep (fps []) w [b1 g28 a24 a25 a26 a27, b2 g31 0 0 0 0 0 0 0 0, b2 g315 0 0 0 0 0 0 0 0, b3 g318 a24 a25] w322) := ⟨HS.out.call hS⟩
        clear hS
        refine ⟨_, rfl, ?_⟩
        refine hK.out _ _ (⟨blk_cellv (HS.out.at0) 2 rfl, blk_cellv (HS.out.at0) 0 rfl, blk_cellv (HS.out.at0) 1 rfl⟩) (fun hHeld => ?_)
        clear hK K
        refine norm_ (a' := ?_) ?_ ?_
        rotate_left
        · show Act.put _ (some 19) _ = _
          simp only [Act.put, List.setIfInBounds_toArray, List.set_cons_zero, List.set_cons_succ, i64_w, i32_w]
          rfl
        refine one_ (i := 8) (N := some 20) #[true, true, true, true, true, true, true, true, true, false, true, true, true, false, true, false] rfl rfl (by kernel_rfl) (by decide) (fun K hK => ?_)
        refine slice_step (n := 3) (by rfl) (N := 20) rfl (cs := #[.int .i64 24, .int .i64 a26, .int .i64 t159]) (t := 3) ?hr ?_
        case hr => first | (go_simp; done) | (go_simp; rfl)
        intro g323 hg w324 hbox hb
        replace HS : Aside0 (Sep (fps []) w [b1 g28 a24 a25 a26 a27, b2 g31 0 0 0 0 0 0 0 0, b2 g315 0 0 0 0 0 0 0 0, b3 g318 a24 a25, b4 g323 24 a26 t159] w324) := ⟨HS.out.box hg hbox hb⟩
        clear hg hbox hb
        refine hK.out _ _ (⟨blk_cellv (HS.out.at0) 2 rfl, blk_cellv (HS.out.at0) 0 rfl, blk_cellv (HS.out.at0) 1 rfl⟩) (fun hHeld => ?_)
        clear hK K
        refine norm_ (a' := ?_) ?_ ?_
        rotate_left
        · show Act.put _ (some 20) _ = _
          simp only [Act.put, List.setIfInBounds_toArray, List.set_cons_zero, List.set_cons_succ, i64_w, i32_w]
          rfl
        refine one_ (i := 9) (N := some 21) #[true, true, true, true, true, true, true, true, true, true, true, true, true, false, true, false] rfl rfl (by kernel_rfl) (by decide) (fun K hK => ?_)
        refine goes_ Tryd.func122 (by kernel_rfl) rfl #[.slice (some ⟨g323, 0, none⟩) 3 3] (by rfl) rfl rfl (by (try simp only [List.map_toArray, List.map_cons, List.map_nil]); first | done | rfl) ?_
        refine (ratio_Add.calls _ [24, a26, t159] (some ⟨g323, 0, none⟩) 3 t185 _ ⟨Rd.lit (l := []) (xs := [24, a26, t159]) HS.out 4 rfl (by simp)⟩ ⟨HGl0.out.pass (l := []) HS.out⟩ ⟨Sep.start _⟩ HA186).mono ?_
        rintro e_ w327 ⟨rfl, hS⟩
        replace HS : Aside0 (Sep (fps []) w [b1 g28 a24 a25 a26 a27, b2 g31 0 0 0 0 0 0 0 0, b2 g315 0 0 0 0 0 0 0 0, b3 g318 a24 a25, b4 g323 24 a26 t159] w327) := ⟨HS.out.call hS⟩
        clear hS
        refine ⟨_, rfl, ?_⟩
        refine hK.out _ _ (⟨blk_cellv (HS.out.at0) 2 rfl, blk_cellv (HS.out.at0) 0 rfl, blk_cellv (HS.out.at0) 1 rfl⟩) (fun hHeld => ?_)
        clear hK K
        refine norm_ (a' := ?_) ?_ ?_
        rotate_left
        · show Act.put _ (some 21) _ = _
          simp only [Act.put, List.setIfInBounds_toArray, List.set_cons_zero, List.set_cons_succ, i64_w, i32_w]
          rfl
        refine pure_ (i := 13) (N := some 25) (v := ?_) (a' := ?_) #[true, true, true, true, true, true, true, true, true, true, true, true, true, true, true, false] rfl rfl (by kernel_rfl) (fun _ _ _ h => h) (Or.inl ⟨by rfl, ?_⟩) ?_ ?_
        rotate_left
        · intro w'
          go_simp
          with_reducible rfl
        rotate_left
        · simp only [Act.put, List.setIfInBounds_toArray, List.set_cons_zero, List.set_cons_succ, i64_w, i32_w]
          rfl
        refine one_ (i := 15) (N := none) #[true, true, true, true, true, true, true, true, true, true, true, true, true, true, true, true] rfl rfl (by kernel_rfl) (by decide) (fun K hK => ?_)
        have hc329 := blk_cellv (v := .int .i64 0) (HS.out.at2) 0 rfl
        have hz330 := blk_fz (HS.out.at2) 0
        have hc331 := blk_cellv (v := .int .i64 0) (HS.out.at2) 1 rfl
        have hz332 := blk_fz (HS.out.at2) 1
        have hc333 := blk_cellv (v := .int .i64 0) (HS.out.at2) 2 rfl
        have hz334 := blk_fz (HS.out.at2) 2
        have hc335 := blk_cellv (v := .int .i64 0) (HS.out.at2) 3 rfl
        have hz336 := blk_fz (HS.out.at2) 3
        have hc337 := blk_cellv (v := .int .i64 0) (HS.out.at2) 4 rfl
        have hz338 := blk_fz (HS.out.at2) 4
        have hc339 := blk_cellv (v := .int .i64 0) (HS.out.at2) 5 rfl
        have hz340 := blk_fz (HS.out.at2) 5
        have hc341 := blk_cellv (v := .int .i64 0) (HS.out.at2) 6 rfl
        have hz342 := blk_fz (HS.out.at2) 6
        have hc343 := blk_cellv (v := .int .i64 0) (HS.out.at2) 7 rfl
        have hz344 := blk_fz (HS.out.at2) 7
        refine store_step (w1 := (World.setCell (World.setCell (World.setCell (World.setCell (World.setCell (World.setCell (World.setCell (World.setCell w327 ⟨g315, 0, none⟩ (.int .i64 t185)) ⟨g315, 1, none⟩ (.int .i64 (wrap64 (a25 - 8)))) ⟨g315, 2, none⟩ (.int .i64 0)) ⟨g315, 3, none⟩ (.int .i64 0)) ⟨g315, 4, none⟩ (.int .i64 0)) ⟨g315, 5, none⟩ (.int .i64 0)) ⟨g315, 6, none⟩ (.int .i64 0)) ⟨g315, 7, none⟩ (.int .i64 0))) (by rfl) rfl ?hr ?_
        case hr => first | (go_simp; done) | (go_simp; rfl)
        clear hc329 hz330 hc331 hz332 hc333 hz334 hc335 hz336 hc337 hz338 hc339 hz340 hc341 hz342 hc343 hz344
        intro w328 hst
        replace HS : Aside0 (Sep (fps []) w [b1 g28 a24 a25 a26 a27, b2 g31 0 0 0 0 0 0 0 0, b2 g315 t185 (wrap64 (a25 - 8)) 0 0 0 0 0 0, b3 g318 a24 a25, b4 g323 24 a26 t159] w328) := ⟨by rw [hst]; exact HS.out.setAll (l1 := [b1 g28 a24 a25 a26 a27, b2 g31 0 0 0 0 0 0 0 0]) (l2 := [b3 g318 a24 a25, b4 g323 24 a26 t159]) [.int .i64 t185, .int .i64 (wrap64 (a25 - 8)), .int .i64 0, .int .i64 0, .int .i64 0, .int .i64 0, .int .i64 0, .int .i64 0] rfl⟩
        clear hst
        refine hK.out _ _ (⟨blk_cellv (HS.out.at0) 2 rfl, blk_cellv (HS.out.at0) 0 rfl, blk_cellv (HS.out.at0) 1 rfl⟩) (fun hHeld => ?_)
        clear hK K
        refine done_ (by kernel_rfl) ?_
        go_wp2_with fail
        go_meet
        case rel => exact ⟨g318, g323, g315, (by first | rfl | (simp [IntKind.wrap_u32]; done)), ⟨(((((HS.out).front 2 (by simp)).front 4 (by simp)).front 4 (by simp)).front 4 (by simp)).front 4 (by simp)⟩⟩
    case rest =>
      clear HS
      obtain ⟨g85, g162, g188, rfl, HS⟩ := hcut
      obtain ⟨w208, rfl⟩ : ∃ x : World, x = wc := ⟨_, rfl⟩
      replace HS : Aside0 (Sep (fps []) w [b1 g28 a24 a25 a26 a27, b2 g31 0 0 0 0 0 0 0 0, b2 g188 t185 (wrap64 (a25 - 8)) 0 0 0 0 0 0] w208) := ⟨HS.out.sub (.cons_cons _ (.cons_cons _ (.cons _ (.cons _ (.cons_cons _ .slnil)))))⟩
      have hc345 : w208.cell? ⟨g188, 1, none⟩ = some (.int .i64 (wrap64 (a25 - 8))) := blk_cellv (HS.out.at2) 1 rfl
      have hc346 : w208.cell? ⟨g188, 2, none⟩ = some (.int .i64 0) := blk_cellv (HS.out.at2) 2 rfl
      have hz347 : w208.frozen? ⟨g188, 2, none⟩ = false := blk_fz (HS.out.at2) 2
      go_wp2_with (first | ((with_reducible refine gate_store (t := 3) (p := 29) rfl ?_); refine store_event (w1 := (World.setCell w208 ⟨g188, 2, none⟩ (.int .i64 (wrap64 ((wrap64 (a25 - 8)) + 1))))) rfl (t := 3) (p := 29) rfl rfl ?hr ?_; (case hr => first | (go_simp; done) | (go_simp; rfl)); intro w348 hst; clear hc345 hc346 hz347; have hq0 : Sep (fps []) w [b1 g28 a24 a25 a26 a27, b2 g31 0 0 0 0 0 0 0 0, b2 g188 t185 (wrap64 (a25 - 8)) (wrap64 ((wrap64 (a25 - 8)) + 1)) 0 0 0 0 0] (World.setCell w208 ⟨g188, 2, none⟩ (.int .i64 (wrap64 ((wrap64 (a25 - 8)) + 1)))) := (HS.out).set1 (l1 := [b1 g28 a24 a25 a26 a27, b2 g31 0 0 0 0 0 0 0 0]) (l2 := []) 2 (.int .i64 (wrap64 ((wrap64 (a25 - 8)) + 1))); replace HS : Aside0 (Sep (fps []) w [b1 g28 a24 a25 a26 a27, b2 g31 0 0 0 0 0 0 0 0, b2 g188 t185 (wrap64 (a25 - 8)) (wrap64 ((wrap64 (a25 - 8)) + 1)) 0 0 0 0 0] w348) := ⟨by rw [hst]; exact hq0⟩; clear hq0; clear hst; have hc349 : w348.cell? ⟨g188, 1, none⟩ = some (.int .i64 (wrap64 (a25 - 8))) := blk_cellv (HS.out.at2) 1 rfl; have hc350 : w348.cell? ⟨g28, 1, none⟩ = some (.int .i64 a25) := blk_cellv (HS.out.at0) 1 rfl) | ((with_reducible refine gate_dst (N := 35) rfl ?_); refine slice_on (n := 2) ?hg (N := 35) ?hd (cs := #[.int .i64 (wrap64 (a25 - 8)), .int .i64 (wrap64 (a25 - 1))]) (t := 3) ?hr ?_; (case hd => rfl); (case hg => rfl); (case hr => first | (go_simp; done) | (go_simp; rfl)); intro g351 hg w352 hbox hb; clear hc349 hc350; replace HS : Aside0 (Sep (fps []) w [b1 g28 a24 a25 a26 a27, b2 g31 0 0 0 0 0 0 0 0, b2 g188 t185 (wrap64 (a25 - 8)) (wrap64 ((wrap64 (a25 - 8)) + 1)) 0 0 0 0 0, b3 g351 (wrap64 (a25 - 8)) (wrap64 (a25 - 1))] w352) := ⟨HS.out.box hg hbox hb⟩; clear hg hbox hb))
      obtain ⟨t354, HA355, H⟩ := bind_some H
      refine (ratio_Mul.calls _ [wrap64 (a25 - 8), wrap64 (a25 - 1)] (some ⟨g351, 0, none⟩) 2 t354 _ ⟨Rd.lit (l := []) (xs := [wrap64 (a25 - 8), wrap64 (a25 - 1)]) HS.out 3 rfl (by simp)⟩ ⟨HGl0.out.pass (l := []) HS.out⟩ ⟨Sep.start _⟩ HA355).mono ?_
      rintro e_ w356 ⟨rfl, hS⟩
      replace HS : Aside0 (Sep (fps []) w [b1 g28 a24 a25 a26 a27, b2 g31 0 0 0 0 0 0 0 0, b2 g188 t185 (wrap64 (a25 - 8)) (wrap64 ((wrap64 (a25 - 8)) + 1)) 0 0 0 0 0, b3 g351 (wrap64 (a25 - 8)) (wrap64 (a25 - 1))] w356) := ⟨HS.out.call hS⟩
      clear hS
      have hc357 : w356.cell? ⟨g188, 3, none⟩ = some (.int .i64 0) := blk_cellv (HS.out.at2) 3 rfl
      have hz358 : w356.frozen? ⟨g188, 3, none⟩ = false := blk_fz (HS.out.at2) 3
      go_wp2_with (first | ((with_reducible refine gate_store (t := 3) (p := 37) rfl ?_); refine store_event (w1 := (World.setCell w356 ⟨g188, 3, none⟩ (.int .i64 t354))) rfl (t := 3) (p := 37) rfl rfl ?hr ?_; (case hr => first | (go_simp; done) | (go_simp; rfl)); intro w359 hst; clear hc357 hz358; have hq0 : Sep (fps []) w [b1 g28 a24 a25 a26 a27, b2 g31 0 0 0 0 0 0 0 0, b2 g188 t185 (wrap64 (a25 - 8)) (wrap64 ((wrap64 (a25 - 8)) + 1)) t354 0 0 0 0, b3 g351 (wrap64 (a25 - 8)) (wrap64 (a25 - 1))] (World.setCell w356 ⟨g188, 3, none⟩ (.int .i64 t354)) := (HS.out).set1 (l1 := [b1 g28 a24 a25 a26 a27, b2 g31 0 0 0 0 0 0 0 0]) (l2 := [b3 g351 (wrap64 (a25 - 8)) (wrap64 (a25 - 1))]) 3 (.int .i64 t354); replace HS : Aside0 (Sep (fps []) w [b1 g28 a24 a25 a26 a27, b2 g31 0 0 0 0 0 0 0 0, b2 g188 t185 (wrap64 (a25 - 8)) (wrap64 ((wrap64 (a25 - 8)) + 1)) t354 0 0 0 0, b3 g351 (wrap64 (a25 - 8)) (wrap64 (a25 - 1))] w359) := ⟨by rw [hst]; exact hq0⟩; clear hq0; clear hst; replace HS : Aside0 (Sep (fps []) w [b1 g28 a24 a25 a26 a27, b2 g31 0 0 0 0 0 0 0 0, b2 g188 t185 (wrap64 (a25 - 8)) (wrap64 ((wrap64 (a25 - 8)) + 1)) t354 0 0 0 0] w359) := ⟨HS.out.sub (.cons_cons _ (.cons_cons _ (.cons_cons _ (.cons _ .slnil))))⟩; have hc360 : w359.cell? ⟨g28, 0, none⟩ = some (.int .i64 a24) := blk_cellv (HS.out.at0) 0 rfl; have hc361 : w359.cell? ⟨g28, 1, none⟩ = some (.int .i64 a25) := blk_cellv (HS.out.at0) 1 rfl) | ((with_reducible refine gate_dst (N := 43) rfl ?_); refine slice_on (n := 2) ?hg (N := 43) ?hd (cs := #[.int .i64 a24, .int .i64 (wrap64 (a25 + 1))]) (t := 3) ?hr ?_; (case hd => rfl); (case hg => rfl); (case hr => first | (go_simp; done) | (go_simp; rfl)); intro g362 hg w363 hbox hb; clear hc360 hc361; replace HS : Aside0 (Sep (fps []) w [b1 g28 a24 a25 a26 a27, b2 g31 0 0 0 0 0 0 0 0, b2 g188 t185 (wrap64 (a25 - 8)) (wrap64 ((wrap64 (a25 - 8)) + 1)) t354 0 0 0 0, b3 g362 a24 (wrap64 (a25 + 1))] w363) := ⟨HS.out.box hg hbox hb⟩; clear hg hbox hb))
      obtain ⟨t365, HA366, H⟩ := bind_some H
      refine (ratio_Mul.calls _ [a24, wrap64 (a25 + 1)] (some ⟨g362, 0, none⟩) 2 t365 _ ⟨Rd.lit (l := []) (xs := [a24, wrap64 (a25 + 1)]) HS.out 3 rfl (by simp)⟩ ⟨HGl0.out.pass (l := []) HS.out⟩ ⟨Sep.start _⟩ HA366).mono ?_
      rintro e_ w367 ⟨rfl, hS⟩
      replace HS : Aside0 (Sep (fps []) w [b1 g28 a24 a25 a26 a27, b2 g31 0 0 0 0 0 0 0 0, b2 g188 t185 (wrap64 (a25 - 8)) (wrap64 ((wrap64 (a25 - 8)) + 1)) t354 0 0 0 0, b3 g362 a24 (wrap64 (a25 + 1))] w367) := ⟨HS.out.call hS⟩
      clear hS
      have hc368 : w367.cell? ⟨g188, 5, none⟩ = some (.int .i64 0) := blk_cellv (HS.out.at2) 5 rfl
      have hz369 : w367.frozen? ⟨g188, 5, none⟩ = false := blk_fz (HS.out.at2) 5
      go_wp2_with (first | ((with_reducible refine gate_store (t := 3) (p := 45) rfl ?_); refine store_event (w1 := (World.setCell w367 ⟨g188, 5, none⟩ (.int .i64 t365))) rfl (t := 3) (p := 45) rfl rfl ?hr ?_; (case hr => first | (go_simp; done) | (go_simp; rfl)); intro w370 hst; clear hc368 hz369; have hq0 : Sep (fps []) w [b1 g28 a24 a25 a26 a27, b2 g31 0 0 0 0 0 0 0 0, b2 g188 t185 (wrap64 (a25 - 8)) (wrap64 ((wrap64 (a25 - 8)) + 1)) t354 0 t365 0 0, b3 g362 a24 (wrap64 (a25 + 1))] (World.setCell w367 ⟨g188, 5, none⟩ (.int .i64 t365)) := (HS.out).set1 (l1 := [b1 g28 a24 a25 a26 a27, b2 g31 0 0 0 0 0 0 0 0]) (l2 := [b3 g362 a24 (wrap64 (a25 + 1))]) 5 (.int .i64 t365); replace HS : Aside0 (Sep (fps []) w [b1 g28 a24 a25 a26 a27, b2 g31 0 0 0 0 0 0 0 0, b2 g188 t185 (wrap64 (a25 - 8)) (wrap64 ((wrap64 (a25 - 8)) + 1)) t354 0 t365 0 0, b3 g362 a24 (wrap64 (a25 + 1))] w370) := ⟨by rw [hst]; exact hq0⟩; clear hq0; clear hst; replace HS : Aside0 (Sep (fps []) w [b1 g28 a24 a25 a26 a27, b2 g31 0 0 0 0 0 0 0 0, b2 g188 t185 (wrap64 (a25 - 8)) (wrap64 ((wrap64 (a25 - 8)) + 1)) t354 0 t365 0 0] w370) := ⟨HS.out.sub (.cons_cons _ (.cons_cons _ (.cons_cons _ (.cons _ .slnil))))⟩; have hc371 : w370.cell? ⟨g188, 5, none⟩ = some (.int .i64 t365) := blk_cellv (HS.out.at2) 5 rfl) | ((with_reducible refine gate_dst (N := 48) rfl ?_); refine slice_on (n := 2) ?hg (N := 48) ?hd (cs := #[.int .i64 3, .int .i64 t365]) (t := 3) ?hr ?_; (case hd => rfl); (case hg => rfl); (case hr => first | (go_simp; done) | (go_simp; rfl)); intro g372 hg w373 hbox hb; clear hc371; replace HS : Aside0 (Sep (fps []) w [b1 g28 a24 a25 a26 a27, b2 g31 0 0 0 0 0 0 0 0, b2 g188 t185 (wrap64 (a25 - 8)) (wrap64 ((wrap64 (a25 - 8)) + 1)) t354 0 t365 0 0, b3 g372 3 t365] w373) := ⟨HS.out.box hg hbox hb⟩; clear hg hbox hb))
      obtain ⟨t375, HA376, H⟩ := bind_some H
      refine (ratio_Mul.calls _ [3, t365] (some ⟨g372, 0, none⟩) 2 t375 _ ⟨Rd.lit (l := []) (xs := [3, t365]) HS.out 3 rfl (by simp)⟩ ⟨HGl0.out.pass (l := []) HS.out⟩ ⟨Sep.start _⟩ HA376).mono ?_
      rintro e_ w377 ⟨rfl, hS⟩
      replace HS : Aside0 (Sep (fps []) w [b1 g28 a24 a25 a26 a27, b2 g31 0 0 0 0 0 0 0 0, b2 g188 t185 (wrap64 (a25 - 8)) (wrap64 ((wrap64 (a25 - 8)) + 1)) t354 0 t365 0 0, b3 g372 3 t365] w377) := ⟨HS.out.call hS⟩
      clear hS
      go_wp2_with (first | ((with_reducible refine gate_dst (N := 50) rfl ?_); refine slice_on (n := 2) ?hg (N := 50) ?hd (cs := #[.int .i64 t375, .int .i64 4]) (t := 3) ?hr ?_; (case hd => rfl); (case hg => rfl); (case hr => first | (go_simp; done) | (go_simp; rfl)); intro g378 hg w379 hbox hb; replace HS : Aside0 (Sep (fps []) w [b1 g28 a24 a25 a26 a27, b2 g31 0 0 0 0 0 0 0 0, b2 g188 t185 (wrap64 (a25 - 8)) (wrap64 ((wrap64 (a25 - 8)) + 1)) t354 0 t365 0 0, b3 g372 3 t365, b3 g378 t375 4] w379) := ⟨HS.out.box hg hbox hb⟩; clear hg hbox hb))
      obtain ⟨t381, HA382, H⟩ := bind_some H
      refine (ratio_Add.calls _ [t375, 4] (some ⟨g378, 0, none⟩) 2 t381 _ ⟨Rd.lit (l := []) (xs := [t375, 4]) HS.out 4 rfl (by simp)⟩ ⟨HGl0.out.pass (l := []) HS.out⟩ ⟨Sep.start _⟩ HA382).mono ?_
      rintro e_ w383 ⟨rfl, hS⟩
      replace HS : Aside0 (Sep (fps []) w [b1 g28 a24 a25 a26 a27, b2 g31 0 0 0 0 0 0 0 0, b2 g188 t185 (wrap64 (a25 - 8)) (wrap64 ((wrap64 (a25 - 8)) + 1)) t354 0 t365 0 0, b3 g372 3 t365, b3 g378 t375 4] w383) := ⟨HS.out.call hS⟩
      clear hS
      have hc384 : w383.cell? ⟨g188, 4, none⟩ = some (.int .i64 0) := blk_cellv (HS.out.at2) 4 rfl
      have hz385 : w383.frozen? ⟨g188, 4, none⟩ = false := blk_fz (HS.out.at2) 4
      go_wp2_with (first | ((with_reducible refine gate_store (t := 3) (p := 52) rfl ?_); refine store_event (w1 := (World.setCell w383 ⟨g188, 4, none⟩ (.int .i64 t381))) rfl (t := 3) (p := 52) rfl rfl ?hr ?_; (case hr => first | (go_simp; done) | (go_simp; rfl)); intro w386 hst; clear hc384 hz385; have hq0 : Sep (fps []) w [b1 g28 a24 a25 a26 a27, b2 g31 0 0 0 0 0 0 0 0, b2 g188 t185 (wrap64 (a25 - 8)) (wrap64 ((wrap64 (a25 - 8)) + 1)) t354 t381 t365 0 0, b3 g372 3 t365, b3 g378 t375 4] (World.setCell w383 ⟨g188, 4, none⟩ (.int .i64 t381)) := (HS.out).set1 (l1 := [b1 g28 a24 a25 a26 a27, b2 g31 0 0 0 0 0 0 0 0]) (l2 := [b3 g372 3 t365, b3 g378 t375 4]) 4 (.int .i64 t381); replace HS : Aside0 (Sep (fps []) w [b1 g28 a24 a25 a26 a27, b2 g31 0 0 0 0 0 0 0 0, b2 g188 t185 (wrap64 (a25 - 8)) (wrap64 ((wrap64 (a25 - 8)) + 1)) t354 t381 t365 0 0, b3 g372 3 t365, b3 g378 t375 4] w386) := ⟨by rw [hst]; exact hq0⟩; clear hq0; clear hst; replace HS : Aside0 (Sep (fps []) w [b1 g28 a24 a25 a26 a27, b2 g31 0 0 0 0 0 0 0 0, b2 g188 t185 (wrap64 (a25 - 8)) (wrap64 ((wrap64 (a25 - 8)) + 1)) t354 t381 t365 0 0] w386) := ⟨HS.out.sub (.cons_cons _ (.cons_cons _ (.cons_cons _ (.cons _ (.cons _ .slnil)))))⟩))
      obtain ⟨t406, HA407, H⟩ := bind_some H
      obtain ⟨t412, HA413, H⟩ := bind_some H
      obtain ⟨t418, HA419, H⟩ := bind_some H
      obtain ⟨t424, HA425, H⟩ := bind_some H
      go_cut [] (fun wc => ∃ (g409 : Nat) (g415 : Nat) (g421 : Nat), Aside0 (Sep (fps []) w [b1 g28 a24 a25 a26 a27, b2 g31 0 0 0 0 0 0 0 0, b2 g188 t185 (wrap64 (a25 - 8)) (wrap64 ((wrap64 (a25 - 8)) + 1)) t354 t381 t365 t424 0, b3 g409 2 t406, b3 g415 2 (wrap64 ((wrap64 (a25 - 8)) + 1)), b3 g421 t412 t418] wc))
      case first =>
        go_wp2_with fail
        refine start_ (n := 15) (S := (fun w' => w'.cell? ⟨g188, 4, none⟩ = some (.int .i64 t381) ∧ w'.cell? ⟨g28, 3, none⟩ = some (.int .i64 a27) ∧ w'.cell? ⟨g188, 2, none⟩ = some (.int .i64 (wrap64 ((wrap64 (a25 - 8)) + 1))))) (ds := []) #[false, false, false, false, false, false, false, false, false, false, false, false, false, false, false] (by kernel_rfl) rfl rfl (⟨blk_cellv ((HS.out.drew).at2) 4 rfl, blk_cellv ((HS.out.drew).at0) 3 rfl, blk_cellv ((HS.out.drew).at2) 2 rfl⟩) (fun hHeld => ?_)
        have HS_ := Aside0.mk HS.out.drew
        clear HS
        generalize World.drew _ = w432 at HS_ hHeld ⊢
        have HS := HS_
        clear HS_
        refine pure_ (i := 0) (N := some 53) (v := ?_) (a' := ?_) #[true, false, false, false, false, false, false, false, false, false, false, false, false, false, false] rfl rfl (by kernel_rfl) (fun _ _ _ h => h) (Or.inl ⟨by rfl, ?_⟩) ?_ ?_
        rotate_left
        · intro w'
          go_simp
          with_reducible rfl
        rotate_left
        · simp only [Act.put, List.setIfInBounds_toArray, List.set_cons_zero, List.set_cons_succ, i64_w, i32_w]
          rfl
        refine pure_ (i := 2) (N := some 55) (v := ?_) (a' := ?_) #[true, false, true, false, false, false, false, false, false, false, false, false, false, false, false] rfl rfl (by kernel_rfl) (fun _ _ _ h => h) (Or.inl ⟨by rfl, ?_⟩) ?_ ?_
        rotate_left
        · intro w'
          go_simp
          with_reducible rfl
        rotate_left
        · simp only [Act.put, List.setIfInBounds_toArray, List.set_cons_zero, List.set_cons_succ, i64_w, i32_w]
          rfl
        refine pure_ (i := 7) (N := some 60) (v := ?_) (a' := ?_) #[true, false, true, false, false, false, false, true, false, false, false, false, false, false, false] rfl rfl (by kernel_rfl) (fun _ _ _ h => h) (Or.inl ⟨by rfl, ?_⟩) ?_ ?_
        rotate_left
        · intro w'
          go_simp
          with_reducible rfl
        rotate_left
        · simp only [Act.put, List.setIfInBounds_toArray, List.set_cons_zero, List.set_cons_succ, i64_w, i32_w]
          rfl
        refine take_ (i := 1) (N := some 54) (v := ?_) (a' := ?_) #[true, true, true, false, false, false, false, true, false, false, false, false, false, false, false] rfl rfl (by kernel_rfl) (fun _ _ _ h => h) (Or.inl ⟨by rfl, ?_⟩) hHeld ?_ ?_
        rotate_left
        · rintro w' hS'
          obtain ⟨s0, s1, s2⟩ := hS'
          go_simp
          with_reducible rfl
        rotate_left
        · simp only [Act.put, List.setIfInBounds_toArray, List.set_cons_zero, List.set_cons_succ, i64_w, i32_w]
          rfl
        refine take_ (i := 3) (N := some 56) (v := ?_) (a' := ?_) #[true, true, true, true, false, false, false, true, false, false, false, false, false, false, false] rfl rfl (by kernel_rfl) (fun _ _ _ h => h) (Or.inl ⟨by rfl, ?_⟩) hHeld ?_ ?_
        rotate_left
        · rintro w' hS'
          obtain ⟨s0, s1, s2⟩ := hS'
          go_simp
          with_reducible rfl
        rotate_left
        · simp only [Act.put, List.setIfInBounds_toArray, List.set_cons_zero, List.set_cons_succ, i64_w, i32_w]
          rfl
        refine take_ (i := 8) (N := some 61) (v := ?_) (a' := ?_) #[true, true, true, true, false, false, false, true, true, false, false, false, false, false, false] rfl rfl (by kernel_rfl) (fun _ _ _ h => h) (Or.inl ⟨by rfl, ?_⟩) hHeld ?_ ?_
        rotate_left
        · rintro w' hS'
          obtain ⟨s0, s1, s2⟩ := hS'
          go_simp
          with_reducible rfl
        rotate_left
        · simp only [Act.put, List.setIfInBounds_toArray, List.set_cons_zero, List.set_cons_succ, i64_w, i32_w]
          rfl
        refine two_ (i := 4) (j := 9) (Ni := some 57) (Nj := some 62) #[true, true, true, true, true, false, false, true, true, false, false, false, false, false, false] #[true, true, true, true, false, false, false, true, true, true, false, false, false, false, false] rfl rfl rfl rfl (by kernel_rfl) (by decide) (by decide) (fun K hK => ?_) (fun K hK => ?_)
        · refine goes_ Tryd.func124 (by kernel_rfl) rfl #[.int .i64 t381, .int .i64 a27] (by rfl) rfl rfl (by (try simp only [List.map_toArray, List.map_cons, List.map_nil]); first | done | rfl) ?_
          refine (ratio_Up.calls t381 a27 t406 _ ⟨HGl0.out.pass (l := []) HS.out⟩ ⟨Sep.start _⟩ HA407).mono ?_
          rintro e_ w434 ⟨rfl, hS⟩
          replace HS : Aside0 (Sep (fps []) w [b1 g28 a24 a25 a26 a27, b2 g31 0 0 0 0 0 0 0 0, b2 g188 t185 (wrap64 (a25 - 8)) (wrap64 ((wrap64 (a25 - 8)) + 1)) t354 t381 t365 0 0] w434) := ⟨HS.out.call hS⟩
          clear hS
          refine ⟨_, rfl, ?_⟩
          refine hK.out _ _ (⟨blk_cellv (HS.out.at2) 4 rfl, blk_cellv (HS.out.at0) 3 rfl, blk_cellv (HS.out.at2) 2 rfl⟩) (fun hHeld => ?_)
          clear hK K
          refine norm_ (a' := ?_) ?_ ?_
          rotate_left
          · show Act.put _ (some 57) _ = _
            simp only [Act.put, List.setIfInBounds_toArray, List.set_cons_zero, List.set_cons_succ, i64_w, i32_w]
            rfl
          refine two_ (i := 5) (j := 9) (Ni := some 58) (Nj := some 62) #[true, true, true, true, true, true, false, true, true, false, false, false, false, false, false] #[true, true, true, true, true, false, false, true, true, true, false, false, false, false, false] rfl rfl rfl rfl (by kernel_rfl) (by decide) (by decide) (fun K hK => ?_) (fun K hK => ?_)
          · refine slice_step (n := 2) (by rfl) (N := 58) rfl (cs := #[.int .i64 2, .int .i64 t406]) (t := 3) ?hr ?_
            case hr => first | (go_simp; done) | (go_simp; rfl)
            intro g435 hg w436 hbox hb
            replace HS : Aside0 (Sep (fps []) w [b1 g28 a24 a25 a26 a27, b2 g31 0 0 0 0 0 0 0 0, b2 g188 t185 (wrap64 (a25 - 8)) (wrap64 ((wrap64 (a25 - 8)) + 1)) t354 t381 t365 0 0, b3 g435 2 t406] w436) := ⟨HS.out.box hg hbox hb⟩
            clear hg hbox hb
            refine hK.out _ _ (⟨blk_cellv (HS.out.at2) 4 rfl, blk_cellv (HS.out.at0) 3 rfl, blk_cellv (HS.out.at2) 2 rfl⟩) (fun hHeld => ?_)
            clear hK K
            refine norm_ (a' := ?_) ?_ ?_
            rotate_left
            · show Act.put _ (some 58) _ = _
              simp only [Act.put, List.setIfInBounds_toArray, List.set_cons_zero, List.set_cons_succ, i64_w, i32_w]
              rfl
            refine two_ (i := 6) (j := 9) (Ni := some 59) (Nj := some 62) #[true, true, true, true, true, true, true, true, true, false, false, false, false, false, false] #[true, true, true, true, true, true, false, true, true, true, false, false, false, false, false] rfl rfl rfl rfl (by kernel_rfl) (by decide) (by decide) (fun K hK => ?_) (fun K hK => ?_)
            · refine goes_ Tryd.func123 (by kernel_rfl) rfl #[.slice (some ⟨g435, 0, none⟩) 2 2] (by rfl) rfl rfl (by (try simp only [List.map_toArray, List.map_cons, List.map_nil]); first | done | rfl) ?_
              refine (ratio_Mul.calls _ [2, t406] (some ⟨g435, 0, none⟩) 2 t412 _ ⟨Rd.lit (l := []) (xs := [2, t406]) HS.out 3 rfl (by simp)⟩ ⟨HGl0.out.pass (l := []) HS.out⟩ ⟨Sep.start _⟩ HA413).mono ?_
              rintro e_ w439 ⟨rfl, hS⟩
              replace HS : Aside0 (Sep (fps []) w [b1 g28 a24 a25 a26 a27, b2 g31 0 0 0 0 0 0 0 0, b2 g188 t185 (wrap64 (a25 - 8)) (wrap64 ((wrap64 (a25 - 8)) + 1)) t354 t381 t365 0 0, b3 g435 2 t406] w439) := ⟨HS.out.call hS⟩
              clear hS
              refine ⟨_, rfl, ?_⟩
              refine hK.out _ _ (⟨blk_cellv (HS.out.at2) 4 rfl, blk_cellv (HS.out.at0) 3 rfl, blk_cellv (HS.out.at2) 2 rfl⟩) (fun hHeld => ?_)
              clear hK K
              refine norm_ (a' := ?_) ?_ ?_
              rotate_left
              · show Act.put _ (some 59) _ = _
                simp only [Act.put, List.setIfInBounds_toArray, List.set_cons_zero, List.set_cons_succ, i64_w, i32_w]
                rfl
              refine one_ (i := 9) (N := some 62) #[true, true, true, true, true, true, true, true, true, true, false, false, false, false, false] rfl rfl (by kernel_rfl) (by decide) (fun K hK => ?_)
              refine slice_step (n := 2) (by rfl) (N := 62) rfl (cs := #[.int .i64 2, .int .i64 (wrap64 ((wrap64 (a25 - 8)) + 1))]) (t := 3) ?hr ?_
              case hr => first | (go_simp; done) | (go_simp; rfl)
              intro g440 hg w441 hbox hb
              replace HS : Aside0 (Sep (fps []) w [b1 g28 a24 a25 a26 a27, b2 g31 0 0 0 0 0 0 0 0, b2 g188 t185 (wrap64 (a25 - 8)) (wrap64 ((wrap64 (a25 - 8)) + 1)) t354 t381 t365 0 0, b3 g435 2 t406, b3 g440 2 (wrap64 ((wrap64 (a25 - 8)) + 1))] w441) := ⟨HS.out.box hg hbox hb⟩
              clear hg hbox hb
              refine hK.out _ _ (⟨blk_cellv (HS.out.at2) 4 rfl, blk_cellv (HS.out.at0) 3 rfl, blk_cellv (HS.out.at2) 2 rfl⟩) (fun hHeld => ?_)
              clear hK K
              refine norm_ (a' := ?_) ?_ ?_
              rotate_left
              · show Act.put _ (some 62) _ = _
                simp only [Act.put, List.setIfInBounds_toArray, List.set_cons_zero, List.set_cons_succ, i64_w, i32_w]
                rfl
              refine one_ (i := 10) (N := some 63) #[true, true, true, true, true, true, true, true, true, true, true, false, false, false, false] rfl rfl (by kernel_rfl) (by decide) (fun K hK => ?_)
              refine goes_ Tryd.func123 (by kernel_rfl) rfl #[.slice (some ⟨g440, 0, none⟩) 2 2] (by rfl) rfl rfl (by (try simp only [List.map_toArray, List.map_cons, List.map_nil]); first | done | rfl) ?_
              refine (ratio_Mul.calls _ [2, wrap64 ((wrap64 (a25 - 8)) + 1)] (some ⟨g440, 0, none⟩) 2 t418 _ ⟨Rd.lit (l := []) (xs := [2, wrap64 ((wrap64 (a25 - 8)) + 1)]) HS.out 4 rfl (by simp)⟩ ⟨HGl0.out.pass (l := []) HS.out⟩ ⟨Sep.start _⟩ HA419).mono ?_
              rintro e_ w444 ⟨rfl, hS⟩
              replace HS : Aside0 (Sep (fps []) w [b1 g28 a24 a25 a26 a27, b2 g31 0 0 0 0 0 0 0 0, b2 g188 t185 (wrap64 (a25 - 8)) (wrap64 ((wrap64 (a25 - 8)) + 1)) t354 t381 t365 0 0, b3 g435 2 t406, b3 g440 2 (wrap64 ((wrap64 (a25 - 8)) + 1))] w444) := ⟨HS.out.call hS⟩
              clear hS
              refine ⟨_, rfl, ?_⟩
              refine hK.out _ _ (⟨blk_cellv (HS.out.at2) 4 rfl, blk_cellv (HS.out.at0) 3 rfl, blk_cellv (HS.out.at2) 2 rfl⟩) (fun hHeld => ?_)
              clear hK K
              refine norm_ (a' := ?_) ?_ ?_
              rotate_left
              · show Act.put _ (some 63) _ = _
                simp only [Act.put, List.setIfInBounds_toArray, List.set_cons_zero, List.set_cons_succ, i64_w, i32_w]
                rfl
              refine one_ (i := 11) (N := some 64) #[true, true, true, true, true, true, true, true, true, true, true, true, false, false, false] rfl rfl (by kernel_rfl) (by decide) (fun K hK => ?_)
              refine slice_step (n := 2) (by rfl) (N := 64) rfl (cs := #[.int .i64 t412, .int .i64 t418]) (t := 3) ?hr ?_
              case hr => first | (go_simp; done) | (go_simp; rfl)
              intro g445 hg w446 hbox hb
              replace HS : Aside0 (Sep (fps []) w [b1 g28 a24 a25 a26 a27, b2 g31 0 0 0 0 0 0 0 0, b2 g188 t185 (wrap64 (a25 - 8)) (wrap64 ((wrap64 (a25 - 8)) + 1)) t354 t381 t365 0 0, b3 g435 2 t406, b3 g440 2 (wrap64 ((wrap64 (a25 - 8)) + 1)), b3 g445 t412 t418] w446) := ⟨HS.out.box hg hbox hb⟩
              clear hg hbox hb
              refine hK.out _ _ (⟨blk_cellv (HS.out.at2) 4 rfl, blk_cellv (HS.out.at0) 3 rfl, blk_cellv (HS.out.at2) 2 rfl⟩) (fun hHeld => ?_)
              clear hK K
              refine norm_ (a' := ?_) ?_ ?_
              rotate_left
              · show Act.put _ (some 64) _ = _
                simp only [Act.put, List.setIfInBounds_toArray, List.set_cons_zero, List.set_cons_succ, i64_w, i32_w]
                rfl
              refine one_ (i := 12) (N := some 65) #[true, true, true, true, true, true, true, true, true, true, true, true, true, false, false] rfl rfl (by kernel_rfl) (by decide) (fun K hK => ?_)
              refine goes_ Tryd.func122 (by kernel_rfl) rfl #[.slice (some ⟨g445, 0, none⟩) 2 2] (by rfl) rfl rfl (by (try simp only [List.map_toArray, List.map_cons, List.map_nil]); first | done | rfl) ?_
              refine (ratio_Add.calls _ [t412, t418] (some ⟨g445, 0, none⟩) 2 t424 _ ⟨Rd.lit (l := []) (xs := [t412, t418]) HS.out 5 rfl (by simp)⟩ ⟨HGl0.out.pass (l := []) HS.out⟩ ⟨Sep.start _⟩ HA425).mono ?_
              rintro e_ w449 ⟨rfl, hS⟩
              replace HS : Aside0 (Sep (fps []) w [b1 g28 a24 a25 a26 a27, b2 g31 0 0 0 0 0 0 0 0, b2 g188 t185 (wrap64 (a25 - 8)) (wrap64 ((wrap64 (a25 - 8)) + 1)) t354 t381 t365 0 0, b3 g435 2 t406, b3 g440 2 (wrap64 ((wrap64 (a25 - 8)) + 1)), b3 g445 t412 t418] w449) := ⟨HS.out.call hS⟩
              clear hS
              refine ⟨_, rfl, ?_⟩
              refine hK.out _ _ (⟨blk_cellv (HS.out.at2) 4 rfl, blk_cellv (HS.out.at0) 3 rfl, blk_cellv (HS.out.at2) 2 rfl⟩) (fun hHeld => ?_)
              clear hK K
              refine norm_ (a' := ?_) ?_ ?_
              rotate_left
              · show Act.put _ (some 65) _ = _
                simp only [Act.put, List.setIfInBounds_toArray, List.set_cons_zero, List.set_cons_succ, i64_w, i32_w]
                rfl
              refine pure_ (i := 13) (N := some 66) (v := ?_) (a' := ?_) #[true, true, true, true, true, true, true, true, true, true, true, true, true, true, false] rfl rfl (by kernel_rfl) (fun _ _ _ h => h) (Or.inl ⟨by rfl, ?_⟩) ?_ ?_
              rotate_left
              · intro w'
                go_simp
                with_reducible rfl
              rotate_left
              · simp only [Act.put, List.setIfInBounds_toArray, List.set_cons_zero, List.set_cons_succ, i64_w, i32_w]
                rfl
              refine one_ (i := 14) (N := none) #[true, true, true, true, true, true, true, true, true, true, true, true, true, true, true] rfl rfl (by kernel_rfl) (by decide) (fun K hK => ?_)
              have hc451 := blk_cellv (v := .int .i64 0) (HS.out.at2) 6 rfl
              have hz452 := blk_fz (HS.out.at2) 6
              refine store_step (w1 := (World.setCell w449 ⟨g188, 6, none⟩ (.int .i64 t424))) (by rfl) rfl ?hr ?_
              case hr => first | (go_simp; done) | (go_simp; rfl)
              clear hc451 hz452
              intro w450 hst
              have hq0 : Sep (fps []) w [b1 g28 a24 a25 a26 a27, b2 g31 0 0 0 0 0 0 0 0, b2 g188 t185 (wrap64 (a25 - 8)) (wrap64 ((wrap64 (a25 - 8)) + 1)) t354 t381 t365 t424 0, b3 g435 2 t406, b3 g440 2 (wrap64 ((wrap64 (a25 - 8)) + 1)), b3 g445 t412 t418] (World.setCell w449 ⟨g188, 6, none⟩ (.int .i64 t424)) := (HS.out).set1 (l1 := [b1 g28 a24 a25 a26 a27, b2 g31 0 0 0 0 0 0 0 0]) (l2 := [b3 g435 2 t406, b3 g440 2 (wrap64 ((wrap64 (a25 - 8)) + 1)), b3 g445 t412 t418]) 6 (.int .i64 t424)
              have HS_ : Aside0 (Sep (fps []) w [b1 g28 a24 a25 a26 a27, b2 g31 0 0 0 0 0 0 0 0, b2 g188 t185 (wrap64 (a25 - 8)) (wrap64 ((wrap64 (a25 - 8)) + 1)) t354 t381 t365 t424 0, b3 g435 2 t406, b3 g440 2 (wrap64 ((wrap64 (a25 - 8)) + 1)), b3 g445 t412 t418] w450) := ⟨by rw [hst]; exact hq0⟩
              clear hq0
              clear HS hst
              have HS := HS_
              clear HS_
              refine hK.out _ _ (⟨blk_cellv (HS.out.at2) 4 rfl, blk_cellv (HS.out.at0) 3 rfl, blk_cellv (HS.out.at2) 2 rfl⟩) (fun hHeld => ?_)
              clear hK K
              refine done_ (by kernel_rfl) ?_
              go_wp2_with fail
              go_meet
              case rel => exact ⟨g435, g440, g445, ⟨((((((HS.out).front 5 (by simp)).front 5 (by simp)).front 5 (by simp)).front 5 (by simp)).front 5 (by simp)).front 5 (by simp)⟩⟩
            · refine slice_step (n := 2) (by rfl) (N := 62) rfl (cs := #[.int .i64 2, .int .i64 (wrap64 ((wrap64 (a25 - 8)) + 1))]) (t := 3) ?hr ?_
              case hr => first | (go_simp; done) | (go_simp; rfl)
              intro g453 hg w454 hbox hb
              replace HS : Aside0 (Sep (fps []) w [b1 g28 a24 a25 a26 a27, b2 g31 0 0 0 0 0 0 0 0, b2 g188 t185 (wrap64 (a25 - 8)) (wrap64 ((wrap64 (a25 - 8)) + 1)) t354 t381 t365 0 0, b3 g435 2 t406, b3 g453 2 (wrap64 ((wrap64 (a25 - 8)) + 1))] w454) := ⟨HS.out.box hg hbox hb⟩
              clear hg hbox hb
              refine hK.out _ _ (⟨blk_cellv (HS.out.at2) 4 rfl, blk_cellv (HS.out.at0) 3 rfl, blk_cellv (HS.out.at2) 2 rfl⟩) (fun hHeld => ?_)
              clear hK K
              refine norm_ (a' := ?_) ?_ ?_
              rotate_left
              · show Act.put _ (some 62) _ = _
                simp only [Act.put, List.setIfInBounds_toArray, List.set_cons_zero, List.set_cons_succ, i64_w, i32_w]
                rfl
              refine one_ (i := 6) (N := some 59) #[true, true, true, true, true, true, true, true, true, true, false, false, false, false, false] rfl rfl (by kernel_rfl) (by decide) (fun K hK => ?_)
              refine goes_ Tryd.func123 (by kernel_rfl) rfl #[.slice (some ⟨g435, 0, none⟩) 2 2] (by rfl) rfl rfl (by (try simp only [List.map_toArray, List.map_cons, List.map_nil]); first | done | rfl) ?_
              refine (ratio_Mul.calls _ [2, t406] (some ⟨g435, 0, none⟩) 2 t412 _ ⟨Rd.lit (l := []) (xs := [2, t406]) HS.out 3 rfl (by simp)⟩ ⟨HGl0.out.pass (l := []) HS.out⟩ ⟨Sep.start _⟩ HA413).mono ?_
              rintro e_ w457 ⟨rfl, hS⟩
              replace HS : Aside0 (Sep (fps []) w [b1 g28 a24 a25 a26 a27, b2 g31 0 0 0 0 0 0 0 0, b2 g188 t185 (wrap64 (a25 - 8)) (wrap64 ((wrap64 (a25 - 8)) + 1)) t354 t381 t365 0 0, b3 g435 2 t406, b3 g453 2 (wrap64 ((wrap64 (a25 - 8)) + 1))] w457) := ⟨HS.out.call hS⟩
              clear hS
              refine ⟨_, rfl, ?_⟩
              refine hK.out _ _ (⟨blk_cellv (HS.out.at2) 4 rfl, blk_cellv (HS.out.at0) 3 rfl, blk_cellv (HS.out.at2) 2 rfl⟩) (fun hHeld => ?_)
              clear hK K
              refine norm_ (a' := ?_) ?_ ?_
              rotate_left
              · show Act.put _ (some 59) _ = _
                simp only [Act.put, List.setIfInBounds_toArray, List.set_cons_zero, List.set_cons_succ, i64_w, i32_w]
                rfl
              refine one_ (i := 10) (N := some 63) #[true, true, true, true, true, true, true, true, true, true, true, false, false, false, false] rfl rfl (by kernel_rfl) (by decide) (fun K hK => ?_)
              refine goes_ Tryd.func123 (by kernel_rfl) rfl #[.slice (some ⟨g453, 0, none⟩) 2 2] (by rfl) rfl rfl (by (try simp only [List.map_toArray, List.map_cons, List.map_nil]); first | done | rfl) ?_
              refine (ratio_Mul.calls _ [2, wrap64 ((wrap64 (a25 - 8)) + 1)] (some ⟨g453, 0, none⟩) 2 t418 _ ⟨Rd.lit (l := []) (xs := [2, wrap64 ((wrap64 (a25 - 8)) + 1)]) HS.out 4 rfl (by simp)⟩ ⟨HGl0.out.pass (l := []) HS.out⟩ ⟨Sep.start _⟩ HA419).mono ?_
              rintro e_ w459 ⟨rfl, hS⟩
              replace HS : Aside0 (Sep (fps []) w [b1 g28 a24 a25 a26 a27, b2 g31 0 0 0 0 0 0 0 0, b2 g188 t185 (wrap64 (a25 - 8)) (wrap64 ((wrap64 (a25 - 8)) + 1)) t354 t381 t365 0 0, b3 g435 2 t406, b3 g453 2 (wrap64 ((wrap64 (a25 - 8)) + 1))] w459) := ⟨HS.out.call hS⟩
              clear hS
              refine ⟨_, rfl, ?_⟩
              refine hK.out _ _ (⟨blk_cellv (HS.out.at2) 4 rfl, blk_cellv (HS.out.at0) 3 rfl, blk_cellv (HS.out.at2) 2 rfl⟩) (fun hHeld => ?_)
              clear hK K
              refine norm_ (a' := ?_) ?_ ?_
              rotate_left
              · show Act.put _ (some 63) _ = _
                simp only [Act.put, List.setIfInBounds_toArray, List.set_cons_zero, List.set_cons_succ, i64_w, i32_w]
                rfl
              refine one_ (i := 11) (N := some 64) #[true, true, true, true, true, true, true, true, true, true, true, true, false, false, false] rfl rfl (by kernel_rfl) (by decide) (fun K hK => ?_)
              refine slice_step (n := 2) (by rfl) (N := 64) rfl (cs := #[.int .i64 t412, .int .i64 t418]) (t := 3) ?hr ?_
              case hr => first | (go_simp; done) | (go_simp; rfl)
              intro g460 hg w461 hbox hb
              replace HS : Aside0 (Sep (fps []) w [b1 g28 a24 a25 a26 a27, b2 g31 0 0 0 0 0 0 0 0, b2 g188 t185 (wrap64 (a25 - 8)) (wrap64 ((wrap64 (a25 - 8)) + 1)) t354 t381 t365 0 0, b3 g435 2 t406, b3 g453 2 (wrap64 ((wrap64 (a25 - 8)) + 1)), b3 g460 t412 t418] w461) := ⟨HS.out.box hg hbox hb⟩
              clear hg hbox hb
              refine hK.out _ _ (⟨blk_cellv (HS.out.at2) 4 rfl, blk_cellv (HS.out.at0) 3 rfl, blk_cellv (HS.out.at2) 2 rfl⟩) (fun hHeld => ?_)
              clear hK K
              refine norm_ (a' := ?_) ?_ ?_
              rotate_left
              · show Act.put _ (some 64) _ = _
                simp only [Act.put, List.setIfInBounds_toArray, List.set_cons_zero, List.set_cons_succ, i64_w, i32_w]
                rfl
              refine one_ (i := 12) (N := some 65) #[true, true, true, true, true, true, true, true, true, true, true, true, true, false, false] rfl rfl (by kernel_rfl) (by decide) (fun K hK => ?_)
              refine goes_ Tryd.func122 (by kernel_rfl) rfl #[.slice (some ⟨g460, 0, none⟩) 2 2] (by rfl) rfl rfl (by (try simp only [List.map_toArray, List.map_cons, List.map_nil]); first | done | rfl) ?_
              refine (ratio_Add.calls _ [t412, t418] (some ⟨g460, 0, none⟩) 2 t424 _ ⟨Rd.lit (l := []) (xs := [t412, t418]) HS.out 5 rfl (by simp)⟩ ⟨HGl0.out.pass (l := []) HS.out⟩ ⟨Sep.start _⟩ HA425).mono ?_
              rintro e_ w464 ⟨rfl, hS⟩
              replace HS : Aside0 (Sep (fps []) w [b1 g28 a24 a25 a26 a27, b2 g31 0 0 0 0 0 0 0 0, b2 g188 t185 (wrap64 (a25 - 8)) (wrap64 ((wrap64 (a25 - 8)) + 1)) t354 t381 t365 0 0, b3 g435 2 t406, b3 g453 2 (wrap64 ((wrap64 (a25 - 8)) + 1)), b3 g460 t412 t418] w464) := ⟨HS.out.call hS⟩
              clear hS
              refine ⟨_, rfl, ?_⟩
              refine hK.out _ _ (⟨blk_cellv (HS.out.at2) 4 rfl, blk_cellv (HS.out.at0) 3 rfl, blk_cellv (HS.out.at2) 2 rfl⟩) (fun hHeld => ?_)
              clear hK K
              refine norm_ (a' := ?_) ?_ ?_
              rotate_left
              · show Act.put _ (some 65) _ = _
                simp only [Act.put, List.setIfInBounds_toArray, List.set_cons_zero, List.set_cons_succ, i64_w, i32_w]
                rfl
              refine pure_ (i := 13) (N := some 66) (v := ?_) (a' := ?_) #[true, true, true, true, true, true, true, true, true, true, true, true, true, true, false] rfl rfl (by kernel_rfl) (fun _ _ _ h => h) (Or.inl ⟨by rfl, ?_⟩) ?_ ?_
              rotate_left
              · intro w'
                go_simp
                with_reducible rfl
              rotate_left
              · simp only [Act.put, List.setIfInBounds_toArray, List.set_cons_zero, List.set_cons_succ, i64_w, i32_w]
                rfl
              refine one_ (i := 14) (N := none) #[true, true, true, true, true, true, true, true, true, true, true, true, true, true, true] rfl rfl (by kernel_rfl) (by decide) (fun K hK => ?_)
              have hc466 := blk_cellv (v := .int .i64 0) (HS.out.at2) 6 rfl
              have hz467 := blk_fz (HS.out.at2) 6
              refine store_step (w1 := (World.setCell w464 ⟨g188, 6, none⟩ (.int .i64 t424))) (by rfl) rfl ?hr ?_
              case hr => first | (go_simp; done) | (go_simp; rfl)
              clear hc466 hz467
              intro w465 hst
              have hq0 : Sep (fps []) w [b1 g28 a24 a25 a26 a27, b2 g31 0 0 0 0 0 0 0 0, b2 g188 t185 (wrap64 (a25 - 8)) (wrap64 ((wrap64 (a25 - 8)) + 1)) t354 t381 t365 t424 0, b3 g435 2 t406, b3 g453 2 (wrap64 ((wrap64 (a25 - 8)) + 1)), b3 g460 t412 t418] (World.setCell w464 ⟨g188, 6, none⟩ (.int .i64 t424)) := (HS.out).set1 (l1 := [b1 g28 a24 a25 a26 a27, b2 g31 0 0 0 0 0 0 0 0]) (l2 := [b3 g435 2 t406, b3 g453 2 (wrap64 ((wrap64 (a25 - 8)) + 1)), b3 g460 t412 t418]) 6 (.int .i64 t424)
              have HS_ : Aside0 (Sep (fps []) w [b1 g28 a24 a25 a26 a27, b2 g31 0 0 0 0 0 0 0 0, b2 g188 t185 (wrap64 (a25 - 8)) (wrap64 ((wrap64 (a25 - 8)) + 1)) t354 t381 t365 t424 0, b3 g435 2 t406, b3 g453 2 (wrap64 ((wrap64 (a25 - 8)) + 1)), b3 g460 t412 t418] w465) := ⟨by rw [hst]; exact hq0⟩
              clear hq0
              clear HS hst
              have HS := HS_
              clear HS_
              refine hK.out _ _ (⟨blk_cellv (HS.out.at2) 4 rfl, blk_cellv (HS.out.at0) 3 rfl, blk_cellv (HS.out.at2) 2 rfl⟩) (fun hHeld => ?_)
              clear hK K
              refine done_ (by kernel_rfl) ?_
              go_wp2_with fail
              go_meet
              case rel => exact ⟨g435, g453, g460, ⟨((((((HS.out).front 5 (by simp)).front 5 (by simp)).front 5 (by simp)).front 5 (by simp)).front 5 (by simp)).front 5 (by simp)⟩⟩
          · refine slice_step (n := 2) (by rfl) (N := 62) rfl (cs := #[.int .i64 2, .int .i64 (wrap64 ((wrap64 (a25 - 8)) + 1))]) (t := 3) ?hr ?_
            case hr => first | (go_simp; done) | (go_simp; rfl)
            intro g468 hg w469 hbox hb
            replace HS : Aside0 (Sep (fps []) w [b1 g28 a24 a25 a26 a27, b2 g31 0 0 0 0 0 0 0 0, b2 g188 t185 (wrap64 (a25 - 8)) (wrap64 ((wrap64 (a25 - 8)) + 1)) t354 t381 t365 0 0, b3 g468 2 (wrap64 ((wrap64 (a25 - 8)) + 1))] w469) := ⟨HS.out.box hg hbox hb⟩
            clear hg hbox hb
            refine hK.out _ _ (⟨blk_cellv (HS.out.at2) 4 rfl, blk_cellv (HS.out.at0) 3 rfl, blk_cellv (HS.out.at2) 2 rfl⟩) (fun hHeld => ?_)
            clear hK K
            refine norm_ (a' := ?_) ?_ ?_
            rotate_left
            · show Act.put _ (some 62) _ = _
              simp only [Act.put, List.setIfInBounds_toArray, List.set_cons_zero, List.set_cons_succ, i64_w, i32_w]
              rfl
            refine one_ (i := 5) (N := some 58) #[true, true, true, true, true, true, false, true, true, true, false, false, false, false, false] rfl rfl (by kernel_rfl) (by decide) (fun K hK => ?_)
            refine slice_step (n := 2) (by rfl) (N := 58) rfl (cs := #[.int .i64 2, .int .i64 t406]) (t := 3) ?hr ?_
            case hr => first | (go_simp; done) | (go_simp; rfl)
            intro g471 hg w472 hbox hb
            replace HS : Aside0 (Sep (fps []) w [b1 g28 a24 a25 a26 a27, b2 g31 0 0 0 0 0 0 0 0, b2 g188 t185 (wrap64 (a25 - 8)) (wrap64 ((wrap64 (a25 - 8)) + 1)) t354 t381 t365 0 0, b3 g468 2 (wrap64 ((wrap64 (a25 - 8)) + 1)), b3 g471 2 t406] w472) := ⟨HS.out.box hg hbox hb⟩
            clear hg hbox hb
            refine hK.out _ _ (⟨blk_cellv (HS.out.at2) 4 rfl, blk_cellv (HS.out.at0) 3 rfl, blk_cellv (HS.out.at2) 2 rfl⟩) (fun hHeld => ?_)
            clear hK K
            refine norm_ (a' := ?_) ?_ ?_
            rotate_left
            · show Act.put _ (some 58) _ = _
              simp only [Act.put, List.setIfInBounds_toArray, List.set_cons_zero, List.set_cons_succ, i64_w, i32_w]
              rfl
            refine one_ (i := 6) (N := some 59) #[true, true, true, true, true, true, true, true, true, true, false, false, false, false, false] rfl rfl (by kernel_rfl) (by decide) (fun K hK => ?_)
            refine goes_ Tryd.func123 (by kernel_rfl) rfl #[.slice (some ⟨g471, 0, none⟩) 2 2] (by rfl) rfl rfl (by (try simp only [List.map_toArray, List.map_cons, List.map_nil]); first | done | rfl) ?_
            refine (ratio_Mul.calls _ [2, t406] (some ⟨g471, 0, none⟩) 2 t412 _ ⟨Rd.lit (l := []) (xs := [2, t406]) HS.out 4 rfl (by simp)⟩ ⟨HGl0.out.pass (l := []) HS.out⟩ ⟨Sep.start _⟩ HA413).mono ?_
            rintro e_ w475 ⟨rfl, hS⟩
            replace HS : Aside0 (Sep (fps []) w [b1 g28 a24 a25 a26 a27, b2 g31 0 0 0 0 0 0 0 0, b2 g188 t185 (wrap64 (a25 - 8)) (wrap64 ((wrap64 (a25 - 8)) + 1)) t354 t381 t365 0 0, b3 g468 2 (wrap64 ((wrap64 (a25 - 8)) + 1)), b3 g471 2 t406] w475) := ⟨HS.out.call hS⟩
            clear hS
            refine ⟨_, rfl, ?_⟩
            refine hK.out _ _ (⟨blk_cellv (HS.out.at2) 4 rfl, blk_cellv (HS.out.at0) 3 rfl, blk_cellv (HS.out.at2) 2 rfl⟩) (fun hHeld => ?_)
            clear hK K
            refine norm_ (a' := ?_) ?_ ?_
            rotate_left
            · show Act.put _ (some 59) _ = _
              simp only [Act.put, List.setIfInBounds_toArray, List.set_cons_zero, List.set_cons_succ, i64_w, i32_w]
              rfl
            refine one_ (i := 10) (N := some 63) #[true, true, true, true, true, true, true, true, true, true, true, false, false, false, false] rfl rfl (by kernel_rfl) (by decide) (fun K hK => ?_)
            refine goes_ Tryd.func123 (by kernel_rfl) rfl #[.slice (some ⟨g468, 0, none⟩) 2 2] (by rfl) rfl rfl (by (try simp only [List.map_toArray, List.map_cons, List.map_nil]); first | done | rfl) ?_
            refine (ratio_Mul.calls _ [2, wrap64 ((wrap64 (a25 - 8)) + 1)] (some ⟨g468, 0, none⟩) 2 t418 _ ⟨Rd.lit (l := []) (xs := [2, wrap64 ((wrap64 (a25 - 8)) + 1)]) HS.out 3 rfl (by simp)⟩ ⟨HGl0.out.pass (l := []) HS.out⟩ ⟨Sep.start _⟩ HA419).mono ?_
            rintro e_ w477 ⟨rfl, hS⟩
            replace HS : Aside0 (Sep (fps []) w [b1 g28 a24 a25 a26 a27, b2 g31 0 0 0 0 0 0 0 0, b2 g188 t185 (wrap64 (a25 - 8)) (wrap64 ((wrap64 (a25 - 8)) + 1)) t354 t381 t365 0 0, b3 g468 2 (wrap64 ((wrap64 (a25 - 8)) + 1)), b3 g471 2 t406] w477) := ⟨HS.out.call hS⟩
            clear hS
            refine ⟨_, rfl, ?_⟩
            refine hK.out _ _ (⟨blk_cellv (HS.out.at2) 4 rfl, blk_cellv (HS.out.at0) 3 rfl, blk_cellv (HS.out.at2) 2 rfl⟩) (fun hHeld => ?_)
            clear hK K
            refine norm_ (a' := ?_) ?_ ?_
            rotate_left
            · show Act.put _ (some 63) _ = _
              simp only [Act.put, List.setIfInBounds_toArray, List.set_cons_zero, List.set_cons_succ, i64_w, i32_w]
              rfl
            refine one_ (i := 11) (N := some 64) #[true, true, true, true, true, true, true, true, true, true, true, true, false, false, false] rfl rfl (by kernel_rfl) (by decide) (fun K hK => ?_)
            refine slice_step (n := 2) (by rfl) (N := 64) rfl (cs := #[.int .i64 t412, .int .i64 t418]) (t := 3) ?hr ?_
            case hr => first | (go_simp; done) | (go_simp; rfl)
            intro g478 hg w479 hbox hb
            replace HS : Aside0 (Sep (fps []) w [b1 g28 a24 a25 a26 a27, b2 g31 0 0 0 0 0 0 0 0, b2 g188 t185 (wrap64 (a25 - 8)) (wrap64 ((wrap64 (a25 - 8)) + 1)) t354 t381 t365 0 0, b3 g468 2 (wrap64 ((wrap64 (a25 - 8)) + 1)), b3 g471 2 t406, b3 g478 t412 t418] w479) := ⟨HS.out.box hg hbox hb⟩
            clear hg hbox hb
            refine hK.out _ _ (⟨blk_cellv (HS.out.at2) 4 rfl, blk_cellv (HS.out.at0) 3 rfl, blk_cellv (HS.out.at2) 2 rfl⟩) (fun hHeld => ?_)
            clear hK K
            refine norm_ (a' := ?_) ?_ ?_
            rotate_left
            · show Act.put _ (some 64) _ = _
              simp only [Act.put, List.setIfInBounds_toArray, List.set_cons_zero, List.set_cons_succ, i64_w, i32_w]
              rfl
            refine one_ (i := 12) (N := some 65) #[true, true, true, true, true, true, true, true, true, true, true, true, true, false, false] rfl rfl (by kernel_rfl) (by decide) (fun K hK => ?_)
            refine goes_ Tryd.func122 (by kernel_rfl) rfl #[.slice (some ⟨g478, 0, none⟩) 2 2] (by rfl) rfl rfl (by (try simp only [List.map_toArray, List.map_cons, List.map_nil]); first | done | rfl) ?_
            refine (ratio_Add.calls _ [t412, t418] (some ⟨g478, 0, none⟩) 2 t424 _ ⟨Rd.lit (l := []) (xs := [t412, t418]) HS.out 5 rfl (by simp)⟩ ⟨HGl0.out.pass (l := []) HS.out⟩ ⟨Sep.start _⟩ HA425).mono ?_
            rintro e_ w482 ⟨rfl, hS⟩
            replace HS : Aside0 (Sep (fps []) w [b1 g28 a24 a25 a26 a27, b2 g31 0 0 0 0 0 0 0 0, b2 g188 t185 (wrap64 (a25 - 8)) (wrap64 ((wrap64 (a25 - 8)) + 1)) t354 t381 t365 0 0, b3 g468 2 (wrap64 ((wrap64 (a25 - 8)) + 1)), b3 g471 2 t406, b3 g478 t412 t418] w482) := ⟨HS.out.call hS⟩
            clear hS
            refine ⟨_, rfl, ?_⟩
            refine hK.out _ _ (⟨blk_cellv (HS.out.at2) 4 rfl, blk_cellv (HS.out.at0) 3 rfl, blk_cellv (HS.out.at2) 2 rfl⟩) (fun hHeld => ?_)
            clear hK K
            refine norm_ (a' := ?_) ?_ ?_
            rotate_left
            · show Act.put _ (some 65) _ = _
              simp only [Act.put, List.setIfInBounds_toArray, List.set_cons_zero, List.set_cons_succ, i64_w, i32_w]
              rfl
            refine pure_ (i := 13) (N := some 66) (v := ?_) (a' := ?_) #[true, true, true, true, true, true, true, true, true, true, true, true, true, true, false] rfl rfl (by kernel_rfl) (fun _ _ _ h => h) (Or.inl ⟨by rfl, ?_⟩) ?_ ?_
            rotate_left
            · intro w'
              go_simp
              with_reducible rfl
            rotate_left
            · simp only [Act.put, List.setIfInBounds_toArray, List.set_cons_zero, List.set_cons_succ, i64_w, i32_w]
              rfl
            refine one_ (i := 14) (N := none) #[true, true, true, true, true, true, true, true, true, true, true, true, true, true, true] rfl rfl (by kernel_rfl) (by decide) (fun K hK => ?_)
            have hc484 := blk_cellv (v := .int .i64 0) (HS.out.at2) 6 rfl
            have hz485 := blk_fz (HS.out.at2) 6
            refine store_step (w1 := (World.setCell w482 ⟨g188, 6, none⟩ (.int .i64 t424))) (by rfl) rfl ?hr ?_
            case hr => first | (go_simp; done) | (go_simp; rfl)
            clear hc484 hz485
            intro w483 hst
            have hq0 : Sep (fps []) w [b1 g28 a24 a25 a26 a27, b2 g31 0 0 0 0 0 0 0 0, b2 g188 t185 (wrap64 (a25 - 8)) (wrap64 ((wrap64 (a25 - 8)) + 1)) t354 t381 t365 t424 0, b3 g468 2 (wrap64 ((wrap64 (a25 - 8)) + 1)), b3 g471 2 t406, b3 g478 t412 t418] (World.setCell w482 ⟨g188, 6, none⟩ (.int .i64 t424)) := (HS.out).set1 (l1 := [b1 g28 a24 a25 a26 a27, b2 g31 0 0 0 0 0 0 0 0]) (l2 := [b3 g468 2 (wrap64 ((wrap64 (a25 - 8)) + 1)), b3 g471 2 t406, b3 g478 t412 t418]) 6 (.int .i64 t424)
            have HS_ : Aside0 (Sep (fps []) w [b1 g28 a24 a25 a26 a27, b2 g31 0 0 0 0 0 0 0 0, b2 g188 t185 (wrap64 (a25 - 8)) (wrap64 ((wrap64 (a25 - 8)) + 1)) t354 t381 t365 t424 0, b3 g468 2 (wrap64 ((wrap64 (a25 - 8)) + 1)), b3 g471 2 t406, b3 g478 t412 t418] w483) := ⟨by rw [hst]; exact hq0⟩
            clear hq0
            clear HS hst
            have HS := HS_
            clear HS_
            refine hK.out _ _ (⟨blk_cellv (HS.out.at2) 4 rfl, blk_cellv (HS.out.at0) 3 rfl, blk_cellv (HS.out.at2) 2 rfl⟩) (fun hHeld => ?_)
            clear hK K
            refine done_ (by kernel_rfl) ?_
            go_wp2_with fail
            go_meet
            case rel => exact ⟨g471, g468, g478, ⟨((((((HS.out).front 5 (by simp)).front 4 (by simp)).front 5 (by simp)).front 5 (by simp)).front 5 (by simp)).front 5 (by simp)⟩⟩
        · refine slice_step (n := 2) (by rfl) (N := 62) rfl (cs := #[.int .i64 2, .int .i64 (wrap64 ((wrap64 (a25 - 8)) + 1))]) (t := 3) ?hr ?_
          case hr => first | (go_simp; done) | (go_simp; rfl)
          intro g486 hg w487 hbox hb
          replace HS : Aside0 (Sep (fps []) w [b1 g28 a24 a25 a26 a27, b2 g31 0 0 0 0 0 0 0 0, b2 g188 t185 (wrap64 (a25 - 8)) (wrap64 ((wrap64 (a25 - 8)) + 1)) t354 t381 t365 0 0, b3 g486 2 (wrap64 ((wrap64 (a25 - 8)) + 1))] w487) := ⟨HS.out.box hg hbox hb⟩
          clear hg hbox hb
          refine hK.out _ _ (⟨blk_cellv (HS.out.at2) 4 rfl, blk_cellv (HS.out.at0) 3 rfl, blk_cellv (HS.out.at2) 2 rfl⟩) (fun hHeld => ?_)
          clear hK K
          refine norm_ (a' := ?_) ?_ ?_
          rotate_left
          · show Act.put _ (some 62) _ = _
            simp only [Act.put, List.setIfInBounds_toArray, List.set_cons_zero, List.set_cons_succ, i64_w, i32_w]
            rfl
          refine one_ (i := 4) (N := some 57) #[true, true, true, true, true, false, false, true, true, true, false, false, false, false, false] rfl rfl (by kernel_rfl) (by decide) (fun K hK => ?_)
          refine goes_ Tryd.func124 (by kernel_rfl) rfl #[.int .i64 t381, .int .i64 a27] (by rfl) rfl rfl (by (try simp only [List.map_toArray, List.map_cons, List.map_nil]); first | done | rfl) ?_
          refine (ratio_Up.calls t381 a27 t406 _ ⟨HGl0.out.pass (l := []) HS.out⟩ ⟨Sep.start _⟩ HA407).mono ?_
          rintro e_ w490 ⟨rfl, hS⟩
          replace HS : Aside0 (Sep (fps []) w [b1 g28 a24 a25 a26 a27, b2 g31 0 0 0 0 0 0 0 0, b2 g188 t185 (wrap64 (a25 - 8)) (wrap64 ((wrap64 (a25 - 8)) + 1)) t354 t381 t365 0 0, b3 g486 2 (wrap64 ((wrap64 (a25 - 8)) + 1))] w490) := ⟨HS.out.call hS⟩
          clear hS
          refine ⟨_, rfl, ?_⟩
          refine hK.out _ _ (⟨blk_cellv (HS.out.at2) 4 rfl, blk_cellv (HS.out.at0) 3 rfl, blk_cellv (HS.out.at2) 2 rfl⟩) (fun hHeld => ?_)
          clear hK K
          refine norm_ (a' := ?_) ?_ ?_
          rotate_left
          · show Act.put _ (some 57) _ = _
            simp only [Act.put, List.setIfInBounds_toArray, List.set_cons_zero, List.set_cons_succ, i64_w, i32_w]
            rfl
          refine one_ (i := 5) (N := some 58) #[true, true, true, true, true, true, false, true, true, true, false, false, false, false, false] rfl rfl (by kernel_rfl) (by decide) (fun K hK => ?_)
          refine slice_step (n := 2) (by rfl) (N := 58) rfl (cs := #[.int .i64 2, .int .i64 t406]) (t := 3) ?hr ?_
          case hr => first | (go_simp; done) | (go_simp; rfl)
          intro g491 hg w492 hbox hb
          replace HS : Aside0 (Sep (fps []) w [b1 g28 a24 a25 a26 a27, b2 g31 0 0 0 0 0 0 0 0, b2 g188 t185 (wrap64 (a25 - 8)) (wrap64 ((wrap64 (a25 - 8)) + 1)) t354 t381 t365 0 0, b3 g486 2 (wrap64 ((wrap64 (a25 - 8)) + 1)), b3 g491 2 t406] w492) := ⟨HS.out.box hg hbox hb⟩
          clear hg hbox hb
          refine hK.out _ _ (⟨blk_cellv (HS.out.at2) 4 rfl, blk_cellv (HS.out.at0) 3 rfl, blk_cellv (HS.out.at2) 2 rfl⟩) (fun hHeld => ?_)
          clear hK K
          refine norm_ (a' := ?_) ?_ ?_
          rotate_left
          · show Act.put _ (some 58) _ = _
            simp only [Act.put, List.setIfInBounds_toArray, List.set_cons_zero, List.set_cons_succ, i64_w, i32_w]
            rfl
          refine one_ (i := 6) (N := some 59) #[true, true, true, true, true, true, true, true, true, true, false, false, false, false, false] rfl rfl (by kernel_rfl) (by decide) (fun K hK => ?_)
          refine goes_ Tryd.func123 (by kernel_rfl) rfl #[.slice (some ⟨g491, 0, none⟩) 2 2] (by rfl) rfl rfl (by (try simp only [List.map_toArray, List.map_cons, List.map_nil]); first | done | rfl) ?_
          refine (ratio_Mul.calls _ [2, t406] (some ⟨g491, 0, none⟩) 2 t412 _ ⟨Rd.lit (l := []) (xs := [2, t406]) HS.out 4 rfl (by simp)⟩ ⟨HGl0.out.pass (l := []) HS.out⟩ ⟨Sep.start _⟩ HA413).mono ?_
          rintro e_ w495 ⟨rfl, hS⟩
          replace HS : Aside0 (Sep (fps []) w [b1 g28 a24 a25 a26 a27, b2 g31 0 0 0 0 0 0 0 0, b2 g188 t185 (wrap64 (a25 - 8)) (wrap64 ((wrap64 (a25 - 8)) + 1)) t354 t381 t365 0 0, b3 g486 2 (wrap64 ((wrap64 (a25 - 8)) + 1)), b3 g491 2 t406] w495) := ⟨HS.out.call hS⟩
          clear hS
          refine ⟨_, rfl, ?_⟩
          refine hK.out _ _ (⟨blk_cellv (HS.out.at2) 4 rfl, blk_cellv (HS.out.at0) 3 rfl, blk_cellv (HS.out.at2) 2 rfl⟩) (fun hHeld => ?_)
          clear hK K
          refine norm_ (a' := ?_) ?_ ?_
          rotate_left
          · show Act.put _ (some 59) _ = _
            simp only [Act.put, List.setIfInBounds_toArray, List.set_cons_zero, List.set_cons_succ, i64_w, i32_w]
            rfl
          refine one_ (i := 10) (N := some 63) #[true, true, true, true, true, true, true, true, true, true, true, false, false, false, false] rfl rfl (by kernel_rfl) (by decide) (fun K hK => ?_)
          refine goes_ Tryd.func123 (by kernel_rfl) rfl #[.slice (some ⟨g486, 0, none⟩) 2 2] (by rfl) rfl rfl (by (try simp only [List.map_toArray, List.map_cons, List.map_nil]); first | done | rfl) ?_
          refine (ratio_Mul.calls _ [2, wrap64 ((wrap64 (a25 - 8)) + 1)] (some ⟨g486, 0, none⟩) 2 t418 _ ⟨Rd.lit (l := []) (xs := [2, wrap64 ((wrap64 (a25 - 8)) + 1)]) HS.out 3 rfl (by simp)⟩ ⟨HGl0.out.pass (l := []) HS.out⟩ ⟨Sep.start _⟩ HA419).mono ?_
          rintro e_ w497 ⟨rfl, hS⟩
          replace HS : Aside0 (Sep (fps []) w [b1 g28 a24 a25 a26 a27, b2 g31 0 0 0 0 0 0 0 0, b2 g188 t185 (wrap64 (a25 - 8)) (wrap64 ((wrap64 (a25 - 8)) + 1)) t354 t381 t365 0 0, b3 g486 2 (wrap64 ((wrap64 (a25 - 8)) + 1)), b3 g491 2 t406] w497) := ⟨HS.out.call hS⟩
          clear hS
          refine ⟨_, rfl, ?_⟩
          refine hK.out _ _ (⟨blk_cellv (HS.out.at2) 4 rfl, blk_cellv (HS.out.at0) 3 rfl, blk_cellv (HS.out.at2) 2 rfl⟩) (fun hHeld => ?_)
          clear hK K
          refine norm_ (a' := ?_) ?_ ?_
          rotate_left
          · show Act.put _ (some 63) _ = _
            simp only [Act.put, List.setIfInBounds_toArray, List.set_cons_zero, List.set_cons_succ, i64_w, i32_w]
            rfl
          refine one_ (i := 11) (N := some 64) #[true, true, true, true, true, true, true, true, true, true, true, true, false, false, false] rfl rfl (by kernel_rfl) (by decide) (fun K hK => ?_)
          refine slice_step (n := 2) (by rfl) (N := 64) rfl (cs := #[.int .i64 t412, .int .i64 t418]) (t := 3) ?hr ?_
          case hr => first | (go_simp; done) | (go_simp; rfl)
          intro g498 hg w499 hbox hb
          replace HS : Aside0 (Sep (fps []) w [b1 g28 a24 a25 a26 a27, b2 g31 0 0 0 0 0 0 0 0, b2 g188 t185 (wrap64 (a25 - 8)) (wrap64 ((wrap64 (a25 - 8)) + 1)) t354 t381 t365 0 0, b3 g486 2 (wrap64 ((wrap64 (a25 - 8)) + 1)), b3 g491 2 t406, b3 g498 t412 t418] w499) := ⟨HS.out.box hg hbox hb⟩
          clear hg hbox hb
          refine hK.out _ _ (⟨blk_cellv (HS.out.at2) 4 rfl, blk_cellv (HS.out.at0) 3 rfl, blk_cellv (HS.out.at2) 2 rfl⟩) (fun hHeld => ?_)
          clear hK K
          refine norm_ (a' := ?_) ?_ ?_
          rotate_left
          · show Act.put _ (some 64) _ = _
            simp only [Act.put, List.setIfInBounds_toArray, List.set_cons_zero, List.set_cons_succ, i64_w, i32_w]
            rfl
          refine one_ (i := 12) (N := some 65) #[true, true, true, true, true, true, true, true, true, true, true, true, true, false, false] rfl rfl (by kernel_rfl) (by decide) (fun K hK => ?_)
          refine goes_ Tryd.func122 (by kernel_rfl) rfl #[.slice (some ⟨g498, 0, none⟩) 2 2] (by rfl) rfl rfl (by (try simp only [List.map_toArray, List.map_cons, List.map_nil]); first | done | rfl) ?_
          refine (ratio_Add.calls _ [t412, t418] (some ⟨g498, 0, none⟩) 2 t424 _ ⟨Rd.lit (l := []) (xs := [t412, t418]) HS.out 5 rfl (by simp)⟩ ⟨HGl0.out.pass (l := []) HS.out⟩ ⟨Sep.start _⟩ HA425).mono ?_
          rintro e_ w502 ⟨rfl, hS⟩
          replace HS : Aside0 (Sep (fps []) w [b1 g28 a24 a25 a26 a27, b2 g31 0 0 0 0 0 0 0 0, b2 g188 t185 (wrap64 (a25 - 8)) (wrap64 ((wrap64 (a25 - 8)) + 1)) t354 t381 t365 0 0, b3 g486 2 (wrap64 ((wrap64 (a25 - 8)) + 1)), b3 g491 2 t406, b3 g498 t412 t418] w502) := ⟨HS.out.call hS⟩
          clear hS
          refine ⟨_, rfl, ?_⟩
          refine hK.out _ _ (⟨blk_cellv (HS.out.at2) 4 rfl, blk_cellv (HS.out.at0) 3 rfl, blk_cellv (HS.out.at2) 2 rfl⟩) (fun hHeld => ?_)
          clear hK K
          refine norm_ (a' := ?_) ?_ ?_
          rotate_left
          · show Act.put _ (some 65) _ = _
            simp only [Act.put, List.setIfInBounds_toArray, List.set_cons_zero, List.set_cons_succ, i64_w, i32_w]
            rfl
          refine pure_ (i := 13) (N := some 66) (v := ?_) (a' := ?_) #[true, true, true, true, true, true, true, true, true, true, true, true, true, true, false] rfl rfl (by kernel_rfl) (fun _ _ _ h => h) (Or.inl ⟨by rfl, ?_⟩) ?_ ?_
          rotate_left
          · intro w'
            go_simp
            with_reducible rfl
          rotate_left
          · simp only [Act.put, List.setIfInBounds_toArray, List.set_cons_zero, List.set_cons_succ, i64_w, i32_w]
            rfl
          refine one_ (i := 14) (N := none) #[true, true, true, true, true, true, true, true, true, true, true, true, true, true, true] rfl rfl (by kernel_rfl) (by decide) (fun K hK => ?_)
          have hc504 := blk_cellv (v := .int .i64 0) (HS.out.at2) 6 rfl
          have hz505 := blk_fz (HS.out.at2) 6
          refine store_step (w1 := (World.setCell w502 ⟨g188, 6, none⟩ (.int .i64 t424))) (by rfl) rfl ?hr ?_
          case hr => first | (go_simp; done) | (go_simp; rfl)
          clear hc504 hz505
          intro w503 hst
          have hq0 : Sep (fps []) w [b1 g28 a24 a25 a26 a27, b2 g31 0 0 0 0 0 0 0 0, b2 g188 t185 (wrap64 (a25 - 8)) (wrap64 ((wrap64 (a25 - 8)) + 1)) t354 t381 t365 t424 0, b3 g486 2 (wrap64 ((wrap64 (a25 - 8)) + 1)), b3 g491 2 t406, b3 g498 t412 t418] (World.setCell w502 ⟨g188, 6, none⟩ (.int .i64 t424)) := (HS.out).set1 (l1 := [b1 g28 a24 a25 a26 a27, b2 g31 0 0 0 0 0 0 0 0]) (l2 := [b3 g486 2 (wrap64 ((wrap64 (a25 - 8)) + 1)), b3 g491 2 t406, b3 g498 t412 t418]) 6 (.int .i64 t424)
          have HS_ : Aside0 (Sep (fps []) w [b1 g28 a24 a25 a26 a27, b2 g31 0 0 0 0 0 0 0 0, b2 g188 t185 (wrap64 (a25 - 8)) (wrap64 ((wrap64 (a25 - 8)) + 1)) t354 t381 t365 t424 0, b3 g486 2 (wrap64 ((wrap64 (a25 - 8)) + 1)), b3 g491 2 t406, b3 g498 t412 t418] w503) := ⟨by rw [hst]; exact hq0⟩
          clear hq0
          clear HS hst
          have HS := HS_
          clear HS_
          refine hK.out _ _ (⟨blk_cellv (HS.out.at2) 4 rfl, blk_cellv (HS.out.at0) 3 rfl, blk_cellv (HS.out.at2) 2 rfl⟩) (fun hHeld => ?_)
          clear hK K
          refine done_ (by kernel_rfl) ?_
          go_wp2_with fail
          go_meet
          case rel => exact ⟨g491, g486, g498, ⟨((((((HS.out).front 5 (by simp)).front 4 (by simp)).front 5 (by simp)).front 5 (by simp)).front 5 (by simp)).front 5 (by simp)⟩⟩
      case rest =>
        clear HS
        obtain ⟨g409, g415, g421, HS⟩ := hcut
        obtain ⟨w430, rfl⟩ : ∃ x : World, x = wc := ⟨_, rfl⟩
        replace HS : Aside0 (Sep (fps []) w [b1 g28 a24 a25 a26 a27, b2 g31 0 0 0 0 0 0 0 0, b2 g188 t185 (wrap64 (a25 - 8)) (wrap64 ((wrap64 (a25 - 8)) + 1)) t354 t381 t365 t424 0] w430) := ⟨HS.out.sub (.cons_cons _ (.cons_cons _ (.cons_cons _ (.cons _ (.cons _ (.cons _ .slnil))))))⟩
        go_wp2_with fail
        refine start_ (n := 15) (S := (fun w' => w'.cell? ⟨g188, 4, none⟩ = some (.int .i64 t381) ∧ w'.cell? ⟨g188, 5, none⟩ = some (.int .i64 t365) ∧ w'.cell? ⟨g28, 3, none⟩ = some (.int .i64 a27))) (ds := []) #[false, false, false, false, false, false, false, false, false, false, false, false, false, false, false] (by kernel_rfl) rfl rfl (⟨blk_cellv ((HS.out.drew).at2) 4 rfl, blk_cellv ((HS.out.drew).at2) 5 rfl, blk_cellv ((HS.out.drew).at0) 3 rfl⟩) (fun hHeld => ?_)
        have HS_ := Aside0.mk HS.out.drew
        clear HS
        generalize World.drew _ = w507 at HS_ hHeld ⊢
        have HS := HS_
        clear HS_
        refine pure_ (i := 0) (N := some 67) (v := ?_) (a' := ?_) #[true, false, false, false, false, false, false, false, false, false, false, false, false, false, false] rfl rfl (by kernel_rfl) (fun _ _ _ h => h) (Or.inl ⟨by rfl, ?_⟩) ?_ ?_
        rotate_left
        · intro w'
          go_simp
          with_reducible rfl
        rotate_left
        · simp only [Act.put, List.setIfInBounds_toArray, List.set_cons_zero, List.set_cons_succ, i64_w, i32_w]
          rfl
        refine pure_ (i := 2) (N := some 69) (v := ?_) (a' := ?_) #[true, false, true, false, false, false, false, false, false, false, false, false, false, false, false] rfl rfl (by kernel_rfl) (fun _ _ _ h => h) (Or.inl ⟨by rfl, ?_⟩) ?_ ?_
        rotate_left
        · intro w'
          go_simp
          with_reducible rfl
        rotate_left
        · simp only [Act.put, List.setIfInBounds_toArray, List.set_cons_zero, List.set_cons_succ, i64_w, i32_w]
          rfl
        refine pure_ (i := 4) (N := some 71) (v := ?_) (a' := ?_) #[true, false, true, false, true, false, false, false, false, false, false, false, false, false, false] rfl rfl (by kernel_rfl) (fun _ _ _ h => h) (Or.inl ⟨by rfl, ?_⟩) ?_ ?_
        rotate_left
        · intro w'
          go_simp
          with_reducible rfl
        rotate_left
        · simp only [Act.put, List.setIfInBounds_toArray, List.set_cons_zero, List.set_cons_succ, i64_w, i32_w]
          rfl
        refine pure_ (i := 8) (N := some 75) (v := ?_) (a' := ?_) #[true, false, true, false, true, false, false, false, true, false, false, false, false, false, false] rfl rfl (by kernel_rfl) (fun _ _ _ h => h) (Or.inl ⟨by rfl, ?_⟩) ?_ ?_
        rotate_left
        · intro w'
          go_simp
          with_reducible rfl
        rotate_left
        · simp only [Act.put, List.setIfInBounds_toArray, List.set_cons_zero, List.set_cons_succ, i64_w, i32_w]
          rfl
        refine take_ (i := 1) (N := some 68) (v := ?_) (a' := ?_) #[true, true, true, false, true, false, false, false, true, false, false, false, false, false, false] rfl rfl (by kernel_rfl) (fun _ _ _ h => h) (Or.inl ⟨by rfl, ?_⟩) hHeld ?_ ?_
        rotate_left
        · rintro w' hS'
          obtain ⟨s0, s1, s2⟩ := hS'
          go_simp
          with_reducible rfl
        rotate_left
        · simp only [Act.put, List.setIfInBounds_toArray, List.set_cons_zero, List.set_cons_succ, i64_w, i32_w]
          rfl
        refine take_ (i := 3) (N := some 70) (v := ?_) (a' := ?_) #[true, true, true, true, true, false, false, false, true, false, false, false, false, false, false] rfl rfl (by kernel_rfl) (fun _ _ _ h => h) (Or.inl ⟨by rfl, ?_⟩) hHeld ?_ ?_
        rotate_left
        · rintro w' hS'
          obtain ⟨s0, s1, s2⟩ := hS'
          go_simp
          with_reducible rfl
        rotate_left
        · simp only [Act.put, List.setIfInBounds_toArray, List.set_cons_zero, List.set_cons_succ, i64_w, i32_w]
          rfl
        refine take_ (i := 5) (N := some 72) (v := ?_) (a' := ?_) #[true, true, true, true, true, true, false, false, true, false, false, false, false, false, false] rfl rfl (by kernel_rfl) (fun _ _ _ h => h) (Or.inl ⟨by rfl, ?_⟩) hHeld ?_ ?_
        rotate_left
        · rintro w' hS'
          obtain ⟨s0, s1, s2⟩ := hS'
          go_simp
          with_reducible rfl
        rotate_left
        · simp only [Act.put, List.setIfInBounds_toArray, List.set_cons_zero, List.set_cons_succ, i64_w, i32_w]
          rfl
        refine take_ (i := 9) (N := some 76) (v := ?_) (a' := ?_) #[true, true, true, true, true, true, false, false, true, true, false, false, false, false, false] rfl rfl (by kernel_rfl) (fun _ _ _ h => h) (Or.inl ⟨by rfl, ?_⟩) hHeld ?_ ?_
        rotate_left
        · rintro w' hS'
          obtain ⟨s0, s1, s2⟩ := hS'
          go_simp
          with_reducible rfl
        rotate_left
        · simp only [Act.put, List.setIfInBounds_toArray, List.set_cons_zero, List.set_cons_succ, i64_w, i32_w]
          rfl
        refine one_ (i := 6) (N := some 73) #[true, true, true, true, true, true, true, false, true, true, false, false, false, false, false] rfl rfl (by kernel_rfl) (by decide) (fun K hK => ?_)
        refine slice_step (n := 3) (by rfl) (N := 73) rfl (cs := #[.int .i64 t381, .int .i64 t381, .int .i64 t365]) (t := 3) ?hr ?_
        case hr => first | (go_simp; done) | (go_simp; rfl)
        intro g508 hg w509 hbox hb
        replace HS : Aside0 (Sep (fps []) w [b1 g28 a24 a25 a26 a27, b2 g31 0 0 0 0 0 0 0 0, b2 g188 t185 (wrap64 (a25 - 8)) (wrap64 ((wrap64 (a25 - 8)) + 1)) t354 t381 t365 t424 0, b4 g508 t381 t381 t365] w509) := ⟨HS.out.box hg hbox hb⟩
        clear hg hbox hb
        refine hK.out _ _ (⟨blk_cellv (HS.out.at2) 4 rfl, blk_cellv (HS.out.at2) 5 rfl, blk_cellv (HS.out.at0) 3 rfl⟩) (fun hHeld => ?_)
        clear hK K
        refine norm_ (a' := ?_) ?_ ?_
        rotate_left
        · show Act.put _ (some 73) _ = _
          simp only [Act.put, List.setIfInBounds_toArray, List.set_cons_zero, List.set_cons_succ, i64_w, i32_w]
          rfl
        refine one_ (i := 7) (N := some 74) #[true, true, true, true, true, true, true, true, true, true, false, false, false, false, false] rfl rfl (by kernel_rfl) (by decide) (fun K hK => ?_)
        obtain ⟨t511, HA512, H⟩ := bind_some H
        refine goes_ Tryd.func122 (by kernel_rfl) rfl #[.slice (some ⟨g508, 0, none⟩) 3 3] (by rfl) rfl rfl (by (try simp only [List.map_toArray, List.map_cons, List.map_nil]); first | done | rfl) ?_
        refine (ratio_Add.calls _ [t381, t381, t365] (some ⟨g508, 0, none⟩) 3 t511 _ ⟨Rd.lit (l := []) (xs := [t381, t381, t365]) HS.out 3 rfl (by simp)⟩ ⟨HGl0.out.pass (l := []) HS.out⟩ ⟨Sep.start _⟩ HA512).mono ?_
        rintro e_ w513 ⟨rfl, hS⟩
        replace HS : Aside0 (Sep (fps []) w [b1 g28 a24 a25 a26 a27, b2 g31 0 0 0 0 0 0 0 0, b2 g188 t185 (wrap64 (a25 - 8)) (wrap64 ((wrap64 (a25 - 8)) + 1)) t354 t381 t365 t424 0, b4 g508 t381 t381 t365] w513) := ⟨HS.out.call hS⟩
        clear hS
        refine ⟨_, rfl, ?_⟩
        refine hK.out _ _ (⟨blk_cellv (HS.out.at2) 4 rfl, blk_cellv (HS.out.at2) 5 rfl, blk_cellv (HS.out.at0) 3 rfl⟩) (fun hHeld => ?_)
        clear hK K
        refine norm_ (a' := ?_) ?_ ?_
        rotate_left
        · show Act.put _ (some 74) _ = _
          simp only [Act.put, List.setIfInBounds_toArray, List.set_cons_zero, List.set_cons_succ, i64_w, i32_w]
          rfl
        refine one_ (i := 10) (N := some 77) #[true, true, true, true, true, true, true, true, true, true, true, false, false, false, false] rfl rfl (by kernel_rfl) (by decide) (fun K hK => ?_)
        obtain ⟨t514, HA515, H⟩ := bind_some H
        refine goes_ Tryd.func124 (by kernel_rfl) rfl #[.int .i64 t511, .int .i64 a27] (by rfl) rfl rfl (by (try simp only [List.map_toArray, List.map_cons, List.map_nil]); first | done | rfl) ?_
        refine (ratio_Up.calls t511 a27 t514 _ ⟨HGl0.out.pass (l := []) HS.out⟩ ⟨Sep.start _⟩ HA515).mono ?_
        rintro e_ w516 ⟨rfl, hS⟩
        replace HS : Aside0 (Sep (fps []) w [b1 g28 a24 a25 a26 a27, b2 g31 0 0 0 0 0 0 0 0, b2 g188 t185 (wrap64 (a25 - 8)) (wrap64 ((wrap64 (a25 - 8)) + 1)) t354 t381 t365 t424 0, b4 g508 t381 t381 t365] w516) := ⟨HS.out.call hS⟩
        clear hS
        refine ⟨_, rfl, ?_⟩
        refine hK.out _ _ (⟨blk_cellv (HS.out.at2) 4 rfl, blk_cellv (HS.out.at2) 5 rfl, blk_cellv (HS.out.at0) 3 rfl⟩) (fun hHeld => ?_)
        clear hK K
        refine norm_ (a' := ?_) ?_ ?_
        rotate_left
        · show Act.put _ (some 77) _ = _
          simp only [Act.put, List.setIfInBounds_toArray, List.set_cons_zero, List.set_cons_succ, i64_w, i32_w]
          rfl
        refine one_ (i := 11) (N := some 78) #[true, true, true, true, true, true, true, true, true, true, true, true, false, false, false] rfl rfl (by kernel_rfl) (by decide) (fun K hK => ?_)
        refine slice_step (n := 2) (by rfl) (N := 78) rfl (cs := #[.int .i64 t514, .int .i64 2]) (t := 3) ?hr ?_
        case hr => first | (go_simp; done) | (go_simp; rfl)
        intro g517 hg w518 hbox hb
        replace HS : Aside0 (Sep (fps []) w [b1 g28 a24 a25 a26 a27, b2 g31 0 0 0 0 0 0 0 0, b2 g188 t185 (wrap64 (a25 - 8)) (wrap64 ((wrap64 (a25 - 8)) + 1)) t354 t381 t365 t424 0, b4 g508 t381 t381 t365, b3 g517 t514 2] w518) := ⟨HS.out.box hg hbox hb⟩
        clear hg hbox hb
        refine hK.out _ _ (⟨blk_cellv (HS.out.at2) 4 rfl, blk_cellv (HS.out.at2) 5 rfl, blk_cellv (HS.out.at0) 3 rfl⟩) (fun hHeld => ?_)
        clear hK K
        refine norm_ (a' := ?_) ?_ ?_
        rotate_left
        · show Act.put _ (some 78) _ = _
          simp only [Act.put, List.setIfInBounds_toArray, List.set_cons_zero, List.set_cons_succ, i64_w, i32_w]
          rfl
        refine one_ (i := 12) (N := some 79) #[true, true, true, true, true, true, true, true, true, true, true, true, true, false, false] rfl rfl (by kernel_rfl) (by decide) (fun K hK => ?_)
        obtain ⟨t520, HA521, H⟩ := bind_some H
        refine goes_ Tryd.func122 (by kernel_rfl) rfl #[.slice (some ⟨g517, 0, none⟩) 2 2] (by rfl) rfl rfl (by (try simp only [List.map_toArray, List.map_cons, List.map_nil]); first | done | rfl) ?_
        refine (ratio_Add.calls _ [t514, 2] (some ⟨g517, 0, none⟩) 2 t520 _ ⟨Rd.lit (l := []) (xs := [t514, 2]) HS.out 4 rfl (by simp)⟩ ⟨HGl0.out.pass (l := []) HS.out⟩ ⟨Sep.start _⟩ HA521).mono ?_
        rintro e_ w522 ⟨rfl, hS⟩
        replace HS : Aside0 (Sep (fps []) w [b1 g28 a24 a25 a26 a27, b2 g31 0 0 0 0 0 0 0 0, b2 g188 t185 (wrap64 (a25 - 8)) (wrap64 ((wrap64 (a25 - 8)) + 1)) t354 t381 t365 t424 0, b4 g508 t381 t381 t365, b3 g517 t514 2] w522) := ⟨HS.out.call hS⟩
        clear hS
        refine ⟨_, rfl, ?_⟩
        refine hK.out _ _ (⟨blk_cellv (HS.out.at2) 4 rfl, blk_cellv (HS.out.at2) 5 rfl, blk_cellv (HS.out.at0) 3 rfl⟩) (fun hHeld => ?_)
        clear hK K
        refine norm_ (a' := ?_) ?_ ?_
        rotate_left
        · show Act.put _ (some 79) _ = _
          simp only [Act.put, List.setIfInBounds_toArray, List.set_cons_zero, List.set_cons_succ, i64_w, i32_w]
          rfl
        refine pure_ (i := 13) (N := some 80) (v := ?_) (a' := ?_) #[true, true, true, true, true, true, true, true, true, true, true, true, true, true, false] rfl rfl (by kernel_rfl) (fun _ _ _ h => h) (Or.inl ⟨by rfl, ?_⟩) ?_ ?_
        rotate_left
        · intro w'
          go_simp
          with_reducible rfl
        rotate_left
        · simp only [Act.put, List.setIfInBounds_toArray, List.set_cons_zero, List.set_cons_succ, i64_w, i32_w]
          rfl
        refine one_ (i := 14) (N := none) #[true, true, true, true, true, true, true, true, true, true, true, true, true, true, true] rfl rfl (by kernel_rfl) (by decide) (fun K hK => ?_)
        have hc524 := blk_cellv (v := .int .i64 0) (HS.out.at2) 7 rfl
        have hz525 := blk_fz (HS.out.at2) 7
        refine store_step (w1 := (World.setCell w522 ⟨g188, 7, none⟩ (.int .i64 t520))) (by rfl) rfl ?hr ?_
        case hr => first | (go_simp; done) | (go_simp; rfl)
        clear hc524 hz525
        intro w523 hst
        have hq0 : Sep (fps []) w [b1 g28 a24 a25 a26 a27, b2 g31 0 0 0 0 0 0 0 0, b2 g188 t185 (wrap64 (a25 - 8)) (wrap64 ((wrap64 (a25 - 8)) + 1)) t354 t381 t365 t424 t520, b4 g508 t381 t381 t365, b3 g517 t514 2] (World.setCell w522 ⟨g188, 7, none⟩ (.int .i64 t520)) := (HS.out).set1 (l1 := [b1 g28 a24 a25 a26 a27, b2 g31 0 0 0 0 0 0 0 0]) (l2 := [b4 g508 t381 t381 t365, b3 g517 t514 2]) 7 (.int .i64 t520)
        have HS_ : Aside0 (Sep (fps []) w [b1 g28 a24 a25 a26 a27, b2 g31 0 0 0 0 0 0 0 0, b2 g188 t185 (wrap64 (a25 - 8)) (wrap64 ((wrap64 (a25 - 8)) + 1)) t354 t381 t365 t424 t520, b4 g508 t381 t381 t365, b3 g517 t514 2] w523) := ⟨by rw [hst]; exact hq0⟩
        clear hq0
        clear HS hst
        have HS := HS_
        clear HS_
        refine hK.out _ _ (⟨blk_cellv (HS.out.at2) 4 rfl, blk_cellv (HS.out.at2) 5 rfl, blk_cellv (HS.out.at0) 3 rfl⟩) (fun hHeld => ?_)
        clear hK K
        refine done_ (by kernel_rfl) ?_
        replace HS : Aside0 (Sep (fps []) w [b2 g31 0 0 0 0 0 0 0 0, b2 g188 t185 (wrap64 (a25 - 8)) (wrap64 ((wrap64 (a25 - 8)) + 1)) t354 t381 t365 t424 t520] w523) := ⟨HS.out.sub (.cons _ (.cons_cons _ (.cons_cons _ (.cons _ (.cons _ .slnil)))))⟩
        have hc526 : w523.cell? ⟨g188, 0, none⟩ = some (.int .i64 t185) := blk_cellv (HS.out.at1) 0 rfl
        have hc527 : w523.cell? ⟨g188, 1, none⟩ = some (.int .i64 (wrap64 (a25 - 8))) := blk_cellv (HS.out.at1) 1 rfl
        have hc528 : w523.cell? ⟨g188, 2, none⟩ = some (.int .i64 (wrap64 ((wrap64 (a25 - 8)) + 1))) := blk_cellv (HS.out.at1) 2 rfl
        have hc529 : w523.cell? ⟨g188, 3, none⟩ = some (.int .i64 t354) := blk_cellv (HS.out.at1) 3 rfl
        have hc530 : w523.cell? ⟨g188, 4, none⟩ = some (.int .i64 t381) := blk_cellv (HS.out.at1) 4 rfl
        have hc531 : w523.cell? ⟨g188, 5, none⟩ = some (.int .i64 t365) := blk_cellv (HS.out.at1) 5 rfl
        have hc532 : w523.cell? ⟨g188, 6, none⟩ = some (.int .i64 t424) := blk_cellv (HS.out.at1) 6 rfl
        have hc533 : w523.cell? ⟨g188, 7, none⟩ = some (.int .i64 t520) := blk_cellv (HS.out.at1) 7 rfl
        have hc534 : w523.cell? ⟨g31, 0, none⟩ = some (.int .i64 0) := blk_cellv (HS.out.at0) 0 rfl
        have hz535 : w523.frozen? ⟨g31, 0, none⟩ = false := blk_fz (HS.out.at0) 0
        have hc536 : w523.cell? ⟨g31, 1, none⟩ = some (.int .i64 0) := blk_cellv (HS.out.at0) 1 rfl
        have hz537 : w523.frozen? ⟨g31, 1, none⟩ = false := blk_fz (HS.out.at0) 1
        have hc538 : w523.cell? ⟨g31, 2, none⟩ = some (.int .i64 0) := blk_cellv (HS.out.at0) 2 rfl
        have hz539 : w523.frozen? ⟨g31, 2, none⟩ = false := blk_fz (HS.out.at0) 2
        have hc540 : w523.cell? ⟨g31, 3, none⟩ = some (.int .i64 0) := blk_cellv (HS.out.at0) 3 rfl
        have hz541 : w523.frozen? ⟨g31, 3, none⟩ = false := blk_fz (HS.out.at0) 3
        have hc542 : w523.cell? ⟨g31, 4, none⟩ = some (.int .i64 0) := blk_cellv (HS.out.at0) 4 rfl
        have hz543 : w523.frozen? ⟨g31, 4, none⟩ = false := blk_fz (HS.out.at0) 4
        have hc544 : w523.cell? ⟨g31, 5, none⟩ = some (.int .i64 0) := blk_cellv (HS.out.at0) 5 rfl
        have hz545 : w523.frozen? ⟨g31, 5, none⟩ = false := blk_fz (HS.out.at0) 5
        have hc546 : w523.cell? ⟨g31, 6, none⟩ = some (.int .i64 0) := blk_cellv (HS.out.at0) 6 rfl
        have hz547 : w523.frozen? ⟨g31, 6, none⟩ = false := blk_fz (HS.out.at0) 6
        have hc548 : w523.cell? ⟨g31, 7, none⟩ = some (.int .i64 0) := blk_cellv (HS.out.at0) 7 rfl
        have hz549 : w523.frozen? ⟨g31, 7, none⟩ = false := blk_fz (HS.out.at0) 7
        go_wp2_with (first | ((with_reducible refine gate_store (t := 97) (p := 2) rfl ?_); refine store_event (w1 := (World.setCell (World.setCell (World.setCell (World.setCell (World.setCell (World.setCell (World.setCell (World.setCell w523 ⟨g31, 0, none⟩ (.int .i64 t185)) ⟨g31, 1, none⟩ (.int .i64 (wrap64 (a25 - 8)))) ⟨g31, 2, none⟩ (.int .i64 (wrap64 ((wrap64 (a25 - 8)) + 1)))) ⟨g31, 3, none⟩ (.int .i64 t354)) ⟨g31, 4, none⟩ (.int .i64 t381)) ⟨g31, 5, none⟩ (.int .i64 t365)) ⟨g31, 6, none⟩ (.int .i64 t424)) ⟨g31, 7, none⟩ (.int .i64 t520))) rfl (t := 97) (p := 2) rfl rfl ?hr ?_; (case hr => first | (go_simp; done) | (go_simp; rfl)); intro w550 hst; clear hc526 hc527 hc528 hc529 hc530 hc531 hc532 hc533 hc534 hz535 hc536 hz537 hc538 hz539 hc540 hz541 hc542 hz543 hc544 hz545 hc546 hz547 hc548 hz549; replace HS : Aside0 (Sep (fps []) w [b2 g31 t185 (wrap64 (a25 - 8)) (wrap64 ((wrap64 (a25 - 8)) + 1)) t354 t381 t365 t424 t520, b2 g188 t185 (wrap64 (a25 - 8)) (wrap64 ((wrap64 (a25 - 8)) + 1)) t354 t381 t365 t424 t520] w550) := ⟨by rw [hst]; exact HS.out.setAll (l1 := []) (l2 := [b2 g188 t185 (wrap64 (a25 - 8)) (wrap64 ((wrap64 (a25 - 8)) + 1)) t354 t381 t365 t424 t520]) [.int .i64 t185, .int .i64 (wrap64 (a25 - 8)), .int .i64 (wrap64 ((wrap64 (a25 - 8)) + 1)), .int .i64 t354, .int .i64 t381, .int .i64 t365, .int .i64 t424, .int .i64 t520] rfl⟩; clear hst; replace HS : Aside0 (Sep (fps []) w [b2 g31 t185 (wrap64 (a25 - 8)) (wrap64 ((wrap64 (a25 - 8)) + 1)) t354 t381 t365 t424 t520] w550) := ⟨HS.out.sub (.cons_cons _ (.cons _ .slnil))⟩))
        have hc551 : w550.cell? ⟨g31, 0, none⟩ = some (.int .i64 t185) := blk_cellv (HS.out.at0) 0 rfl
        have hc552 : w550.cell? ⟨g31, 1, none⟩ = some (.int .i64 (wrap64 (a25 - 8))) := blk_cellv (HS.out.at0) 1 rfl
        have hc553 : w550.cell? ⟨g31, 2, none⟩ = some (.int .i64 (wrap64 ((wrap64 (a25 - 8)) + 1))) := blk_cellv (HS.out.at0) 2 rfl
        have hc554 : w550.cell? ⟨g31, 3, none⟩ = some (.int .i64 t354) := blk_cellv (HS.out.at0) 3 rfl
        have hc555 : w550.cell? ⟨g31, 4, none⟩ = some (.int .i64 t381) := blk_cellv (HS.out.at0) 4 rfl
        have hc556 : w550.cell? ⟨g31, 5, none⟩ = some (.int .i64 t365) := blk_cellv (HS.out.at0) 5 rfl
        have hc557 : w550.cell? ⟨g31, 6, none⟩ = some (.int .i64 t424) := blk_cellv (HS.out.at0) 6 rfl
        have hc558 : w550.cell? ⟨g31, 7, none⟩ = some (.int .i64 t520) := blk_cellv (HS.out.at0) 7 rfl
        refine bodyPost_ret (v := .tuple #[.agg #[.int .i64 t185, .int .i64 (wrap64 (a25 - 8)), .int .i64 (wrap64 ((wrap64 (a25 - 8)) + 1)), .int .i64 t354, .int .i64 t381, .int .i64 t365, .int .i64 t424, .int .i64 t520], .int .i64 0]) (by simp [results, Tryd.results65, go_sem, hc551, hc552, hc553, hc554, hc555, hc556, hc557, hc558]) rfl ?_
        rw [← some_eq H]
        exact ⟨(by first | rfl | (simp [IntKind.wrap_u32]; done)), HS.out.sub (.cons _ .slnil)⟩
  · have H := if_no c82 H
    have c82b0 : (t79 == 0) = false := beq_eq_false_iff_ne.mpr c82
    have c82b1 : (t79 != 0) = true := bne_iff_ne.mpr c82
    clear c82
    have hc559 : w81.cell? ⟨g31, 0, none⟩ = some (.int .i64 0) := blk_cellv (HS.out.at1) 0 rfl
    have hz560 : w81.frozen? ⟨g31, 0, none⟩ = false := blk_fz (HS.out.at1) 0
    have hc561 : w81.cell? ⟨g31, 1, none⟩ = some (.int .i64 0) := blk_cellv (HS.out.at1) 1 rfl
    have hz562 : w81.frozen? ⟨g31, 1, none⟩ = false := blk_fz (HS.out.at1) 1
    have hc563 : w81.cell? ⟨g31, 2, none⟩ = some (.int .i64 0) := blk_cellv (HS.out.at1) 2 rfl
    have hz564 : w81.frozen? ⟨g31, 2, none⟩ = false := blk_fz (HS.out.at1) 2
    have hc565 : w81.cell? ⟨g31, 3, none⟩ = some (.int .i64 0) := blk_cellv (HS.out.at1) 3 rfl
    have hz566 : w81.frozen? ⟨g31, 3, none⟩ = false := blk_fz (HS.out.at1) 3
    have hc567 : w81.cell? ⟨g31, 4, none⟩ = some (.int .i64 0) := blk_cellv (HS.out.at1) 4 rfl
    have hz568 : w81.frozen? ⟨g31, 4, none⟩ = false := blk_fz (HS.out.at1) 4
    have hc569 : w81.cell? ⟨g31, 5, none⟩ = some (.int .i64 0) := blk_cellv (HS.out.at1) 5 rfl
    have hz570 : w81.frozen? ⟨g31, 5, none⟩ = false := blk_fz (HS.out.at1) 5
    have hc571 : w81.cell? ⟨g31, 6, none⟩ = some (.int .i64 0) := blk_cellv (HS.out.at1) 6 rfl
    have hz572 : w81.frozen? ⟨g31, 6, none⟩ = false := blk_fz (HS.out.at1) 6
    have hc573 : w81.cell? ⟨g31, 7, none⟩ = some (.int .i64 0) := blk_cellv (HS.out.at1) 7 rfl
    have hz574 : w81.frozen? ⟨g31, 7, none⟩ = false := blk_fz (HS.out.at1) 7
    go_wp2_with (first | ((with_reducible refine gate_store (t := 97) (p := 2) rfl ?_); refine store_event (w1 := (World.setCell (World.setCell (World.setCell (World.setCell (World.setCell (World.setCell (World.setCell (World.setCell w81 ⟨g31, 0, none⟩ (.int .i64 0)) ⟨g31, 1, none⟩ (.int .i64 0)) ⟨g31, 2, none⟩ (.int .i64 0)) ⟨g31, 3, none⟩ (.int .i64 0)) ⟨g31, 4, none⟩ (.int .i64 0)) ⟨g31, 5, none⟩ (.int .i64 0)) ⟨g31, 6, none⟩ (.int .i64 0)) ⟨g31, 7, none⟩ (.int .i64 0))) rfl (t := 97) (p := 2) rfl rfl ?hr ?_; (case hr => first | (go_simp; done) | (go_simp; rfl)); intro w575 hst; clear hc559 hz560 hc561 hz562 hc563 hz564 hc565 hz566 hc567 hz568 hc569 hz570 hc571 hz572 hc573 hz574; replace HS : Aside0 (Sep (fps []) w [b1 g28 a24 a25 a26 a27, b2 g31 0 0 0 0 0 0 0 0] w575) := ⟨by rw [hst]; exact HS.out.setAll (l1 := [b1 g28 a24 a25 a26 a27]) (l2 := []) [.int .i64 0, .int .i64 0, .int .i64 0, .int .i64 0, .int .i64 0, .int .i64 0, .int .i64 0, .int .i64 0] rfl⟩; clear hst; replace HS : Aside0 (Sep (fps []) w [b2 g31 0 0 0 0 0 0 0 0] w575) := ⟨HS.out.sub (.cons _ (.cons_cons _ .slnil))⟩))
    have hc576 : w575.cell? ⟨g31, 0, none⟩ = some (.int .i64 0) := blk_cellv (HS.out.at0) 0 rfl
    have hc577 : w575.cell? ⟨g31, 1, none⟩ = some (.int .i64 0) := blk_cellv (HS.out.at0) 1 rfl
    have hc578 : w575.cell? ⟨g31, 2, none⟩ = some (.int .i64 0) := blk_cellv (HS.out.at0) 2 rfl
    have hc579 : w575.cell? ⟨g31, 3, none⟩ = some (.int .i64 0) := blk_cellv (HS.out.at0) 3 rfl
    have hc580 : w575.cell? ⟨g31, 4, none⟩ = some (.int .i64 0) := blk_cellv (HS.out.at0) 4 rfl
    have hc581 : w575.cell? ⟨g31, 5, none⟩ = some (.int .i64 0) := blk_cellv (HS.out.at0) 5 rfl
    have hc582 : w575.cell? ⟨g31, 6, none⟩ = some (.int .i64 0) := blk_cellv (HS.out.at0) 6 rfl
    have hc583 : w575.cell? ⟨g31, 7, none⟩ = some (.int .i64 0) := blk_cellv (HS.out.at0) 7 rfl
    refine bodyPost_ret (v := .tuple #[.agg #[.int .i64 0, .int .i64 0, .int .i64 0, .int .i64 0, .int .i64 0, .int .i64 0, .int .i64 0, .int .i64 0], .int .i64 t79]) (by simp [results, Tryd.results65, go_sem, hc576, hc577, hc578, hc579, hc580, hc581, hc582, hc583]) rfl ?_
    rw [← some_eq H]
    exact ⟨(by first | rfl | (simp [IntKind.wrap_u32]; done)), HS.out.sub (.cons _ .slnil)⟩

set_option maxHeartbeats 30000000 in
set_option maxRecDepth 100000 in
theorem store_New.calls (a609 : Int) (r : Unit ⊕ (List Int)) (w : World)  (HGl0 : Aside0 (Gl 0 #[.int .i64 0, .int .i64 0, .int .i64 0, .int .i64 0, .int .i64 0] (fps []) w)) (HS : Aside0 (Sep (fps []) w [] w)) (H : Aside0 (store_New.f a609 = some r)) :
    Calls Tryd.prog 66 #[.int .i64 a609] w fun e w' => Sum.elim (fun (r : Unit) => e = .returned (.tuple #[.pointer none, .int .i64 2]) ∧ Sep (fps []) w [] w') (fun (r : List Int) => ∃ (g645 : Nat), e = .returned (.tuple #[.pointer (some ⟨g645, 0, none⟩), .int .i64 0]) ∧ ∃ (A646 : Option Addr) (m647 : Nat) (n648 : Nat), Sep (fps []) w [b6 g645 A646 m647 n648 0, r5 A646 m647 n648 r] w') r := by
  unfold store_New.f at H
  go_enter Tryd.func66, Tryd.ntmps66
  by_cases c623 : a609 < 0
  · have H := if_yes c623 H
    have c623b0 : decide (a609 < 0) = true := decide_eq_true c623
    clear c623
    go_wp2_with fail
    go_ret2
    rw [← some_eq H]
    exact ⟨(by first | rfl | (simp [IntKind.wrap_u32]; done)), HS.out⟩
  · have H := if_no c623 H
    have c623b0 : decide (a609 < 0) = false := decide_eq_false c623
    clear c623
    by_cases c624 : a609 > 8388608
    · have H := if_yes c624 H
      have c624b0 : decide (8388608 < a609) = true := decide_eq_true c624
      clear c624
      go_wp2_with fail
      go_ret2
      rw [← some_eq H]
      exact ⟨(by first | rfl | (simp [IntKind.wrap_u32]; done)), HS.out⟩
    · have H := if_no c624 H
      have c624b0 : decide (8388608 < a609) = false := decide_eq_false c624
      clear c624
      obtain ⟨m625, HA626, H⟩ := bind_some H
      obtain ⟨hm627, hn628⟩ := mkLen_eq HA626
      have hm627H := Aside0.mk hm627
      clear hm627
      go_wp2_with (first | ((with_reducible refine gate_dst (N := 11) rfl ?_); refine make_event rfl (N := 11) rfl 69 33 (.tmp 10) (.tmp 10) rfl .i64 (.int .u32 0) 4 Tryd.underlying69 (by kernel_rfl) rfl (by decide) (Value.int .u32) 0 rfl m625 (by show Value.int _ _ = _; rw [hm627H.out]) (by show Value.int _ _ = _; rw [hm627H.out]) (by omega) HS.out ?_; intro g629 w630 HS1; replace HS : Aside0 (Sep (fps []) w [r5 (some ⟨g629, 0, none⟩) m625 m625 (List.replicate m625 (0 : Int))] w630) := ⟨HS1⟩; clear HS1) | ((with_reducible refine gate_dst (N := 13) rfl ?_); refine box_on ?hg (N := 13) ?hd (cs := #[.slice (some ⟨g629, 0, none⟩) m625 m625, .int .u64 0]) (t := 154) ?hr ?_; (case hd => rfl); (case hg => rfl); (case hr => first | (go_simp; done) | (go_simp; rfl)); intro g633 hg w634 hbox hb; replace HS : Aside0 (Sep (fps []) w [r5 (some ⟨g629, 0, none⟩) m625 m625 (List.replicate m625 (0 : Int)), b6 g633 (some ⟨g629, 0, none⟩) m625 m625 0] w634) := ⟨HS.out.box hg hbox hb⟩; clear hg hbox hb))
      go_ret2
      rw [← some_eq H]
      exact ⟨g633, (by first | rfl | (simp [IntKind.wrap_u32]; done)), (some ⟨g629, 0, none⟩), m625, m625, ((HS.out).front 1 (by simp)).keep (l := [b6 g633 (some ⟨g629, 0, none⟩) m625 m625 0, r5 (some ⟨g629, 0, none⟩) m625 m625 (List.replicate m625 (0 : Int))]) (rest := [])⟩

set_option maxHeartbeats 30000000 in
set_option maxRecDepth 100000 in
theorem ground_New.calls (k : Nat) (a13 : Int) (a14 : Int) (a15 : Int) (a16 : Int) (r : Unit ⊕ ((Int × Int × Int × Int × List Int) ⊕ Int)) (w : World)  (HGl0 : Aside0 (Gl 0 #[.int .i64 0, .int .i64 0, .int .i64 0, .int .i64 0, .int .i64 0] (fps []) w)) (HS : Aside0 (Sep (fps []) w [] w)) (H : Aside0 (ground_New.f k a13 a14 a15 a16 = some r)) :
    Calls Tryd.prog 15 #[.agg #[.int .i64 a13, .int .i64 a14, .int .i64 a15, .int .i64 a16]] w fun e w' => Sum.elim (fun (r : Unit) => e = .returned (.tuple #[.pointer none, .int .i64 2]) ∧ Sep (fps []) w [] w') (fun (r_ : (Int × Int × Int × Int × List Int) ⊕ Int) => Sum.elim (fun (r : Int × Int × Int × Int × List Int) => ∃ (g795 : Nat), e = .returned (.tuple #[.pointer (some ⟨g795, 0, none⟩), .int .i64 0]) ∧ ∃ (g796 : Nat) (A797 : Option Addr) (m798 : Nat) (n799 : Nat), Sep (fps []) w [b7 g795 g796 r.1 r.2.1 r.2.2.1 r.2.2.2.1, b6 g796 A797 m798 n799 0, r5 A797 m798 n799 r.2.2.2.2] w') (fun (r : Int) => e = .returned (.tuple #[.pointer none, .int .i64 r]) ∧ Sep (fps []) w [] w') r_) r := by
  unfold ground_New.f at H
  go_enter Tryd.func15, Tryd.ntmps15
  go_wp2_with (first | ((with_reducible refine gate_dst (N := 1) rfl ?_); refine box_on ?hg (N := 1) ?hd (cs := #[.int .i64 a13, .int .i64 a14, .int .i64 a15, .int .i64 a16]) (t := 30) ?hr ?_; (case hd => rfl); (case hg => rfl); (case hr => first | (go_simp; done) | (go_simp; rfl)); intro g731 hg w732 hbox hb; replace HS : Aside0 (Sep (fps []) w [b1 g731 a13 a14 a15 a16] w732) := ⟨HS.out.box hg hbox hb⟩; clear hg hbox hb; have hc734 : w732.cell? ⟨g731, 0, none⟩ = some (.int .i64 a13) := blk_cellv (HS.out.at0) 0 rfl; have hc735 : w732.cell? ⟨g731, 1, none⟩ = some (.int .i64 a14) := blk_cellv (HS.out.at0) 1 rfl; have hc736 : w732.cell? ⟨g731, 2, none⟩ = some (.int .i64 a15) := blk_cellv (HS.out.at0) 2 rfl; have hc737 : w732.cell? ⟨g731, 3, none⟩ = some (.int .i64 a16) := blk_cellv (HS.out.at0) 3 rfl))
  clear hc734 hc735 hc736 hc737
  obtain ⟨t738, HA739, H⟩ := bind_some H
  refine (plan_Of.calls _ a13 a14 a15 a16 t738 _ ⟨HGl0.out.pass (l := []) HS.out⟩ ⟨Sep.start _⟩ HA739).mono ?_
  rintro e_ w740 ⟨rfl, hS⟩
  replace HS : Aside0 (Sep (fps []) w [b1 g731 a13 a14 a15 a16] w740) := ⟨HS.out.call hS⟩
  clear hS
  by_cases c761 : t738.2.2.2.2.2.2.2.2 = 0
  · have H := if_yes c761 H
    have c761b0 : (t738.2.2.2.2.2.2.2.2 == 0) = true := beq_iff_eq.mpr c761
    have c761b1 : (t738.2.2.2.2.2.2.2.2 != 0) = false := bne_eq_false_iff_eq.mpr c761
    clear c761
    go_wp2_with (first | ((with_reducible refine gate_dst (N := 4) rfl ?_); refine box_on ?hg (N := 4) ?hd (cs := #[.int .i64 0, .int .i64 0, .int .i64 0, .int .i64 0, .int .i64 0, .int .i64 0, .int .i64 0, .int .i64 0]) (t := 97) ?hr ?_; (case hd => rfl); (case hg => rfl); (case hr => first | (go_simp; done) | (go_simp; rfl)); intro g741 hg w742 hbox hb; replace HS : Aside0 (Sep (fps []) w [b1 g731 a13 a14 a15 a16, b2 g741 0 0 0 0 0 0 0 0] w742) := ⟨HS.out.box hg hbox hb⟩; clear hg hbox hb; have hc744 : w742.cell? ⟨g741, 0, none⟩ = some (.int .i64 0) := blk_cellv (HS.out.at1) 0 rfl; have hz745 : w742.frozen? ⟨g741, 0, none⟩ = false := blk_fz (HS.out.at1) 0; have hc746 : w742.cell? ⟨g741, 1, none⟩ = some (.int .i64 0) := blk_cellv (HS.out.at1) 1 rfl; have hz747 : w742.frozen? ⟨g741, 1, none⟩ = false := blk_fz (HS.out.at1) 1; have hc748 : w742.cell? ⟨g741, 2, none⟩ = some (.int .i64 0) := blk_cellv (HS.out.at1) 2 rfl; have hz749 : w742.frozen? ⟨g741, 2, none⟩ = false := blk_fz (HS.out.at1) 2; have hc750 : w742.cell? ⟨g741, 3, none⟩ = some (.int .i64 0) := blk_cellv (HS.out.at1) 3 rfl; have hz751 : w742.frozen? ⟨g741, 3, none⟩ = false := blk_fz (HS.out.at1) 3; have hc752 : w742.cell? ⟨g741, 4, none⟩ = some (.int .i64 0) := blk_cellv (HS.out.at1) 4 rfl; have hz753 : w742.frozen? ⟨g741, 4, none⟩ = false := blk_fz (HS.out.at1) 4; have hc754 : w742.cell? ⟨g741, 5, none⟩ = some (.int .i64 0) := blk_cellv (HS.out.at1) 5 rfl; have hz755 : w742.frozen? ⟨g741, 5, none⟩ = false := blk_fz (HS.out.at1) 5; have hc756 : w742.cell? ⟨g741, 6, none⟩ = some (.int .i64 0) := blk_cellv (HS.out.at1) 6 rfl; have hz757 : w742.frozen? ⟨g741, 6, none⟩ = false := blk_fz (HS.out.at1) 6; have hc758 : w742.cell? ⟨g741, 7, none⟩ = some (.int .i64 0) := blk_cellv (HS.out.at1) 7 rfl; have hz759 : w742.frozen? ⟨g741, 7, none⟩ = false := blk_fz (HS.out.at1) 7) | ((with_reducible refine gate_store (t := 97) (p := 4) rfl ?_); refine store_event (w1 := (World.setCell (World.setCell (World.setCell (World.setCell (World.setCell (World.setCell (World.setCell (World.setCell w742 ⟨g741, 0, none⟩ (.int .i64 t738.1)) ⟨g741, 1, none⟩ (.int .i64 t738.2.1)) ⟨g741, 2, none⟩ (.int .i64 t738.2.2.1)) ⟨g741, 3, none⟩ (.int .i64 t738.2.2.2.1)) ⟨g741, 4, none⟩ (.int .i64 t738.2.2.2.2.1)) ⟨g741, 5, none⟩ (.int .i64 t738.2.2.2.2.2.1)) ⟨g741, 6, none⟩ (.int .i64 t738.2.2.2.2.2.2.1)) ⟨g741, 7, none⟩ (.int .i64 t738.2.2.2.2.2.2.2.1))) rfl (t := 97) (p := 4) rfl rfl ?hr ?_; (case hr => first | (go_simp; done) | (go_simp; rfl)); intro w760 hst; clear hc744 hz745 hc746 hz747 hc748 hz749 hc750 hz751 hc752 hz753 hc754 hz755 hc756 hz757 hc758 hz759; replace HS : Aside0 (Sep (fps []) w [b1 g731 a13 a14 a15 a16, b2 g741 t738.1 t738.2.1 t738.2.2.1 t738.2.2.2.1 t738.2.2.2.2.1 t738.2.2.2.2.2.1 t738.2.2.2.2.2.2.1 t738.2.2.2.2.2.2.2.1] w760) := ⟨by rw [hst]; exact HS.out.setAll (l1 := [b1 g731 a13 a14 a15 a16]) (l2 := []) [.int .i64 t738.1, .int .i64 t738.2.1, .int .i64 t738.2.2.1, .int .i64 t738.2.2.2.1, .int .i64 t738.2.2.2.2.1, .int .i64 t738.2.2.2.2.2.1, .int .i64 t738.2.2.2.2.2.2.1, .int .i64 t738.2.2.2.2.2.2.2.1] rfl⟩; clear hst; have hc762 : w760.cell? ⟨g741, 0, none⟩ = some (.int .i64 t738.1) := blk_cellv (HS.out.at1) 0 rfl))
    clear hc762
    obtain ⟨t763, HA764, H⟩ := bind_some H
    rcases t763 with t765 | t766
    · have H := sum_l H
      refine (store_New.calls t738.1 (.inl t765) _ ⟨HGl0.out.pass (l := []) HS.out⟩ ⟨Sep.start _⟩ HA764).mono ?_
      rintro e_ w767 ⟨rfl, hS⟩
      replace HS : Aside0 (Sep (fps []) w [b1 g731 a13 a14 a15 a16, b2 g741 t738.1 t738.2.1 t738.2.2.1 t738.2.2.2.1 t738.2.2.2.2.1 t738.2.2.2.2.2.1 t738.2.2.2.2.2.2.1 t738.2.2.2.2.2.2.2.1] w767) := ⟨HS.out.call hS⟩
      clear hS
      replace HS : Aside0 (Sep (fps []) w [b1 g731 a13 a14 a15 a16] w767) := ⟨HS.out.sub (.cons_cons _ (.cons _ .slnil))⟩
      replace HS : Aside0 (Sep (fps []) w [] w767) := ⟨HS.out.sub (.cons _ .slnil)⟩
      go_wp2_with fail
      go_ret2
      rw [← some_eq H]
      exact ⟨(by first | rfl | (simp [IntKind.wrap_u32]; done)), HS.out⟩
    · have H := sum_r H
      refine (store_New.calls t738.1 (.inr t766) _ ⟨HGl0.out.pass (l := []) HS.out⟩ ⟨Sep.start _⟩ HA764).mono ?_
      rintro e_ w768 ⟨g771, rfl, A772, m773, n774, hS⟩
      replace HS : Aside0 (Sep (fps []) w [b6 g771 A772 m773 n774 0, r5 A772 m773 n774 t766, b1 g731 a13 a14 a15 a16, b2 g741 t738.1 t738.2.1 t738.2.2.1 t738.2.2.2.1 t738.2.2.2.2.1 t738.2.2.2.2.2.1 t738.2.2.2.2.2.2.1 t738.2.2.2.2.2.2.2.1] w768) := ⟨HS.out.call hS⟩
      clear hS
      obtain rfl := (row_len (HS.out.at1)).symm
      replace HS : Aside0 (Sep (fps []) w [b6 g771 A772 t766.length n774 0, r5 A772 t766.length n774 t766, b1 g731 a13 a14 a15 a16] w768) := ⟨HS.out.sub (.cons_cons _ (.cons_cons _ (.cons_cons _ (.cons _ .slnil))))⟩
      have hc776 : w768.cell? ⟨g731, 0, none⟩ = some (.int .i64 a13) := blk_cellv (HS.out.at2) 0 rfl
      have hc777 : w768.cell? ⟨g731, 1, none⟩ = some (.int .i64 a14) := blk_cellv (HS.out.at2) 1 rfl
      have hc778 : w768.cell? ⟨g731, 2, none⟩ = some (.int .i64 a15) := blk_cellv (HS.out.at2) 2 rfl
      have hc779 : w768.cell? ⟨g731, 3, none⟩ = some (.int .i64 a16) := blk_cellv (HS.out.at2) 3 rfl
      go_wp2_with (first | ((with_reducible refine gate_dst (N := 28) rfl ?_); refine box_on ?hg (N := 28) ?hd (cs := #[.pointer (some ⟨g771, 0, none⟩), .int .i64 a13, .int .i64 a14, .int .i64 a15, .int .i64 a16]) (t := 106) ?hr ?_; (case hd => rfl); (case hg => rfl); (case hr => first | (go_simp; done) | (go_simp; rfl)); intro g780 hg w781 hbox hb; clear hc776 hc777 hc778 hc779; replace HS : Aside0 (Sep (fps []) w [b6 g771 A772 t766.length n774 0, r5 A772 t766.length n774 t766, b1 g731 a13 a14 a15 a16, b7 g780 g771 a13 a14 a15 a16] w781) := ⟨HS.out.box hg hbox hb⟩; clear hg hbox hb; replace HS : Aside0 (Sep (fps []) w [b6 g771 A772 t766.length n774 0, r5 A772 t766.length n774 t766, b7 g780 g771 a13 a14 a15 a16] w781) := ⟨HS.out.sub (.cons_cons _ (.cons_cons _ (.cons _ (.cons_cons _ .slnil))))⟩))
      go_ret2
      rw [← some_eq H]
      exact ⟨g780, (by first | rfl | (simp [IntKind.wrap_u32]; done)), g771, A772, t766.length, n774, ((((HS.out).front 1 (by simp)).front 1 (by simp)).front 2 (by simp)).keep (l := [b7 g780 g771 a13 a14 a15 a16, b6 g771 A772 t766.length n774 0, r5 A772 t766.length n774 t766]) (rest := [])⟩
  · have H := if_no c761 H
    have c761b0 : (t738.2.2.2.2.2.2.2.2 == 0) = false := beq_eq_false_iff_ne.mpr c761
    have c761b1 : (t738.2.2.2.2.2.2.2.2 != 0) = true := bne_iff_ne.mpr c761
    clear c761
    go_wp2_with (first | ((with_reducible refine gate_dst (N := 4) rfl ?_); refine box_on ?hg (N := 4) ?hd (cs := #[.int .i64 0, .int .i64 0, .int .i64 0, .int .i64 0, .int .i64 0, .int .i64 0, .int .i64 0, .int .i64 0]) (t := 97) ?hr ?_; (case hd => rfl); (case hg => rfl); (case hr => first | (go_simp; done) | (go_simp; rfl)); intro g741 hg w742 hbox hb; replace HS : Aside0 (Sep (fps []) w [b1 g731 a13 a14 a15 a16, b2 g741 0 0 0 0 0 0 0 0] w742) := ⟨HS.out.box hg hbox hb⟩; clear hg hbox hb; have hc744 : w742.cell? ⟨g741, 0, none⟩ = some (.int .i64 0) := blk_cellv (HS.out.at1) 0 rfl; have hz745 : w742.frozen? ⟨g741, 0, none⟩ = false := blk_fz (HS.out.at1) 0; have hc746 : w742.cell? ⟨g741, 1, none⟩ = some (.int .i64 0) := blk_cellv (HS.out.at1) 1 rfl; have hz747 : w742.frozen? ⟨g741, 1, none⟩ = false := blk_fz (HS.out.at1) 1; have hc748 : w742.cell? ⟨g741, 2, none⟩ = some (.int .i64 0) := blk_cellv (HS.out.at1) 2 rfl; have hz749 : w742.frozen? ⟨g741, 2, none⟩ = false := blk_fz (HS.out.at1) 2; have hc750 : w742.cell? ⟨g741, 3, none⟩ = some (.int .i64 0) := blk_cellv (HS.out.at1) 3 rfl; have hz751 : w742.frozen? ⟨g741, 3, none⟩ = false := blk_fz (HS.out.at1) 3; have hc752 : w742.cell? ⟨g741, 4, none⟩ = some (.int .i64 0) := blk_cellv (HS.out.at1) 4 rfl; have hz753 : w742.frozen? ⟨g741, 4, none⟩ = false := blk_fz (HS.out.at1) 4; have hc754 : w742.cell? ⟨g741, 5, none⟩ = some (.int .i64 0) := blk_cellv (HS.out.at1) 5 rfl; have hz755 : w742.frozen? ⟨g741, 5, none⟩ = false := blk_fz (HS.out.at1) 5; have hc756 : w742.cell? ⟨g741, 6, none⟩ = some (.int .i64 0) := blk_cellv (HS.out.at1) 6 rfl; have hz757 : w742.frozen? ⟨g741, 6, none⟩ = false := blk_fz (HS.out.at1) 6; have hc758 : w742.cell? ⟨g741, 7, none⟩ = some (.int .i64 0) := blk_cellv (HS.out.at1) 7 rfl; have hz759 : w742.frozen? ⟨g741, 7, none⟩ = false := blk_fz (HS.out.at1) 7) | ((with_reducible refine gate_store (t := 97) (p := 4) rfl ?_); refine store_event (w1 := (World.setCell (World.setCell (World.setCell (World.setCell (World.setCell (World.setCell (World.setCell (World.setCell w742 ⟨g741, 0, none⟩ (.int .i64 t738.1)) ⟨g741, 1, none⟩ (.int .i64 t738.2.1)) ⟨g741, 2, none⟩ (.int .i64 t738.2.2.1)) ⟨g741, 3, none⟩ (.int .i64 t738.2.2.2.1)) ⟨g741, 4, none⟩ (.int .i64 t738.2.2.2.2.1)) ⟨g741, 5, none⟩ (.int .i64 t738.2.2.2.2.2.1)) ⟨g741, 6, none⟩ (.int .i64 t738.2.2.2.2.2.2.1)) ⟨g741, 7, none⟩ (.int .i64 t738.2.2.2.2.2.2.2.1))) rfl (t := 97) (p := 4) rfl rfl ?hr ?_; (case hr => first | (go_simp; done) | (go_simp; rfl)); intro w760 hst; clear hc744 hz745 hc746 hz747 hc748 hz749 hc750 hz751 hc752 hz753 hc754 hz755 hc756 hz757 hc758 hz759; replace HS : Aside0 (Sep (fps []) w [b1 g731 a13 a14 a15 a16, b2 g741 t738.1 t738.2.1 t738.2.2.1 t738.2.2.2.1 t738.2.2.2.2.1 t738.2.2.2.2.2.1 t738.2.2.2.2.2.2.1 t738.2.2.2.2.2.2.2.1] w760) := ⟨by rw [hst]; exact HS.out.setAll (l1 := [b1 g731 a13 a14 a15 a16]) (l2 := []) [.int .i64 t738.1, .int .i64 t738.2.1, .int .i64 t738.2.2.1, .int .i64 t738.2.2.2.1, .int .i64 t738.2.2.2.2.1, .int .i64 t738.2.2.2.2.2.1, .int .i64 t738.2.2.2.2.2.2.1, .int .i64 t738.2.2.2.2.2.2.2.1] rfl⟩; clear hst; replace HS : Aside0 (Sep (fps []) w [] w760) := ⟨HS.out.sub (.cons _ (.cons _ .slnil))⟩))
    go_ret2
    rw [← some_eq H]
    exact ⟨(by first | rfl | (simp [IntKind.wrap_u32]; done)), HS.out⟩

set_option maxHeartbeats 30000000 in
set_option maxRecDepth 100000 in
theorem chain_of.calls (l853 : List Int) (a858 : Int) (a859 : Int) (a860 : Int) (a861 : Int) (a862 : Int) (a863 : Int) (g849 : Nat) (g851 : Nat) (A854 : Option Addr) (m855 : Nat) (n856 : Nat) (r : Int × Int × Int × Bool) (w : World)  (HGl0 : Aside0 (Gl 0 #[.int .i64 0, .int .i64 0, .int .i64 0, .int .i64 0, .int .i64 0] (fps [b7 g849 g851 a859 a860 a861 a862, b6 g851 A854 m855 n856 a858, r5 A854 m855 n856 l853]) w)) (HS : Aside0 (Sep (fps [b7 g849 g851 a859 a860 a861 a862, b6 g851 A854 m855 n856 a858, r5 A854 m855 n856 l853]) w [b7 g849 g851 a859 a860 a861 a862, b6 g851 A854 m855 n856 a858, r5 A854 m855 n856 l853] w)) (H : Aside0 (chain_of.f l853 a858 a859 a860 a861 a862 a863 = some r)) :
    Calls Tryd.prog 139 #[.pointer (some ⟨g849, 0, none⟩), .int .i64 a863] w fun e w' => e = .returned (.tuple #[.agg #[.int .i64 r.1, .int .i64 r.2.1, .int .i64 r.2.2.1], .bool r.2.2.2]) ∧ Sep (fps [b7 g849 g851 a859 a860 a861 a862, b6 g851 A854 m855 n856 a858, r5 A854 m855 n856 l853]) w [b7 g849 g851 a859 a860 a861 a862, b6 g851 A854 m855 n856 a858, r5 A854 m855 n856 l853] w' := by
  generalize (fps [b7 g849 g851 a859 a860 a861 a862, b6 g851 A854 m855 n856 a858, r5 A854 m855 n856 l853]) = FF at HS HGl0 ⊢
  obtain rfl := (row_len (HS.out.at2)).symm
  unfold chain_of.f at H
  go_enter Tryd.func139, Tryd.ntmps139
  by_cases c867 : a863 < 0
  · have H := if_yes c867 H
    have c867b0 : decide (a863 < 0) = true := decide_eq_true c867
    clear c867
    go_wp2_with (first | ((with_reducible refine gate_dst (N := 4) rfl ?_); refine box_on ?hg (N := 4) ?hd (cs := #[.int .i64 0, .int .i64 0, .int .i64 0]) (t := 166) ?hr ?_; (case hd => rfl); (case hg => rfl); (case hr => first | (go_simp; done) | (go_simp; rfl)); intro g864 hg w865 hbox hb; replace HS : Aside0 (Sep FF w [b7 g849 g851 a859 a860 a861 a862, b6 g851 A854 l853.length n856 a858, r5 A854 l853.length n856 l853, b8 g864 0 0 0] w865) := ⟨HS.out.box hg hbox hb⟩; clear hg hbox hb; have hc868 : w865.cell? ⟨g864, 0, none⟩ = some (.int .i64 0) := blk_cellv (HS.out.at3) 0 rfl; have hz869 : w865.frozen? ⟨g864, 0, none⟩ = false := blk_fz (HS.out.at3) 0; have hc870 : w865.cell? ⟨g864, 1, none⟩ = some (.int .i64 0) := blk_cellv (HS.out.at3) 1 rfl; have hz871 : w865.frozen? ⟨g864, 1, none⟩ = false := blk_fz (HS.out.at3) 1; have hc872 : w865.cell? ⟨g864, 2, none⟩ = some (.int .i64 0) := blk_cellv (HS.out.at3) 2 rfl; have hz873 : w865.frozen? ⟨g864, 2, none⟩ = false := blk_fz (HS.out.at3) 2) | ((with_reducible refine gate_store (t := 166) (p := 4) rfl ?_); refine store_event (w1 := (World.setCell (World.setCell (World.setCell w865 ⟨g864, 0, none⟩ (.int .i64 0)) ⟨g864, 1, none⟩ (.int .i64 0)) ⟨g864, 2, none⟩ (.int .i64 0))) rfl (t := 166) (p := 4) rfl rfl ?hr ?_; (case hr => first | (go_simp; done) | (go_simp; rfl)); intro w874 hst; clear hc868 hz869 hc870 hz871 hc872 hz873; replace HS : Aside0 (Sep FF w [b7 g849 g851 a859 a860 a861 a862, b6 g851 A854 l853.length n856 a858, r5 A854 l853.length n856 l853, b8 g864 0 0 0] w874) := ⟨by rw [hst]; exact HS.out.setAll (l1 := [b7 g849 g851 a859 a860 a861 a862, b6 g851 A854 l853.length n856 a858, r5 A854 l853.length n856 l853]) (l2 := []) [.int .i64 0, .int .i64 0, .int .i64 0] rfl⟩; clear hst))
    have hc875 : w874.cell? ⟨g864, 0, none⟩ = some (.int .i64 0) := blk_cellv (HS.out.at3) 0 rfl
    have hc876 : w874.cell? ⟨g864, 1, none⟩ = some (.int .i64 0) := blk_cellv (HS.out.at3) 1 rfl
    have hc877 : w874.cell? ⟨g864, 2, none⟩ = some (.int .i64 0) := blk_cellv (HS.out.at3) 2 rfl
    refine bodyPost_ret (v := .tuple #[.agg #[.int .i64 0, .int .i64 0, .int .i64 0], .bool false]) (by simp [results, Tryd.results139, go_sem, hc875, hc876, hc877]) rfl ?_
    rw [← some_eq H]
    exact ⟨(by first | rfl | (simp [IntKind.wrap_u32]; done)), HS.out.sub (.cons_cons _ (.cons_cons _ (.cons_cons _ (.cons _ .slnil))))⟩
  · have H := if_no c867 H
    have c867b0 : decide (a863 < 0) = false := decide_eq_false c867
    clear c867
    by_cases c878 : a863 > 1
    · have H := if_yes c878 H
      have c878b0 : decide (1 < a863) = true := decide_eq_true c878
      clear c878
      go_wp2_with (first | ((with_reducible refine gate_dst (N := 4) rfl ?_); refine box_on ?hg (N := 4) ?hd (cs := #[.int .i64 0, .int .i64 0, .int .i64 0]) (t := 166) ?hr ?_; (case hd => rfl); (case hg => rfl); (case hr => first | (go_simp; done) | (go_simp; rfl)); intro g864 hg w865 hbox hb; replace HS : Aside0 (Sep FF w [b7 g849 g851 a859 a860 a861 a862, b6 g851 A854 l853.length n856 a858, r5 A854 l853.length n856 l853, b8 g864 0 0 0] w865) := ⟨HS.out.box hg hbox hb⟩; clear hg hbox hb; have hc879 : w865.cell? ⟨g864, 0, none⟩ = some (.int .i64 0) := blk_cellv (HS.out.at3) 0 rfl; have hz880 : w865.frozen? ⟨g864, 0, none⟩ = false := blk_fz (HS.out.at3) 0; have hc881 : w865.cell? ⟨g864, 1, none⟩ = some (.int .i64 0) := blk_cellv (HS.out.at3) 1 rfl; have hz882 : w865.frozen? ⟨g864, 1, none⟩ = false := blk_fz (HS.out.at3) 1; have hc883 : w865.cell? ⟨g864, 2, none⟩ = some (.int .i64 0) := blk_cellv (HS.out.at3) 2 rfl; have hz884 : w865.frozen? ⟨g864, 2, none⟩ = false := blk_fz (HS.out.at3) 2) | ((with_reducible refine gate_store (t := 166) (p := 4) rfl ?_); refine store_event (w1 := (World.setCell (World.setCell (World.setCell w865 ⟨g864, 0, none⟩ (.int .i64 0)) ⟨g864, 1, none⟩ (.int .i64 0)) ⟨g864, 2, none⟩ (.int .i64 0))) rfl (t := 166) (p := 4) rfl rfl ?hr ?_; (case hr => first | (go_simp; done) | (go_simp; rfl)); intro w885 hst; clear hc879 hz880 hc881 hz882 hc883 hz884; replace HS : Aside0 (Sep FF w [b7 g849 g851 a859 a860 a861 a862, b6 g851 A854 l853.length n856 a858, r5 A854 l853.length n856 l853, b8 g864 0 0 0] w885) := ⟨by rw [hst]; exact HS.out.setAll (l1 := [b7 g849 g851 a859 a860 a861 a862, b6 g851 A854 l853.length n856 a858, r5 A854 l853.length n856 l853]) (l2 := []) [.int .i64 0, .int .i64 0, .int .i64 0] rfl⟩; clear hst))
      have hc886 : w885.cell? ⟨g864, 0, none⟩ = some (.int .i64 0) := blk_cellv (HS.out.at3) 0 rfl
      have hc887 : w885.cell? ⟨g864, 1, none⟩ = some (.int .i64 0) := blk_cellv (HS.out.at3) 1 rfl
      have hc888 : w885.cell? ⟨g864, 2, none⟩ = some (.int .i64 0) := blk_cellv (HS.out.at3) 2 rfl
      refine bodyPost_ret (v := .tuple #[.agg #[.int .i64 0, .int .i64 0, .int .i64 0], .bool false]) (by simp [results, Tryd.results139, go_sem, hc886, hc887, hc888]) rfl ?_
      rw [← some_eq H]
      exact ⟨(by first | rfl | (simp [IntKind.wrap_u32]; done)), HS.out.sub (.cons_cons _ (.cons_cons _ (.cons_cons _ (.cons _ .slnil))))⟩
    · have H := if_no c878 H
      have c878b0 : decide (1 < a863) = false := decide_eq_false c878
      clear c878
      go_wp2_with (first | ((with_reducible refine gate_dst (N := 4) rfl ?_); refine box_on ?hg (N := 4) ?hd (cs := #[.int .i64 0, .int .i64 0, .int .i64 0]) (t := 166) ?hr ?_; (case hd => rfl); (case hg => rfl); (case hr => first | (go_simp; done) | (go_simp; rfl)); intro g864 hg w865 hbox hb; replace HS : Aside0 (Sep FF w [b7 g849 g851 a859 a860 a861 a862, b6 g851 A854 l853.length n856 a858, r5 A854 l853.length n856 l853, b8 g864 0 0 0] w865) := ⟨HS.out.box hg hbox hb⟩; clear hg hbox hb; have hc889 : w865.cell? ⟨g864, 0, none⟩ = some (.int .i64 0) := blk_cellv (HS.out.at3) 0 rfl; have hz890 : w865.frozen? ⟨g864, 0, none⟩ = false := blk_fz (HS.out.at3) 0; have hc891 : w865.cell? ⟨g864, 1, none⟩ = some (.int .i64 0) := blk_cellv (HS.out.at3) 1 rfl; have hz892 : w865.frozen? ⟨g864, 1, none⟩ = false := blk_fz (HS.out.at3) 1; have hc893 : w865.cell? ⟨g864, 2, none⟩ = some (.int .i64 0) := blk_cellv (HS.out.at3) 2 rfl; have hz894 : w865.frozen? ⟨g864, 2, none⟩ = false := blk_fz (HS.out.at3) 2) | ((with_reducible refine gate_store (t := 166) (p := 4) rfl ?_); refine store_event (w1 := (World.setCell (World.setCell (World.setCell w865 ⟨g864, 0, none⟩ (.int .i64 (wrap64 (3 * a863)))) ⟨g864, 1, none⟩ (.int .i64 (wrap64 ((wrap64 (3 * a863)) + 1)))) ⟨g864, 2, none⟩ (.int .i64 (wrap64 ((wrap64 (3 * a863)) + 2))))) rfl (t := 166) (p := 4) rfl rfl ?hr ?_; (case hr => first | (go_simp; done) | (go_simp; rfl)); intro w895 hst; clear hc889 hz890 hc891 hz892 hc893 hz894; replace HS : Aside0 (Sep FF w [b7 g849 g851 a859 a860 a861 a862, b6 g851 A854 l853.length n856 a858, r5 A854 l853.length n856 l853, b8 g864 (wrap64 (3 * a863)) (wrap64 ((wrap64 (3 * a863)) + 1)) (wrap64 ((wrap64 (3 * a863)) + 2))] w895) := ⟨by rw [hst]; exact HS.out.setAll (l1 := [b7 g849 g851 a859 a860 a861 a862, b6 g851 A854 l853.length n856 a858, r5 A854 l853.length n856 l853]) (l2 := []) [.int .i64 (wrap64 (3 * a863)), .int .i64 (wrap64 ((wrap64 (3 * a863)) + 1)), .int .i64 (wrap64 ((wrap64 (3 * a863)) + 2))] rfl⟩; clear hst))
      have hc896 : w895.cell? ⟨g864, 0, none⟩ = some (.int .i64 (wrap64 (3 * a863))) := blk_cellv (HS.out.at3) 0 rfl
      have hc897 : w895.cell? ⟨g864, 1, none⟩ = some (.int .i64 (wrap64 ((wrap64 (3 * a863)) + 1))) := blk_cellv (HS.out.at3) 1 rfl
      have hc898 : w895.cell? ⟨g864, 2, none⟩ = some (.int .i64 (wrap64 ((wrap64 (3 * a863)) + 2))) := blk_cellv (HS.out.at3) 2 rfl
      refine bodyPost_ret (v := .tuple #[.agg #[.int .i64 (wrap64 (3 * a863)), .int .i64 (wrap64 ((wrap64 (3 * a863)) + 1)), .int .i64 (wrap64 ((wrap64 (3 * a863)) + 2))], .bool true]) (by simp [results, Tryd.results139, go_sem, hc896, hc897, hc898]) rfl ?_
      rw [← some_eq H]
      exact ⟨(by first | rfl | (simp [IntKind.wrap_u32]; done)), HS.out.sub (.cons_cons _ (.cons_cons _ (.cons_cons _ (.cons _ .slnil))))⟩

set_option maxHeartbeats 30000000 in
set_option maxRecDepth 100000 in
theorem ground_Ground_all.calls (l935 : List Int) (a940 : Int) (a941 : Int) (a942 : Int) (a943 : Int) (a944 : Int) (g931 : Nat) (g933 : Nat) (A936 : Option Addr) (m937 : Nat) (n938 : Nat) (r : Unit) (w : World)  (HGl0 : Aside0 (Gl 0 #[.int .i64 0, .int .i64 0, .int .i64 0, .int .i64 0, .int .i64 0] (fps [b7 g931 g933 a941 a942 a943 a944, b6 g933 A936 m937 n938 a940, r5 A936 m937 n938 l935]) w)) (HS : Aside0 (Sep (fps [b7 g931 g933 a941 a942 a943 a944, b6 g933 A936 m937 n938 a940, r5 A936 m937 n938 l935]) w [b7 g931 g933 a941 a942 a943 a944, b6 g933 A936 m937 n938 a940, r5 A936 m937 n938 l935] w)) (H : Aside0 (ground_Ground_all.f l935 a940 a941 a942 a943 a944 = some r)) :
    Calls Tryd.prog 70 #[.pointer (some ⟨g931, 0, none⟩)] w fun e w' => e = .returned (.pointer (some ⟨g933, 0, none⟩)) ∧ Sep (fps [b7 g931 g933 a941 a942 a943 a944, b6 g933 A936 m937 n938 a940, r5 A936 m937 n938 l935]) w [b7 g931 g933 a941 a942 a943 a944, b6 g933 A936 m937 n938 a940, r5 A936 m937 n938 l935] w' := by
  generalize (fps [b7 g931 g933 a941 a942 a943 a944, b6 g933 A936 m937 n938 a940, r5 A936 m937 n938 l935]) = FF at HS HGl0 ⊢
  obtain rfl := (row_len (HS.out.at2)).symm
  unfold ground_Ground_all.f at H
  go_enter Tryd.func70, Tryd.ntmps70
  have hc945 : w.cell? ⟨g931, 0, none⟩ = some (.pointer (some ⟨g933, 0, none⟩)) := blk_cellv (HS.out.at0) 0 rfl
  go_wp2_with fail
  clear hc945
  go_ret
  clear H
  exact ⟨(by first | rfl | (simp [IntKind.wrap_u32]; done)), HS.out⟩

set_option maxHeartbeats 30000000 in
set_option maxRecDepth 100000 in
theorem ground_within.calls (a950 : Int) (a951 : Int) (a952 : Int) (r : Int) (w : World)  (HGl0 : Aside0 (Gl 0 #[.int .i64 0, .int .i64 0, .int .i64 0, .int .i64 0, .int .i64 0] (fps []) w)) (HS : Aside0 (Sep (fps []) w [] w)) (H : Aside0 (ground_within.f a950 a951 a952 = some r)) :
    Calls Tryd.prog 129 #[.int .i64 a950, .int .i64 a951, .int .i64 a952] w fun e w' => e = .returned (.int .i64 r) ∧ Sep (fps []) w [] w' := by
  unfold ground_within.f at H
  go_enter Tryd.func129, Tryd.ntmps129
  by_cases c953 : a950 < 0
  · have H := if_yes c953 H
    have c953b0 : decide (a950 < 0) = true := decide_eq_true c953
    clear c953
    go_wp2_with fail
    go_ret
    rw [← some_eq H]
    exact ⟨(by first | rfl | (simp [IntKind.wrap_u32]; done)), HS.out⟩
  · have H := if_no c953 H
    have c953b0 : decide (a950 < 0) = false := decide_eq_false c953
    clear c953
    by_cases c954 : a950 ≥ a951
    · have H := if_yes c954 H
      have c954b0 : decide (a951 ≤ a950) = true := decide_eq_true c954
      clear c954
      go_wp2_with fail
      go_ret
      rw [← some_eq H]
      exact ⟨(by first | rfl | (simp [IntKind.wrap_u32]; done)), HS.out⟩
    · have H := if_no c954 H
      have c954b0 : decide (a951 ≤ a950) = false := decide_eq_false c954
      clear c954
      go_wp2_with fail
      go_ret
      rw [← some_eq H]
      exact ⟨(by first | rfl | (simp [IntKind.wrap_u32]; done)), HS.out⟩

set_option maxHeartbeats 30000000 in
set_option maxRecDepth 100000 in
theorem ground_reg.calls (a949 : Int) (r : Int) (w : World)  (HGl0 : Aside0 (Gl 0 #[.int .i64 0, .int .i64 0, .int .i64 0, .int .i64 0, .int .i64 0] (fps []) w)) (HS : Aside0 (Sep (fps []) w [] w)) (H : Aside0 (ground_reg.f a949 = some r)) :
    Calls Tryd.prog 131 #[.int .i64 a949] w fun e w' => e = .returned (.int .i64 r) ∧ Sep (fps []) w [] w' := by
  unfold ground_reg.f at H
  go_enter Tryd.func131, Tryd.ntmps131
  go_wp2_with fail
  obtain ⟨t955, HA956, H⟩ := bind_some H
  refine (ground_within.calls a949 24 0 t955 _ ⟨HGl0.out.pass (l := []) HS.out⟩ ⟨Sep.start _⟩ HA956).mono ?_
  rintro e_ w957 ⟨rfl, hS⟩
  replace HS : Aside0 (Sep (fps []) w [] w957) := ⟨HS.out.call hS⟩
  clear hS
  go_wp2_with fail
  go_ret
  rw [← some_eq H]
  exact ⟨(by first | rfl | (simp [IntKind.wrap_u32]; done)), HS.out⟩

set_option maxHeartbeats 30000000 in
set_option maxRecDepth 100000 in
theorem store_Store_has.calls (l974 : List Int) (a979 : Int) (a980 : Int) (g972 : Nat) (A975 : Option Addr) (m976 : Nat) (n977 : Nat) (r : Bool) (w : World)  (HGl0 : Aside0 (Gl 0 #[.int .i64 0, .int .i64 0, .int .i64 0, .int .i64 0, .int .i64 0] (fps [b6 g972 A975 m976 n977 a979, r5 A975 m976 n977 l974]) w)) (HS : Aside0 (Sep (fps [b6 g972 A975 m976 n977 a979, r5 A975 m976 n977 l974]) w [b6 g972 A975 m976 n977 a979, r5 A975 m976 n977 l974] w)) (H : Aside0 (store_Store_has.f l974 a979 a980 = some r)) :
    Calls Tryd.prog 127 #[.pointer (some ⟨g972, 0, none⟩), .int .i64 a980] w fun e w' => e = .returned (.bool r) ∧ Sep (fps [b6 g972 A975 m976 n977 a979, r5 A975 m976 n977 l974]) w [b6 g972 A975 m976 n977 a979, r5 A975 m976 n977 l974] w' := by
  generalize (fps [b6 g972 A975 m976 n977 a979, r5 A975 m976 n977 l974]) = FF at HS HGl0 ⊢
  obtain rfl := (row_len (HS.out.at1)).symm
  unfold store_Store_has.f at H
  go_enter Tryd.func127, Tryd.ntmps127
  by_cases c981 : a980 ≥ 0
  · have H := if_yes c981 H
    have c981b0 : decide (0 ≤ a980) = true := decide_eq_true c981
    clear c981
    have hc982 : w.cell? ⟨g972, 0, none⟩ = some (.slice A975 l974.length n977) := blk_cellv (HS.out.at0) 0 rfl
    go_wp2_with fail
    clear hc982
    go_ret
    rw [← some_eq H]
    exact ⟨(by first | rfl | (simp [IntKind.wrap_u32]; done)), HS.out⟩
  · have H := if_no c981 H
    have c981b0 : decide (0 ≤ a980) = false := decide_eq_false c981
    clear c981
    go_wp2_with fail
    go_ret
    rw [← some_eq H]
    exact ⟨(by first | rfl | (simp [IntKind.wrap_u32]; done)), HS.out⟩

set_option maxHeartbeats 30000000 in
set_option maxRecDepth 100000 in
theorem atomic_Uint64_Add.calls (l990 : List Int) (a995 : Int) (a996 : Int) (g988 : Nat) (A991 : Option Addr) (m992 : Nat) (n993 : Nat) (r : Int × Int) (w : World)  (HGl0 : Aside0 (Gl 0 #[.int .i64 0, .int .i64 0, .int .i64 0, .int .i64 0, .int .i64 0] (fps [b6 g988 A991 m992 n993 a995, r5 A991 m992 n993 l990]) w)) (HS : Aside0 (Sep (fps [b6 g988 A991 m992 n993 a995, r5 A991 m992 n993 l990]) w [b6 g988 A991 m992 n993 a995, r5 A991 m992 n993 l990] w)) (H : Aside0 (atomic_Uint64_Add.f l990 a995 a996 = some r)) :
    Calls Tryd.prog 128 #[.pointer (some ⟨g988, 1, none⟩), .int .u64 a996] w fun e w' => e = .returned (.int .u64 r.1) ∧ Sep (fps [b6 g988 A991 m992 n993 a995, r5 A991 m992 n993 l990]) w [b6 g988 A991 m992 n993 r.2, r5 A991 m992 n993 l990] w' := by
  generalize (fps [b6 g988 A991 m992 n993 a995, r5 A991 m992 n993 l990]) = FF at HS HGl0 ⊢
  obtain rfl := (row_len (HS.out.at1)).symm
  unfold atomic_Uint64_Add.f at H
  go_enter Tryd.func128, Tryd.ntmps128
  obtain ⟨y1006, HA1007, H⟩ := bind_some H
  have hc1003 : w.cell? ⟨g988, 1, none⟩ = some (.int .u64 a995) := blk_cellv (HS.out.at0) 1 rfl
  have hz1005 : w.frozen? ⟨g988, 1, none⟩ = false := blk_fz (HS.out.at0) 1
  have hn1004 : (callFunc 153 #[.pointer (some ⟨g988, 1, none⟩), .int .u64 a996]).run Tryd.prog w = .ok (.value (.int .u64 y1006)) ((World.setCell w ⟨g988, 1, none⟩ (.int .u64 y1006))) := (some_eq HA1007) ▸ run_call_add Tryd.func153 (by kernel_rfl) (by kernel_rfl) (by kernel_rfl) .u64 (by kernel_rfl) hc1003 hz1005 (by rfl)
  go_wp2_with (first | ((with_reducible refine gate_dst (N := 9) rfl ?_); refine run_on2 (by rfl) (w1 := (World.setCell w ⟨g988, 1, none⟩ (.int .u64 y1006))) (v := .int .u64 y1006) ?hr ?_; (case hr => first | (go_simp; done) | (go_simp; rfl)); intro w1008 hst; clear hc1003 hz1005; have hq0 : Sep FF w [b6 g988 A991 l990.length n993 y1006, r5 A991 l990.length n993 l990] (World.setCell w ⟨g988, 1, none⟩ (.int .u64 y1006)) := (HS.out).set1 (l1 := []) (l2 := [r5 A991 l990.length n993 l990]) 1 (.int .u64 y1006); replace HS : Aside0 (Sep FF w [b6 g988 A991 l990.length n993 y1006, r5 A991 l990.length n993 l990] w1008) := ⟨by rw [hst]; exact hq0⟩; clear hst hn1004 hq0))
  go_ret
  rw [← some_eq H]
  exact ⟨(by first | rfl | (simp [IntKind.wrap_u32]; done)), HS.out⟩

set_option maxHeartbeats 30000000 in
set_option maxRecDepth 100000 in
theorem store_Store_Get.calls (l964 : List Int) (a969 : Int) (a970 : Int) (g962 : Nat) (A965 : Option Addr) (m966 : Nat) (n967 : Nat) (r : Int × Int) (w : World)  (HGl0 : Aside0 (Gl 0 #[.int .i64 0, .int .i64 0, .int .i64 0, .int .i64 0, .int .i64 0] (fps [b6 g962 A965 m966 n967 a969, r5 A965 m966 n967 l964]) w)) (HS : Aside0 (Sep (fps [b6 g962 A965 m966 n967 a969, r5 A965 m966 n967 l964]) w [b6 g962 A965 m966 n967 a969, r5 A965 m966 n967 l964] w)) (H : Aside0 (store_Store_Get.f l964 a969 a970 = some r)) :
    Calls Tryd.prog 130 #[.pointer (some ⟨g962, 0, none⟩), .int .i64 a970] w fun e w' => e = .returned (.int .u32 r.1) ∧ Sep (fps [b6 g962 A965 m966 n967 a969, r5 A965 m966 n967 l964]) w [b6 g962 A965 m966 n967 r.2, r5 A965 m966 n967 l964] w' := by
  generalize (fps [b6 g962 A965 m966 n967 a969, r5 A965 m966 n967 l964]) = FF at HS HGl0 ⊢
  obtain rfl := (row_len (HS.out.at1)).symm
  unfold store_Store_Get.f at H
  go_enter Tryd.func130, Tryd.ntmps130
  go_wp2_with fail
  obtain ⟨t1018, HA1019, H⟩ := bind_some H
  refine (store_Store_has.calls l964 a969 a970 g962 A965 l964.length n967 t1018 _ ⟨HGl0.out.pass HS.out⟩ ⟨HS.out.begin⟩ HA1019).mono ?_
  rintro e_ w1020 ⟨rfl, hS⟩
  replace HS : Aside0 (Sep FF w [b6 g962 A965 l964.length n967 a969, r5 A965 l964.length n967 l964] w1020) := ⟨HS.out.call hS⟩
  clear hS
  by_cases c1021 : t1018 = true
  · have H := if_yes c1021 H
    have c1021b0 : t1018 = true := c1021
    have c1021b1 : (!t1018) = false := by rw [c1021b0]; rfl
    try rw [c1021b1]
    clear c1021
    go_wp2_with fail
    obtain ⟨t1022, HA1023, H⟩ := bind_some H
    refine (atomic_Uint64_Add.calls l964 a969 1 g962 A965 l964.length n967 t1022 _ ⟨HGl0.out.pass HS.out⟩ ⟨HS.out.begin⟩ HA1023).mono ?_
    rintro e_ w1024 ⟨rfl, hS⟩
    replace HS : Aside0 (Sep FF w [b6 g962 A965 l964.length n967 t1022.2, r5 A965 l964.length n967 l964] w1024) := ⟨HS.out.call hS⟩
    clear hS
    by_cases c1026 : 0 ≤ a970
    · have H := if_yes c1026 H
      have c1026b0 : decide (0 ≤ a970) = true := decide_eq_true c1026
      have c1026p : (0 ≤ a970) = True := eq_true c1026
      clear c1026
      by_cases c1027 : a970 < (l964.length : Int)
      · have H := if_yes c1027 H
        have c1027b0 : decide (a970 < (l964.length : Int)) = true := decide_eq_true c1027
        have c1027p : (a970 < (l964.length : Int)) = True := eq_true c1027
        clear c1027
        have hc1025 : w1024.cell? ⟨g962, 0, none⟩ = some (.slice A965 l964.length n967) := blk_cellv (HS.out.at0) 0 rfl
        obtain ⟨g1028, ea⟩ := row_at (HS.out.at1) (by have := (of_decide_eq_true c1026b0); have := (of_decide_eq_true c1027b0); omega); cases ea
        have hx1029 := C_at_int (row_Ci (HS.out.at1)) a970 (of_decide_eq_true c1026b0) (of_decide_eq_true c1027b0)
        have hx1030 : w1024.cell? ⟨g1028, (a970).toNat, none⟩ = some (.int .u32 (rd l964 a970)) := (row_get 0 (HS.out.at1) a970 (of_decide_eq_true c1026b0) (of_decide_eq_true c1027b0)).1
        go_wp2_with fail
        clear hc1025 hx1029 hx1030
        go_ret
        rw [← some_eq H]
        exact ⟨(by first | rfl | (simp [IntKind.wrap_u32]; done)), HS.out⟩
      · have H := if_no c1027 H
        have c1027b0 : decide (a970 < (l964.length : Int)) = false := decide_eq_false c1027
        clear c1027
        exact (none_no H).elim
    · have H := if_no c1026 H
      have c1026b0 : decide (0 ≤ a970) = false := decide_eq_false c1026
      clear c1026
      exact (none_no H).elim
  · have H := if_no c1021 H
    have c1021b0 : t1018 = false := by simpa using c1021
    have c1021b1 : (!t1018) = true := by rw [c1021b0]; rfl
    try rw [c1021b1]
    clear c1021
    go_wp2_with fail
    go_ret
    rw [← some_eq H]
    exact ⟨(by first | rfl | (simp [IntKind.wrap_u32]; done)), HS.out⟩

set_option maxHeartbeats 30000000 in
set_option maxRecDepth 100000 in
theorem ground_Ground_Reg.calls (l919 : List Int) (a924 : Int) (a925 : Int) (a926 : Int) (a927 : Int) (a928 : Int) (a929 : Int) (g915 : Nat) (g917 : Nat) (A920 : Option Addr) (m921 : Nat) (n922 : Nat) (r : Int × Int) (w : World)  (HGl0 : Aside0 (Gl 0 #[.int .i64 0, .int .i64 0, .int .i64 0, .int .i64 0, .int .i64 0] (fps [b7 g915 g917 a925 a926 a927 a928, b6 g917 A920 m921 n922 a924, r5 A920 m921 n922 l919]) w)) (HS : Aside0 (Sep (fps [b7 g915 g917 a925 a926 a927 a928, b6 g917 A920 m921 n922 a924, r5 A920 m921 n922 l919]) w [b7 g915 g917 a925 a926 a927 a928, b6 g917 A920 m921 n922 a924, r5 A920 m921 n922 l919] w)) (H : Aside0 (ground_Ground_Reg.f l919 a924 a925 a926 a927 a928 a929 = some r)) :
    Calls Tryd.prog 81 #[.pointer (some ⟨g915, 0, none⟩), .int .i64 a929] w fun e w' => e = .returned (.int .i64 r.1) ∧ Sep (fps [b7 g915 g917 a925 a926 a927 a928, b6 g917 A920 m921 n922 a924, r5 A920 m921 n922 l919]) w [b7 g915 g917 a925 a926 a927 a928, b6 g917 A920 m921 n922 r.2, r5 A920 m921 n922 l919] w' := by
  generalize (fps [b7 g915 g917 a925 a926 a927 a928, b6 g917 A920 m921 n922 a924, r5 A920 m921 n922 l919]) = FF at HS HGl0 ⊢
  obtain rfl := (row_len (HS.out.at2)).symm
  unfold ground_Ground_Reg.f at H
  go_enter Tryd.func81, Tryd.ntmps81
  go_wp2_with fail
  obtain ⟨t1034, HA1035, H⟩ := bind_some H
  refine (ground_Ground_all.calls l919 a924 a925 a926 a927 a928 g915 g917 A920 l919.length n922 t1034 _ ⟨HGl0.out.pass HS.out⟩ ⟨HS.out.begin⟩ HA1035).mono ?_
  rintro e_ w1036 ⟨rfl, hS⟩
  replace HS : Aside0 (Sep FF w [b7 g915 g917 a925 a926 a927 a928, b6 g917 A920 l919.length n922 a924, r5 A920 l919.length n922 l919] w1036) := ⟨HS.out.call hS⟩
  clear hS
  go_wp2_with fail
  obtain ⟨t1037, HA1038, H⟩ := bind_some H
  refine (ground_reg.calls a929 t1037 _ ⟨HGl0.out.pass (l := []) HS.out⟩ ⟨Sep.start _⟩ HA1038).mono ?_
  rintro e_ w1039 ⟨rfl, hS⟩
  replace HS : Aside0 (Sep FF w [b7 g915 g917 a925 a926 a927 a928, b6 g917 A920 l919.length n922 a924, r5 A920 l919.length n922 l919] w1039) := ⟨HS.out.call hS⟩
  clear hS
  go_wp2_with fail
  replace HS : Aside0 (Sep FF w [r5 A920 l919.length n922 l919, b7 g915 g917 a925 a926 a927 a928, b6 g917 A920 l919.length n922 a924] w1039) := ⟨HS.out.front 2 (by simp)⟩
  replace HS : Aside0 (Sep FF w [b6 g917 A920 l919.length n922 a924, r5 A920 l919.length n922 l919, b7 g915 g917 a925 a926 a927 a928] w1039) := ⟨HS.out.front 2 (by simp)⟩
  obtain ⟨t1040, HA1041, H⟩ := bind_some H
  refine (store_Store_Get.calls l919 a924 t1037 g917 A920 l919.length n922 t1040 _ ⟨HGl0.out.pass HS.out⟩ ⟨HS.out.begin⟩ HA1041).mono ?_
  rintro e_ w1042 ⟨rfl, hS⟩
  replace HS : Aside0 (Sep FF w [b6 g917 A920 l919.length n922 t1040.2, r5 A920 l919.length n922 l919, b7 g915 g917 a925 a926 a927 a928] w1042) := ⟨HS.out.call hS⟩
  clear hS
  go_wp2_with fail
  go_ret
  rw [← some_eq H]
  exact ⟨(by first | rfl | (simp [IntKind.wrap_u32]; done)), ((((HS.out).front 1 (by simp)).front 1 (by simp)).front 2 (by simp)).keep (l := [b7 g915 g917 a925 a926 a927 a928, b6 g917 A920 l919.length n922 t1040.2, r5 A920 l919.length n922 l919]) (rest := [])⟩

set_option maxHeartbeats 30000000 in
set_option maxRecDepth 100000 in
theorem chain_Len.calls (l837 : List Int) (a842 : Int) (a843 : Int) (a844 : Int) (a845 : Int) (a846 : Int) (a847 : Int) (g833 : Nat) (g835 : Nat) (A838 : Option Addr) (m839 : Nat) (n840 : Nat) (r : Int × Int) (w : World)  (HGl0 : Aside0 (Gl 0 #[.int .i64 0, .int .i64 0, .int .i64 0, .int .i64 0, .int .i64 0] (fps [b7 g833 g835 a843 a844 a845 a846, b6 g835 A838 m839 n840 a842, r5 A838 m839 n840 l837]) w)) (HS : Aside0 (Sep (fps [b7 g833 g835 a843 a844 a845 a846, b6 g835 A838 m839 n840 a842, r5 A838 m839 n840 l837]) w [b7 g833 g835 a843 a844 a845 a846, b6 g835 A838 m839 n840 a842, r5 A838 m839 n840 l837] w)) (H : Aside0 (chain_Len.f l837 a842 a843 a844 a845 a846 a847 = some r)) :
    Calls Tryd.prog 105 #[.pointer (some ⟨g833, 0, none⟩), .int .i64 a847] w fun e w' => e = .returned (.int .i64 r.1) ∧ Sep (fps [b7 g833 g835 a843 a844 a845 a846, b6 g835 A838 m839 n840 a842, r5 A838 m839 n840 l837]) w [b7 g833 g835 a843 a844 a845 a846, b6 g835 A838 m839 n840 r.2, r5 A838 m839 n840 l837] w' := by
  generalize (fps [b7 g833 g835 a843 a844 a845 a846, b6 g835 A838 m839 n840 a842, r5 A838 m839 n840 l837]) = FF at HS HGl0 ⊢
  obtain rfl := (row_len (HS.out.at2)).symm
  unfold chain_Len.f at H
  go_enter Tryd.func105, Tryd.ntmps105
  go_wp2_with fail
  obtain ⟨t1046, HA1047, H⟩ := bind_some H
  refine (chain_of.calls l837 a842 a843 a844 a845 a846 a847 g833 g835 A838 l837.length n840 t1046 _ ⟨HGl0.out.pass HS.out⟩ ⟨HS.out.begin⟩ HA1047).mono ?_
  rintro e_ w1048 ⟨rfl, hS⟩
  replace HS : Aside0 (Sep FF w [b7 g833 g835 a843 a844 a845 a846, b6 g835 A838 l837.length n840 a842, r5 A838 l837.length n840 l837] w1048) := ⟨HS.out.call hS⟩
  clear hS
  by_cases c1059 : t1046.2.2.2 = true
  · have H := if_yes c1059 H
    have c1059b0 : t1046.2.2.2 = true := c1059
    have c1059b1 : (!t1046.2.2.2) = false := by rw [c1059b0]; rfl
    try rw [c1059b1]
    clear c1059
    go_wp2_with (first | ((with_reducible refine gate_dst (N := 5) rfl ?_); refine box_on ?hg (N := 5) ?hd (cs := #[.int .i64 0, .int .i64 0, .int .i64 0]) (t := 166) ?hr ?_; (case hd => rfl); (case hg => rfl); (case hr => first | (go_simp; done) | (go_simp; rfl)); intro g1049 hg w1050 hbox hb; replace HS : Aside0 (Sep FF w [b7 g833 g835 a843 a844 a845 a846, b6 g835 A838 l837.length n840 a842, r5 A838 l837.length n840 l837, b8 g1049 0 0 0] w1050) := ⟨HS.out.box hg hbox hb⟩; clear hg hbox hb; have hc1052 : w1050.cell? ⟨g1049, 0, none⟩ = some (.int .i64 0) := blk_cellv (HS.out.at3) 0 rfl; have hz1053 : w1050.frozen? ⟨g1049, 0, none⟩ = false := blk_fz (HS.out.at3) 0; have hc1054 : w1050.cell? ⟨g1049, 1, none⟩ = some (.int .i64 0) := blk_cellv (HS.out.at3) 1 rfl; have hz1055 : w1050.frozen? ⟨g1049, 1, none⟩ = false := blk_fz (HS.out.at3) 1; have hc1056 : w1050.cell? ⟨g1049, 2, none⟩ = some (.int .i64 0) := blk_cellv (HS.out.at3) 2 rfl; have hz1057 : w1050.frozen? ⟨g1049, 2, none⟩ = false := blk_fz (HS.out.at3) 2) | ((with_reducible refine gate_store (t := 166) (p := 5) rfl ?_); refine store_event (w1 := (World.setCell (World.setCell (World.setCell w1050 ⟨g1049, 0, none⟩ (.int .i64 t1046.1)) ⟨g1049, 1, none⟩ (.int .i64 t1046.2.1)) ⟨g1049, 2, none⟩ (.int .i64 t1046.2.2.1))) rfl (t := 166) (p := 5) rfl rfl ?hr ?_; (case hr => first | (go_simp; done) | (go_simp; rfl)); intro w1058 hst; clear hc1052 hz1053 hc1054 hz1055 hc1056 hz1057; replace HS : Aside0 (Sep FF w [b7 g833 g835 a843 a844 a845 a846, b6 g835 A838 l837.length n840 a842, r5 A838 l837.length n840 l837, b8 g1049 t1046.1 t1046.2.1 t1046.2.2.1] w1058) := ⟨by rw [hst]; exact HS.out.setAll (l1 := [b7 g833 g835 a843 a844 a845 a846, b6 g835 A838 l837.length n840 a842, r5 A838 l837.length n840 l837]) (l2 := []) [.int .i64 t1046.1, .int .i64 t1046.2.1, .int .i64 t1046.2.2.1] rfl⟩; clear hst; have hc1060 : w1058.cell? ⟨g1049, 2, none⟩ = some (.int .i64 t1046.2.2.1) := blk_cellv (HS.out.at3) 2 rfl))
    clear hc1060
    obtain ⟨t1061, HA1062, H⟩ := bind_some H
    refine (ground_Ground_Reg.calls l837 a842 a843 a844 a845 a846 t1046.2.2.1 g833 g835 A838 l837.length n840 t1061 _ ⟨HGl0.out.pass HS.out⟩ ⟨HS.out.begin⟩ HA1062).mono ?_
    rintro e_ w1063 ⟨rfl, hS⟩
    replace HS : Aside0 (Sep FF w [b7 g833 g835 a843 a844 a845 a846, b6 g835 A838 l837.length n840 t1061.2, r5 A838 l837.length n840 l837, b8 g1049 t1046.1 t1046.2.1 t1046.2.2.1] w1063) := ⟨HS.out.call hS⟩
    clear hS
    replace HS : Aside0 (Sep FF w [b7 g833 g835 a843 a844 a845 a846, b6 g835 A838 l837.length n840 t1061.2, r5 A838 l837.length n840 l837] w1063) := ⟨HS.out.sub (.cons_cons _ (.cons_cons _ (.cons_cons _ (.cons _ .slnil))))⟩
    go_wp2_with fail
    go_ret
    rw [← some_eq H]
    exact ⟨(by first | rfl | (simp [IntKind.wrap_u32]; done)), HS.out⟩
  · have H := if_no c1059 H
    have c1059b0 : t1046.2.2.2 = false := by simpa using c1059
    have c1059b1 : (!t1046.2.2.2) = true := by rw [c1059b0]; rfl
    try rw [c1059b1]
    clear c1059
    go_wp2_with (first | ((with_reducible refine gate_dst (N := 5) rfl ?_); refine box_on ?hg (N := 5) ?hd (cs := #[.int .i64 0, .int .i64 0, .int .i64 0]) (t := 166) ?hr ?_; (case hd => rfl); (case hg => rfl); (case hr => first | (go_simp; done) | (go_simp; rfl)); intro g1049 hg w1050 hbox hb; replace HS : Aside0 (Sep FF w [b7 g833 g835 a843 a844 a845 a846, b6 g835 A838 l837.length n840 a842, r5 A838 l837.length n840 l837, b8 g1049 0 0 0] w1050) := ⟨HS.out.box hg hbox hb⟩; clear hg hbox hb; have hc1052 : w1050.cell? ⟨g1049, 0, none⟩ = some (.int .i64 0) := blk_cellv (HS.out.at3) 0 rfl; have hz1053 : w1050.frozen? ⟨g1049, 0, none⟩ = false := blk_fz (HS.out.at3) 0; have hc1054 : w1050.cell? ⟨g1049, 1, none⟩ = some (.int .i64 0) := blk_cellv (HS.out.at3) 1 rfl; have hz1055 : w1050.frozen? ⟨g1049, 1, none⟩ = false := blk_fz (HS.out.at3) 1; have hc1056 : w1050.cell? ⟨g1049, 2, none⟩ = some (.int .i64 0) := blk_cellv (HS.out.at3) 2 rfl; have hz1057 : w1050.frozen? ⟨g1049, 2, none⟩ = false := blk_fz (HS.out.at3) 2) | ((with_reducible refine gate_store (t := 166) (p := 5) rfl ?_); refine store_event (w1 := (World.setCell (World.setCell (World.setCell w1050 ⟨g1049, 0, none⟩ (.int .i64 t1046.1)) ⟨g1049, 1, none⟩ (.int .i64 t1046.2.1)) ⟨g1049, 2, none⟩ (.int .i64 t1046.2.2.1))) rfl (t := 166) (p := 5) rfl rfl ?hr ?_; (case hr => first | (go_simp; done) | (go_simp; rfl)); intro w1058 hst; clear hc1052 hz1053 hc1054 hz1055 hc1056 hz1057; replace HS : Aside0 (Sep FF w [b7 g833 g835 a843 a844 a845 a846, b6 g835 A838 l837.length n840 a842, r5 A838 l837.length n840 l837, b8 g1049 t1046.1 t1046.2.1 t1046.2.2.1] w1058) := ⟨by rw [hst]; exact HS.out.setAll (l1 := [b7 g833 g835 a843 a844 a845 a846, b6 g835 A838 l837.length n840 a842, r5 A838 l837.length n840 l837]) (l2 := []) [.int .i64 t1046.1, .int .i64 t1046.2.1, .int .i64 t1046.2.2.1] rfl⟩; clear hst; replace HS : Aside0 (Sep FF w [b7 g833 g835 a843 a844 a845 a846, b6 g835 A838 l837.length n840 a842, r5 A838 l837.length n840 l837] w1058) := ⟨HS.out.sub (.cons_cons _ (.cons_cons _ (.cons_cons _ (.cons _ .slnil))))⟩))
    go_ret
    rw [← some_eq H]
    exact ⟨(by first | rfl | (simp [IntKind.wrap_u32]; done)), HS.out⟩

set_option maxHeartbeats 30000000 in
set_option maxRecDepth 100000 in
theorem ground_Ground_Conf.calls (l1077 : List Int) (a1082 : Int) (a1083 : Int) (a1084 : Int) (a1085 : Int) (a1086 : Int) (g1073 : Nat) (g1075 : Nat) (A1078 : Option Addr) (m1079 : Nat) (n1080 : Nat) (r : Int × Int × Int × Int) (w : World)  (HGl0 : Aside0 (Gl 0 #[.int .i64 0, .int .i64 0, .int .i64 0, .int .i64 0, .int .i64 0] (fps [b7 g1073 g1075 a1083 a1084 a1085 a1086, b6 g1075 A1078 m1079 n1080 a1082, r5 A1078 m1079 n1080 l1077]) w)) (HS : Aside0 (Sep (fps [b7 g1073 g1075 a1083 a1084 a1085 a1086, b6 g1075 A1078 m1079 n1080 a1082, r5 A1078 m1079 n1080 l1077]) w [b7 g1073 g1075 a1083 a1084 a1085 a1086, b6 g1075 A1078 m1079 n1080 a1082, r5 A1078 m1079 n1080 l1077] w)) (H : Aside0 (ground_Ground_Conf.f l1077 a1082 a1083 a1084 a1085 a1086 = some r)) :
    Calls Tryd.prog 86 #[.pointer (some ⟨g1073, 0, none⟩)] w fun e w' => e = .returned (.agg #[.int .i64 r.1, .int .i64 r.2.1, .int .i64 r.2.2.1, .int .i64 r.2.2.2]) ∧ Sep (fps [b7 g1073 g1075 a1083 a1084 a1085 a1086, b6 g1075 A1078 m1079 n1080 a1082, r5 A1078 m1079 n1080 l1077]) w [b7 g1073 g1075 a1083 a1084 a1085 a1086, b6 g1075 A1078 m1079 n1080 a1082, r5 A1078 m1079 n1080 l1077] w' := by
  generalize (fps [b7 g1073 g1075 a1083 a1084 a1085 a1086, b6 g1075 A1078 m1079 n1080 a1082, r5 A1078 m1079 n1080 l1077]) = FF at HS HGl0 ⊢
  obtain rfl := (row_len (HS.out.at2)).symm
  unfold ground_Ground_Conf.f at H
  go_enter Tryd.func86, Tryd.ntmps86
  go_wp2_with (first | ((with_reducible refine gate_dst (N := 2) rfl ?_); refine box_on ?hg (N := 2) ?hd (cs := #[.int .i64 0, .int .i64 0, .int .i64 0, .int .i64 0]) (t := 30) ?hr ?_; (case hd => rfl); (case hg => rfl); (case hr => first | (go_simp; done) | (go_simp; rfl)); intro g1087 hg w1088 hbox hb; replace HS : Aside0 (Sep FF w [b7 g1073 g1075 a1083 a1084 a1085 a1086, b6 g1075 A1078 l1077.length n1080 a1082, r5 A1078 l1077.length n1080 l1077, b1 g1087 0 0 0 0] w1088) := ⟨HS.out.box hg hbox hb⟩; clear hg hbox hb; have hc1090 : w1088.cell? ⟨g1073, 1, none⟩ = some (.int .i64 a1083) := blk_cellv (HS.out.at0) 1 rfl; have hc1091 : w1088.cell? ⟨g1073, 2, none⟩ = some (.int .i64 a1084) := blk_cellv (HS.out.at0) 2 rfl; have hc1092 : w1088.cell? ⟨g1073, 3, none⟩ = some (.int .i64 a1085) := blk_cellv (HS.out.at0) 3 rfl; have hc1093 : w1088.cell? ⟨g1073, 4, none⟩ = some (.int .i64 a1086) := blk_cellv (HS.out.at0) 4 rfl; have hc1094 : w1088.cell? ⟨g1087, 0, none⟩ = some (.int .i64 0) := blk_cellv (HS.out.at3) 0 rfl; have hz1095 : w1088.frozen? ⟨g1087, 0, none⟩ = false := blk_fz (HS.out.at3) 0; have hc1096 : w1088.cell? ⟨g1087, 1, none⟩ = some (.int .i64 0) := blk_cellv (HS.out.at3) 1 rfl; have hz1097 : w1088.frozen? ⟨g1087, 1, none⟩ = false := blk_fz (HS.out.at3) 1; have hc1098 : w1088.cell? ⟨g1087, 2, none⟩ = some (.int .i64 0) := blk_cellv (HS.out.at3) 2 rfl; have hz1099 : w1088.frozen? ⟨g1087, 2, none⟩ = false := blk_fz (HS.out.at3) 2; have hc1100 : w1088.cell? ⟨g1087, 3, none⟩ = some (.int .i64 0) := blk_cellv (HS.out.at3) 3 rfl; have hz1101 : w1088.frozen? ⟨g1087, 3, none⟩ = false := blk_fz (HS.out.at3) 3) | ((with_reducible refine gate_store (t := 30) (p := 2) rfl ?_); refine store_event (w1 := (World.setCell (World.setCell (World.setCell (World.setCell w1088 ⟨g1087, 0, none⟩ (.int .i64 a1083)) ⟨g1087, 1, none⟩ (.int .i64 a1084)) ⟨g1087, 2, none⟩ (.int .i64 a1085)) ⟨g1087, 3, none⟩ (.int .i64 a1086))) rfl (t := 30) (p := 2) rfl rfl ?hr ?_; (case hr => first | (go_simp; done) | (go_simp; rfl)); intro w1102 hst; clear hc1090 hc1091 hc1092 hc1093 hc1094 hz1095 hc1096 hz1097 hc1098 hz1099 hc1100 hz1101; replace HS : Aside0 (Sep FF w [b7 g1073 g1075 a1083 a1084 a1085 a1086, b6 g1075 A1078 l1077.length n1080 a1082, r5 A1078 l1077.length n1080 l1077, b1 g1087 a1083 a1084 a1085 a1086] w1102) := ⟨by rw [hst]; exact HS.out.setAll (l1 := [b7 g1073 g1075 a1083 a1084 a1085 a1086, b6 g1075 A1078 l1077.length n1080 a1082, r5 A1078 l1077.length n1080 l1077]) (l2 := []) [.int .i64 a1083, .int .i64 a1084, .int .i64 a1085, .int .i64 a1086] rfl⟩; clear hst))
  have hc1103 : w1102.cell? ⟨g1087, 0, none⟩ = some (.int .i64 a1083) := blk_cellv (HS.out.at3) 0 rfl
  have hc1104 : w1102.cell? ⟨g1087, 1, none⟩ = some (.int .i64 a1084) := blk_cellv (HS.out.at3) 1 rfl
  have hc1105 : w1102.cell? ⟨g1087, 2, none⟩ = some (.int .i64 a1085) := blk_cellv (HS.out.at3) 2 rfl
  have hc1106 : w1102.cell? ⟨g1087, 3, none⟩ = some (.int .i64 a1086) := blk_cellv (HS.out.at3) 3 rfl
  refine bodyPost_ret (v := .agg #[.int .i64 a1083, .int .i64 a1084, .int .i64 a1085, .int .i64 a1086]) (by simp [results, Tryd.results86, go_sem, hc1103, hc1104, hc1105, hc1106]) rfl ?_
  rw [← some_eq H]
  exact ⟨(by first | rfl | (simp [IntKind.wrap_u32]; done)), HS.out.sub (.cons_cons _ (.cons_cons _ (.cons_cons _ (.cons _ .slnil))))⟩

set_option maxHeartbeats 30000000 in
set_option maxRecDepth 100000 in
theorem ground_Ground_word.calls (l1248 : List Int) (a1253 : Int) (a1254 : Int) (a1255 : Int) (a1256 : Int) (a1257 : Int) (a1258 : Int) (a1259 : Int) (g1244 : Nat) (g1246 : Nat) (A1249 : Option Addr) (m1250 : Nat) (n1251 : Nat) (r : Int) (w : World)  (HGl0 : Aside0 (Gl 0 #[.int .i64 0, .int .i64 0, .int .i64 0, .int .i64 0, .int .i64 0] (fps [b7 g1244 g1246 a1254 a1255 a1256 a1257, b6 g1246 A1249 m1250 n1251 a1253, r5 A1249 m1250 n1251 l1248]) w)) (HS : Aside0 (Sep (fps [b7 g1244 g1246 a1254 a1255 a1256 a1257, b6 g1246 A1249 m1250 n1251 a1253, r5 A1249 m1250 n1251 l1248]) w [b7 g1244 g1246 a1254 a1255 a1256 a1257, b6 g1246 A1249 m1250 n1251 a1253, r5 A1249 m1250 n1251 l1248] w)) (H : Aside0 (ground_Ground_word.f l1248 a1253 a1254 a1255 a1256 a1257 a1258 a1259 = some r)) :
    Calls Tryd.prog 72 #[.pointer (some ⟨g1244, 0, none⟩), .int .i64 a1258, .int .i64 a1259] w fun e w' => e = .returned (.int .i64 r) ∧ Sep (fps [b7 g1244 g1246 a1254 a1255 a1256 a1257, b6 g1246 A1249 m1250 n1251 a1253, r5 A1249 m1250 n1251 l1248]) w [b7 g1244 g1246 a1254 a1255 a1256 a1257, b6 g1246 A1249 m1250 n1251 a1253, r5 A1249 m1250 n1251 l1248] w' := by
  generalize (fps [b7 g1244 g1246 a1254 a1255 a1256 a1257, b6 g1246 A1249 m1250 n1251 a1253, r5 A1249 m1250 n1251 l1248]) = FF at HS HGl0 ⊢
  obtain rfl := (row_len (HS.out.at2)).symm
  unfold ground_Ground_word.f at H
  go_enter Tryd.func72, Tryd.ntmps72
  go_wp2_with fail
  obtain ⟨t1260, HA1261, H⟩ := bind_some H
  refine (ground_Ground_Conf.calls l1248 a1253 a1254 a1255 a1256 a1257 g1244 g1246 A1249 l1248.length n1251 t1260 _ ⟨HGl0.out.pass HS.out⟩ ⟨HS.out.begin⟩ HA1261).mono ?_
  rintro e_ w1262 ⟨rfl, hS⟩
  replace HS : Aside0 (Sep FF w [b7 g1244 g1246 a1254 a1255 a1256 a1257, b6 g1246 A1249 l1248.length n1251 a1253, r5 A1249 l1248.length n1251 l1248] w1262) := ⟨HS.out.call hS⟩
  clear hS
  go_wp2_with (first | ((with_reducible refine gate_dst (N := 7) rfl ?_); refine box_on ?hg (N := 7) ?hd (cs := #[.int .i64 0, .int .i64 0, .int .i64 0, .int .i64 0]) (t := 30) ?hr ?_; (case hd => rfl); (case hg => rfl); (case hr => first | (go_simp; done) | (go_simp; rfl)); intro g1263 hg w1264 hbox hb; replace HS : Aside0 (Sep FF w [b7 g1244 g1246 a1254 a1255 a1256 a1257, b6 g1246 A1249 l1248.length n1251 a1253, r5 A1249 l1248.length n1251 l1248, b1 g1263 0 0 0 0] w1264) := ⟨HS.out.box hg hbox hb⟩; clear hg hbox hb; have hc1266 : w1264.cell? ⟨g1263, 0, none⟩ = some (.int .i64 0) := blk_cellv (HS.out.at3) 0 rfl; have hz1267 : w1264.frozen? ⟨g1263, 0, none⟩ = false := blk_fz (HS.out.at3) 0; have hc1268 : w1264.cell? ⟨g1263, 1, none⟩ = some (.int .i64 0) := blk_cellv (HS.out.at3) 1 rfl; have hz1269 : w1264.frozen? ⟨g1263, 1, none⟩ = false := blk_fz (HS.out.at3) 1; have hc1270 : w1264.cell? ⟨g1263, 2, none⟩ = some (.int .i64 0) := blk_cellv (HS.out.at3) 2 rfl; have hz1271 : w1264.frozen? ⟨g1263, 2, none⟩ = false := blk_fz (HS.out.at3) 2; have hc1272 : w1264.cell? ⟨g1263, 3, none⟩ = some (.int .i64 0) := blk_cellv (HS.out.at3) 3 rfl; have hz1273 : w1264.frozen? ⟨g1263, 3, none⟩ = false := blk_fz (HS.out.at3) 3) | ((with_reducible refine gate_store (t := 30) (p := 7) rfl ?_); refine store_event (w1 := (World.setCell (World.setCell (World.setCell (World.setCell w1264 ⟨g1263, 0, none⟩ (.int .i64 t1260.1)) ⟨g1263, 1, none⟩ (.int .i64 t1260.2.1)) ⟨g1263, 2, none⟩ (.int .i64 t1260.2.2.1)) ⟨g1263, 3, none⟩ (.int .i64 t1260.2.2.2))) rfl (t := 30) (p := 7) rfl rfl ?hr ?_; (case hr => first | (go_simp; done) | (go_simp; rfl)); intro w1274 hst; clear hc1266 hz1267 hc1268 hz1269 hc1270 hz1271 hc1272 hz1273; replace HS : Aside0 (Sep FF w [b7 g1244 g1246 a1254 a1255 a1256 a1257, b6 g1246 A1249 l1248.length n1251 a1253, r5 A1249 l1248.length n1251 l1248, b1 g1263 t1260.1 t1260.2.1 t1260.2.2.1 t1260.2.2.2] w1274) := ⟨by rw [hst]; exact HS.out.setAll (l1 := [b7 g1244 g1246 a1254 a1255 a1256 a1257, b6 g1246 A1249 l1248.length n1251 a1253, r5 A1249 l1248.length n1251 l1248]) (l2 := []) [.int .i64 t1260.1, .int .i64 t1260.2.1, .int .i64 t1260.2.2.1, .int .i64 t1260.2.2.2] rfl⟩; clear hst; have hc1275 : w1274.cell? ⟨g1263, 0, none⟩ = some (.int .i64 t1260.1) := blk_cellv (HS.out.at3) 0 rfl))
  clear hc1275
  obtain ⟨t1276, HA1277, H⟩ := bind_some H
  refine (ground_within.calls a1258 t1260.1 0 t1276 _ ⟨HGl0.out.pass (l := []) HS.out⟩ ⟨Sep.start _⟩ HA1277).mono ?_
  rintro e_ w1278 ⟨rfl, hS⟩
  replace HS : Aside0 (Sep FF w [b7 g1244 g1246 a1254 a1255 a1256 a1257, b6 g1246 A1249 l1248.length n1251 a1253, r5 A1249 l1248.length n1251 l1248, b1 g1263 t1260.1 t1260.2.1 t1260.2.2.1 t1260.2.2.2] w1278) := ⟨HS.out.call hS⟩
  clear hS
  by_cases c1279 : t1276 = (-1)
  · have H := if_yes c1279 H
    have c1279b0 : (t1276 == (-1)) = true := beq_iff_eq.mpr c1279
    have c1279b1 : (t1276 != (-1)) = false := bne_eq_false_iff_eq.mpr c1279
    clear c1279
    replace HS : Aside0 (Sep FF w [b7 g1244 g1246 a1254 a1255 a1256 a1257, b6 g1246 A1249 l1248.length n1251 a1253, r5 A1249 l1248.length n1251 l1248] w1278) := ⟨HS.out.sub (.cons_cons _ (.cons_cons _ (.cons_cons _ (.cons _ .slnil))))⟩
    go_wp2_with fail
    go_ret
    rw [← some_eq H]
    exact ⟨(by first | rfl | (simp [IntKind.wrap_u32]; done)), HS.out⟩
  · have H := if_no c1279 H
    have c1279b0 : (t1276 == (-1)) = false := beq_eq_false_iff_ne.mpr c1279
    have c1279b1 : (t1276 != (-1)) = true := bne_iff_ne.mpr c1279
    clear c1279
    have hc1280 : w1278.cell? ⟨g1263, 1, none⟩ = some (.int .i64 t1260.2.1) := blk_cellv (HS.out.at3) 1 rfl
    have hc1281 : w1278.cell? ⟨g1263, 2, none⟩ = some (.int .i64 t1260.2.2.1) := blk_cellv (HS.out.at3) 2 rfl
    go_wp2_with fail
    clear hc1280 hc1281
    obtain ⟨t1282, HA1283, H⟩ := bind_some H
    refine (ground_within.calls a1259 t1260.2.1 (wrap64 ((wrap64 (24 + t1260.2.2.1)) + (wrap64 (a1258 * t1260.2.1)))) t1282 _ ⟨HGl0.out.pass (l := []) HS.out⟩ ⟨Sep.start _⟩ HA1283).mono ?_
    rintro e_ w1284 ⟨rfl, hS⟩
    replace HS : Aside0 (Sep FF w [b7 g1244 g1246 a1254 a1255 a1256 a1257, b6 g1246 A1249 l1248.length n1251 a1253, r5 A1249 l1248.length n1251 l1248, b1 g1263 t1260.1 t1260.2.1 t1260.2.2.1 t1260.2.2.2] w1284) := ⟨HS.out.call hS⟩
    clear hS
    replace HS : Aside0 (Sep FF w [b7 g1244 g1246 a1254 a1255 a1256 a1257, b6 g1246 A1249 l1248.length n1251 a1253, r5 A1249 l1248.length n1251 l1248] w1284) := ⟨HS.out.sub (.cons_cons _ (.cons_cons _ (.cons_cons _ (.cons _ .slnil))))⟩
    go_wp2_with fail
    go_ret
    rw [← some_eq H]
    exact ⟨(by first | rfl | (simp [IntKind.wrap_u32]; done)), HS.out⟩

set_option maxHeartbeats 30000000 in
set_option maxRecDepth 100000 in
theorem store_Store_Put.calls (l1291 : List Int) (a1296 : Int) (a1297 : Int) (a1298 : Int) (g1289 : Nat) (A1292 : Option Addr) (m1293 : Nat) (n1294 : Nat) (r : Bool × Int × List Int) (w : World)  (HGl0 : Aside0 (Gl 0 #[.int .i64 0, .int .i64 0, .int .i64 0, .int .i64 0, .int .i64 0] (fps [b6 g1289 A1292 m1293 n1294 a1296, r5 A1292 m1293 n1294 l1291]) w)) (HS : Aside0 (Sep (fps [b6 g1289 A1292 m1293 n1294 a1296, r5 A1292 m1293 n1294 l1291]) w [b6 g1289 A1292 m1293 n1294 a1296, r5 A1292 m1293 n1294 l1291] w)) (H : Aside0 (store_Store_Put.f l1291 a1296 a1297 a1298 = some r)) :
    Calls Tryd.prog 71 #[.pointer (some ⟨g1289, 0, none⟩), .int .i64 a1297, .int .u32 a1298] w fun e w' => e = .returned (.bool r.1) ∧ Sep (fps [b6 g1289 A1292 m1293 n1294 a1296, r5 A1292 m1293 n1294 l1291]) w [b6 g1289 A1292 m1293 n1294 r.2.1, r5 A1292 m1293 n1294 r.2.2] w' := by
  generalize (fps [b6 g1289 A1292 m1293 n1294 a1296, r5 A1292 m1293 n1294 l1291]) = FF at HS HGl0 ⊢
  obtain rfl := (row_len (HS.out.at1)).symm
  unfold store_Store_Put.f at H
  go_enter Tryd.func71, Tryd.ntmps71
  go_wp2_with fail
  obtain ⟨t1315, HA1316, H⟩ := bind_some H
  refine (store_Store_has.calls l1291 a1296 a1297 g1289 A1292 l1291.length n1294 t1315 _ ⟨HGl0.out.pass HS.out⟩ ⟨HS.out.begin⟩ HA1316).mono ?_
  rintro e_ w1317 ⟨rfl, hS⟩
  replace HS : Aside0 (Sep FF w [b6 g1289 A1292 l1291.length n1294 a1296, r5 A1292 l1291.length n1294 l1291] w1317) := ⟨HS.out.call hS⟩
  clear hS
  by_cases c1318 : t1315 = true
  · have H := if_yes c1318 H
    have c1318b0 : t1315 = true := c1318
    have c1318b1 : (!t1315) = false := by rw [c1318b0]; rfl
    try rw [c1318b1]
    clear c1318
    go_wp2_with fail
    obtain ⟨t1319, HA1320, H⟩ := bind_some H
    refine (atomic_Uint64_Add.calls l1291 a1296 1 g1289 A1292 l1291.length n1294 t1319 _ ⟨HGl0.out.pass HS.out⟩ ⟨HS.out.begin⟩ HA1320).mono ?_
    rintro e_ w1321 ⟨rfl, hS⟩
    replace HS : Aside0 (Sep FF w [b6 g1289 A1292 l1291.length n1294 t1319.2, r5 A1292 l1291.length n1294 l1291] w1321) := ⟨HS.out.call hS⟩
    clear hS
    by_cases c1323 : 0 ≤ a1297
    · have H := if_yes c1323 H
      have c1323b0 : decide (0 ≤ a1297) = true := decide_eq_true c1323
      have c1323p : (0 ≤ a1297) = True := eq_true c1323
      clear c1323
      by_cases c1324 : a1297 < (l1291.length : Int)
      · have H := if_yes c1324 H
        have c1324b0 : decide (a1297 < (l1291.length : Int)) = true := decide_eq_true c1324
        have c1324p : (a1297 < (l1291.length : Int)) = True := eq_true c1324
        clear c1324
        obtain ⟨y1327, HA1328, H⟩ := bind_some H
        have hc1322 : w1321.cell? ⟨g1289, 0, none⟩ = some (.slice A1292 l1291.length n1294) := blk_cellv (HS.out.at0) 0 rfl
        obtain ⟨g1325, ea⟩ := row_at (HS.out.at1) (by have := (of_decide_eq_true c1323b0); have := (of_decide_eq_true c1324b0); omega); cases ea
        have hx1329 := (row_get 0 (HS.out.at1) a1297 (of_decide_eq_true c1323b0) (of_decide_eq_true c1324b0)).1
        have hz1330 := (row_get 0 (HS.out.at1) a1297 (of_decide_eq_true c1323b0) (of_decide_eq_true c1324b0)).2
        go_wp2_with (first | ((with_reducible refine gate_store (t := 33) (p := 21) rfl ?_); refine store_event (w1 := World.setCell w1321 ⟨g1325, (a1297).toNat, none⟩ (.int .u32 a1298)) rfl (t := 33) (p := 21) rfl rfl ?hr ?_; (case hr => first | (go_simp; done) | (go_simp; rfl)); intro w1326 hst; clear hc1322 hx1329 hz1330; have hq := Sep.rowset (l1 := [b6 g1289 (some ⟨g1325, 0, none⟩) l1291.length n1294 t1319.2]) (l2 := []) HS.out a1297 a1298; rw [← hst, some_eq HA1328] at hq; replace HS : Aside0 (Sep FF w [b6 g1289 (some ⟨g1325, 0, none⟩) l1291.length n1294 t1319.2, r5 (some ⟨g1325, 0, none⟩) l1291.length n1294 y1327] w1326) := ⟨hq⟩; clear hst hq))
        go_ret
        rw [← some_eq H]
        exact ⟨(by first | rfl | (simp [IntKind.wrap_u32]; done)), HS.out⟩
      · have H := if_no c1324 H
        have c1324b0 : decide (a1297 < (l1291.length : Int)) = false := decide_eq_false c1324
        clear c1324
        exact (none_no H).elim
    · have H := if_no c1323 H
      have c1323b0 : decide (0 ≤ a1297) = false := decide_eq_false c1323
      clear c1323
      exact (none_no H).elim
  · have H := if_no c1318 H
    have c1318b0 : t1315 = false := by simpa using c1318
    have c1318b1 : (!t1315) = true := by rw [c1318b0]; rfl
    try rw [c1318b1]
    clear c1318
    go_wp2_with fail
    go_ret
    rw [← some_eq H]
    exact ⟨(by first | rfl | (simp [IntKind.wrap_u32]; done)), HS.out⟩

set_option maxHeartbeats 30000000 in
set_option maxRecDepth 100000 in
theorem ground_Ground_SetWord.calls (l1227 : List Int) (a1232 : Int) (a1233 : Int) (a1234 : Int) (a1235 : Int) (a1236 : Int) (a1237 : Int) (a1238 : Int) (a1239 : Int) (g1223 : Nat) (g1225 : Nat) (A1228 : Option Addr) (m1229 : Nat) (n1230 : Nat) (r : Bool × Int × List Int) (w : World)  (HGl0 : Aside0 (Gl 0 #[.int .i64 0, .int .i64 0, .int .i64 0, .int .i64 0, .int .i64 0] (fps [b7 g1223 g1225 a1233 a1234 a1235 a1236, b6 g1225 A1228 m1229 n1230 a1232, r5 A1228 m1229 n1230 l1227]) w)) (HS : Aside0 (Sep (fps [b7 g1223 g1225 a1233 a1234 a1235 a1236, b6 g1225 A1228 m1229 n1230 a1232, r5 A1228 m1229 n1230 l1227]) w [b7 g1223 g1225 a1233 a1234 a1235 a1236, b6 g1225 A1228 m1229 n1230 a1232, r5 A1228 m1229 n1230 l1227] w)) (H : Aside0 (ground_Ground_SetWord.f l1227 a1232 a1233 a1234 a1235 a1236 a1237 a1238 a1239 = some r)) :
    Calls Tryd.prog 17 #[.pointer (some ⟨g1223, 0, none⟩), .int .i64 a1237, .int .i64 a1238, .int .u32 a1239] w fun e w' => e = .returned (.bool r.1) ∧ Sep (fps [b7 g1223 g1225 a1233 a1234 a1235 a1236, b6 g1225 A1228 m1229 n1230 a1232, r5 A1228 m1229 n1230 l1227]) w [b7 g1223 g1225 a1233 a1234 a1235 a1236, b6 g1225 A1228 m1229 n1230 r.2.1, r5 A1228 m1229 n1230 r.2.2] w' := by
  generalize (fps [b7 g1223 g1225 a1233 a1234 a1235 a1236, b6 g1225 A1228 m1229 n1230 a1232, r5 A1228 m1229 n1230 l1227]) = FF at HS HGl0 ⊢
  obtain rfl := (row_len (HS.out.at2)).symm
  unfold ground_Ground_SetWord.f at H
  go_enter Tryd.func17, Tryd.ntmps17
  go_wp2_with fail
  obtain ⟨t1334, HA1335, H⟩ := bind_some H
  refine (ground_Ground_all.calls l1227 a1232 a1233 a1234 a1235 a1236 g1223 g1225 A1228 l1227.length n1230 t1334 _ ⟨HGl0.out.pass HS.out⟩ ⟨HS.out.begin⟩ HA1335).mono ?_
  rintro e_ w1336 ⟨rfl, hS⟩
  replace HS : Aside0 (Sep FF w [b7 g1223 g1225 a1233 a1234 a1235 a1236, b6 g1225 A1228 l1227.length n1230 a1232, r5 A1228 l1227.length n1230 l1227] w1336) := ⟨HS.out.call hS⟩
  clear hS
  go_wp2_with fail
  obtain ⟨t1337, HA1338, H⟩ := bind_some H
  refine (ground_Ground_word.calls l1227 a1232 a1233 a1234 a1235 a1236 a1237 a1238 g1223 g1225 A1228 l1227.length n1230 t1337 _ ⟨HGl0.out.pass HS.out⟩ ⟨HS.out.begin⟩ HA1338).mono ?_
  rintro e_ w1339 ⟨rfl, hS⟩
  replace HS : Aside0 (Sep FF w [b7 g1223 g1225 a1233 a1234 a1235 a1236, b6 g1225 A1228 l1227.length n1230 a1232, r5 A1228 l1227.length n1230 l1227] w1339) := ⟨HS.out.call hS⟩
  clear hS
  go_wp2_with fail
  replace HS : Aside0 (Sep FF w [r5 A1228 l1227.length n1230 l1227, b7 g1223 g1225 a1233 a1234 a1235 a1236, b6 g1225 A1228 l1227.length n1230 a1232] w1339) := ⟨HS.out.front 2 (by simp)⟩
  replace HS : Aside0 (Sep FF w [b6 g1225 A1228 l1227.length n1230 a1232, r5 A1228 l1227.length n1230 l1227, b7 g1223 g1225 a1233 a1234 a1235 a1236] w1339) := ⟨HS.out.front 2 (by simp)⟩
  obtain ⟨t1340, HA1341, H⟩ := bind_some H
  refine (store_Store_Put.calls l1227 a1232 t1337 a1239 g1225 A1228 l1227.length n1230 t1340 _ ⟨HGl0.out.pass HS.out⟩ ⟨HS.out.begin⟩ HA1341).mono ?_
  rintro e_ w1342 ⟨rfl, hS⟩
  replace HS : Aside0 (Sep FF w [b6 g1225 A1228 l1227.length n1230 t1340.2.1, r5 A1228 l1227.length n1230 t1340.2.2, b7 g1223 g1225 a1233 a1234 a1235 a1236] w1342) := ⟨HS.out.call hS⟩
  clear hS
  go_wp2_with fail
  go_ret
  rw [← some_eq H]
  exact ⟨(by first | rfl | (simp [IntKind.wrap_u32]; done)), ((((HS.out).front 1 (by simp)).front 1 (by simp)).front 2 (by simp)).keep (l := [b7 g1223 g1225 a1233 a1234 a1235 a1236, b6 g1225 A1228 l1227.length n1230 t1340.2.1, r5 A1228 l1227.length n1230 t1340.2.2]) (rest := [])⟩

set_option maxHeartbeats 30000000 in
set_option maxRecDepth 100000 in
theorem ground_Ground_set.calls (l1374 : List Int) (a1379 : Int) (a1380 : Int) (a1381 : Int) (a1382 : Int) (a1383 : Int) (a1384 : Int) (a1385 : Int) (g1370 : Nat) (g1372 : Nat) (A1375 : Option Addr) (m1376 : Nat) (n1377 : Nat) (r : Bool × Int × List Int) (w : World)  (HGl0 : Aside0 (Gl 0 #[.int .i64 0, .int .i64 0, .int .i64 0, .int .i64 0, .int .i64 0] (fps [b7 g1370 g1372 a1380 a1381 a1382 a1383, b6 g1372 A1375 m1376 n1377 a1379, r5 A1375 m1376 n1377 l1374]) w)) (HS : Aside0 (Sep (fps [b7 g1370 g1372 a1380 a1381 a1382 a1383, b6 g1372 A1375 m1376 n1377 a1379, r5 A1375 m1376 n1377 l1374]) w [b7 g1370 g1372 a1380 a1381 a1382 a1383, b6 g1372 A1375 m1376 n1377 a1379, r5 A1375 m1376 n1377 l1374] w)) (H : Aside0 (ground_Ground_set.f l1374 a1379 a1380 a1381 a1382 a1383 a1384 a1385 = some r)) :
    Calls Tryd.prog 132 #[.pointer (some ⟨g1370, 0, none⟩), .int .i64 a1384, .int .i64 a1385] w fun e w' => e = .returned (.bool r.1) ∧ Sep (fps [b7 g1370 g1372 a1380 a1381 a1382 a1383, b6 g1372 A1375 m1376 n1377 a1379, r5 A1375 m1376 n1377 l1374]) w [b7 g1370 g1372 a1380 a1381 a1382 a1383, b6 g1372 A1375 m1376 n1377 r.2.1, r5 A1375 m1376 n1377 r.2.2] w' := by
  generalize (fps [b7 g1370 g1372 a1380 a1381 a1382 a1383, b6 g1372 A1375 m1376 n1377 a1379, r5 A1375 m1376 n1377 l1374]) = FF at HS HGl0 ⊢
  obtain rfl := (row_len (HS.out.at2)).symm
  unfold ground_Ground_set.f at H
  go_enter Tryd.func132, Tryd.ntmps132
  by_cases c1394 : a1385 < 0
  · have H := if_yes c1394 H
    have c1394b0 : decide (a1385 < 0) = true := decide_eq_true c1394
    clear c1394
    go_wp2_with fail
    go_ret
    rw [← some_eq H]
    exact ⟨(by first | rfl | (simp [IntKind.wrap_u32]; done)), HS.out⟩
  · have H := if_no c1394 H
    have c1394b0 : decide (a1385 < 0) = false := decide_eq_false c1394
    clear c1394
    by_cases c1395 : a1385 > 4294967295
    · have H := if_yes c1395 H
      have c1395b0 : decide (4294967295 < a1385) = true := decide_eq_true c1395
      clear c1395
      go_wp2_with fail
      go_ret
      rw [← some_eq H]
      exact ⟨(by first | rfl | (simp [IntKind.wrap_u32]; done)), HS.out⟩
    · have H := if_no c1395 H
      have c1395b0 : decide (4294967295 < a1385) = false := decide_eq_false c1395
      clear c1395
      go_wp2_with fail
      obtain ⟨t1396, HA1397, H⟩ := bind_some H
      refine (ground_Ground_all.calls l1374 a1379 a1380 a1381 a1382 a1383 g1370 g1372 A1375 l1374.length n1377 t1396 _ ⟨HGl0.out.pass HS.out⟩ ⟨HS.out.begin⟩ HA1397).mono ?_
      rintro e_ w1398 ⟨rfl, hS⟩
      replace HS : Aside0 (Sep FF w [b7 g1370 g1372 a1380 a1381 a1382 a1383, b6 g1372 A1375 l1374.length n1377 a1379, r5 A1375 l1374.length n1377 l1374] w1398) := ⟨HS.out.call hS⟩
      clear hS
      go_wp2_with fail
      replace HS : Aside0 (Sep FF w [r5 A1375 l1374.length n1377 l1374, b7 g1370 g1372 a1380 a1381 a1382 a1383, b6 g1372 A1375 l1374.length n1377 a1379] w1398) := ⟨HS.out.front 2 (by simp)⟩
      replace HS : Aside0 (Sep FF w [b6 g1372 A1375 l1374.length n1377 a1379, r5 A1375 l1374.length n1377 l1374, b7 g1370 g1372 a1380 a1381 a1382 a1383] w1398) := ⟨HS.out.front 2 (by simp)⟩
      obtain ⟨t1399, HA1400, H⟩ := bind_some H
      refine (store_Store_Put.calls l1374 a1379 a1384 ((a1385) % 4294967296) g1372 A1375 l1374.length n1377 t1399 _ ⟨HGl0.out.pass HS.out⟩ ⟨HS.out.begin⟩ HA1400).mono ?_
      rintro e_ w1401 ⟨rfl, hS⟩
      replace HS : Aside0 (Sep FF w [b6 g1372 A1375 l1374.length n1377 t1399.2.1, r5 A1375 l1374.length n1377 t1399.2.2, b7 g1370 g1372 a1380 a1381 a1382 a1383] w1401) := ⟨HS.out.call hS⟩
      clear hS
      go_wp2_with fail
      go_ret
      rw [← some_eq H]
      exact ⟨(by first | rfl | (simp [IntKind.wrap_u32]; done)), ((((HS.out).front 1 (by simp)).front 1 (by simp)).front 2 (by simp)).keep (l := [b7 g1370 g1372 a1380 a1381 a1382 a1383, b6 g1372 A1375 l1374.length n1377 t1399.2.1, r5 A1375 l1374.length n1377 t1399.2.2]) (rest := [])⟩

set_option maxHeartbeats 30000000 in
set_option maxRecDepth 100000 in
theorem ground_Ground_SetReg.calls (l1354 : List Int) (a1359 : Int) (a1360 : Int) (a1361 : Int) (a1362 : Int) (a1363 : Int) (a1364 : Int) (a1365 : Int) (g1350 : Nat) (g1352 : Nat) (A1355 : Option Addr) (m1356 : Nat) (n1357 : Nat) (r : Bool × Int × List Int) (w : World)  (HGl0 : Aside0 (Gl 0 #[.int .i64 0, .int .i64 0, .int .i64 0, .int .i64 0, .int .i64 0] (fps [b7 g1350 g1352 a1360 a1361 a1362 a1363, b6 g1352 A1355 m1356 n1357 a1359, r5 A1355 m1356 n1357 l1354]) w)) (HS : Aside0 (Sep (fps [b7 g1350 g1352 a1360 a1361 a1362 a1363, b6 g1352 A1355 m1356 n1357 a1359, r5 A1355 m1356 n1357 l1354]) w [b7 g1350 g1352 a1360 a1361 a1362 a1363, b6 g1352 A1355 m1356 n1357 a1359, r5 A1355 m1356 n1357 l1354] w)) (H : Aside0 (ground_Ground_SetReg.f l1354 a1359 a1360 a1361 a1362 a1363 a1364 a1365 = some r)) :
    Calls Tryd.prog 83 #[.pointer (some ⟨g1350, 0, none⟩), .int .i64 a1364, .int .i64 a1365] w fun e w' => e = .returned (.bool r.1) ∧ Sep (fps [b7 g1350 g1352 a1360 a1361 a1362 a1363, b6 g1352 A1355 m1356 n1357 a1359, r5 A1355 m1356 n1357 l1354]) w [b7 g1350 g1352 a1360 a1361 a1362 a1363, b6 g1352 A1355 m1356 n1357 r.2.1, r5 A1355 m1356 n1357 r.2.2] w' := by
  generalize (fps [b7 g1350 g1352 a1360 a1361 a1362 a1363, b6 g1352 A1355 m1356 n1357 a1359, r5 A1355 m1356 n1357 l1354]) = FF at HS HGl0 ⊢
  obtain rfl := (row_len (HS.out.at2)).symm
  unfold ground_Ground_SetReg.f at H
  go_enter Tryd.func83, Tryd.ntmps83
  go_wp2_with fail
  obtain ⟨t1405, HA1406, H⟩ := bind_some H
  refine (ground_reg.calls a1364 t1405 _ ⟨HGl0.out.pass (l := []) HS.out⟩ ⟨Sep.start _⟩ HA1406).mono ?_
  rintro e_ w1407 ⟨rfl, hS⟩
  replace HS : Aside0 (Sep FF w [b7 g1350 g1352 a1360 a1361 a1362 a1363, b6 g1352 A1355 l1354.length n1357 a1359, r5 A1355 l1354.length n1357 l1354] w1407) := ⟨HS.out.call hS⟩
  clear hS
  go_wp2_with fail
  obtain ⟨t1408, HA1409, H⟩ := bind_some H
  refine (ground_Ground_set.calls l1354 a1359 a1360 a1361 a1362 a1363 t1405 a1365 g1350 g1352 A1355 l1354.length n1357 t1408 _ ⟨HGl0.out.pass HS.out⟩ ⟨HS.out.begin⟩ HA1409).mono ?_
  rintro e_ w1410 ⟨rfl, hS⟩
  replace HS : Aside0 (Sep FF w [b7 g1350 g1352 a1360 a1361 a1362 a1363, b6 g1352 A1355 l1354.length n1357 t1408.2.1, r5 A1355 l1354.length n1357 t1408.2.2] w1410) := ⟨HS.out.call hS⟩
  clear hS
  go_wp2_with fail
  go_ret
  rw [← some_eq H]
  exact ⟨(by first | rfl | (simp [IntKind.wrap_u32]; done)), HS.out⟩

set_option maxHeartbeats 30000000 in
set_option maxRecDepth 100000 in
theorem chain_Add_1.calls (a1192 : Int) (a1193 : Int) (a1194 : Int) (a1195 : Int) (a1196 : Int) (l1204 : List Int) (a1209 : Int) (a1210 : Int) (a1211 : Int) (a1212 : Int) (a1213 : Int) (a1216 : Int) (g1198 : Nat) (g1200 : Nat) (g1202 : Nat) (A1205 : Option Addr) (m1206 : Nat) (n1207 : Nat) (g1215 : Nat) (r : Int × List Int) (w : World)  (HGl0 : Aside0 (Gl 0 #[.int .i64 0, .int .i64 0, .int .i64 0, .int .i64 0, .int .i64 0] (fps [b9 g1198 g1200, b7 g1200 g1202 a1210 a1211 a1212 a1213, b6 g1202 A1205 m1206 n1207 a1209, r5 A1205 m1206 n1207 l1204, b10 g1215 a1216]) w)) (HS : Aside0 (Sep (fps [b9 g1198 g1200, b7 g1200 g1202 a1210 a1211 a1212 a1213, b6 g1202 A1205 m1206 n1207 a1209, r5 A1205 m1206 n1207 l1204, b10 g1215 a1216]) w [b9 g1198 g1200, b7 g1200 g1202 a1210 a1211 a1212 a1213, b6 g1202 A1205 m1206 n1207 a1209, r5 A1205 m1206 n1207 l1204, b10 g1215 a1216] w)) (H : Aside0 (chain_Add_1.f a1192 a1193 a1194 a1195 a1196 l1204 a1209 a1210 a1211 a1212 a1213 a1216 = some r)) :
    Calls Tryd.prog 143 #[.agg #[.int .i64 a1192, .int .i64 a1193, .int .i64 a1194], .int .i64 a1195, .int .i64 a1196, .pointer (some ⟨g1198, 0, none⟩), .pointer (some ⟨g1215, 0, none⟩)] w fun e w' => e = .returned (.tuple #[]) ∧ Sep (fps [b9 g1198 g1200, b7 g1200 g1202 a1210 a1211 a1212 a1213, b6 g1202 A1205 m1206 n1207 a1209, r5 A1205 m1206 n1207 l1204, b10 g1215 a1216]) w [b9 g1198 g1200, b7 g1200 g1202 a1210 a1211 a1212 a1213, b6 g1202 A1205 m1206 n1207 r.1, r5 A1205 m1206 n1207 r.2, b10 g1215 a1216] w' := by
  generalize (fps [b9 g1198 g1200, b7 g1200 g1202 a1210 a1211 a1212 a1213, b6 g1202 A1205 m1206 n1207 a1209, r5 A1205 m1206 n1207 l1204, b10 g1215 a1216]) = FF at HS HGl0 ⊢
  obtain rfl := (row_len (HS.out.at3)).symm
  unfold chain_Add_1.f at H
  go_enter Tryd.func143, Tryd.ntmps143
  go_wp2_with (first | ((with_reducible refine gate_dst (N := 5) rfl ?_); refine box_on ?hg (N := 5) ?hd (cs := #[.int .i64 a1192, .int .i64 a1193, .int .i64 a1194]) (t := 166) ?hr ?_; (case hd => rfl); (case hg => rfl); (case hr => first | (go_simp; done) | (go_simp; rfl)); intro g1419 hg w1420 hbox hb; replace HS : Aside0 (Sep FF w [b9 g1198 g1200, b7 g1200 g1202 a1210 a1211 a1212 a1213, b6 g1202 A1205 l1204.length n1207 a1209, r5 A1205 l1204.length n1207 l1204, b10 g1215 a1216, b8 g1419 a1192 a1193 a1194] w1420) := ⟨HS.out.box hg hbox hb⟩; clear hg hbox hb; have hc1422 : w1420.cell? ⟨g1198, 0, none⟩ = some (.pointer (some ⟨g1200, 0, none⟩)) := blk_cellv (HS.out.at0) 0 rfl; have hc1423 : w1420.cell? ⟨g1215, 0, none⟩ = some (.int .i64 a1216) := blk_cellv (HS.out.at4) 0 rfl))
  clear hc1422 hc1423
  replace HS : Aside0 (Sep FF w [r5 A1205 l1204.length n1207 l1204, b9 g1198 g1200, b7 g1200 g1202 a1210 a1211 a1212 a1213, b6 g1202 A1205 l1204.length n1207 a1209, b10 g1215 a1216, b8 g1419 a1192 a1193 a1194] w1420) := ⟨HS.out.front 3 (by simp)⟩
  replace HS : Aside0 (Sep FF w [b6 g1202 A1205 l1204.length n1207 a1209, r5 A1205 l1204.length n1207 l1204, b9 g1198 g1200, b7 g1200 g1202 a1210 a1211 a1212 a1213, b10 g1215 a1216, b8 g1419 a1192 a1193 a1194] w1420) := ⟨HS.out.front 3 (by simp)⟩
  replace HS : Aside0 (Sep FF w [b7 g1200 g1202 a1210 a1211 a1212 a1213, b6 g1202 A1205 l1204.length n1207 a1209, r5 A1205 l1204.length n1207 l1204, b9 g1198 g1200, b10 g1215 a1216, b8 g1419 a1192 a1193 a1194] w1420) := ⟨HS.out.front 3 (by simp)⟩
  obtain ⟨t1424, HA1425, H⟩ := bind_some H
  refine (ground_Ground_SetWord.calls l1204 a1209 a1210 a1211 a1212 a1213 a1216 5 0 g1200 g1202 A1205 l1204.length n1207 t1424 _ ⟨HGl0.out.pass HS.out⟩ ⟨HS.out.begin⟩ HA1425).mono ?_
  rintro e_ w1426 ⟨rfl, hS⟩
  replace HS : Aside0 (Sep FF w [b7 g1200 g1202 a1210 a1211 a1212 a1213, b6 g1202 A1205 l1204.length n1207 t1424.2.1, r5 A1205 l1204.length n1207 t1424.2.2, b9 g1198 g1200, b10 g1215 a1216, b8 g1419 a1192 a1193 a1194] w1426) := ⟨HS.out.call hS⟩
  clear hS
  by_cases c1427 : a1196 = 0
  · have H := if_yes c1427 H
    have c1427b0 : (a1196 == 0) = true := beq_iff_eq.mpr c1427
    have c1427b1 : (a1196 != 0) = false := bne_eq_false_iff_eq.mpr c1427
    clear c1427
    have hc1428 : w1426.cell? ⟨g1198, 0, none⟩ = some (.pointer (some ⟨g1200, 0, none⟩)) := blk_cellv (HS.out.at3) 0 rfl
    have hc1429 : w1426.cell? ⟨g1419, 0, none⟩ = some (.int .i64 a1192) := blk_cellv (HS.out.at5) 0 rfl
    go_wp2_with fail
    clear hc1428 hc1429
    obtain ⟨t1430, HA1431, H⟩ := bind_some H
    refine (ground_Ground_SetReg.calls t1424.2.2 t1424.2.1 a1210 a1211 a1212 a1213 a1192 a1195 g1200 g1202 A1205 l1204.length n1207 t1430 _ ⟨HGl0.out.pass HS.out⟩ ⟨HS.out.begin⟩ HA1431).mono ?_
    rintro e_ w1432 ⟨rfl, hS⟩
    replace HS : Aside0 (Sep FF w [b7 g1200 g1202 a1210 a1211 a1212 a1213, b6 g1202 A1205 l1204.length n1207 t1430.2.1, r5 A1205 l1204.length n1207 t1430.2.2, b9 g1198 g1200, b10 g1215 a1216, b8 g1419 a1192 a1193 a1194] w1432) := ⟨HS.out.call hS⟩
    clear hS
    have hc1433 : w1432.cell? ⟨g1198, 0, none⟩ = some (.pointer (some ⟨g1200, 0, none⟩)) := blk_cellv (HS.out.at3) 0 rfl
    have hc1434 : w1432.cell? ⟨g1419, 1, none⟩ = some (.int .i64 a1193) := blk_cellv (HS.out.at5) 1 rfl
    go_wp2_with fail
    clear hc1433 hc1434
    obtain ⟨t1435, HA1436, H⟩ := bind_some H
    refine (ground_Ground_SetReg.calls t1430.2.2 t1430.2.1 a1210 a1211 a1212 a1213 a1193 a1195 g1200 g1202 A1205 l1204.length n1207 t1435 _ ⟨HGl0.out.pass HS.out⟩ ⟨HS.out.begin⟩ HA1436).mono ?_
    rintro e_ w1437 ⟨rfl, hS⟩
    replace HS : Aside0 (Sep FF w [b7 g1200 g1202 a1210 a1211 a1212 a1213, b6 g1202 A1205 l1204.length n1207 t1435.2.1, r5 A1205 l1204.length n1207 t1435.2.2, b9 g1198 g1200, b10 g1215 a1216, b8 g1419 a1192 a1193 a1194] w1437) := ⟨HS.out.call hS⟩
    clear hS
    replace HS : Aside0 (Sep FF w [b7 g1200 g1202 a1210 a1211 a1212 a1213, b6 g1202 A1205 l1204.length n1207 t1435.2.1, r5 A1205 l1204.length n1207 t1435.2.2, b9 g1198 g1200, b10 g1215 a1216] w1437) := ⟨HS.out.sub (.cons_cons _ (.cons_cons _ (.cons_cons _ (.cons_cons _ (.cons_cons _ (.cons _ .slnil))))))⟩
    go_wp2_with fail
    first | go_end0 | refine bodyPost_ret (results_none rfl _ _ _) rfl ?_
    rw [← some_eq H]
    exact ⟨rfl, ((((((HS.out).front 4 (by simp)).front 3 (by simp)).front 3 (by simp)).front 3 (by simp)).front 4 (by simp)).keep (l := [b9 g1198 g1200, b7 g1200 g1202 a1210 a1211 a1212 a1213, b6 g1202 A1205 l1204.length n1207 t1435.2.1, r5 A1205 l1204.length n1207 t1435.2.2, b10 g1215 a1216]) (rest := [])⟩
  · have H := if_no c1427 H
    have c1427b0 : (a1196 == 0) = false := beq_eq_false_iff_ne.mpr c1427
    have c1427b1 : (a1196 != 0) = true := bne_iff_ne.mpr c1427
    clear c1427
    go_wp2_with fail
    refine start_ (n := 9) (S := (fun w' => w'.cell? ⟨g1198, 0, none⟩ = some (.pointer (some ⟨g1200, 0, none⟩)) ∧ w'.cell? ⟨g1419, 1, none⟩ = some (.int .i64 a1193))) (ds := []) #[false, false, false, false, false, false, false, false, false] (by kernel_rfl) rfl rfl (⟨blk_cellv ((HS.out.drew).at3) 0 rfl, blk_cellv ((HS.out.drew).at5) 1 rfl⟩) (fun hHeld => ?_)
    have HS_ := Aside0.mk HS.out.drew
    clear HS
    generalize World.drew _ = w1439 at HS_ hHeld ⊢
    have HS := HS_
    clear HS_
    refine pure_ (i := 2) (N := some 20) (v := ?_) (a' := ?_) #[false, false, true, false, false, false, false, false, false] rfl rfl (by kernel_rfl) (fun _ _ _ h => h) (Or.inl ⟨by rfl, ?_⟩) ?_ ?_
    rotate_left
    · intro w'
      go_simp
      with_reducible rfl
    rotate_left
    · simp only [Act.put, List.setIfInBounds_toArray, List.set_cons_zero, List.set_cons_succ, i64_w, i32_w]
      rfl
    refine pure_ (i := 6) (N := some 24) (v := ?_) (a' := ?_) #[false, false, true, false, false, false, true, false, false] rfl rfl (by kernel_rfl) (fun _ _ _ h => h) (Or.inl ⟨by rfl, ?_⟩) ?_ ?_
    rotate_left
    · intro w'
      go_simp
      with_reducible rfl
    rotate_left
    · simp only [Act.put, List.setIfInBounds_toArray, List.set_cons_zero, List.set_cons_succ, i64_w, i32_w]
      rfl
    refine pure_ (i := 7) (N := some 25) (v := ?_) (a' := ?_) #[false, false, true, false, false, false, true, true, false] rfl rfl (by kernel_rfl) (fun _ _ _ h => h) (Or.inl ⟨by rfl, ?_⟩) ?_ ?_
    rotate_left
    · intro w'
      go_simp
      with_reducible rfl
    rotate_left
    · simp only [Act.put, List.setIfInBounds_toArray, List.set_cons_zero, List.set_cons_succ, i64_w, i32_w]
      rfl
    refine take_ (i := 0) (N := some 18) (v := ?_) (a' := ?_) #[true, false, true, false, false, false, true, true, false] rfl rfl (by kernel_rfl) (fun _ _ _ h => h) (Or.inl ⟨by rfl, ?_⟩) hHeld ?_ ?_
    rotate_left
    · rintro w' hS'
      obtain ⟨s0, s1⟩ := hS'
      go_simp
      with_reducible rfl
    rotate_left
    · simp only [Act.put, List.setIfInBounds_toArray, List.set_cons_zero, List.set_cons_succ, i64_w, i32_w]
      rfl
    refine take_ (i := 1) (N := some 19) (v := ?_) (a' := ?_) #[true, true, true, false, false, false, true, true, false] rfl rfl (by kernel_rfl) (fun _ _ _ h => h) (Or.inl ⟨by rfl, ?_⟩) hHeld ?_ ?_
    rotate_left
    · rintro w' hS'
      obtain ⟨s0, s1⟩ := hS'
      go_simp
      with_reducible rfl
    rotate_left
    · simp only [Act.put, List.setIfInBounds_toArray, List.set_cons_zero, List.set_cons_succ, i64_w, i32_w]
      rfl
    refine take_ (i := 3) (N := some 21) (v := ?_) (a' := ?_) #[true, true, true, true, false, false, true, true, false] rfl rfl (by kernel_rfl) (fun _ _ _ h => h) (Or.inl ⟨by rfl, ?_⟩) hHeld ?_ ?_
    rotate_left
    · rintro w' hS'
      obtain ⟨s0, s1⟩ := hS'
      go_simp
      with_reducible rfl
    rotate_left
    · simp only [Act.put, List.setIfInBounds_toArray, List.set_cons_zero, List.set_cons_succ, i64_w, i32_w]
      rfl
    refine one_ (i := 4) (N := some 22) #[true, true, true, true, true, false, true, true, false] rfl rfl (by kernel_rfl) (by decide) (fun K hK => ?_)
    obtain ⟨t1440, HA1441, H⟩ := bind_some H
    refine goes_ Tryd.func81 (by kernel_rfl) rfl #[.pointer (some ⟨g1200, 0, none⟩), .int .i64 a1193] (by rfl) rfl rfl (by (try simp only [List.map_toArray, List.map_cons, List.map_nil]); first | done | rfl) ?_
    refine (ground_Ground_Reg.calls t1424.2.2 t1424.2.1 a1210 a1211 a1212 a1213 a1193 g1200 g1202 A1205 l1204.length n1207 t1440 _ ⟨HGl0.out.pass HS.out⟩ ⟨HS.out.begin⟩ HA1441).mono ?_
    rintro e_ w1442 ⟨rfl, hS⟩
    replace HS : Aside0 (Sep FF w [b7 g1200 g1202 a1210 a1211 a1212 a1213, b6 g1202 A1205 l1204.length n1207 t1440.2, r5 A1205 l1204.length n1207 t1424.2.2, b9 g1198 g1200, b10 g1215 a1216, b8 g1419 a1192 a1193 a1194] w1442) := ⟨HS.out.call hS⟩
    clear hS
    refine ⟨_, rfl, ?_⟩
    refine hK.out _ _ (⟨blk_cellv (HS.out.at3) 0 rfl, blk_cellv (HS.out.at5) 1 rfl⟩) (fun hHeld => ?_)
    clear hK K
    refine norm_ (a' := ?_) ?_ ?_
    rotate_left
    · show Act.put _ (some 22) _ = _
      simp only [Act.put, List.setIfInBounds_toArray, List.set_cons_zero, List.set_cons_succ, i64_w, i32_w]
      rfl
    refine pure_ (i := 5) (N := some 23) (v := ?_) (a' := ?_) #[true, true, true, true, true, true, true, true, false] rfl rfl (by kernel_rfl) (fun _ _ _ h => h) (Or.inl ⟨by rfl, ?_⟩) ?_ ?_
    rotate_left
    · intro w'
      go_simp
      with_reducible rfl
    rotate_left
    · simp only [Act.put, List.setIfInBounds_toArray, List.set_cons_zero, List.set_cons_succ, i64_w, i32_w]
      rfl
    refine one_ (i := 8) (N := some 26) #[true, true, true, true, true, true, true, true, true] rfl rfl (by kernel_rfl) (by decide) (fun K hK => ?_)
    obtain ⟨t1443, HA1444, H⟩ := bind_some H
    refine goes_ Tryd.func17 (by kernel_rfl) rfl #[.pointer (some ⟨g1200, 0, none⟩), .int .i64 (wrap64 (t1440.1 - 1)), .int .i64 5, .int .u32 ((a1195) % 4294967296)] (by rfl) rfl rfl (by (try simp only [List.map_toArray, List.map_cons, List.map_nil]); first | done | rfl) ?_
    refine (ground_Ground_SetWord.calls t1424.2.2 t1440.2 a1210 a1211 a1212 a1213 (wrap64 (t1440.1 - 1)) 5 ((a1195) % 4294967296) g1200 g1202 A1205 l1204.length n1207 t1443 _ ⟨HGl0.out.pass HS.out⟩ ⟨HS.out.begin⟩ HA1444).mono ?_
    rintro e_ w1445 ⟨rfl, hS⟩
    replace HS : Aside0 (Sep FF w [b7 g1200 g1202 a1210 a1211 a1212 a1213, b6 g1202 A1205 l1204.length n1207 t1443.2.1, r5 A1205 l1204.length n1207 t1443.2.2, b9 g1198 g1200, b10 g1215 a1216, b8 g1419 a1192 a1193 a1194] w1445) := ⟨HS.out.call hS⟩
    clear hS
    refine ⟨_, rfl, ?_⟩
    refine hK.out _ _ (⟨blk_cellv (HS.out.at3) 0 rfl, blk_cellv (HS.out.at5) 1 rfl⟩) (fun hHeld => ?_)
    clear hK K
    refine norm_ (a' := ?_) ?_ ?_
    rotate_left
    · show Act.put _ (some 26) _ = _
      simp only [Act.put, List.setIfInBounds_toArray, List.set_cons_zero, List.set_cons_succ, i64_w, i32_w]
      rfl
    refine done_ (by kernel_rfl) ?_
    have hc1446 : w1445.cell? ⟨g1198, 0, none⟩ = some (.pointer (some ⟨g1200, 0, none⟩)) := blk_cellv (HS.out.at3) 0 rfl
    have hc1447 : w1445.cell? ⟨g1419, 1, none⟩ = some (.int .i64 a1193) := blk_cellv (HS.out.at5) 1 rfl
    go_wp2_with fail
    clear hc1446 hc1447
    obtain ⟨t1435, HA1448, H⟩ := bind_some H
    refine (ground_Ground_SetReg.calls t1443.2.2 t1443.2.1 a1210 a1211 a1212 a1213 a1193 a1195 g1200 g1202 A1205 l1204.length n1207 t1435 _ ⟨HGl0.out.pass HS.out⟩ ⟨HS.out.begin⟩ HA1448).mono ?_
    rintro e_ w1449 ⟨rfl, hS⟩
    replace HS : Aside0 (Sep FF w [b7 g1200 g1202 a1210 a1211 a1212 a1213, b6 g1202 A1205 l1204.length n1207 t1435.2.1, r5 A1205 l1204.length n1207 t1435.2.2, b9 g1198 g1200, b10 g1215 a1216, b8 g1419 a1192 a1193 a1194] w1449) := ⟨HS.out.call hS⟩
    clear hS
    replace HS : Aside0 (Sep FF w [b7 g1200 g1202 a1210 a1211 a1212 a1213, b6 g1202 A1205 l1204.length n1207 t1435.2.1, r5 A1205 l1204.length n1207 t1435.2.2, b9 g1198 g1200, b10 g1215 a1216] w1449) := ⟨HS.out.sub (.cons_cons _ (.cons_cons _ (.cons_cons _ (.cons_cons _ (.cons_cons _ (.cons _ .slnil))))))⟩
    go_wp2_with fail
    first | go_end0 | refine bodyPost_ret (results_none rfl _ _ _) rfl ?_
    rw [← some_eq H]
    exact ⟨rfl, ((((((HS.out).front 4 (by simp)).front 3 (by simp)).front 3 (by simp)).front 3 (by simp)).front 4 (by simp)).keep (l := [b9 g1198 g1200, b7 g1200 g1202 a1210 a1211 a1212 a1213, b6 g1202 A1205 l1204.length n1207 t1435.2.1, r5 A1205 l1204.length n1207 t1435.2.2, b10 g1215 a1216]) (rest := [])⟩
end Go.Proofs.YtobeonkddamnoaaDoor.C

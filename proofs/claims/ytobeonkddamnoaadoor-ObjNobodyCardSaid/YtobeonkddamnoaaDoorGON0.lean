/- Each function of the group ON does what its plain function says, and changes nothing that was there; proved by walking its code. No condition. -/
import Derived.Test.YtobeonkddamnoaaDoorQw
import Derived.Test.YtobeonkddamnoaaDoorMON
namespace Go.Proofs.YtobeonkddamnoaaDoor.C
open Go.RowKit Go.Proofs.YtobeonkddamnoaaDoorW.PrintWords Go.Proofs.YtobeonkddamnoaaDoorW.PrintLast Go.Proofs.YtobeonkddamnoaaDoor.Q Go.Proofs.YtobeonkddamnoaaDoor.M
set_option linter.unusedVariables false
set_option linter.unusedSimpArgs false
def b1 (g : Nat) (x0 : Int) (x1 : Int) (x2 : Int) (x3 : Int) : Ob := blk g #[.int .i64 x0, .int .i64 x1, .int .i64 x2, .int .i64 x3] 30
def b2 (g : Nat) (x0 : Int) (x1 : Int) : Ob := blk g #[.int .i64 x0, .int .i64 x1] 3
def b3 (g : Nat) (x0 : Int) (x1 : Int) (x2 : Int) : Ob := blk g #[.int .i64 x0, .int .i64 x1, .int .i64 x2] 166
def b4 (g : Nat) (x0 : Int) (x1 : Int) (x2 : Int) (x3 : Int) (x4 : Int) (x5 : Int) (x6 : Int) : Ob := blk g #[.int .i64 x0, .int .i64 x1, .int .i64 x2, .int .i64 x3, .int .i64 x4, .int .i64 x5, .int .i64 x6] 32
def b5 (g : Nat) (x0 : Int) (x1 : Int) (x2 : Int) (x3 : Int) (x4 : Int) : Ob := blk g #[.int .i64 x0, .int .i64 x1, .int .i64 x2, .int .i64 x3, .int .i64 x4] 108
def b6 (g : Nat) (x0 : Int) : Ob := blk g #[.int .u32 x0] 33
def r7 (A : Option Addr) (n c : Nat) (l : List Int) : Ob := row 33 (Value.int .u32) (.slice A n c) l
def b8 (g : Nat) (x0 : Int) (x1 : Int) : Ob := blk g #[.int .u32 x0, .int .u32 x1] 33
def b9 (g : Nat) (x0 : Int) (x1 : Int) (x2 : Int) (x3 : Int) (x4 : Int) (x5 : Int) (x6 : Int) (x7 : Int) : Ob := blk g #[.int .i64 x0, .int .i64 x1, .int .i64 x2, .int .i64 x3, .int .i64 x4, .int .i64 x5, .int .i64 x6, .int .i64 x7] 3
def b10 (g : Nat) (x0 : Int) (x1 : Int) : Ob := blk g #[.int .i64 x0, .int .i64 x1] 142
def b11 (g : Nat) (x0 : Int) : Ob := blk g #[.int .i64 x0] 3
def b12 (g : Nat)  : Ob := blk g #[.slice none 0 0, .slice none 0 0] 71
def r13 (A : Option Addr) (n c : Nat) (l : List Int) : Ob := row 3 (Value.int .i64) (.slice A n c) l
def b14 (g : Nat) (x0 : Option Addr) (x1 : Nat) (x2 : Nat) : Ob := blk g #[.slice x0 x1 x2, .slice none 0 0] 71
def b15 (g : Nat) (x0 : Option Addr) (x1 : Nat) (x2 : Nat) (x3 : Option Addr) (x4 : Nat) (x5 : Nat) : Ob := blk g #[.slice x0 x1 x2, .slice x3 x4 x5] 71
def b16 (g : Nat) (x0 : Option Addr) (x1 : Nat) (x2 : Nat) : Ob := blk g #[.slice none 0 0, .slice x0 x1 x2] 71
def b17 (g : Nat)  : Ob := blk g #[.pointer none] 25
def b18 (g : Nat) (x0 : Int) (x1 : Int) (x2 : Int) (x3 : Int) (x4 : Int) (x5 : Int) (x6 : Int) (x7 : Int) : Ob := blk g #[.int .i64 x0, .int .i64 x1, .int .i64 x2, .int .i64 x3, .int .i64 x4, .int .i64 x5, .int .i64 x6, .int .i64 x7] 97
def b19 (g : Nat) (x0 : Int) (x1 : Int) (x2 : Int) : Ob := blk g #[.int .i64 x0, .int .i64 x1, .int .i64 x2] 3
def b20 (g : Nat) (x0 : Option Addr) (x1 : Nat) (x2 : Nat) (x3 : Int) : Ob := blk g #[.slice x0 x1 x2, .int .u64 x3] 154
def b21 (g : Nat) (x0 : Nat) (x1 : Int) (x2 : Int) (x3 : Int) (x4 : Int) : Ob := blk g #[.pointer (some ⟨x0, 0, none⟩), .int .i64 x1, .int .i64 x2, .int .i64 x3, .int .i64 x4] 106
def b22 (g : Nat) (x0 : Nat) : Ob := blk g #[.pointer (some ⟨x0, 0, none⟩)] 25

set_option maxHeartbeats 30000000 in
set_option maxRecDepth 100000 in
theorem ground_Ground_Conf_nil.calls  (r : Int × Int × Int × Int) (w : World)  (HGl0 : Aside0 (Gl 0 #[.int .i64 0, .int .i64 0, .int .i64 0, .int .i64 0, .int .i64 0] (fps []) w)) (HS : Aside0 (Sep (fps []) w [] w)) (H : Aside0 (ground_Ground_Conf_nil.f = some r)) :
    Calls Tryd.prog 86 #[.pointer none] w fun e w' => e = .returned (.agg #[.int .i64 r.1, .int .i64 r.2.1, .int .i64 r.2.2.1, .int .i64 r.2.2.2]) ∧ Sep (fps []) w [] w' := by
  unfold ground_Ground_Conf_nil.f at H
  go_enter Tryd.func86, Tryd.ntmps86
  go_wp2_with (first | ((with_reducible refine gate_dst (N := 2) rfl ?_); refine box_on ?hg (N := 2) ?hd (cs := #[.int .i64 0, .int .i64 0, .int .i64 0, .int .i64 0]) (t := 30) ?hr ?_; (case hd => rfl); (case hg => rfl); (case hr => first | (go_simp; done) | (go_simp; rfl)); intro g6 hg w7 hbox hb; replace HS : Aside0 (Sep (fps []) w [b1 g6 0 0 0 0] w7) := ⟨HS.out.box hg hbox hb⟩; clear hg hbox hb; have hc9 : w7.cell? ⟨g6, 0, none⟩ = some (.int .i64 0) := blk_cellv (HS.out.at0) 0 rfl; have hz10 : w7.frozen? ⟨g6, 0, none⟩ = false := blk_fz (HS.out.at0) 0; have hc11 : w7.cell? ⟨g6, 1, none⟩ = some (.int .i64 0) := blk_cellv (HS.out.at0) 1 rfl; have hz12 : w7.frozen? ⟨g6, 1, none⟩ = false := blk_fz (HS.out.at0) 1; have hc13 : w7.cell? ⟨g6, 2, none⟩ = some (.int .i64 0) := blk_cellv (HS.out.at0) 2 rfl; have hz14 : w7.frozen? ⟨g6, 2, none⟩ = false := blk_fz (HS.out.at0) 2; have hc15 : w7.cell? ⟨g6, 3, none⟩ = some (.int .i64 0) := blk_cellv (HS.out.at0) 3 rfl; have hz16 : w7.frozen? ⟨g6, 3, none⟩ = false := blk_fz (HS.out.at0) 3) | ((with_reducible refine gate_store (t := 30) (p := 2) rfl ?_); refine store_event (w1 := (World.setCell (World.setCell (World.setCell (World.setCell w7 ⟨g6, 0, none⟩ (.int .i64 0)) ⟨g6, 1, none⟩ (.int .i64 0)) ⟨g6, 2, none⟩ (.int .i64 0)) ⟨g6, 3, none⟩ (.int .i64 0))) rfl (t := 30) (p := 2) rfl rfl ?hr ?_; (case hr => first | (go_simp; done) | (go_simp; rfl)); intro w17 hst; clear hc9 hz10 hc11 hz12 hc13 hz14 hc15 hz16; replace HS : Aside0 (Sep (fps []) w [b1 g6 0 0 0 0] w17) := ⟨by rw [hst]; exact HS.out.setAll (l1 := []) (l2 := []) [.int .i64 0, .int .i64 0, .int .i64 0, .int .i64 0] rfl⟩; clear hst))
  have hc18 : w17.cell? ⟨g6, 0, none⟩ = some (.int .i64 0) := blk_cellv (HS.out.at0) 0 rfl
  have hc19 : w17.cell? ⟨g6, 1, none⟩ = some (.int .i64 0) := blk_cellv (HS.out.at0) 1 rfl
  have hc20 : w17.cell? ⟨g6, 2, none⟩ = some (.int .i64 0) := blk_cellv (HS.out.at0) 2 rfl
  have hc21 : w17.cell? ⟨g6, 3, none⟩ = some (.int .i64 0) := blk_cellv (HS.out.at0) 3 rfl
  refine bodyPost_ret (v := .agg #[.int .i64 0, .int .i64 0, .int .i64 0, .int .i64 0]) (by simp [results, Tryd.results86, go_sem, hc18, hc19, hc20, hc21]) rfl ?_
  rw [← some_eq H]
  exact ⟨(by first | rfl | (simp [IntKind.wrap_u32]; done)), HS.out.sub (.cons _ .slnil)⟩

set_option maxHeartbeats 30000000 in
set_option maxRecDepth 100000 in
theorem shape_isWidth.calls (a37 : Int) (r : Bool) (w : World)  (HGl0 : Aside0 (Gl 0 #[.int .i64 0, .int .i64 0, .int .i64 0, .int .i64 0, .int .i64 0] (fps []) w)) (HS : Aside0 (Sep (fps []) w [] w)) (H : Aside0 (shape_isWidth.f a37 = some r)) :
    Calls Tryd.prog 144 #[.int .i64 a37] w fun e w' => e = .returned (.bool r) ∧ Sep (fps []) w [] w' := by
  unfold shape_isWidth.f at H
  go_enter Tryd.func144, Tryd.ntmps144
  by_cases c38 : a37 ≥ 16
  · have H := if_yes c38 H
    have c38b0 : decide (16 ≤ a37) = true := decide_eq_true c38
    clear c38
    go_wp2_with fail
    go_ret
    rw [← some_eq H]
    exact ⟨(by first | rfl | (simp [IntKind.wrap_u32]; done)), HS.out⟩
  · have H := if_no c38 H
    have c38b0 : decide (16 ≤ a37) = false := decide_eq_false c38
    clear c38
    go_wp2_with fail
    go_ret
    rw [← some_eq H]
    exact ⟨(by first | rfl | (simp [IntKind.wrap_u32]; done)), HS.out⟩

set_option maxHeartbeats 30000000 in
set_option maxRecDepth 100000 in
theorem shape_inHead.calls (a44 : Int) (r : Int) (w : World)  (HGl0 : Aside0 (Gl 0 #[.int .i64 0, .int .i64 0, .int .i64 0, .int .i64 0, .int .i64 0] (fps []) w)) (HS : Aside0 (Sep (fps []) w [] w)) (H : Aside0 (shape_inHead.f a44 = some r)) :
    Calls Tryd.prog 146 #[.int .i64 a44] w fun e w' => e = .returned (.int .i64 r) ∧ Sep (fps []) w [] w' := by
  unfold shape_inHead.f at H
  go_enter Tryd.func146, Tryd.ntmps146
  go_wp2_with fail
  go_ret
  rw [← some_eq H]
  exact ⟨(by first | rfl | (simp [IntKind.wrap_u32]; done)), HS.out⟩

set_option maxHeartbeats 30000000 in
set_option maxRecDepth 100000 in
theorem shape_inLeaf.calls (a48 : Int) (r : Int) (w : World)  (HGl0 : Aside0 (Gl 0 #[.int .i64 0, .int .i64 0, .int .i64 0, .int .i64 0, .int .i64 0] (fps []) w)) (HS : Aside0 (Sep (fps []) w [] w)) (H : Aside0 (shape_inLeaf.f a48 = some r)) :
    Calls Tryd.prog 120 #[.int .i64 a48] w fun e w' => e = .returned (.int .i64 r) ∧ Sep (fps []) w [] w' := by
  unfold shape_inLeaf.f at H
  go_enter Tryd.func120, Tryd.ntmps120
  go_wp2_with fail
  go_ret
  rw [← some_eq H]
  exact ⟨(by first | rfl | (simp [IntKind.wrap_u32]; done)), HS.out⟩

set_option maxHeartbeats 30000000 in
set_option maxRecDepth 100000 in
theorem shape_most.calls (a43 : Int) (r : Int) (w : World)  (HGl0 : Aside0 (Gl 0 #[.int .i64 0, .int .i64 0, .int .i64 0, .int .i64 0, .int .i64 0] (fps []) w)) (HS : Aside0 (Sep (fps []) w [] w)) (H : Aside0 (shape_most.f a43 = some r)) :
    Calls Tryd.prog 145 #[.int .i64 a43] w fun e w' => e = .returned (.int .i64 r) ∧ Sep (fps []) w [] w' := by
  unfold shape_most.f at H
  go_enter Tryd.func145, Tryd.ntmps145
  go_wp2_with fail
  obtain ⟨t45, HA46, H⟩ := bind_some H
  refine (shape_inHead.calls a43 t45 _ ⟨HGl0.out.pass (l := []) HS.out⟩ ⟨Sep.start _⟩ HA46).mono ?_
  rintro e_ w47 ⟨rfl, hS⟩
  replace HS : Aside0 (Sep (fps []) w [] w47) := ⟨HS.out.call hS⟩
  clear hS
  go_wp2_with fail
  obtain ⟨t49, HA50, H⟩ := bind_some H
  refine (shape_inLeaf.calls a43 t49 _ ⟨HGl0.out.pass (l := []) HS.out⟩ ⟨Sep.start _⟩ HA50).mono ?_
  rintro e_ w51 ⟨rfl, hS⟩
  replace HS : Aside0 (Sep (fps []) w [] w51) := ⟨HS.out.call hS⟩
  clear hS
  go_wp2_with fail
  go_ret
  rw [← some_eq H]
  exact ⟨(by first | rfl | (simp [IntKind.wrap_u32]; done)), HS.out⟩

set_option maxHeartbeats 30000000 in
set_option maxRecDepth 100000 in
theorem shape_wrong.calls (k : Nat) (a32 : Int) (l33 : List Int) (A34 : Option Addr) (n35 : Nat) (r : Int) (w : World) (HR36 : Aside0 (Rd (Kd.int .i64) (fps []) w A34 l33.length l33)) (HGl0 : Aside0 (Gl 0 #[.int .i64 0, .int .i64 0, .int .i64 0, .int .i64 0, .int .i64 0] (fps []) w)) (HS : Aside0 (Sep (fps []) w [] w)) (H : Aside0 (shape_wrong.f k a32 l33 = some r)) :
    Calls Tryd.prog 118 #[.int .i64 a32, .slice A34 l33.length n35] w fun e w' => e = .returned (.int .i64 r) ∧ Sep (fps []) w [] w' := by
  unfold shape_wrong.f at H
  go_enter Tryd.func118, Tryd.ntmps118
  go_wp2_with fail
  obtain ⟨t39, HA40, H⟩ := bind_some H
  refine (shape_isWidth.calls a32 t39 _ ⟨HGl0.out.pass (l := []) HS.out⟩ ⟨Sep.start _⟩ HA40).mono ?_
  rintro e_ w41 ⟨rfl, hS⟩
  replace HS : Aside0 (Sep (fps []) w [] w41) := ⟨HS.out.call hS⟩
  clear hS
  by_cases c42 : t39 = true
  · have H := if_yes c42 H
    have c42b0 : t39 = true := c42
    have c42b1 : (!t39) = false := by rw [c42b0]; rfl
    try rw [c42b1]
    clear c42
    go_wp2_with fail
    obtain ⟨t52, HA53, H⟩ := bind_some H
    refine (shape_most.calls a32 t52 _ ⟨HGl0.out.pass (l := []) HS.out⟩ ⟨Sep.start _⟩ HA53).mono ?_
    rintro e_ w54 ⟨rfl, hS⟩
    replace HS : Aside0 (Sep (fps []) w [] w54) := ⟨HS.out.call hS⟩
    clear hS
    go_wp2_with fail
    obtain ⟨o67, AL68, H⟩ := bind_some H
    go_loopg [5, 15] k (fun kq v5 v15 wc => ∃ (x71 : Int) (x72 : Int), v5 = .int .i64 x71 ∧ v15 = .int .i64 x72 ∧ Aside0 (shape_wrong.lo0 kq l33 x71 x72 = some o67) ∧ Aside0 (Sep (fps []) w [] wc))
    case atStart => exact ⟨(t52), (0), (by first | rfl | (simp [IntKind.wrap_u32]; done)), (by first | rfl | (simp [IntKind.wrap_u32]; done)), AL68, ⟨HS.out⟩⟩
    case round =>
      clear AL68 HS
      obtain ⟨x71, x72, rfl, rfl, AL68, HS⟩ := hrel
      obtain ⟨w69, rfl⟩ : ∃ x : World, x = wr := ⟨_, rfl⟩
      cases gk with
      | zero => exact absurd AL68.out (by simp [shape_wrong.lo0])
      | succ k70 =>
        have AL0 := AL68.out
        rw [shape_wrong.lo0] at AL0
        clear AL68
        have AL68 := Aside0.mk AL0
        clear AL0
        by_cases c73 : x72 < (l33.length : Int)
        · have AL68 := if_yes c73 AL68
          have c73b0 : decide (x72 < (l33.length : Int)) = true := decide_eq_true c73
          clear c73
          by_cases c74 : 0 ≤ x72
          · have AL68 := if_yes c74 AL68
            have c74b0 : decide (0 ≤ x72) = true := decide_eq_true c74
            have c74p : (0 ≤ x72) = True := eq_true c74
            clear c74
            have ip75 : (x72 < (l33.length : Int)) = True := eq_true (of_decide_eq_true c73b0)
            by_cases c77 : (rd l33 x72) < 0
            · have AL68 := if_yes c77 AL68
              have c77b0 : decide ((rd l33 x72) < 0) = true := decide_eq_true c77
              clear c77
              obtain ⟨hx76a, hx76e, hx76⟩ := Kd.at_int (Rd.read (fun _ _ _ _ h => h) HR36.out HS.out.fr) x72 (of_decide_eq_true c74b0) (of_decide_eq_true c73b0); cases hx76e
              go_wp2_with fail
              clear hx76
              have ho := some_eq AL68
              subst ho
              have H := lp_ret H
              go_ret
              rw [← some_eq H]
              exact ⟨(by first | rfl | (simp [IntKind.wrap_u32]; done)), HS.out⟩
            · have AL68 := if_no c77 AL68
              have c77b0 : decide ((rd l33 x72) < 0) = false := decide_eq_false c77
              clear c77
              by_cases c78 : (rd l33 x72) > x71
              · have AL68 := if_yes c78 AL68
                have c78b0 : decide (x71 < (rd l33 x72)) = true := decide_eq_true c78
                clear c78
                obtain ⟨hx76a, hx76e, hx76⟩ := Kd.at_int (Rd.read (fun _ _ _ _ h => h) HR36.out HS.out.fr) x72 (of_decide_eq_true c74b0) (of_decide_eq_true c73b0); cases hx76e
                go_wp2_with fail
                clear hx76
                have ho := some_eq AL68
                subst ho
                have H := lp_ret H
                go_ret
                rw [← some_eq H]
                exact ⟨(by first | rfl | (simp [IntKind.wrap_u32]; done)), HS.out⟩
              · have AL68 := if_no c78 AL68
                have c78b0 : decide (x71 < (rd l33 x72)) = false := decide_eq_false c78
                clear c78
                obtain ⟨hx76a, hx76e, hx76⟩ := Kd.at_int (Rd.read (fun _ _ _ _ h => h) HR36.out HS.out.fr) x72 (of_decide_eq_true c74b0) (of_decide_eq_true c73b0); cases hx76e
                go_wp2_with fail
                clear hx76
                go_roundg k70
                case measure => exact Nat.lt_succ_self _
                case rel => exact ⟨(wrap64 (x71 - (rd l33 x72))), (wrap64 (x72 + 1)), (by first | rfl | (simp [IntKind.wrap_u32]; done)), (by first | rfl | (simp [IntKind.wrap_u32]; done)), Aside0.mk AL68.out, ⟨HS.out⟩⟩
          · have AL68 := if_no c74 AL68
            have c74b0 : decide (0 ≤ x72) = false := decide_eq_false c74
            clear c74
            exact (none_no AL68).elim
        · have AL68 := if_no c73 AL68
          have c73b0 : decide (x72 < (l33.length : Int)) = false := decide_eq_false c73
          clear c73
          have ho := some_eq AL68
          subst ho
          clear AL68
          have H := lp_out H
          go_wp2_with fail
          go_ret
          rw [← some_eq H]
          exact ⟨(by first | rfl | (simp [IntKind.wrap_u32]; done)), HS.out⟩
  · have H := if_no c42 H
    have c42b0 : t39 = false := by simpa using c42
    have c42b1 : (!t39) = true := by rw [c42b0]; rfl
    try rw [c42b1]
    clear c42
    go_wp2_with fail
    go_ret
    rw [← some_eq H]
    exact ⟨(by first | rfl | (simp [IntKind.wrap_u32]; done)), HS.out⟩

set_option maxHeartbeats 30000000 in
set_option maxRecDepth 100000 in
theorem ratio_Clamp.calls (a96 : Int) (a97 : Int) (a98 : Int) (r : Int) (w : World)  (HGl0 : Aside0 (Gl 0 #[.int .i64 0, .int .i64 0, .int .i64 0, .int .i64 0, .int .i64 0] (fps []) w)) (HS : Aside0 (Sep (fps []) w [] w)) (H : Aside0 (ratio_Clamp.f a96 a97 a98 = some r)) :
    Calls Tryd.prog 157 #[.int .i64 a96, .int .i64 a97, .int .i64 a98] w fun e w' => e = .returned (.int .i64 r) ∧ Sep (fps []) w [] w' := by
  unfold ratio_Clamp.f at H
  go_enter Tryd.func157, Tryd.ntmps157
  by_cases c99 : a96 > a98
  · have H := if_yes c99 H
    have c99b0 : decide (a98 < a96) = true := decide_eq_true c99
    clear c99
    go_wp2_with fail
    go_ret
    rw [← some_eq H]
    exact ⟨(by first | rfl | (simp [IntKind.wrap_u32]; done)), HS.out⟩
  · have H := if_no c99 H
    have c99b0 : decide (a98 < a96) = false := decide_eq_false c99
    clear c99
    by_cases c100 : a96 < a97
    · have H := if_yes c100 H
      have c100b0 : decide (a96 < a97) = true := decide_eq_true c100
      skip
      go_wp2_with fail
      clear c100
      go_ret
      rw [← some_eq H]
      exact ⟨(by first | rfl | (simp [IntKind.wrap_u32]; done)), HS.out⟩
    · have H := if_no c100 H
      have c100b0 : decide (a96 < a97) = false := decide_eq_false c100
      skip
      go_wp2_with fail
      clear c100
      go_ret
      rw [← some_eq H]
      exact ⟨(by first | rfl | (simp [IntKind.wrap_u32]; done)), HS.out⟩

set_option maxHeartbeats 30000000 in
set_option maxRecDepth 100000 in
theorem ratio_counts.calls (a95 : Int) (r : Int) (w : World)  (HGl0 : Aside0 (Gl 0 #[.int .i64 0, .int .i64 0, .int .i64 0, .int .i64 0, .int .i64 0] (fps []) w)) (HS : Aside0 (Sep (fps []) w [] w)) (H : Aside0 (ratio_counts.f a95 = some r)) :
    Calls Tryd.prog 148 #[.int .i64 a95] w fun e w' => e = .returned (.int .i64 r) ∧ Sep (fps []) w [] w' := by
  unfold ratio_counts.f at H
  go_enter Tryd.func148, Tryd.ntmps148
  go_wp2_with fail
  obtain ⟨t101, HA102, H⟩ := bind_some H
  refine (ratio_Clamp.calls a95 0 1125899906842624 t101 _ ⟨HGl0.out.pass (l := []) HS.out⟩ ⟨Sep.start _⟩ HA102).mono ?_
  rintro e_ w103 ⟨rfl, hS⟩
  replace HS : Aside0 (Sep (fps []) w [] w103) := ⟨HS.out.call hS⟩
  clear hS
  go_wp2_with fail
  go_ret
  rw [← some_eq H]
  exact ⟨(by first | rfl | (simp [IntKind.wrap_u32]; done)), HS.out⟩

set_option maxHeartbeats 30000000 in
set_option maxRecDepth 100000 in
theorem ratio_by.calls (a107 : Int) (r : Int) (w : World)  (HGl0 : Aside0 (Gl 0 #[.int .i64 0, .int .i64 0, .int .i64 0, .int .i64 0, .int .i64 0] (fps []) w)) (HS : Aside0 (Sep (fps []) w [] w)) (H : Aside0 (ratio_by.f a107 = some r)) :
    Calls Tryd.prog 151 #[.int .i64 a107] w fun e w' => e = .returned (.int .i64 r) ∧ Sep (fps []) w [] w' := by
  unfold ratio_by.f at H
  go_enter Tryd.func151, Tryd.ntmps151
  go_wp2_with fail
  obtain ⟨t108, HA109, H⟩ := bind_some H
  refine (ratio_counts.calls a107 t108 _ ⟨HGl0.out.pass (l := []) HS.out⟩ ⟨Sep.start _⟩ HA109).mono ?_
  rintro e_ w110 ⟨rfl, hS⟩
  replace HS : Aside0 (Sep (fps []) w [] w110) := ⟨HS.out.call hS⟩
  clear hS
  by_cases c111 : t108 < 1
  · have H := if_yes c111 H
    have c111b0 : decide (t108 < 1) = true := decide_eq_true c111
    skip
    go_wp2_with fail
    clear c111
    go_ret
    rw [← some_eq H]
    exact ⟨(by first | rfl | (simp [IntKind.wrap_u32]; done)), HS.out⟩
  · have H := if_no c111 H
    have c111b0 : decide (t108 < 1) = false := decide_eq_false c111
    skip
    go_wp2_with fail
    clear c111
    go_ret
    rw [← some_eq H]
    exact ⟨(by first | rfl | (simp [IntKind.wrap_u32]; done)), HS.out⟩

set_option maxHeartbeats 30000000 in
set_option maxRecDepth 100000 in
theorem ratio_Up.calls (a93 : Int) (a94 : Int) (r : Int) (w : World)  (HGl0 : Aside0 (Gl 0 #[.int .i64 0, .int .i64 0, .int .i64 0, .int .i64 0, .int .i64 0] (fps []) w)) (HS : Aside0 (Sep (fps []) w [] w)) (H : Aside0 (ratio_Up.f a93 a94 = some r)) :
    Calls Tryd.prog 124 #[.int .i64 a93, .int .i64 a94] w fun e w' => e = .returned (.int .i64 r) ∧ Sep (fps []) w [] w' := by
  unfold ratio_Up.f at H
  go_enter Tryd.func124, Tryd.ntmps124
  go_wp2_with fail
  obtain ⟨t104, HA105, H⟩ := bind_some H
  refine (ratio_counts.calls a93 t104 _ ⟨HGl0.out.pass (l := []) HS.out⟩ ⟨Sep.start _⟩ HA105).mono ?_
  rintro e_ w106 ⟨rfl, hS⟩
  replace HS : Aside0 (Sep (fps []) w [] w106) := ⟨HS.out.call hS⟩
  clear hS
  go_wp2_with fail
  obtain ⟨t112, HA113, H⟩ := bind_some H
  refine (ratio_by.calls a94 t112 _ ⟨HGl0.out.pass (l := []) HS.out⟩ ⟨Sep.start _⟩ HA113).mono ?_
  rintro e_ w114 ⟨rfl, hS⟩
  replace HS : Aside0 (Sep (fps []) w [] w114) := ⟨HS.out.call hS⟩
  clear hS
  go_wp2_with fail
  obtain ⟨t115, HA116, H⟩ := bind_some H
  refine (ratio_by.calls a94 t115 _ ⟨HGl0.out.pass (l := []) HS.out⟩ ⟨Sep.start _⟩ HA116).mono ?_
  rintro e_ w117 ⟨rfl, hS⟩
  replace HS : Aside0 (Sep (fps []) w [] w117) := ⟨HS.out.call hS⟩
  clear hS
  by_cases c118 : t115 = 0
  · have H := if_yes c118 H
    have c118b0 : (t115 == 0) = true := beq_iff_eq.mpr c118
    have c118b1 : (t115 != 0) = false := bne_eq_false_iff_eq.mpr c118
    exact (none_no H).elim
  · have H := if_no c118 H
    have c118b0 : (t115 == 0) = false := beq_eq_false_iff_ne.mpr c118
    have c118b1 : (t115 != 0) = true := bne_iff_ne.mpr c118
    skip
    go_wp2_with fail
    clear c118
    go_ret
    rw [← some_eq H]
    exact ⟨(by first | rfl | (simp [IntKind.wrap_u32]; done)), HS.out⟩

set_option maxHeartbeats 30000000 in
set_option maxRecDepth 100000 in
theorem shape_leaves.calls (a84 : Int) (a85 : Int) (r : Int) (w : World)  (HGl0 : Aside0 (Gl 0 #[.int .i64 0, .int .i64 0, .int .i64 0, .int .i64 0, .int .i64 0] (fps []) w)) (HS : Aside0 (Sep (fps []) w [] w)) (H : Aside0 (shape_leaves.f a84 a85 = some r)) :
    Calls Tryd.prog 119 #[.int .i64 a84, .int .i64 a85] w fun e w' => e = .returned (.int .i64 r) ∧ Sep (fps []) w [] w' := by
  unfold shape_leaves.f at H
  go_enter Tryd.func119, Tryd.ntmps119
  go_wp2_with fail
  obtain ⟨t86, HA87, H⟩ := bind_some H
  refine (shape_inHead.calls a84 t86 _ ⟨HGl0.out.pass (l := []) HS.out⟩ ⟨Sep.start _⟩ HA87).mono ?_
  rintro e_ w88 ⟨rfl, hS⟩
  replace HS : Aside0 (Sep (fps []) w [] w88) := ⟨HS.out.call hS⟩
  clear hS
  by_cases c89 : a85 ≤ t86
  · have H := if_yes c89 H
    have c89b0 : decide (a85 ≤ t86) = true := decide_eq_true c89
    clear c89
    go_wp2_with fail
    go_ret
    rw [← some_eq H]
    exact ⟨(by first | rfl | (simp [IntKind.wrap_u32]; done)), HS.out⟩
  · have H := if_no c89 H
    have c89b0 : decide (a85 ≤ t86) = false := decide_eq_false c89
    clear c89
    go_wp2_with fail
    obtain ⟨t90, HA91, H⟩ := bind_some H
    refine (shape_inLeaf.calls a84 t90 _ ⟨HGl0.out.pass (l := []) HS.out⟩ ⟨Sep.start _⟩ HA91).mono ?_
    rintro e_ w92 ⟨rfl, hS⟩
    replace HS : Aside0 (Sep (fps []) w [] w92) := ⟨HS.out.call hS⟩
    clear hS
    go_wp2_with fail
    obtain ⟨t119, HA120, H⟩ := bind_some H
    refine (ratio_Up.calls a85 t90 t119 _ ⟨HGl0.out.pass (l := []) HS.out⟩ ⟨Sep.start _⟩ HA120).mono ?_
    rintro e_ w121 ⟨rfl, hS⟩
    replace HS : Aside0 (Sep (fps []) w [] w121) := ⟨HS.out.call hS⟩
    clear hS
    go_wp2_with fail
    go_ret
    rw [← some_eq H]
    exact ⟨(by first | rfl | (simp [IntKind.wrap_u32]; done)), HS.out⟩

set_option maxHeartbeats 30000000 in
set_option maxRecDepth 100000 in
theorem shape_Blocks.calls (k : Nat) (a26 : Int) (a27 : Int) (a28 : Int) (r : Int × Int) (w : World)  (HGl0 : Aside0 (Gl 0 #[.int .i64 0, .int .i64 0, .int .i64 0, .int .i64 0, .int .i64 0] (fps []) w)) (HS : Aside0 (Sep (fps []) w [] w)) (H : Aside0 (shape_Blocks.f k a26 a27 a28 = some r)) :
    Calls Tryd.prog 97 #[.int .i64 a26, .int .i64 a27, .int .i64 a28] w fun e w' => e = .returned (.tuple #[.int .i64 r.1, .int .i64 r.2]) ∧ Sep (fps []) w [] w' := by
  unfold shape_Blocks.f at H
  go_enter Tryd.func97, Tryd.ntmps97
  go_wp2_with (first | ((with_reducible refine gate_dst (N := 12) rfl ?_); refine slice_on (n := 2) ?hg (N := 12) ?hd (cs := #[.int .i64 a27, .int .i64 a28]) (t := 3) ?hr ?_; (case hd => rfl); (case hg => rfl); (case hr => first | (go_simp; done) | (go_simp; rfl)); intro g29 hg w30 hbox hb; replace HS : Aside0 (Sep (fps []) w [b2 g29 a27 a28] w30) := ⟨HS.out.box hg hbox hb⟩; clear hg hbox hb))
  obtain ⟨t80, HA81, H⟩ := bind_some H
  refine (shape_wrong.calls _ a26 [a27, a28] (some ⟨g29, 0, none⟩) 2 t80 _ ⟨Rd.lit (l := []) (xs := [a27, a28]) HS.out 0 rfl (by simp)⟩ ⟨HGl0.out.pass (l := []) HS.out⟩ ⟨Sep.start _⟩ HA81).mono ?_
  rintro e_ w82 ⟨rfl, hS⟩
  replace HS : Aside0 (Sep (fps []) w [b2 g29 a27 a28] w82) := ⟨HS.out.call hS⟩
  clear hS
  by_cases c83 : t80 = 0
  · have H := if_yes c83 H
    have c83b0 : (t80 == 0) = true := beq_iff_eq.mpr c83
    have c83b1 : (t80 != 0) = false := bne_eq_false_iff_eq.mpr c83
    clear c83
    replace HS : Aside0 (Sep (fps []) w [] w82) := ⟨HS.out.sub (.cons _ .slnil)⟩
    go_wp2_with fail
    obtain ⟨t122, HA123, H⟩ := bind_some H
    refine (shape_leaves.calls a26 (wrap64 (a27 + a28)) t122 _ ⟨HGl0.out.pass (l := []) HS.out⟩ ⟨Sep.start _⟩ HA123).mono ?_
    rintro e_ w124 ⟨rfl, hS⟩
    replace HS : Aside0 (Sep (fps []) w [] w124) := ⟨HS.out.call hS⟩
    clear hS
    go_wp2_with fail
    go_ret2
    rw [← some_eq H]
    exact ⟨(by first | rfl | (simp [IntKind.wrap_u32]; done)), HS.out⟩
  · have H := if_no c83 H
    have c83b0 : (t80 == 0) = false := beq_eq_false_iff_ne.mpr c83
    have c83b1 : (t80 != 0) = true := bne_iff_ne.mpr c83
    clear c83
    replace HS : Aside0 (Sep (fps []) w [] w82) := ⟨HS.out.sub (.cons _ .slnil)⟩
    go_wp2_with fail
    go_ret2
    rw [← some_eq H]
    exact ⟨(by first | rfl | (simp [IntKind.wrap_u32]; done)), HS.out⟩

set_option maxHeartbeats 30000000 in
set_option maxRecDepth 100000 in
theorem chain_of_nil.calls (a130 : Int) (r : Int × Int × Int × Bool) (w : World)  (HGl0 : Aside0 (Gl 0 #[.int .i64 0, .int .i64 0, .int .i64 0, .int .i64 0, .int .i64 0] (fps []) w)) (HS : Aside0 (Sep (fps []) w [] w)) (H : Aside0 (chain_of_nil.f a130 = some r)) :
    Calls Tryd.prog 139 #[.pointer none, .int .i64 a130] w fun e w' => e = .returned (.tuple #[.agg #[.int .i64 r.1, .int .i64 r.2.1, .int .i64 r.2.2.1], .bool r.2.2.2]) ∧ Sep (fps []) w [] w' := by
  unfold chain_of_nil.f at H
  go_enter Tryd.func139, Tryd.ntmps139
  go_wp2_with (first | ((with_reducible refine gate_dst (N := 4) rfl ?_); refine box_on ?hg (N := 4) ?hd (cs := #[.int .i64 0, .int .i64 0, .int .i64 0]) (t := 166) ?hr ?_; (case hd => rfl); (case hg => rfl); (case hr => first | (go_simp; done) | (go_simp; rfl)); intro g131 hg w132 hbox hb; replace HS : Aside0 (Sep (fps []) w [b3 g131 0 0 0] w132) := ⟨HS.out.box hg hbox hb⟩; clear hg hbox hb; have hc134 : w132.cell? ⟨g131, 0, none⟩ = some (.int .i64 0) := blk_cellv (HS.out.at0) 0 rfl; have hz135 : w132.frozen? ⟨g131, 0, none⟩ = false := blk_fz (HS.out.at0) 0; have hc136 : w132.cell? ⟨g131, 1, none⟩ = some (.int .i64 0) := blk_cellv (HS.out.at0) 1 rfl; have hz137 : w132.frozen? ⟨g131, 1, none⟩ = false := blk_fz (HS.out.at0) 1; have hc138 : w132.cell? ⟨g131, 2, none⟩ = some (.int .i64 0) := blk_cellv (HS.out.at0) 2 rfl; have hz139 : w132.frozen? ⟨g131, 2, none⟩ = false := blk_fz (HS.out.at0) 2) | ((with_reducible refine gate_store (t := 166) (p := 4) rfl ?_); refine store_event (w1 := (World.setCell (World.setCell (World.setCell w132 ⟨g131, 0, none⟩ (.int .i64 0)) ⟨g131, 1, none⟩ (.int .i64 0)) ⟨g131, 2, none⟩ (.int .i64 0))) rfl (t := 166) (p := 4) rfl rfl ?hr ?_; (case hr => first | (go_simp; done) | (go_simp; rfl)); intro w140 hst; clear hc134 hz135 hc136 hz137 hc138 hz139; replace HS : Aside0 (Sep (fps []) w [b3 g131 0 0 0] w140) := ⟨by rw [hst]; exact HS.out.setAll (l1 := []) (l2 := []) [.int .i64 0, .int .i64 0, .int .i64 0] rfl⟩; clear hst))
  have hc141 : w140.cell? ⟨g131, 0, none⟩ = some (.int .i64 0) := blk_cellv (HS.out.at0) 0 rfl
  have hc142 : w140.cell? ⟨g131, 1, none⟩ = some (.int .i64 0) := blk_cellv (HS.out.at0) 1 rfl
  have hc143 : w140.cell? ⟨g131, 2, none⟩ = some (.int .i64 0) := blk_cellv (HS.out.at0) 2 rfl
  refine bodyPost_ret (v := .tuple #[.agg #[.int .i64 0, .int .i64 0, .int .i64 0], .bool false]) (by simp [results, Tryd.results139, go_sem, hc141, hc142, hc143]) rfl ?_
  rw [← some_eq H]
  exact ⟨(by first | rfl | (simp [IntKind.wrap_u32]; done)), HS.out.sub (.cons _ .slnil)⟩

set_option maxHeartbeats 30000000 in
set_option maxRecDepth 100000 in
theorem ground_Ground_all_nil.calls  (r : Unit) (w : World)  (HGl0 : Aside0 (Gl 0 #[.int .i64 0, .int .i64 0, .int .i64 0, .int .i64 0, .int .i64 0] (fps []) w)) (HS : Aside0 (Sep (fps []) w [] w)) (H : Aside0 (ground_Ground_all_nil.f = some r)) :
    Calls Tryd.prog 70 #[.pointer none] w fun e w' => e = .returned (.pointer none) ∧ Sep (fps []) w [] w' := by
  unfold ground_Ground_all_nil.f at H
  go_enter Tryd.func70, Tryd.ntmps70
  go_wp2_with fail
  go_ret
  clear H
  exact ⟨(by first | rfl | (simp [IntKind.wrap_u32]; done)), HS.out⟩

set_option maxHeartbeats 30000000 in
set_option maxRecDepth 100000 in
theorem ground_within.calls (a164 : Int) (a165 : Int) (a166 : Int) (r : Int) (w : World)  (HGl0 : Aside0 (Gl 0 #[.int .i64 0, .int .i64 0, .int .i64 0, .int .i64 0, .int .i64 0] (fps []) w)) (HS : Aside0 (Sep (fps []) w [] w)) (H : Aside0 (ground_within.f a164 a165 a166 = some r)) :
    Calls Tryd.prog 129 #[.int .i64 a164, .int .i64 a165, .int .i64 a166] w fun e w' => e = .returned (.int .i64 r) ∧ Sep (fps []) w [] w' := by
  unfold ground_within.f at H
  go_enter Tryd.func129, Tryd.ntmps129
  by_cases c167 : a164 < 0
  · have H := if_yes c167 H
    have c167b0 : decide (a164 < 0) = true := decide_eq_true c167
    clear c167
    go_wp2_with fail
    go_ret
    rw [← some_eq H]
    exact ⟨(by first | rfl | (simp [IntKind.wrap_u32]; done)), HS.out⟩
  · have H := if_no c167 H
    have c167b0 : decide (a164 < 0) = false := decide_eq_false c167
    clear c167
    by_cases c168 : a164 ≥ a165
    · have H := if_yes c168 H
      have c168b0 : decide (a165 ≤ a164) = true := decide_eq_true c168
      clear c168
      go_wp2_with fail
      go_ret
      rw [← some_eq H]
      exact ⟨(by first | rfl | (simp [IntKind.wrap_u32]; done)), HS.out⟩
    · have H := if_no c168 H
      have c168b0 : decide (a165 ≤ a164) = false := decide_eq_false c168
      clear c168
      go_wp2_with fail
      go_ret
      rw [← some_eq H]
      exact ⟨(by first | rfl | (simp [IntKind.wrap_u32]; done)), HS.out⟩

set_option maxHeartbeats 30000000 in
set_option maxRecDepth 100000 in
theorem ground_reg.calls (a163 : Int) (r : Int) (w : World)  (HGl0 : Aside0 (Gl 0 #[.int .i64 0, .int .i64 0, .int .i64 0, .int .i64 0, .int .i64 0] (fps []) w)) (HS : Aside0 (Sep (fps []) w [] w)) (H : Aside0 (ground_reg.f a163 = some r)) :
    Calls Tryd.prog 131 #[.int .i64 a163] w fun e w' => e = .returned (.int .i64 r) ∧ Sep (fps []) w [] w' := by
  unfold ground_reg.f at H
  go_enter Tryd.func131, Tryd.ntmps131
  go_wp2_with fail
  obtain ⟨t169, HA170, H⟩ := bind_some H
  refine (ground_within.calls a163 24 0 t169 _ ⟨HGl0.out.pass (l := []) HS.out⟩ ⟨Sep.start _⟩ HA170).mono ?_
  rintro e_ w171 ⟨rfl, hS⟩
  replace HS : Aside0 (Sep (fps []) w [] w171) := ⟨HS.out.call hS⟩
  clear hS
  go_wp2_with fail
  go_ret
  rw [← some_eq H]
  exact ⟨(by first | rfl | (simp [IntKind.wrap_u32]; done)), HS.out⟩

set_option maxHeartbeats 30000000 in
set_option maxRecDepth 100000 in
theorem store_Store_has_nil.calls (a176 : Int) (r : Bool) (w : World)  (HGl0 : Aside0 (Gl 0 #[.int .i64 0, .int .i64 0, .int .i64 0, .int .i64 0, .int .i64 0] (fps []) w)) (HS : Aside0 (Sep (fps []) w [] w)) (H : Aside0 (store_Store_has_nil.f a176 = some r)) :
    Calls Tryd.prog 127 #[.pointer none, .int .i64 a176] w fun e w' => e = .returned (.bool r) ∧ Sep (fps []) w [] w' := by
  unfold store_Store_has_nil.f at H
  go_enter Tryd.func127, Tryd.ntmps127
  go_wp2_with fail
  go_ret
  rw [← some_eq H]
  exact ⟨(by first | rfl | (simp [IntKind.wrap_u32]; done)), HS.out⟩

set_option maxHeartbeats 30000000 in
set_option maxRecDepth 100000 in
theorem store_Store_Get_nil.calls (a175 : Int) (r : Int) (w : World)  (HGl0 : Aside0 (Gl 0 #[.int .i64 0, .int .i64 0, .int .i64 0, .int .i64 0, .int .i64 0] (fps []) w)) (HS : Aside0 (Sep (fps []) w [] w)) (H : Aside0 (store_Store_Get_nil.f a175 = some r)) :
    Calls Tryd.prog 130 #[.pointer none, .int .i64 a175] w fun e w' => e = .returned (.int .u32 r) ∧ Sep (fps []) w [] w' := by
  unfold store_Store_Get_nil.f at H
  go_enter Tryd.func130, Tryd.ntmps130
  go_wp2_with fail
  obtain ⟨t177, HA178, H⟩ := bind_some H
  refine (store_Store_has_nil.calls a175 t177 _ ⟨HGl0.out.pass (l := []) HS.out⟩ ⟨Sep.start _⟩ HA178).mono ?_
  rintro e_ w179 ⟨rfl, hS⟩
  replace HS : Aside0 (Sep (fps []) w [] w179) := ⟨HS.out.call hS⟩
  clear hS
  by_cases c180 : t177 = true
  · have H := if_yes c180 H
    have c180b0 : t177 = true := c180
    have c180b1 : (!t177) = false := by rw [c180b0]; rfl
    try rw [c180b1]
    clear c180
    exact (none_no H).elim
  · have H := if_no c180 H
    have c180b0 : t177 = false := by simpa using c180
    have c180b1 : (!t177) = true := by rw [c180b0]; rfl
    try rw [c180b1]
    clear c180
    go_wp2_with fail
    go_ret
    rw [← some_eq H]
    exact ⟨(by first | rfl | (simp [IntKind.wrap_u32]; done)), HS.out⟩

set_option maxHeartbeats 30000000 in
set_option maxRecDepth 100000 in
theorem ground_Ground_Reg_nil.calls (a159 : Int) (r : Int) (w : World)  (HGl0 : Aside0 (Gl 0 #[.int .i64 0, .int .i64 0, .int .i64 0, .int .i64 0, .int .i64 0] (fps []) w)) (HS : Aside0 (Sep (fps []) w [] w)) (H : Aside0 (ground_Ground_Reg_nil.f a159 = some r)) :
    Calls Tryd.prog 81 #[.pointer none, .int .i64 a159] w fun e w' => e = .returned (.int .i64 r) ∧ Sep (fps []) w [] w' := by
  unfold ground_Ground_Reg_nil.f at H
  go_enter Tryd.func81, Tryd.ntmps81
  go_wp2_with fail
  obtain ⟨t160, HA161, H⟩ := bind_some H
  refine (ground_Ground_all_nil.calls t160 _ ⟨HGl0.out.pass (l := []) HS.out⟩ ⟨Sep.start _⟩ HA161).mono ?_
  rintro e_ w162 ⟨rfl, hS⟩
  replace HS : Aside0 (Sep (fps []) w [] w162) := ⟨HS.out.call hS⟩
  clear hS
  go_wp2_with fail
  obtain ⟨t172, HA173, H⟩ := bind_some H
  refine (ground_reg.calls a159 t172 _ ⟨HGl0.out.pass (l := []) HS.out⟩ ⟨Sep.start _⟩ HA173).mono ?_
  rintro e_ w174 ⟨rfl, hS⟩
  replace HS : Aside0 (Sep (fps []) w [] w174) := ⟨HS.out.call hS⟩
  clear hS
  go_wp2_with fail
  obtain ⟨t181, HA182, H⟩ := bind_some H
  refine (store_Store_Get_nil.calls t172 t181 _ ⟨HGl0.out.pass (l := []) HS.out⟩ ⟨Sep.start _⟩ HA182).mono ?_
  rintro e_ w183 ⟨rfl, hS⟩
  replace HS : Aside0 (Sep (fps []) w [] w183) := ⟨HS.out.call hS⟩
  clear hS
  go_wp2_with fail
  go_ret
  rw [← some_eq H]
  exact ⟨(by first | rfl | (simp [IntKind.wrap_u32]; done)), HS.out⟩

set_option maxHeartbeats 30000000 in
set_option maxRecDepth 100000 in
theorem chain_Len_nil.calls (a129 : Int) (r : Int) (w : World)  (HGl0 : Aside0 (Gl 0 #[.int .i64 0, .int .i64 0, .int .i64 0, .int .i64 0, .int .i64 0] (fps []) w)) (HS : Aside0 (Sep (fps []) w [] w)) (H : Aside0 (chain_Len_nil.f a129 = some r)) :
    Calls Tryd.prog 105 #[.pointer none, .int .i64 a129] w fun e w' => e = .returned (.int .i64 r) ∧ Sep (fps []) w [] w' := by
  unfold chain_Len_nil.f at H
  go_enter Tryd.func105, Tryd.ntmps105
  go_wp2_with fail
  obtain ⟨t144, HA145, H⟩ := bind_some H
  refine (chain_of_nil.calls a129 t144 _ ⟨HGl0.out.pass (l := []) HS.out⟩ ⟨Sep.start _⟩ HA145).mono ?_
  rintro e_ w146 ⟨rfl, hS⟩
  replace HS : Aside0 (Sep (fps []) w [] w146) := ⟨HS.out.call hS⟩
  clear hS
  by_cases c157 : t144.2.2.2 = true
  · have H := if_yes c157 H
    have c157b0 : t144.2.2.2 = true := c157
    have c157b1 : (!t144.2.2.2) = false := by rw [c157b0]; rfl
    try rw [c157b1]
    clear c157
    go_wp2_with (first | ((with_reducible refine gate_dst (N := 5) rfl ?_); refine box_on ?hg (N := 5) ?hd (cs := #[.int .i64 0, .int .i64 0, .int .i64 0]) (t := 166) ?hr ?_; (case hd => rfl); (case hg => rfl); (case hr => first | (go_simp; done) | (go_simp; rfl)); intro g147 hg w148 hbox hb; replace HS : Aside0 (Sep (fps []) w [b3 g147 0 0 0] w148) := ⟨HS.out.box hg hbox hb⟩; clear hg hbox hb; have hc150 : w148.cell? ⟨g147, 0, none⟩ = some (.int .i64 0) := blk_cellv (HS.out.at0) 0 rfl; have hz151 : w148.frozen? ⟨g147, 0, none⟩ = false := blk_fz (HS.out.at0) 0; have hc152 : w148.cell? ⟨g147, 1, none⟩ = some (.int .i64 0) := blk_cellv (HS.out.at0) 1 rfl; have hz153 : w148.frozen? ⟨g147, 1, none⟩ = false := blk_fz (HS.out.at0) 1; have hc154 : w148.cell? ⟨g147, 2, none⟩ = some (.int .i64 0) := blk_cellv (HS.out.at0) 2 rfl; have hz155 : w148.frozen? ⟨g147, 2, none⟩ = false := blk_fz (HS.out.at0) 2) | ((with_reducible refine gate_store (t := 166) (p := 5) rfl ?_); refine store_event (w1 := (World.setCell (World.setCell (World.setCell w148 ⟨g147, 0, none⟩ (.int .i64 t144.1)) ⟨g147, 1, none⟩ (.int .i64 t144.2.1)) ⟨g147, 2, none⟩ (.int .i64 t144.2.2.1))) rfl (t := 166) (p := 5) rfl rfl ?hr ?_; (case hr => first | (go_simp; done) | (go_simp; rfl)); intro w156 hst; clear hc150 hz151 hc152 hz153 hc154 hz155; replace HS : Aside0 (Sep (fps []) w [b3 g147 t144.1 t144.2.1 t144.2.2.1] w156) := ⟨by rw [hst]; exact HS.out.setAll (l1 := []) (l2 := []) [.int .i64 t144.1, .int .i64 t144.2.1, .int .i64 t144.2.2.1] rfl⟩; clear hst; have hc158 : w156.cell? ⟨g147, 2, none⟩ = some (.int .i64 t144.2.2.1) := blk_cellv (HS.out.at0) 2 rfl))
    clear hc158
    obtain ⟨t184, HA185, H⟩ := bind_some H
    refine (ground_Ground_Reg_nil.calls t144.2.2.1 t184 _ ⟨HGl0.out.pass (l := []) HS.out⟩ ⟨Sep.start _⟩ HA185).mono ?_
    rintro e_ w186 ⟨rfl, hS⟩
    replace HS : Aside0 (Sep (fps []) w [b3 g147 t144.1 t144.2.1 t144.2.2.1] w186) := ⟨HS.out.call hS⟩
    clear hS
    replace HS : Aside0 (Sep (fps []) w [] w186) := ⟨HS.out.sub (.cons _ .slnil)⟩
    go_wp2_with fail
    go_ret
    rw [← some_eq H]
    exact ⟨(by first | rfl | (simp [IntKind.wrap_u32]; done)), HS.out⟩
  · have H := if_no c157 H
    have c157b0 : t144.2.2.2 = false := by simpa using c157
    have c157b1 : (!t144.2.2.2) = true := by rw [c157b0]; rfl
    try rw [c157b1]
    clear c157
    go_wp2_with (first | ((with_reducible refine gate_dst (N := 5) rfl ?_); refine box_on ?hg (N := 5) ?hd (cs := #[.int .i64 0, .int .i64 0, .int .i64 0]) (t := 166) ?hr ?_; (case hd => rfl); (case hg => rfl); (case hr => first | (go_simp; done) | (go_simp; rfl)); intro g147 hg w148 hbox hb; replace HS : Aside0 (Sep (fps []) w [b3 g147 0 0 0] w148) := ⟨HS.out.box hg hbox hb⟩; clear hg hbox hb; have hc150 : w148.cell? ⟨g147, 0, none⟩ = some (.int .i64 0) := blk_cellv (HS.out.at0) 0 rfl; have hz151 : w148.frozen? ⟨g147, 0, none⟩ = false := blk_fz (HS.out.at0) 0; have hc152 : w148.cell? ⟨g147, 1, none⟩ = some (.int .i64 0) := blk_cellv (HS.out.at0) 1 rfl; have hz153 : w148.frozen? ⟨g147, 1, none⟩ = false := blk_fz (HS.out.at0) 1; have hc154 : w148.cell? ⟨g147, 2, none⟩ = some (.int .i64 0) := blk_cellv (HS.out.at0) 2 rfl; have hz155 : w148.frozen? ⟨g147, 2, none⟩ = false := blk_fz (HS.out.at0) 2) | ((with_reducible refine gate_store (t := 166) (p := 5) rfl ?_); refine store_event (w1 := (World.setCell (World.setCell (World.setCell w148 ⟨g147, 0, none⟩ (.int .i64 t144.1)) ⟨g147, 1, none⟩ (.int .i64 t144.2.1)) ⟨g147, 2, none⟩ (.int .i64 t144.2.2.1))) rfl (t := 166) (p := 5) rfl rfl ?hr ?_; (case hr => first | (go_simp; done) | (go_simp; rfl)); intro w156 hst; clear hc150 hz151 hc152 hz153 hc154 hz155; replace HS : Aside0 (Sep (fps []) w [b3 g147 t144.1 t144.2.1 t144.2.2.1] w156) := ⟨by rw [hst]; exact HS.out.setAll (l1 := []) (l2 := []) [.int .i64 t144.1, .int .i64 t144.2.1, .int .i64 t144.2.2.1] rfl⟩; clear hst; replace HS : Aside0 (Sep (fps []) w [] w156) := ⟨HS.out.sub (.cons _ .slnil)⟩))
    go_ret
    rw [← some_eq H]
    exact ⟨(by first | rfl | (simp [IntKind.wrap_u32]; done)), HS.out⟩

set_option maxHeartbeats 30000000 in
set_option maxRecDepth 100000 in
theorem pool_Len_nil.calls  (r : Int) (w : World)  (HGl0 : Aside0 (Gl 0 #[.int .i64 0, .int .i64 0, .int .i64 0, .int .i64 0, .int .i64 0] (fps []) w)) (HS : Aside0 (Sep (fps []) w [] w)) (H : Aside0 (pool_Len_nil.f = some r)) :
    Calls Tryd.prog 44 #[.pointer none] w fun e w' => e = .returned (.int .i64 r) ∧ Sep (fps []) w [] w' := by
  unfold pool_Len_nil.f at H
  go_enter Tryd.func44, Tryd.ntmps44
  go_wp2_with fail
  obtain ⟨t187, HA188, H⟩ := bind_some H
  refine (chain_Len_nil.calls 0 t187 _ ⟨HGl0.out.pass (l := []) HS.out⟩ ⟨Sep.start _⟩ HA188).mono ?_
  rintro e_ w189 ⟨rfl, hS⟩
  replace HS : Aside0 (Sep (fps []) w [] w189) := ⟨HS.out.call hS⟩
  clear hS
  go_wp2_with fail
  go_ret
  rw [← some_eq H]
  exact ⟨(by first | rfl | (simp [IntKind.wrap_u32]; done)), HS.out⟩

set_option maxHeartbeats 30000000 in
set_option maxRecDepth 100000 in
theorem ground_Ground_word_nil.calls (a219 : Int) (a220 : Int) (r : Int) (w : World)  (HGl0 : Aside0 (Gl 0 #[.int .i64 0, .int .i64 0, .int .i64 0, .int .i64 0, .int .i64 0] (fps []) w)) (HS : Aside0 (Sep (fps []) w [] w)) (H : Aside0 (ground_Ground_word_nil.f a219 a220 = some r)) :
    Calls Tryd.prog 72 #[.pointer none, .int .i64 a219, .int .i64 a220] w fun e w' => e = .returned (.int .i64 r) ∧ Sep (fps []) w [] w' := by
  unfold ground_Ground_word_nil.f at H
  go_enter Tryd.func72, Tryd.ntmps72
  go_wp2_with fail
  obtain ⟨t221, HA222, H⟩ := bind_some H
  refine (ground_Ground_Conf_nil.calls t221 _ ⟨HGl0.out.pass (l := []) HS.out⟩ ⟨Sep.start _⟩ HA222).mono ?_
  rintro e_ w223 ⟨rfl, hS⟩
  replace HS : Aside0 (Sep (fps []) w [] w223) := ⟨HS.out.call hS⟩
  clear hS
  go_wp2_with (first | ((with_reducible refine gate_dst (N := 7) rfl ?_); refine box_on ?hg (N := 7) ?hd (cs := #[.int .i64 0, .int .i64 0, .int .i64 0, .int .i64 0]) (t := 30) ?hr ?_; (case hd => rfl); (case hg => rfl); (case hr => first | (go_simp; done) | (go_simp; rfl)); intro g224 hg w225 hbox hb; replace HS : Aside0 (Sep (fps []) w [b1 g224 0 0 0 0] w225) := ⟨HS.out.box hg hbox hb⟩; clear hg hbox hb; have hc227 : w225.cell? ⟨g224, 0, none⟩ = some (.int .i64 0) := blk_cellv (HS.out.at0) 0 rfl; have hz228 : w225.frozen? ⟨g224, 0, none⟩ = false := blk_fz (HS.out.at0) 0; have hc229 : w225.cell? ⟨g224, 1, none⟩ = some (.int .i64 0) := blk_cellv (HS.out.at0) 1 rfl; have hz230 : w225.frozen? ⟨g224, 1, none⟩ = false := blk_fz (HS.out.at0) 1; have hc231 : w225.cell? ⟨g224, 2, none⟩ = some (.int .i64 0) := blk_cellv (HS.out.at0) 2 rfl; have hz232 : w225.frozen? ⟨g224, 2, none⟩ = false := blk_fz (HS.out.at0) 2; have hc233 : w225.cell? ⟨g224, 3, none⟩ = some (.int .i64 0) := blk_cellv (HS.out.at0) 3 rfl; have hz234 : w225.frozen? ⟨g224, 3, none⟩ = false := blk_fz (HS.out.at0) 3) | ((with_reducible refine gate_store (t := 30) (p := 7) rfl ?_); refine store_event (w1 := (World.setCell (World.setCell (World.setCell (World.setCell w225 ⟨g224, 0, none⟩ (.int .i64 t221.1)) ⟨g224, 1, none⟩ (.int .i64 t221.2.1)) ⟨g224, 2, none⟩ (.int .i64 t221.2.2.1)) ⟨g224, 3, none⟩ (.int .i64 t221.2.2.2))) rfl (t := 30) (p := 7) rfl rfl ?hr ?_; (case hr => first | (go_simp; done) | (go_simp; rfl)); intro w235 hst; clear hc227 hz228 hc229 hz230 hc231 hz232 hc233 hz234; replace HS : Aside0 (Sep (fps []) w [b1 g224 t221.1 t221.2.1 t221.2.2.1 t221.2.2.2] w235) := ⟨by rw [hst]; exact HS.out.setAll (l1 := []) (l2 := []) [.int .i64 t221.1, .int .i64 t221.2.1, .int .i64 t221.2.2.1, .int .i64 t221.2.2.2] rfl⟩; clear hst; have hc236 : w235.cell? ⟨g224, 0, none⟩ = some (.int .i64 t221.1) := blk_cellv (HS.out.at0) 0 rfl))
  clear hc236
  obtain ⟨t237, HA238, H⟩ := bind_some H
  refine (ground_within.calls a219 t221.1 0 t237 _ ⟨HGl0.out.pass (l := []) HS.out⟩ ⟨Sep.start _⟩ HA238).mono ?_
  rintro e_ w239 ⟨rfl, hS⟩
  replace HS : Aside0 (Sep (fps []) w [b1 g224 t221.1 t221.2.1 t221.2.2.1 t221.2.2.2] w239) := ⟨HS.out.call hS⟩
  clear hS
  by_cases c240 : t237 = (-1)
  · have H := if_yes c240 H
    have c240b0 : (t237 == (-1)) = true := beq_iff_eq.mpr c240
    have c240b1 : (t237 != (-1)) = false := bne_eq_false_iff_eq.mpr c240
    clear c240
    replace HS : Aside0 (Sep (fps []) w [] w239) := ⟨HS.out.sub (.cons _ .slnil)⟩
    go_wp2_with fail
    go_ret
    rw [← some_eq H]
    exact ⟨(by first | rfl | (simp [IntKind.wrap_u32]; done)), HS.out⟩
  · have H := if_no c240 H
    have c240b0 : (t237 == (-1)) = false := beq_eq_false_iff_ne.mpr c240
    have c240b1 : (t237 != (-1)) = true := bne_iff_ne.mpr c240
    clear c240
    have hc241 : w239.cell? ⟨g224, 1, none⟩ = some (.int .i64 t221.2.1) := blk_cellv (HS.out.at0) 1 rfl
    have hc242 : w239.cell? ⟨g224, 2, none⟩ = some (.int .i64 t221.2.2.1) := blk_cellv (HS.out.at0) 2 rfl
    go_wp2_with fail
    clear hc241 hc242
    obtain ⟨t243, HA244, H⟩ := bind_some H
    refine (ground_within.calls a220 t221.2.1 (wrap64 ((wrap64 (24 + t221.2.2.1)) + (wrap64 (a219 * t221.2.1)))) t243 _ ⟨HGl0.out.pass (l := []) HS.out⟩ ⟨Sep.start _⟩ HA244).mono ?_
    rintro e_ w245 ⟨rfl, hS⟩
    replace HS : Aside0 (Sep (fps []) w [b1 g224 t221.1 t221.2.1 t221.2.2.1 t221.2.2.2] w245) := ⟨HS.out.call hS⟩
    clear hS
    replace HS : Aside0 (Sep (fps []) w [] w245) := ⟨HS.out.sub (.cons _ .slnil)⟩
    go_wp2_with fail
    go_ret
    rw [← some_eq H]
    exact ⟨(by first | rfl | (simp [IntKind.wrap_u32]; done)), HS.out⟩

set_option maxHeartbeats 30000000 in
set_option maxRecDepth 100000 in
theorem ground_Ground_Word_nil.calls (a214 : Int) (a215 : Int) (r : Int) (w : World)  (HGl0 : Aside0 (Gl 0 #[.int .i64 0, .int .i64 0, .int .i64 0, .int .i64 0, .int .i64 0] (fps []) w)) (HS : Aside0 (Sep (fps []) w [] w)) (H : Aside0 (ground_Ground_Word_nil.f a214 a215 = some r)) :
    Calls Tryd.prog 84 #[.pointer none, .int .i64 a214, .int .i64 a215] w fun e w' => e = .returned (.int .u32 r) ∧ Sep (fps []) w [] w' := by
  unfold ground_Ground_Word_nil.f at H
  go_enter Tryd.func84, Tryd.ntmps84
  go_wp2_with fail
  obtain ⟨t216, HA217, H⟩ := bind_some H
  refine (ground_Ground_all_nil.calls t216 _ ⟨HGl0.out.pass (l := []) HS.out⟩ ⟨Sep.start _⟩ HA217).mono ?_
  rintro e_ w218 ⟨rfl, hS⟩
  replace HS : Aside0 (Sep (fps []) w [] w218) := ⟨HS.out.call hS⟩
  clear hS
  go_wp2_with fail
  obtain ⟨t246, HA247, H⟩ := bind_some H
  refine (ground_Ground_word_nil.calls a214 a215 t246 _ ⟨HGl0.out.pass (l := []) HS.out⟩ ⟨Sep.start _⟩ HA247).mono ?_
  rintro e_ w248 ⟨rfl, hS⟩
  replace HS : Aside0 (Sep (fps []) w [] w248) := ⟨HS.out.call hS⟩
  clear hS
  go_wp2_with fail
  obtain ⟨t249, HA250, H⟩ := bind_some H
  refine (store_Store_Get_nil.calls t246 t249 _ ⟨HGl0.out.pass (l := []) HS.out⟩ ⟨Sep.start _⟩ HA250).mono ?_
  rintro e_ w251 ⟨rfl, hS⟩
  replace HS : Aside0 (Sep (fps []) w [] w251) := ⟨HS.out.call hS⟩
  clear hS
  go_wp2_with fail
  go_ret
  rw [← some_eq H]
  exact ⟨(by first | rfl | (simp [IntKind.wrap_u32]; done)), HS.out⟩

set_option maxHeartbeats 30000000 in
set_option maxRecDepth 100000 in
theorem store_Store_Put_nil.calls (a264 : Int) (a265 : Int) (r : Bool) (w : World)  (HGl0 : Aside0 (Gl 0 #[.int .i64 0, .int .i64 0, .int .i64 0, .int .i64 0, .int .i64 0] (fps []) w)) (HS : Aside0 (Sep (fps []) w [] w)) (H : Aside0 (store_Store_Put_nil.f a264 a265 = some r)) :
    Calls Tryd.prog 71 #[.pointer none, .int .i64 a264, .int .u32 a265] w fun e w' => e = .returned (.bool r) ∧ Sep (fps []) w [] w' := by
  unfold store_Store_Put_nil.f at H
  go_enter Tryd.func71, Tryd.ntmps71
  go_wp2_with fail
  obtain ⟨t266, HA267, H⟩ := bind_some H
  refine (store_Store_has_nil.calls a264 t266 _ ⟨HGl0.out.pass (l := []) HS.out⟩ ⟨Sep.start _⟩ HA267).mono ?_
  rintro e_ w268 ⟨rfl, hS⟩
  replace HS : Aside0 (Sep (fps []) w [] w268) := ⟨HS.out.call hS⟩
  clear hS
  by_cases c269 : t266 = true
  · have H := if_yes c269 H
    have c269b0 : t266 = true := c269
    have c269b1 : (!t266) = false := by rw [c269b0]; rfl
    try rw [c269b1]
    clear c269
    exact (none_no H).elim
  · have H := if_no c269 H
    have c269b0 : t266 = false := by simpa using c269
    have c269b1 : (!t266) = true := by rw [c269b0]; rfl
    try rw [c269b1]
    clear c269
    go_wp2_with fail
    go_ret
    rw [← some_eq H]
    exact ⟨(by first | rfl | (simp [IntKind.wrap_u32]; done)), HS.out⟩

set_option maxHeartbeats 30000000 in
set_option maxRecDepth 100000 in
theorem ground_Ground_SetWord_nil.calls (a255 : Int) (a256 : Int) (a257 : Int) (r : Bool) (w : World)  (HGl0 : Aside0 (Gl 0 #[.int .i64 0, .int .i64 0, .int .i64 0, .int .i64 0, .int .i64 0] (fps []) w)) (HS : Aside0 (Sep (fps []) w [] w)) (H : Aside0 (ground_Ground_SetWord_nil.f a255 a256 a257 = some r)) :
    Calls Tryd.prog 17 #[.pointer none, .int .i64 a255, .int .i64 a256, .int .u32 a257] w fun e w' => e = .returned (.bool r) ∧ Sep (fps []) w [] w' := by
  unfold ground_Ground_SetWord_nil.f at H
  go_enter Tryd.func17, Tryd.ntmps17
  go_wp2_with fail
  obtain ⟨t258, HA259, H⟩ := bind_some H
  refine (ground_Ground_all_nil.calls t258 _ ⟨HGl0.out.pass (l := []) HS.out⟩ ⟨Sep.start _⟩ HA259).mono ?_
  rintro e_ w260 ⟨rfl, hS⟩
  replace HS : Aside0 (Sep (fps []) w [] w260) := ⟨HS.out.call hS⟩
  clear hS
  go_wp2_with fail
  obtain ⟨t261, HA262, H⟩ := bind_some H
  refine (ground_Ground_word_nil.calls a255 a256 t261 _ ⟨HGl0.out.pass (l := []) HS.out⟩ ⟨Sep.start _⟩ HA262).mono ?_
  rintro e_ w263 ⟨rfl, hS⟩
  replace HS : Aside0 (Sep (fps []) w [] w263) := ⟨HS.out.call hS⟩
  clear hS
  go_wp2_with fail
  obtain ⟨t270, HA271, H⟩ := bind_some H
  refine (store_Store_Put_nil.calls t261 a257 t270 _ ⟨HGl0.out.pass (l := []) HS.out⟩ ⟨Sep.start _⟩ HA271).mono ?_
  rintro e_ w272 ⟨rfl, hS⟩
  replace HS : Aside0 (Sep (fps []) w [] w272) := ⟨HS.out.call hS⟩
  clear hS
  go_wp2_with fail
  go_ret
  rw [← some_eq H]
  exact ⟨(by first | rfl | (simp [IntKind.wrap_u32]; done)), HS.out⟩

set_option maxHeartbeats 30000000 in
set_option maxRecDepth 100000 in
theorem ground_Ground_set_nil.calls (a282 : Int) (a283 : Int) (r : Bool) (w : World)  (HGl0 : Aside0 (Gl 0 #[.int .i64 0, .int .i64 0, .int .i64 0, .int .i64 0, .int .i64 0] (fps []) w)) (HS : Aside0 (Sep (fps []) w [] w)) (H : Aside0 (ground_Ground_set_nil.f a282 a283 = some r)) :
    Calls Tryd.prog 132 #[.pointer none, .int .i64 a282, .int .i64 a283] w fun e w' => e = .returned (.bool r) ∧ Sep (fps []) w [] w' := by
  unfold ground_Ground_set_nil.f at H
  go_enter Tryd.func132, Tryd.ntmps132
  by_cases c284 : a283 < 0
  · have H := if_yes c284 H
    have c284b0 : decide (a283 < 0) = true := decide_eq_true c284
    clear c284
    go_wp2_with fail
    go_ret
    rw [← some_eq H]
    exact ⟨(by first | rfl | (simp [IntKind.wrap_u32]; done)), HS.out⟩
  · have H := if_no c284 H
    have c284b0 : decide (a283 < 0) = false := decide_eq_false c284
    clear c284
    by_cases c285 : a283 > 4294967295
    · have H := if_yes c285 H
      have c285b0 : decide (4294967295 < a283) = true := decide_eq_true c285
      clear c285
      go_wp2_with fail
      go_ret
      rw [← some_eq H]
      exact ⟨(by first | rfl | (simp [IntKind.wrap_u32]; done)), HS.out⟩
    · have H := if_no c285 H
      have c285b0 : decide (4294967295 < a283) = false := decide_eq_false c285
      clear c285
      go_wp2_with fail
      obtain ⟨t286, HA287, H⟩ := bind_some H
      refine (ground_Ground_all_nil.calls t286 _ ⟨HGl0.out.pass (l := []) HS.out⟩ ⟨Sep.start _⟩ HA287).mono ?_
      rintro e_ w288 ⟨rfl, hS⟩
      replace HS : Aside0 (Sep (fps []) w [] w288) := ⟨HS.out.call hS⟩
      clear hS
      go_wp2_with fail
      obtain ⟨t289, HA290, H⟩ := bind_some H
      refine (store_Store_Put_nil.calls a282 ((a283) % 4294967296) t289 _ ⟨HGl0.out.pass (l := []) HS.out⟩ ⟨Sep.start _⟩ HA290).mono ?_
      rintro e_ w291 ⟨rfl, hS⟩
      replace HS : Aside0 (Sep (fps []) w [] w291) := ⟨HS.out.call hS⟩
      clear hS
      go_wp2_with fail
      go_ret
      rw [← some_eq H]
      exact ⟨(by first | rfl | (simp [IntKind.wrap_u32]; done)), HS.out⟩

set_option maxHeartbeats 30000000 in
set_option maxRecDepth 100000 in
theorem ground_Ground_SetReg_nil.calls (a277 : Int) (a278 : Int) (r : Bool) (w : World)  (HGl0 : Aside0 (Gl 0 #[.int .i64 0, .int .i64 0, .int .i64 0, .int .i64 0, .int .i64 0] (fps []) w)) (HS : Aside0 (Sep (fps []) w [] w)) (H : Aside0 (ground_Ground_SetReg_nil.f a277 a278 = some r)) :
    Calls Tryd.prog 83 #[.pointer none, .int .i64 a277, .int .i64 a278] w fun e w' => e = .returned (.bool r) ∧ Sep (fps []) w [] w' := by
  unfold ground_Ground_SetReg_nil.f at H
  go_enter Tryd.func83, Tryd.ntmps83
  go_wp2_with fail
  obtain ⟨t279, HA280, H⟩ := bind_some H
  refine (ground_reg.calls a277 t279 _ ⟨HGl0.out.pass (l := []) HS.out⟩ ⟨Sep.start _⟩ HA280).mono ?_
  rintro e_ w281 ⟨rfl, hS⟩
  replace HS : Aside0 (Sep (fps []) w [] w281) := ⟨HS.out.call hS⟩
  clear hS
  go_wp2_with fail
  obtain ⟨t292, HA293, H⟩ := bind_some H
  refine (ground_Ground_set_nil.calls t279 a278 t292 _ ⟨HGl0.out.pass (l := []) HS.out⟩ ⟨Sep.start _⟩ HA293).mono ?_
  rintro e_ w294 ⟨rfl, hS⟩
  replace HS : Aside0 (Sep (fps []) w [] w294) := ⟨HS.out.call hS⟩
  clear hS
  go_wp2_with fail
  go_ret
  rw [← some_eq H]
  exact ⟨(by first | rfl | (simp [IntKind.wrap_u32]; done)), HS.out⟩

set_option maxHeartbeats 30000000 in
set_option maxRecDepth 100000 in
theorem chain_Take_nil.calls (a194 : Int) (r : Int × Bool) (w : World)  (HGl0 : Aside0 (Gl 0 #[.int .i64 0, .int .i64 0, .int .i64 0, .int .i64 0, .int .i64 0] (fps []) w)) (HS : Aside0 (Sep (fps []) w [] w)) (H : Aside0 (chain_Take_nil.f a194 = some r)) :
    Calls Tryd.prog 135 #[.pointer none, .int .i64 a194] w fun e w' => e = .returned (.tuple #[.int .i64 r.1, .bool r.2]) ∧ Sep (fps []) w [] w' := by
  unfold chain_Take_nil.f at H
  go_enter Tryd.func135, Tryd.ntmps135
  go_wp2_with fail
  obtain ⟨t195, HA196, H⟩ := bind_some H
  refine (chain_of_nil.calls a194 t195 _ ⟨HGl0.out.pass (l := []) HS.out⟩ ⟨Sep.start _⟩ HA196).mono ?_
  rintro e_ w197 ⟨rfl, hS⟩
  replace HS : Aside0 (Sep (fps []) w [] w197) := ⟨HS.out.call hS⟩
  clear hS
  by_cases c208 : t195.2.2.2 = true
  · have H := if_yes c208 H
    have c208b0 : t195.2.2.2 = true := c208
    have c208b1 : (!t195.2.2.2) = false := by rw [c208b0]; rfl
    try rw [c208b1]
    clear c208
    go_wp2_with (first | ((with_reducible refine gate_dst (N := 6) rfl ?_); refine box_on ?hg (N := 6) ?hd (cs := #[.int .i64 0, .int .i64 0, .int .i64 0]) (t := 166) ?hr ?_; (case hd => rfl); (case hg => rfl); (case hr => first | (go_simp; done) | (go_simp; rfl)); intro g198 hg w199 hbox hb; replace HS : Aside0 (Sep (fps []) w [b3 g198 0 0 0] w199) := ⟨HS.out.box hg hbox hb⟩; clear hg hbox hb; have hc201 : w199.cell? ⟨g198, 0, none⟩ = some (.int .i64 0) := blk_cellv (HS.out.at0) 0 rfl; have hz202 : w199.frozen? ⟨g198, 0, none⟩ = false := blk_fz (HS.out.at0) 0; have hc203 : w199.cell? ⟨g198, 1, none⟩ = some (.int .i64 0) := blk_cellv (HS.out.at0) 1 rfl; have hz204 : w199.frozen? ⟨g198, 1, none⟩ = false := blk_fz (HS.out.at0) 1; have hc205 : w199.cell? ⟨g198, 2, none⟩ = some (.int .i64 0) := blk_cellv (HS.out.at0) 2 rfl; have hz206 : w199.frozen? ⟨g198, 2, none⟩ = false := blk_fz (HS.out.at0) 2) | ((with_reducible refine gate_store (t := 166) (p := 6) rfl ?_); refine store_event (w1 := (World.setCell (World.setCell (World.setCell w199 ⟨g198, 0, none⟩ (.int .i64 t195.1)) ⟨g198, 1, none⟩ (.int .i64 t195.2.1)) ⟨g198, 2, none⟩ (.int .i64 t195.2.2.1))) rfl (t := 166) (p := 6) rfl rfl ?hr ?_; (case hr => first | (go_simp; done) | (go_simp; rfl)); intro w207 hst; clear hc201 hz202 hc203 hz204 hc205 hz206; replace HS : Aside0 (Sep (fps []) w [b3 g198 t195.1 t195.2.1 t195.2.2.1] w207) := ⟨by rw [hst]; exact HS.out.setAll (l1 := []) (l2 := []) [.int .i64 t195.1, .int .i64 t195.2.1, .int .i64 t195.2.2.1] rfl⟩; clear hst; have hc209 : w207.cell? ⟨g198, 0, none⟩ = some (.int .i64 t195.1) := blk_cellv (HS.out.at0) 0 rfl))
    clear hc209
    obtain ⟨t210, HA211, H⟩ := bind_some H
    refine (ground_Ground_Reg_nil.calls t195.1 t210 _ ⟨HGl0.out.pass (l := []) HS.out⟩ ⟨Sep.start _⟩ HA211).mono ?_
    rintro e_ w212 ⟨rfl, hS⟩
    replace HS : Aside0 (Sep (fps []) w [b3 g198 t195.1 t195.2.1 t195.2.2.1] w212) := ⟨HS.out.call hS⟩
    clear hS
    by_cases c213 : t210 = 0
    · have H := if_yes c213 H
      have c213b0 : (t210 == 0) = true := beq_iff_eq.mpr c213
      have c213b1 : (t210 != 0) = false := bne_eq_false_iff_eq.mpr c213
      clear c213
      replace HS : Aside0 (Sep (fps []) w [] w212) := ⟨HS.out.sub (.cons _ .slnil)⟩
      go_wp2_with fail
      go_ret2
      rw [← some_eq H]
      exact ⟨(by first | rfl | (simp [IntKind.wrap_u32]; done)), HS.out⟩
    · have H := if_no c213 H
      have c213b0 : (t210 == 0) = false := beq_eq_false_iff_ne.mpr c213
      have c213b1 : (t210 != 0) = true := bne_iff_ne.mpr c213
      clear c213
      go_wp2_with fail
      obtain ⟨t252, HA253, H⟩ := bind_some H
      refine (ground_Ground_Word_nil.calls (wrap64 (t210 - 1)) 5 t252 _ ⟨HGl0.out.pass (l := []) HS.out⟩ ⟨Sep.start _⟩ HA253).mono ?_
      rintro e_ w254 ⟨rfl, hS⟩
      replace HS : Aside0 (Sep (fps []) w [b3 g198 t195.1 t195.2.1 t195.2.2.1] w254) := ⟨HS.out.call hS⟩
      clear hS
      go_wp2_with fail
      obtain ⟨t273, HA274, H⟩ := bind_some H
      refine (ground_Ground_SetWord_nil.calls (wrap64 (t210 - 1)) 5 0 t273 _ ⟨HGl0.out.pass (l := []) HS.out⟩ ⟨Sep.start _⟩ HA274).mono ?_
      rintro e_ w275 ⟨rfl, hS⟩
      replace HS : Aside0 (Sep (fps []) w [b3 g198 t195.1 t195.2.1 t195.2.2.1] w275) := ⟨HS.out.call hS⟩
      clear hS
      have hc276 : w275.cell? ⟨g198, 0, none⟩ = some (.int .i64 t195.1) := blk_cellv (HS.out.at0) 0 rfl
      go_wp2_with fail
      clear hc276
      obtain ⟨t295, HA296, H⟩ := bind_some H
      refine (ground_Ground_SetReg_nil.calls t195.1 (wrap64 (t252)) t295 _ ⟨HGl0.out.pass (l := []) HS.out⟩ ⟨Sep.start _⟩ HA296).mono ?_
      rintro e_ w297 ⟨rfl, hS⟩
      replace HS : Aside0 (Sep (fps []) w [b3 g198 t195.1 t195.2.1 t195.2.2.1] w297) := ⟨HS.out.call hS⟩
      clear hS
      by_cases c298 : (wrap64 (t252)) = 0
      · have H := if_yes c298 H
        have c298b0 : ((wrap64 (t252)) == 0) = true := beq_iff_eq.mpr c298
        have c298b1 : ((wrap64 (t252)) != 0) = false := bne_eq_false_iff_eq.mpr c298
        clear c298
        have hc299 : w297.cell? ⟨g198, 1, none⟩ = some (.int .i64 t195.2.1) := blk_cellv (HS.out.at0) 1 rfl
        go_wp2_with fail
        clear hc299
        obtain ⟨t300, HA301, H⟩ := bind_some H
        refine (ground_Ground_SetReg_nil.calls t195.2.1 0 t300 _ ⟨HGl0.out.pass (l := []) HS.out⟩ ⟨Sep.start _⟩ HA301).mono ?_
        rintro e_ w302 ⟨rfl, hS⟩
        replace HS : Aside0 (Sep (fps []) w [b3 g198 t195.1 t195.2.1 t195.2.2.1] w302) := ⟨HS.out.call hS⟩
        clear hS
        go_wp2_with fail
        refine start_ (n := 9) (S := (fun w' => w'.cell? ⟨g198, 2, none⟩ = some (.int .i64 t195.2.2.1))) (ds := []) #[false, false, false, false, false, false, false, false, false] (by kernel_rfl) rfl rfl (blk_cellv ((HS.out.drew).at0) 2 rfl) (fun hHeld => ?_)
        have HS_ := Aside0.mk HS.out.drew
        clear HS
        generalize World.drew _ = w304 at HS_ hHeld ⊢
        have HS := HS_
        clear HS_
        refine pure_ (i := 0) (N := some 44) (v := ?_) (a' := ?_) #[true, false, false, false, false, false, false, false, false] rfl rfl (by kernel_rfl) (fun _ _ _ h => h) (Or.inl ⟨by rfl, ?_⟩) ?_ ?_
        rotate_left
        · intro w'
          go_simp
          with_reducible rfl
        rotate_left
        · simp only [Act.put, List.setIfInBounds_toArray, List.set_cons_zero, List.set_cons_succ, i64_w, i32_w]
          rfl
        refine pure_ (i := 1) (N := some 45) (v := ?_) (a' := ?_) #[true, true, false, false, false, false, false, false, false] rfl rfl (by kernel_rfl) (fun _ _ _ h => h) (Or.inl ⟨by rfl, ?_⟩) ?_ ?_
        rotate_left
        · intro w'
          go_simp
          with_reducible rfl
        rotate_left
        · simp only [Act.put, List.setIfInBounds_toArray, List.set_cons_zero, List.set_cons_succ, i64_w, i32_w]
          rfl
        refine pure_ (i := 3) (N := some 47) (v := ?_) (a' := ?_) #[true, true, false, true, false, false, false, false, false] rfl rfl (by kernel_rfl) (fun _ _ _ h => h) (Or.inl ⟨by rfl, ?_⟩) ?_ ?_
        rotate_left
        · intro w'
          go_simp
          with_reducible rfl
        rotate_left
        · simp only [Act.put, List.setIfInBounds_toArray, List.set_cons_zero, List.set_cons_succ, i64_w, i32_w]
          rfl
        refine pure_ (i := 4) (N := some 48) (v := ?_) (a' := ?_) #[true, true, false, true, true, false, false, false, false] rfl rfl (by kernel_rfl) (fun _ _ _ h => h) (Or.inl ⟨by rfl, ?_⟩) ?_ ?_
        rotate_left
        · intro w'
          go_simp
          with_reducible rfl
        rotate_left
        · simp only [Act.put, List.setIfInBounds_toArray, List.set_cons_zero, List.set_cons_succ, i64_w, i32_w]
          rfl
        refine take_ (i := 2) (N := some 46) (v := ?_) (a' := ?_) #[true, true, true, true, true, false, false, false, false] rfl rfl (by kernel_rfl) (fun _ _ _ h => h) (Or.inl ⟨by rfl, ?_⟩) hHeld ?_ ?_
        rotate_left
        · rintro w' hS'
          have s0 := hS'
          go_simp
          with_reducible rfl
        rotate_left
        · simp only [Act.put, List.setIfInBounds_toArray, List.set_cons_zero, List.set_cons_succ, i64_w, i32_w]
          rfl
        refine take_ (i := 5) (N := some 49) (v := ?_) (a' := ?_) #[true, true, true, true, true, true, false, false, false] rfl rfl (by kernel_rfl) (fun _ _ _ h => h) (Or.inl ⟨by rfl, ?_⟩) hHeld ?_ ?_
        rotate_left
        · rintro w' hS'
          have s0 := hS'
          go_simp
          with_reducible rfl
        rotate_left
        · simp only [Act.put, List.setIfInBounds_toArray, List.set_cons_zero, List.set_cons_succ, i64_w, i32_w]
          rfl
        refine one_ (i := 6) (N := some 50) #[true, true, true, true, true, true, true, false, false] rfl rfl (by kernel_rfl) (by decide) (fun K hK => ?_)
        obtain ⟨t305, HA306, H⟩ := bind_some H
        refine goes_ Tryd.func81 (by kernel_rfl) rfl #[.pointer none, .int .i64 t195.2.2.1] (by rfl) rfl rfl (by (try simp only [List.map_toArray, List.map_cons, List.map_nil]); first | done | rfl) ?_
        refine (ground_Ground_Reg_nil.calls t195.2.2.1 t305 _ ⟨HGl0.out.pass (l := []) HS.out⟩ ⟨Sep.start _⟩ HA306).mono ?_
        rintro e_ w307 ⟨rfl, hS⟩
        replace HS : Aside0 (Sep (fps []) w [b3 g198 t195.1 t195.2.1 t195.2.2.1] w307) := ⟨HS.out.call hS⟩
        clear hS
        refine ⟨_, rfl, ?_⟩
        refine hK.out _ _ (blk_cellv (HS.out.at0) 2 rfl) (fun hHeld => ?_)
        clear hK K
        refine norm_ (a' := ?_) ?_ ?_
        rotate_left
        · show Act.put _ (some 50) _ = _
          simp only [Act.put, List.setIfInBounds_toArray, List.set_cons_zero, List.set_cons_succ, i64_w, i32_w]
          rfl
        refine pure_ (i := 7) (N := some 51) (v := ?_) (a' := ?_) #[true, true, true, true, true, true, true, true, false] rfl rfl (by kernel_rfl) (fun _ _ _ h => h) (Or.inl ⟨by rfl, ?_⟩) ?_ ?_
        rotate_left
        · intro w'
          go_simp
          with_reducible rfl
        rotate_left
        · simp only [Act.put, List.setIfInBounds_toArray, List.set_cons_zero, List.set_cons_succ, i64_w, i32_w]
          rfl
        refine one_ (i := 8) (N := some 52) #[true, true, true, true, true, true, true, true, true] rfl rfl (by kernel_rfl) (by decide) (fun K hK => ?_)
        obtain ⟨t308, HA309, H⟩ := bind_some H
        refine goes_ Tryd.func83 (by kernel_rfl) rfl #[.pointer none, .int .i64 t195.2.2.1, .int .i64 (wrap64 (t305 - 1))] (by rfl) rfl rfl (by (try simp only [List.map_toArray, List.map_cons, List.map_nil]); first | done | rfl) ?_
        refine (ground_Ground_SetReg_nil.calls t195.2.2.1 (wrap64 (t305 - 1)) t308 _ ⟨HGl0.out.pass (l := []) HS.out⟩ ⟨Sep.start _⟩ HA309).mono ?_
        rintro e_ w310 ⟨rfl, hS⟩
        replace HS : Aside0 (Sep (fps []) w [b3 g198 t195.1 t195.2.1 t195.2.2.1] w310) := ⟨HS.out.call hS⟩
        clear hS
        refine ⟨_, rfl, ?_⟩
        refine hK.out _ _ (blk_cellv (HS.out.at0) 2 rfl) (fun hHeld => ?_)
        clear hK K
        refine norm_ (a' := ?_) ?_ ?_
        rotate_left
        · show Act.put _ (some 52) _ = _
          simp only [Act.put, List.setIfInBounds_toArray, List.set_cons_zero, List.set_cons_succ, i64_w, i32_w]
          rfl
        refine done_ (by kernel_rfl) ?_
        replace HS : Aside0 (Sep (fps []) w [] w310) := ⟨HS.out.sub (.cons _ .slnil)⟩
        go_wp2_with fail
        go_ret2
        rw [← some_eq H]
        exact ⟨(by first | rfl | (simp [IntKind.wrap_u32]; done)), HS.out⟩
      · have H := if_no c298 H
        have c298b0 : ((wrap64 (t252)) == 0) = false := beq_eq_false_iff_ne.mpr c298
        have c298b1 : ((wrap64 (t252)) != 0) = true := bne_iff_ne.mpr c298
        clear c298
        go_wp2_with fail
        refine start_ (n := 9) (S := (fun w' => w'.cell? ⟨g198, 2, none⟩ = some (.int .i64 t195.2.2.1))) (ds := []) #[false, false, false, false, false, false, false, false, false] (by kernel_rfl) rfl rfl (blk_cellv ((HS.out.drew).at0) 2 rfl) (fun hHeld => ?_)
        have HS_ := Aside0.mk HS.out.drew
        clear HS
        generalize World.drew _ = w312 at HS_ hHeld ⊢
        have HS := HS_
        clear HS_
        refine pure_ (i := 0) (N := some 44) (v := ?_) (a' := ?_) #[true, false, false, false, false, false, false, false, false] rfl rfl (by kernel_rfl) (fun _ _ _ h => h) (Or.inl ⟨by rfl, ?_⟩) ?_ ?_
        rotate_left
        · intro w'
          go_simp
          with_reducible rfl
        rotate_left
        · simp only [Act.put, List.setIfInBounds_toArray, List.set_cons_zero, List.set_cons_succ, i64_w, i32_w]
          rfl
        refine pure_ (i := 1) (N := some 45) (v := ?_) (a' := ?_) #[true, true, false, false, false, false, false, false, false] rfl rfl (by kernel_rfl) (fun _ _ _ h => h) (Or.inl ⟨by rfl, ?_⟩) ?_ ?_
        rotate_left
        · intro w'
          go_simp
          with_reducible rfl
        rotate_left
        · simp only [Act.put, List.setIfInBounds_toArray, List.set_cons_zero, List.set_cons_succ, i64_w, i32_w]
          rfl
        refine pure_ (i := 3) (N := some 47) (v := ?_) (a' := ?_) #[true, true, false, true, false, false, false, false, false] rfl rfl (by kernel_rfl) (fun _ _ _ h => h) (Or.inl ⟨by rfl, ?_⟩) ?_ ?_
        rotate_left
        · intro w'
          go_simp
          with_reducible rfl
        rotate_left
        · simp only [Act.put, List.setIfInBounds_toArray, List.set_cons_zero, List.set_cons_succ, i64_w, i32_w]
          rfl
        refine pure_ (i := 4) (N := some 48) (v := ?_) (a' := ?_) #[true, true, false, true, true, false, false, false, false] rfl rfl (by kernel_rfl) (fun _ _ _ h => h) (Or.inl ⟨by rfl, ?_⟩) ?_ ?_
        rotate_left
        · intro w'
          go_simp
          with_reducible rfl
        rotate_left
        · simp only [Act.put, List.setIfInBounds_toArray, List.set_cons_zero, List.set_cons_succ, i64_w, i32_w]
          rfl
        refine take_ (i := 2) (N := some 46) (v := ?_) (a' := ?_) #[true, true, true, true, true, false, false, false, false] rfl rfl (by kernel_rfl) (fun _ _ _ h => h) (Or.inl ⟨by rfl, ?_⟩) hHeld ?_ ?_
        rotate_left
        · rintro w' hS'
          have s0 := hS'
          go_simp
          with_reducible rfl
        rotate_left
        · simp only [Act.put, List.setIfInBounds_toArray, List.set_cons_zero, List.set_cons_succ, i64_w, i32_w]
          rfl
        refine take_ (i := 5) (N := some 49) (v := ?_) (a' := ?_) #[true, true, true, true, true, true, false, false, false] rfl rfl (by kernel_rfl) (fun _ _ _ h => h) (Or.inl ⟨by rfl, ?_⟩) hHeld ?_ ?_
        rotate_left
        · rintro w' hS'
          have s0 := hS'
          go_simp
          with_reducible rfl
        rotate_left
        · simp only [Act.put, List.setIfInBounds_toArray, List.set_cons_zero, List.set_cons_succ, i64_w, i32_w]
          rfl
        refine one_ (i := 6) (N := some 50) #[true, true, true, true, true, true, true, false, false] rfl rfl (by kernel_rfl) (by decide) (fun K hK => ?_)
        obtain ⟨t305, HA313, H⟩ := bind_some H
        refine goes_ Tryd.func81 (by kernel_rfl) rfl #[.pointer none, .int .i64 t195.2.2.1] (by rfl) rfl rfl (by (try simp only [List.map_toArray, List.map_cons, List.map_nil]); first | done | rfl) ?_
        refine (ground_Ground_Reg_nil.calls t195.2.2.1 t305 _ ⟨HGl0.out.pass (l := []) HS.out⟩ ⟨Sep.start _⟩ HA313).mono ?_
        rintro e_ w314 ⟨rfl, hS⟩
        replace HS : Aside0 (Sep (fps []) w [b3 g198 t195.1 t195.2.1 t195.2.2.1] w314) := ⟨HS.out.call hS⟩
        clear hS
        refine ⟨_, rfl, ?_⟩
        refine hK.out _ _ (blk_cellv (HS.out.at0) 2 rfl) (fun hHeld => ?_)
        clear hK K
        refine norm_ (a' := ?_) ?_ ?_
        rotate_left
        · show Act.put _ (some 50) _ = _
          simp only [Act.put, List.setIfInBounds_toArray, List.set_cons_zero, List.set_cons_succ, i64_w, i32_w]
          rfl
        refine pure_ (i := 7) (N := some 51) (v := ?_) (a' := ?_) #[true, true, true, true, true, true, true, true, false] rfl rfl (by kernel_rfl) (fun _ _ _ h => h) (Or.inl ⟨by rfl, ?_⟩) ?_ ?_
        rotate_left
        · intro w'
          go_simp
          with_reducible rfl
        rotate_left
        · simp only [Act.put, List.setIfInBounds_toArray, List.set_cons_zero, List.set_cons_succ, i64_w, i32_w]
          rfl
        refine one_ (i := 8) (N := some 52) #[true, true, true, true, true, true, true, true, true] rfl rfl (by kernel_rfl) (by decide) (fun K hK => ?_)
        obtain ⟨t308, HA315, H⟩ := bind_some H
        refine goes_ Tryd.func83 (by kernel_rfl) rfl #[.pointer none, .int .i64 t195.2.2.1, .int .i64 (wrap64 (t305 - 1))] (by rfl) rfl rfl (by (try simp only [List.map_toArray, List.map_cons, List.map_nil]); first | done | rfl) ?_
        refine (ground_Ground_SetReg_nil.calls t195.2.2.1 (wrap64 (t305 - 1)) t308 _ ⟨HGl0.out.pass (l := []) HS.out⟩ ⟨Sep.start _⟩ HA315).mono ?_
        rintro e_ w316 ⟨rfl, hS⟩
        replace HS : Aside0 (Sep (fps []) w [b3 g198 t195.1 t195.2.1 t195.2.2.1] w316) := ⟨HS.out.call hS⟩
        clear hS
        refine ⟨_, rfl, ?_⟩
        refine hK.out _ _ (blk_cellv (HS.out.at0) 2 rfl) (fun hHeld => ?_)
        clear hK K
        refine norm_ (a' := ?_) ?_ ?_
        rotate_left
        · show Act.put _ (some 52) _ = _
          simp only [Act.put, List.setIfInBounds_toArray, List.set_cons_zero, List.set_cons_succ, i64_w, i32_w]
          rfl
        refine done_ (by kernel_rfl) ?_
        replace HS : Aside0 (Sep (fps []) w [] w316) := ⟨HS.out.sub (.cons _ .slnil)⟩
        go_wp2_with fail
        go_ret2
        rw [← some_eq H]
        exact ⟨(by first | rfl | (simp [IntKind.wrap_u32]; done)), HS.out⟩
  · have H := if_no c208 H
    have c208b0 : t195.2.2.2 = false := by simpa using c208
    have c208b1 : (!t195.2.2.2) = true := by rw [c208b0]; rfl
    try rw [c208b1]
    clear c208
    go_wp2_with (first | ((with_reducible refine gate_dst (N := 6) rfl ?_); refine box_on ?hg (N := 6) ?hd (cs := #[.int .i64 0, .int .i64 0, .int .i64 0]) (t := 166) ?hr ?_; (case hd => rfl); (case hg => rfl); (case hr => first | (go_simp; done) | (go_simp; rfl)); intro g198 hg w199 hbox hb; replace HS : Aside0 (Sep (fps []) w [b3 g198 0 0 0] w199) := ⟨HS.out.box hg hbox hb⟩; clear hg hbox hb; have hc201 : w199.cell? ⟨g198, 0, none⟩ = some (.int .i64 0) := blk_cellv (HS.out.at0) 0 rfl; have hz202 : w199.frozen? ⟨g198, 0, none⟩ = false := blk_fz (HS.out.at0) 0; have hc203 : w199.cell? ⟨g198, 1, none⟩ = some (.int .i64 0) := blk_cellv (HS.out.at0) 1 rfl; have hz204 : w199.frozen? ⟨g198, 1, none⟩ = false := blk_fz (HS.out.at0) 1; have hc205 : w199.cell? ⟨g198, 2, none⟩ = some (.int .i64 0) := blk_cellv (HS.out.at0) 2 rfl; have hz206 : w199.frozen? ⟨g198, 2, none⟩ = false := blk_fz (HS.out.at0) 2) | ((with_reducible refine gate_store (t := 166) (p := 6) rfl ?_); refine store_event (w1 := (World.setCell (World.setCell (World.setCell w199 ⟨g198, 0, none⟩ (.int .i64 t195.1)) ⟨g198, 1, none⟩ (.int .i64 t195.2.1)) ⟨g198, 2, none⟩ (.int .i64 t195.2.2.1))) rfl (t := 166) (p := 6) rfl rfl ?hr ?_; (case hr => first | (go_simp; done) | (go_simp; rfl)); intro w207 hst; clear hc201 hz202 hc203 hz204 hc205 hz206; replace HS : Aside0 (Sep (fps []) w [b3 g198 t195.1 t195.2.1 t195.2.2.1] w207) := ⟨by rw [hst]; exact HS.out.setAll (l1 := []) (l2 := []) [.int .i64 t195.1, .int .i64 t195.2.1, .int .i64 t195.2.2.1] rfl⟩; clear hst; replace HS : Aside0 (Sep (fps []) w [] w207) := ⟨HS.out.sub (.cons _ .slnil)⟩))
    go_ret2
    rw [← some_eq H]
    exact ⟨(by first | rfl | (simp [IntKind.wrap_u32]; done)), HS.out⟩

set_option maxHeartbeats 30000000 in
set_option maxRecDepth 100000 in
theorem ground_Ground_Wipe_nil.calls (k : Nat) (a321 : Int) (r : Int) (w : World)  (HGl0 : Aside0 (Gl 0 #[.int .i64 0, .int .i64 0, .int .i64 0, .int .i64 0, .int .i64 0] (fps []) w)) (HS : Aside0 (Sep (fps []) w [] w)) (H : Aside0 (ground_Ground_Wipe_nil.f k a321 = some r)) :
    Calls Tryd.prog 136 #[.pointer none, .int .i64 a321] w fun e w' => e = .returned (.int .i64 r) ∧ Sep (fps []) w [] w' := by
  unfold ground_Ground_Wipe_nil.f at H
  go_enter Tryd.func136, Tryd.ntmps136
  go_wp2_with fail
  obtain ⟨t322, HA323, H⟩ := bind_some H
  refine (ground_Ground_Conf_nil.calls t322 _ ⟨HGl0.out.pass (l := []) HS.out⟩ ⟨Sep.start _⟩ HA323).mono ?_
  rintro e_ w324 ⟨rfl, hS⟩
  replace HS : Aside0 (Sep (fps []) w [] w324) := ⟨HS.out.call hS⟩
  clear hS
  have fl325 : ∀ w, (Instr.field 30 (.agg #[.int .i64 t322.1, .int .i64 t322.2.1, .int .i64 t322.2.2.1, .int .i64 t322.2.2.2]) 1).run Tryd.prog w = .ok (.int .i64 t322.2.1) w := fun _ => by kernel_rfl
  go_wp2_with fail
  clear fl325
  obtain ⟨o327, AL328, H⟩ := bind_some H
  go_loopg [5, 10] k (fun kq v5 v10 wc => ∃ (x331 : Int) (x332 : Int), v5 = .int .i64 x331 ∧ v10 = .int .i64 x332 ∧ Aside0 (ground_Ground_Wipe_nil.lo0 kq a321 t322 x331 x332 = some o327) ∧ Aside0 (Sep (fps []) w [] wc))
  case atStart => exact ⟨(0), (0), (by first | rfl | (simp [IntKind.wrap_u32]; done)), (by first | rfl | (simp [IntKind.wrap_u32]; done)), AL328, ⟨HS.out⟩⟩
  case round =>
    clear AL328 HS
    obtain ⟨x331, x332, rfl, rfl, AL328, HS⟩ := hrel
    obtain ⟨w329, rfl⟩ : ∃ x : World, x = wr := ⟨_, rfl⟩
    cases gk with
    | zero => exact absurd AL328.out (by simp [ground_Ground_Wipe_nil.lo0])
    | succ k330 =>
      have AL0 := AL328.out
      rw [ground_Ground_Wipe_nil.lo0] at AL0
      clear AL328
      have AL328 := Aside0.mk AL0
      clear AL0
      by_cases c333 : x332 < t322.2.1
      · have AL328 := if_yes c333 AL328
        have c333b0 : decide (x332 < t322.2.1) = true := decide_eq_true c333
        clear c333
        go_wp2_with fail
        obtain ⟨t334, HA335, AL328⟩ := bind_some AL328
        refine (ground_Ground_SetWord_nil.calls a321 x332 0 t334 _ ⟨HGl0.out.pass (l := []) HS.out⟩ ⟨Sep.start _⟩ HA335).mono ?_
        rintro e_ w336 ⟨rfl, hS⟩
        replace HS : Aside0 (Sep (fps []) w [] w336) := ⟨HS.out.call hS⟩
        clear hS
        by_cases c337 : t334 = true
        · have AL328 := if_yes c337 AL328
          have c337b0 : t334 = true := c337
          have c337b1 : (!t334) = false := by rw [c337b0]; rfl
          clear c337
          go_wp2_with fail
          go_roundg k330
          case measure => exact Nat.lt_succ_self _
          case rel => exact ⟨(wrap64 (x331 + 1)), (wrap64 (x332 + 1)), (by first | rfl | (simp [IntKind.wrap_u32]; done)), (by first | rfl | (simp [IntKind.wrap_u32]; done)), Aside0.mk AL328.out, ⟨HS.out⟩⟩
        · have AL328 := if_no c337 AL328
          have c337b0 : t334 = false := by simpa using c337
          have c337b1 : (!t334) = true := by rw [c337b0]; rfl
          clear c337
          go_wp2_with fail
          go_roundg k330
          case measure => exact Nat.lt_succ_self _
          case rel => exact ⟨(x331), (wrap64 (x332 + 1)), (by first | rfl | (simp [IntKind.wrap_u32]; done)), (by first | rfl | (simp [IntKind.wrap_u32]; done)), Aside0.mk AL328.out, ⟨HS.out⟩⟩
      · have AL328 := if_no c333 AL328
        have c333b0 : decide (x332 < t322.2.1) = false := decide_eq_false c333
        clear c333
        have ho := some_eq AL328
        subst ho
        clear AL328
        go_wp2_with fail
        go_ret
        rw [← some_eq H]
        exact ⟨(by first | rfl | (simp [IntKind.wrap_u32]; done)), HS.out⟩

set_option maxHeartbeats 30000000 in
set_option maxRecDepth 100000 in
theorem pool_Take_nil.calls (k : Nat)  (r : Int × Bool) (w : World)  (HGl0 : Aside0 (Gl 0 #[.int .i64 0, .int .i64 0, .int .i64 0, .int .i64 0, .int .i64 0] (fps []) w)) (HS : Aside0 (Sep (fps []) w [] w)) (H : Aside0 (pool_Take_nil.f k = some r)) :
    Calls Tryd.prog 98 #[.pointer none] w fun e w' => e = .returned (.tuple #[.int .i64 r.1, .bool r.2]) ∧ Sep (fps []) w [] w' := by
  unfold pool_Take_nil.f at H
  go_enter Tryd.func98, Tryd.ntmps98
  go_wp2_with fail
  obtain ⟨t317, HA318, H⟩ := bind_some H
  refine (chain_Take_nil.calls 0 t317 _ ⟨HGl0.out.pass (l := []) HS.out⟩ ⟨Sep.start _⟩ HA318).mono ?_
  rintro e_ w319 ⟨rfl, hS⟩
  replace HS : Aside0 (Sep (fps []) w [] w319) := ⟨HS.out.call hS⟩
  clear hS
  by_cases c320 : t317.2 = true
  · have H := if_yes c320 H
    have c320b0 : t317.2 = true := c320
    have c320b1 : (!t317.2) = false := by rw [c320b0]; rfl
    try rw [c320b1]
    clear c320
    go_wp2_with fail
    obtain ⟨t339, HA340, H⟩ := bind_some H
    refine (ground_Ground_Wipe_nil.calls _ t317.1 t339 _ ⟨HGl0.out.pass (l := []) HS.out⟩ ⟨Sep.start _⟩ HA340).mono ?_
    rintro e_ w341 ⟨rfl, hS⟩
    replace HS : Aside0 (Sep (fps []) w [] w341) := ⟨HS.out.call hS⟩
    clear hS
    go_wp2_with fail
    go_ret2
    rw [← some_eq H]
    exact ⟨(by first | rfl | (simp [IntKind.wrap_u32]; done)), HS.out⟩
  · have H := if_no c320 H
    have c320b0 : t317.2 = false := by simpa using c320
    have c320b1 : (!t317.2) = true := by rw [c320b0]; rfl
    try rw [c320b1]
    clear c320
    go_wp2_with fail
    go_ret2
    rw [← some_eq H]
    exact ⟨(by first | rfl | (simp [IntKind.wrap_u32]; done)), HS.out⟩

set_option maxHeartbeats 30000000 in
set_option maxRecDepth 100000 in
theorem tag_marks.calls (a398 : Int) (a399 : Int) (a400 : Int) (a401 : Int) (a402 : Int) (a403 : Int) (a404 : Int) (r : Int × Int × Int × Int × Int) (w : World)  (HGl0 : Aside0 (Gl 0 #[.int .i64 0, .int .i64 0, .int .i64 0, .int .i64 0, .int .i64 0] (fps []) w)) (HS : Aside0 (Sep (fps []) w [] w)) (H : Aside0 (tag_marks.f a398 a399 a400 a401 a402 a403 a404 = some r)) :
    Calls Tryd.prog 68 #[.agg #[.int .i64 a398, .int .i64 a399, .int .i64 a400, .int .i64 a401, .int .i64 a402, .int .i64 a403, .int .i64 a404]] w fun e w' => e = .returned (.agg #[.int .i64 r.1, .int .i64 r.2.1, .int .i64 r.2.2.1, .int .i64 r.2.2.2.1, .int .i64 r.2.2.2.2]) ∧ Sep (fps []) w [] w' := by
  unfold tag_marks.f at H
  go_enter Tryd.func68, Tryd.ntmps68
  go_wp2_with (first | ((with_reducible refine gate_dst (N := 1) rfl ?_); refine box_on ?hg (N := 1) ?hd (cs := #[.int .i64 a398, .int .i64 a399, .int .i64 a400, .int .i64 a401, .int .i64 a402, .int .i64 a403, .int .i64 a404]) (t := 32) ?hr ?_; (case hd => rfl); (case hg => rfl); (case hr => first | (go_simp; done) | (go_simp; rfl)); intro g405 hg w406 hbox hb; replace HS : Aside0 (Sep (fps []) w [b4 g405 a398 a399 a400 a401 a402 a403 a404] w406) := ⟨HS.out.box hg hbox hb⟩; clear hg hbox hb) | ((with_reducible refine gate_dst (N := 2) rfl ?_); refine box_on ?hg (N := 2) ?hd (cs := #[.int .i64 0, .int .i64 0, .int .i64 0, .int .i64 0, .int .i64 0]) (t := 108) ?hr ?_; (case hd => rfl); (case hg => rfl); (case hr => first | (go_simp; done) | (go_simp; rfl)); intro g408 hg w409 hbox hb; replace HS : Aside0 (Sep (fps []) w [b4 g405 a398 a399 a400 a401 a402 a403 a404, b5 g408 0 0 0 0 0] w409) := ⟨HS.out.box hg hbox hb⟩; clear hg hbox hb; have hc411 : w409.cell? ⟨g405, 1, none⟩ = some (.int .i64 a399) := blk_cellv (HS.out.at0) 1 rfl; have hc412 : w409.cell? ⟨g405, 2, none⟩ = some (.int .i64 a400) := blk_cellv (HS.out.at0) 2 rfl; have hc413 : w409.cell? ⟨g405, 3, none⟩ = some (.int .i64 a401) := blk_cellv (HS.out.at0) 3 rfl; have hc414 : w409.cell? ⟨g405, 4, none⟩ = some (.int .i64 a402) := blk_cellv (HS.out.at0) 4 rfl; have hc415 : w409.cell? ⟨g405, 5, none⟩ = some (.int .i64 a403) := blk_cellv (HS.out.at0) 5 rfl; have hc416 : w409.cell? ⟨g408, 0, none⟩ = some (.int .i64 0) := blk_cellv (HS.out.at1) 0 rfl; have hz417 : w409.frozen? ⟨g408, 0, none⟩ = false := blk_fz (HS.out.at1) 0; have hc418 : w409.cell? ⟨g408, 1, none⟩ = some (.int .i64 0) := blk_cellv (HS.out.at1) 1 rfl; have hz419 : w409.frozen? ⟨g408, 1, none⟩ = false := blk_fz (HS.out.at1) 1; have hc420 : w409.cell? ⟨g408, 2, none⟩ = some (.int .i64 0) := blk_cellv (HS.out.at1) 2 rfl; have hz421 : w409.frozen? ⟨g408, 2, none⟩ = false := blk_fz (HS.out.at1) 2; have hc422 : w409.cell? ⟨g408, 3, none⟩ = some (.int .i64 0) := blk_cellv (HS.out.at1) 3 rfl; have hz423 : w409.frozen? ⟨g408, 3, none⟩ = false := blk_fz (HS.out.at1) 3; have hc424 : w409.cell? ⟨g408, 4, none⟩ = some (.int .i64 0) := blk_cellv (HS.out.at1) 4 rfl; have hz425 : w409.frozen? ⟨g408, 4, none⟩ = false := blk_fz (HS.out.at1) 4) | ((with_reducible refine gate_store (t := 108) (p := 2) rfl ?_); refine store_event (w1 := (World.setCell (World.setCell (World.setCell (World.setCell (World.setCell w409 ⟨g408, 0, none⟩ (.int .i64 a399)) ⟨g408, 1, none⟩ (.int .i64 a400)) ⟨g408, 2, none⟩ (.int .i64 a401)) ⟨g408, 3, none⟩ (.int .i64 a402)) ⟨g408, 4, none⟩ (.int .i64 a403))) rfl (t := 108) (p := 2) rfl rfl ?hr ?_; (case hr => first | (go_simp; done) | (go_simp; rfl)); intro w426 hst; clear hc411 hc412 hc413 hc414 hc415 hc416 hz417 hc418 hz419 hc420 hz421 hc422 hz423 hc424 hz425; replace HS : Aside0 (Sep (fps []) w [b4 g405 a398 a399 a400 a401 a402 a403 a404, b5 g408 a399 a400 a401 a402 a403] w426) := ⟨by rw [hst]; exact HS.out.setAll (l1 := [b4 g405 a398 a399 a400 a401 a402 a403 a404]) (l2 := []) [.int .i64 a399, .int .i64 a400, .int .i64 a401, .int .i64 a402, .int .i64 a403] rfl⟩; clear hst; replace HS : Aside0 (Sep (fps []) w [b5 g408 a399 a400 a401 a402 a403] w426) := ⟨HS.out.sub (.cons _ (.cons_cons _ .slnil))⟩))
  have hc427 : w426.cell? ⟨g408, 0, none⟩ = some (.int .i64 a399) := blk_cellv (HS.out.at0) 0 rfl
  have hc428 : w426.cell? ⟨g408, 1, none⟩ = some (.int .i64 a400) := blk_cellv (HS.out.at0) 1 rfl
  have hc429 : w426.cell? ⟨g408, 2, none⟩ = some (.int .i64 a401) := blk_cellv (HS.out.at0) 2 rfl
  have hc430 : w426.cell? ⟨g408, 3, none⟩ = some (.int .i64 a402) := blk_cellv (HS.out.at0) 3 rfl
  have hc431 : w426.cell? ⟨g408, 4, none⟩ = some (.int .i64 a403) := blk_cellv (HS.out.at0) 4 rfl
  refine bodyPost_ret (v := .agg #[.int .i64 a399, .int .i64 a400, .int .i64 a401, .int .i64 a402, .int .i64 a403]) (by simp [results, Tryd.results68, go_sem, hc427, hc428, hc429, hc430, hc431]) rfl ?_
  rw [← some_eq H]
  exact ⟨(by first | rfl | (simp [IntKind.wrap_u32]; done)), HS.out.sub (.cons _ .slnil)⟩

set_option maxHeartbeats 30000000 in
set_option maxRecDepth 100000 in
theorem tag_Right.calls (k : Nat) (a381 : Int) (a382 : Int) (a383 : Int) (a384 : Int) (a385 : Int) (a386 : Int) (a387 : Int) (r : Bool) (w : World)  (HGl0 : Aside0 (Gl 0 #[.int .i64 0, .int .i64 0, .int .i64 0, .int .i64 0, .int .i64 0] (fps []) w)) (HS : Aside0 (Sep (fps []) w [] w)) (H : Aside0 (tag_Right.f k a381 a382 a383 a384 a385 a386 a387 = some r)) :
    Calls Tryd.prog 67 #[.agg #[.int .i64 a381, .int .i64 a382, .int .i64 a383, .int .i64 a384, .int .i64 a385, .int .i64 a386, .int .i64 a387]] w fun e w' => e = .returned (.bool r) ∧ Sep (fps []) w [] w' := by
  unfold tag_Right.f at H
  go_enter Tryd.func67, Tryd.ntmps67
  go_wp2_with (first | ((with_reducible refine gate_dst (N := 1) rfl ?_); refine box_on ?hg (N := 1) ?hd (cs := #[.int .i64 a381, .int .i64 a382, .int .i64 a383, .int .i64 a384, .int .i64 a385, .int .i64 a386, .int .i64 a387]) (t := 32) ?hr ?_; (case hd => rfl); (case hg => rfl); (case hr => first | (go_simp; done) | (go_simp; rfl)); intro g388 hg w389 hbox hb; replace HS : Aside0 (Sep (fps []) w [b4 g388 a381 a382 a383 a384 a385 a386 a387] w389) := ⟨HS.out.box hg hbox hb⟩; clear hg hbox hb; have hc391 : w389.cell? ⟨g388, 0, none⟩ = some (.int .i64 a381) := blk_cellv (HS.out.at0) 0 rfl; have hc392 : w389.cell? ⟨g388, 1, none⟩ = some (.int .i64 a382) := blk_cellv (HS.out.at0) 1 rfl; have hc393 : w389.cell? ⟨g388, 2, none⟩ = some (.int .i64 a383) := blk_cellv (HS.out.at0) 2 rfl; have hc394 : w389.cell? ⟨g388, 3, none⟩ = some (.int .i64 a384) := blk_cellv (HS.out.at0) 3 rfl; have hc395 : w389.cell? ⟨g388, 4, none⟩ = some (.int .i64 a385) := blk_cellv (HS.out.at0) 4 rfl; have hc396 : w389.cell? ⟨g388, 5, none⟩ = some (.int .i64 a386) := blk_cellv (HS.out.at0) 5 rfl; have hc397 : w389.cell? ⟨g388, 6, none⟩ = some (.int .i64 a387) := blk_cellv (HS.out.at0) 6 rfl))
  clear hc391 hc392 hc393 hc394 hc395 hc396 hc397
  obtain ⟨t432, HA433, H⟩ := bind_some H
  refine (tag_marks.calls a381 a382 a383 a384 a385 a386 a387 t432 _ ⟨HGl0.out.pass (l := []) HS.out⟩ ⟨Sep.start _⟩ HA433).mono ?_
  rintro e_ w434 ⟨rfl, hS⟩
  replace HS : Aside0 (Sep (fps []) w [b4 g388 a381 a382 a383 a384 a385 a386 a387] w434) := ⟨HS.out.call hS⟩
  clear hS
  go_wp2_with fail
  obtain ⟨o447, AL448, H⟩ := bind_some H
  go_loopg [7] k (fun kq v7 wc => ∃ (x451 : Int), v7 = .int .i64 x451 ∧ Aside0 (tag_Right.lo0 kq t432 x451 = some o447) ∧ Aside0 (Sep (fps []) w [b4 g388 a381 a382 a383 a384 a385 a386 a387] wc))
  case atStart => exact ⟨(0), (by first | rfl | (simp [IntKind.wrap_u32]; done)), AL448, ⟨HS.out⟩⟩
  case round =>
    clear AL448 HS
    obtain ⟨x451, rfl, AL448, HS⟩ := hrel
    obtain ⟨w449, rfl⟩ : ∃ x : World, x = wr := ⟨_, rfl⟩
    cases gk with
    | zero => exact absurd AL448.out (by simp [tag_Right.lo0])
    | succ k450 =>
      have AL0 := AL448.out
      rw [tag_Right.lo0] at AL0
      clear AL448
      have AL448 := Aside0.mk AL0
      clear AL0
      by_cases c452 : x451 < 5
      · have AL448 := if_yes c452 AL448
        have c452b0 : decide (x451 < 5) = true := decide_eq_true c452
        clear c452
        by_cases c453 : 0 ≤ x451
        · have AL448 := if_yes c453 AL448
          have c453b0 : decide (0 ≤ x451) = true := decide_eq_true c453
          have c453p : (0 ≤ x451) = True := eq_true c453
          clear c453
          have ip454 : (x451 < 5) = True := eq_true (of_decide_eq_true c452b0)
          have ix455 : ∀ w, (Instr.index 108 (.agg #[.int .i64 t432.1, .int .i64 t432.2.1, .int .i64 t432.2.2.1, .int .i64 t432.2.2.2.1, .int .i64 t432.2.2.2.2]) (.int .i64 x451)).run Tryd.prog w = .ok (.int .i64 (rd [t432.1, t432.2.1, t432.2.2.1, t432.2.2.2.1, t432.2.2.2.2] x451)) w := run_index_ints 108 3 5 .i64 .i64 [t432.1, t432.2.1, t432.2.2.1, t432.2.2.2.1, t432.2.2.2.2] x451 Tryd.underlying108 (fun _ => by kernel_rfl) (fun _ => by kernel_rfl) rfl (of_decide_eq_true c453b0) (of_decide_eq_true c452b0)
          by_cases c456 : (rd [t432.1, t432.2.1, t432.2.2.1, t432.2.2.2.1, t432.2.2.2.2] x451) = 0
          · have AL448 := if_yes c456 AL448
            have c456b0 : ((rd [t432.1, t432.2.1, t432.2.2.1, t432.2.2.2.1, t432.2.2.2.2] x451) == 0) = true := beq_iff_eq.mpr c456
            have c456b1 : ((rd [t432.1, t432.2.1, t432.2.2.1, t432.2.2.2.1, t432.2.2.2.2] x451) != 0) = false := bne_eq_false_iff_eq.mpr c456
            clear c456
            go_wp2_with fail
            go_roundg k450
            case measure => exact Nat.lt_succ_self _
            case rel => exact ⟨(wrap64 (x451 + 1)), (by first | rfl | (simp [IntKind.wrap_u32]; done)), Aside0.mk AL448.out, ⟨HS.out⟩⟩
          · have AL448 := if_no c456 AL448
            have c456b0 : ((rd [t432.1, t432.2.1, t432.2.2.1, t432.2.2.2.1, t432.2.2.2.2] x451) == 0) = false := beq_eq_false_iff_ne.mpr c456
            have c456b1 : ((rd [t432.1, t432.2.1, t432.2.2.1, t432.2.2.2.1, t432.2.2.2.2] x451) != 0) = true := bne_iff_ne.mpr c456
            clear c456
            by_cases c457 : (rd [t432.1, t432.2.1, t432.2.2.1, t432.2.2.2.1, t432.2.2.2.2] x451) = 1
            · have AL448 := if_yes c457 AL448
              have c457b0 : ((rd [t432.1, t432.2.1, t432.2.2.1, t432.2.2.2.1, t432.2.2.2.2] x451) == 1) = true := beq_iff_eq.mpr c457
              have c457b1 : ((rd [t432.1, t432.2.1, t432.2.2.1, t432.2.2.2.1, t432.2.2.2.2] x451) != 1) = false := bne_eq_false_iff_eq.mpr c457
              clear c457
              go_wp2_with fail
              go_roundg k450
              case measure => exact Nat.lt_succ_self _
              case rel => exact ⟨(wrap64 (x451 + 1)), (by first | rfl | (simp [IntKind.wrap_u32]; done)), Aside0.mk AL448.out, ⟨HS.out⟩⟩
            · have AL448 := if_no c457 AL448
              have c457b0 : ((rd [t432.1, t432.2.1, t432.2.2.1, t432.2.2.2.1, t432.2.2.2.2] x451) == 1) = false := beq_eq_false_iff_ne.mpr c457
              have c457b1 : ((rd [t432.1, t432.2.1, t432.2.2.1, t432.2.2.2.1, t432.2.2.2.2] x451) != 1) = true := bne_iff_ne.mpr c457
              clear c457
              go_wp2_with fail
              have ho := some_eq AL448
              subst ho
              have H := lp_ret H
              go_ret
              rw [← some_eq H]
              exact ⟨(by first | rfl | (simp [IntKind.wrap_u32]; done)), HS.out.sub (.cons _ .slnil)⟩
        · have AL448 := if_no c453 AL448
          have c453b0 : decide (0 ≤ x451) = false := decide_eq_false c453
          clear c453
          exact (none_no AL448).elim
      · have AL448 := if_no c452 AL448
        have c452b0 : decide (x451 < 5) = false := decide_eq_false c452
        clear c452
        have ho := some_eq AL448
        subst ho
        clear AL448
        have H := lp_out H
        by_cases c459 : a381 = 1
        · have H := if_yes c459 H
          have c459b0 : (a381 == 1) = true := beq_iff_eq.mpr c459
          have c459b1 : (a381 != 1) = false := bne_eq_false_iff_eq.mpr c459
          clear c459
          have hc458 : w449.cell? ⟨g388, 0, none⟩ = some (.int .i64 a381) := blk_cellv (HS.out.at0) 0 rfl
          have hc460 : w449.cell? ⟨g388, 6, none⟩ = some (.int .i64 a387) := blk_cellv (HS.out.at0) 6 rfl
          replace HS : Aside0 (Sep (fps []) w [] w449) := ⟨HS.out.sub (.cons _ .slnil)⟩
          go_wp2_with fail
          clear hc458 hc460
          go_ret
          rw [← some_eq H]
          exact ⟨(by first | rfl | (simp [IntKind.wrap_u32]; done)), HS.out⟩
        · have H := if_no c459 H
          have c459b0 : (a381 == 1) = false := beq_eq_false_iff_ne.mpr c459
          have c459b1 : (a381 != 1) = true := bne_iff_ne.mpr c459
          clear c459
          by_cases c461 : a381 = 2
          · have H := if_yes c461 H
            have c461b0 : (a381 == 2) = true := beq_iff_eq.mpr c461
            have c461b1 : (a381 != 2) = false := bne_eq_false_iff_eq.mpr c461
            clear c461
            have hc458 : w449.cell? ⟨g388, 0, none⟩ = some (.int .i64 a381) := blk_cellv (HS.out.at0) 0 rfl
            have hc462 : w449.cell? ⟨g388, 6, none⟩ = some (.int .i64 a387) := blk_cellv (HS.out.at0) 6 rfl
            replace HS : Aside0 (Sep (fps []) w [] w449) := ⟨HS.out.sub (.cons _ .slnil)⟩
            go_wp2_with fail
            clear hc458 hc462
            go_ret
            rw [← some_eq H]
            exact ⟨(by first | rfl | (simp [IntKind.wrap_u32]; done)), HS.out⟩
          · have H := if_no c461 H
            have c461b0 : (a381 == 2) = false := beq_eq_false_iff_ne.mpr c461
            have c461b1 : (a381 != 2) = true := bne_iff_ne.mpr c461
            clear c461
            by_cases c463 : a381 = 0
            · have H := if_yes c463 H
              have c463b0 : (a381 == 0) = true := beq_iff_eq.mpr c463
              have c463b1 : (a381 != 0) = false := bne_eq_false_iff_eq.mpr c463
              clear c463
              have hc458 : w449.cell? ⟨g388, 0, none⟩ = some (.int .i64 a381) := blk_cellv (HS.out.at0) 0 rfl
              go_wp2_with fail
              clear hc458
              refine start_ (n := 25) (S := (fun w' => w'.cell? ⟨g388, 0, none⟩ = some (.int .i64 a381) ∧ w'.cell? ⟨g388, 1, none⟩ = some (.int .i64 a382) ∧ w'.cell? ⟨g388, 2, none⟩ = some (.int .i64 a383) ∧ w'.cell? ⟨g388, 3, none⟩ = some (.int .i64 a384) ∧ w'.cell? ⟨g388, 4, none⟩ = some (.int .i64 a385) ∧ w'.cell? ⟨g388, 5, none⟩ = some (.int .i64 a386) ∧ w'.cell? ⟨g388, 6, none⟩ = some (.int .i64 a387) ∧ w'.cell? ⟨0, 0, none⟩ = some (.int .i64 0) ∧ w'.cell? ⟨0, 1, none⟩ = some (.int .i64 0) ∧ w'.cell? ⟨0, 2, none⟩ = some (.int .i64 0) ∧ w'.cell? ⟨0, 3, none⟩ = some (.int .i64 0) ∧ w'.cell? ⟨0, 4, none⟩ = some (.int .i64 0))) (ds := []) #[false, false, false, false, false, false, false, false, false, false, false, false, false, false, false, false, false, false, false, false, false, false, false, false, false] (by kernel_rfl) rfl rfl (⟨blk_cellv ((HS.out.drew).at0) 0 rfl, blk_cellv ((HS.out.drew).at0) 1 rfl, blk_cellv ((HS.out.drew).at0) 2 rfl, blk_cellv ((HS.out.drew).at0) 3 rfl, blk_cellv ((HS.out.drew).at0) 4 rfl, blk_cellv ((HS.out.drew).at0) 5 rfl, blk_cellv ((HS.out.drew).at0) 6 rfl, Gl.cell HGl0.out (HS.out.drew).fr 0 rfl, Gl.cell HGl0.out (HS.out.drew).fr 1 rfl, Gl.cell HGl0.out (HS.out.drew).fr 2 rfl, Gl.cell HGl0.out (HS.out.drew).fr 3 rfl, Gl.cell HGl0.out (HS.out.drew).fr 4 rfl⟩) (fun hHeld => ?_)
              have HS_ := Aside0.mk HS.out.drew
              clear HS
              generalize World.drew _ = w465 at HS_ hHeld ⊢
              have HS := HS_
              clear HS_
              refine take_ (i := 0) (N := some 28) (v := ?_) (a' := ?_) #[true, false, false, false, false, false, false, false, false, false, false, false, false, false, false, false, false, false, false, false, false, false, false, false, false] rfl rfl (by kernel_rfl) (fun _ _ _ h => h) (Or.inl ⟨by rfl, ?_⟩) hHeld ?_ ?_
              rotate_left
              · rintro w' hS'
                obtain ⟨s0, s1, s2, s3, s4, s5, s6, s7, s8, s9, s10, s11⟩ := hS'
                go_simp
                with_reducible rfl
              rotate_left
              · simp only [Act.put, List.setIfInBounds_toArray, List.set_cons_zero, List.set_cons_succ, i64_w, i32_w]
                rfl
              refine take_ (i := 2) (N := some 30) (v := ?_) (a' := ?_) #[true, false, true, false, false, false, false, false, false, false, false, false, false, false, false, false, false, false, false, false, false, false, false, false, false] rfl rfl (by kernel_rfl) (fun _ _ _ h => h) (Or.inl ⟨by rfl, ?_⟩) hHeld ?_ ?_
              rotate_left
              · rintro w' hS'
                obtain ⟨s0, s1, s2, s3, s4, s5, s6, s7, s8, s9, s10, s11⟩ := hS'
                go_simp
                with_reducible rfl
              rotate_left
              · simp only [Act.put, List.setIfInBounds_toArray, List.set_cons_zero, List.set_cons_succ, i64_w, i32_w]
                rfl
              refine one_ (i := 1) (N := some 29) #[true, true, true, false, false, false, false, false, false, false, false, false, false, false, false, false, false, false, false, false, false, false, false, false, false] rfl rfl (by kernel_rfl) (by decide) (fun K hK => ?_)
              obtain ⟨t466, HA467, H⟩ := bind_some H
              refine goes_ Tryd.func68 (by kernel_rfl) rfl #[.agg #[.int .i64 a381, .int .i64 a382, .int .i64 a383, .int .i64 a384, .int .i64 a385, .int .i64 a386, .int .i64 a387]] (by rfl) rfl rfl (by (try simp only [List.map_toArray, List.map_cons, List.map_nil]); first | done | rfl) ?_
              refine (tag_marks.calls a381 a382 a383 a384 a385 a386 a387 t466 _ ⟨HGl0.out.pass (l := []) HS.out⟩ ⟨Sep.start _⟩ HA467).mono ?_
              rintro e_ w468 ⟨rfl, hS⟩
              replace HS : Aside0 (Sep (fps []) w [b4 g388 a381 a382 a383 a384 a385 a386 a387] w468) := ⟨HS.out.call hS⟩
              clear hS
              refine ⟨_, rfl, ?_⟩
              refine hK.out _ _ (⟨blk_cellv (HS.out.at0) 0 rfl, blk_cellv (HS.out.at0) 1 rfl, blk_cellv (HS.out.at0) 2 rfl, blk_cellv (HS.out.at0) 3 rfl, blk_cellv (HS.out.at0) 4 rfl, blk_cellv (HS.out.at0) 5 rfl, blk_cellv (HS.out.at0) 6 rfl, Gl.cell HGl0.out HS.out.fr 0 rfl, Gl.cell HGl0.out HS.out.fr 1 rfl, Gl.cell HGl0.out HS.out.fr 2 rfl, Gl.cell HGl0.out HS.out.fr 3 rfl, Gl.cell HGl0.out HS.out.fr 4 rfl⟩) (fun hHeld => ?_)
              clear hK K
              refine norm_ (a' := ?_) ?_ ?_
              rotate_left
              · show Act.put _ (some 29) _ = _
                simp only [Act.put, List.setIfInBounds_toArray, List.set_cons_zero, List.set_cons_succ, i64_w, i32_w]
                rfl
              obtain ⟨b470, HA471, H⟩ := bind_some H
              have eb469 : ∀ w, (Op.equalIn 10000 108 (.agg #[.int .i64 t466.1, .int .i64 t466.2.1, .int .i64 t466.2.2.1, .int .i64 t466.2.2.2.1, .int .i64 t466.2.2.2.2]) (.agg #[.int .i64 0, .int .i64 0, .int .i64 0, .int .i64 0, .int .i64 0])).run Tryd.prog w = .ok b470 w := some_eq HA471 ▸ run_eq_ints 9998 108 3 5 .i64 [t466.1, t466.2.1, t466.2.2.1, t466.2.2.2.1, t466.2.2.2.2] [0, 0, 0, 0, 0] Tryd.underlying108 (by kernel_rfl) (by kernel_rfl) Tryd.underlying3 (fun _ => by kernel_rfl) rfl rfl
              refine pure_ (i := 3) (N := some 31) (v := ?_) (a' := ?_) #[true, true, true, true, false, false, false, false, false, false, false, false, false, false, false, false, false, false, false, false, false, false, false, false, false] rfl rfl (by kernel_rfl) (fun _ _ _ h => h) (Or.inl ⟨by rfl, ?_⟩) ?_ ?_
              rotate_left
              · intro w'
                go_simp
                with_reducible rfl
              rotate_left
              · simp only [Act.put, List.setIfInBounds_toArray, List.set_cons_zero, List.set_cons_succ, i64_w, i32_w]
                rfl
              refine pure_ (i := 4) (N := some 32) (v := ?_) (a' := ?_) #[true, true, true, true, true, false, false, false, false, false, false, false, false, false, false, false, false, false, false, false, false, false, false, false, false] rfl rfl (by kernel_rfl) (fun _ _ _ h => h) (Or.inl ⟨by rfl, ?_⟩) ?_ ?_
              rotate_left
              · intro w'
                go_simp
                with_reducible rfl
              rotate_left
              · simp only [Act.put, List.setIfInBounds_toArray, List.set_cons_zero, List.set_cons_succ, i64_w, i32_w]
                rfl
              by_cases c472 : b470 = true
              · have H := if_yes c472 H
                have c472b0 : b470 = true := c472
                have c472b1 : (!b470) = false := by rw [c472b0]; rfl
                clear c472
                try simp only [c472b0, Bool.not_true, Bool.not_false]
                refine pure_ (i := 5) (N := some 33) (v := ?_) (a' := ?_) #[true, true, true, true, true, true, false, false, false, false, false, false, false, false, false, false, false, false, false, false, false, false, false, false, false] rfl rfl (by kernel_rfl) (fun _ _ _ h => h) (Or.inl ⟨by rfl, ?_⟩) ?_ ?_
                rotate_left
                · intro w'
                  go_simp
                  with_reducible rfl
                rotate_left
                · simp only [Act.put, List.setIfInBounds_toArray, List.set_cons_zero, List.set_cons_succ, i64_w, i32_w]
                  rfl
                try simp only [c472b0, Bool.not_true, Bool.not_false]
                refine take_ (i := 6) (N := some 34) (v := ?_) (a' := ?_) #[true, true, true, true, true, true, true, false, false, false, false, false, false, false, false, false, false, false, false, false, false, false, false, false, false] rfl rfl (by kernel_rfl) (fun _ _ _ h => h) (Or.inl ⟨by rfl, ?_⟩) hHeld ?_ ?_
                rotate_left
                · rintro w' hS'
                  obtain ⟨s0, s1, s2, s3, s4, s5, s6, s7, s8, s9, s10, s11⟩ := hS'
                  go_simp
                  with_reducible rfl
                rotate_left
                · simp only [Act.put, List.setIfInBounds_toArray, List.set_cons_zero, List.set_cons_succ, i64_w, i32_w]
                  rfl
                try simp only [c472b0, Bool.not_true, Bool.not_false]
                refine pure_ (i := 7) (N := some 35) (v := ?_) (a' := ?_) #[true, true, true, true, true, true, true, true, false, false, false, false, false, false, false, false, false, false, false, false, false, false, false, false, false] rfl rfl (by kernel_rfl) (fun _ _ _ h => h) (Or.inl ⟨by rfl, ?_⟩) ?_ ?_
                rotate_left
                · intro w'
                  go_simp
                  with_reducible rfl
                rotate_left
                · simp only [Act.put, List.setIfInBounds_toArray, List.set_cons_zero, List.set_cons_succ, i64_w, i32_w]
                  rfl
                refine pure_ (i := 8) (N := some 36) (v := ?_) (a' := ?_) #[true, true, true, true, true, true, true, true, true, false, false, false, false, false, false, false, false, false, false, false, false, false, false, false, false] rfl rfl (by kernel_rfl) (fun _ _ _ h => h) (Or.inl ⟨by rfl, ?_⟩) ?_ ?_
                rotate_left
                · intro w'
                  go_simp
                  with_reducible rfl
                rotate_left
                · simp only [Act.put, List.setIfInBounds_toArray, List.set_cons_zero, List.set_cons_succ, i64_w, i32_w]
                  rfl
                refine pure_ (i := 9) (N := some 37) (v := ?_) (a' := ?_) #[true, true, true, true, true, true, true, true, true, true, false, false, false, false, false, false, false, false, false, false, false, false, false, false, false] rfl rfl (by kernel_rfl) (fun _ _ _ h => h) (Or.inl ⟨by rfl, ?_⟩) ?_ ?_
                rotate_left
                · intro w'
                  go_simp
                  with_reducible rfl
                rotate_left
                · simp only [Act.put, List.setIfInBounds_toArray, List.set_cons_zero, List.set_cons_succ, i64_w, i32_w]
                  rfl
                by_cases c473 : a387 ≥ 0
                · have H := if_yes c473 H
                  have c473b0 : decide (0 ≤ a387) = true := decide_eq_true c473
                  clear c473
                  try simp only [c473b0, Bool.not_true, Bool.not_false]
                  refine pure_ (i := 10) (N := some 38) (v := ?_) (a' := ?_) #[true, true, true, true, true, true, true, true, true, true, true, false, false, false, false, false, false, false, false, false, false, false, false, false, false] rfl rfl (by kernel_rfl) (fun _ _ _ h => h) (Or.inl ⟨by rfl, ?_⟩) ?_ ?_
                  rotate_left
                  · intro w'
                    go_simp
                    with_reducible rfl
                  rotate_left
                  · simp only [Act.put, List.setIfInBounds_toArray, List.set_cons_zero, List.set_cons_succ, i64_w, i32_w]
                    rfl
                  try simp only [c473b0, Bool.not_true, Bool.not_false]
                  refine take_ (i := 11) (N := some 39) (v := ?_) (a' := ?_) #[true, true, true, true, true, true, true, true, true, true, true, true, false, false, false, false, false, false, false, false, false, false, false, false, false] rfl rfl (by kernel_rfl) (fun _ _ _ h => h) (Or.inl ⟨by rfl, ?_⟩) hHeld ?_ ?_
                  rotate_left
                  · rintro w' hS'
                    obtain ⟨s0, s1, s2, s3, s4, s5, s6, s7, s8, s9, s10, s11⟩ := hS'
                    go_simp
                    with_reducible rfl
                  rotate_left
                  · simp only [Act.put, List.setIfInBounds_toArray, List.set_cons_zero, List.set_cons_succ, i64_w, i32_w]
                    rfl
                  try simp only [c473b0, Bool.not_true, Bool.not_false]
                  refine pure_ (i := 12) (N := some 40) (v := ?_) (a' := ?_) #[true, true, true, true, true, true, true, true, true, true, true, true, true, false, false, false, false, false, false, false, false, false, false, false, false] rfl rfl (by kernel_rfl) (fun _ _ _ h => h) (Or.inl ⟨by rfl, ?_⟩) ?_ ?_
                  rotate_left
                  · intro w'
                    go_simp
                    with_reducible rfl
                  rotate_left
                  · simp only [Act.put, List.setIfInBounds_toArray, List.set_cons_zero, List.set_cons_succ, i64_w, i32_w]
                    rfl
                  refine pure_ (i := 13) (N := some 41) (v := ?_) (a' := ?_) #[true, true, true, true, true, true, true, true, true, true, true, true, true, true, false, false, false, false, false, false, false, false, false, false, false] rfl rfl (by kernel_rfl) (fun _ _ _ h => h) (Or.inl ⟨by rfl, ?_⟩) ?_ ?_
                  rotate_left
                  · intro w'
                    go_simp
                    with_reducible rfl
                  rotate_left
                  · simp only [Act.put, List.setIfInBounds_toArray, List.set_cons_zero, List.set_cons_succ, i64_w, i32_w]
                    rfl
                  refine pure_ (i := 14) (N := some 42) (v := ?_) (a' := ?_) #[true, true, true, true, true, true, true, true, true, true, true, true, true, true, true, false, false, false, false, false, false, false, false, false, false] rfl rfl (by kernel_rfl) (fun _ _ _ h => h) (Or.inl ⟨by rfl, ?_⟩) ?_ ?_
                  rotate_left
                  · intro w'
                    go_simp
                    with_reducible rfl
                  rotate_left
                  · simp only [Act.put, List.setIfInBounds_toArray, List.set_cons_zero, List.set_cons_succ, i64_w, i32_w]
                    rfl
                  by_cases c474 : a387 < 1048576
                  · have H := if_yes c474 H
                    have c474b0 : decide (a387 < 1048576) = true := decide_eq_true c474
                    clear c474
                    try simp only [c474b0, Bool.not_true, Bool.not_false]
                    refine pure_ (i := 15) (N := some 43) (v := ?_) (a' := ?_) #[true, true, true, true, true, true, true, true, true, true, true, true, true, true, true, true, false, false, false, false, false, false, false, false, false] rfl rfl (by kernel_rfl) (fun _ _ _ h => h) (Or.inl ⟨by rfl, ?_⟩) ?_ ?_
                    rotate_left
                    · intro w'
                      go_simp
                      with_reducible rfl
                    rotate_left
                    · simp only [Act.put, List.setIfInBounds_toArray, List.set_cons_zero, List.set_cons_succ, i64_w, i32_w]
                      rfl
                    try simp only [c474b0, Bool.not_true, Bool.not_false]
                    refine take_ (i := 16) (N := some 44) (v := ?_) (a' := ?_) #[true, true, true, true, true, true, true, true, true, true, true, true, true, true, true, true, true, false, false, false, false, false, false, false, false] rfl rfl (by kernel_rfl) (fun _ _ _ h => h) (Or.inl ⟨by rfl, ?_⟩) hHeld ?_ ?_
                    rotate_left
                    · rintro w' hS'
                      obtain ⟨s0, s1, s2, s3, s4, s5, s6, s7, s8, s9, s10, s11⟩ := hS'
                      go_simp
                      with_reducible rfl
                    rotate_left
                    · simp only [Act.put, List.setIfInBounds_toArray, List.set_cons_zero, List.set_cons_succ, i64_w, i32_w]
                      rfl
                    try simp only [c474b0, Bool.not_true, Bool.not_false]
                    refine pure_ (i := 17) (N := some 45) (v := ?_) (a' := ?_) #[true, true, true, true, true, true, true, true, true, true, true, true, true, true, true, true, true, true, false, false, false, false, false, false, false] rfl rfl (by kernel_rfl) (fun _ _ _ h => h) (Or.inl ⟨by rfl, ?_⟩) ?_ ?_
                    rotate_left
                    · intro w'
                      go_simp
                      with_reducible rfl
                    rotate_left
                    · simp only [Act.put, List.setIfInBounds_toArray, List.set_cons_zero, List.set_cons_succ, i64_w, i32_w]
                      rfl
                    try simp only [c474b0, Bool.not_true, Bool.not_false]
                    refine pure_ (i := 18) (N := some 46) (v := ?_) (a' := ?_) #[true, true, true, true, true, true, true, true, true, true, true, true, true, true, true, true, true, true, true, false, false, false, false, false, false] rfl rfl (by kernel_rfl) (fun _ _ _ h => h) (Or.inl ⟨by rfl, ?_⟩) ?_ ?_
                    rotate_left
                    · intro w'
                      go_simp
                      with_reducible rfl
                    rotate_left
                    · simp only [Act.put, List.setIfInBounds_toArray, List.set_cons_zero, List.set_cons_succ, i64_w, i32_w]
                      rfl
                    by_cases c475 : a381 = 3
                    · have H := if_yes c475 H
                      have c475b0 : (a381 == 3) = true := beq_iff_eq.mpr c475
                      have c475b1 : (a381 != 3) = false := bne_eq_false_iff_eq.mpr c475
                      clear c475
                      try simp only [c475b0, Bool.not_true, Bool.not_false]
                      refine pure_ (i := 19) (N := some 47) (v := undef) (a' := ?_) #[true, true, true, true, true, true, true, true, true, true, true, true, true, true, true, true, true, true, true, true, false, false, false, false, false] rfl rfl (by kernel_rfl) (fun _ _ _ h => h) (Or.inr ⟨by rfl, rfl⟩) ?_ ?_
                      rotate_left
                      · simp only [Act.put, List.setIfInBounds_toArray, List.set_cons_zero, List.set_cons_succ, i64_w, i32_w]
                        rfl
                      try simp only [c475b0, Bool.not_true, Bool.not_false]
                      refine pure_ (i := 20) (N := some 48) (v := undef) (a' := ?_) #[true, true, true, true, true, true, true, true, true, true, true, true, true, true, true, true, true, true, true, true, true, false, false, false, false] rfl rfl (by kernel_rfl) (fun _ _ _ h => h) (Or.inr ⟨by rfl, rfl⟩) ?_ ?_
                      rotate_left
                      · simp only [Act.put, List.setIfInBounds_toArray, List.set_cons_zero, List.set_cons_succ, i64_w, i32_w]
                        rfl
                      try simp only [c475b0, Bool.not_true, Bool.not_false]
                      refine pure_ (i := 21) (N := some 49) (v := undef) (a' := ?_) #[true, true, true, true, true, true, true, true, true, true, true, true, true, true, true, true, true, true, true, true, true, true, false, false, false] rfl rfl (by kernel_rfl) (fun _ _ _ h => h) (Or.inr ⟨by rfl, rfl⟩) ?_ ?_
                      rotate_left
                      · simp only [Act.put, List.setIfInBounds_toArray, List.set_cons_zero, List.set_cons_succ, i64_w, i32_w]
                        rfl
                      try simp only [c474b0, Bool.not_true, Bool.not_false]
                      refine pure_ (i := 22) (N := some 50) (v := ?_) (a' := ?_) #[true, true, true, true, true, true, true, true, true, true, true, true, true, true, true, true, true, true, true, true, true, true, true, false, false] rfl rfl (by kernel_rfl) (fun _ _ _ h => h) (Or.inl ⟨by rfl, ?_⟩) ?_ ?_
                      rotate_left
                      · intro w'
                        go_simp
                        with_reducible rfl
                      rotate_left
                      · simp only [Act.put, List.setIfInBounds_toArray, List.set_cons_zero, List.set_cons_succ, i64_w, i32_w]
                        rfl
                      refine pure_ (i := 23) (N := some 51) (v := ?_) (a' := ?_) #[true, true, true, true, true, true, true, true, true, true, true, true, true, true, true, true, true, true, true, true, true, true, true, true, false] rfl rfl (by kernel_rfl) (fun _ _ _ h => h) (Or.inl ⟨by rfl, ?_⟩) ?_ ?_
                      rotate_left
                      · intro w'
                        go_simp
                        with_reducible rfl
                      rotate_left
                      · simp only [Act.put, List.setIfInBounds_toArray, List.set_cons_zero, List.set_cons_succ, i64_w, i32_w]
                        rfl
                      refine pure_ (i := 24) (N := some 2) (v := ?_) (a' := ?_) #[true, true, true, true, true, true, true, true, true, true, true, true, true, true, true, true, true, true, true, true, true, true, true, true, true] rfl rfl (by kernel_rfl) (fun _ _ _ h => h) (Or.inl ⟨by rfl, ?_⟩) ?_ ?_
                      rotate_left
                      · intro w'
                        go_simp
                        with_reducible rfl
                      rotate_left
                      · simp only [Act.put, List.setIfInBounds_toArray, List.set_cons_zero, List.set_cons_succ, i64_w, i32_w]
                        rfl
                      refine done_ (by kernel_rfl) ?_
                      replace HS : Aside0 (Sep (fps []) w [] w468) := ⟨HS.out.sub (.cons _ .slnil)⟩
                      go_wp2_with fail
                      go_ret
                      rw [← some_eq H]
                      exact ⟨(by first | rfl | (simp [IntKind.wrap_u32]; done)), HS.out⟩
                    · have H := if_no c475 H
                      have c475b0 : (a381 == 3) = false := beq_eq_false_iff_ne.mpr c475
                      have c475b1 : (a381 != 3) = true := bne_iff_ne.mpr c475
                      clear c475
                      try simp only [c475b0, Bool.not_true, Bool.not_false]
                      refine pure_ (i := 19) (N := some 47) (v := ?_) (a' := ?_) #[true, true, true, true, true, true, true, true, true, true, true, true, true, true, true, true, true, true, true, true, false, false, false, false, false] rfl rfl (by kernel_rfl) (fun _ _ _ h => h) (Or.inl ⟨by rfl, ?_⟩) ?_ ?_
                      rotate_left
                      · intro w'
                        go_simp
                        with_reducible rfl
                      rotate_left
                      · simp only [Act.put, List.setIfInBounds_toArray, List.set_cons_zero, List.set_cons_succ, i64_w, i32_w]
                        rfl
                      try simp only [c475b0, Bool.not_true, Bool.not_false]
                      refine take_ (i := 20) (N := some 48) (v := ?_) (a' := ?_) #[true, true, true, true, true, true, true, true, true, true, true, true, true, true, true, true, true, true, true, true, true, false, false, false, false] rfl rfl (by kernel_rfl) (fun _ _ _ h => h) (Or.inl ⟨by rfl, ?_⟩) hHeld ?_ ?_
                      rotate_left
                      · rintro w' hS'
                        obtain ⟨s0, s1, s2, s3, s4, s5, s6, s7, s8, s9, s10, s11⟩ := hS'
                        go_simp
                        with_reducible rfl
                      rotate_left
                      · simp only [Act.put, List.setIfInBounds_toArray, List.set_cons_zero, List.set_cons_succ, i64_w, i32_w]
                        rfl
                      try simp only [c475b0, Bool.not_true, Bool.not_false]
                      refine pure_ (i := 21) (N := some 49) (v := ?_) (a' := ?_) #[true, true, true, true, true, true, true, true, true, true, true, true, true, true, true, true, true, true, true, true, true, true, false, false, false] rfl rfl (by kernel_rfl) (fun _ _ _ h => h) (Or.inl ⟨by rfl, ?_⟩) ?_ ?_
                      rotate_left
                      · intro w'
                        go_simp
                        with_reducible rfl
                      rotate_left
                      · simp only [Act.put, List.setIfInBounds_toArray, List.set_cons_zero, List.set_cons_succ, i64_w, i32_w]
                        rfl
                      try simp only [c474b0, Bool.not_true, Bool.not_false]
                      refine pure_ (i := 22) (N := some 50) (v := ?_) (a' := ?_) #[true, true, true, true, true, true, true, true, true, true, true, true, true, true, true, true, true, true, true, true, true, true, true, false, false] rfl rfl (by kernel_rfl) (fun _ _ _ h => h) (Or.inl ⟨by rfl, ?_⟩) ?_ ?_
                      rotate_left
                      · intro w'
                        go_simp
                        with_reducible rfl
                      rotate_left
                      · simp only [Act.put, List.setIfInBounds_toArray, List.set_cons_zero, List.set_cons_succ, i64_w, i32_w]
                        rfl
                      refine pure_ (i := 23) (N := some 51) (v := ?_) (a' := ?_) #[true, true, true, true, true, true, true, true, true, true, true, true, true, true, true, true, true, true, true, true, true, true, true, true, false] rfl rfl (by kernel_rfl) (fun _ _ _ h => h) (Or.inl ⟨by rfl, ?_⟩) ?_ ?_
                      rotate_left
                      · intro w'
                        go_simp
                        with_reducible rfl
                      rotate_left
                      · simp only [Act.put, List.setIfInBounds_toArray, List.set_cons_zero, List.set_cons_succ, i64_w, i32_w]
                        rfl
                      refine pure_ (i := 24) (N := some 2) (v := ?_) (a' := ?_) #[true, true, true, true, true, true, true, true, true, true, true, true, true, true, true, true, true, true, true, true, true, true, true, true, true] rfl rfl (by kernel_rfl) (fun _ _ _ h => h) (Or.inl ⟨by rfl, ?_⟩) ?_ ?_
                      rotate_left
                      · intro w'
                        go_simp
                        with_reducible rfl
                      rotate_left
                      · simp only [Act.put, List.setIfInBounds_toArray, List.set_cons_zero, List.set_cons_succ, i64_w, i32_w]
                        rfl
                      refine done_ (by kernel_rfl) ?_
                      replace HS : Aside0 (Sep (fps []) w [] w468) := ⟨HS.out.sub (.cons _ .slnil)⟩
                      go_wp2_with fail
                      go_ret
                      rw [← some_eq H]
                      exact ⟨(by first | rfl | (simp [IntKind.wrap_u32]; done)), HS.out⟩
                  · have H := if_no c474 H
                    have c474b0 : decide (a387 < 1048576) = false := decide_eq_false c474
                    clear c474
                    try simp only [c474b0, Bool.not_true, Bool.not_false]
                    refine pure_ (i := 15) (N := some 43) (v := undef) (a' := ?_) #[true, true, true, true, true, true, true, true, true, true, true, true, true, true, true, true, false, false, false, false, false, false, false, false, false] rfl rfl (by kernel_rfl) (fun _ _ _ h => h) (Or.inr ⟨by rfl, rfl⟩) ?_ ?_
                    rotate_left
                    · simp only [Act.put, List.setIfInBounds_toArray, List.set_cons_zero, List.set_cons_succ, i64_w, i32_w]
                      rfl
                    try simp only [c474b0, Bool.not_true, Bool.not_false]
                    refine pure_ (i := 16) (N := some 44) (v := undef) (a' := ?_) #[true, true, true, true, true, true, true, true, true, true, true, true, true, true, true, true, true, false, false, false, false, false, false, false, false] rfl rfl (by kernel_rfl) (fun _ _ _ h => h) (Or.inr ⟨by rfl, rfl⟩) ?_ ?_
                    rotate_left
                    · simp only [Act.put, List.setIfInBounds_toArray, List.set_cons_zero, List.set_cons_succ, i64_w, i32_w]
                      rfl
                    try simp only [c474b0, Bool.not_true, Bool.not_false]
                    refine pure_ (i := 17) (N := some 45) (v := undef) (a' := ?_) #[true, true, true, true, true, true, true, true, true, true, true, true, true, true, true, true, true, true, false, false, false, false, false, false, false] rfl rfl (by kernel_rfl) (fun _ _ _ h => h) (Or.inr ⟨by rfl, rfl⟩) ?_ ?_
                    rotate_left
                    · simp only [Act.put, List.setIfInBounds_toArray, List.set_cons_zero, List.set_cons_succ, i64_w, i32_w]
                      rfl
                    try simp only [c474b0, Bool.not_true, Bool.not_false]
                    refine pure_ (i := 18) (N := some 46) (v := undef) (a' := ?_) #[true, true, true, true, true, true, true, true, true, true, true, true, true, true, true, true, true, true, true, false, false, false, false, false, false] rfl rfl (by kernel_rfl) (fun _ _ _ h => h) (Or.inr ⟨by rfl, rfl⟩) ?_ ?_
                    rotate_left
                    · simp only [Act.put, List.setIfInBounds_toArray, List.set_cons_zero, List.set_cons_succ, i64_w, i32_w]
                      rfl
                    refine pure_ (i := 19) (N := some 47) (v := undef) (a' := ?_) #[true, true, true, true, true, true, true, true, true, true, true, true, true, true, true, true, true, true, true, true, false, false, false, false, false] rfl rfl (by kernel_rfl) (fun _ _ _ h => h) (Or.inr ⟨by rfl, rfl⟩) ?_ ?_
                    rotate_left
                    · simp only [Act.put, List.setIfInBounds_toArray, List.set_cons_zero, List.set_cons_succ, i64_w, i32_w]
                      rfl
                    refine pure_ (i := 20) (N := some 48) (v := undef) (a' := ?_) #[true, true, true, true, true, true, true, true, true, true, true, true, true, true, true, true, true, true, true, true, true, false, false, false, false] rfl rfl (by kernel_rfl) (fun _ _ _ h => h) (Or.inr ⟨by rfl, rfl⟩) ?_ ?_
                    rotate_left
                    · simp only [Act.put, List.setIfInBounds_toArray, List.set_cons_zero, List.set_cons_succ, i64_w, i32_w]
                      rfl
                    refine pure_ (i := 21) (N := some 49) (v := undef) (a' := ?_) #[true, true, true, true, true, true, true, true, true, true, true, true, true, true, true, true, true, true, true, true, true, true, false, false, false] rfl rfl (by kernel_rfl) (fun _ _ _ h => h) (Or.inr ⟨by rfl, rfl⟩) ?_ ?_
                    rotate_left
                    · simp only [Act.put, List.setIfInBounds_toArray, List.set_cons_zero, List.set_cons_succ, i64_w, i32_w]
                      rfl
                    try simp only [c474b0, Bool.not_true, Bool.not_false]
                    refine pure_ (i := 22) (N := some 50) (v := undef) (a' := ?_) #[true, true, true, true, true, true, true, true, true, true, true, true, true, true, true, true, true, true, true, true, true, true, true, false, false] rfl rfl (by kernel_rfl) (fun _ _ _ h => h) (Or.inr ⟨by rfl, rfl⟩) ?_ ?_
                    rotate_left
                    · simp only [Act.put, List.setIfInBounds_toArray, List.set_cons_zero, List.set_cons_succ, i64_w, i32_w]
                      rfl
                    refine pure_ (i := 23) (N := some 51) (v := ?_) (a' := ?_) #[true, true, true, true, true, true, true, true, true, true, true, true, true, true, true, true, true, true, true, true, true, true, true, true, false] rfl rfl (by kernel_rfl) (fun _ _ _ h => h) (Or.inl ⟨by rfl, ?_⟩) ?_ ?_
                    rotate_left
                    · intro w'
                      go_simp
                      with_reducible rfl
                    rotate_left
                    · simp only [Act.put, List.setIfInBounds_toArray, List.set_cons_zero, List.set_cons_succ, i64_w, i32_w]
                      rfl
                    refine pure_ (i := 24) (N := some 2) (v := ?_) (a' := ?_) #[true, true, true, true, true, true, true, true, true, true, true, true, true, true, true, true, true, true, true, true, true, true, true, true, true] rfl rfl (by kernel_rfl) (fun _ _ _ h => h) (Or.inl ⟨by rfl, ?_⟩) ?_ ?_
                    rotate_left
                    · intro w'
                      go_simp
                      with_reducible rfl
                    rotate_left
                    · simp only [Act.put, List.setIfInBounds_toArray, List.set_cons_zero, List.set_cons_succ, i64_w, i32_w]
                      rfl
                    refine done_ (by kernel_rfl) ?_
                    replace HS : Aside0 (Sep (fps []) w [] w468) := ⟨HS.out.sub (.cons _ .slnil)⟩
                    go_wp2_with fail
                    go_ret
                    rw [← some_eq H]
                    exact ⟨(by first | rfl | (simp [IntKind.wrap_u32]; done)), HS.out⟩
                · have H := if_no c473 H
                  have c473b0 : decide (0 ≤ a387) = false := decide_eq_false c473
                  clear c473
                  try simp only [c473b0, Bool.not_true, Bool.not_false]
                  refine pure_ (i := 10) (N := some 38) (v := undef) (a' := ?_) #[true, true, true, true, true, true, true, true, true, true, true, false, false, false, false, false, false, false, false, false, false, false, false, false, false] rfl rfl (by kernel_rfl) (fun _ _ _ h => h) (Or.inr ⟨by rfl, rfl⟩) ?_ ?_
                  rotate_left
                  · simp only [Act.put, List.setIfInBounds_toArray, List.set_cons_zero, List.set_cons_succ, i64_w, i32_w]
                    rfl
                  try simp only [c473b0, Bool.not_true, Bool.not_false]
                  refine pure_ (i := 11) (N := some 39) (v := undef) (a' := ?_) #[true, true, true, true, true, true, true, true, true, true, true, true, false, false, false, false, false, false, false, false, false, false, false, false, false] rfl rfl (by kernel_rfl) (fun _ _ _ h => h) (Or.inr ⟨by rfl, rfl⟩) ?_ ?_
                  rotate_left
                  · simp only [Act.put, List.setIfInBounds_toArray, List.set_cons_zero, List.set_cons_succ, i64_w, i32_w]
                    rfl
                  try simp only [c473b0, Bool.not_true, Bool.not_false]
                  refine pure_ (i := 12) (N := some 40) (v := undef) (a' := ?_) #[true, true, true, true, true, true, true, true, true, true, true, true, true, false, false, false, false, false, false, false, false, false, false, false, false] rfl rfl (by kernel_rfl) (fun _ _ _ h => h) (Or.inr ⟨by rfl, rfl⟩) ?_ ?_
                  rotate_left
                  · simp only [Act.put, List.setIfInBounds_toArray, List.set_cons_zero, List.set_cons_succ, i64_w, i32_w]
                    rfl
                  refine pure_ (i := 13) (N := some 41) (v := ?_) (a' := ?_) #[true, true, true, true, true, true, true, true, true, true, true, true, true, true, false, false, false, false, false, false, false, false, false, false, false] rfl rfl (by kernel_rfl) (fun _ _ _ h => h) (Or.inl ⟨by rfl, ?_⟩) ?_ ?_
                  rotate_left
                  · intro w'
                    go_simp
                    with_reducible rfl
                  rotate_left
                  · simp only [Act.put, List.setIfInBounds_toArray, List.set_cons_zero, List.set_cons_succ, i64_w, i32_w]
                    rfl
                  refine pure_ (i := 14) (N := some 42) (v := ?_) (a' := ?_) #[true, true, true, true, true, true, true, true, true, true, true, true, true, true, true, false, false, false, false, false, false, false, false, false, false] rfl rfl (by kernel_rfl) (fun _ _ _ h => h) (Or.inl ⟨by rfl, ?_⟩) ?_ ?_
                  rotate_left
                  · intro w'
                    go_simp
                    with_reducible rfl
                  rotate_left
                  · simp only [Act.put, List.setIfInBounds_toArray, List.set_cons_zero, List.set_cons_succ, i64_w, i32_w]
                    rfl
                  refine pure_ (i := 15) (N := some 43) (v := undef) (a' := ?_) #[true, true, true, true, true, true, true, true, true, true, true, true, true, true, true, true, false, false, false, false, false, false, false, false, false] rfl rfl (by kernel_rfl) (fun _ _ _ h => h) (Or.inr ⟨by rfl, rfl⟩) ?_ ?_
                  rotate_left
                  · simp only [Act.put, List.setIfInBounds_toArray, List.set_cons_zero, List.set_cons_succ, i64_w, i32_w]
                    rfl
                  refine pure_ (i := 16) (N := some 44) (v := undef) (a' := ?_) #[true, true, true, true, true, true, true, true, true, true, true, true, true, true, true, true, true, false, false, false, false, false, false, false, false] rfl rfl (by kernel_rfl) (fun _ _ _ h => h) (Or.inr ⟨by rfl, rfl⟩) ?_ ?_
                  rotate_left
                  · simp only [Act.put, List.setIfInBounds_toArray, List.set_cons_zero, List.set_cons_succ, i64_w, i32_w]
                    rfl
                  refine pure_ (i := 17) (N := some 45) (v := undef) (a' := ?_) #[true, true, true, true, true, true, true, true, true, true, true, true, true, true, true, true, true, true, false, false, false, false, false, false, false] rfl rfl (by kernel_rfl) (fun _ _ _ h => h) (Or.inr ⟨by rfl, rfl⟩) ?_ ?_
                  rotate_left
                  · simp only [Act.put, List.setIfInBounds_toArray, List.set_cons_zero, List.set_cons_succ, i64_w, i32_w]
                    rfl
                  refine pure_ (i := 18) (N := some 46) (v := undef) (a' := ?_) #[true, true, true, true, true, true, true, true, true, true, true, true, true, true, true, true, true, true, true, false, false, false, false, false, false] rfl rfl (by kernel_rfl) (fun _ _ _ h => h) (Or.inr ⟨by rfl, rfl⟩) ?_ ?_
                  rotate_left
                  · simp only [Act.put, List.setIfInBounds_toArray, List.set_cons_zero, List.set_cons_succ, i64_w, i32_w]
                    rfl
                  refine pure_ (i := 19) (N := some 47) (v := undef) (a' := ?_) #[true, true, true, true, true, true, true, true, true, true, true, true, true, true, true, true, true, true, true, true, false, false, false, false, false] rfl rfl (by kernel_rfl) (fun _ _ _ h => h) (Or.inr ⟨by rfl, rfl⟩) ?_ ?_
                  rotate_left
                  · simp only [Act.put, List.setIfInBounds_toArray, List.set_cons_zero, List.set_cons_succ, i64_w, i32_w]
                    rfl
                  refine pure_ (i := 20) (N := some 48) (v := undef) (a' := ?_) #[true, true, true, true, true, true, true, true, true, true, true, true, true, true, true, true, true, true, true, true, true, false, false, false, false] rfl rfl (by kernel_rfl) (fun _ _ _ h => h) (Or.inr ⟨by rfl, rfl⟩) ?_ ?_
                  rotate_left
                  · simp only [Act.put, List.setIfInBounds_toArray, List.set_cons_zero, List.set_cons_succ, i64_w, i32_w]
                    rfl
                  refine pure_ (i := 21) (N := some 49) (v := undef) (a' := ?_) #[true, true, true, true, true, true, true, true, true, true, true, true, true, true, true, true, true, true, true, true, true, true, false, false, false] rfl rfl (by kernel_rfl) (fun _ _ _ h => h) (Or.inr ⟨by rfl, rfl⟩) ?_ ?_
                  rotate_left
                  · simp only [Act.put, List.setIfInBounds_toArray, List.set_cons_zero, List.set_cons_succ, i64_w, i32_w]
                    rfl
                  refine pure_ (i := 22) (N := some 50) (v := undef) (a' := ?_) #[true, true, true, true, true, true, true, true, true, true, true, true, true, true, true, true, true, true, true, true, true, true, true, false, false] rfl rfl (by kernel_rfl) (fun _ _ _ h => h) (Or.inr ⟨by rfl, rfl⟩) ?_ ?_
                  rotate_left
                  · simp only [Act.put, List.setIfInBounds_toArray, List.set_cons_zero, List.set_cons_succ, i64_w, i32_w]
                    rfl
                  refine pure_ (i := 23) (N := some 51) (v := ?_) (a' := ?_) #[true, true, true, true, true, true, true, true, true, true, true, true, true, true, true, true, true, true, true, true, true, true, true, true, false] rfl rfl (by kernel_rfl) (fun _ _ _ h => h) (Or.inl ⟨by rfl, ?_⟩) ?_ ?_
                  rotate_left
                  · intro w'
                    go_simp
                    with_reducible rfl
                  rotate_left
                  · simp only [Act.put, List.setIfInBounds_toArray, List.set_cons_zero, List.set_cons_succ, i64_w, i32_w]
                    rfl
                  refine pure_ (i := 24) (N := some 2) (v := ?_) (a' := ?_) #[true, true, true, true, true, true, true, true, true, true, true, true, true, true, true, true, true, true, true, true, true, true, true, true, true] rfl rfl (by kernel_rfl) (fun _ _ _ h => h) (Or.inl ⟨by rfl, ?_⟩) ?_ ?_
                  rotate_left
                  · intro w'
                    go_simp
                    with_reducible rfl
                  rotate_left
                  · simp only [Act.put, List.setIfInBounds_toArray, List.set_cons_zero, List.set_cons_succ, i64_w, i32_w]
                    rfl
                  refine done_ (by kernel_rfl) ?_
                  replace HS : Aside0 (Sep (fps []) w [] w468) := ⟨HS.out.sub (.cons _ .slnil)⟩
                  go_wp2_with fail
                  go_ret
                  rw [← some_eq H]
                  exact ⟨(by first | rfl | (simp [IntKind.wrap_u32]; done)), HS.out⟩
              · have H := if_no c472 H
                have c472b0 : b470 = false := by simpa using c472
                have c472b1 : (!b470) = true := by rw [c472b0]; rfl
                clear c472
                try simp only [c472b0, Bool.not_true, Bool.not_false]
                refine pure_ (i := 5) (N := some 33) (v := undef) (a' := ?_) #[true, true, true, true, true, true, false, false, false, false, false, false, false, false, false, false, false, false, false, false, false, false, false, false, false] rfl rfl (by kernel_rfl) (fun _ _ _ h => h) (Or.inr ⟨by rfl, rfl⟩) ?_ ?_
                rotate_left
                · simp only [Act.put, List.setIfInBounds_toArray, List.set_cons_zero, List.set_cons_succ, i64_w, i32_w]
                  rfl
                try simp only [c472b0, Bool.not_true, Bool.not_false]
                refine pure_ (i := 6) (N := some 34) (v := undef) (a' := ?_) #[true, true, true, true, true, true, true, false, false, false, false, false, false, false, false, false, false, false, false, false, false, false, false, false, false] rfl rfl (by kernel_rfl) (fun _ _ _ h => h) (Or.inr ⟨by rfl, rfl⟩) ?_ ?_
                rotate_left
                · simp only [Act.put, List.setIfInBounds_toArray, List.set_cons_zero, List.set_cons_succ, i64_w, i32_w]
                  rfl
                try simp only [c472b0, Bool.not_true, Bool.not_false]
                refine pure_ (i := 7) (N := some 35) (v := undef) (a' := ?_) #[true, true, true, true, true, true, true, true, false, false, false, false, false, false, false, false, false, false, false, false, false, false, false, false, false] rfl rfl (by kernel_rfl) (fun _ _ _ h => h) (Or.inr ⟨by rfl, rfl⟩) ?_ ?_
                rotate_left
                · simp only [Act.put, List.setIfInBounds_toArray, List.set_cons_zero, List.set_cons_succ, i64_w, i32_w]
                  rfl
                refine pure_ (i := 8) (N := some 36) (v := ?_) (a' := ?_) #[true, true, true, true, true, true, true, true, true, false, false, false, false, false, false, false, false, false, false, false, false, false, false, false, false] rfl rfl (by kernel_rfl) (fun _ _ _ h => h) (Or.inl ⟨by rfl, ?_⟩) ?_ ?_
                rotate_left
                · intro w'
                  go_simp
                  with_reducible rfl
                rotate_left
                · simp only [Act.put, List.setIfInBounds_toArray, List.set_cons_zero, List.set_cons_succ, i64_w, i32_w]
                  rfl
                refine pure_ (i := 9) (N := some 37) (v := ?_) (a' := ?_) #[true, true, true, true, true, true, true, true, true, true, false, false, false, false, false, false, false, false, false, false, false, false, false, false, false] rfl rfl (by kernel_rfl) (fun _ _ _ h => h) (Or.inl ⟨by rfl, ?_⟩) ?_ ?_
                rotate_left
                · intro w'
                  go_simp
                  with_reducible rfl
                rotate_left
                · simp only [Act.put, List.setIfInBounds_toArray, List.set_cons_zero, List.set_cons_succ, i64_w, i32_w]
                  rfl
                refine pure_ (i := 10) (N := some 38) (v := undef) (a' := ?_) #[true, true, true, true, true, true, true, true, true, true, true, false, false, false, false, false, false, false, false, false, false, false, false, false, false] rfl rfl (by kernel_rfl) (fun _ _ _ h => h) (Or.inr ⟨by rfl, rfl⟩) ?_ ?_
                rotate_left
                · simp only [Act.put, List.setIfInBounds_toArray, List.set_cons_zero, List.set_cons_succ, i64_w, i32_w]
                  rfl
                refine pure_ (i := 11) (N := some 39) (v := undef) (a' := ?_) #[true, true, true, true, true, true, true, true, true, true, true, true, false, false, false, false, false, false, false, false, false, false, false, false, false] rfl rfl (by kernel_rfl) (fun _ _ _ h => h) (Or.inr ⟨by rfl, rfl⟩) ?_ ?_
                rotate_left
                · simp only [Act.put, List.setIfInBounds_toArray, List.set_cons_zero, List.set_cons_succ, i64_w, i32_w]
                  rfl
                refine pure_ (i := 12) (N := some 40) (v := undef) (a' := ?_) #[true, true, true, true, true, true, true, true, true, true, true, true, true, false, false, false, false, false, false, false, false, false, false, false, false] rfl rfl (by kernel_rfl) (fun _ _ _ h => h) (Or.inr ⟨by rfl, rfl⟩) ?_ ?_
                rotate_left
                · simp only [Act.put, List.setIfInBounds_toArray, List.set_cons_zero, List.set_cons_succ, i64_w, i32_w]
                  rfl
                refine pure_ (i := 13) (N := some 41) (v := ?_) (a' := ?_) #[true, true, true, true, true, true, true, true, true, true, true, true, true, true, false, false, false, false, false, false, false, false, false, false, false] rfl rfl (by kernel_rfl) (fun _ _ _ h => h) (Or.inl ⟨by rfl, ?_⟩) ?_ ?_
                rotate_left
                · intro w'
                  go_simp
                  with_reducible rfl
                rotate_left
                · simp only [Act.put, List.setIfInBounds_toArray, List.set_cons_zero, List.set_cons_succ, i64_w, i32_w]
                  rfl
                refine pure_ (i := 14) (N := some 42) (v := ?_) (a' := ?_) #[true, true, true, true, true, true, true, true, true, true, true, true, true, true, true, false, false, false, false, false, false, false, false, false, false] rfl rfl (by kernel_rfl) (fun _ _ _ h => h) (Or.inl ⟨by rfl, ?_⟩) ?_ ?_
                rotate_left
                · intro w'
                  go_simp
                  with_reducible rfl
                rotate_left
                · simp only [Act.put, List.setIfInBounds_toArray, List.set_cons_zero, List.set_cons_succ, i64_w, i32_w]
                  rfl
                refine pure_ (i := 15) (N := some 43) (v := undef) (a' := ?_) #[true, true, true, true, true, true, true, true, true, true, true, true, true, true, true, true, false, false, false, false, false, false, false, false, false] rfl rfl (by kernel_rfl) (fun _ _ _ h => h) (Or.inr ⟨by rfl, rfl⟩) ?_ ?_
                rotate_left
                · simp only [Act.put, List.setIfInBounds_toArray, List.set_cons_zero, List.set_cons_succ, i64_w, i32_w]
                  rfl
                refine pure_ (i := 16) (N := some 44) (v := undef) (a' := ?_) #[true, true, true, true, true, true, true, true, true, true, true, true, true, true, true, true, true, false, false, false, false, false, false, false, false] rfl rfl (by kernel_rfl) (fun _ _ _ h => h) (Or.inr ⟨by rfl, rfl⟩) ?_ ?_
                rotate_left
                · simp only [Act.put, List.setIfInBounds_toArray, List.set_cons_zero, List.set_cons_succ, i64_w, i32_w]
                  rfl
                refine pure_ (i := 17) (N := some 45) (v := undef) (a' := ?_) #[true, true, true, true, true, true, true, true, true, true, true, true, true, true, true, true, true, true, false, false, false, false, false, false, false] rfl rfl (by kernel_rfl) (fun _ _ _ h => h) (Or.inr ⟨by rfl, rfl⟩) ?_ ?_
                rotate_left
                · simp only [Act.put, List.setIfInBounds_toArray, List.set_cons_zero, List.set_cons_succ, i64_w, i32_w]
                  rfl
                refine pure_ (i := 18) (N := some 46) (v := undef) (a' := ?_) #[true, true, true, true, true, true, true, true, true, true, true, true, true, true, true, true, true, true, true, false, false, false, false, false, false] rfl rfl (by kernel_rfl) (fun _ _ _ h => h) (Or.inr ⟨by rfl, rfl⟩) ?_ ?_
                rotate_left
                · simp only [Act.put, List.setIfInBounds_toArray, List.set_cons_zero, List.set_cons_succ, i64_w, i32_w]
                  rfl
                refine pure_ (i := 19) (N := some 47) (v := undef) (a' := ?_) #[true, true, true, true, true, true, true, true, true, true, true, true, true, true, true, true, true, true, true, true, false, false, false, false, false] rfl rfl (by kernel_rfl) (fun _ _ _ h => h) (Or.inr ⟨by rfl, rfl⟩) ?_ ?_
                rotate_left
                · simp only [Act.put, List.setIfInBounds_toArray, List.set_cons_zero, List.set_cons_succ, i64_w, i32_w]
                  rfl
                refine pure_ (i := 20) (N := some 48) (v := undef) (a' := ?_) #[true, true, true, true, true, true, true, true, true, true, true, true, true, true, true, true, true, true, true, true, true, false, false, false, false] rfl rfl (by kernel_rfl) (fun _ _ _ h => h) (Or.inr ⟨by rfl, rfl⟩) ?_ ?_
                rotate_left
                · simp only [Act.put, List.setIfInBounds_toArray, List.set_cons_zero, List.set_cons_succ, i64_w, i32_w]
                  rfl
                refine pure_ (i := 21) (N := some 49) (v := undef) (a' := ?_) #[true, true, true, true, true, true, true, true, true, true, true, true, true, true, true, true, true, true, true, true, true, true, false, false, false] rfl rfl (by kernel_rfl) (fun _ _ _ h => h) (Or.inr ⟨by rfl, rfl⟩) ?_ ?_
                rotate_left
                · simp only [Act.put, List.setIfInBounds_toArray, List.set_cons_zero, List.set_cons_succ, i64_w, i32_w]
                  rfl
                refine pure_ (i := 22) (N := some 50) (v := undef) (a' := ?_) #[true, true, true, true, true, true, true, true, true, true, true, true, true, true, true, true, true, true, true, true, true, true, true, false, false] rfl rfl (by kernel_rfl) (fun _ _ _ h => h) (Or.inr ⟨by rfl, rfl⟩) ?_ ?_
                rotate_left
                · simp only [Act.put, List.setIfInBounds_toArray, List.set_cons_zero, List.set_cons_succ, i64_w, i32_w]
                  rfl
                refine pure_ (i := 23) (N := some 51) (v := ?_) (a' := ?_) #[true, true, true, true, true, true, true, true, true, true, true, true, true, true, true, true, true, true, true, true, true, true, true, true, false] rfl rfl (by kernel_rfl) (fun _ _ _ h => h) (Or.inl ⟨by rfl, ?_⟩) ?_ ?_
                rotate_left
                · intro w'
                  go_simp
                  with_reducible rfl
                rotate_left
                · simp only [Act.put, List.setIfInBounds_toArray, List.set_cons_zero, List.set_cons_succ, i64_w, i32_w]
                  rfl
                refine pure_ (i := 24) (N := some 2) (v := ?_) (a' := ?_) #[true, true, true, true, true, true, true, true, true, true, true, true, true, true, true, true, true, true, true, true, true, true, true, true, true] rfl rfl (by kernel_rfl) (fun _ _ _ h => h) (Or.inl ⟨by rfl, ?_⟩) ?_ ?_
                rotate_left
                · intro w'
                  go_simp
                  with_reducible rfl
                rotate_left
                · simp only [Act.put, List.setIfInBounds_toArray, List.set_cons_zero, List.set_cons_succ, i64_w, i32_w]
                  rfl
                refine done_ (by kernel_rfl) ?_
                replace HS : Aside0 (Sep (fps []) w [] w468) := ⟨HS.out.sub (.cons _ .slnil)⟩
                go_wp2_with fail
                go_ret
                rw [← some_eq H]
                exact ⟨(by first | rfl | (simp [IntKind.wrap_u32]; done)), HS.out⟩
            · have H := if_no c463 H
              have c463b0 : (a381 == 0) = false := beq_eq_false_iff_ne.mpr c463
              have c463b1 : (a381 != 0) = true := bne_iff_ne.mpr c463
              clear c463
              by_cases c476 : a381 = 3
              · have H := if_yes c476 H
                have c476b0 : (a381 == 3) = true := beq_iff_eq.mpr c476
                have c476b1 : (a381 != 3) = false := bne_eq_false_iff_eq.mpr c476
                clear c476
                have hc458 : w449.cell? ⟨g388, 0, none⟩ = some (.int .i64 a381) := blk_cellv (HS.out.at0) 0 rfl
                go_wp2_with fail
                clear hc458
                refine start_ (n := 25) (S := (fun w' => w'.cell? ⟨g388, 0, none⟩ = some (.int .i64 a381) ∧ w'.cell? ⟨g388, 1, none⟩ = some (.int .i64 a382) ∧ w'.cell? ⟨g388, 2, none⟩ = some (.int .i64 a383) ∧ w'.cell? ⟨g388, 3, none⟩ = some (.int .i64 a384) ∧ w'.cell? ⟨g388, 4, none⟩ = some (.int .i64 a385) ∧ w'.cell? ⟨g388, 5, none⟩ = some (.int .i64 a386) ∧ w'.cell? ⟨g388, 6, none⟩ = some (.int .i64 a387) ∧ w'.cell? ⟨0, 0, none⟩ = some (.int .i64 0) ∧ w'.cell? ⟨0, 1, none⟩ = some (.int .i64 0) ∧ w'.cell? ⟨0, 2, none⟩ = some (.int .i64 0) ∧ w'.cell? ⟨0, 3, none⟩ = some (.int .i64 0) ∧ w'.cell? ⟨0, 4, none⟩ = some (.int .i64 0))) (ds := []) #[false, false, false, false, false, false, false, false, false, false, false, false, false, false, false, false, false, false, false, false, false, false, false, false, false] (by kernel_rfl) rfl rfl (⟨blk_cellv ((HS.out.drew).at0) 0 rfl, blk_cellv ((HS.out.drew).at0) 1 rfl, blk_cellv ((HS.out.drew).at0) 2 rfl, blk_cellv ((HS.out.drew).at0) 3 rfl, blk_cellv ((HS.out.drew).at0) 4 rfl, blk_cellv ((HS.out.drew).at0) 5 rfl, blk_cellv ((HS.out.drew).at0) 6 rfl, Gl.cell HGl0.out (HS.out.drew).fr 0 rfl, Gl.cell HGl0.out (HS.out.drew).fr 1 rfl, Gl.cell HGl0.out (HS.out.drew).fr 2 rfl, Gl.cell HGl0.out (HS.out.drew).fr 3 rfl, Gl.cell HGl0.out (HS.out.drew).fr 4 rfl⟩) (fun hHeld => ?_)
                have HS_ := Aside0.mk HS.out.drew
                clear HS
                generalize World.drew _ = w478 at HS_ hHeld ⊢
                have HS := HS_
                clear HS_
                refine take_ (i := 0) (N := some 28) (v := ?_) (a' := ?_) #[true, false, false, false, false, false, false, false, false, false, false, false, false, false, false, false, false, false, false, false, false, false, false, false, false] rfl rfl (by kernel_rfl) (fun _ _ _ h => h) (Or.inl ⟨by rfl, ?_⟩) hHeld ?_ ?_
                rotate_left
                · rintro w' hS'
                  obtain ⟨s0, s1, s2, s3, s4, s5, s6, s7, s8, s9, s10, s11⟩ := hS'
                  go_simp
                  with_reducible rfl
                rotate_left
                · simp only [Act.put, List.setIfInBounds_toArray, List.set_cons_zero, List.set_cons_succ, i64_w, i32_w]
                  rfl
                refine take_ (i := 2) (N := some 30) (v := ?_) (a' := ?_) #[true, false, true, false, false, false, false, false, false, false, false, false, false, false, false, false, false, false, false, false, false, false, false, false, false] rfl rfl (by kernel_rfl) (fun _ _ _ h => h) (Or.inl ⟨by rfl, ?_⟩) hHeld ?_ ?_
                rotate_left
                · rintro w' hS'
                  obtain ⟨s0, s1, s2, s3, s4, s5, s6, s7, s8, s9, s10, s11⟩ := hS'
                  go_simp
                  with_reducible rfl
                rotate_left
                · simp only [Act.put, List.setIfInBounds_toArray, List.set_cons_zero, List.set_cons_succ, i64_w, i32_w]
                  rfl
                refine one_ (i := 1) (N := some 29) #[true, true, true, false, false, false, false, false, false, false, false, false, false, false, false, false, false, false, false, false, false, false, false, false, false] rfl rfl (by kernel_rfl) (by decide) (fun K hK => ?_)
                obtain ⟨t466, HA479, H⟩ := bind_some H
                refine goes_ Tryd.func68 (by kernel_rfl) rfl #[.agg #[.int .i64 a381, .int .i64 a382, .int .i64 a383, .int .i64 a384, .int .i64 a385, .int .i64 a386, .int .i64 a387]] (by rfl) rfl rfl (by (try simp only [List.map_toArray, List.map_cons, List.map_nil]); first | done | rfl) ?_
                refine (tag_marks.calls a381 a382 a383 a384 a385 a386 a387 t466 _ ⟨HGl0.out.pass (l := []) HS.out⟩ ⟨Sep.start _⟩ HA479).mono ?_
                rintro e_ w480 ⟨rfl, hS⟩
                replace HS : Aside0 (Sep (fps []) w [b4 g388 a381 a382 a383 a384 a385 a386 a387] w480) := ⟨HS.out.call hS⟩
                clear hS
                refine ⟨_, rfl, ?_⟩
                refine hK.out _ _ (⟨blk_cellv (HS.out.at0) 0 rfl, blk_cellv (HS.out.at0) 1 rfl, blk_cellv (HS.out.at0) 2 rfl, blk_cellv (HS.out.at0) 3 rfl, blk_cellv (HS.out.at0) 4 rfl, blk_cellv (HS.out.at0) 5 rfl, blk_cellv (HS.out.at0) 6 rfl, Gl.cell HGl0.out HS.out.fr 0 rfl, Gl.cell HGl0.out HS.out.fr 1 rfl, Gl.cell HGl0.out HS.out.fr 2 rfl, Gl.cell HGl0.out HS.out.fr 3 rfl, Gl.cell HGl0.out HS.out.fr 4 rfl⟩) (fun hHeld => ?_)
                clear hK K
                refine norm_ (a' := ?_) ?_ ?_
                rotate_left
                · show Act.put _ (some 29) _ = _
                  simp only [Act.put, List.setIfInBounds_toArray, List.set_cons_zero, List.set_cons_succ, i64_w, i32_w]
                  rfl
                obtain ⟨b470, HA482, H⟩ := bind_some H
                have eb481 : ∀ w, (Op.equalIn 10000 108 (.agg #[.int .i64 t466.1, .int .i64 t466.2.1, .int .i64 t466.2.2.1, .int .i64 t466.2.2.2.1, .int .i64 t466.2.2.2.2]) (.agg #[.int .i64 0, .int .i64 0, .int .i64 0, .int .i64 0, .int .i64 0])).run Tryd.prog w = .ok b470 w := some_eq HA482 ▸ run_eq_ints 9998 108 3 5 .i64 [t466.1, t466.2.1, t466.2.2.1, t466.2.2.2.1, t466.2.2.2.2] [0, 0, 0, 0, 0] Tryd.underlying108 (by kernel_rfl) (by kernel_rfl) Tryd.underlying3 (fun _ => by kernel_rfl) rfl rfl
                refine pure_ (i := 3) (N := some 31) (v := ?_) (a' := ?_) #[true, true, true, true, false, false, false, false, false, false, false, false, false, false, false, false, false, false, false, false, false, false, false, false, false] rfl rfl (by kernel_rfl) (fun _ _ _ h => h) (Or.inl ⟨by rfl, ?_⟩) ?_ ?_
                rotate_left
                · intro w'
                  go_simp
                  with_reducible rfl
                rotate_left
                · simp only [Act.put, List.setIfInBounds_toArray, List.set_cons_zero, List.set_cons_succ, i64_w, i32_w]
                  rfl
                refine pure_ (i := 4) (N := some 32) (v := ?_) (a' := ?_) #[true, true, true, true, true, false, false, false, false, false, false, false, false, false, false, false, false, false, false, false, false, false, false, false, false] rfl rfl (by kernel_rfl) (fun _ _ _ h => h) (Or.inl ⟨by rfl, ?_⟩) ?_ ?_
                rotate_left
                · intro w'
                  go_simp
                  with_reducible rfl
                rotate_left
                · simp only [Act.put, List.setIfInBounds_toArray, List.set_cons_zero, List.set_cons_succ, i64_w, i32_w]
                  rfl
                by_cases c483 : b470 = true
                · have H := if_yes c483 H
                  have c483b0 : b470 = true := c483
                  have c483b1 : (!b470) = false := by rw [c483b0]; rfl
                  clear c483
                  try simp only [c483b0, Bool.not_true, Bool.not_false]
                  refine pure_ (i := 5) (N := some 33) (v := ?_) (a' := ?_) #[true, true, true, true, true, true, false, false, false, false, false, false, false, false, false, false, false, false, false, false, false, false, false, false, false] rfl rfl (by kernel_rfl) (fun _ _ _ h => h) (Or.inl ⟨by rfl, ?_⟩) ?_ ?_
                  rotate_left
                  · intro w'
                    go_simp
                    with_reducible rfl
                  rotate_left
                  · simp only [Act.put, List.setIfInBounds_toArray, List.set_cons_zero, List.set_cons_succ, i64_w, i32_w]
                    rfl
                  try simp only [c483b0, Bool.not_true, Bool.not_false]
                  refine take_ (i := 6) (N := some 34) (v := ?_) (a' := ?_) #[true, true, true, true, true, true, true, false, false, false, false, false, false, false, false, false, false, false, false, false, false, false, false, false, false] rfl rfl (by kernel_rfl) (fun _ _ _ h => h) (Or.inl ⟨by rfl, ?_⟩) hHeld ?_ ?_
                  rotate_left
                  · rintro w' hS'
                    obtain ⟨s0, s1, s2, s3, s4, s5, s6, s7, s8, s9, s10, s11⟩ := hS'
                    go_simp
                    with_reducible rfl
                  rotate_left
                  · simp only [Act.put, List.setIfInBounds_toArray, List.set_cons_zero, List.set_cons_succ, i64_w, i32_w]
                    rfl
                  try simp only [c483b0, Bool.not_true, Bool.not_false]
                  refine pure_ (i := 7) (N := some 35) (v := ?_) (a' := ?_) #[true, true, true, true, true, true, true, true, false, false, false, false, false, false, false, false, false, false, false, false, false, false, false, false, false] rfl rfl (by kernel_rfl) (fun _ _ _ h => h) (Or.inl ⟨by rfl, ?_⟩) ?_ ?_
                  rotate_left
                  · intro w'
                    go_simp
                    with_reducible rfl
                  rotate_left
                  · simp only [Act.put, List.setIfInBounds_toArray, List.set_cons_zero, List.set_cons_succ, i64_w, i32_w]
                    rfl
                  refine pure_ (i := 8) (N := some 36) (v := ?_) (a' := ?_) #[true, true, true, true, true, true, true, true, true, false, false, false, false, false, false, false, false, false, false, false, false, false, false, false, false] rfl rfl (by kernel_rfl) (fun _ _ _ h => h) (Or.inl ⟨by rfl, ?_⟩) ?_ ?_
                  rotate_left
                  · intro w'
                    go_simp
                    with_reducible rfl
                  rotate_left
                  · simp only [Act.put, List.setIfInBounds_toArray, List.set_cons_zero, List.set_cons_succ, i64_w, i32_w]
                    rfl
                  refine pure_ (i := 9) (N := some 37) (v := ?_) (a' := ?_) #[true, true, true, true, true, true, true, true, true, true, false, false, false, false, false, false, false, false, false, false, false, false, false, false, false] rfl rfl (by kernel_rfl) (fun _ _ _ h => h) (Or.inl ⟨by rfl, ?_⟩) ?_ ?_
                  rotate_left
                  · intro w'
                    go_simp
                    with_reducible rfl
                  rotate_left
                  · simp only [Act.put, List.setIfInBounds_toArray, List.set_cons_zero, List.set_cons_succ, i64_w, i32_w]
                    rfl
                  by_cases c484 : a387 ≥ 0
                  · have H := if_yes c484 H
                    have c484b0 : decide (0 ≤ a387) = true := decide_eq_true c484
                    clear c484
                    try simp only [c484b0, Bool.not_true, Bool.not_false]
                    refine pure_ (i := 10) (N := some 38) (v := ?_) (a' := ?_) #[true, true, true, true, true, true, true, true, true, true, true, false, false, false, false, false, false, false, false, false, false, false, false, false, false] rfl rfl (by kernel_rfl) (fun _ _ _ h => h) (Or.inl ⟨by rfl, ?_⟩) ?_ ?_
                    rotate_left
                    · intro w'
                      go_simp
                      with_reducible rfl
                    rotate_left
                    · simp only [Act.put, List.setIfInBounds_toArray, List.set_cons_zero, List.set_cons_succ, i64_w, i32_w]
                      rfl
                    try simp only [c484b0, Bool.not_true, Bool.not_false]
                    refine take_ (i := 11) (N := some 39) (v := ?_) (a' := ?_) #[true, true, true, true, true, true, true, true, true, true, true, true, false, false, false, false, false, false, false, false, false, false, false, false, false] rfl rfl (by kernel_rfl) (fun _ _ _ h => h) (Or.inl ⟨by rfl, ?_⟩) hHeld ?_ ?_
                    rotate_left
                    · rintro w' hS'
                      obtain ⟨s0, s1, s2, s3, s4, s5, s6, s7, s8, s9, s10, s11⟩ := hS'
                      go_simp
                      with_reducible rfl
                    rotate_left
                    · simp only [Act.put, List.setIfInBounds_toArray, List.set_cons_zero, List.set_cons_succ, i64_w, i32_w]
                      rfl
                    try simp only [c484b0, Bool.not_true, Bool.not_false]
                    refine pure_ (i := 12) (N := some 40) (v := ?_) (a' := ?_) #[true, true, true, true, true, true, true, true, true, true, true, true, true, false, false, false, false, false, false, false, false, false, false, false, false] rfl rfl (by kernel_rfl) (fun _ _ _ h => h) (Or.inl ⟨by rfl, ?_⟩) ?_ ?_
                    rotate_left
                    · intro w'
                      go_simp
                      with_reducible rfl
                    rotate_left
                    · simp only [Act.put, List.setIfInBounds_toArray, List.set_cons_zero, List.set_cons_succ, i64_w, i32_w]
                      rfl
                    refine pure_ (i := 13) (N := some 41) (v := ?_) (a' := ?_) #[true, true, true, true, true, true, true, true, true, true, true, true, true, true, false, false, false, false, false, false, false, false, false, false, false] rfl rfl (by kernel_rfl) (fun _ _ _ h => h) (Or.inl ⟨by rfl, ?_⟩) ?_ ?_
                    rotate_left
                    · intro w'
                      go_simp
                      with_reducible rfl
                    rotate_left
                    · simp only [Act.put, List.setIfInBounds_toArray, List.set_cons_zero, List.set_cons_succ, i64_w, i32_w]
                      rfl
                    refine pure_ (i := 14) (N := some 42) (v := ?_) (a' := ?_) #[true, true, true, true, true, true, true, true, true, true, true, true, true, true, true, false, false, false, false, false, false, false, false, false, false] rfl rfl (by kernel_rfl) (fun _ _ _ h => h) (Or.inl ⟨by rfl, ?_⟩) ?_ ?_
                    rotate_left
                    · intro w'
                      go_simp
                      with_reducible rfl
                    rotate_left
                    · simp only [Act.put, List.setIfInBounds_toArray, List.set_cons_zero, List.set_cons_succ, i64_w, i32_w]
                      rfl
                    by_cases c485 : a387 < 1048576
                    · have H := if_yes c485 H
                      have c485b0 : decide (a387 < 1048576) = true := decide_eq_true c485
                      clear c485
                      try simp only [c485b0, Bool.not_true, Bool.not_false]
                      refine pure_ (i := 15) (N := some 43) (v := ?_) (a' := ?_) #[true, true, true, true, true, true, true, true, true, true, true, true, true, true, true, true, false, false, false, false, false, false, false, false, false] rfl rfl (by kernel_rfl) (fun _ _ _ h => h) (Or.inl ⟨by rfl, ?_⟩) ?_ ?_
                      rotate_left
                      · intro w'
                        go_simp
                        with_reducible rfl
                      rotate_left
                      · simp only [Act.put, List.setIfInBounds_toArray, List.set_cons_zero, List.set_cons_succ, i64_w, i32_w]
                        rfl
                      try simp only [c485b0, Bool.not_true, Bool.not_false]
                      refine take_ (i := 16) (N := some 44) (v := ?_) (a' := ?_) #[true, true, true, true, true, true, true, true, true, true, true, true, true, true, true, true, true, false, false, false, false, false, false, false, false] rfl rfl (by kernel_rfl) (fun _ _ _ h => h) (Or.inl ⟨by rfl, ?_⟩) hHeld ?_ ?_
                      rotate_left
                      · rintro w' hS'
                        obtain ⟨s0, s1, s2, s3, s4, s5, s6, s7, s8, s9, s10, s11⟩ := hS'
                        go_simp
                        with_reducible rfl
                      rotate_left
                      · simp only [Act.put, List.setIfInBounds_toArray, List.set_cons_zero, List.set_cons_succ, i64_w, i32_w]
                        rfl
                      try simp only [c485b0, Bool.not_true, Bool.not_false]
                      refine pure_ (i := 17) (N := some 45) (v := ?_) (a' := ?_) #[true, true, true, true, true, true, true, true, true, true, true, true, true, true, true, true, true, true, false, false, false, false, false, false, false] rfl rfl (by kernel_rfl) (fun _ _ _ h => h) (Or.inl ⟨by rfl, ?_⟩) ?_ ?_
                      rotate_left
                      · intro w'
                        go_simp
                        with_reducible rfl
                      rotate_left
                      · simp only [Act.put, List.setIfInBounds_toArray, List.set_cons_zero, List.set_cons_succ, i64_w, i32_w]
                        rfl
                      try simp only [c485b0, Bool.not_true, Bool.not_false]
                      refine pure_ (i := 18) (N := some 46) (v := ?_) (a' := ?_) #[true, true, true, true, true, true, true, true, true, true, true, true, true, true, true, true, true, true, true, false, false, false, false, false, false] rfl rfl (by kernel_rfl) (fun _ _ _ h => h) (Or.inl ⟨by rfl, ?_⟩) ?_ ?_
                      rotate_left
                      · intro w'
                        go_simp
                        with_reducible rfl
                      rotate_left
                      · simp only [Act.put, List.setIfInBounds_toArray, List.set_cons_zero, List.set_cons_succ, i64_w, i32_w]
                        rfl
                      try simp only [c476b0, Bool.not_true, Bool.not_false]
                      refine pure_ (i := 19) (N := some 47) (v := undef) (a' := ?_) #[true, true, true, true, true, true, true, true, true, true, true, true, true, true, true, true, true, true, true, true, false, false, false, false, false] rfl rfl (by kernel_rfl) (fun _ _ _ h => h) (Or.inr ⟨by rfl, rfl⟩) ?_ ?_
                      rotate_left
                      · simp only [Act.put, List.setIfInBounds_toArray, List.set_cons_zero, List.set_cons_succ, i64_w, i32_w]
                        rfl
                      try simp only [c476b0, Bool.not_true, Bool.not_false]
                      refine pure_ (i := 20) (N := some 48) (v := undef) (a' := ?_) #[true, true, true, true, true, true, true, true, true, true, true, true, true, true, true, true, true, true, true, true, true, false, false, false, false] rfl rfl (by kernel_rfl) (fun _ _ _ h => h) (Or.inr ⟨by rfl, rfl⟩) ?_ ?_
                      rotate_left
                      · simp only [Act.put, List.setIfInBounds_toArray, List.set_cons_zero, List.set_cons_succ, i64_w, i32_w]
                        rfl
                      try simp only [c476b0, Bool.not_true, Bool.not_false]
                      refine pure_ (i := 21) (N := some 49) (v := undef) (a' := ?_) #[true, true, true, true, true, true, true, true, true, true, true, true, true, true, true, true, true, true, true, true, true, true, false, false, false] rfl rfl (by kernel_rfl) (fun _ _ _ h => h) (Or.inr ⟨by rfl, rfl⟩) ?_ ?_
                      rotate_left
                      · simp only [Act.put, List.setIfInBounds_toArray, List.set_cons_zero, List.set_cons_succ, i64_w, i32_w]
                        rfl
                      try simp only [c485b0, Bool.not_true, Bool.not_false]
                      refine pure_ (i := 22) (N := some 50) (v := ?_) (a' := ?_) #[true, true, true, true, true, true, true, true, true, true, true, true, true, true, true, true, true, true, true, true, true, true, true, false, false] rfl rfl (by kernel_rfl) (fun _ _ _ h => h) (Or.inl ⟨by rfl, ?_⟩) ?_ ?_
                      rotate_left
                      · intro w'
                        go_simp
                        with_reducible rfl
                      rotate_left
                      · simp only [Act.put, List.setIfInBounds_toArray, List.set_cons_zero, List.set_cons_succ, i64_w, i32_w]
                        rfl
                      refine pure_ (i := 23) (N := some 51) (v := ?_) (a' := ?_) #[true, true, true, true, true, true, true, true, true, true, true, true, true, true, true, true, true, true, true, true, true, true, true, true, false] rfl rfl (by kernel_rfl) (fun _ _ _ h => h) (Or.inl ⟨by rfl, ?_⟩) ?_ ?_
                      rotate_left
                      · intro w'
                        go_simp
                        with_reducible rfl
                      rotate_left
                      · simp only [Act.put, List.setIfInBounds_toArray, List.set_cons_zero, List.set_cons_succ, i64_w, i32_w]
                        rfl
                      refine pure_ (i := 24) (N := some 2) (v := ?_) (a' := ?_) #[true, true, true, true, true, true, true, true, true, true, true, true, true, true, true, true, true, true, true, true, true, true, true, true, true] rfl rfl (by kernel_rfl) (fun _ _ _ h => h) (Or.inl ⟨by rfl, ?_⟩) ?_ ?_
                      rotate_left
                      · intro w'
                        go_simp
                        with_reducible rfl
                      rotate_left
                      · simp only [Act.put, List.setIfInBounds_toArray, List.set_cons_zero, List.set_cons_succ, i64_w, i32_w]
                        rfl
                      refine done_ (by kernel_rfl) ?_
                      replace HS : Aside0 (Sep (fps []) w [] w480) := ⟨HS.out.sub (.cons _ .slnil)⟩
                      go_wp2_with fail
                      go_ret
                      rw [← some_eq H]
                      exact ⟨(by first | rfl | (simp [IntKind.wrap_u32]; done)), HS.out⟩
                    · have H := if_no c485 H
                      have c485b0 : decide (a387 < 1048576) = false := decide_eq_false c485
                      clear c485
                      try simp only [c485b0, Bool.not_true, Bool.not_false]
                      refine pure_ (i := 15) (N := some 43) (v := undef) (a' := ?_) #[true, true, true, true, true, true, true, true, true, true, true, true, true, true, true, true, false, false, false, false, false, false, false, false, false] rfl rfl (by kernel_rfl) (fun _ _ _ h => h) (Or.inr ⟨by rfl, rfl⟩) ?_ ?_
                      rotate_left
                      · simp only [Act.put, List.setIfInBounds_toArray, List.set_cons_zero, List.set_cons_succ, i64_w, i32_w]
                        rfl
                      try simp only [c485b0, Bool.not_true, Bool.not_false]
                      refine pure_ (i := 16) (N := some 44) (v := undef) (a' := ?_) #[true, true, true, true, true, true, true, true, true, true, true, true, true, true, true, true, true, false, false, false, false, false, false, false, false] rfl rfl (by kernel_rfl) (fun _ _ _ h => h) (Or.inr ⟨by rfl, rfl⟩) ?_ ?_
                      rotate_left
                      · simp only [Act.put, List.setIfInBounds_toArray, List.set_cons_zero, List.set_cons_succ, i64_w, i32_w]
                        rfl
                      try simp only [c485b0, Bool.not_true, Bool.not_false]
                      refine pure_ (i := 17) (N := some 45) (v := undef) (a' := ?_) #[true, true, true, true, true, true, true, true, true, true, true, true, true, true, true, true, true, true, false, false, false, false, false, false, false] rfl rfl (by kernel_rfl) (fun _ _ _ h => h) (Or.inr ⟨by rfl, rfl⟩) ?_ ?_
                      rotate_left
                      · simp only [Act.put, List.setIfInBounds_toArray, List.set_cons_zero, List.set_cons_succ, i64_w, i32_w]
                        rfl
                      try simp only [c485b0, Bool.not_true, Bool.not_false]
                      refine pure_ (i := 18) (N := some 46) (v := undef) (a' := ?_) #[true, true, true, true, true, true, true, true, true, true, true, true, true, true, true, true, true, true, true, false, false, false, false, false, false] rfl rfl (by kernel_rfl) (fun _ _ _ h => h) (Or.inr ⟨by rfl, rfl⟩) ?_ ?_
                      rotate_left
                      · simp only [Act.put, List.setIfInBounds_toArray, List.set_cons_zero, List.set_cons_succ, i64_w, i32_w]
                        rfl
                      refine pure_ (i := 19) (N := some 47) (v := undef) (a' := ?_) #[true, true, true, true, true, true, true, true, true, true, true, true, true, true, true, true, true, true, true, true, false, false, false, false, false] rfl rfl (by kernel_rfl) (fun _ _ _ h => h) (Or.inr ⟨by rfl, rfl⟩) ?_ ?_
                      rotate_left
                      · simp only [Act.put, List.setIfInBounds_toArray, List.set_cons_zero, List.set_cons_succ, i64_w, i32_w]
                        rfl
                      refine pure_ (i := 20) (N := some 48) (v := undef) (a' := ?_) #[true, true, true, true, true, true, true, true, true, true, true, true, true, true, true, true, true, true, true, true, true, false, false, false, false] rfl rfl (by kernel_rfl) (fun _ _ _ h => h) (Or.inr ⟨by rfl, rfl⟩) ?_ ?_
                      rotate_left
                      · simp only [Act.put, List.setIfInBounds_toArray, List.set_cons_zero, List.set_cons_succ, i64_w, i32_w]
                        rfl
                      refine pure_ (i := 21) (N := some 49) (v := undef) (a' := ?_) #[true, true, true, true, true, true, true, true, true, true, true, true, true, true, true, true, true, true, true, true, true, true, false, false, false] rfl rfl (by kernel_rfl) (fun _ _ _ h => h) (Or.inr ⟨by rfl, rfl⟩) ?_ ?_
                      rotate_left
                      · simp only [Act.put, List.setIfInBounds_toArray, List.set_cons_zero, List.set_cons_succ, i64_w, i32_w]
                        rfl
                      try simp only [c485b0, Bool.not_true, Bool.not_false]
                      refine pure_ (i := 22) (N := some 50) (v := undef) (a' := ?_) #[true, true, true, true, true, true, true, true, true, true, true, true, true, true, true, true, true, true, true, true, true, true, true, false, false] rfl rfl (by kernel_rfl) (fun _ _ _ h => h) (Or.inr ⟨by rfl, rfl⟩) ?_ ?_
                      rotate_left
                      · simp only [Act.put, List.setIfInBounds_toArray, List.set_cons_zero, List.set_cons_succ, i64_w, i32_w]
                        rfl
                      refine pure_ (i := 23) (N := some 51) (v := ?_) (a' := ?_) #[true, true, true, true, true, true, true, true, true, true, true, true, true, true, true, true, true, true, true, true, true, true, true, true, false] rfl rfl (by kernel_rfl) (fun _ _ _ h => h) (Or.inl ⟨by rfl, ?_⟩) ?_ ?_
                      rotate_left
                      · intro w'
                        go_simp
                        with_reducible rfl
                      rotate_left
                      · simp only [Act.put, List.setIfInBounds_toArray, List.set_cons_zero, List.set_cons_succ, i64_w, i32_w]
                        rfl
                      refine pure_ (i := 24) (N := some 2) (v := ?_) (a' := ?_) #[true, true, true, true, true, true, true, true, true, true, true, true, true, true, true, true, true, true, true, true, true, true, true, true, true] rfl rfl (by kernel_rfl) (fun _ _ _ h => h) (Or.inl ⟨by rfl, ?_⟩) ?_ ?_
                      rotate_left
                      · intro w'
                        go_simp
                        with_reducible rfl
                      rotate_left
                      · simp only [Act.put, List.setIfInBounds_toArray, List.set_cons_zero, List.set_cons_succ, i64_w, i32_w]
                        rfl
                      refine done_ (by kernel_rfl) ?_
                      replace HS : Aside0 (Sep (fps []) w [] w480) := ⟨HS.out.sub (.cons _ .slnil)⟩
                      go_wp2_with fail
                      go_ret
                      rw [← some_eq H]
                      exact ⟨(by first | rfl | (simp [IntKind.wrap_u32]; done)), HS.out⟩
                  · have H := if_no c484 H
                    have c484b0 : decide (0 ≤ a387) = false := decide_eq_false c484
                    clear c484
                    try simp only [c484b0, Bool.not_true, Bool.not_false]
                    refine pure_ (i := 10) (N := some 38) (v := undef) (a' := ?_) #[true, true, true, true, true, true, true, true, true, true, true, false, false, false, false, false, false, false, false, false, false, false, false, false, false] rfl rfl (by kernel_rfl) (fun _ _ _ h => h) (Or.inr ⟨by rfl, rfl⟩) ?_ ?_
                    rotate_left
                    · simp only [Act.put, List.setIfInBounds_toArray, List.set_cons_zero, List.set_cons_succ, i64_w, i32_w]
                      rfl
                    try simp only [c484b0, Bool.not_true, Bool.not_false]
                    refine pure_ (i := 11) (N := some 39) (v := undef) (a' := ?_) #[true, true, true, true, true, true, true, true, true, true, true, true, false, false, false, false, false, false, false, false, false, false, false, false, false] rfl rfl (by kernel_rfl) (fun _ _ _ h => h) (Or.inr ⟨by rfl, rfl⟩) ?_ ?_
                    rotate_left
                    · simp only [Act.put, List.setIfInBounds_toArray, List.set_cons_zero, List.set_cons_succ, i64_w, i32_w]
                      rfl
                    try simp only [c484b0, Bool.not_true, Bool.not_false]
                    refine pure_ (i := 12) (N := some 40) (v := undef) (a' := ?_) #[true, true, true, true, true, true, true, true, true, true, true, true, true, false, false, false, false, false, false, false, false, false, false, false, false] rfl rfl (by kernel_rfl) (fun _ _ _ h => h) (Or.inr ⟨by rfl, rfl⟩) ?_ ?_
                    rotate_left
                    · simp only [Act.put, List.setIfInBounds_toArray, List.set_cons_zero, List.set_cons_succ, i64_w, i32_w]
                      rfl
                    refine pure_ (i := 13) (N := some 41) (v := ?_) (a' := ?_) #[true, true, true, true, true, true, true, true, true, true, true, true, true, true, false, false, false, false, false, false, false, false, false, false, false] rfl rfl (by kernel_rfl) (fun _ _ _ h => h) (Or.inl ⟨by rfl, ?_⟩) ?_ ?_
                    rotate_left
                    · intro w'
                      go_simp
                      with_reducible rfl
                    rotate_left
                    · simp only [Act.put, List.setIfInBounds_toArray, List.set_cons_zero, List.set_cons_succ, i64_w, i32_w]
                      rfl
                    refine pure_ (i := 14) (N := some 42) (v := ?_) (a' := ?_) #[true, true, true, true, true, true, true, true, true, true, true, true, true, true, true, false, false, false, false, false, false, false, false, false, false] rfl rfl (by kernel_rfl) (fun _ _ _ h => h) (Or.inl ⟨by rfl, ?_⟩) ?_ ?_
                    rotate_left
                    · intro w'
                      go_simp
                      with_reducible rfl
                    rotate_left
                    · simp only [Act.put, List.setIfInBounds_toArray, List.set_cons_zero, List.set_cons_succ, i64_w, i32_w]
                      rfl
                    refine pure_ (i := 15) (N := some 43) (v := undef) (a' := ?_) #[true, true, true, true, true, true, true, true, true, true, true, true, true, true, true, true, false, false, false, false, false, false, false, false, false] rfl rfl (by kernel_rfl) (fun _ _ _ h => h) (Or.inr ⟨by rfl, rfl⟩) ?_ ?_
                    rotate_left
                    · simp only [Act.put, List.setIfInBounds_toArray, List.set_cons_zero, List.set_cons_succ, i64_w, i32_w]
                      rfl
                    refine pure_ (i := 16) (N := some 44) (v := undef) (a' := ?_) #[true, true, true, true, true, true, true, true, true, true, true, true, true, true, true, true, true, false, false, false, false, false, false, false, false] rfl rfl (by kernel_rfl) (fun _ _ _ h => h) (Or.inr ⟨by rfl, rfl⟩) ?_ ?_
                    rotate_left
                    · simp only [Act.put, List.setIfInBounds_toArray, List.set_cons_zero, List.set_cons_succ, i64_w, i32_w]
                      rfl
                    refine pure_ (i := 17) (N := some 45) (v := undef) (a' := ?_) #[true, true, true, true, true, true, true, true, true, true, true, true, true, true, true, true, true, true, false, false, false, false, false, false, false] rfl rfl (by kernel_rfl) (fun _ _ _ h => h) (Or.inr ⟨by rfl, rfl⟩) ?_ ?_
                    rotate_left
                    · simp only [Act.put, List.setIfInBounds_toArray, List.set_cons_zero, List.set_cons_succ, i64_w, i32_w]
                      rfl
                    refine pure_ (i := 18) (N := some 46) (v := undef) (a' := ?_) #[true, true, true, true, true, true, true, true, true, true, true, true, true, true, true, true, true, true, true, false, false, false, false, false, false] rfl rfl (by kernel_rfl) (fun _ _ _ h => h) (Or.inr ⟨by rfl, rfl⟩) ?_ ?_
                    rotate_left
                    · simp only [Act.put, List.setIfInBounds_toArray, List.set_cons_zero, List.set_cons_succ, i64_w, i32_w]
                      rfl
                    refine pure_ (i := 19) (N := some 47) (v := undef) (a' := ?_) #[true, true, true, true, true, true, true, true, true, true, true, true, true, true, true, true, true, true, true, true, false, false, false, false, false] rfl rfl (by kernel_rfl) (fun _ _ _ h => h) (Or.inr ⟨by rfl, rfl⟩) ?_ ?_
                    rotate_left
                    · simp only [Act.put, List.setIfInBounds_toArray, List.set_cons_zero, List.set_cons_succ, i64_w, i32_w]
                      rfl
                    refine pure_ (i := 20) (N := some 48) (v := undef) (a' := ?_) #[true, true, true, true, true, true, true, true, true, true, true, true, true, true, true, true, true, true, true, true, true, false, false, false, false] rfl rfl (by kernel_rfl) (fun _ _ _ h => h) (Or.inr ⟨by rfl, rfl⟩) ?_ ?_
                    rotate_left
                    · simp only [Act.put, List.setIfInBounds_toArray, List.set_cons_zero, List.set_cons_succ, i64_w, i32_w]
                      rfl
                    refine pure_ (i := 21) (N := some 49) (v := undef) (a' := ?_) #[true, true, true, true, true, true, true, true, true, true, true, true, true, true, true, true, true, true, true, true, true, true, false, false, false] rfl rfl (by kernel_rfl) (fun _ _ _ h => h) (Or.inr ⟨by rfl, rfl⟩) ?_ ?_
                    rotate_left
                    · simp only [Act.put, List.setIfInBounds_toArray, List.set_cons_zero, List.set_cons_succ, i64_w, i32_w]
                      rfl
                    refine pure_ (i := 22) (N := some 50) (v := undef) (a' := ?_) #[true, true, true, true, true, true, true, true, true, true, true, true, true, true, true, true, true, true, true, true, true, true, true, false, false] rfl rfl (by kernel_rfl) (fun _ _ _ h => h) (Or.inr ⟨by rfl, rfl⟩) ?_ ?_
                    rotate_left
                    · simp only [Act.put, List.setIfInBounds_toArray, List.set_cons_zero, List.set_cons_succ, i64_w, i32_w]
                      rfl
                    refine pure_ (i := 23) (N := some 51) (v := ?_) (a' := ?_) #[true, true, true, true, true, true, true, true, true, true, true, true, true, true, true, true, true, true, true, true, true, true, true, true, false] rfl rfl (by kernel_rfl) (fun _ _ _ h => h) (Or.inl ⟨by rfl, ?_⟩) ?_ ?_
                    rotate_left
                    · intro w'
                      go_simp
                      with_reducible rfl
                    rotate_left
                    · simp only [Act.put, List.setIfInBounds_toArray, List.set_cons_zero, List.set_cons_succ, i64_w, i32_w]
                      rfl
                    refine pure_ (i := 24) (N := some 2) (v := ?_) (a' := ?_) #[true, true, true, true, true, true, true, true, true, true, true, true, true, true, true, true, true, true, true, true, true, true, true, true, true] rfl rfl (by kernel_rfl) (fun _ _ _ h => h) (Or.inl ⟨by rfl, ?_⟩) ?_ ?_
                    rotate_left
                    · intro w'
                      go_simp
                      with_reducible rfl
                    rotate_left
                    · simp only [Act.put, List.setIfInBounds_toArray, List.set_cons_zero, List.set_cons_succ, i64_w, i32_w]
                      rfl
                    refine done_ (by kernel_rfl) ?_
                    replace HS : Aside0 (Sep (fps []) w [] w480) := ⟨HS.out.sub (.cons _ .slnil)⟩
                    go_wp2_with fail
                    go_ret
                    rw [← some_eq H]
                    exact ⟨(by first | rfl | (simp [IntKind.wrap_u32]; done)), HS.out⟩
                · have H := if_no c483 H
                  have c483b0 : b470 = false := by simpa using c483
                  have c483b1 : (!b470) = true := by rw [c483b0]; rfl
                  clear c483
                  try simp only [c483b0, Bool.not_true, Bool.not_false]
                  refine pure_ (i := 5) (N := some 33) (v := undef) (a' := ?_) #[true, true, true, true, true, true, false, false, false, false, false, false, false, false, false, false, false, false, false, false, false, false, false, false, false] rfl rfl (by kernel_rfl) (fun _ _ _ h => h) (Or.inr ⟨by rfl, rfl⟩) ?_ ?_
                  rotate_left
                  · simp only [Act.put, List.setIfInBounds_toArray, List.set_cons_zero, List.set_cons_succ, i64_w, i32_w]
                    rfl
                  try simp only [c483b0, Bool.not_true, Bool.not_false]
                  refine pure_ (i := 6) (N := some 34) (v := undef) (a' := ?_) #[true, true, true, true, true, true, true, false, false, false, false, false, false, false, false, false, false, false, false, false, false, false, false, false, false] rfl rfl (by kernel_rfl) (fun _ _ _ h => h) (Or.inr ⟨by rfl, rfl⟩) ?_ ?_
                  rotate_left
                  · simp only [Act.put, List.setIfInBounds_toArray, List.set_cons_zero, List.set_cons_succ, i64_w, i32_w]
                    rfl
                  try simp only [c483b0, Bool.not_true, Bool.not_false]
                  refine pure_ (i := 7) (N := some 35) (v := undef) (a' := ?_) #[true, true, true, true, true, true, true, true, false, false, false, false, false, false, false, false, false, false, false, false, false, false, false, false, false] rfl rfl (by kernel_rfl) (fun _ _ _ h => h) (Or.inr ⟨by rfl, rfl⟩) ?_ ?_
                  rotate_left
                  · simp only [Act.put, List.setIfInBounds_toArray, List.set_cons_zero, List.set_cons_succ, i64_w, i32_w]
                    rfl
                  refine pure_ (i := 8) (N := some 36) (v := ?_) (a' := ?_) #[true, true, true, true, true, true, true, true, true, false, false, false, false, false, false, false, false, false, false, false, false, false, false, false, false] rfl rfl (by kernel_rfl) (fun _ _ _ h => h) (Or.inl ⟨by rfl, ?_⟩) ?_ ?_
                  rotate_left
                  · intro w'
                    go_simp
                    with_reducible rfl
                  rotate_left
                  · simp only [Act.put, List.setIfInBounds_toArray, List.set_cons_zero, List.set_cons_succ, i64_w, i32_w]
                    rfl
                  refine pure_ (i := 9) (N := some 37) (v := ?_) (a' := ?_) #[true, true, true, true, true, true, true, true, true, true, false, false, false, false, false, false, false, false, false, false, false, false, false, false, false] rfl rfl (by kernel_rfl) (fun _ _ _ h => h) (Or.inl ⟨by rfl, ?_⟩) ?_ ?_
                  rotate_left
                  · intro w'
                    go_simp
                    with_reducible rfl
                  rotate_left
                  · simp only [Act.put, List.setIfInBounds_toArray, List.set_cons_zero, List.set_cons_succ, i64_w, i32_w]
                    rfl
                  refine pure_ (i := 10) (N := some 38) (v := undef) (a' := ?_) #[true, true, true, true, true, true, true, true, true, true, true, false, false, false, false, false, false, false, false, false, false, false, false, false, false] rfl rfl (by kernel_rfl) (fun _ _ _ h => h) (Or.inr ⟨by rfl, rfl⟩) ?_ ?_
                  rotate_left
                  · simp only [Act.put, List.setIfInBounds_toArray, List.set_cons_zero, List.set_cons_succ, i64_w, i32_w]
                    rfl
                  refine pure_ (i := 11) (N := some 39) (v := undef) (a' := ?_) #[true, true, true, true, true, true, true, true, true, true, true, true, false, false, false, false, false, false, false, false, false, false, false, false, false] rfl rfl (by kernel_rfl) (fun _ _ _ h => h) (Or.inr ⟨by rfl, rfl⟩) ?_ ?_
                  rotate_left
                  · simp only [Act.put, List.setIfInBounds_toArray, List.set_cons_zero, List.set_cons_succ, i64_w, i32_w]
                    rfl
                  refine pure_ (i := 12) (N := some 40) (v := undef) (a' := ?_) #[true, true, true, true, true, true, true, true, true, true, true, true, true, false, false, false, false, false, false, false, false, false, false, false, false] rfl rfl (by kernel_rfl) (fun _ _ _ h => h) (Or.inr ⟨by rfl, rfl⟩) ?_ ?_
                  rotate_left
                  · simp only [Act.put, List.setIfInBounds_toArray, List.set_cons_zero, List.set_cons_succ, i64_w, i32_w]
                    rfl
                  refine pure_ (i := 13) (N := some 41) (v := ?_) (a' := ?_) #[true, true, true, true, true, true, true, true, true, true, true, true, true, true, false, false, false, false, false, false, false, false, false, false, false] rfl rfl (by kernel_rfl) (fun _ _ _ h => h) (Or.inl ⟨by rfl, ?_⟩) ?_ ?_
                  rotate_left
                  · intro w'
                    go_simp
                    with_reducible rfl
                  rotate_left
                  · simp only [Act.put, List.setIfInBounds_toArray, List.set_cons_zero, List.set_cons_succ, i64_w, i32_w]
                    rfl
                  refine pure_ (i := 14) (N := some 42) (v := ?_) (a' := ?_) #[true, true, true, true, true, true, true, true, true, true, true, true, true, true, true, false, false, false, false, false, false, false, false, false, false] rfl rfl (by kernel_rfl) (fun _ _ _ h => h) (Or.inl ⟨by rfl, ?_⟩) ?_ ?_
                  rotate_left
                  · intro w'
                    go_simp
                    with_reducible rfl
                  rotate_left
                  · simp only [Act.put, List.setIfInBounds_toArray, List.set_cons_zero, List.set_cons_succ, i64_w, i32_w]
                    rfl
                  refine pure_ (i := 15) (N := some 43) (v := undef) (a' := ?_) #[true, true, true, true, true, true, true, true, true, true, true, true, true, true, true, true, false, false, false, false, false, false, false, false, false] rfl rfl (by kernel_rfl) (fun _ _ _ h => h) (Or.inr ⟨by rfl, rfl⟩) ?_ ?_
                  rotate_left
                  · simp only [Act.put, List.setIfInBounds_toArray, List.set_cons_zero, List.set_cons_succ, i64_w, i32_w]
                    rfl
                  refine pure_ (i := 16) (N := some 44) (v := undef) (a' := ?_) #[true, true, true, true, true, true, true, true, true, true, true, true, true, true, true, true, true, false, false, false, false, false, false, false, false] rfl rfl (by kernel_rfl) (fun _ _ _ h => h) (Or.inr ⟨by rfl, rfl⟩) ?_ ?_
                  rotate_left
                  · simp only [Act.put, List.setIfInBounds_toArray, List.set_cons_zero, List.set_cons_succ, i64_w, i32_w]
                    rfl
                  refine pure_ (i := 17) (N := some 45) (v := undef) (a' := ?_) #[true, true, true, true, true, true, true, true, true, true, true, true, true, true, true, true, true, true, false, false, false, false, false, false, false] rfl rfl (by kernel_rfl) (fun _ _ _ h => h) (Or.inr ⟨by rfl, rfl⟩) ?_ ?_
                  rotate_left
                  · simp only [Act.put, List.setIfInBounds_toArray, List.set_cons_zero, List.set_cons_succ, i64_w, i32_w]
                    rfl
                  refine pure_ (i := 18) (N := some 46) (v := undef) (a' := ?_) #[true, true, true, true, true, true, true, true, true, true, true, true, true, true, true, true, true, true, true, false, false, false, false, false, false] rfl rfl (by kernel_rfl) (fun _ _ _ h => h) (Or.inr ⟨by rfl, rfl⟩) ?_ ?_
                  rotate_left
                  · simp only [Act.put, List.setIfInBounds_toArray, List.set_cons_zero, List.set_cons_succ, i64_w, i32_w]
                    rfl
                  refine pure_ (i := 19) (N := some 47) (v := undef) (a' := ?_) #[true, true, true, true, true, true, true, true, true, true, true, true, true, true, true, true, true, true, true, true, false, false, false, false, false] rfl rfl (by kernel_rfl) (fun _ _ _ h => h) (Or.inr ⟨by rfl, rfl⟩) ?_ ?_
                  rotate_left
                  · simp only [Act.put, List.setIfInBounds_toArray, List.set_cons_zero, List.set_cons_succ, i64_w, i32_w]
                    rfl
                  refine pure_ (i := 20) (N := some 48) (v := undef) (a' := ?_) #[true, true, true, true, true, true, true, true, true, true, true, true, true, true, true, true, true, true, true, true, true, false, false, false, false] rfl rfl (by kernel_rfl) (fun _ _ _ h => h) (Or.inr ⟨by rfl, rfl⟩) ?_ ?_
                  rotate_left
                  · simp only [Act.put, List.setIfInBounds_toArray, List.set_cons_zero, List.set_cons_succ, i64_w, i32_w]
                    rfl
                  refine pure_ (i := 21) (N := some 49) (v := undef) (a' := ?_) #[true, true, true, true, true, true, true, true, true, true, true, true, true, true, true, true, true, true, true, true, true, true, false, false, false] rfl rfl (by kernel_rfl) (fun _ _ _ h => h) (Or.inr ⟨by rfl, rfl⟩) ?_ ?_
                  rotate_left
                  · simp only [Act.put, List.setIfInBounds_toArray, List.set_cons_zero, List.set_cons_succ, i64_w, i32_w]
                    rfl
                  refine pure_ (i := 22) (N := some 50) (v := undef) (a' := ?_) #[true, true, true, true, true, true, true, true, true, true, true, true, true, true, true, true, true, true, true, true, true, true, true, false, false] rfl rfl (by kernel_rfl) (fun _ _ _ h => h) (Or.inr ⟨by rfl, rfl⟩) ?_ ?_
                  rotate_left
                  · simp only [Act.put, List.setIfInBounds_toArray, List.set_cons_zero, List.set_cons_succ, i64_w, i32_w]
                    rfl
                  refine pure_ (i := 23) (N := some 51) (v := ?_) (a' := ?_) #[true, true, true, true, true, true, true, true, true, true, true, true, true, true, true, true, true, true, true, true, true, true, true, true, false] rfl rfl (by kernel_rfl) (fun _ _ _ h => h) (Or.inl ⟨by rfl, ?_⟩) ?_ ?_
                  rotate_left
                  · intro w'
                    go_simp
                    with_reducible rfl
                  rotate_left
                  · simp only [Act.put, List.setIfInBounds_toArray, List.set_cons_zero, List.set_cons_succ, i64_w, i32_w]
                    rfl
                  refine pure_ (i := 24) (N := some 2) (v := ?_) (a' := ?_) #[true, true, true, true, true, true, true, true, true, true, true, true, true, true, true, true, true, true, true, true, true, true, true, true, true] rfl rfl (by kernel_rfl) (fun _ _ _ h => h) (Or.inl ⟨by rfl, ?_⟩) ?_ ?_
                  rotate_left
                  · intro w'
                    go_simp
                    with_reducible rfl
                  rotate_left
                  · simp only [Act.put, List.setIfInBounds_toArray, List.set_cons_zero, List.set_cons_succ, i64_w, i32_w]
                    rfl
                  refine done_ (by kernel_rfl) ?_
                  replace HS : Aside0 (Sep (fps []) w [] w480) := ⟨HS.out.sub (.cons _ .slnil)⟩
                  go_wp2_with fail
                  go_ret
                  rw [← some_eq H]
                  exact ⟨(by first | rfl | (simp [IntKind.wrap_u32]; done)), HS.out⟩
              · have H := if_no c476 H
                have c476b0 : (a381 == 3) = false := beq_eq_false_iff_ne.mpr c476
                have c476b1 : (a381 != 3) = true := bne_iff_ne.mpr c476
                clear c476
                have hc458 : w449.cell? ⟨g388, 0, none⟩ = some (.int .i64 a381) := blk_cellv (HS.out.at0) 0 rfl
                replace HS : Aside0 (Sep (fps []) w [] w449) := ⟨HS.out.sub (.cons _ .slnil)⟩
                go_wp2_with fail
                clear hc458
                go_ret
                rw [← some_eq H]
                exact ⟨(by first | rfl | (simp [IntKind.wrap_u32]; done)), HS.out⟩

set_option maxHeartbeats 30000000 in
set_option maxRecDepth 100000 in
theorem pack_total.calls (k : Nat) (l579 : List Int) (A580 : Option Addr) (n581 : Nat) (r : Int) (w : World) (HR582 : Aside0 (Rd (Kd.int .i64) (fps []) w A580 l579.length l579)) (HGl0 : Aside0 (Gl 0 #[.int .i64 0, .int .i64 0, .int .i64 0, .int .i64 0, .int .i64 0] (fps []) w)) (HS : Aside0 (Sep (fps []) w [] w)) (H : Aside0 (pack_total.f k l579 = some r)) :
    Calls Tryd.prog 125 #[.slice A580 l579.length n581] w fun e w' => e = .returned (.int .i64 r) ∧ Sep (fps []) w [] w' := by
  unfold pack_total.f at H
  go_enter Tryd.func125, Tryd.ntmps125
  go_wp2_with fail
  obtain ⟨o595, AL596, H⟩ := bind_some H
  go_loopg [3, 8] k (fun kq v3 v8 wc => ∃ (x599 : Int) (x600 : Int), v3 = .int .i64 x599 ∧ v8 = .int .i64 x600 ∧ Aside0 (pack_total.lo0 kq l579 x599 x600 = some o595) ∧ Aside0 (Sep (fps []) w [] wc))
  case atStart => exact ⟨(0), (0), (by first | rfl | (simp [IntKind.wrap_u32]; done)), (by first | rfl | (simp [IntKind.wrap_u32]; done)), AL596, ⟨HS.out⟩⟩
  case round =>
    clear AL596 HS
    obtain ⟨x599, x600, rfl, rfl, AL596, HS⟩ := hrel
    obtain ⟨w597, rfl⟩ : ∃ x : World, x = wr := ⟨_, rfl⟩
    cases gk with
    | zero => exact absurd AL596.out (by simp [pack_total.lo0])
    | succ k598 =>
      have AL0 := AL596.out
      rw [pack_total.lo0] at AL0
      clear AL596
      have AL596 := Aside0.mk AL0
      clear AL0
      by_cases c601 : x600 < (l579.length : Int)
      · have AL596 := if_yes c601 AL596
        have c601b0 : decide (x600 < (l579.length : Int)) = true := decide_eq_true c601
        clear c601
        by_cases c602 : 0 ≤ x600
        · have AL596 := if_yes c602 AL596
          have c602b0 : decide (0 ≤ x600) = true := decide_eq_true c602
          have c602p : (0 ≤ x600) = True := eq_true c602
          clear c602
          have ip603 : (x600 < (l579.length : Int)) = True := eq_true (of_decide_eq_true c601b0)
          by_cases c605 : (rd l579 x600) < 1
          · have AL596 := if_yes c605 AL596
            have c605b0 : decide ((rd l579 x600) < 1) = true := decide_eq_true c605
            clear c605
            obtain ⟨hx604a, hx604e, hx604⟩ := Kd.at_int (Rd.read (fun _ _ _ _ h => h) HR582.out HS.out.fr) x600 (of_decide_eq_true c602b0) (of_decide_eq_true c601b0); cases hx604e
            go_wp2_with fail
            clear hx604
            have ho := some_eq AL596
            subst ho
            have H := lp_ret H
            go_ret
            rw [← some_eq H]
            exact ⟨(by first | rfl | (simp [IntKind.wrap_u32]; done)), HS.out⟩
          · have AL596 := if_no c605 AL596
            have c605b0 : decide ((rd l579 x600) < 1) = false := decide_eq_false c605
            clear c605
            by_cases c606 : (rd l579 x600) > (wrap64 (32 - x599))
            · have AL596 := if_yes c606 AL596
              have c606b0 : decide ((wrap64 (32 - x599)) < (rd l579 x600)) = true := decide_eq_true c606
              clear c606
              obtain ⟨hx604a, hx604e, hx604⟩ := Kd.at_int (Rd.read (fun _ _ _ _ h => h) HR582.out HS.out.fr) x600 (of_decide_eq_true c602b0) (of_decide_eq_true c601b0); cases hx604e
              go_wp2_with fail
              clear hx604
              have ho := some_eq AL596
              subst ho
              have H := lp_ret H
              go_ret
              rw [← some_eq H]
              exact ⟨(by first | rfl | (simp [IntKind.wrap_u32]; done)), HS.out⟩
            · have AL596 := if_no c606 AL596
              have c606b0 : decide ((wrap64 (32 - x599)) < (rd l579 x600)) = false := decide_eq_false c606
              clear c606
              obtain ⟨hx604a, hx604e, hx604⟩ := Kd.at_int (Rd.read (fun _ _ _ _ h => h) HR582.out HS.out.fr) x600 (of_decide_eq_true c602b0) (of_decide_eq_true c601b0); cases hx604e
              go_wp2_with fail
              clear hx604
              go_roundg k598
              case measure => exact Nat.lt_succ_self _
              case rel => exact ⟨(wrap64 (x599 + (rd l579 x600))), (wrap64 (x600 + 1)), (by first | rfl | (simp [IntKind.wrap_u32]; done)), (by first | rfl | (simp [IntKind.wrap_u32]; done)), Aside0.mk AL596.out, ⟨HS.out⟩⟩
        · have AL596 := if_no c602 AL596
          have c602b0 : decide (0 ≤ x600) = false := decide_eq_false c602
          clear c602
          exact (none_no AL596).elim
      · have AL596 := if_no c601 AL596
        have c601b0 : decide (x600 < (l579.length : Int)) = false := decide_eq_false c601
        clear c601
        have ho := some_eq AL596
        subst ho
        clear AL596
        have H := lp_out H
        go_wp2_with fail
        go_ret
        rw [← some_eq H]
        exact ⟨(by first | rfl | (simp [IntKind.wrap_u32]; done)), HS.out⟩

set_option maxHeartbeats 30000000 in
set_option maxRecDepth 100000 in
theorem pack_isPiece.calls (a631 : Int) (a632 : Int) (r : Bool) (w : World)  (HGl0 : Aside0 (Gl 0 #[.int .i64 0, .int .i64 0, .int .i64 0, .int .i64 0, .int .i64 0] (fps []) w)) (HS : Aside0 (Sep (fps []) w [] w)) (H : Aside0 (pack_isPiece.f a631 a632 = some r)) :
    Calls Tryd.prog 75 #[.int .i64 a631, .int .i64 a632] w fun e w' => e = .returned (.bool r) ∧ Sep (fps []) w [] w' := by
  unfold pack_isPiece.f at H
  go_enter Tryd.func75, Tryd.ntmps75
  by_cases c633 : a631 ≥ 0
  · have H := if_yes c633 H
    have c633b0 : decide (0 ≤ a631) = true := decide_eq_true c633
    clear c633
    by_cases c634 : a632 ≥ 1
    · have H := if_yes c634 H
      have c634b0 : decide (1 ≤ a632) = true := decide_eq_true c634
      clear c634
      by_cases c635 : a632 ≤ 32
      · have H := if_yes c635 H
        have c635b0 : decide (a632 ≤ 32) = true := decide_eq_true c635
        clear c635
        go_wp2_with fail
        go_ret
        rw [← some_eq H]
        exact ⟨(by first | rfl | (simp [IntKind.wrap_u32]; done)), HS.out⟩
      · have H := if_no c635 H
        have c635b0 : decide (a632 ≤ 32) = false := decide_eq_false c635
        clear c635
        go_wp2_with fail
        go_ret
        rw [← some_eq H]
        exact ⟨(by first | rfl | (simp [IntKind.wrap_u32]; done)), HS.out⟩
    · have H := if_no c634 H
      have c634b0 : decide (1 ≤ a632) = false := decide_eq_false c634
      clear c634
      go_wp2_with fail
      go_ret
      rw [← some_eq H]
      exact ⟨(by first | rfl | (simp [IntKind.wrap_u32]; done)), HS.out⟩
  · have H := if_no c633 H
    have c633b0 : decide (0 ≤ a631) = false := decide_eq_false c633
    clear c633
    go_wp2_with fail
    go_ret
    rw [← some_eq H]
    exact ⟨(by first | rfl | (simp [IntKind.wrap_u32]; done)), HS.out⟩

set_option maxHeartbeats 30000000 in
set_option maxRecDepth 100000 in
theorem pack_Fits.calls (a640 : Int) (a641 : Int) (r : Bool) (w : World)  (HGl0 : Aside0 (Gl 0 #[.int .i64 0, .int .i64 0, .int .i64 0, .int .i64 0, .int .i64 0] (fps []) w)) (HS : Aside0 (Sep (fps []) w [] w)) (H : Aside0 (pack_Fits.f a640 a641 = some r)) :
    Calls Tryd.prog 152 #[.int .u32 a640, .int .i64 a641] w fun e w' => e = .returned (.bool r) ∧ Sep (fps []) w [] w' := by
  unfold pack_Fits.f at H
  go_enter Tryd.func152, Tryd.ntmps152
  by_cases c642 : a641 ≥ 32
  · have H := if_yes c642 H
    have c642b0 : decide (32 ≤ a641) = true := decide_eq_true c642
    clear c642
    go_wp2_with fail
    go_ret
    rw [← some_eq H]
    exact ⟨(by first | rfl | (simp [IntKind.wrap_u32]; done)), HS.out⟩
  · have H := if_no c642 H
    have c642b0 : decide (32 ≤ a641) = false := decide_eq_false c642
    clear c642
    by_cases c643 : a641 < 0
    · have H := if_yes c643 H
      have c643b0 : decide (a641 < 0) = true := decide_eq_true c643
      skip
      go_wp2_with fail
      clear c643
      go_ret
      rw [← some_eq H]
      exact ⟨(by first | rfl | (simp [IntKind.wrap_u32]; done)), HS.out⟩
    · have H := if_no c643 H
      have c643b0 : decide (a641 < 0) = false := decide_eq_false c643
      by_cases c644 : 0 ≤ (IntKind.u64.wrap (a641))
      · have H := if_yes c644 H
        have c644b0 : decide (0 ≤ (IntKind.u64.wrap (a641))) = true := decide_eq_true c644
        skip
        skip
        go_wp2_with fail
        clear c643 c644
        go_ret
        rw [← some_eq H]
        exact ⟨(by first | rfl | (simp [IntKind.wrap_u32]; done)), HS.out⟩
      · have H := if_no c644 H
        have c644b0 : decide (0 ≤ (IntKind.u64.wrap (a641))) = false := decide_eq_false c644
        exact (none_no H).elim

set_option maxHeartbeats 30000000 in
set_option maxRecDepth 100000 in
theorem pack_mask.calls (a649 : Int) (a650 : Int) (r : Int) (w : World)  (HGl0 : Aside0 (Gl 0 #[.int .i64 0, .int .i64 0, .int .i64 0, .int .i64 0, .int .i64 0] (fps []) w)) (HS : Aside0 (Sep (fps []) w [] w)) (H : Aside0 (pack_mask.f a649 a650 = some r)) :
    Calls Tryd.prog 76 #[.int .i64 a649, .int .i64 a650] w fun e w' => e = .returned (.int .u32 r) ∧ Sep (fps []) w [] w' := by
  unfold pack_mask.f at H
  go_enter Tryd.func76, Tryd.ntmps76
  by_cases c651 : 0 ≤ (IntKind.u64.wrap (a650))
  · have H := if_yes c651 H
    have c651b0 : decide (0 ≤ (IntKind.u64.wrap (a650))) = true := decide_eq_true c651
    by_cases c652 : 0 ≤ (IntKind.u64.wrap (a649))
    · have H := if_yes c652 H
      have c652b0 : decide (0 ≤ (IntKind.u64.wrap (a649))) = true := decide_eq_true c652
      skip
      skip
      go_wp2_with fail
      clear c651 c652
      go_ret
      rw [← some_eq H]
      exact ⟨(by first | rfl | (simp [IntKind.wrap_u32]; done)), HS.out⟩
    · have H := if_no c652 H
      have c652b0 : decide (0 ≤ (IntKind.u64.wrap (a649))) = false := decide_eq_false c652
      exact (none_no H).elim
  · have H := if_no c651 H
    have c651b0 : decide (0 ≤ (IntKind.u64.wrap (a650))) = false := decide_eq_false c651
    exact (none_no H).elim

set_option maxHeartbeats 30000000 in
set_option maxRecDepth 100000 in
theorem pack_Put.calls (a627 : Int) (a628 : Int) (a629 : Int) (a630 : Int) (r : Int × Int) (w : World)  (HGl0 : Aside0 (Gl 0 #[.int .i64 0, .int .i64 0, .int .i64 0, .int .i64 0, .int .i64 0] (fps []) w)) (HS : Aside0 (Sep (fps []) w [] w)) (H : Aside0 (pack_Put.f a627 a628 a629 a630 = some r)) :
    Calls Tryd.prog 126 #[.int .u32 a627, .int .i64 a628, .int .i64 a629, .int .u32 a630] w fun e w' => e = .returned (.tuple #[.int .u32 r.1, .int .i64 r.2]) ∧ Sep (fps []) w [] w' := by
  unfold pack_Put.f at H
  go_enter Tryd.func126, Tryd.ntmps126
  go_wp2_with fail
  obtain ⟨t636, HA637, H⟩ := bind_some H
  refine (pack_isPiece.calls a628 a629 t636 _ ⟨HGl0.out.pass (l := []) HS.out⟩ ⟨Sep.start _⟩ HA637).mono ?_
  rintro e_ w638 ⟨rfl, hS⟩
  replace HS : Aside0 (Sep (fps []) w [] w638) := ⟨HS.out.call hS⟩
  clear hS
  by_cases c639 : t636 = true
  · have H := if_yes c639 H
    have c639b0 : t636 = true := c639
    have c639b1 : (!t636) = false := by rw [c639b0]; rfl
    try rw [c639b1]
    clear c639
    go_wp2_with fail
    obtain ⟨t645, HA646, H⟩ := bind_some H
    refine (pack_Fits.calls a630 a629 t645 _ ⟨HGl0.out.pass (l := []) HS.out⟩ ⟨Sep.start _⟩ HA646).mono ?_
    rintro e_ w647 ⟨rfl, hS⟩
    replace HS : Aside0 (Sep (fps []) w [] w647) := ⟨HS.out.call hS⟩
    clear hS
    by_cases c648 : t645 = true
    · have H := if_yes c648 H
      have c648b0 : t645 = true := c648
      have c648b1 : (!t645) = false := by rw [c648b0]; rfl
      try rw [c648b1]
      clear c648
      go_wp2_with fail
      obtain ⟨t653, HA654, H⟩ := bind_some H
      refine (pack_mask.calls a628 a629 t653 _ ⟨HGl0.out.pass (l := []) HS.out⟩ ⟨Sep.start _⟩ HA654).mono ?_
      rintro e_ w655 ⟨rfl, hS⟩
      replace HS : Aside0 (Sep (fps []) w [] w655) := ⟨HS.out.call hS⟩
      clear hS
      by_cases c656 : 0 ≤ (IntKind.u64.wrap (a628))
      · have H := if_yes c656 H
        have c656b0 : decide (0 ≤ (IntKind.u64.wrap (a628))) = true := decide_eq_true c656
        skip
        go_wp2_with fail
        clear c656
        go_ret2
        rw [← some_eq H]
        exact ⟨(by first | rfl | (simp [IntKind.wrap_u32]; done)), HS.out⟩
      · have H := if_no c656 H
        have c656b0 : decide (0 ≤ (IntKind.u64.wrap (a628))) = false := decide_eq_false c656
        exact (none_no H).elim
    · have H := if_no c648 H
      have c648b0 : t645 = false := by simpa using c648
      have c648b1 : (!t645) = true := by rw [c648b0]; rfl
      try rw [c648b1]
      clear c648
      go_wp2_with fail
      go_ret2
      rw [← some_eq H]
      exact ⟨(by first | rfl | (simp [IntKind.wrap_u32]; done)), HS.out⟩
  · have H := if_no c639 H
    have c639b0 : t636 = false := by simpa using c639
    have c639b1 : (!t636) = true := by rw [c639b0]; rfl
    try rw [c639b1]
    clear c639
    go_wp2_with fail
    go_ret2
    rw [← some_eq H]
    exact ⟨(by first | rfl | (simp [IntKind.wrap_u32]; done)), HS.out⟩

set_option maxHeartbeats 30000000 in
set_option maxRecDepth 100000 in
theorem pack_Join.calls (k : Nat) (l571 : List Int) (l575 : List Int) (A572 : Option Addr) (n573 : Nat) (A576 : Option Addr) (n577 : Nat) (r : Int × Int) (w : World) (HR574 : Aside0 (Rd (Kd.int .u32) (fps []) w A572 l571.length l571)) (HR578 : Aside0 (Rd (Kd.int .i64) (fps []) w A576 l575.length l575)) (HGl0 : Aside0 (Gl 0 #[.int .i64 0, .int .i64 0, .int .i64 0, .int .i64 0, .int .i64 0] (fps []) w)) (HS : Aside0 (Sep (fps []) w [] w)) (H : Aside0 (pack_Join.f k l571 l575 = some r)) :
    Calls Tryd.prog 69 #[.slice A572 l571.length n573, .slice A576 l575.length n577] w fun e w' => e = .returned (.tuple #[.int .u32 r.1, .int .i64 r.2]) ∧ Sep (fps []) w [] w' := by
  unfold pack_Join.f at H
  go_enter Tryd.func69, Tryd.ntmps69
  go_wp2_with fail
  obtain ⟨t608, HA609, H⟩ := bind_some H
  refine (pack_total.calls _ l575 A576 n577 t608 _ ⟨Rd.pass (l := []) (by decide) (fun _ _ _ _ h => h) HR578.out HS.out⟩ ⟨HGl0.out.pass (l := []) HS.out⟩ ⟨Sep.start _⟩ HA609).mono ?_
  rintro e_ w610 ⟨rfl, hS⟩
  replace HS : Aside0 (Sep (fps []) w [] w610) := ⟨HS.out.call hS⟩
  clear hS
  by_cases c611 : t608 < 0
  · have H := if_yes c611 H
    have c611b0 : decide (t608 < 0) = true := decide_eq_true c611
    clear c611
    go_wp2_with fail
    go_ret2
    rw [← some_eq H]
    exact ⟨(by first | rfl | (simp [IntKind.wrap_u32]; done)), HS.out⟩
  · have H := if_no c611 H
    have c611b0 : decide (t608 < 0) = false := decide_eq_false c611
    clear c611
    by_cases c612 : (l571.length : Int) = (l575.length : Int)
    · have H := if_yes c612 H
      have c612b0 : ((l571.length : Int) == (l575.length : Int)) = true := beq_iff_eq.mpr c612
      have c612b1 : ((l571.length : Int) != (l575.length : Int)) = false := bne_eq_false_iff_eq.mpr c612
      clear c612
      go_wp2_with fail
      obtain ⟨o661, AL662, H⟩ := bind_some H
      go_loopg [6, 7, 24] k (fun kq v6 v7 v24 wc => ∃ (x665 : Int) (x666 : Int) (x667 : Int), v6 = .int .u32 x665 ∧ v7 = .int .i64 x666 ∧ v24 = .int .i64 x667 ∧ Aside0 (pack_Join.lo0 kq l571 l575 x665 x666 x667 = some o661) ∧ Aside0 (Sep (fps []) w [] wc))
      case atStart => exact ⟨(0), (0), (0), (by first | rfl | (simp [IntKind.wrap_u32]; done)), (by first | rfl | (simp [IntKind.wrap_u32]; done)), (by first | rfl | (simp [IntKind.wrap_u32]; done)), AL662, ⟨HS.out⟩⟩
      case round =>
        clear AL662 HS
        obtain ⟨x665, x666, x667, rfl, rfl, rfl, AL662, HS⟩ := hrel
        obtain ⟨w663, rfl⟩ : ∃ x : World, x = wr := ⟨_, rfl⟩
        cases gk with
        | zero => exact absurd AL662.out (by simp [pack_Join.lo0])
        | succ k664 =>
          have AL0 := AL662.out
          rw [pack_Join.lo0] at AL0
          clear AL662
          have AL662 := Aside0.mk AL0
          clear AL0
          by_cases c668 : x667 < (l575.length : Int)
          · have AL662 := if_yes c668 AL662
            have c668b0 : decide (x667 < (l575.length : Int)) = true := decide_eq_true c668
            clear c668
            by_cases c669 : 0 ≤ x667
            · have AL662 := if_yes c669 AL662
              have c669b0 : decide (0 ≤ x667) = true := decide_eq_true c669
              have c669p : (0 ≤ x667) = True := eq_true c669
              clear c669
              have ip670 : (x667 < (l575.length : Int)) = True := eq_true (of_decide_eq_true c668b0)
              by_cases c672 : x667 < (l571.length : Int)
              · have AL662 := if_yes c672 AL662
                have c672b0 : decide (x667 < (l571.length : Int)) = true := decide_eq_true c672
                have c672p : (x667 < (l571.length : Int)) = True := eq_true c672
                clear c672
                obtain ⟨hx671a, hx671e, hx671⟩ := Kd.at_int (Rd.read (fun _ _ _ _ h => h) HR578.out HS.out.fr) x667 (of_decide_eq_true c669b0) (of_decide_eq_true c668b0); cases hx671e
                obtain ⟨hx673a, hx673e, hx673⟩ := Kd.at_int (Rd.read (fun _ _ _ _ h => h) HR574.out HS.out.fr) x667 (of_decide_eq_true c669b0) (of_decide_eq_true c672b0); cases hx673e
                go_wp2_with fail
                clear hx671 hx673
                obtain ⟨t657, HA674, AL662⟩ := bind_some AL662
                refine (pack_Put.calls x665 x666 (rd l575 x667) (rd l571 x667) t657 _ ⟨HGl0.out.pass (l := []) HS.out⟩ ⟨Sep.start _⟩ HA674).mono ?_
                rintro e_ w675 ⟨rfl, hS⟩
                replace HS : Aside0 (Sep (fps []) w [] w675) := ⟨HS.out.call hS⟩
                clear hS
                by_cases c676 : t657.2 = 0
                · have AL662 := if_yes c676 AL662
                  have c676b0 : (t657.2 == 0) = true := beq_iff_eq.mpr c676
                  have c676b1 : (t657.2 != 0) = false := bne_eq_false_iff_eq.mpr c676
                  clear c676
                  go_wp2_with fail
                  go_roundg k664
                  case measure => exact Nat.lt_succ_self _
                  case rel => exact ⟨(t657.1), (wrap64 (x666 + (rd l575 x667))), (wrap64 (x667 + 1)), (by first | rfl | (simp [IntKind.wrap_u32]; done)), (by first | rfl | (simp [IntKind.wrap_u32]; done)), (by first | rfl | (simp [IntKind.wrap_u32]; done)), Aside0.mk AL662.out, ⟨HS.out⟩⟩
                · have AL662 := if_no c676 AL662
                  have c676b0 : (t657.2 == 0) = false := beq_eq_false_iff_ne.mpr c676
                  have c676b1 : (t657.2 != 0) = true := bne_iff_ne.mpr c676
                  clear c676
                  go_wp2_with fail
                  have ho := some_eq AL662
                  subst ho
                  have H := lp_ret H
                  go_ret2
                  rw [← some_eq H]
                  exact ⟨(by first | rfl | (simp [IntKind.wrap_u32]; done)), HS.out⟩
              · have AL662 := if_no c672 AL662
                have c672b0 : decide (x667 < (l571.length : Int)) = false := decide_eq_false c672
                clear c672
                exact (none_no AL662).elim
            · have AL662 := if_no c669 AL662
              have c669b0 : decide (0 ≤ x667) = false := decide_eq_false c669
              clear c669
              exact (none_no AL662).elim
          · have AL662 := if_no c668 AL662
            have c668b0 : decide (x667 < (l575.length : Int)) = false := decide_eq_false c668
            clear c668
            have ho := some_eq AL662
            subst ho
            clear AL662
            have H := lp_out H
            go_wp2_with fail
            go_ret2
            rw [← some_eq H]
            exact ⟨(by first | rfl | (simp [IntKind.wrap_u32]; done)), HS.out⟩
    · have H := if_no c612 H
      have c612b0 : ((l571.length : Int) == (l575.length : Int)) = false := beq_eq_false_iff_ne.mpr c612
      have c612b1 : ((l571.length : Int) != (l575.length : Int)) = true := bne_iff_ne.mpr c612
      clear c612
      go_wp2_with fail
      go_ret2
      rw [← some_eq H]
      exact ⟨(by first | rfl | (simp [IntKind.wrap_u32]; done)), HS.out⟩

set_option maxHeartbeats 30000000 in
set_option maxRecDepth 100000 in
theorem tag_Pack.calls (k : Nat) (a364 : Int) (a365 : Int) (a366 : Int) (a367 : Int) (a368 : Int) (a369 : Int) (a370 : Int) (r : Int × Int) (w : World)  (HGl0 : Aside0 (Gl 0 #[.int .i64 0, .int .i64 0, .int .i64 0, .int .i64 0, .int .i64 0] (fps []) w)) (HS : Aside0 (Sep (fps []) w [] w)) (H : Aside0 (tag_Pack.f k a364 a365 a366 a367 a368 a369 a370 = some r)) :
    Calls Tryd.prog 16 #[.agg #[.int .i64 a364, .int .i64 a365, .int .i64 a366, .int .i64 a367, .int .i64 a368, .int .i64 a369, .int .i64 a370]] w fun e w' => e = .returned (.tuple #[.int .u32 r.1, .int .i64 r.2]) ∧ Sep (fps []) w [] w' := by
  unfold tag_Pack.f at H
  go_enter Tryd.func16, Tryd.ntmps16
  go_wp2_with (first | ((with_reducible refine gate_dst (N := 1) rfl ?_); refine box_on ?hg (N := 1) ?hd (cs := #[.int .i64 a364, .int .i64 a365, .int .i64 a366, .int .i64 a367, .int .i64 a368, .int .i64 a369, .int .i64 a370]) (t := 32) ?hr ?_; (case hd => rfl); (case hg => rfl); (case hr => first | (go_simp; done) | (go_simp; rfl)); intro g371 hg w372 hbox hb; replace HS : Aside0 (Sep (fps []) w [b4 g371 a364 a365 a366 a367 a368 a369 a370] w372) := ⟨HS.out.box hg hbox hb⟩; clear hg hbox hb; have hc374 : w372.cell? ⟨g371, 0, none⟩ = some (.int .i64 a364) := blk_cellv (HS.out.at0) 0 rfl; have hc375 : w372.cell? ⟨g371, 1, none⟩ = some (.int .i64 a365) := blk_cellv (HS.out.at0) 1 rfl; have hc376 : w372.cell? ⟨g371, 2, none⟩ = some (.int .i64 a366) := blk_cellv (HS.out.at0) 2 rfl; have hc377 : w372.cell? ⟨g371, 3, none⟩ = some (.int .i64 a367) := blk_cellv (HS.out.at0) 3 rfl; have hc378 : w372.cell? ⟨g371, 4, none⟩ = some (.int .i64 a368) := blk_cellv (HS.out.at0) 4 rfl; have hc379 : w372.cell? ⟨g371, 5, none⟩ = some (.int .i64 a369) := blk_cellv (HS.out.at0) 5 rfl; have hc380 : w372.cell? ⟨g371, 6, none⟩ = some (.int .i64 a370) := blk_cellv (HS.out.at0) 6 rfl))
  clear hc374 hc375 hc376 hc377 hc378 hc379 hc380
  obtain ⟨t513, HA514, H⟩ := bind_some H
  refine (tag_Right.calls _ a364 a365 a366 a367 a368 a369 a370 t513 _ ⟨HGl0.out.pass (l := []) HS.out⟩ ⟨Sep.start _⟩ HA514).mono ?_
  rintro e_ w515 ⟨rfl, hS⟩
  replace HS : Aside0 (Sep (fps []) w [b4 g371 a364 a365 a366 a367 a368 a369 a370] w515) := ⟨HS.out.call hS⟩
  clear hS
  by_cases c516 : t513 = true
  · have H := if_yes c516 H
    have c516b0 : t513 = true := c516
    have c516b1 : (!t513) = false := by rw [c516b0]; rfl
    try rw [c516b1]
    clear c516
    have hc517 : w515.cell? ⟨g371, 0, none⟩ = some (.int .i64 a364) := blk_cellv (HS.out.at0) 0 rfl
    go_wp2_with (first | ((with_reducible refine gate_dst (N := 13) rfl ?_); refine slice_on (n := 1) ?hg (N := 13) ?hd (cs := #[.int .u32 ((a364) % 4294967296)]) (t := 33) ?hr ?_; (case hd => rfl); (case hg => rfl); (case hr => first | (go_simp; done) | (go_simp; rfl)); intro g518 hg w519 hbox hb; clear hc517; replace HS : Aside0 (Sep (fps []) w [b4 g371 a364 a365 a366 a367 a368 a369 a370, b6 g518 ((a364) % 4294967296)] w519) := ⟨HS.out.box hg hbox hb⟩; clear hg hbox hb; have hc521 : w519.cell? ⟨g371, 0, none⟩ = some (.int .i64 a364) := blk_cellv (HS.out.at0) 0 rfl; have hc522 : w519.cell? ⟨g371, 1, none⟩ = some (.int .i64 a365) := blk_cellv (HS.out.at0) 1 rfl; have hc523 : w519.cell? ⟨g371, 2, none⟩ = some (.int .i64 a366) := blk_cellv (HS.out.at0) 2 rfl; have hc524 : w519.cell? ⟨g371, 3, none⟩ = some (.int .i64 a367) := blk_cellv (HS.out.at0) 3 rfl; have hc525 : w519.cell? ⟨g371, 4, none⟩ = some (.int .i64 a368) := blk_cellv (HS.out.at0) 4 rfl; have hc526 : w519.cell? ⟨g371, 5, none⟩ = some (.int .i64 a369) := blk_cellv (HS.out.at0) 5 rfl; have hc527 : w519.cell? ⟨g371, 6, none⟩ = some (.int .i64 a370) := blk_cellv (HS.out.at0) 6 rfl))
    clear hc521 hc522 hc523 hc524 hc525 hc526 hc527
    obtain ⟨t528, HA529, H⟩ := bind_some H
    refine (tag_marks.calls a364 a365 a366 a367 a368 a369 a370 t528 _ ⟨HGl0.out.pass (l := []) HS.out⟩ ⟨Sep.start _⟩ HA529).mono ?_
    rintro e_ w530 ⟨rfl, hS⟩
    replace HS : Aside0 (Sep (fps []) w [b4 g371 a364 a365 a366 a367 a368 a369 a370, b6 g518 ((a364) % 4294967296)] w530) := ⟨HS.out.call hS⟩
    clear hS
    go_wp2_with fail
    replace HS : Aside0 (Sep (fps []) w [b4 g371 a364 a365 a366 a367 a368 a369 a370, r7 (some ⟨g518, 0, none⟩) 1 1 [(a364) % 4294967296]] w530) := ⟨Sep.litrow (l1 := [b4 g371 a364 a365 a366 a367 a368 a369 a370]) (l2 := []) (enc := Value.int .u32) (xs := [(a364) % 4294967296]) (n := 1) HS.out rfl (by decide)⟩
    obtain ⟨o532, AL533, H⟩ := bind_some H
    go_loopg [4, 16] k (fun kq v4 v16 wc => ∃ (x537 : Int) (x538 : List Int) (A539 : Option Addr) (m540 : Nat) (n541 : Nat), v4 = .slice A539 m540 n541 ∧ v16 = .int .i64 x537 ∧ Aside0 (tag_Pack.lo0 kq t528 x537 x538 = some o532) ∧ Aside0 (Sep (fps []) w [b4 g371 a364 a365 a366 a367 a368 a369 a370, r7 A539 m540 n541 x538] wc))
    case atStart => exact ⟨(0), ([(a364) % 4294967296]), ((some ⟨g518, 0, none⟩)), (1), (1), (by first | rfl | (simp [IntKind.wrap_u32]; done)), (by first | rfl | (simp [IntKind.wrap_u32]; done)), AL533, ⟨HS.out⟩⟩
    case round =>
      clear AL533 HS
      obtain ⟨x537, x538, A539, m540, n541, rfl, rfl, AL533, HS⟩ := hrel
      obtain ⟨w534, rfl⟩ : ∃ x : World, x = wr := ⟨_, rfl⟩
      obtain rfl := (row_len (HS.out.at1)).symm
      cases gk with
      | zero => exact absurd AL533.out (by simp [tag_Pack.lo0])
      | succ k535 =>
        have AL0 := AL533.out
        rw [tag_Pack.lo0] at AL0
        clear AL533
        have AL533 := Aside0.mk AL0
        clear AL0
        by_cases c543 : x537 < 5
        · have AL533 := if_yes c543 AL533
          have c543b0 : decide (x537 < 5) = true := decide_eq_true c543
          clear c543
          by_cases c544 : 0 ≤ x537
          · have AL533 := if_yes c544 AL533
            have c544b0 : decide (0 ≤ x537) = true := decide_eq_true c544
            have c544p : (0 ≤ x537) = True := eq_true c544
            clear c544
            have ip545 : (x537 < 5) = True := eq_true (of_decide_eq_true c543b0)
            have ix546 : ∀ w, (Instr.index 108 (.agg #[.int .i64 t528.1, .int .i64 t528.2.1, .int .i64 t528.2.2.1, .int .i64 t528.2.2.2.1, .int .i64 t528.2.2.2.2]) (.int .i64 x537)).run Tryd.prog w = .ok (.int .i64 (rd [t528.1, t528.2.1, t528.2.2.1, t528.2.2.2.1, t528.2.2.2.2] x537)) w := run_index_ints 108 3 5 .i64 .i64 [t528.1, t528.2.1, t528.2.2.1, t528.2.2.2.1, t528.2.2.2.2] x537 Tryd.underlying108 (fun _ => by kernel_rfl) (fun _ => by kernel_rfl) rfl (of_decide_eq_true c544b0) (of_decide_eq_true c543b0)
            by_cases c550 : x538.length < 35184372088832
            · have AL533 := if_yes c550 AL533
              have c550b0 : decide (x538.length < 35184372088832) = true := decide_eq_true c550
              clear c550
              obtain ⟨y554, HA555, AL533⟩ := bind_some AL533
              go_wp2_with (first | ((with_reducible refine gate_dst (N := 22) rfl ?_); refine slice_on (n := 1) ?hg (N := 22) ?hd (cs := #[.int .u32 ((rd [t528.1, t528.2.1, t528.2.2.1, t528.2.2.2.1, t528.2.2.2.2] x537) % 4294967296)]) (t := 33) ?hr ?_; (case hd => rfl); (case hg => rfl); (case hr => first | (go_simp; done) | (go_simp; rfl)); intro g547 hg w548 hbox hb; replace HS : Aside0 (Sep (fps []) w [b4 g371 a364 a365 a366 a367 a368 a369 a370, r7 A539 x538.length n541 x538, b6 g547 ((rd [t528.1, t528.2.1, t528.2.2.1, t528.2.2.2.1, t528.2.2.2.2] x537) % 4294967296)] w548) := ⟨HS.out.box hg hbox hb⟩; clear hg hbox hb) | ((with_reducible refine gate_dst (N := 23) rfl ?_); refine append_event (l1 := [b4 g371 a364 a365 a366 a367 a368 a369 a370]) (l2 := [b6 g547 ((rd [t528.1, t528.2.1, t528.2.2.1, t528.2.2.2.1, t528.2.2.2.2] x537) % 4294967296)]) rfl (.tmp 19) (.tmp 22) 69 33 (.int .u32 0) 4 rfl Tryd.underlying69 (by kernel_rfl) rfl (by decide) (Value.int .u32) (fun _ => rfl) (.slice A539 x538.length n541) (x538 : List Int) [(rd [t528.1, t528.2.1, t528.2.2.1, t528.2.2.2.1, t528.2.2.2.2] x537) % 4294967296] ⟨g547, 0, none⟩ 1 rfl rfl (blk_news (xs := [(rd [t528.1, t528.2.1, t528.2.2.1, t528.2.2.2.1, t528.2.2.2.2] x537) % 4294967296]) (HS.out.at2)) HS.out (by have := of_decide_eq_true c550b0; simp only [List.length_cons, List.length_nil]; omega) HA555 ?_; intro A551 n552 w553 HS1; replace HS : Aside0 (Sep (fps []) w [b4 g371 a364 a365 a366 a367 a368 a369 a370, r7 A551 y554.length n552 y554, b6 g547 ((rd [t528.1, t528.2.1, t528.2.2.1, t528.2.2.2.1, t528.2.2.2.2] x537) % 4294967296)] w553) := ⟨HS1⟩; clear HS1; replace HS : Aside0 (Sep (fps []) w [b4 g371 a364 a365 a366 a367 a368 a369 a370, r7 A551 y554.length n552 y554] w553) := ⟨HS.out.sub (.cons_cons _ (.cons_cons _ (.cons _ .slnil)))⟩))
              go_roundg k535
              case measure => exact Nat.lt_succ_self _
              case rel => exact ⟨(wrap64 (x537 + 1)), (y554), (A551), (y554.length), (n552), (by first | rfl | (simp [IntKind.wrap_u32]; done)), (by first | rfl | (simp [IntKind.wrap_u32]; done)), Aside0.mk AL533.out, ⟨HS.out⟩⟩
            · have AL533 := if_no c550 AL533
              have c550b0 : decide (x538.length < 35184372088832) = false := decide_eq_false c550
              clear c550
              exact (none_no AL533).elim
          · have AL533 := if_no c544 AL533
            have c544b0 : decide (0 ≤ x537) = false := decide_eq_false c544
            clear c544
            exact (none_no AL533).elim
        · have AL533 := if_no c543 AL533
          have c543b0 : decide (x537 < 5) = false := decide_eq_false c543
          clear c543
          have ho := some_eq AL533
          subst ho
          clear AL533
          by_cases c561 : x538.length < 35184372088831
          · have H := if_yes c561 H
            have c561b0 : decide (x538.length < 35184372088831) = true := decide_eq_true c561
            clear c561
            obtain ⟨y565, HA566, H⟩ := bind_some H
            have hc557 : w534.cell? ⟨g371, 6, none⟩ = some (.int .i64 a370) := blk_cellv (HS.out.at0) 6 rfl
            go_wp2_with (first | ((with_reducible refine gate_dst (N := 29) rfl ?_); refine slice_on (n := 2) ?hg (N := 29) ?hd (cs := #[.int .u32 0, .int .u32 ((a370) % 4294967296)]) (t := 33) ?hr ?_; (case hd => rfl); (case hg => rfl); (case hr => first | (go_simp; done) | (go_simp; rfl)); intro g558 hg w559 hbox hb; clear hc557; replace HS : Aside0 (Sep (fps []) w [b4 g371 a364 a365 a366 a367 a368 a369 a370, r7 A539 x538.length n541 x538, b8 g558 0 ((a370) % 4294967296)] w559) := ⟨HS.out.box hg hbox hb⟩; clear hg hbox hb) | ((with_reducible refine gate_dst (N := 30) rfl ?_); refine append_event (l1 := [b4 g371 a364 a365 a366 a367 a368 a369 a370]) (l2 := [b8 g558 0 ((a370) % 4294967296)]) rfl (.tmp 25) (.tmp 29) 69 33 (.int .u32 0) 4 rfl Tryd.underlying69 (by kernel_rfl) rfl (by decide) (Value.int .u32) (fun _ => rfl) (.slice A539 x538.length n541) (x538 : List Int) [0, (a370) % 4294967296] ⟨g558, 0, none⟩ 2 rfl rfl (blk_news (xs := [0, (a370) % 4294967296]) (HS.out.at2)) HS.out (by have := of_decide_eq_true c561b0; simp only [List.length_cons, List.length_nil]; omega) HA566 ?_; intro A562 n563 w564 HS1; replace HS : Aside0 (Sep (fps []) w [b4 g371 a364 a365 a366 a367 a368 a369 a370, r7 A562 y565.length n563 y565, b8 g558 0 ((a370) % 4294967296)] w564) := ⟨HS1⟩; clear HS1) | ((with_reducible refine gate_dst (N := 31) rfl ?_); refine slice_on (n := 8) ?hg (N := 31) ?hd (cs := #[.int .i64 2, .int .i64 1, .int .i64 1, .int .i64 1, .int .i64 1, .int .i64 1, .int .i64 1, .int .i64 24]) (t := 3) ?hr ?_; (case hd => rfl); (case hg => rfl); (case hr => first | (go_simp; done) | (go_simp; rfl)); intro g568 hg w569 hbox hb; replace HS : Aside0 (Sep (fps []) w [b4 g371 a364 a365 a366 a367 a368 a369 a370, r7 A562 y565.length n563 y565, b8 g558 0 ((a370) % 4294967296), b9 g568 2 1 1 1 1 1 1 24] w569) := ⟨HS.out.box hg hbox hb⟩; clear hg hbox hb))
            obtain ⟨t678, HA679, H⟩ := bind_some H
            refine (pack_Join.calls _ y565 [2, 1, 1, 1, 1, 1, 1, 24] A562 n563 (some ⟨g568, 0, none⟩) 8 t678 _ ⟨Rd.ownI (l := []) HS.out 1 rfl⟩ ⟨Rd.lit (l := []) (xs := [2, 1, 1, 1, 1, 1, 1, 24]) HS.out 3 rfl (by simp)⟩ ⟨HGl0.out.pass (l := []) HS.out⟩ ⟨Sep.start _⟩ HA679).mono ?_
            rintro e_ w680 ⟨rfl, hS⟩
            replace HS : Aside0 (Sep (fps []) w [b4 g371 a364 a365 a366 a367 a368 a369 a370, r7 A562 y565.length n563 y565, b8 g558 0 ((a370) % 4294967296), b9 g568 2 1 1 1 1 1 1 24] w680) := ⟨HS.out.call hS⟩
            clear hS
            replace HS : Aside0 (Sep (fps []) w [] w680) := ⟨HS.out.sub (.cons _ (.cons _ (.cons _ (.cons _ .slnil))))⟩
            go_wp2_with fail
            go_ret2
            rw [← some_eq H]
            exact ⟨(by first | rfl | (simp [IntKind.wrap_u32]; done)), HS.out⟩
          · have H := if_no c561 H
            have c561b0 : decide (x538.length < 35184372088831) = false := decide_eq_false c561
            clear c561
            exact (none_no H).elim
  · have H := if_no c516 H
    have c516b0 : t513 = false := by simpa using c516
    have c516b1 : (!t513) = true := by rw [c516b0]; rfl
    try rw [c516b1]
    clear c516
    replace HS : Aside0 (Sep (fps []) w [] w515) := ⟨HS.out.sub (.cons _ .slnil)⟩
    go_wp2_with fail
    go_ret2
    rw [← some_eq H]
    exact ⟨(by first | rfl | (simp [IntKind.wrap_u32]; done)), HS.out⟩

set_option maxHeartbeats 30000000 in
set_option maxRecDepth 100000 in
theorem obj_mark_nil.calls (k : Nat) (a346 : Int) (a347 : Int) (a348 : Int) (a349 : Int) (a350 : Int) (a351 : Int) (a352 : Int) (a353 : Int) (r : Unit) (w : World)  (HGl0 : Aside0 (Gl 0 #[.int .i64 0, .int .i64 0, .int .i64 0, .int .i64 0, .int .i64 0] (fps []) w)) (HS : Aside0 (Sep (fps []) w [] w)) (H : Aside0 (obj_mark_nil.f k a346 a347 a348 a349 a350 a351 a352 a353 = some r)) :
    Calls Tryd.prog 99 #[.pointer none, .int .i64 a346, .agg #[.int .i64 a347, .int .i64 a348, .int .i64 a349, .int .i64 a350, .int .i64 a351, .int .i64 a352, .int .i64 a353]] w fun e w' => e = .returned (.tuple #[]) ∧ Sep (fps []) w [] w' := by
  unfold obj_mark_nil.f at H
  go_enter Tryd.func99, Tryd.ntmps99
  go_wp2_with (first | ((with_reducible refine gate_dst (N := 5) rfl ?_); refine box_on ?hg (N := 5) ?hd (cs := #[.int .i64 a347, .int .i64 a348, .int .i64 a349, .int .i64 a350, .int .i64 a351, .int .i64 a352, .int .i64 a353]) (t := 32) ?hr ?_; (case hd => rfl); (case hg => rfl); (case hr => first | (go_simp; done) | (go_simp; rfl)); intro g354 hg w355 hbox hb; replace HS : Aside0 (Sep (fps []) w [b4 g354 a347 a348 a349 a350 a351 a352 a353] w355) := ⟨HS.out.box hg hbox hb⟩; clear hg hbox hb; have hc357 : w355.cell? ⟨g354, 0, none⟩ = some (.int .i64 a347) := blk_cellv (HS.out.at0) 0 rfl; have hc358 : w355.cell? ⟨g354, 1, none⟩ = some (.int .i64 a348) := blk_cellv (HS.out.at0) 1 rfl; have hc359 : w355.cell? ⟨g354, 2, none⟩ = some (.int .i64 a349) := blk_cellv (HS.out.at0) 2 rfl; have hc360 : w355.cell? ⟨g354, 3, none⟩ = some (.int .i64 a350) := blk_cellv (HS.out.at0) 3 rfl; have hc361 : w355.cell? ⟨g354, 4, none⟩ = some (.int .i64 a351) := blk_cellv (HS.out.at0) 4 rfl; have hc362 : w355.cell? ⟨g354, 5, none⟩ = some (.int .i64 a352) := blk_cellv (HS.out.at0) 5 rfl; have hc363 : w355.cell? ⟨g354, 6, none⟩ = some (.int .i64 a353) := blk_cellv (HS.out.at0) 6 rfl))
  clear hc357 hc358 hc359 hc360 hc361 hc362 hc363
  obtain ⟨t700, HA701, H⟩ := bind_some H
  refine (tag_Pack.calls _ a347 a348 a349 a350 a351 a352 a353 t700 _ ⟨HGl0.out.pass (l := []) HS.out⟩ ⟨Sep.start _⟩ HA701).mono ?_
  rintro e_ w702 ⟨rfl, hS⟩
  replace HS : Aside0 (Sep (fps []) w [b4 g354 a347 a348 a349 a350 a351 a352 a353] w702) := ⟨HS.out.call hS⟩
  clear hS
  by_cases c703 : t700.2 = 0
  · have H := if_yes c703 H
    have c703b0 : (t700.2 == 0) = true := beq_iff_eq.mpr c703
    have c703b1 : (t700.2 != 0) = false := bne_eq_false_iff_eq.mpr c703
    clear c703
    replace HS : Aside0 (Sep (fps []) w [] w702) := ⟨HS.out.sub (.cons _ .slnil)⟩
    go_wp2_with fail
    obtain ⟨t704, HA705, H⟩ := bind_some H
    refine (ground_Ground_SetWord_nil.calls a346 0 t700.1 t704 _ ⟨HGl0.out.pass (l := []) HS.out⟩ ⟨Sep.start _⟩ HA705).mono ?_
    rintro e_ w706 ⟨rfl, hS⟩
    replace HS : Aside0 (Sep (fps []) w [] w706) := ⟨HS.out.call hS⟩
    clear hS
    go_wp2_with fail
    first | go_end0 | refine bodyPost_ret (results_none rfl _ _ _) rfl ?_
    clear H
    exact ⟨rfl, HS.out⟩
  · have H := if_no c703 H
    have c703b0 : (t700.2 == 0) = false := beq_eq_false_iff_ne.mpr c703
    have c703b1 : (t700.2 != 0) = true := bne_iff_ne.mpr c703
    clear c703
    replace HS : Aside0 (Sep (fps []) w [] w702) := ⟨HS.out.sub (.cons _ .slnil)⟩
    go_wp2_with fail
    first | go_end0 | refine bodyPost_ret (results_none rfl _ _ _) rfl ?_
    clear H
    exact ⟨rfl, HS.out⟩

set_option maxHeartbeats 30000000 in
set_option maxRecDepth 100000 in
theorem obj_Make_nil.calls (k : Nat) (a4 : Int) (a5 : Int) (r : Int × Int) (w : World)  (HGl0 : Aside0 (Gl 0 #[.int .i64 0, .int .i64 0, .int .i64 0, .int .i64 0, .int .i64 0] (fps []) w)) (HS : Aside0 (Sep (fps []) w [] w)) (H : Aside0 (obj_Make_nil.f k a4 a5 = some r)) :
    Calls Tryd.prog 34 #[.pointer none, .int .i64 a4, .int .i64 a5] w fun e w' => e = .returned (.tuple #[.int .i64 r.1, .int .i64 r.2]) ∧ Sep (fps []) w [] w' := by
  unfold obj_Make_nil.f at H
  go_enter Tryd.func34, Tryd.ntmps34
  go_wp2_with fail
  obtain ⟨t22, HA23, H⟩ := bind_some H
  refine (ground_Ground_Conf_nil.calls t22 _ ⟨HGl0.out.pass (l := []) HS.out⟩ ⟨Sep.start _⟩ HA23).mono ?_
  rintro e_ w24 ⟨rfl, hS⟩
  replace HS : Aside0 (Sep (fps []) w [] w24) := ⟨HS.out.call hS⟩
  clear hS
  have fl25 : ∀ w, (Instr.field 30 (.agg #[.int .i64 t22.1, .int .i64 t22.2.1, .int .i64 t22.2.2.1, .int .i64 t22.2.2.2]) 1).run Tryd.prog w = .ok (.int .i64 t22.2.1) w := fun _ => by kernel_rfl
  go_wp2_with fail
  clear fl25
  obtain ⟨t125, HA126, H⟩ := bind_some H
  refine (shape_Blocks.calls _ t22.2.1 a4 a5 t125 _ ⟨HGl0.out.pass (l := []) HS.out⟩ ⟨Sep.start _⟩ HA126).mono ?_
  rintro e_ w127 ⟨rfl, hS⟩
  replace HS : Aside0 (Sep (fps []) w [] w127) := ⟨HS.out.call hS⟩
  clear hS
  by_cases c128 : t125.2 = 0
  · have H := if_yes c128 H
    have c128b0 : (t125.2 == 0) = true := beq_iff_eq.mpr c128
    have c128b1 : (t125.2 != 0) = false := bne_eq_false_iff_eq.mpr c128
    clear c128
    go_wp2_with fail
    obtain ⟨t190, HA191, H⟩ := bind_some H
    refine (pool_Len_nil.calls t190 _ ⟨HGl0.out.pass (l := []) HS.out⟩ ⟨Sep.start _⟩ HA191).mono ?_
    rintro e_ w192 ⟨rfl, hS⟩
    replace HS : Aside0 (Sep (fps []) w [] w192) := ⟨HS.out.call hS⟩
    clear hS
    by_cases c193 : t190 < t125.1
    · have H := if_yes c193 H
      have c193b0 : decide (t190 < t125.1) = true := decide_eq_true c193
      clear c193
      go_wp2_with fail
      go_ret2
      rw [← some_eq H]
      exact ⟨(by first | rfl | (simp [IntKind.wrap_u32]; done)), HS.out⟩
    · have H := if_no c193 H
      have c193b0 : decide (t190 < t125.1) = false := decide_eq_false c193
      clear c193
      go_wp2_with fail
      obtain ⟨t342, HA343, H⟩ := bind_some H
      refine (pool_Take_nil.calls _ t342 _ ⟨HGl0.out.pass (l := []) HS.out⟩ ⟨Sep.start _⟩ HA343).mono ?_
      rintro e_ w344 ⟨rfl, hS⟩
      replace HS : Aside0 (Sep (fps []) w [] w344) := ⟨HS.out.call hS⟩
      clear hS
      by_cases c345 : t125.1 > 1
      · have H := if_yes c345 H
        have c345b0 : decide (1 < t125.1) = true := decide_eq_true c345
        clear c345
        go_wp2_with fail
        obtain ⟨t707, HA708, H⟩ := bind_some H
        refine (obj_mark_nil.calls _ t342.1 2 0 0 0 0 0 0 t707 _ ⟨HGl0.out.pass (l := []) HS.out⟩ ⟨Sep.start _⟩ HA708).mono ?_
        rintro e_ w709 ⟨rfl, hS⟩
        replace HS : Aside0 (Sep (fps []) w [] w709) := ⟨HS.out.call hS⟩
        clear hS
        go_wp2_with fail
        obtain ⟨t710, HA711, H⟩ := bind_some H
        refine (ground_Ground_SetWord_nil.calls t342.1 1 ((a4) % 4294967296) t710 _ ⟨HGl0.out.pass (l := []) HS.out⟩ ⟨Sep.start _⟩ HA711).mono ?_
        rintro e_ w712 ⟨rfl, hS⟩
        replace HS : Aside0 (Sep (fps []) w [] w712) := ⟨HS.out.call hS⟩
        clear hS
        go_wp2_with fail
        obtain ⟨t713, HA714, H⟩ := bind_some H
        refine (ground_Ground_SetWord_nil.calls t342.1 2 ((a5) % 4294967296) t713 _ ⟨HGl0.out.pass (l := []) HS.out⟩ ⟨Sep.start _⟩ HA714).mono ?_
        rintro e_ w715 ⟨rfl, hS⟩
        replace HS : Aside0 (Sep (fps []) w [] w715) := ⟨HS.out.call hS⟩
        clear hS
        go_wp2_with fail
        obtain ⟨o717, AL718, H⟩ := bind_some H
        go_loopg [56] k (fun kq v56 wc => ∃ (x721 : Int), v56 = .int .i64 x721 ∧ Aside0 (obj_Make_nil.lo0 kq t125 t342 x721 = some o717) ∧ Aside0 (Sep (fps []) w [] wc))
        case atStart => exact ⟨(0), (by first | rfl | (simp [IntKind.wrap_u32]; done)), AL718, ⟨HS.out⟩⟩
        case round =>
          clear AL718 HS
          obtain ⟨x721, rfl, AL718, HS⟩ := hrel
          obtain ⟨w719, rfl⟩ : ∃ x : World, x = wr := ⟨_, rfl⟩
          cases gk with
          | zero => exact absurd AL718.out (by simp [obj_Make_nil.lo0])
          | succ k720 =>
            have AL0 := AL718.out
            rw [obj_Make_nil.lo0] at AL0
            clear AL718
            have AL718 := Aside0.mk AL0
            clear AL0
            by_cases c722 : x721 < (wrap64 (t125.1 - 1))
            · have AL718 := if_yes c722 AL718
              have c722b0 : decide (x721 < (wrap64 (t125.1 - 1))) = true := decide_eq_true c722
              clear c722
              go_wp2_with fail
              obtain ⟨t723, HA724, AL718⟩ := bind_some AL718
              refine (pool_Take_nil.calls _ t723 _ ⟨HGl0.out.pass (l := []) HS.out⟩ ⟨Sep.start _⟩ HA724).mono ?_
              rintro e_ w725 ⟨rfl, hS⟩
              replace HS : Aside0 (Sep (fps []) w [] w725) := ⟨HS.out.call hS⟩
              clear hS
              go_wp2_with fail
              obtain ⟨t726, HA727, AL718⟩ := bind_some AL718
              refine (obj_mark_nil.calls _ t723.1 3 0 0 0 0 0 t342.1 t726 _ ⟨HGl0.out.pass (l := []) HS.out⟩ ⟨Sep.start _⟩ HA727).mono ?_
              rintro e_ w728 ⟨rfl, hS⟩
              replace HS : Aside0 (Sep (fps []) w [] w728) := ⟨HS.out.call hS⟩
              clear hS
              go_wp2_with fail
              obtain ⟨t729, HA730, AL718⟩ := bind_some AL718
              refine (ground_Ground_SetWord_nil.calls t342.1 (wrap64 (8 + x721)) ((wrap64 (t723.1 + 1)) % 4294967296) t729 _ ⟨HGl0.out.pass (l := []) HS.out⟩ ⟨Sep.start _⟩ HA730).mono ?_
              rintro e_ w731 ⟨rfl, hS⟩
              replace HS : Aside0 (Sep (fps []) w [] w731) := ⟨HS.out.call hS⟩
              clear hS
              go_wp2_with fail
              go_roundg k720
              case measure => exact Nat.lt_succ_self _
              case rel => exact ⟨(wrap64 (x721 + 1)), (by first | rfl | (simp [IntKind.wrap_u32]; done)), Aside0.mk AL718.out, ⟨HS.out⟩⟩
            · have AL718 := if_no c722 AL718
              have c722b0 : decide (x721 < (wrap64 (t125.1 - 1))) = false := decide_eq_false c722
              clear c722
              have ho := some_eq AL718
              subst ho
              clear AL718
              go_wp2_with fail
              go_ret2
              rw [← some_eq H]
              exact ⟨(by first | rfl | (simp [IntKind.wrap_u32]; done)), HS.out⟩
      · have H := if_no c345 H
        have c345b0 : decide (1 < t125.1) = false := decide_eq_false c345
        clear c345
        go_wp2_with fail
        obtain ⟨t707, HA733, H⟩ := bind_some H
        refine (obj_mark_nil.calls _ t342.1 1 0 0 0 0 0 0 t707 _ ⟨HGl0.out.pass (l := []) HS.out⟩ ⟨Sep.start _⟩ HA733).mono ?_
        rintro e_ w734 ⟨rfl, hS⟩
        replace HS : Aside0 (Sep (fps []) w [] w734) := ⟨HS.out.call hS⟩
        clear hS
        go_wp2_with fail
        obtain ⟨t710, HA735, H⟩ := bind_some H
        refine (ground_Ground_SetWord_nil.calls t342.1 1 ((a4) % 4294967296) t710 _ ⟨HGl0.out.pass (l := []) HS.out⟩ ⟨Sep.start _⟩ HA735).mono ?_
        rintro e_ w736 ⟨rfl, hS⟩
        replace HS : Aside0 (Sep (fps []) w [] w736) := ⟨HS.out.call hS⟩
        clear hS
        go_wp2_with fail
        obtain ⟨t713, HA737, H⟩ := bind_some H
        refine (ground_Ground_SetWord_nil.calls t342.1 2 ((a5) % 4294967296) t713 _ ⟨HGl0.out.pass (l := []) HS.out⟩ ⟨Sep.start _⟩ HA737).mono ?_
        rintro e_ w738 ⟨rfl, hS⟩
        replace HS : Aside0 (Sep (fps []) w [] w738) := ⟨HS.out.call hS⟩
        clear hS
        go_wp2_with fail
        obtain ⟨o740, AL741, H⟩ := bind_some H
        go_loopg [56] k (fun kq v56 wc => ∃ (x744 : Int), v56 = .int .i64 x744 ∧ Aside0 (obj_Make_nil.lo1 kq t125 t342 x744 = some o740) ∧ Aside0 (Sep (fps []) w [] wc))
        case atStart => exact ⟨(0), (by first | rfl | (simp [IntKind.wrap_u32]; done)), AL741, ⟨HS.out⟩⟩
        case round =>
          clear AL741 HS
          obtain ⟨x744, rfl, AL741, HS⟩ := hrel
          obtain ⟨w742, rfl⟩ : ∃ x : World, x = wr := ⟨_, rfl⟩
          cases gk with
          | zero => exact absurd AL741.out (by simp [obj_Make_nil.lo1])
          | succ k743 =>
            have AL0 := AL741.out
            rw [obj_Make_nil.lo1] at AL0
            clear AL741
            have AL741 := Aside0.mk AL0
            clear AL0
            by_cases c745 : x744 < (wrap64 (t125.1 - 1))
            · have AL741 := if_yes c745 AL741
              have c745b0 : decide (x744 < (wrap64 (t125.1 - 1))) = true := decide_eq_true c745
              clear c745
              go_wp2_with fail
              obtain ⟨t723, HA746, AL741⟩ := bind_some AL741
              refine (pool_Take_nil.calls _ t723 _ ⟨HGl0.out.pass (l := []) HS.out⟩ ⟨Sep.start _⟩ HA746).mono ?_
              rintro e_ w747 ⟨rfl, hS⟩
              replace HS : Aside0 (Sep (fps []) w [] w747) := ⟨HS.out.call hS⟩
              clear hS
              go_wp2_with fail
              obtain ⟨t726, HA748, AL741⟩ := bind_some AL741
              refine (obj_mark_nil.calls _ t723.1 3 0 0 0 0 0 t342.1 t726 _ ⟨HGl0.out.pass (l := []) HS.out⟩ ⟨Sep.start _⟩ HA748).mono ?_
              rintro e_ w749 ⟨rfl, hS⟩
              replace HS : Aside0 (Sep (fps []) w [] w749) := ⟨HS.out.call hS⟩
              clear hS
              go_wp2_with fail
              obtain ⟨t729, HA750, AL741⟩ := bind_some AL741
              refine (ground_Ground_SetWord_nil.calls t342.1 (wrap64 (8 + x744)) ((wrap64 (t723.1 + 1)) % 4294967296) t729 _ ⟨HGl0.out.pass (l := []) HS.out⟩ ⟨Sep.start _⟩ HA750).mono ?_
              rintro e_ w751 ⟨rfl, hS⟩
              replace HS : Aside0 (Sep (fps []) w [] w751) := ⟨HS.out.call hS⟩
              clear hS
              go_wp2_with fail
              go_roundg k743
              case measure => exact Nat.lt_succ_self _
              case rel => exact ⟨(wrap64 (x744 + 1)), (by first | rfl | (simp [IntKind.wrap_u32]; done)), Aside0.mk AL741.out, ⟨HS.out⟩⟩
            · have AL741 := if_no c745 AL741
              have c745b0 : decide (x744 < (wrap64 (t125.1 - 1))) = false := decide_eq_false c745
              clear c745
              have ho := some_eq AL741
              subst ho
              clear AL741
              go_wp2_with fail
              go_ret2
              rw [← some_eq H]
              exact ⟨(by first | rfl | (simp [IntKind.wrap_u32]; done)), HS.out⟩
  · have H := if_no c128 H
    have c128b0 : (t125.2 == 0) = false := beq_eq_false_iff_ne.mpr c128
    have c128b1 : (t125.2 != 0) = true := bne_iff_ne.mpr c128
    clear c128
    go_wp2_with fail
    go_ret2
    rw [← some_eq H]
    exact ⟨(by first | rfl | (simp [IntKind.wrap_u32]; done)), HS.out⟩

set_option maxHeartbeats 30000000 in
set_option maxRecDepth 100000 in
theorem obj_in_nil.calls (a766 : Int) (r : Bool) (w : World)  (HGl0 : Aside0 (Gl 0 #[.int .i64 0, .int .i64 0, .int .i64 0, .int .i64 0, .int .i64 0] (fps []) w)) (HS : Aside0 (Sep (fps []) w [] w)) (H : Aside0 (obj_in_nil.f a766 = some r)) :
    Calls Tryd.prog 100 #[.pointer none, .int .i64 a766] w fun e w' => e = .returned (.bool r) ∧ Sep (fps []) w [] w' := by
  unfold obj_in_nil.f at H
  go_enter Tryd.func100, Tryd.ntmps100
  by_cases c767 : a766 > 0
  · have H := if_yes c767 H
    have c767b0 : decide (0 < a766) = true := decide_eq_true c767
    clear c767
    go_wp2_with fail
    obtain ⟨t768, HA769, H⟩ := bind_some H
    refine (ground_Ground_Conf_nil.calls t768 _ ⟨HGl0.out.pass (l := []) HS.out⟩ ⟨Sep.start _⟩ HA769).mono ?_
    rintro e_ w770 ⟨rfl, hS⟩
    replace HS : Aside0 (Sep (fps []) w [] w770) := ⟨HS.out.call hS⟩
    clear hS
    have fl771 : ∀ w, (Instr.field 30 (.agg #[.int .i64 t768.1, .int .i64 t768.2.1, .int .i64 t768.2.2.1, .int .i64 t768.2.2.2]) 0).run Tryd.prog w = .ok (.int .i64 t768.1) w := fun _ => by kernel_rfl
    go_wp2_with fail
    clear fl771
    go_ret
    rw [← some_eq H]
    exact ⟨(by first | rfl | (simp [IntKind.wrap_u32]; done)), HS.out⟩
  · have H := if_no c767 H
    have c767b0 : decide (0 < a766) = false := decide_eq_false c767
    clear c767
    go_wp2_with fail
    go_ret
    rw [← some_eq H]
    exact ⟨(by first | rfl | (simp [IntKind.wrap_u32]; done)), HS.out⟩

set_option maxHeartbeats 30000000 in
set_option maxRecDepth 100000 in
theorem pack_Get.calls (a792 : Int) (a793 : Int) (a794 : Int) (r : Int) (w : World)  (HGl0 : Aside0 (Gl 0 #[.int .i64 0, .int .i64 0, .int .i64 0, .int .i64 0, .int .i64 0] (fps []) w)) (HS : Aside0 (Sep (fps []) w [] w)) (H : Aside0 (pack_Get.f a792 a793 a794 = some r)) :
    Calls Tryd.prog 20 #[.int .u32 a792, .int .i64 a793, .int .i64 a794] w fun e w' => e = .returned (.int .u32 r) ∧ Sep (fps []) w [] w' := by
  unfold pack_Get.f at H
  go_enter Tryd.func20, Tryd.ntmps20
  go_wp2_with fail
  obtain ⟨t795, HA796, H⟩ := bind_some H
  refine (pack_isPiece.calls a793 a794 t795 _ ⟨HGl0.out.pass (l := []) HS.out⟩ ⟨Sep.start _⟩ HA796).mono ?_
  rintro e_ w797 ⟨rfl, hS⟩
  replace HS : Aside0 (Sep (fps []) w [] w797) := ⟨HS.out.call hS⟩
  clear hS
  by_cases c798 : t795 = true
  · have H := if_yes c798 H
    have c798b0 : t795 = true := c798
    have c798b1 : (!t795) = false := by rw [c798b0]; rfl
    try rw [c798b1]
    clear c798
    go_wp2_with fail
    obtain ⟨t799, HA800, H⟩ := bind_some H
    refine (pack_mask.calls a793 a794 t799 _ ⟨HGl0.out.pass (l := []) HS.out⟩ ⟨Sep.start _⟩ HA800).mono ?_
    rintro e_ w801 ⟨rfl, hS⟩
    replace HS : Aside0 (Sep (fps []) w [] w801) := ⟨HS.out.call hS⟩
    clear hS
    by_cases c802 : 0 ≤ (IntKind.u64.wrap (a793))
    · have H := if_yes c802 H
      have c802b0 : decide (0 ≤ (IntKind.u64.wrap (a793))) = true := decide_eq_true c802
      skip
      go_wp2_with fail
      clear c802
      go_ret
      rw [← some_eq H]
      exact ⟨(by first | rfl | (simp [IntKind.wrap_u32]; done)), HS.out⟩
    · have H := if_no c802 H
      have c802b0 : decide (0 ≤ (IntKind.u64.wrap (a793))) = false := decide_eq_false c802
      exact (none_no H).elim
  · have H := if_no c798 H
    have c798b0 : t795 = false := by simpa using c798
    have c798b1 : (!t795) = true := by rw [c798b0]; rfl
    try rw [c798b1]
    clear c798
    go_wp2_with fail
    go_ret
    rw [← some_eq H]
    exact ⟨(by first | rfl | (simp [IntKind.wrap_u32]; done)), HS.out⟩

set_option maxHeartbeats 30000000 in
set_option maxRecDepth 100000 in
theorem tag_Unpack_1.calls (a786 : Int) (a787 : Int) (a790 : Int) (g789 : Nat) (r : Int) (w : World)  (HGl0 : Aside0 (Gl 0 #[.int .i64 0, .int .i64 0, .int .i64 0, .int .i64 0, .int .i64 0] (fps [b6 g789 a790]) w)) (HS : Aside0 (Sep (fps [b6 g789 a790]) w [b6 g789 a790] w)) (H : Aside0 (tag_Unpack_1.f a786 a787 a790 = some r)) :
    Calls Tryd.prog 74 #[.int .i64 a786, .int .i64 a787, .pointer (some ⟨g789, 0, none⟩)] w fun e w' => e = .returned (.int .i64 r) ∧ Sep (fps [b6 g789 a790]) w [b6 g789 a790] w' := by
  generalize (fps [b6 g789 a790]) = FF at HS HGl0 ⊢
  unfold tag_Unpack_1.f at H
  go_enter Tryd.func74, Tryd.ntmps74
  have hc791 : w.cell? ⟨g789, 0, none⟩ = some (.int .u32 a790) := blk_cellv (HS.out.at0) 0 rfl
  go_wp2_with fail
  clear hc791
  obtain ⟨t803, HA804, H⟩ := bind_some H
  refine (pack_Get.calls a790 a786 a787 t803 _ ⟨HGl0.out.pass (l := []) HS.out⟩ ⟨Sep.start _⟩ HA804).mono ?_
  rintro e_ w805 ⟨rfl, hS⟩
  replace HS : Aside0 (Sep FF w [b6 g789 a790] w805) := ⟨HS.out.call hS⟩
  clear hS
  go_wp2_with fail
  go_ret
  rw [← some_eq H]
  exact ⟨(by first | rfl | (simp [IntKind.wrap_u32]; done)), HS.out⟩

set_option maxHeartbeats 30000000 in
set_option maxRecDepth 100000 in
theorem tag_Unpack.calls (a779 : Int) (r : Int × Int × Int × Int × Int × Int × Int) (w : World)  (HGl0 : Aside0 (Gl 0 #[.int .i64 0, .int .i64 0, .int .i64 0, .int .i64 0, .int .i64 0] (fps []) w)) (HS : Aside0 (Sep (fps []) w [] w)) (H : Aside0 (tag_Unpack.f a779 = some r)) :
    Calls Tryd.prog 19 #[.int .u32 a779] w fun e w' => e = .returned (.agg #[.int .i64 r.1, .int .i64 r.2.1, .int .i64 r.2.2.1, .int .i64 r.2.2.2.1, .int .i64 r.2.2.2.2.1, .int .i64 r.2.2.2.2.2.1, .int .i64 r.2.2.2.2.2.2]) ∧ Sep (fps []) w [] w' := by
  unfold tag_Unpack.f at H
  go_enter Tryd.func19, Tryd.ntmps19
  go_wp2_with (first | ((with_reducible refine gate_dst (N := 1) rfl ?_); refine box_on ?hg (N := 1) ?hd (cs := #[.int .u32 a779]) (t := 33) ?hr ?_; (case hd => rfl); (case hg => rfl); (case hr => first | (go_simp; done) | (go_simp; rfl)); intro g780 hg w781 hbox hb; replace HS : Aside0 (Sep (fps []) w [b6 g780 a779] w781) := ⟨HS.out.box hg hbox hb⟩; clear hg hbox hb) | ((with_reducible refine gate_dst (N := 2) rfl ?_); refine box_on ?hg (N := 2) ?hd (cs := #[.int .i64 0, .int .i64 0, .int .i64 0, .int .i64 0, .int .i64 0, .int .i64 0, .int .i64 0]) (t := 32) ?hr ?_; (case hd => rfl); (case hg => rfl); (case hr => first | (go_simp; done) | (go_simp; rfl)); intro g783 hg w784 hbox hb; replace HS : Aside0 (Sep (fps []) w [b6 g780 a779, b4 g783 0 0 0 0 0 0 0] w784) := ⟨HS.out.box hg hbox hb⟩; clear hg hbox hb))
  obtain ⟨t806, HA807, H⟩ := bind_some H
  refine (tag_Unpack_1.calls 0 2 a779 g780 t806 _ ⟨HGl0.out.pass HS.out⟩ ⟨HS.out.begin⟩ HA807).mono ?_
  rintro e_ w808 ⟨rfl, hS⟩
  replace HS : Aside0 (Sep (fps []) w [b6 g780 a779, b4 g783 0 0 0 0 0 0 0] w808) := ⟨HS.out.call hS⟩
  clear hS
  go_wp2_with fail
  obtain ⟨t809, HA810, H⟩ := bind_some H
  refine (tag_Unpack_1.calls 2 1 a779 g780 t809 _ ⟨HGl0.out.pass HS.out⟩ ⟨HS.out.begin⟩ HA810).mono ?_
  rintro e_ w811 ⟨rfl, hS⟩
  replace HS : Aside0 (Sep (fps []) w [b6 g780 a779, b4 g783 0 0 0 0 0 0 0] w811) := ⟨HS.out.call hS⟩
  clear hS
  go_wp2_with fail
  obtain ⟨t812, HA813, H⟩ := bind_some H
  refine (tag_Unpack_1.calls 3 1 a779 g780 t812 _ ⟨HGl0.out.pass HS.out⟩ ⟨HS.out.begin⟩ HA813).mono ?_
  rintro e_ w814 ⟨rfl, hS⟩
  replace HS : Aside0 (Sep (fps []) w [b6 g780 a779, b4 g783 0 0 0 0 0 0 0] w814) := ⟨HS.out.call hS⟩
  clear hS
  go_wp2_with fail
  obtain ⟨t815, HA816, H⟩ := bind_some H
  refine (tag_Unpack_1.calls 4 1 a779 g780 t815 _ ⟨HGl0.out.pass HS.out⟩ ⟨HS.out.begin⟩ HA816).mono ?_
  rintro e_ w817 ⟨rfl, hS⟩
  replace HS : Aside0 (Sep (fps []) w [b6 g780 a779, b4 g783 0 0 0 0 0 0 0] w817) := ⟨HS.out.call hS⟩
  clear hS
  go_wp2_with fail
  obtain ⟨t818, HA819, H⟩ := bind_some H
  refine (tag_Unpack_1.calls 5 1 a779 g780 t818 _ ⟨HGl0.out.pass HS.out⟩ ⟨HS.out.begin⟩ HA819).mono ?_
  rintro e_ w820 ⟨rfl, hS⟩
  replace HS : Aside0 (Sep (fps []) w [b6 g780 a779, b4 g783 0 0 0 0 0 0 0] w820) := ⟨HS.out.call hS⟩
  clear hS
  go_wp2_with fail
  obtain ⟨t821, HA822, H⟩ := bind_some H
  refine (tag_Unpack_1.calls 6 1 a779 g780 t821 _ ⟨HGl0.out.pass HS.out⟩ ⟨HS.out.begin⟩ HA822).mono ?_
  rintro e_ w823 ⟨rfl, hS⟩
  replace HS : Aside0 (Sep (fps []) w [b6 g780 a779, b4 g783 0 0 0 0 0 0 0] w823) := ⟨HS.out.call hS⟩
  clear hS
  go_wp2_with fail
  obtain ⟨t824, HA825, H⟩ := bind_some H
  refine (tag_Unpack_1.calls 8 24 a779 g780 t824 _ ⟨HGl0.out.pass HS.out⟩ ⟨HS.out.begin⟩ HA825).mono ?_
  rintro e_ w826 ⟨rfl, hS⟩
  replace HS : Aside0 (Sep (fps []) w [b6 g780 a779, b4 g783 0 0 0 0 0 0 0] w826) := ⟨HS.out.call hS⟩
  clear hS
  have hc827 : w826.cell? ⟨g783, 0, none⟩ = some (.int .i64 0) := blk_cellv (HS.out.at1) 0 rfl
  have hz828 : w826.frozen? ⟨g783, 0, none⟩ = false := blk_fz (HS.out.at1) 0
  have hc829 : w826.cell? ⟨g783, 1, none⟩ = some (.int .i64 0) := blk_cellv (HS.out.at1) 1 rfl
  have hz830 : w826.frozen? ⟨g783, 1, none⟩ = false := blk_fz (HS.out.at1) 1
  have hc831 : w826.cell? ⟨g783, 2, none⟩ = some (.int .i64 0) := blk_cellv (HS.out.at1) 2 rfl
  have hz832 : w826.frozen? ⟨g783, 2, none⟩ = false := blk_fz (HS.out.at1) 2
  have hc833 : w826.cell? ⟨g783, 3, none⟩ = some (.int .i64 0) := blk_cellv (HS.out.at1) 3 rfl
  have hz834 : w826.frozen? ⟨g783, 3, none⟩ = false := blk_fz (HS.out.at1) 3
  have hc835 : w826.cell? ⟨g783, 4, none⟩ = some (.int .i64 0) := blk_cellv (HS.out.at1) 4 rfl
  have hz836 : w826.frozen? ⟨g783, 4, none⟩ = false := blk_fz (HS.out.at1) 4
  have hc837 : w826.cell? ⟨g783, 5, none⟩ = some (.int .i64 0) := blk_cellv (HS.out.at1) 5 rfl
  have hz838 : w826.frozen? ⟨g783, 5, none⟩ = false := blk_fz (HS.out.at1) 5
  have hc839 : w826.cell? ⟨g783, 6, none⟩ = some (.int .i64 0) := blk_cellv (HS.out.at1) 6 rfl
  have hz840 : w826.frozen? ⟨g783, 6, none⟩ = false := blk_fz (HS.out.at1) 6
  go_wp2_with (first | ((with_reducible refine gate_store (t := 32) (p := 2) rfl ?_); refine store_event (w1 := (World.setCell (World.setCell (World.setCell (World.setCell (World.setCell (World.setCell (World.setCell w826 ⟨g783, 0, none⟩ (.int .i64 t806)) ⟨g783, 1, none⟩ (.int .i64 t809)) ⟨g783, 2, none⟩ (.int .i64 t812)) ⟨g783, 3, none⟩ (.int .i64 t815)) ⟨g783, 4, none⟩ (.int .i64 t818)) ⟨g783, 5, none⟩ (.int .i64 t821)) ⟨g783, 6, none⟩ (.int .i64 t824))) rfl (t := 32) (p := 2) rfl rfl ?hr ?_; (case hr => first | (go_simp; done) | (go_simp; rfl)); intro w841 hst; clear hc827 hz828 hc829 hz830 hc831 hz832 hc833 hz834 hc835 hz836 hc837 hz838 hc839 hz840; replace HS : Aside0 (Sep (fps []) w [b6 g780 a779, b4 g783 t806 t809 t812 t815 t818 t821 t824] w841) := ⟨by rw [hst]; exact HS.out.setAll (l1 := [b6 g780 a779]) (l2 := []) [.int .i64 t806, .int .i64 t809, .int .i64 t812, .int .i64 t815, .int .i64 t818, .int .i64 t821, .int .i64 t824] rfl⟩; clear hst; replace HS : Aside0 (Sep (fps []) w [b4 g783 t806 t809 t812 t815 t818 t821 t824] w841) := ⟨HS.out.sub (.cons _ (.cons_cons _ .slnil))⟩))
  have hc842 : w841.cell? ⟨g783, 0, none⟩ = some (.int .i64 t806) := blk_cellv (HS.out.at0) 0 rfl
  have hc843 : w841.cell? ⟨g783, 1, none⟩ = some (.int .i64 t809) := blk_cellv (HS.out.at0) 1 rfl
  have hc844 : w841.cell? ⟨g783, 2, none⟩ = some (.int .i64 t812) := blk_cellv (HS.out.at0) 2 rfl
  have hc845 : w841.cell? ⟨g783, 3, none⟩ = some (.int .i64 t815) := blk_cellv (HS.out.at0) 3 rfl
  have hc846 : w841.cell? ⟨g783, 4, none⟩ = some (.int .i64 t818) := blk_cellv (HS.out.at0) 4 rfl
  have hc847 : w841.cell? ⟨g783, 5, none⟩ = some (.int .i64 t821) := blk_cellv (HS.out.at0) 5 rfl
  have hc848 : w841.cell? ⟨g783, 6, none⟩ = some (.int .i64 t824) := blk_cellv (HS.out.at0) 6 rfl
  refine bodyPost_ret (v := .agg #[.int .i64 t806, .int .i64 t809, .int .i64 t812, .int .i64 t815, .int .i64 t818, .int .i64 t821, .int .i64 t824]) (by simp [results, Tryd.results19, go_sem, hc842, hc843, hc844, hc845, hc846, hc847, hc848]) rfl ?_
  rw [← some_eq H]
  exact ⟨(by first | rfl | (simp [IntKind.wrap_u32]; done)), HS.out.sub (.cons _ .slnil)⟩

set_option maxHeartbeats 30000000 in
set_option maxRecDepth 100000 in
theorem obj_isHead.calls (a853 : Int) (r : Bool) (w : World)  (HGl0 : Aside0 (Gl 0 #[.int .i64 0, .int .i64 0, .int .i64 0, .int .i64 0, .int .i64 0] (fps []) w)) (HS : Aside0 (Sep (fps []) w [] w)) (H : Aside0 (obj_isHead.f a853 = some r)) :
    Calls Tryd.prog 101 #[.int .i64 a853] w fun e w' => e = .returned (.bool r) ∧ Sep (fps []) w [] w' := by
  unfold obj_isHead.f at H
  go_enter Tryd.func101, Tryd.ntmps101
  by_cases c854 : a853 = 1
  · have H := if_yes c854 H
    have c854b0 : (a853 == 1) = true := beq_iff_eq.mpr c854
    have c854b1 : (a853 != 1) = false := bne_eq_false_iff_eq.mpr c854
    clear c854
    go_wp2_with fail
    go_ret
    rw [← some_eq H]
    exact ⟨(by first | rfl | (simp [IntKind.wrap_u32]; done)), HS.out⟩
  · have H := if_no c854 H
    have c854b0 : (a853 == 1) = false := beq_eq_false_iff_ne.mpr c854
    have c854b1 : (a853 != 1) = true := bne_iff_ne.mpr c854
    clear c854
    go_wp2_with fail
    go_ret
    rw [← some_eq H]
    exact ⟨(by first | rfl | (simp [IntKind.wrap_u32]; done)), HS.out⟩

set_option maxHeartbeats 30000000 in
set_option maxRecDepth 100000 in
theorem obj_Is_nil.calls (a765 : Int) (r : Bool) (w : World)  (HGl0 : Aside0 (Gl 0 #[.int .i64 0, .int .i64 0, .int .i64 0, .int .i64 0, .int .i64 0] (fps []) w)) (HS : Aside0 (Sep (fps []) w [] w)) (H : Aside0 (obj_Is_nil.f a765 = some r)) :
    Calls Tryd.prog 48 #[.pointer none, .int .i64 a765] w fun e w' => e = .returned (.bool r) ∧ Sep (fps []) w [] w' := by
  unfold obj_Is_nil.f at H
  go_enter Tryd.func48, Tryd.ntmps48
  go_wp2_with fail
  obtain ⟨t772, HA773, H⟩ := bind_some H
  refine (obj_in_nil.calls a765 t772 _ ⟨HGl0.out.pass (l := []) HS.out⟩ ⟨Sep.start _⟩ HA773).mono ?_
  rintro e_ w774 ⟨rfl, hS⟩
  replace HS : Aside0 (Sep (fps []) w [] w774) := ⟨HS.out.call hS⟩
  clear hS
  by_cases c775 : t772 = true
  · have H := if_yes c775 H
    have c775b0 : t772 = true := c775
    have c775b1 : (!t772) = false := by rw [c775b0]; rfl
    clear c775
    go_wp2_with fail
    obtain ⟨t776, HA777, H⟩ := bind_some H
    refine (ground_Ground_Word_nil.calls (wrap64 (a765 - 1)) 0 t776 _ ⟨HGl0.out.pass (l := []) HS.out⟩ ⟨Sep.start _⟩ HA777).mono ?_
    rintro e_ w778 ⟨rfl, hS⟩
    replace HS : Aside0 (Sep (fps []) w [] w778) := ⟨HS.out.call hS⟩
    clear hS
    go_wp2_with fail
    obtain ⟨t849, HA850, H⟩ := bind_some H
    refine (tag_Unpack.calls t776 t849 _ ⟨HGl0.out.pass (l := []) HS.out⟩ ⟨Sep.start _⟩ HA850).mono ?_
    rintro e_ w851 ⟨rfl, hS⟩
    replace HS : Aside0 (Sep (fps []) w [] w851) := ⟨HS.out.call hS⟩
    clear hS
    have fl852 : ∀ w, (Instr.field 32 (.agg #[.int .i64 t849.1, .int .i64 t849.2.1, .int .i64 t849.2.2.1, .int .i64 t849.2.2.2.1, .int .i64 t849.2.2.2.2.1, .int .i64 t849.2.2.2.2.2.1, .int .i64 t849.2.2.2.2.2.2]) 0).run Tryd.prog w = .ok (.int .i64 t849.1) w := fun _ => by kernel_rfl
    go_wp2_with fail
    clear fl852
    obtain ⟨t855, HA856, H⟩ := bind_some H
    refine (obj_isHead.calls t849.1 t855 _ ⟨HGl0.out.pass (l := []) HS.out⟩ ⟨Sep.start _⟩ HA856).mono ?_
    rintro e_ w857 ⟨rfl, hS⟩
    replace HS : Aside0 (Sep (fps []) w [] w857) := ⟨HS.out.call hS⟩
    clear hS
    go_wp2_with fail
    go_ret
    rw [← some_eq H]
    exact ⟨(by first | rfl | (simp [IntKind.wrap_u32]; done)), HS.out⟩
  · have H := if_no c775 H
    have c775b0 : t772 = false := by simpa using c775
    have c775b1 : (!t772) = true := by rw [c775b0]; rfl
    clear c775
    go_wp2_with fail
    go_ret
    rw [← some_eq H]
    exact ⟨(by first | rfl | (simp [IntKind.wrap_u32]; done)), HS.out⟩
end Go.Proofs.YtobeonkddamnoaaDoor.C
